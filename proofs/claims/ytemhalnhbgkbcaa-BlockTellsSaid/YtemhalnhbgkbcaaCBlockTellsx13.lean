/- The law BlockTells for every input: texts of ours, put together (part 14 of 16). No further condition. -/
import Derived.Test.YtemhalnhbgkbcaaCBlockTellsx2
import Derived.Test.YtemhalnhbgkbcaaCBlockTellsx6
import Derived.Test.YtemhalnhbgkbcaaCBlockTellsx11
import Derived.Outline
import Derived.Test.YtemhalnhbgkbcaaCBlockTellsx12
import Derived.Test.YtemhalnhbgkbcaaCBlockTellsx4
import Derived.ChangeSame
import Derived.WideShapes
import Derived.OpenShut
import Derived.Deep.SlicePairs
import Derived.Deep.Slices
import Derived.Test.YtemhalnhbgkbcaaCBlockTellsx3
import Derived.Test.YtemhalnhbgkbcaaCBlockTellsx5
import Derived.Test.YtemhalnhbgkbcaaCBlockTellsw0
import Derived.Test.YtemhalnhbgkbcaaCBlockTellsx7
import Derived.Test.YtemhalnhbgkbcaaCBlockTellsx8
set_option linter.unusedVariables false
set_option linter.unusedSimpArgs false
open Go.RowKit Go.Proofs.YtemhalnhbgkbcaaW.PrintWords Go.Proofs.YtemhalnhbgkbcaaW.PrintLast Go.Proofs.YtemhalnhbgkbcaaW.PrintMore Go.Proofs.Ytemhalnhbgkbcaa.Z
section
namespace Go.Proofs.Ytemhalnhbgkbcaa.V
set_option maxHeartbeats 16000000 in
set_option maxRecDepth 100000 in
theorem GK (b : Bk) (hg : RG b) (n : Int) (hn : n < 9223372036854775808) (a : kz) (e7 : a.f0.size ≤ 9223372036854775807) (fE : a.f1.size ≤ 9223372036854775807) (l : List Int) (hu : ∀ x ∈ l, 0 ≤ x ∧ x < 4294967296) (hlm : l.length ≤ 9223372036854775807) (Al : Option Addr) (cl : Nat) (hcl : l.length ≤ cl) (aff : ByteArray) (hza : aff.size ≤ 9223372036854775807) (he : a.f0.toList = []) (v v2 : Value) (w : World) (base : Nat) (hbase : base ≤ w.heap.size) (hO : ea w base v b) (hR : eG w base v2 b) (hC : Kd.C (Kd.int .u32) w Al l.length l) :
  Calls Try.prog 47 #[v, v2, .agg #[.int .i64 5, .int .i64 n, .string a.f0, .string a.f1, .slice Al l.length cl, .string aff]] w fun e w' => ∃ v1 v2 b', e = .returned (.tuple #[v1, v2, .bool true]) ∧ RG b' ∧ ea w' base v1 b' ∧ eG w' base v2 b' ∧ Below w.heap.size w w' := by
 obtain ⟨hl, vf, va, rfl, hf, ha⟩ := hO
 obtain ⟨vs, vp, vm, rfl, hs, hp, hm⟩ := hR
 obtain ⟨Af, cf, rfl⟩ := Kd.R_slice hf
 obtain ⟨Aa, ca, rfl⟩ := Kd.R_slice ha
 obtain ⟨As, cs, rfl⟩ := Kd.R_slice hs
 obtain ⟨Ap, cp, rfl⟩ := Kd.R_slice hp
 obtain ⟨M, hM⟩ : ∃ M, M = b.attrs.map vc := ⟨_, rfl⟩
 rw [← hM] at hm
 obtain ⟨Am, cm, rfl⟩ := Kd.R_slice hm
 have HL := ak hl
 have HM := ak hM
 have bw := ak hf
 have dY := ak ha
 have aX := ak hs
 have dT := ak hp
 have bD := ak hm
 have HG := ak hg
 have ae := ak (Below.refl w.heap.size w)
 have HBASE := ak hbase
 have HLB := ak (cg (aZ b.addr b.aff b.slots (.slice Af b.free.length cf) (.slice Aa b.attrs.length ca)) (ag _ _ _ _ _ HL.out))
 obtain ⟨lt, hlt⟩ : ∃ lt, lt = l.take 80 := ⟨_, rfl⟩
 have hut : ∀ x ∈ lt, 0 ≤ x ∧ x < 4294967296 := fun x hx => hu x (by rw [hlt] at hx; exact List.mem_of_mem_take hx)
 have hll : lt.length = min 80 l.length := by rw [hlt, List.length_take]
 have HCL := ak hcl
 have HLL := ak hll
 have HC := ak hC
 have HCT := ak (fun W (I : Below w.heap.size w W) => (show Kd.C (Kd.int .u32) W Al lt.length lt by
  rcases Nat.lt_or_ge 80 l.length with h | h
  ·have h_ := Kd.C_take (m := 80) (Kd.C_below hC I) (by omega)
   rw [← hlt] at h_
   exact h_
  ·have h_ := Kd.C_below hC I
   have e : lt = l := by rw [hlt, List.take_of_length_le h]
   rw [e]
   exact h_))
 have q0 : (a.f0.toList == []) = true := by rw [he]; rfl
 have q1 : a.f0.toList.isEmpty = true := by rw [he]; rfl
 have q2 : (a.f0.toList = []) = True := eq_true he
 clear he
 clear hl hM hf ha hs hp hm hbase hC hu hut hll hcl hlt hg
 go_enter Try.func47, Try.ntmps47
 go_upto_if 37 with (first
  | (refine aE rfl 57 (.tmp 0) rfl _ rfl ?_; intro gX W1 J aa I; have bQ := ge ae J; have ai := ak (ae.out.trans (I.mono ae.out.size)); have bp := mv I bw; have dp := mv I dY; have bd := mv I aX; have cZ := mv I dT; have bH := mv I bD; have ah := ak (aa); clear J aa I ae bw dY aX dT bD)
  | (refine aE rfl 62 (.tmp 1) rfl _ rfl ?_; intro gY W2 J aa I; have iX := ge ai J; have fB := ne ah J; have av := mv I ai; have bT := mv I bp; have dF := mv I dp; have bC := mv I bd; have dd := mv I cZ; have b9 := mv I bH; have au := mv I ah; have b8 := ak (aa); clear J aa I ai bp dp bd cZ bH ah)
  | (refine aE rfl 79 (.tmp 2) rfl _ rfl ?_; intro gT W3 J aa I; have j9 := ge av J; have gW := ne au J; have ir := ne b8 J; have aD := mv I av; have cj := mv I bT; have dQ := mv I dF; have bU := mv I bC; have dA := mv I dd; have cN := mv I b9; have aA := mv I au; have b7 := mv I b8; have dK := ak (aa); clear J aa I av bT dF bC dd b9 au b8)
  | (refine aw (some 6) rfl rfl 57 rfl a9 bP ?_; intro gZ W4 J aa I; have bN := ge aD J; have aG := ne aA J; have fM := ne b7 J; have jC := ne dK J; have aY := mv I aD; have ch := mv I cj; have dE := mv I dQ; have cx := mv I bU; have dX := mv I dA; have cR := mv I cN; have aV := mv I aA; have bZ := mv I b7; have dP := mv I dK; have a8 := ak (aa); clear J aa I aD cj dQ bU dA cN aA b7 dK)
  | (refine aw (some 7) rfl rfl 62 rfl dG (fun _ => by kernel_rfl) ?_; intro gU W5 J aa I; have fu := ge aY J; have gC := ne aV J; have dw := ne bZ J; have jD := ne dP J; have gB := ne a8 J; have bf := mv I aY; have cb := mv I ch; have de := mv I dE; have cJ := mv I cx; have ee := mv I dX; have cG := mv I cR; have bb := mv I aV; have cB := mv I bZ; have bx := mv I dP; have bu := mv I a8; have eH := ak (aa); have jA := bx.out.cell 0 _ rfl; have gR := bx.out.cell 1 _ rfl; have jz := bx.out.cell 2 _ rfl; have jy := bx.out.cell 3 _ rfl; have jx := bx.out.cell 4 _ rfl; have gv := bx.out.cell 5 _ rfl; clear J aa I aY ch dE cx dX cR aV bZ dP a8))
 go_cut [9] from 38 to 39 (fun s9 wx => s9 = .slice Al lt.length cl ∧ W5 = wx)
 case first =>
  rcases Nat.lt_or_ge 80 l.length with k8 | k8
  ·have kZ : decide ((80 : Int) < (l.length : Int)) = true := by simp; omega
   have tJ : (((0 : Int) ≤ 80 ∧ (80 : Int) ≤ (cl : Int)) = True) := eq_true ⟨by omega, by have := HCL.out; omega⟩
   have tI : (((80 : Int) ≤ (cl : Int)) = True) := eq_true (by have := HCL.out; omega)
   go_wp2_with fail
   go_meet
   exact ⟨by rw [HLL.out, Nat.min_eq_left (by omega)], rfl⟩
  ·have kZ : decide ((80 : Int) < (l.length : Int)) = false := by simp; omega
   go_wp2_with fail
   go_meet
   exact ⟨by rw [HLL.out, Nat.min_eq_right (by omega)], rfl⟩
 case rest =>
 obtain ⟨fY, fX⟩ := hcut
 subst fY
 subst fX
 go_wp2_with fail
 have aj : Below W5.heap.size W5 W5.drew := bo (Below.refl _ _)
 have bG := mv aj bf; have cQ := mv aj cb; have dt := mv aj de; have cY := mv aj cJ; have ef := mv aj ee; have dD := mv aj cG; have bh := mv aj bb; have cX := mv aj cB; have fh := mv aj bx; have bS := mv aj bu; have dW := mv aj eH
 clear aj bf cb de cJ ee cG bb cB bx bu eH jA gR jz jy jx gv
 have hB := bG
 have hF := cQ
 have hG := dt
 have hS := cY
 have hP := ef
 have hM := dD
 have hX := bh
 have hY := cX
 have hT := fh
 have hZ := bS
 have hU := dW
 clear bG cQ dt cY ef dD bh cX fh bS dW
 refine cW (n := 5) (S := fun w' => aH w' gX (aZ b.addr b.aff b.slots (.slice Af b.free.length cf) (.slice Aa b.attrs.length ca)) 57 ∧ aH w' gY (da b.addr b.aff (.slice As b.slots.length cs) (.slice Ap b.free.length cp) (.slice Am M.length cm)) 62) (ds := []) #[false, false, false, false, false] (by kernel_rfl) rfl rfl ⟨hX.out, hY.out⟩ (fun hHeld => ?_); refine bK lD.tab37 lD.bits37 (fun ab bj => ?_)
 refine tk 0 ab.out bj.out hHeld ?_ (hv := by exact fun _ aU => aI 57 (.tmp 3) rfl gX rfl _ _ _ aU.1 Try.underlying57 rfl HLB.out)
 refine tk 1 ab.out bj.out hHeld ?_ (hv := by exact fun _ aU => aI 62 (.tmp 4) rfl gY rfl _ _ _ aU.2 Try.underlying62 rfl (by kernel_rfl))
 refine ow 2 ab.out (fun K hK => ?_)
 refine bA (by rfl) rfl 57 (.tmp 6) (.tmp 235) rfl gZ (aZ b.addr b.aff b.slots (.slice Af b.free.length cf) (.slice Aa b.attrs.length ca)) rfl rfl 57 _ hZ.out 68 (by kernel_rfl) (ag _ _ _ _ _ HL.out) rfl (b4 _ _ _ _ _ rfl rfl) ?_
 intro V2 aa J; replace hB := gb hB bN J; replace hF := gr hF hZ J; replace hG := gr hG hZ J; replace hS := gr hS hZ J; replace hP := gr hP hZ J; replace hM := gr hM hZ J; replace hX := gn hX aG J; replace hY := gx hY hZ J; replace hT := gx hT hZ J; replace hU := gx hU hZ J; replace hZ := ak (aa); clear aa J
 refine hK.out _ _ ⟨hX.out, hY.out⟩ (fun hHeld => ?_)
 clear hK K
 refine ow 3 ab.out (fun K hK => ?_)
 refine bA (by rfl) rfl 62 (.tmp 7) (.tmp 236) rfl gU (da b.addr b.aff (.slice As b.slots.length cs) (.slice Ap b.free.length cp) (.slice Am M.length cm)) rfl rfl 62 _ hU.out 5 (by kernel_rfl) rfl rfl (dJ _ _ rfl rfl rfl) ?_
 intro V3 aa J; replace hB := gb hB fu J; replace hF := gr hF hU J; replace hG := gr hG hU J; replace hS := gr hS hU J; replace hP := gr hP hU J; replace hM := gr hM hU J; replace hX := gx hX hU J; replace hY := gn hY dw J; replace hT := gx hT hU J; replace hZ := gx hZ hU J; replace hU := ak (aa); clear aa J
 refine hK.out _ _ ⟨hX.out, hY.out⟩ (fun hHeld => ?_)
 clear hK K
 refine pu 4 ab.out ?_
 refine dn ab.out ?_
 clear hHeld
 go_wp2_with fail
 refine bodyPost_ret (eK rfl _ _ _ gZ gU 57 62 _ _ _ _ rfl hZ.out rfl Try.underlying57 (by first | exact HLB.out | exact HLN _ _ _ _) rfl hU.out rfl Try.underlying62 (by kernel_rfl)) rfl ⟨_, _, b, rfl, ?_, ?_, ?_, hB.out⟩
 ·exact HG.out
 ·exact ⟨HL.out, _, _, rfl, hF.out, hG.out⟩
 ·exact ⟨_, _, _, rfl, hS.out, hP.out, by rw [← HM.out]; exact hM.out⟩
set_option maxHeartbeats 16000000 in
set_option maxRecDepth 100000 in
theorem Kv (b : Bk) (hg : RG b) (n : Int) (hn : n < 9223372036854775808) (a : kz) (e7 : a.f0.size ≤ 9223372036854775807) (fE : a.f1.size ≤ 9223372036854775807) (l : List Int) (hu : ∀ x ∈ l, 0 ≤ x ∧ x < 4294967296) (hlm : l.length ≤ 9223372036854775807) (Al : Option Addr) (cl : Nat) (hcl : l.length ≤ cl) (aff : ByteArray) (hza : aff.size ≤ 9223372036854775807) (he : a.f0.toList ≠ []) (v v2 : Value) (w : World) (base : Nat) (hbase : base ≤ w.heap.size) (hO : ea w base v b) (hR : eG w base v2 b) (hC : Kd.C (Kd.int .u32) w Al l.length l) :
  Calls Try.prog 47 #[v, v2, .agg #[.int .i64 5, .int .i64 n, .string a.f0, .string a.f1, .slice Al l.length cl, .string aff]] w fun e w' => ∃ v1 v2 b', e = .returned (.tuple #[v1, v2, .bool true]) ∧ RG b' ∧ ea w' base v1 b' ∧ eG w' base v2 b' ∧ Below w.heap.size w w' := by
 obtain ⟨hl, vf, va, rfl, hf, ha⟩ := hO
 obtain ⟨vs, vp, vm, rfl, hs, hp, hm⟩ := hR
 obtain ⟨Af, cf, rfl⟩ := Kd.R_slice hf
 obtain ⟨Aa, ca, rfl⟩ := Kd.R_slice ha
 obtain ⟨As, cs, rfl⟩ := Kd.R_slice hs
 obtain ⟨Ap, cp, rfl⟩ := Kd.R_slice hp
 obtain ⟨M, hM⟩ : ∃ M, M = b.attrs.map vc := ⟨_, rfl⟩
 rw [← hM] at hm
 obtain ⟨Am, cm, rfl⟩ := Kd.R_slice hm
 have HL := ak hl
 have HM := ak hM
 have bw := ak hf
 have dY := ak ha
 have aX := ak hs
 have dT := ak hp
 have bD := ak hm
 have HG := ak hg
 have ae := ak (Below.refl w.heap.size w)
 have HBASE := ak hbase
 have HLB := ak (cg (aZ b.addr b.aff b.slots (.slice Af b.free.length cf) (.slice Aa b.attrs.length ca)) (ag _ _ _ _ _ HL.out))
 obtain ⟨lt, hlt⟩ : ∃ lt, lt = l.take 80 := ⟨_, rfl⟩
 have hut : ∀ x ∈ lt, 0 ≤ x ∧ x < 4294967296 := fun x hx => hu x (by rw [hlt] at hx; exact List.mem_of_mem_take hx)
 have hll : lt.length = min 80 l.length := by rw [hlt, List.length_take]
 have HCL := ak hcl
 have HLL := ak hll
 have HC := ak hC
 have HCT := ak (fun W (I : Below w.heap.size w W) => (show Kd.C (Kd.int .u32) W Al lt.length lt by
  rcases Nat.lt_or_ge 80 l.length with h | h
  ·have h_ := Kd.C_take (m := 80) (Kd.C_below hC I) (by omega)
   rw [← hlt] at h_
   exact h_
  ·have h_ := Kd.C_below hC I
   have e : lt = l := by rw [hlt, List.take_of_length_le h]
   rw [e]
   exact h_))
 have hp := iw hg.right
 have hpq : ((fun x => x.f0.toList == a.f0.toList) : At → Bool) = pG a.f0 ⟨#[]⟩ := by
  funext x
  unfold pG
  have h1 : (a.f0.toList == (⟨#[]⟩ : ByteArray).toList) = false := by simpa using he
  have h2 : ((⟨#[]⟩ : ByteArray).toList == (⟨#[]⟩ : ByteArray).toList) = true := beq_self_eq_true _
  rw [h1, h2]
  simp
 have hbl := fun v w h => zB b hg.ok a.f0 hg.right v w h
 have hgv := fun v w h => sZ b hg.ok hp hl a.f0 ⟨#[]⟩ v w h
 rw [hpq] at hbl
 have hur : ∀ x ∈ dk b (pG a.f0 ⟨#[]⟩) 64, 0 ≤ x ∧ x < 4294967296 := nv hg.ok hp.first _
 have hulen := fD b (pG a.f0 ⟨#[]⟩) 64
 obtain ⟨ul, hul⟩ : ∃ ul, ul = dk b (pG a.f0 ⟨#[]⟩) 64 := ⟨_, rfl⟩
 rw [← hul] at hbl hgv hur hulen
 have hrg := hg.rel ul
 have hrl := fun Al cl v w h hC => pX b hg.ok hp hl ul hur (by omega) Al cl v w h hC
 rw [vV hg] at hrl
 obtain ⟨nb, hnb⟩ : ∃ nb, nb = lC b ul := ⟨_, rfl⟩
 obtain ⟨oo, hoo⟩ : ∃ oo, oo = (relL b ul).2 := ⟨_, rfl⟩
 rw [← hnb, ← hoo] at hbl hrl
 rw [← hnb] at hrg
 have hol : oo.length ≤ 1000 := by rw [hoo]; have h_ := (sD hg.ok hp hl ul ul.length (Nat.le_refl _)).ol; rw [List.take_length] at h_; omega
 have HRG := ak hrg
 have HNL := ak hrg.l64
 have HOL := ak hol
 have HLN := fun A8 c8 A9 c9 => cg (aZ nb.addr nb.aff nb.slots (.slice A8 nb.free.length c8) (.slice A9 nb.attrs.length c9)) (ag _ _ _ _ _ HNL.out)
 have q0 : (a.f0.toList == []) = false := by simpa using he
 have q1 : a.f0.toList.isEmpty = false := by simpa using he
 have q2 : (a.f0.toList = []) = False := eq_false he
 have HBL := ak hbl
 have HRL := ak hrl
 have HGV := ak hgv
 clear hrg hbl hrl hgv hol hnb hoo hp hpq hur hul hulen he
 clear hl hM hf ha hs hp hm hbase hC hu hut hll hcl hlt hg
 go_enter Try.func47, Try.ntmps47
 go_upto_if 37 with (first
  | (refine aE rfl 57 (.tmp 0) rfl _ rfl ?_; intro gX W1 J aa I; have bQ := ge ae J; have ai := ak (ae.out.trans (I.mono ae.out.size)); have bp := mv I bw; have dp := mv I dY; have bd := mv I aX; have cZ := mv I dT; have bH := mv I bD; have ah := ak (aa); clear J aa I ae bw dY aX dT bD)
  | (refine aE rfl 62 (.tmp 1) rfl _ rfl ?_; intro gY W2 J aa I; have iX := ge ai J; have fB := ne ah J; have av := mv I ai; have bT := mv I bp; have dF := mv I dp; have bC := mv I bd; have dd := mv I cZ; have b9 := mv I bH; have au := mv I ah; have b8 := ak (aa); clear J aa I ai bp dp bd cZ bH ah)
  | (refine aE rfl 79 (.tmp 2) rfl _ rfl ?_; intro gT W3 J aa I; have j9 := ge av J; have gW := ne au J; have ir := ne b8 J; have aD := mv I av; have cj := mv I bT; have dQ := mv I dF; have bU := mv I bC; have dA := mv I dd; have cN := mv I b9; have aA := mv I au; have b7 := mv I b8; have dK := ak (aa); clear J aa I av bT dF bC dd b9 au b8)
  | (refine aw (some 6) rfl rfl 57 rfl a9 bP ?_; intro gZ W4 J aa I; have bN := ge aD J; have aG := ne aA J; have fM := ne b7 J; have jC := ne dK J; have aY := mv I aD; have ch := mv I cj; have dE := mv I dQ; have cx := mv I bU; have dX := mv I dA; have cR := mv I cN; have aV := mv I aA; have bZ := mv I b7; have dP := mv I dK; have a8 := ak (aa); clear J aa I aD cj dQ bU dA cN aA b7 dK)
  | (refine aw (some 7) rfl rfl 62 rfl dG (fun _ => by kernel_rfl) ?_; intro gU W5 J aa I; have fu := ge aY J; have gC := ne aV J; have dw := ne bZ J; have jD := ne dP J; have gB := ne a8 J; have bf := mv I aY; have cb := mv I ch; have de := mv I dE; have cJ := mv I cx; have ee := mv I dX; have cG := mv I cR; have bb := mv I aV; have cB := mv I bZ; have bx := mv I dP; have bu := mv I a8; have eH := ak (aa); have jA := bx.out.cell 0 _ rfl; have gR := bx.out.cell 1 _ rfl; have jz := bx.out.cell 2 _ rfl; have jy := bx.out.cell 3 _ rfl; have jx := bx.out.cell 4 _ rfl; have gv := bx.out.cell 5 _ rfl; clear J aa I aY ch dE cx dX cR aV bZ dP a8))
 go_cut [9] from 38 to 39 (fun s9 wx => s9 = .slice Al lt.length cl ∧ W5 = wx)
 case first =>
  rcases Nat.lt_or_ge 80 l.length with k8 | k8
  ·have kZ : decide ((80 : Int) < (l.length : Int)) = true := by simp; omega
   have tJ : (((0 : Int) ≤ 80 ∧ (80 : Int) ≤ (cl : Int)) = True) := eq_true ⟨by omega, by have := HCL.out; omega⟩
   have tI : (((80 : Int) ≤ (cl : Int)) = True) := eq_true (by have := HCL.out; omega)
   go_wp2_with fail
   go_meet
   exact ⟨by rw [HLL.out, Nat.min_eq_left (by omega)], rfl⟩
  ·have kZ : decide ((80 : Int) < (l.length : Int)) = false := by simp; omega
   go_wp2_with fail
   go_meet
   exact ⟨by rw [HLL.out, Nat.min_eq_right (by omega)], rfl⟩
 case rest =>
 obtain ⟨fY, fX⟩ := hcut
 subst fY
 subst fX
 go_wp2_with (first
  | ((with_reducible refine ax (N := 144) rfl ?_); refine az rfl 57 (.tmp 3) rfl gX rfl _ _ _ bb.out Try.underlying57 rfl 68 (by kernel_rfl) (ag _ _ _ _ _ HL.out) ?_)
  | (go_at_call 53; refine (HBL.out _ _ ⟨_, _, _, _, rfl, ⟨HL.out, (rr cb).1, (rr cb).2, (rr de).1, (rr de).2⟩⟩).mono ?_; rintro e W6 ⟨v_, kX, rfl, aW, e8, I⟩; have HSZ := ak (lb HBASE bf); obtain ⟨iD, oP, oQ, rfl, di, dO⟩ := aW; obtain ⟨A8, c8, rfl⟩ := Kd.R_slice di; obtain ⟨A9, c9, rfl⟩ := Kd.R_slice dO; obtain ⟨Ao, co, rfl⟩ := Kd.R_slice e8; have bG := mv I bf; have cQ := mv I cb; have dt := mv I de; have cY := mv I cJ; have ef := mv I ee; have dD := mv I cG; have bh := mv I bb; have cX := mv I cB; have fh := mv I bx; have bS := mv I bu; have dW := mv I eH; have n6 := ak (Kd.R_lower di HSZ.out); have nY := ak (Kd.R_lower dO HSZ.out); have mF := ak (Kd.R_lower e8 HSZ.out); clear HSZ iD di dO e8 I bf cb de cJ ee cG bb cB bx bu eH jA gR jz jy jx gv)
  | (refine aw (some 20) rfl rfl 57 rfl a9 bP ?_; intro gQ W7 J aa I; have cE := ge bG J; have bk := ne bh J; have tl := ne cX J; have tp := ne fh J; have a7 := ne bS J; have tm := ne dW J; have dU := mv I bG; have eZ := mv I cQ; have je := mv I dt; have fN := mv I cY; have l6 := mv I ef; have jF := mv I dD; have dj := mv I bh; have iN := mv I cX; have nN := mv I fh; have dz := mv I bS; have nM := mv I dW; have n5 := mv I n6; have nX := mv I nY; have mE := mv I mF; have dx := ak (aa); clear J aa I bG cQ dt cY ef dD bh cX fh bS dW n6 nY mF)
  | (refine aN rfl 57 (.tmp 20) (.tmp 149) rfl gQ (aZ nb.addr nb.aff nb.slots (.slice A8 nb.free.length c8) (.slice A9 nb.attrs.length c9)) rfl rfl 57 _ dx.out 68 (by kernel_rfl) (ag _ _ _ _ _ HNL.out) rfl (b4 _ _ _ _ _ rfl rfl) ?_; intro W8 aa J; have gM := gb dU cE J; have kh := gr eZ dx J; have kg := gr je dx J; have ly := gr fN dx J; have m3 := gr l6 dx J; have m5 := gr jF dx J; have gK := gn dj bk J; have lv := gx iN dx J; have mD := gx nN dx J; have fH := gn dz a7 J; have nL := gx nM dx J; have n2 := gr n5 dx J; have nW := gr nX dx J; have pd := gr mE dx J; have nQ := ak (aa); clear aa J dU eZ je fN l6 jF dj iN nN dz nM n5 nX mE dx))
 have aj : Below W8.heap.size W8 W8.drew := bo (Below.refl _ _)
 have ki := mv aj gM; have m8 := mv aj kh; have m7 := mv aj kg; have kV := mv aj ly; have m2 := mv aj m3; have m4 := mv aj m5; have kf := mv aj gK; have kU := mv aj lv; have mC := mv aj mD; have j3 := mv aj fH; have mZ := mv aj nL; have n1 := mv aj n2; have nV := mv aj nW; have uI := mv aj pd; have m0 := mv aj nQ
 clear aj gM kh kg ly m3 m5 gK lv mD fH nL n2 nW pd nQ
 have hB := ki
 have hF := m8
 have hG := m7
 have hS := kV
 have hP := m2
 have hM := m4
 have hX := kf
 have hY := kU
 have hT := mC
 have hZ := j3
 have hU := mZ
 have hC := n1
 have hD := nV
 have hO := uI
 have hQ := m0
 clear ki m8 m7 kV m2 m4 kf kU mC j3 mZ n1 nV uI m0
 refine cW (n := 13) (S := fun w' => aH w' gY (da b.addr b.aff (.slice As b.slots.length cs) (.slice Ap b.free.length cp) (.slice Am M.length cm)) 62 ∧ aH w' gT [.int .i64 5, .int .i64 n, .string a.f0, .string a.f1, .slice Al l.length cl, .string aff] 79) (ds := []) #[false, false, false, false, false, false, false, false, false, false, false, false, false] (by kernel_rfl) rfl rfl ⟨hY.out, hT.out⟩ (fun hHeld => ?_); refine bK qP.tab23 qP.bits23 (fun ab bj => ?_)
 refine tk 0 ab.out bj.out hHeld ?_ (hv := by exact fun _ aU => aI 62 (.tmp 4) rfl gY rfl _ _ _ aU.1 Try.underlying62 rfl (by kernel_rfl))
 refine tk 1 ab.out bj.out hHeld ?_ (hv := by exact fun _ aU => aI 62 (.tmp 4) rfl gY rfl _ _ _ aU.1 Try.underlying62 rfl (by kernel_rfl))
 refine pu 2 ab.out ?_
 refine pu 3 ab.out ?_
 refine tk 4 ab.out bj.out hHeld ?_ (hv := by intro w' aU; have Bl := aU.2.cell 2 _ rfl; go_simp; with_reducible rfl)
 refine pw (σ := Nat × Option Addr × Nat × Value × Value) 2 #[true, true, true, true, true, true, true, true, true, true, true, false, false] (fun s => [(158, .slice s.2.1 ul.length s.2.2.1), (159, .tuple #[s.2.2.2.1, s.2.2.2.2]), (152, .tuple #[s.2.2.2.1, s.2.2.2.2]), (160, s.2.2.2.1), (161, s.2.2.2.2), (23, .pointer (some ⟨s.1, 0, none⟩))]) (fun s w' => Aside0 (Below w.heap.size w w') ∧ Aside0 (Kd.R (Kd.int .u8) 5 w' base (fun _ => True) (.slice Af b.free.length cf) b.free) ∧ Aside0 (Kd.R kc 85 w' base (fun _ => True) (.slice Aa b.attrs.length ca) b.attrs) ∧ Aside0 (Kd.R (Kd.int .i64) 3 w' base (fun _ => True) (.slice As b.slots.length cs) b.slots) ∧ Aside0 (Kd.R (Kd.int .i64) 3 w' base (fun _ => True) (.slice Ap b.free.length cp) b.free) ∧ Aside0 (Kd.R g8 76 w' base (fun _ => True) (.slice Am M.length cm) M) ∧ Aside0 (aH w' gX (aZ b.addr b.aff b.slots (.slice Af b.free.length cf) (.slice Aa b.attrs.length ca)) 57) ∧ Aside0 (aH w' gY (da b.addr b.aff (.slice As b.slots.length cs) (.slice Ap b.free.length cp) (.slice Am M.length cm)) 62) ∧ Aside0 (aH w' gT [.int .i64 5, .int .i64 n, .string a.f0, .string a.f1, .slice Al l.length cl, .string aff] 79) ∧ Aside0 (aH w' gZ a9 57) ∧ Aside0 (aH w' gU dG 62) ∧ Aside0 (Kd.R (Kd.int .u8) 5 w' base (fun _ => True) (.slice A8 nb.free.length c8) nb.free) ∧ Aside0 (Kd.R kc 85 w' base (fun _ => True) (.slice A9 nb.attrs.length c9) nb.attrs) ∧ Aside0 (Kd.R (Kd.int .u32) 46 w' base (fun _ => True) (.slice Ao oo.length co) oo) ∧ Aside0 (aH w' gQ (aZ nb.addr nb.aff nb.slots (.slice A8 nb.free.length c8) (.slice A9 nb.attrs.length c9)) 57) ∧ Aside0 (aH w' s.1 dG 62) ∧ Aside0 (w.heap.size ≤ s.1) ∧ Aside0 (gY ≠ s.1) ∧ Aside0 (gU ≠ s.1) ∧ Aside0 (Kd.R (Kd.int .u32) 46 w' base (fun _ => True) (.slice s.2.1 ul.length s.2.2.1) ul) ∧ Aside0 (eG w' base s.2.2.2.1 nb) ∧ Aside0 (Kd.R (Kd.int .u32) 46 w' base (fun _ => True) s.2.2.2.2 oo)) ?_ ?_
 rotate_left
 ·intro en
  refine tw 5 10 ab.out (fun K hK => ?_) (fun K hK => ?_)
  ·skip
   refine gs Try.func63 #[.agg (da b.addr b.aff (.slice As b.slots.length cs) (.slice Ap b.free.length cp) (.slice Am M.length cm)).toArray, .string a.f0, .string ⟨#[]⟩] (HGV.out _ _ ⟨M, As, cs, Ap, cp, Am, cm, rfl, (jd.of HM.out hS.out hP.out hM.out)⟩) ?_
   rintro e V5 ⟨K0, rfl, qm, I⟩
   refine ⟨_, rfl, ?_⟩
   have hL := ak (Kd.R_lower qm (lb HBASE hB)); obtain ⟨Au, cu, rfl⟩ := Kd.R_slice hL.out; (try replace hV := mv I hV); replace hB := mv I hB; replace hF := mv I hF; replace hG := mv I hG; replace hS := mv I hS; replace hP := mv I hP; replace hM := mv I hM; replace hX := mv I hX; replace hY := mv I hY; replace hT := mv I hT; replace hZ := mv I hZ; replace hU := mv I hU; replace hC := mv I hC; replace hD := mv I hD; replace hO := mv I hO; replace hQ := mv I hQ; clear qm I
   refine kn hK ⟨hY.out, hT.out⟩ (fun hHeld => ?_)
   clear hK K
   refine tw 6 10 ab.out (fun K hK => ?_) (fun K hK => ?_)
   ·skip
    refine gs Try.func84 #[.agg (da b.addr b.aff (.slice As b.slots.length cs) (.slice Ap b.free.length cp) (.slice Am M.length cm)).toArray, .slice Au ul.length cu] (HRL.out _ _ _ _ ⟨M, As, cs, Ap, cp, Am, cm, rfl, (jd.of HM.out hS.out hP.out hM.out)⟩ (Kd.R_reads' hL.out).2.2) ?_
    rintro e V6 ⟨v9, pR, rfl, fC, kY, I⟩
    refine ⟨_, rfl, ?_⟩
    have ks := ak (eG.lower' fC (lb HBASE hB)); have dr := ak (Kd.R_lower kY (lb HBASE hB)); (try replace hL := mv I hL); (try replace hV := mv I hV); replace hB := mv I hB; replace hF := mv I hF; replace hG := mv I hG; replace hS := mv I hS; replace hP := mv I hP; replace hM := mv I hM; replace hX := mv I hX; replace hY := mv I hY; replace hT := mv I hT; replace hZ := mv I hZ; replace hU := mv I hU; replace hC := mv I hC; replace hD := mv I hD; replace hO := mv I hO; replace hQ := mv I hQ; clear fC kY I
    refine kn hK ⟨hY.out, hT.out⟩ (fun hHeld => ?_)
    clear hK K
    refine pu 7 ab.out ?_
    refine pu 8 ab.out ?_
    refine pu 9 ab.out ?_
    refine on 10 ab.out (fun K hK => ?_)
    refine dM (by rfl) 62 rfl dG (fun _ => by kernel_rfl) ?_
    intro gV wJ J aa I
    have df := ge hB J
    have eC := ne hY J
    have dV := ne hU J
    (try replace hL := mv I hL)
    (try replace ks := mv I ks)
    (try replace dr := mv I dr)
    replace hB := mv I hB
    replace hF := mv I hF
    replace hG := mv I hG
    replace hS := mv I hS
    replace hP := mv I hP
    replace hM := mv I hM
    replace hX := mv I hX
    replace hY := mv I hY
    replace hT := mv I hT
    replace hZ := mv I hZ
    replace hU := mv I hU
    replace hC := mv I hC
    replace hD := mv I hD
    replace hO := mv I hO
    replace hQ := mv I hQ
    have hV := ak aa
    clear J aa I
    refine kn hK ⟨hY.out, hT.out⟩ (fun hHeld => ?_)
    clear hK K
    exact nc (en ⟨gV, Au, cu, v9, pR⟩ _ ⟨hB, hF, hG, hS, hP, hM, hX, hY, hT, hZ, hU, hC, hD, hO, hQ, hV, df, eC, dV, hL, ks, dr⟩)
   ·skip
    refine dM (by rfl) 62 rfl dG (fun _ => by kernel_rfl) ?_
    intro gV wJ J aa I
    have df := ge hB J
    have eC := ne hY J
    have dV := ne hU J
    (try replace hL := mv I hL)
    (try replace ks := mv I ks)
    (try replace dr := mv I dr)
    replace hB := mv I hB
    replace hF := mv I hF
    replace hG := mv I hG
    replace hS := mv I hS
    replace hP := mv I hP
    replace hM := mv I hM
    replace hX := mv I hX
    replace hY := mv I hY
    replace hT := mv I hT
    replace hZ := mv I hZ
    replace hU := mv I hU
    replace hC := mv I hC
    replace hD := mv I hD
    replace hO := mv I hO
    replace hQ := mv I hQ
    have hV := ak aa
    clear J aa I
    refine kn hK ⟨hY.out, hT.out⟩ (fun hHeld => ?_)
    clear hK K
    refine on 6 ab.out (fun K hK => ?_)
    refine gs Try.func84 #[.agg (da b.addr b.aff (.slice As b.slots.length cs) (.slice Ap b.free.length cp) (.slice Am M.length cm)).toArray, .slice Au ul.length cu] (HRL.out _ _ _ _ ⟨M, As, cs, Ap, cp, Am, cm, rfl, (jd.of HM.out hS.out hP.out hM.out)⟩ (Kd.R_reads' hL.out).2.2) ?_
    rintro e V6 ⟨v9, pR, rfl, fC, kY, I⟩
    refine ⟨_, rfl, ?_⟩
    have ks := ak (eG.lower' fC (lb HBASE hB)); have dr := ak (Kd.R_lower kY (lb HBASE hB)); (try replace hL := mv I hL); (try replace hV := mv I hV); replace hB := mv I hB; replace hF := mv I hF; replace hG := mv I hG; replace hS := mv I hS; replace hP := mv I hP; replace hM := mv I hM; replace hX := mv I hX; replace hY := mv I hY; replace hT := mv I hT; replace hZ := mv I hZ; replace hU := mv I hU; replace hC := mv I hC; replace hD := mv I hD; replace hO := mv I hO; replace hQ := mv I hQ; clear fC kY I
    refine kn hK ⟨hY.out, hT.out⟩ (fun hHeld => ?_)
    clear hK K
    refine pu 7 ab.out ?_
    refine pu 8 ab.out ?_
    refine pu 9 ab.out ?_
    exact nc (en ⟨gV, Au, cu, v9, pR⟩ _ ⟨hB, hF, hG, hS, hP, hM, hX, hY, hT, hZ, hU, hC, hD, hO, hQ, hV, df, eC, dV, hL, ks, dr⟩)
  ·skip
   refine dM (by rfl) 62 rfl dG (fun _ => by kernel_rfl) ?_
   intro gV wJ J aa I
   have df := ge hB J
   have eC := ne hY J
   have dV := ne hU J
   (try replace hL := mv I hL)
   (try replace ks := mv I ks)
   (try replace dr := mv I dr)
   replace hB := mv I hB
   replace hF := mv I hF
   replace hG := mv I hG
   replace hS := mv I hS
   replace hP := mv I hP
   replace hM := mv I hM
   replace hX := mv I hX
   replace hY := mv I hY
   replace hT := mv I hT
   replace hZ := mv I hZ
   replace hU := mv I hU
   replace hC := mv I hC
   replace hD := mv I hD
   replace hO := mv I hO
   replace hQ := mv I hQ
   have hV := ak aa
   clear J aa I
   refine kn hK ⟨hY.out, hT.out⟩ (fun hHeld => ?_)
   clear hK K
   refine on 5 ab.out (fun K hK => ?_)
   refine gs Try.func63 #[.agg (da b.addr b.aff (.slice As b.slots.length cs) (.slice Ap b.free.length cp) (.slice Am M.length cm)).toArray, .string a.f0, .string ⟨#[]⟩] (HGV.out _ _ ⟨M, As, cs, Ap, cp, Am, cm, rfl, (jd.of HM.out hS.out hP.out hM.out)⟩) ?_
   rintro e V5 ⟨K0, rfl, qm, I⟩
   refine ⟨_, rfl, ?_⟩
   have hL := ak (Kd.R_lower qm (lb HBASE hB)); obtain ⟨Au, cu, rfl⟩ := Kd.R_slice hL.out; (try replace hV := mv I hV); replace hB := mv I hB; replace hF := mv I hF; replace hG := mv I hG; replace hS := mv I hS; replace hP := mv I hP; replace hM := mv I hM; replace hX := mv I hX; replace hY := mv I hY; replace hT := mv I hT; replace hZ := mv I hZ; replace hU := mv I hU; replace hC := mv I hC; replace hD := mv I hD; replace hO := mv I hO; replace hQ := mv I hQ; clear qm I
   refine kn hK ⟨hY.out, hT.out⟩ (fun hHeld => ?_)
   clear hK K
   refine on 6 ab.out (fun K hK => ?_)
   refine gs Try.func84 #[.agg (da b.addr b.aff (.slice As b.slots.length cs) (.slice Ap b.free.length cp) (.slice Am M.length cm)).toArray, .slice Au ul.length cu] (HRL.out _ _ _ _ ⟨M, As, cs, Ap, cp, Am, cm, rfl, (jd.of HM.out hS.out hP.out hM.out)⟩ (Kd.R_reads' hL.out).2.2) ?_
   rintro e V6 ⟨v9, pR, rfl, fC, kY, I⟩
   refine ⟨_, rfl, ?_⟩
   have ks := ak (eG.lower' fC (lb HBASE hB)); have dr := ak (Kd.R_lower kY (lb HBASE hB)); (try replace hL := mv I hL); (try replace hV := mv I hV); replace hB := mv I hB; replace hF := mv I hF; replace hG := mv I hG; replace hS := mv I hS; replace hP := mv I hP; replace hM := mv I hM; replace hX := mv I hX; replace hY := mv I hY; replace hT := mv I hT; replace hZ := mv I hZ; replace hU := mv I hU; replace hC := mv I hC; replace hD := mv I hD; replace hO := mv I hO; replace hQ := mv I hQ; clear fC kY I
   refine kn hK ⟨hY.out, hT.out⟩ (fun hHeld => ?_)
   clear hK K
   refine pu 7 ab.out ?_
   refine pu 8 ab.out ?_
   refine pu 9 ab.out ?_
   exact nc (en ⟨gV, Au, cu, v9, pR⟩ _ ⟨hB, hF, hG, hS, hP, hM, hX, hY, hT, hZ, hU, hC, hD, hO, hQ, hV, df, eC, dV, hL, ks, dr⟩)
 intro s w' hFF; obtain ⟨gV, Au, cu, v9, pR⟩ := s; simp only at hFF; obtain ⟨hB, hF, hG, hS, hP, hM, hX, hY, hT, hZ, hU, hC, hD, hO, hQ, hV, df, eC, dV, hL, ks, dr⟩ := hFF; have fC := ks.out; obtain ⟨tT, qE, qF, rfl, fZ, fb, ep⟩ := fC; obtain ⟨A1, c1, rfl⟩ := Kd.R_slice fZ; obtain ⟨A2, c2, rfl⟩ := Kd.R_slice fb; obtain ⟨NM, hNM⟩ : ∃ NM, NM = nb.attrs.map vc := ⟨_, rfl⟩; rw [← hNM] at ep; have HNM := ak hNM; obtain ⟨A3, c3, rfl⟩ := Kd.R_slice ep; obtain ⟨Co, Bz, rfl⟩ := Kd.R_slice dr.out; have hI := ak fZ; have hJ := ak fb; have hE := ak ep; have gq := dr; clear hL ks dr hNM fZ fb ep
 refine nj ?_
 refine ow 11 ab.out (fun K hK => ?_)
 refine bA (by rfl) rfl 62 (.tmp 23) (.tmp 160) rfl gV (da nb.addr nb.aff (.slice A1 nb.slots.length c1) (.slice A2 nb.free.length c2) (.slice A3 NM.length c3)) rfl rfl 62 _ hV.out 5 (by kernel_rfl) rfl rfl (dJ _ _ rfl rfl rfl) ?_
 intro oa aa J; replace hB := gb hB df J; replace hF := gr hF hV J; replace hG := gr hG hV J; replace hS := gr hS hV J; replace hP := gr hP hV J; replace hM := gr hM hV J; replace hX := gx hX hV J; replace hY := gn hY eC J; replace hT := gx hT hV J; replace hZ := gx hZ hV J; replace hU := gn hU dV J; replace hC := gr hC hV J; replace hD := gr hD hV J; replace hO := gr hO hV J; replace hQ := gx hQ hV J; replace hI := gr hI hV J; replace hJ := gr hJ hV J; replace hE := gr hE hV J; replace gq := gr gq hV J; replace hV := ak (aa); clear aa J
 refine hK.out _ _ ⟨hY.out, hT.out⟩ (fun hHeld => ?_)
 clear hK K
 refine pu 12 ab.out ?_
 refine dn ab.out ?_
 clear hHeld
 go_wp2_with fail
 have aj : Below oa.heap.size oa oa.drew := bo (Below.refl _ _)
 have yg := mv aj hB; have xL := mv aj hF; have xE := mv aj hG; have xb := mv aj hS; have xk := mv aj hP; have xq := mv aj hM; have wS := mv aj hX; have wO := mv aj hY; have wZ := mv aj hT; have wL := mv aj hZ; have wV := mv aj hU; have xZ := mv aj hC; have xV := mv aj hD; have xo := mv aj hO; have xg := mv aj hQ; have wU := mv aj hV; have xB := mv aj hI; have xx := mv aj hJ; have xR := mv aj hE; have uJ := mv aj gq
 clear aj hB hF hG hS hP hM hX hY hT hZ hU hC hD hO hQ hV hI hJ hE gq
 have hB := yg
 have hF := xL
 have hG := xE
 have hS := xb
 have hP := xk
 have hM := xq
 have hX := wS
 have hY := wO
 have hT := wZ
 have hZ := wL
 have hU := wV
 have hC := xZ
 have hD := xV
 have hO := xo
 have hQ := xg
 have hV := wU
 have hI := xB
 have hJ := xx
 have hE := xR
 have gq := uJ
 clear yg xL xE xb xk xq wS wO wZ wL wV xZ xV xo xg wU xB xx xR uJ
 refine cW (n := 12) (S := fun w' => aH w' gQ (aZ nb.addr nb.aff nb.slots (.slice A8 nb.free.length c8) (.slice A9 nb.attrs.length c9)) 57 ∧ aH w' gV (da nb.addr nb.aff (.slice A1 nb.slots.length c1) (.slice A2 nb.free.length c2) (.slice A3 NM.length c3)) 62) (ds := []) #[false, false, false, false, false, false, false, false, false, false, false, false] (by kernel_rfl) rfl rfl ⟨hQ.out, hV.out⟩ (fun hHeld => ?_); refine bK qO.tab24 qO.bits24 (fun ab bj => ?_)
 refine tk 0 ab.out bj.out hHeld ?_ (hv := by exact fun _ aU => aI 57 (.tmp 20) rfl gQ rfl _ _ _ aU.1 Try.underlying57 rfl (HLN _ _ _ _))
 refine tk 1 ab.out bj.out hHeld ?_ (hv := by exact fun _ aU => aI 62 (.tmp 23) rfl gV rfl _ _ _ aU.2 Try.underlying62 rfl (by kernel_rfl))
 refine pu 2 ab.out ?_
 refine pu 3 ab.out ?_
 refine pu 4 ab.out ?_
 refine pu 5 ab.out ?_
 refine pu 6 ab.out ?_
 refine on 7 ab.out (fun K hK => ?_)
 refine gs Try.func61 #[(.slice Ao oo.length co), (.slice Co oo.length Bz)] (nD oo HOL.out _ _ _ _ _ (Kd.R_reads' hO.out).2.2 (Kd.R_reads' hO.out).2.1 (Kd.R_reads' gq.out).2.2 (Kd.R_reads' gq.out).2.1) ?_
 rintro e V7 ⟨rfl, I⟩
 refine ⟨_, rfl, ?_⟩
 replace hB := mv I hB; replace hF := mv I hF; replace hG := mv I hG; replace hS := mv I hS; replace hP := mv I hP; replace hM := mv I hM; replace hX := mv I hX; replace hY := mv I hY; replace hT := mv I hT; replace hZ := mv I hZ; replace hU := mv I hU; replace hC := mv I hC; replace hD := mv I hD; replace hO := mv I hO; replace hQ := mv I hQ; replace hV := mv I hV; replace hI := mv I hI; replace hJ := mv I hJ; replace hE := mv I hE; replace gq := mv I gq
 refine kn hK ⟨hQ.out, hV.out⟩ (fun hHeld => ?_)
 clear hK K
 refine pu 8 ab.out ?_
 refine ow 9 ab.out (fun K hK => ?_)
 refine bA (by rfl) rfl 57 (.tmp 6) (.tmp 162) rfl gZ (aZ nb.addr nb.aff nb.slots (.slice A8 nb.free.length c8) (.slice A9 nb.attrs.length c9)) rfl rfl 57 _ hZ.out 68 (by kernel_rfl) (ag _ _ _ _ _ HNL.out) rfl (b4 _ _ _ _ _ rfl rfl) ?_
 intro V9 aa J; replace hB := gb hB bN J; replace hF := gr hF hZ J; replace hG := gr hG hZ J; replace hS := gr hS hZ J; replace hP := gr hP hZ J; replace hM := gr hM hZ J; replace hX := gn hX aG J; replace hY := gx hY hZ J; replace hT := gx hT hZ J; replace hU := gx hU hZ J; replace hC := gr hC hZ J; replace hD := gr hD hZ J; replace hO := gr hO hZ J; replace hQ := gm hQ a7 J; replace hV := gx hV hZ J; replace hI := gr hI hZ J; replace hJ := gr hJ hZ J; replace hE := gr hE hZ J; replace gq := gr gq hZ J; replace hZ := ak (aa); clear aa J
 refine hK.out _ _ ⟨hQ.out, hV.out⟩ (fun hHeld => ?_)
 clear hK K
 refine ow 10 ab.out (fun K hK => ?_)
 refine bA (by rfl) rfl 62 (.tmp 7) (.tmp 163) rfl gU (da nb.addr nb.aff (.slice A1 nb.slots.length c1) (.slice A2 nb.free.length c2) (.slice A3 NM.length c3)) rfl rfl 62 _ hU.out 5 (by kernel_rfl) rfl rfl (dJ _ _ rfl rfl rfl) ?_
 intro wJ aa J; replace hB := gb hB fu J; replace hF := gr hF hU J; replace hG := gr hG hU J; replace hS := gr hS hU J; replace hP := gr hP hU J; replace hM := gr hM hU J; replace hX := gx hX hU J; replace hY := gn hY dw J; replace hT := gx hT hU J; replace hZ := gx hZ hU J; replace hC := gr hC hU J; replace hD := gr hD hU J; replace hO := gr hO hU J; replace hQ := gx hQ hU J; replace hV := gm hV dV J; replace hI := gr hI hU J; replace hJ := gr hJ hU J; replace hE := gr hE hU J; replace gq := gr gq hU J; replace hU := ak (aa); clear aa J
 refine hK.out _ _ ⟨hQ.out, hV.out⟩ (fun hHeld => ?_)
 clear hK K
 refine pu 11 ab.out ?_
 refine dn ab.out ?_
 clear hHeld
 go_wp2_with fail
 refine bodyPost_ret (eK rfl _ _ _ gZ gU 57 62 _ _ _ _ rfl hZ.out rfl Try.underlying57 (by first | exact HLB.out | exact HLN _ _ _ _) rfl hU.out rfl Try.underlying62 (by kernel_rfl)) rfl ⟨_, _, nb, rfl, ?_, ?_, ?_, hB.out⟩
 ·exact HRG.out
 ·exact ⟨HNL.out, _, _, rfl, hC.out, hD.out⟩
 ·exact ⟨_, _, _, rfl, hI.out, hJ.out, by rw [← HNM.out]; exact hE.out⟩
end Go.Proofs.Ytemhalnhbgkbcaa.V
end

section
namespace Go.Proofs.Ytemhalnhbgkbcaa.V
set_option maxHeartbeats 16000000 in
set_option maxRecDepth 100000 in
theorem GJ (b : Bk) (hg : RG b) (n : Int) (hn : n < 9223372036854775808) (a : kz) (e7 : a.f0.size ≤ 9223372036854775807) (fE : a.f1.size ≤ 9223372036854775807) (l : List Int) (hu : ∀ x ∈ l, 0 ≤ x ∧ x < 4294967296) (hlm : l.length ≤ 9223372036854775807) (Al : Option Addr) (cl : Nat) (hcl : l.length ≤ cl) (aff : ByteArray) (hza : aff.size ≤ 9223372036854775807) (he : a.f1.toList = []) (v v2 : Value) (w : World) (base : Nat) (hbase : base ≤ w.heap.size) (hO : ea w base v b) (hR : eG w base v2 b) (hC : Kd.C (Kd.int .u32) w Al l.length l) :
  Calls Try.prog 47 #[v, v2, .agg #[.int .i64 6, .int .i64 n, .string a.f0, .string a.f1, .slice Al l.length cl, .string aff]] w fun e w' => ∃ v1 v2 b', e = .returned (.tuple #[v1, v2, .bool true]) ∧ RG b' ∧ ea w' base v1 b' ∧ eG w' base v2 b' ∧ Below w.heap.size w w' := by
 obtain ⟨hl, vf, va, rfl, hf, ha⟩ := hO
 obtain ⟨vs, vp, vm, rfl, hs, hp, hm⟩ := hR
 obtain ⟨Af, cf, rfl⟩ := Kd.R_slice hf
 obtain ⟨Aa, ca, rfl⟩ := Kd.R_slice ha
 obtain ⟨As, cs, rfl⟩ := Kd.R_slice hs
 obtain ⟨Ap, cp, rfl⟩ := Kd.R_slice hp
 obtain ⟨M, hM⟩ : ∃ M, M = b.attrs.map vc := ⟨_, rfl⟩
 rw [← hM] at hm
 obtain ⟨Am, cm, rfl⟩ := Kd.R_slice hm
 have HL := ak hl
 have HM := ak hM
 have bw := ak hf
 have dY := ak ha
 have aX := ak hs
 have dT := ak hp
 have bD := ak hm
 have HG := ak hg
 have ae := ak (Below.refl w.heap.size w)
 have HBASE := ak hbase
 have HLB := ak (cg (aZ b.addr b.aff b.slots (.slice Af b.free.length cf) (.slice Aa b.attrs.length ca)) (ag _ _ _ _ _ HL.out))
 obtain ⟨lt, hlt⟩ : ∃ lt, lt = l.take 80 := ⟨_, rfl⟩
 have hut : ∀ x ∈ lt, 0 ≤ x ∧ x < 4294967296 := fun x hx => hu x (by rw [hlt] at hx; exact List.mem_of_mem_take hx)
 have hll : lt.length = min 80 l.length := by rw [hlt, List.length_take]
 have HCL := ak hcl
 have HLL := ak hll
 have HC := ak hC
 have HCT := ak (fun W (I : Below w.heap.size w W) => (show Kd.C (Kd.int .u32) W Al lt.length lt by
  rcases Nat.lt_or_ge 80 l.length with h | h
  ·have h_ := Kd.C_take (m := 80) (Kd.C_below hC I) (by omega)
   rw [← hlt] at h_
   exact h_
  ·have h_ := Kd.C_below hC I
   have e : lt = l := by rw [hlt, List.take_of_length_le h]
   rw [e]
   exact h_))
 have q0 : (a.f1.toList == []) = true := by rw [he]; rfl
 have q1 : a.f1.toList.isEmpty = true := by rw [he]; rfl
 have q2 : (a.f1.toList = []) = True := eq_true he
 clear he
 clear hl hM hf ha hs hp hm hbase hC hu hut hll hcl hlt hg
 go_enter Try.func47, Try.ntmps47
 go_upto_if 37 with (first
  | (refine aE rfl 57 (.tmp 0) rfl _ rfl ?_; intro gX W1 J aa I; have bQ := ge ae J; have ai := ak (ae.out.trans (I.mono ae.out.size)); have bp := mv I bw; have dp := mv I dY; have bd := mv I aX; have cZ := mv I dT; have bH := mv I bD; have ah := ak (aa); clear J aa I ae bw dY aX dT bD)
  | (refine aE rfl 62 (.tmp 1) rfl _ rfl ?_; intro gY W2 J aa I; have iX := ge ai J; have fB := ne ah J; have av := mv I ai; have bT := mv I bp; have dF := mv I dp; have bC := mv I bd; have dd := mv I cZ; have b9 := mv I bH; have au := mv I ah; have b8 := ak (aa); clear J aa I ai bp dp bd cZ bH ah)
  | (refine aE rfl 79 (.tmp 2) rfl _ rfl ?_; intro gT W3 J aa I; have j9 := ge av J; have gW := ne au J; have ir := ne b8 J; have aD := mv I av; have cj := mv I bT; have dQ := mv I dF; have bU := mv I bC; have dA := mv I dd; have cN := mv I b9; have aA := mv I au; have b7 := mv I b8; have dK := ak (aa); clear J aa I av bT dF bC dd b9 au b8)
  | (refine aw (some 6) rfl rfl 57 rfl a9 bP ?_; intro gZ W4 J aa I; have bN := ge aD J; have aG := ne aA J; have fM := ne b7 J; have jC := ne dK J; have aY := mv I aD; have ch := mv I cj; have dE := mv I dQ; have cx := mv I bU; have dX := mv I dA; have cR := mv I cN; have aV := mv I aA; have bZ := mv I b7; have dP := mv I dK; have a8 := ak (aa); clear J aa I aD cj dQ bU dA cN aA b7 dK)
  | (refine aw (some 7) rfl rfl 62 rfl dG (fun _ => by kernel_rfl) ?_; intro gU W5 J aa I; have fu := ge aY J; have gC := ne aV J; have dw := ne bZ J; have jD := ne dP J; have gB := ne a8 J; have bf := mv I aY; have cb := mv I ch; have de := mv I dE; have cJ := mv I cx; have ee := mv I dX; have cG := mv I cR; have bb := mv I aV; have cB := mv I bZ; have bx := mv I dP; have bu := mv I a8; have eH := ak (aa); have jA := bx.out.cell 0 _ rfl; have gR := bx.out.cell 1 _ rfl; have jz := bx.out.cell 2 _ rfl; have jy := bx.out.cell 3 _ rfl; have jx := bx.out.cell 4 _ rfl; have gv := bx.out.cell 5 _ rfl; clear J aa I aY ch dE cx dX cR aV bZ dP a8))
 go_cut [9] from 38 to 39 (fun s9 wx => s9 = .slice Al lt.length cl ∧ W5 = wx)
 case first =>
  rcases Nat.lt_or_ge 80 l.length with k8 | k8
  ·have kZ : decide ((80 : Int) < (l.length : Int)) = true := by simp; omega
   have tJ : (((0 : Int) ≤ 80 ∧ (80 : Int) ≤ (cl : Int)) = True) := eq_true ⟨by omega, by have := HCL.out; omega⟩
   have tI : (((80 : Int) ≤ (cl : Int)) = True) := eq_true (by have := HCL.out; omega)
   go_wp2_with fail
   go_meet
   exact ⟨by rw [HLL.out, Nat.min_eq_left (by omega)], rfl⟩
  ·have kZ : decide ((80 : Int) < (l.length : Int)) = false := by simp; omega
   go_wp2_with fail
   go_meet
   exact ⟨by rw [HLL.out, Nat.min_eq_right (by omega)], rfl⟩
 case rest =>
 obtain ⟨fY, fX⟩ := hcut
 subst fY
 subst fX
 go_wp2_with fail
 have aj : Below W5.heap.size W5 W5.drew := bo (Below.refl _ _)
 have bG := mv aj bf; have cQ := mv aj cb; have dt := mv aj de; have cY := mv aj cJ; have ef := mv aj ee; have dD := mv aj cG; have bh := mv aj bb; have cX := mv aj cB; have fh := mv aj bx; have bS := mv aj bu; have dW := mv aj eH
 clear aj bf cb de cJ ee cG bb cB bx bu eH jA gR jz jy jx gv
 have hB := bG
 have hF := cQ
 have hG := dt
 have hS := cY
 have hP := ef
 have hM := dD
 have hX := bh
 have hY := cX
 have hT := fh
 have hZ := bS
 have hU := dW
 clear bG cQ dt cY ef dD bh cX fh bS dW
 refine cW (n := 5) (S := fun w' => aH w' gX (aZ b.addr b.aff b.slots (.slice Af b.free.length cf) (.slice Aa b.attrs.length ca)) 57 ∧ aH w' gY (da b.addr b.aff (.slice As b.slots.length cs) (.slice Ap b.free.length cp) (.slice Am M.length cm)) 62) (ds := []) #[false, false, false, false, false] (by kernel_rfl) rfl rfl ⟨hX.out, hY.out⟩ (fun hHeld => ?_); refine bK lD.tab37 lD.bits37 (fun ab bj => ?_)
 refine tk 0 ab.out bj.out hHeld ?_ (hv := by exact fun _ aU => aI 57 (.tmp 3) rfl gX rfl _ _ _ aU.1 Try.underlying57 rfl HLB.out)
 refine tk 1 ab.out bj.out hHeld ?_ (hv := by exact fun _ aU => aI 62 (.tmp 4) rfl gY rfl _ _ _ aU.2 Try.underlying62 rfl (by kernel_rfl))
 refine ow 2 ab.out (fun K hK => ?_)
 refine bA (by rfl) rfl 57 (.tmp 6) (.tmp 235) rfl gZ (aZ b.addr b.aff b.slots (.slice Af b.free.length cf) (.slice Aa b.attrs.length ca)) rfl rfl 57 _ hZ.out 68 (by kernel_rfl) (ag _ _ _ _ _ HL.out) rfl (b4 _ _ _ _ _ rfl rfl) ?_
 intro V2 aa J; replace hB := gb hB bN J; replace hF := gr hF hZ J; replace hG := gr hG hZ J; replace hS := gr hS hZ J; replace hP := gr hP hZ J; replace hM := gr hM hZ J; replace hX := gn hX aG J; replace hY := gx hY hZ J; replace hT := gx hT hZ J; replace hU := gx hU hZ J; replace hZ := ak (aa); clear aa J
 refine hK.out _ _ ⟨hX.out, hY.out⟩ (fun hHeld => ?_)
 clear hK K
 refine ow 3 ab.out (fun K hK => ?_)
 refine bA (by rfl) rfl 62 (.tmp 7) (.tmp 236) rfl gU (da b.addr b.aff (.slice As b.slots.length cs) (.slice Ap b.free.length cp) (.slice Am M.length cm)) rfl rfl 62 _ hU.out 5 (by kernel_rfl) rfl rfl (dJ _ _ rfl rfl rfl) ?_
 intro V3 aa J; replace hB := gb hB fu J; replace hF := gr hF hU J; replace hG := gr hG hU J; replace hS := gr hS hU J; replace hP := gr hP hU J; replace hM := gr hM hU J; replace hX := gx hX hU J; replace hY := gn hY dw J; replace hT := gx hT hU J; replace hZ := gx hZ hU J; replace hU := ak (aa); clear aa J
 refine hK.out _ _ ⟨hX.out, hY.out⟩ (fun hHeld => ?_)
 clear hK K
 refine pu 4 ab.out ?_
 refine dn ab.out ?_
 clear hHeld
 go_wp2_with fail
 refine bodyPost_ret (eK rfl _ _ _ gZ gU 57 62 _ _ _ _ rfl hZ.out rfl Try.underlying57 (by first | exact HLB.out | exact HLN _ _ _ _) rfl hU.out rfl Try.underlying62 (by kernel_rfl)) rfl ⟨_, _, b, rfl, ?_, ?_, ?_, hB.out⟩
 ·exact HG.out
 ·exact ⟨HL.out, _, _, rfl, hF.out, hG.out⟩
 ·exact ⟨_, _, _, rfl, hS.out, hP.out, by rw [← HM.out]; exact hM.out⟩
set_option maxHeartbeats 16000000 in
set_option maxRecDepth 100000 in
theorem Ku (b : Bk) (hg : RG b) (n : Int) (hn : n < 9223372036854775808) (a : kz) (e7 : a.f0.size ≤ 9223372036854775807) (fE : a.f1.size ≤ 9223372036854775807) (l : List Int) (hu : ∀ x ∈ l, 0 ≤ x ∧ x < 4294967296) (hlm : l.length ≤ 9223372036854775807) (Al : Option Addr) (cl : Nat) (hcl : l.length ≤ cl) (aff : ByteArray) (hza : aff.size ≤ 9223372036854775807) (he : a.f1.toList ≠ []) (v v2 : Value) (w : World) (base : Nat) (hbase : base ≤ w.heap.size) (hO : ea w base v b) (hR : eG w base v2 b) (hC : Kd.C (Kd.int .u32) w Al l.length l) :
  Calls Try.prog 47 #[v, v2, .agg #[.int .i64 6, .int .i64 n, .string a.f0, .string a.f1, .slice Al l.length cl, .string aff]] w fun e w' => ∃ v1 v2 b', e = .returned (.tuple #[v1, v2, .bool true]) ∧ RG b' ∧ ea w' base v1 b' ∧ eG w' base v2 b' ∧ Below w.heap.size w w' := by
 obtain ⟨hl, vf, va, rfl, hf, ha⟩ := hO
 obtain ⟨vs, vp, vm, rfl, hs, hp, hm⟩ := hR
 obtain ⟨Af, cf, rfl⟩ := Kd.R_slice hf
 obtain ⟨Aa, ca, rfl⟩ := Kd.R_slice ha
 obtain ⟨As, cs, rfl⟩ := Kd.R_slice hs
 obtain ⟨Ap, cp, rfl⟩ := Kd.R_slice hp
 obtain ⟨M, hM⟩ : ∃ M, M = b.attrs.map vc := ⟨_, rfl⟩
 rw [← hM] at hm
 obtain ⟨Am, cm, rfl⟩ := Kd.R_slice hm
 have HL := ak hl
 have HM := ak hM
 have bw := ak hf
 have dY := ak ha
 have aX := ak hs
 have dT := ak hp
 have bD := ak hm
 have HG := ak hg
 have ae := ak (Below.refl w.heap.size w)
 have HBASE := ak hbase
 have HLB := ak (cg (aZ b.addr b.aff b.slots (.slice Af b.free.length cf) (.slice Aa b.attrs.length ca)) (ag _ _ _ _ _ HL.out))
 obtain ⟨lt, hlt⟩ : ∃ lt, lt = l.take 80 := ⟨_, rfl⟩
 have hut : ∀ x ∈ lt, 0 ≤ x ∧ x < 4294967296 := fun x hx => hu x (by rw [hlt] at hx; exact List.mem_of_mem_take hx)
 have hll : lt.length = min 80 l.length := by rw [hlt, List.length_take]
 have HCL := ak hcl
 have HLL := ak hll
 have HC := ak hC
 have HCT := ak (fun W (I : Below w.heap.size w W) => (show Kd.C (Kd.int .u32) W Al lt.length lt by
  rcases Nat.lt_or_ge 80 l.length with h | h
  ·have h_ := Kd.C_take (m := 80) (Kd.C_below hC I) (by omega)
   rw [← hlt] at h_
   exact h_
  ·have h_ := Kd.C_below hC I
   have e : lt = l := by rw [hlt, List.take_of_length_le h]
   rw [e]
   exact h_))
 have hp := iw hg.right
 have hpq : ((fun x => x.f1.toList == a.f1.toList) : At → Bool) = pG ⟨#[]⟩ a.f1 := by
  funext x
  unfold pG
  have h1 : (a.f1.toList == (⟨#[]⟩ : ByteArray).toList) = false := by simpa using he
  have h2 : ((⟨#[]⟩ : ByteArray).toList == (⟨#[]⟩ : ByteArray).toList) = true := beq_self_eq_true _
  rw [h1, h2]
  simp
 have hbl := fun v w h => Cy b hg.ok a.f1 hg.right v w h
 have hgv := fun v w h => sZ b hg.ok hp hl ⟨#[]⟩ a.f1 v w h
 rw [hpq] at hbl
 have hur : ∀ x ∈ dk b (pG ⟨#[]⟩ a.f1) 64, 0 ≤ x ∧ x < 4294967296 := nv hg.ok hp.first _
 have hulen := fD b (pG ⟨#[]⟩ a.f1) 64
 obtain ⟨ul, hul⟩ : ∃ ul, ul = dk b (pG ⟨#[]⟩ a.f1) 64 := ⟨_, rfl⟩
 rw [← hul] at hbl hgv hur hulen
 have hrg := hg.rel ul
 have hrl := fun Al cl v w h hC => pX b hg.ok hp hl ul hur (by omega) Al cl v w h hC
 rw [vV hg] at hrl
 obtain ⟨nb, hnb⟩ : ∃ nb, nb = lC b ul := ⟨_, rfl⟩
 obtain ⟨oo, hoo⟩ : ∃ oo, oo = (relL b ul).2 := ⟨_, rfl⟩
 rw [← hnb, ← hoo] at hbl hrl
 rw [← hnb] at hrg
 have hol : oo.length ≤ 1000 := by rw [hoo]; have h_ := (sD hg.ok hp hl ul ul.length (Nat.le_refl _)).ol; rw [List.take_length] at h_; omega
 have HRG := ak hrg
 have HNL := ak hrg.l64
 have HOL := ak hol
 have HLN := fun A8 c8 A9 c9 => cg (aZ nb.addr nb.aff nb.slots (.slice A8 nb.free.length c8) (.slice A9 nb.attrs.length c9)) (ag _ _ _ _ _ HNL.out)
 have q0 : (a.f1.toList == []) = false := by simpa using he
 have q1 : a.f1.toList.isEmpty = false := by simpa using he
 have q2 : (a.f1.toList = []) = False := eq_false he
 have HBL := ak hbl
 have HRL := ak hrl
 have HGV := ak hgv
 clear hrg hbl hrl hgv hol hnb hoo hp hpq hur hul hulen he
 clear hl hM hf ha hs hp hm hbase hC hu hut hll hcl hlt hg
 go_enter Try.func47, Try.ntmps47
 go_upto_if 37 with (first
  | (refine aE rfl 57 (.tmp 0) rfl _ rfl ?_; intro gX W1 J aa I; have bQ := ge ae J; have ai := ak (ae.out.trans (I.mono ae.out.size)); have bp := mv I bw; have dp := mv I dY; have bd := mv I aX; have cZ := mv I dT; have bH := mv I bD; have ah := ak (aa); clear J aa I ae bw dY aX dT bD)
  | (refine aE rfl 62 (.tmp 1) rfl _ rfl ?_; intro gY W2 J aa I; have iX := ge ai J; have fB := ne ah J; have av := mv I ai; have bT := mv I bp; have dF := mv I dp; have bC := mv I bd; have dd := mv I cZ; have b9 := mv I bH; have au := mv I ah; have b8 := ak (aa); clear J aa I ai bp dp bd cZ bH ah)
  | (refine aE rfl 79 (.tmp 2) rfl _ rfl ?_; intro gT W3 J aa I; have j9 := ge av J; have gW := ne au J; have ir := ne b8 J; have aD := mv I av; have cj := mv I bT; have dQ := mv I dF; have bU := mv I bC; have dA := mv I dd; have cN := mv I b9; have aA := mv I au; have b7 := mv I b8; have dK := ak (aa); clear J aa I av bT dF bC dd b9 au b8)
  | (refine aw (some 6) rfl rfl 57 rfl a9 bP ?_; intro gZ W4 J aa I; have bN := ge aD J; have aG := ne aA J; have fM := ne b7 J; have jC := ne dK J; have aY := mv I aD; have ch := mv I cj; have dE := mv I dQ; have cx := mv I bU; have dX := mv I dA; have cR := mv I cN; have aV := mv I aA; have bZ := mv I b7; have dP := mv I dK; have a8 := ak (aa); clear J aa I aD cj dQ bU dA cN aA b7 dK)
  | (refine aw (some 7) rfl rfl 62 rfl dG (fun _ => by kernel_rfl) ?_; intro gU W5 J aa I; have fu := ge aY J; have gC := ne aV J; have dw := ne bZ J; have jD := ne dP J; have gB := ne a8 J; have bf := mv I aY; have cb := mv I ch; have de := mv I dE; have cJ := mv I cx; have ee := mv I dX; have cG := mv I cR; have bb := mv I aV; have cB := mv I bZ; have bx := mv I dP; have bu := mv I a8; have eH := ak (aa); have jA := bx.out.cell 0 _ rfl; have gR := bx.out.cell 1 _ rfl; have jz := bx.out.cell 2 _ rfl; have jy := bx.out.cell 3 _ rfl; have jx := bx.out.cell 4 _ rfl; have gv := bx.out.cell 5 _ rfl; clear J aa I aY ch dE cx dX cR aV bZ dP a8))
 go_cut [9] from 38 to 39 (fun s9 wx => s9 = .slice Al lt.length cl ∧ W5 = wx)
 case first =>
  rcases Nat.lt_or_ge 80 l.length with k8 | k8
  ·have kZ : decide ((80 : Int) < (l.length : Int)) = true := by simp; omega
   have tJ : (((0 : Int) ≤ 80 ∧ (80 : Int) ≤ (cl : Int)) = True) := eq_true ⟨by omega, by have := HCL.out; omega⟩
   have tI : (((80 : Int) ≤ (cl : Int)) = True) := eq_true (by have := HCL.out; omega)
   go_wp2_with fail
   go_meet
   exact ⟨by rw [HLL.out, Nat.min_eq_left (by omega)], rfl⟩
  ·have kZ : decide ((80 : Int) < (l.length : Int)) = false := by simp; omega
   go_wp2_with fail
   go_meet
   exact ⟨by rw [HLL.out, Nat.min_eq_right (by omega)], rfl⟩
 case rest =>
 obtain ⟨fY, fX⟩ := hcut
 subst fY
 subst fX
 go_wp2_with (first
  | ((with_reducible refine ax (N := 178) rfl ?_); refine az rfl 57 (.tmp 3) rfl gX rfl _ _ _ bb.out Try.underlying57 rfl 68 (by kernel_rfl) (ag _ _ _ _ _ HL.out) ?_)
  | (go_at_call 54; refine (HBL.out _ _ ⟨_, _, _, _, rfl, ⟨HL.out, (rr cb).1, (rr cb).2, (rr de).1, (rr de).2⟩⟩).mono ?_; rintro e W6 ⟨v_, kX, rfl, aW, e8, I⟩; have HSZ := ak (lb HBASE bf); obtain ⟨iD, oP, oQ, rfl, di, dO⟩ := aW; obtain ⟨A8, c8, rfl⟩ := Kd.R_slice di; obtain ⟨A9, c9, rfl⟩ := Kd.R_slice dO; obtain ⟨Ao, co, rfl⟩ := Kd.R_slice e8; have bG := mv I bf; have cQ := mv I cb; have dt := mv I de; have cY := mv I cJ; have ef := mv I ee; have dD := mv I cG; have bh := mv I bb; have cX := mv I cB; have fh := mv I bx; have bS := mv I bu; have dW := mv I eH; have n6 := ak (Kd.R_lower di HSZ.out); have nY := ak (Kd.R_lower dO HSZ.out); have mF := ak (Kd.R_lower e8 HSZ.out); clear HSZ iD di dO e8 I bf cb de cJ ee cG bb cB bx bu eH jA gR jz jy jx gv)
  | (refine aw (some 25) rfl rfl 57 rfl a9 bP ?_; intro gQ W7 J aa I; have cE := ge bG J; have bk := ne bh J; have tl := ne cX J; have tp := ne fh J; have a7 := ne bS J; have tm := ne dW J; have dU := mv I bG; have eZ := mv I cQ; have je := mv I dt; have fN := mv I cY; have l6 := mv I ef; have jF := mv I dD; have dj := mv I bh; have iN := mv I cX; have nN := mv I fh; have dz := mv I bS; have nM := mv I dW; have n5 := mv I n6; have nX := mv I nY; have mE := mv I mF; have dx := ak (aa); clear J aa I bG cQ dt cY ef dD bh cX fh bS dW n6 nY mF)
  | (refine aN rfl 57 (.tmp 25) (.tmp 183) rfl gQ (aZ nb.addr nb.aff nb.slots (.slice A8 nb.free.length c8) (.slice A9 nb.attrs.length c9)) rfl rfl 57 _ dx.out 68 (by kernel_rfl) (ag _ _ _ _ _ HNL.out) rfl (b4 _ _ _ _ _ rfl rfl) ?_; intro W8 aa J; have gM := gb dU cE J; have kh := gr eZ dx J; have kg := gr je dx J; have ly := gr fN dx J; have m3 := gr l6 dx J; have m5 := gr jF dx J; have gK := gn dj bk J; have lv := gx iN dx J; have mD := gx nN dx J; have fH := gn dz a7 J; have nL := gx nM dx J; have n2 := gr n5 dx J; have nW := gr nX dx J; have pd := gr mE dx J; have nQ := ak (aa); clear aa J dU eZ je fN l6 jF dj iN nN dz nM n5 nX mE dx))
 have aj : Below W8.heap.size W8 W8.drew := bo (Below.refl _ _)
 have ki := mv aj gM; have m8 := mv aj kh; have m7 := mv aj kg; have kV := mv aj ly; have m2 := mv aj m3; have m4 := mv aj m5; have kf := mv aj gK; have kU := mv aj lv; have mC := mv aj mD; have j3 := mv aj fH; have mZ := mv aj nL; have n1 := mv aj n2; have nV := mv aj nW; have uI := mv aj pd; have m0 := mv aj nQ
 clear aj gM kh kg ly m3 m5 gK lv mD fH nL n2 nW pd nQ
 have hB := ki
 have hF := m8
 have hG := m7
 have hS := kV
 have hP := m2
 have hM := m4
 have hX := kf
 have hY := kU
 have hT := mC
 have hZ := j3
 have hU := mZ
 have hC := n1
 have hD := nV
 have hO := uI
 have hQ := m0
 clear ki m8 m7 kV m2 m4 kf kU mC j3 mZ n1 nV uI m0
 refine cW (n := 13) (S := fun w' => aH w' gY (da b.addr b.aff (.slice As b.slots.length cs) (.slice Ap b.free.length cp) (.slice Am M.length cm)) 62 ∧ aH w' gT [.int .i64 6, .int .i64 n, .string a.f0, .string a.f1, .slice Al l.length cl, .string aff] 79) (ds := []) #[false, false, false, false, false, false, false, false, false, false, false, false, false] (by kernel_rfl) rfl rfl ⟨hY.out, hT.out⟩ (fun hHeld => ?_); refine bK qN.tab28 qN.bits28 (fun ab bj => ?_)
 refine tk 0 ab.out bj.out hHeld ?_ (hv := by exact fun _ aU => aI 62 (.tmp 4) rfl gY rfl _ _ _ aU.1 Try.underlying62 rfl (by kernel_rfl))
 refine tk 1 ab.out bj.out hHeld ?_ (hv := by exact fun _ aU => aI 62 (.tmp 4) rfl gY rfl _ _ _ aU.1 Try.underlying62 rfl (by kernel_rfl))
 refine pu 2 ab.out ?_
 refine pu 3 ab.out ?_
 refine tk 4 ab.out bj.out hHeld ?_ (hv := by intro w' aU; have Bl := aU.2.cell 3 _ rfl; go_simp; with_reducible rfl)
 refine pw (σ := Nat × Option Addr × Nat × Value × Value) 2 #[true, true, true, true, true, true, true, true, true, true, true, false, false] (fun s => [(192, .slice s.2.1 ul.length s.2.2.1), (193, .tuple #[s.2.2.2.1, s.2.2.2.2]), (186, .tuple #[s.2.2.2.1, s.2.2.2.2]), (194, s.2.2.2.1), (195, s.2.2.2.2), (28, .pointer (some ⟨s.1, 0, none⟩))]) (fun s w' => Aside0 (Below w.heap.size w w') ∧ Aside0 (Kd.R (Kd.int .u8) 5 w' base (fun _ => True) (.slice Af b.free.length cf) b.free) ∧ Aside0 (Kd.R kc 85 w' base (fun _ => True) (.slice Aa b.attrs.length ca) b.attrs) ∧ Aside0 (Kd.R (Kd.int .i64) 3 w' base (fun _ => True) (.slice As b.slots.length cs) b.slots) ∧ Aside0 (Kd.R (Kd.int .i64) 3 w' base (fun _ => True) (.slice Ap b.free.length cp) b.free) ∧ Aside0 (Kd.R g8 76 w' base (fun _ => True) (.slice Am M.length cm) M) ∧ Aside0 (aH w' gX (aZ b.addr b.aff b.slots (.slice Af b.free.length cf) (.slice Aa b.attrs.length ca)) 57) ∧ Aside0 (aH w' gY (da b.addr b.aff (.slice As b.slots.length cs) (.slice Ap b.free.length cp) (.slice Am M.length cm)) 62) ∧ Aside0 (aH w' gT [.int .i64 6, .int .i64 n, .string a.f0, .string a.f1, .slice Al l.length cl, .string aff] 79) ∧ Aside0 (aH w' gZ a9 57) ∧ Aside0 (aH w' gU dG 62) ∧ Aside0 (Kd.R (Kd.int .u8) 5 w' base (fun _ => True) (.slice A8 nb.free.length c8) nb.free) ∧ Aside0 (Kd.R kc 85 w' base (fun _ => True) (.slice A9 nb.attrs.length c9) nb.attrs) ∧ Aside0 (Kd.R (Kd.int .u32) 46 w' base (fun _ => True) (.slice Ao oo.length co) oo) ∧ Aside0 (aH w' gQ (aZ nb.addr nb.aff nb.slots (.slice A8 nb.free.length c8) (.slice A9 nb.attrs.length c9)) 57) ∧ Aside0 (aH w' s.1 dG 62) ∧ Aside0 (w.heap.size ≤ s.1) ∧ Aside0 (gY ≠ s.1) ∧ Aside0 (gU ≠ s.1) ∧ Aside0 (Kd.R (Kd.int .u32) 46 w' base (fun _ => True) (.slice s.2.1 ul.length s.2.2.1) ul) ∧ Aside0 (eG w' base s.2.2.2.1 nb) ∧ Aside0 (Kd.R (Kd.int .u32) 46 w' base (fun _ => True) s.2.2.2.2 oo)) ?_ ?_
 rotate_left
 ·intro en
  refine tw 5 10 ab.out (fun K hK => ?_) (fun K hK => ?_)
  ·skip
   refine gs Try.func63 #[.agg (da b.addr b.aff (.slice As b.slots.length cs) (.slice Ap b.free.length cp) (.slice Am M.length cm)).toArray, .string ⟨#[]⟩, .string a.f1] (HGV.out _ _ ⟨M, As, cs, Ap, cp, Am, cm, rfl, (jd.of HM.out hS.out hP.out hM.out)⟩) ?_
   rintro e V5 ⟨K0, rfl, qm, I⟩
   refine ⟨_, rfl, ?_⟩
   have hL := ak (Kd.R_lower qm (lb HBASE hB)); obtain ⟨Au, cu, rfl⟩ := Kd.R_slice hL.out; (try replace hV := mv I hV); replace hB := mv I hB; replace hF := mv I hF; replace hG := mv I hG; replace hS := mv I hS; replace hP := mv I hP; replace hM := mv I hM; replace hX := mv I hX; replace hY := mv I hY; replace hT := mv I hT; replace hZ := mv I hZ; replace hU := mv I hU; replace hC := mv I hC; replace hD := mv I hD; replace hO := mv I hO; replace hQ := mv I hQ; clear qm I
   refine kn hK ⟨hY.out, hT.out⟩ (fun hHeld => ?_)
   clear hK K
   refine tw 6 10 ab.out (fun K hK => ?_) (fun K hK => ?_)
   ·skip
    refine gs Try.func84 #[.agg (da b.addr b.aff (.slice As b.slots.length cs) (.slice Ap b.free.length cp) (.slice Am M.length cm)).toArray, .slice Au ul.length cu] (HRL.out _ _ _ _ ⟨M, As, cs, Ap, cp, Am, cm, rfl, (jd.of HM.out hS.out hP.out hM.out)⟩ (Kd.R_reads' hL.out).2.2) ?_
    rintro e V6 ⟨v9, pR, rfl, fC, kY, I⟩
    refine ⟨_, rfl, ?_⟩
    have ks := ak (eG.lower' fC (lb HBASE hB)); have dr := ak (Kd.R_lower kY (lb HBASE hB)); (try replace hL := mv I hL); (try replace hV := mv I hV); replace hB := mv I hB; replace hF := mv I hF; replace hG := mv I hG; replace hS := mv I hS; replace hP := mv I hP; replace hM := mv I hM; replace hX := mv I hX; replace hY := mv I hY; replace hT := mv I hT; replace hZ := mv I hZ; replace hU := mv I hU; replace hC := mv I hC; replace hD := mv I hD; replace hO := mv I hO; replace hQ := mv I hQ; clear fC kY I
    refine kn hK ⟨hY.out, hT.out⟩ (fun hHeld => ?_)
    clear hK K
    refine pu 7 ab.out ?_
    refine pu 8 ab.out ?_
    refine pu 9 ab.out ?_
    refine on 10 ab.out (fun K hK => ?_)
    refine dM (by rfl) 62 rfl dG (fun _ => by kernel_rfl) ?_
    intro gV wJ J aa I
    have df := ge hB J
    have eC := ne hY J
    have dV := ne hU J
    (try replace hL := mv I hL)
    (try replace ks := mv I ks)
    (try replace dr := mv I dr)
    replace hB := mv I hB
    replace hF := mv I hF
    replace hG := mv I hG
    replace hS := mv I hS
    replace hP := mv I hP
    replace hM := mv I hM
    replace hX := mv I hX
    replace hY := mv I hY
    replace hT := mv I hT
    replace hZ := mv I hZ
    replace hU := mv I hU
    replace hC := mv I hC
    replace hD := mv I hD
    replace hO := mv I hO
    replace hQ := mv I hQ
    have hV := ak aa
    clear J aa I
    refine kn hK ⟨hY.out, hT.out⟩ (fun hHeld => ?_)
    clear hK K
    exact nc (en ⟨gV, Au, cu, v9, pR⟩ _ ⟨hB, hF, hG, hS, hP, hM, hX, hY, hT, hZ, hU, hC, hD, hO, hQ, hV, df, eC, dV, hL, ks, dr⟩)
   ·skip
    refine dM (by rfl) 62 rfl dG (fun _ => by kernel_rfl) ?_
    intro gV wJ J aa I
    have df := ge hB J
    have eC := ne hY J
    have dV := ne hU J
    (try replace hL := mv I hL)
    (try replace ks := mv I ks)
    (try replace dr := mv I dr)
    replace hB := mv I hB
    replace hF := mv I hF
    replace hG := mv I hG
    replace hS := mv I hS
    replace hP := mv I hP
    replace hM := mv I hM
    replace hX := mv I hX
    replace hY := mv I hY
    replace hT := mv I hT
    replace hZ := mv I hZ
    replace hU := mv I hU
    replace hC := mv I hC
    replace hD := mv I hD
    replace hO := mv I hO
    replace hQ := mv I hQ
    have hV := ak aa
    clear J aa I
    refine kn hK ⟨hY.out, hT.out⟩ (fun hHeld => ?_)
    clear hK K
    refine on 6 ab.out (fun K hK => ?_)
    refine gs Try.func84 #[.agg (da b.addr b.aff (.slice As b.slots.length cs) (.slice Ap b.free.length cp) (.slice Am M.length cm)).toArray, .slice Au ul.length cu] (HRL.out _ _ _ _ ⟨M, As, cs, Ap, cp, Am, cm, rfl, (jd.of HM.out hS.out hP.out hM.out)⟩ (Kd.R_reads' hL.out).2.2) ?_
    rintro e V6 ⟨v9, pR, rfl, fC, kY, I⟩
    refine ⟨_, rfl, ?_⟩
    have ks := ak (eG.lower' fC (lb HBASE hB)); have dr := ak (Kd.R_lower kY (lb HBASE hB)); (try replace hL := mv I hL); (try replace hV := mv I hV); replace hB := mv I hB; replace hF := mv I hF; replace hG := mv I hG; replace hS := mv I hS; replace hP := mv I hP; replace hM := mv I hM; replace hX := mv I hX; replace hY := mv I hY; replace hT := mv I hT; replace hZ := mv I hZ; replace hU := mv I hU; replace hC := mv I hC; replace hD := mv I hD; replace hO := mv I hO; replace hQ := mv I hQ; clear fC kY I
    refine kn hK ⟨hY.out, hT.out⟩ (fun hHeld => ?_)
    clear hK K
    refine pu 7 ab.out ?_
    refine pu 8 ab.out ?_
    refine pu 9 ab.out ?_
    exact nc (en ⟨gV, Au, cu, v9, pR⟩ _ ⟨hB, hF, hG, hS, hP, hM, hX, hY, hT, hZ, hU, hC, hD, hO, hQ, hV, df, eC, dV, hL, ks, dr⟩)
  ·skip
   refine dM (by rfl) 62 rfl dG (fun _ => by kernel_rfl) ?_
   intro gV wJ J aa I
   have df := ge hB J
   have eC := ne hY J
   have dV := ne hU J
   (try replace hL := mv I hL)
   (try replace ks := mv I ks)
   (try replace dr := mv I dr)
   replace hB := mv I hB
   replace hF := mv I hF
   replace hG := mv I hG
   replace hS := mv I hS
   replace hP := mv I hP
   replace hM := mv I hM
   replace hX := mv I hX
   replace hY := mv I hY
   replace hT := mv I hT
   replace hZ := mv I hZ
   replace hU := mv I hU
   replace hC := mv I hC
   replace hD := mv I hD
   replace hO := mv I hO
   replace hQ := mv I hQ
   have hV := ak aa
   clear J aa I
   refine kn hK ⟨hY.out, hT.out⟩ (fun hHeld => ?_)
   clear hK K
   refine on 5 ab.out (fun K hK => ?_)
   refine gs Try.func63 #[.agg (da b.addr b.aff (.slice As b.slots.length cs) (.slice Ap b.free.length cp) (.slice Am M.length cm)).toArray, .string ⟨#[]⟩, .string a.f1] (HGV.out _ _ ⟨M, As, cs, Ap, cp, Am, cm, rfl, (jd.of HM.out hS.out hP.out hM.out)⟩) ?_
   rintro e V5 ⟨K0, rfl, qm, I⟩
   refine ⟨_, rfl, ?_⟩
   have hL := ak (Kd.R_lower qm (lb HBASE hB)); obtain ⟨Au, cu, rfl⟩ := Kd.R_slice hL.out; (try replace hV := mv I hV); replace hB := mv I hB; replace hF := mv I hF; replace hG := mv I hG; replace hS := mv I hS; replace hP := mv I hP; replace hM := mv I hM; replace hX := mv I hX; replace hY := mv I hY; replace hT := mv I hT; replace hZ := mv I hZ; replace hU := mv I hU; replace hC := mv I hC; replace hD := mv I hD; replace hO := mv I hO; replace hQ := mv I hQ; clear qm I
   refine kn hK ⟨hY.out, hT.out⟩ (fun hHeld => ?_)
   clear hK K
   refine on 6 ab.out (fun K hK => ?_)
   refine gs Try.func84 #[.agg (da b.addr b.aff (.slice As b.slots.length cs) (.slice Ap b.free.length cp) (.slice Am M.length cm)).toArray, .slice Au ul.length cu] (HRL.out _ _ _ _ ⟨M, As, cs, Ap, cp, Am, cm, rfl, (jd.of HM.out hS.out hP.out hM.out)⟩ (Kd.R_reads' hL.out).2.2) ?_
   rintro e V6 ⟨v9, pR, rfl, fC, kY, I⟩
   refine ⟨_, rfl, ?_⟩
   have ks := ak (eG.lower' fC (lb HBASE hB)); have dr := ak (Kd.R_lower kY (lb HBASE hB)); (try replace hL := mv I hL); (try replace hV := mv I hV); replace hB := mv I hB; replace hF := mv I hF; replace hG := mv I hG; replace hS := mv I hS; replace hP := mv I hP; replace hM := mv I hM; replace hX := mv I hX; replace hY := mv I hY; replace hT := mv I hT; replace hZ := mv I hZ; replace hU := mv I hU; replace hC := mv I hC; replace hD := mv I hD; replace hO := mv I hO; replace hQ := mv I hQ; clear fC kY I
   refine kn hK ⟨hY.out, hT.out⟩ (fun hHeld => ?_)
   clear hK K
   refine pu 7 ab.out ?_
   refine pu 8 ab.out ?_
   refine pu 9 ab.out ?_
   exact nc (en ⟨gV, Au, cu, v9, pR⟩ _ ⟨hB, hF, hG, hS, hP, hM, hX, hY, hT, hZ, hU, hC, hD, hO, hQ, hV, df, eC, dV, hL, ks, dr⟩)
 intro s w' hFF; obtain ⟨gV, Au, cu, v9, pR⟩ := s; simp only at hFF; obtain ⟨hB, hF, hG, hS, hP, hM, hX, hY, hT, hZ, hU, hC, hD, hO, hQ, hV, df, eC, dV, hL, ks, dr⟩ := hFF; have fC := ks.out; obtain ⟨tT, qE, qF, rfl, fZ, fb, ep⟩ := fC; obtain ⟨A1, c1, rfl⟩ := Kd.R_slice fZ; obtain ⟨A2, c2, rfl⟩ := Kd.R_slice fb; obtain ⟨NM, hNM⟩ : ∃ NM, NM = nb.attrs.map vc := ⟨_, rfl⟩; rw [← hNM] at ep; have HNM := ak hNM; obtain ⟨A3, c3, rfl⟩ := Kd.R_slice ep; obtain ⟨Co, Bz, rfl⟩ := Kd.R_slice dr.out; have hI := ak fZ; have hJ := ak fb; have hE := ak ep; have gq := dr; clear hL ks dr hNM fZ fb ep
 refine nj ?_
 refine ow 11 ab.out (fun K hK => ?_)
 refine bA (by rfl) rfl 62 (.tmp 28) (.tmp 194) rfl gV (da nb.addr nb.aff (.slice A1 nb.slots.length c1) (.slice A2 nb.free.length c2) (.slice A3 NM.length c3)) rfl rfl 62 _ hV.out 5 (by kernel_rfl) rfl rfl (dJ _ _ rfl rfl rfl) ?_
 intro oa aa J; replace hB := gb hB df J; replace hF := gr hF hV J; replace hG := gr hG hV J; replace hS := gr hS hV J; replace hP := gr hP hV J; replace hM := gr hM hV J; replace hX := gx hX hV J; replace hY := gn hY eC J; replace hT := gx hT hV J; replace hZ := gx hZ hV J; replace hU := gn hU dV J; replace hC := gr hC hV J; replace hD := gr hD hV J; replace hO := gr hO hV J; replace hQ := gx hQ hV J; replace hI := gr hI hV J; replace hJ := gr hJ hV J; replace hE := gr hE hV J; replace gq := gr gq hV J; replace hV := ak (aa); clear aa J
 refine hK.out _ _ ⟨hY.out, hT.out⟩ (fun hHeld => ?_)
 clear hK K
 refine pu 12 ab.out ?_
 refine dn ab.out ?_
 clear hHeld
 go_wp2_with fail
 have aj : Below oa.heap.size oa oa.drew := bo (Below.refl _ _)
 have yg := mv aj hB; have xL := mv aj hF; have xE := mv aj hG; have xb := mv aj hS; have xk := mv aj hP; have xq := mv aj hM; have wS := mv aj hX; have wO := mv aj hY; have wZ := mv aj hT; have wL := mv aj hZ; have wV := mv aj hU; have xZ := mv aj hC; have xV := mv aj hD; have xo := mv aj hO; have xg := mv aj hQ; have wU := mv aj hV; have xB := mv aj hI; have xx := mv aj hJ; have xR := mv aj hE; have uJ := mv aj gq
 clear aj hB hF hG hS hP hM hX hY hT hZ hU hC hD hO hQ hV hI hJ hE gq
 have hB := yg
 have hF := xL
 have hG := xE
 have hS := xb
 have hP := xk
 have hM := xq
 have hX := wS
 have hY := wO
 have hT := wZ
 have hZ := wL
 have hU := wV
 have hC := xZ
 have hD := xV
 have hO := xo
 have hQ := xg
 have hV := wU
 have hI := xB
 have hJ := xx
 have hE := xR
 have gq := uJ
 clear yg xL xE xb xk xq wS wO wZ wL wV xZ xV xo xg wU xB xx xR uJ
 refine cW (n := 12) (S := fun w' => aH w' gQ (aZ nb.addr nb.aff nb.slots (.slice A8 nb.free.length c8) (.slice A9 nb.attrs.length c9)) 57 ∧ aH w' gV (da nb.addr nb.aff (.slice A1 nb.slots.length c1) (.slice A2 nb.free.length c2) (.slice A3 NM.length c3)) 62) (ds := []) #[false, false, false, false, false, false, false, false, false, false, false, false] (by kernel_rfl) rfl rfl ⟨hQ.out, hV.out⟩ (fun hHeld => ?_); refine bK qM.tab29 qM.bits29 (fun ab bj => ?_)
 refine tk 0 ab.out bj.out hHeld ?_ (hv := by exact fun _ aU => aI 57 (.tmp 25) rfl gQ rfl _ _ _ aU.1 Try.underlying57 rfl (HLN _ _ _ _))
 refine tk 1 ab.out bj.out hHeld ?_ (hv := by exact fun _ aU => aI 62 (.tmp 28) rfl gV rfl _ _ _ aU.2 Try.underlying62 rfl (by kernel_rfl))
 refine pu 2 ab.out ?_
 refine pu 3 ab.out ?_
 refine pu 4 ab.out ?_
 refine pu 5 ab.out ?_
 refine pu 6 ab.out ?_
 refine on 7 ab.out (fun K hK => ?_)
 refine gs Try.func61 #[(.slice Ao oo.length co), (.slice Co oo.length Bz)] (nD oo HOL.out _ _ _ _ _ (Kd.R_reads' hO.out).2.2 (Kd.R_reads' hO.out).2.1 (Kd.R_reads' gq.out).2.2 (Kd.R_reads' gq.out).2.1) ?_
 rintro e V7 ⟨rfl, I⟩
 refine ⟨_, rfl, ?_⟩
 replace hB := mv I hB; replace hF := mv I hF; replace hG := mv I hG; replace hS := mv I hS; replace hP := mv I hP; replace hM := mv I hM; replace hX := mv I hX; replace hY := mv I hY; replace hT := mv I hT; replace hZ := mv I hZ; replace hU := mv I hU; replace hC := mv I hC; replace hD := mv I hD; replace hO := mv I hO; replace hQ := mv I hQ; replace hV := mv I hV; replace hI := mv I hI; replace hJ := mv I hJ; replace hE := mv I hE; replace gq := mv I gq
 refine kn hK ⟨hQ.out, hV.out⟩ (fun hHeld => ?_)
 clear hK K
 refine pu 8 ab.out ?_
 refine ow 9 ab.out (fun K hK => ?_)
 refine bA (by rfl) rfl 57 (.tmp 6) (.tmp 196) rfl gZ (aZ nb.addr nb.aff nb.slots (.slice A8 nb.free.length c8) (.slice A9 nb.attrs.length c9)) rfl rfl 57 _ hZ.out 68 (by kernel_rfl) (ag _ _ _ _ _ HNL.out) rfl (b4 _ _ _ _ _ rfl rfl) ?_
 intro V9 aa J; replace hB := gb hB bN J; replace hF := gr hF hZ J; replace hG := gr hG hZ J; replace hS := gr hS hZ J; replace hP := gr hP hZ J; replace hM := gr hM hZ J; replace hX := gn hX aG J; replace hY := gx hY hZ J; replace hT := gx hT hZ J; replace hU := gx hU hZ J; replace hC := gr hC hZ J; replace hD := gr hD hZ J; replace hO := gr hO hZ J; replace hQ := gm hQ a7 J; replace hV := gx hV hZ J; replace hI := gr hI hZ J; replace hJ := gr hJ hZ J; replace hE := gr hE hZ J; replace gq := gr gq hZ J; replace hZ := ak (aa); clear aa J
 refine hK.out _ _ ⟨hQ.out, hV.out⟩ (fun hHeld => ?_)
 clear hK K
 refine ow 10 ab.out (fun K hK => ?_)
 refine bA (by rfl) rfl 62 (.tmp 7) (.tmp 197) rfl gU (da nb.addr nb.aff (.slice A1 nb.slots.length c1) (.slice A2 nb.free.length c2) (.slice A3 NM.length c3)) rfl rfl 62 _ hU.out 5 (by kernel_rfl) rfl rfl (dJ _ _ rfl rfl rfl) ?_
 intro wJ aa J; replace hB := gb hB fu J; replace hF := gr hF hU J; replace hG := gr hG hU J; replace hS := gr hS hU J; replace hP := gr hP hU J; replace hM := gr hM hU J; replace hX := gx hX hU J; replace hY := gn hY dw J; replace hT := gx hT hU J; replace hZ := gx hZ hU J; replace hC := gr hC hU J; replace hD := gr hD hU J; replace hO := gr hO hU J; replace hQ := gx hQ hU J; replace hV := gm hV dV J; replace hI := gr hI hU J; replace hJ := gr hJ hU J; replace hE := gr hE hU J; replace gq := gr gq hU J; replace hU := ak (aa); clear aa J
 refine hK.out _ _ ⟨hQ.out, hV.out⟩ (fun hHeld => ?_)
 clear hK K
 refine pu 11 ab.out ?_
 refine dn ab.out ?_
 clear hHeld
 go_wp2_with fail
 refine bodyPost_ret (eK rfl _ _ _ gZ gU 57 62 _ _ _ _ rfl hZ.out rfl Try.underlying57 (by first | exact HLB.out | exact HLN _ _ _ _) rfl hU.out rfl Try.underlying62 (by kernel_rfl)) rfl ⟨_, _, nb, rfl, ?_, ?_, ?_, hB.out⟩
 ·exact HRG.out
 ·exact ⟨HNL.out, _, _, rfl, hC.out, hD.out⟩
 ·exact ⟨_, _, _, rfl, hI.out, hJ.out, by rw [← HNM.out]; exact hE.out⟩
end Go.Proofs.Ytemhalnhbgkbcaa.V
end

section
namespace Go.Proofs.Ytemhalnhbgkbcaa.V
theorem LU (b : Bk) (hg : RG b) (kd : Int) (n : Int) (hn : n < 9223372036854775808) (a : kz) (e7 : a.f0.size ≤ 9223372036854775807) (fE : a.f1.size ≤ 9223372036854775807) (l : List Int) (hu : ∀ x ∈ l, 0 ≤ x ∧ x < 4294967296) (hlm : l.length ≤ 9223372036854775807) (Al : Option Addr) (cl : Nat) (hcl : l.length ≤ cl) (aff : ByteArray) (hza : aff.size ≤ 9223372036854775807) (v v2 : Value) (w : World) (base : Nat) (hbase : base ≤ w.heap.size) (hO : ea w base v b) (hR : eG w base v2 b) (hC : Kd.C (Kd.int .u32) w Al l.length l) :
  Calls Try.prog 47 #[v, v2, .agg #[.int .i64 kd, .int .i64 n, .string a.f0, .string a.f1, .slice Al l.length cl, .string aff]] w fun e w' => ∃ v1 v2 b', e = .returned (.tuple #[v1, v2, .bool true]) ∧ RG b' ∧ ea w' base v1 b' ∧ eG w' base v2 b' ∧ Below w.heap.size w w' := by
 by_cases k0 : kd = 0 ∨ kd = 1
 ·cases hma : eo (cv a) with
  | false => exact Kx b hg kd k0 n hn a e7 fE l hu hlm Al cl hcl aff hza hma v v2 w base hbase hO hR hC
  | true =>
   rcases Int.lt_or_le n 0 with lP | lP
   ·exact Kw b hg kd k0 n hn a e7 fE l hu hlm Al cl hcl aff hza hma lP v v2 w base hbase hO hR hC
   ·exact LS b hg kd k0 n hn a e7 fE l hu hlm Al cl hcl aff hza hma lP v v2 w base hbase hO hR hC
 by_cases k2 : kd = 2 ∨ kd = 3
 ·rcases Nat.eq_zero_or_pos l.length with he | he
  ·exact LR b hg kd k2 n hn a e7 fE l hu hlm Al cl hcl aff hza (List.length_eq_zero_iff.1 he) v v2 w base hbase hO hR hC
  ·exact MW b hg kd k2 n hn a e7 fE l hu hlm Al cl hcl aff hza he v v2 w base hbase hO hR hC
 by_cases k4 : kd = 4
 ·subst k4
  exact LP b hg n hn a e7 fE l hu hlm Al cl hcl aff hza v v2 w base hbase hO hR hC
 by_cases k5 : kd = 5
 ·subst k5
  by_cases he : a.f0.toList = []
  ·exact GK b hg n hn a e7 fE l hu hlm Al cl hcl aff hza he v v2 w base hbase hO hR hC
  ·exact Kv b hg n hn a e7 fE l hu hlm Al cl hcl aff hza he v v2 w base hbase hO hR hC
 by_cases k6 : kd = 6
 ·subst k6
  by_cases he : a.f1.toList = []
  ·exact GJ b hg n hn a e7 fE l hu hlm Al cl hcl aff hza he v v2 w base hbase hO hR hC
  ·exact Ku b hg n hn a e7 fE l hu hlm Al cl hcl aff hza he v v2 w base hbase hO hR hC
 by_cases k7 : kd = 7
 ·subst k7
  cases how : fW aff with
  | true => exact LQ b hg n hn a e7 fE l hu hlm Al cl hcl aff hza how v v2 w base hbase hO hR hC
  | false => exact Kt b hg n hn a e7 fE l hu hlm Al cl hcl aff hza how v v2 w base hbase hO hR hC
 exact GI b hg kd n hn a e7 fE l hu hlm Al cl hcl aff hza ⟨by omega, by omega, by omega, by omega, k4, k5, k6, k7⟩ v v2 w base hbase hO hR hC
end Go.Proofs.Ytemhalnhbgkbcaa.V
end

section
namespace Go.Proofs.Ytemhalnhbgkbcaa.V
open Go.ChangeShapes Go.WideShapes
set_option maxRecDepth 100000
theorem G7 {z : Int} (h : (Lit.int .u8 z).wf = true) : 0 ≤ z ∧ z < 256 := by
 have : 0 ≤ z ∧ z ≤ 255 := by simpa [Lit.wf, IntKind.min, IntKind.max, IntKind.signed, IntKind.bits] using h
 omega
theorem Ac {z : Int} (h : (Lit.int .u32 z).wf = true) : 0 ≤ z ∧ z < 4294967296 := by
 have : 0 ≤ z ∧ z ≤ 4294967295 := by simpa [Lit.wf, IntKind.min, IntKind.max, IntKind.signed, IntKind.bits] using h
 omega
theorem CY {α : Type} (P : Nat → α → Prop) : ∀ n, (∀ i, i < n → ∃ a, P i a) → ∃ xs : List α, xs.length = n ∧ ∀ i a, xs[i]? = some a → P i a
 | 0, _ => ⟨[], rfl, by simp⟩
 | n + 1, h => by
  obtain ⟨xs, h1, h2⟩ := CY P n (fun i hi => h i (by omega))
  obtain ⟨a, ha⟩ := h n (by omega)
  refine ⟨xs ++ [a], by simp [h1], fun i b hb => ?_⟩
  rcases Nat.lt_trichotomy i n with hi | hi | hi
  ·rw [List.getElem?_append_left (by omega)] at hb
   exact h2 i b hb
  ·subst hi
   rw [← h1, List.getElem?_concat_length] at hb
   obtain rfl := Option.some.inj hb
   exact ha
  ·rw [List.getElem?_eq_none (by simp; omega)] at hb
   cases hb
section
variable {H : Type} {enc : TypeId × Value → H} {w : World} {base b0 : Nat} {held : Bool}
end
end Go.Proofs.Ytemhalnhbgkbcaa.V
end

section
namespace Go.Proofs.Ytemhalnhbgkbcaa.V
open Go.ChangeShapes Go.WideShapes
set_option maxRecDepth 100000
structure St where
 kd : Int
 n : Int
 a : S76
 l : List Int
 A : Option Addr
 c : Nat
 aff : ByteArray
def St.cells (s : St) : List Value := [.int .i64 s.kd, .int .i64 s.n, .string s.a.f0, .string s.a.f1, .slice s.A s.l.length s.c, .string s.aff]
structure St.Ok (w : World) (s : St) : Prop where
 n : s.n < 9223372036854775808
 z0 : s.a.f0.size ≤ 9223372036854775807
 z1 : s.a.f1.size ≤ 9223372036854775807
 u : ∀ x ∈ s.l, 0 ≤ x ∧ x < 4294967296
 lm : s.l.length ≤ 9223372036854775807
 lc : s.l.length ≤ s.c
 r : Kd.C (Kd.int .u32) w s.A s.l.length s.l
 za : s.aff.size ≤ 9223372036854775807
def G6 : St := ⟨0, 0, ⟨⟨#[]⟩, ⟨#[]⟩⟩, [], none, 0, ⟨#[]⟩⟩
structure StepsIs (w : World) (v : Value) (l : List St) : Prop where
 lm : l.length ≤ 9223372036854775807
 ok : ∀ s ∈ l, s.Ok w
 v : ∃ A c, v = .slice A l.length c ∧ l.length ≤ c ∧ ∀ i, i < l.length → ∃ ad, A = some ad ∧ ∀ j u, (l.getD i G6).cells[j]? = some u → w.cell? (ad.add (i * 6 + j)) = some u
section
variable {H : Type} {enc : TypeId × Value → H} {w : World} {base b0 : Nat} {held : Bool}
theorem EI {cs : List Value} {fuel : Nat} {x : DataW H × List MemPlace} (h : DataW.trod enc Try.prog w base (fun _ => true) held fuel 79 cs = some x) : ∃ s : St, s.Ok w ∧ cs = s.cells := by
 obtain ⟨xs, k, hk, hxy, hl, hxl, hfd⟩ := DataW.trod_struct Try.underlying79 h
 have hsz : cs.length = 6 := hl.trans (by kernel_rfl)
 have g0 := hfd 0 _ rfl
 have g1 := hfd 1 _ rfl
 have g2 := hfd 2 _ rfl
 have g3 := hfd 3 _ rfl
 have g4 := hfd 4 _ rfl
 have E3 : xs.length = 5 := hxl
 have y0 : ∃ y, xs[0]? = some y := ⟨_, List.getElem?_eq_getElem (by omega)⟩
 have y1 : ∃ y, xs[1]? = some y := ⟨_, List.getElem?_eq_getElem (by omega)⟩
 have y2 : ∃ y, xs[2]? = some y := ⟨_, List.getElem?_eq_getElem (by omega)⟩
 have y3 : ∃ y, xs[3]? = some y := ⟨_, List.getElem?_eq_getElem (by omega)⟩
 have y4 : ∃ y, xs[4]? = some y := ⟨_, List.getElem?_eq_getElem (by omega)⟩
 obtain ⟨q0, y0⟩ := y0; obtain ⟨q1, y1⟩ := y1; obtain ⟨q2, y2⟩ := y2; obtain ⟨q3, y3⟩ := y3; obtain ⟨q4, y4⟩ := y4
 rw [y0] at g0; rw [y1] at g1; rw [y2] at g2; rw [y3] at g3; rw [y4] at g4
 have c3 : Try.prog.cellsOf 3 = 1 := by kernel_rfl
 have c9 : Try.prog.cellsOf 9 = 1 := by kernel_rfl
 have cL : Try.prog.cellsOf 77 = 1 := by kernel_rfl
 have cu : Try.prog.cellsOf 46 = 1 := by kernel_rfl
 have SG : Try.prog.cellsOf 76 = 2 := by kernel_rfl
 obtain ⟨z0, e0, _, w0⟩ := DataW.trod_int Try.underlying3 g0
 obtain ⟨z1, e1, _, w1⟩ := DataW.trod_int Try.underlying3 g1
 obtain ⟨p0, p1, n, _, _, h0, h1⟩ := trod_struct2 Try.underlying76 g2
 obtain ⟨s0, u0, _, v0⟩ := DataW.trod_string Try.underlying9 h0
 obtain ⟨s1, u1, _, v1⟩ := DataW.trod_string Try.underlying9 h1
 obtain ⟨s2, u2, _, v2⟩ := DataW.trod_string Try.underlying9 g4
 match cs, hsz with
 | [a0, a1, a2, a3, a4, a5], _ =>
  have Oq : ([a0, a1, a2, a3, a4, a5].drop 0).take (Try.prog.cellsOf 3) = [Value.int .i64 z0] := e0
  have Oo : ([a0, a1, a2, a3, a4, a5].drop 1).take (Try.prog.cellsOf 3) = [Value.int .i64 z1] := e1
  have Oe : ((([a0, a1, a2, a3, a4, a5].drop 2).take (Try.prog.cellsOf 76)).drop 0).take (Try.prog.cellsOf 9) = [Value.string s0] := u0
  have Od : ((([a0, a1, a2, a3, a4, a5].drop 2).take (Try.prog.cellsOf 76)).drop 1).take (Try.prog.cellsOf 9) = [Value.string s1] := u1
  have Ob : ([a0, a1, a2, a3, a4, a5].drop 5).take (Try.prog.cellsOf 9) = [Value.string s2] := u2
  rw [c3] at Oq Oo
  rw [SG, c9] at Oe Od
  rw [c9] at Ob
  obtain rfl : a0 = Value.int .i64 z0 := by simpa using Oq
  obtain rfl : a1 = Value.int .i64 z1 := by simpa using Oo
  obtain rfl : a2 = Value.string s0 := by simpa using Oe
  obtain rfl : a3 = Value.string s1 := by simpa using Od
  obtain rfl : a5 = Value.string s2 := by simpa using Ob
  obtain ⟨A, c, fr, e3, hfc, hcm, hfC, Se⟩ : ∃ (A : Option Addr) (c : Nat) (fr : List Int), a4 = Value.slice A fr.length c ∧ fr.length ≤ c ∧ c ≤ maxLen ∧ Kd.C (Kd.int .u32) w A fr.length fr ∧ ∀ x ∈ fr, 0 ≤ x ∧ x < 4294967296 := by
   rcases open_ints Try.underlying77 Try.underlying46 cu g3 with ⟨hcs, _⟩ | ⟨x, l, c, ys, hcs, _, hl, hm, hy, _, hcell, hwy⟩
   ·have hcs' : ([Value.int .i64 z0, Value.int .i64 z1, Value.string s0, Value.string s1, a4, Value.string s2].drop 4).take (Try.prog.cellsOf 77) = [.slice none 0 0] := hcs
    rw [cL] at hcs'
    exact ⟨none, 0, [], by simpa using hcs', Nat.le_refl _, by unfold maxLen; omega, Kd.C_nil _ _, by intro x hx; cases hx⟩
   ·have hcs' : ([Value.int .i64 z0, Value.int .i64 z1, Value.string s0, Value.string s1, a4, Value.string s2].drop 4).take (Try.prog.cellsOf 77) = [.slice (some x) l c] := hcs
    rw [cL] at hcs'
    rw [if_pos rfl] at hy
    have hlen : (ys.take l).length = l := by rw [List.length_take]; omega
    refine ⟨some x, c, ys.take l, by rw [hlen]; simpa using hcs', by omega, hm, ?_, fun n hn => Ac (hwy n (List.mem_of_mem_take hn))⟩
    refine Kd.C_of_reads (enc := Value.int .u32) (d := 0) (h1 := fun _ => rfl) ⟨rfl, by unfold maxLen at hm; omega, fun _ => ⟨x, rfl, fun j hj => ?_⟩⟩
    rw [hlen] at hj
    rw [hcell j (by omega)]
    congr 2
    simp only [List.getD_eq_getElem?_getD, List.getElem?_take, hj, if_true]
  subst e3
  have RI : z1 < 9223372036854775808 := by
   have : -9223372036854775808 ≤ z1 ∧ z1 ≤ 9223372036854775807 := by simpa [Lit.wf, IntKind.min, IntKind.max, IntKind.signed, IntKind.bits] using w1
   omega
  refine ⟨⟨z0, z1, ⟨s0, s1⟩, fr, A, c, s2⟩, ⟨RI, by unfold maxLen at v0; exact v0, by unfold maxLen at v1; exact v1, Se, by unfold maxLen at hcm; show fr.length ≤ _; omega, hfc, hfC, by unfold maxLen at v2; exact v2⟩, rfl⟩
theorem open_steps {v : Value} {d : DataW H} {ps : List MemPlace} (hval : Value.okWide Try.prog w .any b0 70 v) (hd : DataW.Trod enc Try.prog w base (fun _ => true) held 70 v d ps) : ∃ l : List St, StepsIs w v l := by
 obtain ⟨A, l, c, rfl⟩ := okWide_slice Try.underlying70 hval
 obtain ⟨fuel, hf⟩ := hd
 have SF : Try.prog.cellsOf 79 = 6 := by kernel_rfl
 rcases Go.Deep.open_slice Try.underlying70 hf with ⟨hcs, _⟩ | ⟨x, len, cap, m, n, D, Pl, hcs, _, hl, hm, hmm, _, hel⟩
 ·simp [Value.cells] at hcs
  obtain ⟨rfl, rfl, rfl⟩ := hcs
  exact ⟨[], by simp, (by intro s hs; cases hs), none, 0, rfl, Nat.le_refl _, fun i hi => by simp at hi⟩
 ·simp [Value.cells] at hcs
  obtain ⟨rfl, rfl, rfl⟩ := hcs
  rw [if_pos rfl] at hmm
  obtain ⟨ys, AT, uh⟩ := CY (fun i (s : St) => s.Ok w ∧ ∀ j u, s.cells[j]? = some u → w.cell? (x.add (i * 6 + j)) = some u) l (fun i hi => by
   obtain ⟨cs, h1, h2⟩ := hel i (by omega)
   obtain ⟨s, hs, rfl⟩ := EI h2
   obtain ⟨_, hlen, hc⟩ := World.cells?_some h1
   rw [SF] at hc
   refine ⟨s, hs, fun j u hu => ?_⟩
   have hj : j < 6 := by
    have := (List.getElem?_eq_some_iff.1 hu).1
    exact this
   rw [← hu, ← hc j hj, Go.Deep.add_add])
  refine ⟨ys, by rw [AT]; unfold maxLen at hm; omega, fun s hs => ?_, some x, c, by rw [AT], by omega, fun i hi => ⟨x, rfl, ?_⟩⟩
  ·obtain ⟨j, hj, rfl⟩ := List.getElem_of_mem hs
   exact (uh j _ (List.getElem?_eq_getElem hj)).1
  ·have h2 : ys.getD i G6 = ys[i] := by simp [List.getD, hi]
   rw [h2]
   exact (uh i _ (List.getElem?_eq_getElem hi)).2
end
end Go.Proofs.Ytemhalnhbgkbcaa.V
end

section
namespace Go.Proofs.Ytemhalnhbgkbcaa.V
attribute [local go_sem] ez ew fa e9 ec eb ey ev
def dv.l0 : Nat → Int → Int → ByteArray → List Int → List Int → Option (Int × ByteArray × List Int × List Int × (List (S76)))
 | 0, _, _, _, _, _ => none
 | k + 1, x6, yR, yQ, tP, tO => if x6 < 64 then (if tP.length < 17592186044416 then (if tO.length < 17592186044416 then (dv.l0 k (wrap64 (x6 + 1)) yR yQ (tP ++ [0]) (tO ++ [x6])) else (none)) else (none)) else (some (yR, yQ, tP, tO, ([] : List (S76))))
def dv.f (k : Nat) (a0 : Int) (a1 : ByteArray) : Option (Int × ByteArray × List Int × List Int × (List (S76))) := dv.l0 k 0 ((a0 - (Int.tmod a0 64)) % 4294967296) a1 ([] : List Int) ([] : List Int)
set_option maxHeartbeats 8000000 in
set_option maxRecDepth 100000 in
theorem dv.calls (k : Nat) (a0 : Int) (a1 : ByteArray) (r1 : Int) (r2 : ByteArray) (r3 : List Int) (r4 : List Int) (r5 : List (S76)) (w : World) (h : dv.f k a0 a1 = some (r1, r2, r3, r4, r5)) :
  Calls Try.prog 45 #[.int .u32 a0, .string a1] w fun e w' => ∃ z7 z6 Eo : Value, e = .returned (.agg #[.int .u32 r1, .string r2, z7, z6, Eo]) ∧ Kd.R (Kd.int .i64) 3 w' w.heap.size (fun k_ => some k_ ≠ (z6 : Value).ownBlock) z7 r3 ∧ Kd.R (Kd.int .i64) 3 w' w.heap.size (fun k_ => some k_ ≠ (z7 : Value).ownBlock) z6 r4 ∧ Kd.R g8 76 w' w.heap.size (fun _ => True) Eo r5 ∧ Below w.heap.size w w' := by
 have Gp := Try.underlying62
 have HB := ak (Below.refl w.heap.size w)
 have H : (dv.l0 k 0 ((a0 - (Int.tmod a0 64)) % 4294967296) a1 ([] : List Int) ([] : List Int)) = some (r1, r2, r3, r4, r5) := h
 clear h
 have H' := ak H
 clear H
 go_enter Try.func45, Try.ntmps45
 go_wp2_with (first | ((with_reducible refine ax (N := 4) rfl ?_); refine eX ?hg (N := 4) ?hd (cs := #[.int .u32 0, .string (⟨#[]⟩ : ByteArray), .slice none 0 0, .slice none 0 0, .slice none 0 0]) (t := 62) ?hr ?_; (case hd => rfl); (case hg => rfl); (case hr => first | (go_simp; done) | (go_simp; rfl)); intro eW hg w3 hbox hb; have cA := ak (bE (by repeat (first | (with_reducible first | exact HB.out | apply al | apply af | apply aq) | exact HB.out)) hb); have cP := ak (hbox); have dh := ak ((by rw [hg]; exact (bs (by repeat (first | (with_reducible first | exact HB.out | apply al | apply af | apply aq) | exact HB.out))) : w.heap.size ≤ eW)); have dN := ak ((by rw [hg]; exact (bs (by repeat (first | (with_reducible first | exact HB.out | apply al | apply af | apply aq) | exact HB.out))) : w.heap.size ≤ eW)); clear HB; have HB := cA; have eu := cP; have RH := dh; have lq := dN; clear cA cP dh dN; clear hb hbox hg) | ((with_reducible refine ax (N := 5) rfl ?_); refine eX ?hg (N := 5) ?hd (cs := #[.int .u32 0, .string (⟨#[]⟩ : ByteArray), .slice none 0 0, .slice none 0 0, .slice none 0 0]) (t := 62) ?hr ?_; (case hd => rfl); (case hg => rfl); (case hr => first | (go_simp; done) | (go_simp; rfl)); intro dB hg w4 hbox hb; have cA := ak (eM (g := eW) (o := .cells #[.int .u32 0, .string (⟨#[]⟩ : ByteArray), .slice none 0 0, .slice none 0 0, .slice none 0 0] 62 (0, 0)) (by (with_reducible repeat (first | refine aK ?_ _ | refine aT ?_ | refine aM ?_ _)); exact eu.out) hb); have cP := ak (bE (by repeat (first | (with_reducible first | exact HB.out | apply al | apply af | apply aq | refine aQ ?_ lq.out) | exact HB.out)) hb); have dh := ak (hbox); have dN := ak ((by rw [hg]; exact (bs (by repeat (first | (with_reducible first | exact HB.out | apply al | apply af | apply aq | refine aQ ?_ lq.out) | exact HB.out))) : w.heap.size ≤ dB)); have jb := ak ((by rw [hg]; exact (bs (by repeat (first | (with_reducible first | exact HB.out | apply al | apply af | apply aq | refine aQ ?_ lq.out) | exact HB.out))) : w.heap.size ≤ dB)); have lM := ak ((by rw [hg]; exact Nat.ne_of_lt (jJ (g := eW) (o := .cells #[.int .u32 0, .string (⟨#[]⟩ : ByteArray), .slice none 0 0, .slice none 0 0, .slice none 0 0] 62 (0, 0)) (by (with_reducible repeat (first | refine aK ?_ _ | refine aT ?_ | refine aM ?_ _)); exact eu.out)) : eW ≠ dB)); have oU := ak ((by rw [hg]; exact Nat.ne_of_gt (jJ (g := eW) (o := .cells #[.int .u32 0, .string (⟨#[]⟩ : ByteArray), .slice none 0 0, .slice none 0 0, .slice none 0 0] 62 (0, 0)) (by (with_reducible repeat (first | refine aK ?_ _ | refine aT ?_ | refine aM ?_ _)); exact eu.out)) : dB ≠ eW)); clear eu; clear HB; have eu := cA; have HB := cP; have bB := dh; have RF := dN; have oy := jb; have gj := lM; have pc := oU; clear cA cP dh dN jb lM oU; clear hb hbox hg; have TQ := pc.out; have TN := gj.out; have Bg : w4.cell? ⟨dB, 0, none⟩ = some (.int .u32 0) := (aC bB.out 0).trans rfl; have Bf : w4.cell? ⟨dB, 1, none⟩ = some (.string (⟨#[]⟩ : ByteArray)) := (aC bB.out 1).trans rfl; have Sk : w4.cell? ⟨dB, 2, none⟩ = some (.slice none 0 0) := (aC bB.out 2).trans rfl; have Sj : w4.cell? ⟨dB, 3, none⟩ = some (.slice none 0 0) := (aC bB.out 3).trans rfl; have Si : w4.cell? ⟨dB, 4, none⟩ = some (.slice none 0 0) := (aC bB.out 4).trans rfl; have Ba := ao bB.out 0; have A6 := ao bB.out 1; have R6 := ao bB.out 2; have R5 := ao bB.out 3; have R4 := ao bB.out 4))
 go_loopg [6] k (fun kq v6 w' => ∃ (od : Int) (gJ : List Int) (gg : List Int) (jQ : Value) (gE : Value), v6 = .int .i64 od ∧ Aside0 (dv.l0 kq od ((a0 - (Int.tmod a0 64)) % 4294967296) a1 gJ gg = some (r1, r2, r3, r4, r5)) ∧ Aside0 (kq ≤ k) ∧ Aside0 (Kd.R (Kd.int .i64) 3 w' w.heap.size (fun k_ => some k_ ≠ (gE : Value).ownBlock) jQ gJ) ∧ Aside0 (Kd.R (Kd.int .i64) 3 w' w.heap.size (fun k_ => some k_ ≠ (jQ : Value).ownBlock) gE gg) ∧ Aside0 (w'.heap[eW]? = some (.cells #[.int .u32 0, .string (⟨#[]⟩ : ByteArray), (.slice none 0 0), (.slice none 0 0), (.slice none 0 0)] 62 (0, 0))) ∧ Aside0 (w'.heap[dB]? = some (.cells #[.int .u32 ((a0 - (Int.tmod a0 64)) % 4294967296), .string a1, jQ, gE, (.slice none 0 0)] 62 (0, 0))) ∧ Aside0 (Below w.heap.size w w'))
 case atStart => exact ⟨(0), (([] : List Int)), (([] : List Int)), (.slice none 0 0), (.slice none 0 0), (by first | rfl | (simp; done) | (simp [*]; done)), H', ⟨Nat.le_refl _⟩, ⟨by first | exact Kd.R_nil _ _ _ _ _ | exact Kd.N_nil _ _ _ _ _ | exact Kd.V_nil _ _ _ _ _ | exact Kd.Q_nil _ _ _ _ _ | exact Kd.S_nil _ _ _ _ _⟩, ⟨by first | exact Kd.R_nil _ _ _ _ _ | exact Kd.N_nil _ _ _ _ _ | exact Kd.V_nil _ _ _ _ _ | exact Kd.Q_nil _ _ _ _ _ | exact Kd.S_nil _ _ _ _ _⟩, ⟨by (with_reducible repeat (first | refine aK ?_ _ | refine aT ?_ | refine aM ?_ _)); refine ll ?_ gj.out _; (with_reducible repeat (first | refine aK ?_ _ | refine aT ?_ | refine aM ?_ _)); refine ll ?_ gj.out _; (with_reducible repeat (first | refine aK ?_ _ | refine aT ?_ | refine aM ?_ _)); refine ll ?_ gj.out _; (with_reducible repeat (first | refine aK ?_ _ | refine aT ?_ | refine aM ?_ _)); refine ll ?_ gj.out _; (with_reducible repeat (first | refine aK ?_ _ | refine aT ?_ | refine aM ?_ _)); refine ll ?_ gj.out _; (with_reducible repeat (first | refine aK ?_ _ | refine aT ?_ | refine aM ?_ _)); exact eu.out⟩, ⟨by (with_reducible repeat (first | refine aK ?_ _ | refine aT ?_ | refine aM ?_ _)); refine eO (cs := #[.int .u32 ((a0 - (Int.tmod a0 64)) % 4294967296), .string a1, .slice none 0 0, .slice none 0 0, .slice none 0 0]) ?_ 4 _ rfl; (with_reducible repeat (first | refine aK ?_ _ | refine aT ?_ | refine aM ?_ _)); refine eO (cs := #[.int .u32 ((a0 - (Int.tmod a0 64)) % 4294967296), .string a1, .slice none 0 0, .slice none 0 0, .slice none 0 0]) ?_ 3 _ rfl; (with_reducible repeat (first | refine aK ?_ _ | refine aT ?_ | refine aM ?_ _)); refine eO (cs := #[.int .u32 ((a0 - (Int.tmod a0 64)) % 4294967296), .string a1, .slice none 0 0, .slice none 0 0, .slice none 0 0]) ?_ 2 _ rfl; (with_reducible repeat (first | refine aK ?_ _ | refine aT ?_ | refine aM ?_ _)); refine eO (cs := #[.int .u32 ((a0 - (Int.tmod a0 64)) % 4294967296), .string (⟨#[]⟩ : ByteArray), .slice none 0 0, .slice none 0 0, .slice none 0 0]) ?_ 1 _ rfl; (with_reducible repeat (first | refine aK ?_ _ | refine aT ?_ | refine aM ?_ _)); refine eO (cs := #[.int .u32 0, .string (⟨#[]⟩ : ByteArray), .slice none 0 0, .slice none 0 0, .slice none 0 0]) ?_ 0 _ rfl; (with_reducible repeat (first | refine aK ?_ _ | refine aT ?_ | refine aM ?_ _)); exact bB.out⟩, ⟨by repeat (first | (with_reducible first | exact HB.out | apply al | apply af | apply aq | refine aQ ?_ lq.out | refine aQ ?_ oy.out) | exact HB.out)⟩⟩
 case round =>
  clear H'
  obtain ⟨od, gJ, gg, jQ, gE, rfl, HA, du, lp, il, eu, bB, HB⟩ := hrel
  cases gk with
  | zero => exact absurd HA.out (by simp [dv.l0])
  | succ k1 =>
   have H := HA.out
   clear HA
   simp only [dv.l0] at H
   by_cases c7 : od < 64
   ·rw [if_pos c7] at H
    have qv : decide (od < 64) = true := decide_eq_true c7
    clear c7
    by_cases c8 : gJ.length < 17592186044416
    ·rw [if_pos c8] at H
     have Pj := ak c8
     clear c8
     obtain ⟨lJ, sQ⟩ : ∃ y_ : List Int, y_ = (gJ ++ [0]) := ⟨_, rfl⟩
     replace H : (if gg.length < 17592186044416 then (dv.l0 k1 (wrap64 (od + 1)) ((a0 - (Int.tmod a0 64)) % 4294967296) a1 lJ (gg ++ [od])) else (none)) = some (r1, r2, r3, r4, r5) := by first | (rw [sQ]; with_reducible exact H) | (have j5 := (Option.bind_some _ _).symm.trans H; rw [sQ]; with_reducible exact j5) | (have j5 := (Option.bind_some _ _).symm.trans H; with_reducible exact j5) | with_reducible exact H | (rw [sQ]; exact H) | exact H
     have KP := ak sQ
     clear sQ
     by_cases c9 : gg.length < 17592186044416
     ·rw [if_pos c9] at H
      have Ph := ak c9
      clear c9
      obtain ⟨tN, sP⟩ : ∃ y_ : List Int, y_ = (gg ++ [od]) := ⟨_, rfl⟩
      replace H : (dv.l0 k1 (wrap64 (od + 1)) ((a0 - (Int.tmod a0 64)) % 4294967296) a1 lJ tN) = some (r1, r2, r3, r4, r5) := by first | (rw [sP]; with_reducible exact H) | (have j5 := (Option.bind_some _ _).symm.trans H; rw [sP]; with_reducible exact j5) | (have j5 := (Option.bind_some _ _).symm.trans H; with_reducible exact j5) | with_reducible exact H | (rw [sP]; exact H) | exact H
      have KO := ak sP
      clear sP
      have H' := ak H
      clear H
      have Tt := pc.out
      have To := gj.out
      have Kp : wr.cell? ⟨dB, 0, none⟩ = some (.int .u32 ((a0 - (Int.tmod a0 64)) % 4294967296)) := (aC bB.out 0).trans rfl
      have Ko : wr.cell? ⟨dB, 1, none⟩ = some (.string a1) := (aC bB.out 1).trans rfl
      have Ru : wr.cell? ⟨dB, 2, none⟩ = some (jQ) := (aC bB.out 2).trans rfl
      have Rt : wr.cell? ⟨dB, 3, none⟩ = some (gE) := (aC bB.out 3).trans rfl
      have Rs : wr.cell? ⟨dB, 4, none⟩ = some (.slice none 0 0) := (aC bB.out 4).trans rfl
      have J5 := ao bB.out 0
      have J4 := ao bB.out 1
      have Qx := ao bB.out 2
      have Qw := ao bB.out 3
      have Qv := ao bB.out 4
      go_wp2_with (first | ((with_reducible refine cz (b := .append) (xs := #[.tmp 18, .tmp 19]) rfl ?_); at_builtin; refine Kd.R_append (Kd.int .i64) (w0 := w) w.heap.size rfl (.tmp 18) (.tmp 19) 31 3 (.int .i64 0) 8 rfl Try.underlying31 zN rfl (by decide) (by omega) jQ gJ 0 [.int .i64 0] (fun k_ => some k_ ≠ (gE : Value).ownBlock) (fun _ => False) rfl rfl ?aP (fun _ hk => hk.elim) ?aF ?aO ?aB ?aS ?aL ?_; (case aP => exact rfl); (case aB => exact (by repeat (first | (with_reducible first | exact HB.out | apply al | apply af | apply aq | refine aQ ?_ lq.out | refine aQ ?_ oy.out) | exact HB.out))); (case aF => exact (fun k_ hk => Kd.fresh' (Kd.R_lt (by (with_reducible repeat (first | apply Kd.R_alloc | apply Kd.R_drewN | apply Kd.R_drew)); exact il.out)) k_ hk)); (case aO => exact (by (with_reducible repeat (first | apply Kd.R_alloc | apply Kd.R_drewN | apply Kd.R_drew)); exact lp.out)); (case aS => exact (bs (by repeat (first | (with_reducible first | exact HB.out | apply al | apply af | apply aq | refine aQ ?_ lq.out | refine aQ ?_ oy.out) | exact HB.out)))); (case aL => have := Pj.out; omega); intro RO CR ho hb hg hat; rw [← KP.out] at ho; have cA := ak (Kd.R_after (ok := (fun _ => True)) (by (with_reducible repeat (first | apply Kd.R_alloc | apply Kd.R_drewN | apply Kd.R_drew)); exact Kd.R_mono il.out (fun _ hk => ⟨trivial, hk⟩)) hg hat); have cP := ak (jU (g := eW) (o := .cells #[.int .u32 0, .string (⟨#[]⟩ : ByteArray), .slice none 0 0, .slice none 0 0, .slice none 0 0] 62 (0, 0)) (by (with_reducible repeat (first | refine aK ?_ _ | refine aT ?_ | refine aM ?_ _)); exact eu.out) hg (Kd.R_ne lp.out eu.out (by decide))); have dh := ak (jU (g := dB) (o := .cells #[.int .u32 ((a0 - (Int.tmod a0 64)) % 4294967296), .string a1, jQ, gE, .slice none 0 0] 62 (0, 0)) (by (with_reducible repeat (first | refine aK ?_ _ | refine aT ?_ | refine aM ?_ _)); exact bB.out) hg (Kd.R_ne lp.out bB.out (by decide))); have dN := ak (hb); have jb := ak (ho); clear il; clear eu; clear bB; clear HB; clear lp; have il := cA; have eu := cP; have bB := dh; have HB := dN; have pO := jb; clear cA cP dh dN jb; clear ho hb hg hat; obtain ⟨uR, ur, O9⟩ := Kd.R_slice pO.out; subst O9; have Kn : CR.cell? ⟨dB, 0, none⟩ = some (.int .u32 ((a0 - (Int.tmod a0 64)) % 4294967296)) := (aC bB.out 0).trans rfl; have Km : CR.cell? ⟨dB, 1, none⟩ = some (.string a1) := (aC bB.out 1).trans rfl; have Kl : CR.cell? ⟨dB, 2, none⟩ = some (jQ) := (aC bB.out 2).trans rfl; have Kk : CR.cell? ⟨dB, 3, none⟩ = some (gE) := (aC bB.out 3).trans rfl; have Kj : CR.cell? ⟨dB, 4, none⟩ = some (.slice none 0 0) := (aC bB.out 4).trans rfl; have J3 := ao bB.out 0; have J2 := ao bB.out 1; have J1 := ao bB.out 2; have J0 := ao bB.out 3; have JZ := ao bB.out 4) | ((with_reducible refine cz (b := .append) (xs := #[.tmp 23, .tmp 25]) rfl ?_); at_builtin; refine Kd.R_append (Kd.int .i64) (w0 := w) w.heap.size rfl (.tmp 23) (.tmp 25) 31 3 (.int .i64 0) 8 rfl Try.underlying31 zN rfl (by decide) (by omega) gE gg od [.int .i64 od] (fun k_ => some k_ ≠ (.slice uR lJ.length ur : Value).ownBlock) (fun _ => False) rfl (by first | (go_simp; done) | (go_simp; rfl)) ?aP (fun _ hk => hk.elim) ?aF ?aO ?aB ?aS ?aL ?_; (case aP => exact rfl); (case aB => exact (by repeat (first | (with_reducible first | exact HB.out | apply al | apply af | apply aq | refine aQ ?_ lq.out | refine aQ ?_ oy.out) | exact HB.out))); (case aF => exact (fun k_ hk => Kd.fresh' (Kd.R_lt (by (with_reducible repeat (first | apply Kd.R_alloc | apply Kd.R_drewN | apply Kd.R_drew)); exact (Kd.R_mono (Kd.R_far (p := ⟨dB, 2, none⟩) (Kd.R_types pO.out bB.out (by decide)) (fun _ hk => hk.2) (.slice uR lJ.length ur)) (fun _ h_ => h_.1)))) k_ hk)); (case aO => exact (by (with_reducible repeat (first | apply Kd.R_alloc | apply Kd.R_drewN | apply Kd.R_drew)); exact Kd.R_mono (Kd.R_far (p := ⟨dB, 2, none⟩) (Kd.R_types il.out bB.out (by decide)) (fun _ hk => hk.2) (.slice uR lJ.length ur)) (fun _ hk => hk.1.2))); (case aS => exact (bs (by repeat (first | (with_reducible first | exact HB.out | apply al | apply af | apply aq | refine aQ ?_ lq.out | refine aQ ?_ oy.out) | exact HB.out)))); (case aL => have := Ph.out; omega); intro RN El ho hb hg hat; rw [← KO.out] at ho; have cA := ak (jU (g := eW) (o := .cells #[.int .u32 0, .string (⟨#[]⟩ : ByteArray), .slice none 0 0, .slice none 0 0, .slice none 0 0] 62 (0, 0)) (by (with_reducible repeat (first | refine aK ?_ _ | refine aT ?_ | refine aM ?_ _)); refine ll ?_ gj.out _; (with_reducible repeat (first | refine aK ?_ _ | refine aT ?_ | refine aM ?_ _)); exact eu.out) hg (Kd.R_ne il.out eu.out (by decide))); have cP := ak (jU (g := dB) (o := .cells #[.int .u32 ((a0 - (Int.tmod a0 64)) % 4294967296), .string a1, .slice uR lJ.length ur, gE, .slice none 0 0] 62 (0, 0)) (by (with_reducible repeat (first | refine aK ?_ _ | refine aT ?_ | refine aM ?_ _)); refine eO (cs := #[.int .u32 ((a0 - (Int.tmod a0 64)) % 4294967296), .string a1, jQ, gE, .slice none 0 0]) ?_ 2 _ rfl; (with_reducible repeat (first | refine aK ?_ _ | refine aT ?_ | refine aM ?_ _)); exact bB.out) hg (Kd.R_ne il.out bB.out (by decide))); have dh := ak (Kd.R_after (ok := (fun _ => True)) (by (with_reducible repeat (first | apply Kd.R_alloc | apply Kd.R_drewN | apply Kd.R_drew)); exact Kd.R_mono (Kd.R_far (p := ⟨dB, 2, none⟩) (Kd.R_types pO.out bB.out (by decide)) (fun _ hk => hk.2) (.slice uR lJ.length ur)) (fun _ hk => ⟨trivial, hk.1⟩)) hg hat); have dN := ak (hb); have jb := ak (ho); clear eu; clear bB; clear pO; clear HB; clear il; have eu := cA; have bB := cP; have pO := dh; have HB := dN; have Dq := jb; clear cA cP dh dN jb; clear ho hb hg hat; obtain ⟨G4, GL, O8⟩ := Kd.R_slice Dq.out; subst O8; have Q8 : El.cell? ⟨dB, 0, none⟩ = some (.int .u32 ((a0 - (Int.tmod a0 64)) % 4294967296)) := (aC bB.out 0).trans rfl; have Q7 : El.cell? ⟨dB, 1, none⟩ = some (.string a1) := (aC bB.out 1).trans rfl; have Q6 : El.cell? ⟨dB, 2, none⟩ = some (.slice uR lJ.length ur) := (aC bB.out 2).trans rfl; have Q5 : El.cell? ⟨dB, 3, none⟩ = some (gE) := (aC bB.out 3).trans rfl; have Q4 : El.cell? ⟨dB, 4, none⟩ = some (.slice none 0 0) := (aC bB.out 4).trans rfl; have Qd := ao bB.out 0; have Qc := ao bB.out 1; have Qb := ao bB.out 2; have Qa := ao bB.out 3; have P9 := ao bB.out 4))
      go_roundg k1
      case measure => have := du.out; omega
      case rel => exact ⟨(wrap64 (od + 1)), (lJ), (tN), (.slice uR lJ.length ur), (.slice G4 tN.length GL), (by first | rfl | (simp; done) | (simp [*]; done)), H', ⟨by have := du.out; omega⟩, ⟨by (with_reducible repeat (first | apply Kd.R_alloc | apply Kd.R_drewN | apply Kd.R_drew)); exact Kd.R_mono (Kd.R_far (p := ⟨dB, 3, none⟩) (Kd.R_types pO.out bB.out (by decide)) (fun _ hk => hk.2) (.slice G4 tN.length GL)) (fun _ hk => hk.1.2)⟩, ⟨by (with_reducible repeat (first | apply Kd.R_alloc | apply Kd.R_drewN | apply Kd.R_drew)); exact Kd.R_mono (Kd.R_far (p := ⟨dB, 3, none⟩) (Kd.R_types Dq.out bB.out (by decide)) (fun _ hk => hk.2) (.slice G4 tN.length GL)) (fun _ hk => hk.1)⟩, ⟨by (with_reducible repeat (first | refine aK ?_ _ | refine aT ?_ | refine aM ?_ _)); refine ll ?_ gj.out _; (with_reducible repeat (first | refine aK ?_ _ | refine aT ?_ | refine aM ?_ _)); exact eu.out⟩, ⟨by (with_reducible repeat (first | refine aK ?_ _ | refine aT ?_ | refine aM ?_ _)); refine eO (cs := #[.int .u32 ((a0 - (Int.tmod a0 64)) % 4294967296), .string a1, .slice uR lJ.length ur, gE, .slice none 0 0]) ?_ 3 _ rfl; (with_reducible repeat (first | refine aK ?_ _ | refine aT ?_ | refine aM ?_ _)); exact bB.out⟩, ⟨by repeat (first | (with_reducible first | exact HB.out | apply al | apply af | apply aq | refine aQ ?_ lq.out | refine aQ ?_ oy.out) | exact HB.out)⟩⟩
     ·rw [if_neg c9] at H
      exact absurd H (by simp)
    ·rw [if_neg c8] at H
     exact absurd H (by simp)
   ·rw [if_neg c7] at H
    have qv : decide (od < 64) = false := decide_eq_false c7
    clear c7
    simp only [Option.some.injEq, Prod.mk.injEq] at H
    obtain ⟨rfl, rfl, rfl, rfl, rfl⟩ := H
    have Tr := pc.out
    have Tm := gj.out
    have Ki : wr.cell? ⟨dB, 0, none⟩ = some (.int .u32 ((a0 - (Int.tmod a0 64)) % 4294967296)) := (aC bB.out 0).trans rfl
    have Kh : wr.cell? ⟨dB, 1, none⟩ = some (.string a1) := (aC bB.out 1).trans rfl
    have Kg : wr.cell? ⟨dB, 2, none⟩ = some (jQ) := (aC bB.out 2).trans rfl
    have Kf : wr.cell? ⟨dB, 3, none⟩ = some (gE) := (aC bB.out 3).trans rfl
    have Ke : wr.cell? ⟨dB, 4, none⟩ = some (.slice none 0 0) := (aC bB.out 4).trans rfl
    have JY := ao bB.out 0
    have JX := ao bB.out 1
    have JW := ao bB.out 2
    have JV := ao bB.out 3
    have JU := ao bB.out 4
    have Q3 : wr.cell? ⟨eW, 0, none⟩ = some (.int .u32 0) := (aC eu.out 0).trans rfl
    have Q2 : wr.cell? ⟨eW, 1, none⟩ = some (.string (⟨#[]⟩ : ByteArray)) := (aC eu.out 1).trans rfl
    have Q1 : wr.cell? ⟨eW, 2, none⟩ = some (.slice none 0 0) := (aC eu.out 2).trans rfl
    have Q0 : wr.cell? ⟨eW, 3, none⟩ = some (.slice none 0 0) := (aC eu.out 3).trans rfl
    have QZ : wr.cell? ⟨eW, 4, none⟩ = some (.slice none 0 0) := (aC eu.out 4).trans rfl
    have P8 := ao eu.out 0
    have P7 := ao eu.out 1
    have P6 := ao eu.out 2
    have P5 := ao eu.out 3
    have P4 := ao eu.out 4
    obtain ⟨Cn, By, O6⟩ := Kd.R_slice lp.out
    subst O6
    obtain ⟨Ef, DV, O5⟩ := Kd.R_slice il.out
    subst O5
    go_wp2
    refine bodyPost_ret (results_cell_row rfl _ _ eW 62 #[.int .u32 ((a0 - (Int.tmod a0 64)) % 4294967296), .string a1, .slice Cn gJ.length By, .slice Ef gg.length DV, .slice none 0 0] (0, 0) _ rfl (by (with_reducible repeat (first | refine aK ?_ _ | refine aT ?_ | refine aM ?_ _)); refine eO (cs := #[.int .u32 ((a0 - (Int.tmod a0 64)) % 4294967296), .string a1, .slice Cn gJ.length By, .slice Ef gg.length DV, .slice none 0 0]) ?_ 4 _ rfl; (with_reducible repeat (first | refine aK ?_ _ | refine aT ?_ | refine aM ?_ _)); refine eO (cs := #[.int .u32 ((a0 - (Int.tmod a0 64)) % 4294967296), .string a1, .slice Cn gJ.length By, .slice none 0 0, .slice none 0 0]) ?_ 3 _ rfl; (with_reducible repeat (first | refine aK ?_ _ | refine aT ?_ | refine aM ?_ _)); refine eO (cs := #[.int .u32 ((a0 - (Int.tmod a0 64)) % 4294967296), .string a1, .slice none 0 0, .slice none 0 0, .slice none 0 0]) ?_ 2 _ rfl; (with_reducible repeat (first | refine aK ?_ _ | refine aT ?_ | refine aM ?_ _)); refine eO (cs := #[.int .u32 ((a0 - (Int.tmod a0 64)) % 4294967296), .string (⟨#[]⟩ : ByteArray), .slice none 0 0, .slice none 0 0, .slice none 0 0]) ?_ 1 _ rfl; (with_reducible repeat (first | refine aK ?_ _ | refine aT ?_ | refine aM ?_ _)); refine eO (cs := #[.int .u32 0, .string (⟨#[]⟩ : ByteArray), .slice none 0 0, .slice none 0 0, .slice none 0 0]) ?_ 0 _ rfl; (with_reducible repeat (first | refine aK ?_ _ | refine aT ?_ | refine aM ?_ _)); exact eu.out) Try.underlying62 rfl (by kernel_rfl)) rfl ?_
    exact ⟨_, _, _, by first | rfl | (simp [cw, ct] <;> rfl) | (simp [*, cw, ct] <;> rfl), by (with_reducible repeat (first | apply Kd.R_alloc | apply Kd.R_drewN | apply Kd.R_drew)); exact Kd.R_mono (Kd.R_far (p := ⟨eW, 4, none⟩) (Kd.R_far (p := ⟨eW, 3, none⟩) (Kd.R_far (p := ⟨eW, 2, none⟩) (Kd.R_far (p := ⟨eW, 1, none⟩) (Kd.R_far (p := ⟨eW, 0, none⟩) (Kd.R_types lp.out eu.out (by decide)) (fun _ hk => hk.2) (.int .u32 ((a0 - (Int.tmod a0 64)) % 4294967296))) (fun _ hk => hk.2) (.string a1)) (fun _ hk => hk.2) (.slice Cn gJ.length By)) (fun _ hk => hk.2) (.slice Ef gg.length DV)) (fun _ hk => hk.2) (.slice none 0 0)) (fun _ hk => hk.1), by (with_reducible repeat (first | apply Kd.R_alloc | apply Kd.R_drewN | apply Kd.R_drew)); exact Kd.R_mono (Kd.R_far (p := ⟨eW, 4, none⟩) (Kd.R_far (p := ⟨eW, 3, none⟩) (Kd.R_far (p := ⟨eW, 2, none⟩) (Kd.R_far (p := ⟨eW, 1, none⟩) (Kd.R_far (p := ⟨eW, 0, none⟩) (Kd.R_types il.out eu.out (by decide)) (fun _ hk => hk.2) (.int .u32 ((a0 - (Int.tmod a0 64)) % 4294967296))) (fun _ hk => hk.2) (.string a1)) (fun _ hk => hk.2) (.slice Cn gJ.length By)) (fun _ hk => hk.2) (.slice Ef gg.length DV)) (fun _ hk => hk.2) (.slice none 0 0)) (fun _ hk => hk.1), by first | exact Kd.R_nil _ _ _ _ _ | exact Kd.N_nil _ _ _ _ _ | exact Kd.V_nil _ _ _ _ _ | exact Kd.Q_nil _ _ _ _ _ | exact Kd.S_nil _ _ _ _ _, by repeat (first | (with_reducible first | exact HB.out | apply al | apply af | apply aq | refine aQ ?_ lq.out | refine aQ ?_ oy.out) | exact HB.out)⟩
end Go.Proofs.Ytemhalnhbgkbcaa.V
end

section
namespace Go.Proofs.Ytemhalnhbgkbcaa.V
theorem JG (x : Int) (s : ByteArray) : ∀ (d k i : Nat), i + d = 64 → d < k → dv.l0 k (i : Int) x s (List.replicate i 0) (kO i) = some (x, s, List.replicate 64 0, kO 64, []) := by
 intro d
 induction d with
 | zero =>
  intro k i hi hk
  obtain ⟨k, rfl⟩ : ∃ m, k = m + 1 := ⟨k - 1, by omega⟩
  obtain rfl : i = 64 := by omega
  rw [dv.l0, if_neg (by decide)]
 | succ d ih =>
  intro k i hi hk
  obtain ⟨k, rfl⟩ : ∃ m, k = m + 1 := ⟨k - 1, by omega⟩
  rw [dv.l0, if_pos (by omega), iB _ (by omega) (by omega), show (i : Int) + 1 = ((i + 1 : Nat) : Int) by omega]
  have h := ih k (i + 1) (by omega) (by omega)
  rw [wB, List.replicate_succ'] at h
  rw [if_pos (by rw [List.length_replicate]; omega), if_pos (by rw [ug]; omega)]
  exact h
theorem F5 (a : Int) (h0 : 0 ≤ a) (h1 : a < 4294967296) (s : ByteArray) (w : World) :
  Calls Try.prog 45 #[.int .u32 a, .string s] w fun e w' => ∃ v, e = .returned v ∧ eG w' w.heap.size v (tb a s) ∧ Below w.heap.size w w' := by
 have hf : dv.f 100 a s = some (bV a, s, List.replicate 64 0, kO 64, []) := by
  have e : (a - Int.tmod a 64) % 4294967296 = bV a := by
   unfold bV
   rw [Int.tmod_eq_emod_of_nonneg h0]
   omega
  have h := JG (bV a) s 64 100 0 (by omega) (by omega)
  rw [← e] at h ⊢
  exact h
 refine (dv.calls 100 a s _ _ _ _ _ w hf).mono ?_
 rintro e w' ⟨v2, v3, v4, rfl, r2, r3, r4, hb⟩
 exact ⟨_, rfl, ⟨v2, v3, v4, rfl, Kd.R_mono (ok' := fun _ => True) r2 (fun _ _ => trivial), Kd.R_mono (ok' := fun _ => True) r3 (fun _ _ => trivial), r4⟩, hb⟩
end Go.Proofs.Ytemhalnhbgkbcaa.V
end

section
namespace Go.Proofs.Ytemhalnhbgkbcaa.V
set_option maxHeartbeats 4000000 in
set_option maxRecDepth 100000 in
theorem zm (b : Bk) (hk : BkOk b) (v : Value) (w : World) (h : fS w v b) : Calls Try.prog 57 #[v] w fun e w' => e = .returned (.bool (dm b && ((b.free.length : Int) == 64))) ∧ Below w.heap.size w w' := by
 obtain ⟨A, c, A', c', rfl, hr⟩ := h
 have HR := ak hr
 have HL := ak hr.l64
 have HK := ak hk
 clear hr hk
 cases hrt : dm b with
 | false =>
  have HRT := ak hrt
  clear hrt
  go_enter Try.func57, Try.ntmps57
  go_wp2_with (first
   | (refine aE rfl 57 (.tmp 0) rfl _ rfl ?_; intro g W1 hg hbx cy; have ij := ak hbx; have mu := ak (HR.out.below cy); have cn := ak cy; clear hbx cy hg)
   | (refine az rfl 57 (.tmp 1) rfl g rfl _ _ _ ij.out Try.underlying57 rfl 68 (by kernel_rfl) (ag _ _ _ _ _ HL.out) ?_)
   | (go_at_call 48; refine (dH b HK.out _ _ ⟨A, c, A', c', rfl, mu.out⟩).mono ?_; rintro e W2 ⟨rfl, eL⟩; rw [HRT.out]; have jw := ak (cn.out.trans (eL.mono cn.out.size)); clear eL))
  go_ret
  exact ⟨rfl, jw.out⟩
 | true =>
  have HRT := ak hrt
  clear hrt
  go_enter Try.func57, Try.ntmps57
  go_wp2_with (first
   | (refine aE rfl 57 (.tmp 0) rfl _ rfl ?_; intro g W1 hg hbx cy; have ij := ak hbx; have mu := ak (HR.out.below cy); have cn := ak cy; clear hbx cy hg)
   | (refine az rfl 57 (.tmp 1) rfl g rfl _ _ _ ij.out Try.underlying57 rfl 68 (by kernel_rfl) (ag _ _ _ _ _ HL.out) ?_)
   | (go_at_call 48; refine (dH b HK.out _ _ ⟨A, c, A', c', rfl, mu.out⟩).mono ?_; rintro e W2 ⟨rfl, eL⟩; rw [HRT.out]; have Hp := (ij.out.below eL).cell 66 _ (fP _ _ _ _ _ HL.out); have jw := ak (cn.out.trans (eL.mono cn.out.size)); clear eL))
  go_ret
  exact ⟨by simp, jw.out⟩
end Go.Proofs.Ytemhalnhbgkbcaa.V
end

section
namespace Go.Proofs.Ytemhalnhbgkbcaa.V
def z3 : ByteArray := ⟨#[110]⟩
def sW : Bk := tb 167772165 z3
def FY : At := ⟨⟨#[104]⟩, ⟨#[110]⟩⟩
def tS : Bk := eV sW 2 FY
def pQ : List Int := fj sW 2
def sd : Bk := lC tS pQ
def Dw : List Int := (relL tS pQ).2
def MI (l : List Int) : Bool := l.all (fun x => decide (0 ≤ x) && decide (x < 256))
theorem np {l : List Int} (h : MI l = true) : nE l := fun x hx => by
 have := List.all_eq_true.1 h x hx
 simpa using this
theorem Jx : BkOk sW := ⟨by decide, by decide, np (by kernel_rfl), np (by kernel_rfl)⟩
theorem Jw : BkOk tS := ⟨by decide, by decide, np (by kernel_rfl), np (by kernel_rfl)⟩
theorem Ju : BkOk sd := ⟨by decide, by decide, np (by kernel_rfl), np (by kernel_rfl)⟩
theorem Jy : fW z3 = true := by kernel_rfl
theorem JB : lH sW 2 FY = true := by kernel_rfl
theorem Dy : dm tS = true := by kernel_rfl
theorem Dx : dm sd = true := by kernel_rfl
theorem JA : min (2 : Int).toNat sW.free.length = 2 := by kernel_rfl
theorem uT : pQ = [167772160, 167772161] := by kernel_rfl
theorem FX : Dw.length = 2 := by kernel_rfl
theorem z4 : sd.free.length = 64 := by kernel_rfl
theorem Jv : rd sd.free 63 = 1 := by kernel_rfl
theorem Jz (w : World) : Calls Try.prog 41 #[.int .u32 167772165, .string z3] w fun e w' => ∃ v, e = .returned (.tuple #[v, .int .i64 0]) ∧ ea w' w.heap.size v sW ∧ Below w.heap.size w w' := by
 have h := CW 167772165 (by decide) (by decide) z3 w
 rw [Jy] at h
 exact h
theorem Dz (v : Value) (w : World) (h : fS w v sW) : Calls Try.prog 49 #[v, .int .i64 2, .agg #[.string ⟨#[104]⟩, .string ⟨#[110]⟩]] w fun e w' => ∃ v' vo, e = .returned (.tuple #[v', vo, .int .i64 0]) ∧ ea w' w.heap.size v' tS ∧ Kd.R (Kd.int .u32) 46 w' w.heap.size (fun _ => True) vo pQ ∧ Below w.heap.size w w' := by
 have h2 := pB sW Jx 2 (by decide) FY v w h
 rw [JB, JA] at h2
 exact h2
theorem Cp (Al : Option Addr) (cl : Nat) (v : Value) (w : World) (h : fS w v tS) (hC : Kd.C (Kd.int .u32) w Al pQ.length pQ) : Calls Try.prog 52 #[v, .slice Al pQ.length cl] w fun e w' => ∃ v' vo, e = .returned (.tuple #[v', vo, .int .i64 0]) ∧ ea w' w.heap.size v' sd ∧ Kd.R (Kd.int .u32) 46 w' w.heap.size (fun _ => True) vo Dw ∧ Below w.heap.size w w' := by
 have h2 := Cx tS Jw pQ (by rw [uT]; decide) (by rw [uT]; decide) Al cl v w h hC
 rw [Dy] at h2
 exact h2
theorem Ek (v : Value) (w : World) (h : fS w v sd) : Calls Try.prog 57 #[v] w fun e w' => e = .returned (.bool true) ∧ Below w.heap.size w w' := by
 have h2 := zm sd Ju v w h
 rw [Dx, z4] at h2
 exact h2
set_option maxHeartbeats 16000000 in
set_option maxRecDepth 100000 in
theorem CN (w : World) : Calls Try.prog 44 #[] w fun e w' => e = .returned (.bool true) ∧ Below w.heap.size w w' := by
 have HN := ak (fun w => Jz w)
 have HA := ak (fun v w h => Dz v w h)
 have HE := ak (fun v w h => Ek v w h)
 have HRL := ak (fun A c v w h hC => Cp A c v w h hC)
 have hll : pQ.length = 2 := by rw [uT]; rfl
 have vI : rd pQ 1 = 167772161 := by rw [uT]; rfl
 have hml : Dw.length = 2 := FX
 have hdl : sd.free.length = 64 := z4
 have Ol : rd sd.free 63 = 1 := Jv
 have ae := ak (Below.refl w.heap.size w)
 unfold z3 at HN
 generalize pQ = l at *
 generalize Dw = m at *
 generalize sW = b at *
 generalize tS = c at *
 generalize sd = d at *
 have HLL := ak hll
 have SR := ak vI
 have HDL := ak hdl
 have S9 := ak Ol
 have t1 : ((l.length : Int) == 2) = true := by rw [hll]; rfl
 have t2 : ((m.length : Int) == 2) = true := by rw [hml]; rfl
 have t3 : ((d.free.length : Int) == 64) = true := by rw [hdl]; rfl
 clear hll vI hml hdl Ol
 go_enter Try.func44, Try.ntmps44
 go_wp2_with (first
  | (go_at_call 41; refine (HN.out _).mono ?_; rintro e W1 ⟨v_, rfl, aW, I⟩; obtain ⟨iD, oP, oQ, rfl, di, dO⟩ := aW; obtain ⟨Tg, SB, rfl⟩ := Kd.R_slice di; obtain ⟨Tj, SE, rfl⟩ := Kd.R_slice dO; have rI := ak iD; have ai := ak (ae.out.trans (I.mono ae.out.size)); have Je := ak (di); have IZ := ak (dO); clear iD di dO I ae)
  | (refine aw (some 1) rfl rfl 57 rfl a9 bP ?_; intro gX W2 J aa I; have bQ := ge ai J; have av := mv I ai; have Jd := mv I Je; have IY := mv I IZ; have au := ak (aa); clear J aa I ai Je IZ)
  | (refine aN rfl 57 (.tmp 1) (.tmp 11) rfl gX (aZ b.addr b.aff b.slots (.slice Tg b.free.length SB) (.slice Tj b.attrs.length SE)) rfl rfl 57 _ au.out 68 (by kernel_rfl) (ag _ _ _ _ _ rI.out) rfl (b4 _ _ _ _ _ rfl rfl) ?_; intro W3 aa J; have aD := gb av bQ J; have zY := gr Jd au J; have zW := gr IY au J; have aA := ak (aa); clear aa J av Jd IY au)
  | ((with_reducible refine ax (N := 14) rfl ?_); refine az rfl 57 (.tmp 1) rfl gX rfl _ _ _ aA.out Try.underlying57 rfl 68 (by kernel_rfl) (ag _ _ _ _ _ rI.out) ?_)
  | (refine fq rfl 85 #[(0, .const (.string ⟨#[104]⟩)), (1, .const (.string ⟨#[110]⟩))] rfl [.string ⟨#[104]⟩, .string ⟨#[110]⟩] (by kernel_rfl) ?_)
  | (go_at_call 49; refine (HA.out _ _ ⟨_, _, _, _, rfl, ⟨rI.out, (rr zY).1, (rr zY).2, (rr zW).1, (rr zW).2⟩⟩).mono ?_; rintro e W4 ⟨v_, kX, rfl, aW, e8, I⟩; obtain ⟨iD, oP, oQ, rfl, di, dO⟩ := aW; obtain ⟨Tf, SA, rfl⟩ := Kd.R_slice di; obtain ⟨Ti, SD, rfl⟩ := Kd.R_slice dO; have Mk := ak iD; obtain ⟨UF, Uz, rfl⟩ := Kd.R_slice e8; have aY := mv I aD; have Jc := mv I zY; have IX := mv I zW; have aV := mv I aA; have I6 := ak (di); have IQ := ak (dO); have It := ak (e8); clear iD di dO e8 I aD zY zW aA)
  | (refine aw (some 3) rfl rfl 57 rfl a9 bP ?_; intro gY W5 J aa I; have iX := ge aY J; have fB := ne aV J; have bf := mv I aY; have Jb := mv I Jc; have IW := mv I IX; have bb := mv I aV; have I5 := mv I I6; have IP := mv I IQ; have Is := mv I It; have cB := ak (aa); clear J aa I aY Jc IX aV I6 IQ It)
  | (refine aN rfl 57 (.tmp 3) (.tmp 17) rfl gY (aZ c.addr c.aff c.slots (.slice Tf c.free.length SA) (.slice Ti c.attrs.length SD)) rfl rfl 57 _ cB.out 68 (by kernel_rfl) (ag _ _ _ _ _ Mk.out) rfl (b4 _ _ _ _ _ rfl rfl) ?_; intro W6 aa J; have bG := gb bf iX J; have Ja := gr Jb cB J; have IV := gr IW cB J; have bh := gn bb fB J; have zX := gr I5 cB J; have zV := gr IP cB J; have Eb := gr Is cB J; have cX := ak (aa); clear aa J bf Jb IW bb I5 IP Is cB)
  | ((with_reducible refine ax (N := 21) rfl ?_); refine az rfl 57 (.tmp 3) rfl gY rfl _ _ _ cX.out Try.underlying57 rfl 68 (by kernel_rfl) (ag _ _ _ _ _ Mk.out) ?_)
  | (go_at_call 52; refine (HRL.out _ _ _ _ ⟨_, _, _, _, rfl, ⟨Mk.out, (rr zX).1, (rr zX).2, (rr zV).1, (rr zV).2⟩⟩ (Kd.R_reads' Eb.out).2.2).mono ?_; rintro e W7 ⟨v_, kX, rfl, aW, e8, I⟩; obtain ⟨iD, oP, oQ, rfl, di, dO⟩ := aW; obtain ⟨Te, Sz, rfl⟩ := Kd.R_slice di; obtain ⟨Th, SC, rfl⟩ := Kd.R_slice dO; have Iy := ak iD; obtain ⟨UE, Uy, rfl⟩ := Kd.R_slice e8; have dU := mv I bG; have I9 := mv I Ja; have IU := mv I IV; have dj := mv I bh; have I4 := mv I zX; have IN := mv I zV; have Ir := mv I Eb; have iN := mv I cX; have I1 := ak (di); have IK := ak (dO); have Ip := ak (e8); clear iD di dO e8 I bG Ja IV bh zX zV Eb cX)
  | (refine aw (some 6) rfl rfl 57 rfl a9 bP ?_; intro gZ W8 J aa I; have bN := ge dU J; have aG := ne dj J; have fM := ne iN J; have gM := mv I dU; have I8 := mv I I9; have IT := mv I IU; have gK := mv I dj; have I3 := mv I I4; have IM := mv I IN; have Iq := mv I Ir; have lv := mv I iN; have I0 := mv I I1; have IJ := mv I IK; have Io := mv I Ip; have fH := ak (aa); clear J aa I dU I9 IU dj I4 IN Ir iN I1 IK Ip)
  | (refine aN rfl 57 (.tmp 6) (.tmp 24) rfl gZ (aZ d.addr d.aff d.slots (.slice Te d.free.length Sz) (.slice Th d.attrs.length SC)) rfl rfl 57 _ fH.out 68 (by kernel_rfl) (ag _ _ _ _ _ Iy.out) rfl (b4 _ _ _ _ _ rfl rfl) ?_; intro W9 aa J; have ki := gb gM bN J; have I7 := gr I8 fH J; have IS := gr IT fH J; have kf := gn gK aG J; have I2 := gr I3 fH J; have IL := gr IM fH J; have tx := gr Iq fH J; have kU := gn lv fM J; have vv := gr I0 fH J; have zU := gr IJ fH J; have Im := gr Io fH J; have j3 := ak (aa); obtain ⟨g2, rfl⟩ := nF tx.out (by have h_ := HLL.out; omega); obtain ⟨g3, rfl⟩ := nF vv.out (by have h_ := HDL.out; omega); have OV := (ln tx.out 1 (by have h_ := HLL.out; omega)).1; have OU := (ln vv.out 63 (by have h_ := HDL.out; omega)).1; rw [show ((1 : Nat) : Int) = 1 from rfl, SR.out] at OV; rw [show ((63 : Nat) : Int) = 63 from rfl, S9.out] at OU; have Hm := j3.out.cell 66 _ (fP _ _ _ _ _ Iy.out); have Uf : ((1 : Int) < (l.length : Int)) = True := eq_true (by have h_ := HLL.out; omega); have Ug : ((63 : Int) < (d.free.length : Int)) = True := eq_true (by have h_ := HDL.out; omega); clear aa J gM I8 IT gK I3 IM Iq lv I0 IJ Io fH)
  | ((with_reducible refine ax (N := 67) rfl ?_); refine ff (by rfl) ?_; refine az rfl 57 (.tmp 6) rfl gZ rfl _ _ _ j3.out Try.underlying57 rfl 68 (by kernel_rfl) (ag _ _ _ _ _ Iy.out) ?_)
  | (go_at_call 57; refine (HE.out _ _ ⟨_, _, _, _, rfl, ⟨Iy.out, (rr vv).1, (rr vv).2, (rr zU).1, (rr zU).2⟩⟩).mono ?_; rintro e Ou ⟨rfl, I⟩; have mm := mv I ki; have S5 := mv I I7; have SY := mv I IS; have mh := mv I kf; have S4 := mv I I2; have SX := mv I IL; have Ce := mv I tx; have oJ := mv I kU; have S3 := mv I vv; have SW := mv I zU; have SS := mv I Im; have mU := mv I j3; clear I ki I7 IS kf I2 IL tx kU vv zU Im j3))
 go_ret
 exact ⟨by simp, mm.out⟩
end Go.Proofs.Ytemhalnhbgkbcaa.V
end

section
namespace Go.Proofs.Ytemhalnhbgkbcaa.V
theorem RG.new (a : Int) (h0 : 0 ≤ a) (h1 : a < 4294967296) (s : ByteArray) (hs : fW s = true) : RG (tb a s) := by
 have hf : bV (bV a) = bV a := by unfold bV; omega
 have h2 : 0 ≤ bV a ∧ bV a < 4294967296 := by unfold bV; omega
 refine RG.of ⟨h2.1, h2.2, np (by kernel_rfl), np (by kernel_rfl)⟩ (by kernel_rfl) ?_
 have e1 : kk (tb a s) = true := by kernel_rfl
 have e2 : kt (tb a s) = true := by kernel_rfl
 unfold dm
 rw [e1, e2]
 show (bV (bV a) == bV a && (fW s && (decide (([] : List At).length ≤ 64) && (true && true)))) = true
 rw [hf, hs]
 simp
def yL.T12 : Bool × List (List Nat × List Nat) := (true, [([], []), ([], []), ([0, 0], [0]), ([1, 2, 0, 1, 2], [1])])
def yL.B12 : List Nat := [0, 0, 1, 7]
theorem yL.tab12 : dC .any (opsOf Try.f10 12) = yL.T12 := by kernel_rfl
theorem yL.bits12 : cU yL.T12.2 yL.B12 = true := by kernel_rfl
def yK.T13 : Bool × List (List Nat × List Nat) := (true, [([], []), ([0], [0]), ([1], [1]), ([2], [2]), ([3, 2, 2], [2, 3]), ([2], [2]), ([4, 5, 4, 2], [2, 4, 5]), ([6, 2], [2, 6]), ([2, 7], [2, 7]), ([8, 6], [8]), ([9], [9]), ([10, 9, 9], [9, 10]), ([11, 9], [9, 11]), ([9, 12], [9, 12]), ([13, 11], [13]), ([14], [14]), ([15, 14, 14], [14, 15]), ([16, 14], [14, 16]), ([14, 17], [14, 17])])
def yK.B13 : List Nat := [0, 1, 3, 7, 15, 7, 63, 127, 255, 511, 1023, 2047, 4095, 8191, 16383, 32767, 65535, 131071, 262143]
theorem yK.tab13 : dC .any (opsOf Try.f10 13) = yK.T13 := by kernel_rfl
theorem yK.bits13 : cU yK.T13.2 yK.B13 = true := by kernel_rfl
end Go.Proofs.Ytemhalnhbgkbcaa.V
end

