/- The law BlockBack for every input: texts of ours, put together (part 14 of 16). No further condition. -/
import Derived.Test.YtemhalnhbgkbcaaCBlockBackx2
import Derived.Test.YtemhalnhbgkbcaaCBlockBackx6
import Derived.Test.YtemhalnhbgkbcaaCBlockBackx11
import Derived.Outline
import Derived.Test.YtemhalnhbgkbcaaCBlockBackx12
import Derived.Test.YtemhalnhbgkbcaaCBlockBackx4
import Derived.ChangeSame
import Derived.WideShapes
import Derived.OpenShut
import Derived.Deep.SlicePairs
import Derived.Deep.Slices
import Derived.Test.YtemhalnhbgkbcaaCBlockBackx3
import Derived.Test.YtemhalnhbgkbcaaCBlockBackx5
import Derived.Test.YtemhalnhbgkbcaaCBlockBackw0
import Derived.Test.YtemhalnhbgkbcaaCBlockBackx7
import Derived.Test.YtemhalnhbgkbcaaCBlockBackx8
import Derived.Test.YtemhalnhbgkbcaaCBlockBackx9
set_option linter.unusedVariables false
set_option linter.unusedSimpArgs false
open Go.RowKit Go.Proofs.YtemhalnhbgkbcaaW.PrintWords Go.Proofs.YtemhalnhbgkbcaaW.PrintLast Go.Proofs.YtemhalnhbgkbcaaW.PrintMore Go.Proofs.Ytemhalnhbgkbcaa.Z
section
namespace Go.Proofs.Ytemhalnhbgkbcaa.V
set_option maxHeartbeats 16000000 in
set_option maxRecDepth 100000 in
theorem Hq (b : Bk) (hg : RG b) (n : Int) (hn : n < 9223372036854775808) (a : kD) (e9 : a.f0.size ≤ 9223372036854775807) (fB : a.f1.size ≤ 9223372036854775807) (l : List Int) (hu : ∀ x ∈ l, 0 ≤ x ∧ x < 4294967296) (hlm : l.length ≤ 9223372036854775807) (Al : Option Addr) (cl : Nat) (hcl : l.length ≤ cl) (aff : ByteArray) (hza : aff.size ≤ 9223372036854775807) (he : a.f0.toList = []) (v v2 : Value) (w : World) (base : Nat) (hbase : base ≤ w.heap.size) (hO : ee w base v b) (hR : eM w base v2 b) (hC : Kd.C (Kd.int .u32) w Al l.length l) :
  Calls Try.prog 47 #[v, v2, .agg #[.int .i64 5, .int .i64 n, .string a.f0, .string a.f1, .slice Al l.length cl, .string aff]] w fun e w' => ∃ v1 v2 b', e = .returned (.tuple #[v1, v2, .bool true]) ∧ RG b' ∧ ee w' base v1 b' ∧ eM w' base v2 b' ∧ Below w.heap.size w w' := by
 obtain ⟨hl, vf, va, rfl, hf, ha⟩ := hO
 obtain ⟨vs, vp, vm, rfl, hs, hp, hm⟩ := hR
 obtain ⟨Af, cf, rfl⟩ := Kd.R_slice hf
 obtain ⟨Aa, ca, rfl⟩ := Kd.R_slice ha
 obtain ⟨As, cs, rfl⟩ := Kd.R_slice hs
 obtain ⟨Ap, cp, rfl⟩ := Kd.R_slice hp
 obtain ⟨M, hM⟩ : ∃ M, M = b.attrs.map vc := ⟨_, rfl⟩
 rw [← hM] at hm
 obtain ⟨Am, cm, rfl⟩ := Kd.R_slice hm
 have HL := ak hl
 have HM := ak hM
 have bl := ak hf
 have dg := ak ha
 have aZ := ak hs
 have ed := ak hp
 have bL := ak hm
 have HG := ak hg
 have ae := ak (Below.refl w.heap.size w)
 have HBASE := ak hbase
 have HLB := ak (b9 (aX b.addr b.aff b.slots (.slice Af b.free.length cf) (.slice Aa b.attrs.length ca)) (ag _ _ _ _ _ HL.out))
 obtain ⟨lt, hlt⟩ : ∃ lt, lt = l.take 80 := ⟨_, rfl⟩
 have hut : ∀ x ∈ lt, 0 ≤ x ∧ x < 4294967296 := fun x hx => hu x (by rw [hlt] at hx; exact List.mem_of_mem_take hx)
 have hll : lt.length = min 80 l.length := by rw [hlt, List.length_take]
 have HCL := ak hcl
 have HLL := ak hll
 have HC := ak hC
 have HCT := ak (fun W (I : Below w.heap.size w W) => (show Kd.C (Kd.int .u32) W Al lt.length lt by
  rcases Nat.lt_or_ge 80 l.length with h | h
  ·have h_ := Kd.C_take (m := 80) (Kd.C_below hC I) (by omega)
   rw [← hlt] at h_
   exact h_
  ·have h_ := Kd.C_below hC I
   have e : lt = l := by rw [hlt, List.take_of_length_le h]
   rw [e]
   exact h_))
 have q0 : (a.f0.toList == []) = true := by rw [he]; rfl
 have q1 : a.f0.toList.isEmpty = true := by rw [he]; rfl
 have q2 : (a.f0.toList = []) = True := eq_true he
 clear he
 clear hl hM hf ha hs hp hm hbase hC hu hut hll hcl hlt hg
 go_enter Try.func47, Try.ntmps47
 go_upto_if 37 with (first
  | (refine aE rfl 57 (.tmp 0) rfl _ rfl ?_; intro gX W1 J aa I; have bS := ge ae J; have aj := ak (ae.out.trans (I.mono ae.out.size)); have bg := mv I bl; have cH := mv I dg; have bd := mv I aZ; have dc := mv I ed; have bG := mv I bL; have ah := ak (aa); clear J aa I ae bl dg aZ ed bL)
  | (refine aE rfl 62 (.tmp 1) rfl _ rfl ?_; intro gY W2 J aa I; have iZ := ge aj J; have fD := ne ah J; have aw := mv I aj; have bM := mv I bg; have dh := mv I cH; have bF := mv I bd; have dp := mv I dc; have cw := mv I bG; have au := mv I ah; have cr := ak (aa); clear J aa I aj bg cH bd dc bG ah)
  | (refine aE rfl 79 (.tmp 2) rfl _ rfl ?_; intro gT W3 J aa I; have ki := ge aw J; have gW := ne au J; have ix := ne cr J; have aD := mv I aw; have cg := mv I bM; have dL := mv I dh; have b6 := mv I bF; have ec := mv I dp; have dq := mv I cw; have aA := mv I au; have cE := mv I cr; have dQ := ak (aa); clear J aa I aw bM dh bF dp cw au cr)
  | (refine ax (some 6) rfl rfl 57 rfl a7 bJ ?_; intro gZ W4 J aa I; have bO := ge aD J; have aG := ne aA J; have fP := ne cE J; have jG := ne dQ J; have aW := mv I aD; have cd := mv I cg; have dB := mv I dL; have cP := mv I b6; have ey := mv I ec; have dw := mv I dq; have aV := mv I aA; have b5 := mv I cE; have dT := mv I dQ; have bb := ak (aa); clear J aa I aD cg dL b6 ec dq aA cE dQ)
  | (refine ax (some 7) rfl rfl 62 rfl dM (fun _ => by kernel_rfl) ?_; intro gU W5 J aa I; have fx := ge aW J; have gF := ne aV J; have dE := ne b5 J; have jH := ne dT J; have gE := ne bb J; have bf := mv I aW; have b8 := mv I cd; have cW := mv I dB; have cY := mv I cP; have er := mv I ey; have cQ := mv I dw; have a9 := mv I aV; have du := mv I b5; have bw := mv I dT; have bu := mv I bb; have ev := ak (aa); have jE := bw.out.cell 0 _ rfl; have gS := bw.out.cell 1 _ rfl; have jD := bw.out.cell 2 _ rfl; have jC := bw.out.cell 3 _ rfl; have jB := bw.out.cell 4 _ rfl; have gB := bw.out.cell 5 _ rfl; clear J aa I aW cd dB cP ey dw aV b5 dT bb))
 go_cut [9] from 38 to 39 (fun s9 wx => s9 = .slice Al lt.length cl ∧ W5 = wx)
 case first =>
  rcases Nat.lt_or_ge 80 l.length with ll | ll
  ·have lh : decide ((80 : Int) < (l.length : Int)) = true := by simp; omega
   have tZ : (((0 : Int) ≤ 80 ∧ (80 : Int) ≤ (cl : Int)) = True) := eq_true ⟨by omega, by have := HCL.out; omega⟩
   have tY : (((80 : Int) ≤ (cl : Int)) = True) := eq_true (by have := HCL.out; omega)
   go_wp2_with fail
   go_meet
   exact ⟨by rw [HLL.out, Nat.min_eq_left (by omega)], rfl⟩
  ·have lh : decide ((80 : Int) < (l.length : Int)) = false := by simp; omega
   go_wp2_with fail
   go_meet
   exact ⟨by rw [HLL.out, Nat.min_eq_right (by omega)], rfl⟩
 case rest =>
 obtain ⟨gf, fZ⟩ := hcut
 subst gf
 subst fZ
 go_wp2_with fail
 have ai : Below W5.heap.size W5 W5.drew := bp (Below.refl _ _)
 have bD := mv ai bf; have cI := mv ai b8; have dx := mv ai cW; have dm := mv ai cY; have ew := mv ai er; have dU := mv ai cQ; have bj := mv ai a9; have cN := mv ai du; have fq := mv ai bw; have bT := mv ai bu; have dX := mv ai ev
 clear ai bf b8 cW cY er cQ a9 du bw bu ev jE gS jD jC jB gB
 have hB := bD
 have hF := cI
 have hG := dx
 have hS := dm
 have hP := ew
 have hM := dU
 have hX := bj
 have hY := cN
 have hT := fq
 have hZ := bT
 have hU := dX
 clear bD cI dx dm ew dU bj cN fq bT dX
 refine da (n := 5) (S := fun w' => aH w' gX (aX b.addr b.aff b.slots (.slice Af b.free.length cf) (.slice Aa b.attrs.length ca)) 57 ∧ aH w' gY (dt b.addr b.aff (.slice As b.slots.length cs) (.slice Ap b.free.length cp) (.slice Am M.length cm)) 62) (ds := []) #[false, false, false, false, false] (by kernel_rfl) rfl rfl ⟨hX.out, hY.out⟩ (fun hHeld => ?_); refine bK lJ.tab37 lJ.bits37 (fun ab bq => ?_)
 refine tk 0 ab.out bq.out hHeld ?_ (hv := by exact fun _ aY => aJ 57 (.tmp 3) rfl gX rfl _ _ _ aY.1 Try.underlying57 rfl HLB.out)
 refine tk 1 ab.out bq.out hHeld ?_ (hv := by exact fun _ aY => aJ 62 (.tmp 4) rfl gY rfl _ _ _ aY.2 Try.underlying62 rfl (by kernel_rfl))
 refine ow 2 ab.out (fun K hK => ?_)
 refine bz (by rfl) rfl 57 (.tmp 6) (.tmp 235) rfl gZ (aX b.addr b.aff b.slots (.slice Af b.free.length cf) (.slice Aa b.attrs.length ca)) rfl rfl 57 _ hZ.out 68 (by kernel_rfl) (ag _ _ _ _ _ HL.out) rfl (bZ _ _ _ _ _ rfl rfl) ?_
 intro V2 aa J; replace hB := gb hB bO J; replace hF := gr hF hZ J; replace hG := gr hG hZ J; replace hS := gr hS hZ J; replace hP := gr hP hZ J; replace hM := gr hM hZ J; replace hX := gn hX aG J; replace hY := gx hY hZ J; replace hT := gx hT hZ J; replace hU := gx hU hZ J; replace hZ := ak (aa); clear aa J
 refine hK.out _ _ ⟨hX.out, hY.out⟩ (fun hHeld => ?_)
 clear hK K
 refine ow 3 ab.out (fun K hK => ?_)
 refine bz (by rfl) rfl 62 (.tmp 7) (.tmp 236) rfl gU (dt b.addr b.aff (.slice As b.slots.length cs) (.slice Ap b.free.length cp) (.slice Am M.length cm)) rfl rfl 62 _ hU.out 5 (by kernel_rfl) rfl rfl (dO _ _ rfl rfl rfl) ?_
 intro V3 aa J; replace hB := gb hB fx J; replace hF := gr hF hU J; replace hG := gr hG hU J; replace hS := gr hS hU J; replace hP := gr hP hU J; replace hM := gr hM hU J; replace hX := gx hX hU J; replace hY := gn hY dE J; replace hT := gx hT hU J; replace hZ := gx hZ hU J; replace hU := ak (aa); clear aa J
 refine hK.out _ _ ⟨hX.out, hY.out⟩ (fun hHeld => ?_)
 clear hK K
 refine pu 4 ab.out ?_
 refine dn ab.out ?_
 clear hHeld
 go_wp2_with fail
 refine bodyPost_ret (eT rfl _ _ _ gZ gU 57 62 _ _ _ _ rfl hZ.out rfl Try.underlying57 (by first | exact HLB.out | exact HLN _ _ _ _) rfl hU.out rfl Try.underlying62 (by kernel_rfl)) rfl ⟨_, _, b, rfl, ?_, ?_, ?_, hB.out⟩
 ·exact HG.out
 ·exact ⟨HL.out, _, _, rfl, hF.out, hG.out⟩
 ·exact ⟨_, _, _, rfl, hS.out, hP.out, by rw [← HM.out]; exact hM.out⟩
set_option maxHeartbeats 16000000 in
set_option maxRecDepth 100000 in
theorem LS (b : Bk) (hg : RG b) (n : Int) (hn : n < 9223372036854775808) (a : kD) (e9 : a.f0.size ≤ 9223372036854775807) (fB : a.f1.size ≤ 9223372036854775807) (l : List Int) (hu : ∀ x ∈ l, 0 ≤ x ∧ x < 4294967296) (hlm : l.length ≤ 9223372036854775807) (Al : Option Addr) (cl : Nat) (hcl : l.length ≤ cl) (aff : ByteArray) (hza : aff.size ≤ 9223372036854775807) (he : a.f0.toList ≠ []) (v v2 : Value) (w : World) (base : Nat) (hbase : base ≤ w.heap.size) (hO : ee w base v b) (hR : eM w base v2 b) (hC : Kd.C (Kd.int .u32) w Al l.length l) :
  Calls Try.prog 47 #[v, v2, .agg #[.int .i64 5, .int .i64 n, .string a.f0, .string a.f1, .slice Al l.length cl, .string aff]] w fun e w' => ∃ v1 v2 b', e = .returned (.tuple #[v1, v2, .bool true]) ∧ RG b' ∧ ee w' base v1 b' ∧ eM w' base v2 b' ∧ Below w.heap.size w w' := by
 obtain ⟨hl, vf, va, rfl, hf, ha⟩ := hO
 obtain ⟨vs, vp, vm, rfl, hs, hp, hm⟩ := hR
 obtain ⟨Af, cf, rfl⟩ := Kd.R_slice hf
 obtain ⟨Aa, ca, rfl⟩ := Kd.R_slice ha
 obtain ⟨As, cs, rfl⟩ := Kd.R_slice hs
 obtain ⟨Ap, cp, rfl⟩ := Kd.R_slice hp
 obtain ⟨M, hM⟩ : ∃ M, M = b.attrs.map vc := ⟨_, rfl⟩
 rw [← hM] at hm
 obtain ⟨Am, cm, rfl⟩ := Kd.R_slice hm
 have HL := ak hl
 have HM := ak hM
 have bl := ak hf
 have dg := ak ha
 have aZ := ak hs
 have ed := ak hp
 have bL := ak hm
 have HG := ak hg
 have ae := ak (Below.refl w.heap.size w)
 have HBASE := ak hbase
 have HLB := ak (b9 (aX b.addr b.aff b.slots (.slice Af b.free.length cf) (.slice Aa b.attrs.length ca)) (ag _ _ _ _ _ HL.out))
 obtain ⟨lt, hlt⟩ : ∃ lt, lt = l.take 80 := ⟨_, rfl⟩
 have hut : ∀ x ∈ lt, 0 ≤ x ∧ x < 4294967296 := fun x hx => hu x (by rw [hlt] at hx; exact List.mem_of_mem_take hx)
 have hll : lt.length = min 80 l.length := by rw [hlt, List.length_take]
 have HCL := ak hcl
 have HLL := ak hll
 have HC := ak hC
 have HCT := ak (fun W (I : Below w.heap.size w W) => (show Kd.C (Kd.int .u32) W Al lt.length lt by
  rcases Nat.lt_or_ge 80 l.length with h | h
  ·have h_ := Kd.C_take (m := 80) (Kd.C_below hC I) (by omega)
   rw [← hlt] at h_
   exact h_
  ·have h_ := Kd.C_below hC I
   have e : lt = l := by rw [hlt, List.take_of_length_le h]
   rw [e]
   exact h_))
 have hp := iA hg.right
 have hpq : ((fun x => x.f0.toList == a.f0.toList) : At → Bool) = pG a.f0 ⟨#[]⟩ := by
  funext x
  unfold pG
  have h1 : (a.f0.toList == (⟨#[]⟩ : ByteArray).toList) = false := by simpa using he
  have h2 : ((⟨#[]⟩ : ByteArray).toList == (⟨#[]⟩ : ByteArray).toList) = true := beq_self_eq_true _
  rw [h1, h2]
  simp
 have hbl := fun v w h => zS b hg.ok a.f0 hg.right v w h
 have hgv := fun v w h => wO b hg.ok hp hl a.f0 ⟨#[]⟩ v w h
 rw [hpq] at hbl
 have hur : ∀ x ∈ dH b (pG a.f0 ⟨#[]⟩) 64, 0 ≤ x ∧ x < 4294967296 := lN hg.ok hp.first _
 have hulen := gP b (pG a.f0 ⟨#[]⟩) 64
 obtain ⟨ul, hul⟩ : ∃ ul, ul = dH b (pG a.f0 ⟨#[]⟩) 64 := ⟨_, rfl⟩
 rw [← hul] at hbl hgv hur hulen
 have hrg := hg.rel ul
 have hrl := fun Al cl v w h hC => qc b hg.ok hp hl ul hur (by omega) Al cl v w h hC
 rw [wu hg] at hrl
 obtain ⟨nb, hnb⟩ : ∃ nb, nb = kz b ul := ⟨_, rfl⟩
 obtain ⟨oo, hoo⟩ : ∃ oo, oo = (relL b ul).2 := ⟨_, rfl⟩
 rw [← hnb, ← hoo] at hbl hrl
 rw [← hnb] at hrg
 have hol : oo.length ≤ 1000 := by rw [hoo]; have h_ := (sQ hg.ok hp hl ul ul.length (Nat.le_refl _)).ol; rw [List.take_length] at h_; omega
 have HRG := ak hrg
 have HNL := ak hrg.l64
 have HOL := ak hol
 have HLN := fun A8 c8 A9 c9 => b9 (aX nb.addr nb.aff nb.slots (.slice A8 nb.free.length c8) (.slice A9 nb.attrs.length c9)) (ag _ _ _ _ _ HNL.out)
 have q0 : (a.f0.toList == []) = false := by simpa using he
 have q1 : a.f0.toList.isEmpty = false := by simpa using he
 have q2 : (a.f0.toList = []) = False := eq_false he
 have HBL := ak hbl
 have HRL := ak hrl
 have HGV := ak hgv
 clear hrg hbl hrl hgv hol hnb hoo hp hpq hur hul hulen he
 clear hl hM hf ha hs hp hm hbase hC hu hut hll hcl hlt hg
 go_enter Try.func47, Try.ntmps47
 go_upto_if 37 with (first
  | (refine aE rfl 57 (.tmp 0) rfl _ rfl ?_; intro gX W1 J aa I; have bS := ge ae J; have aj := ak (ae.out.trans (I.mono ae.out.size)); have bg := mv I bl; have cH := mv I dg; have bd := mv I aZ; have dc := mv I ed; have bG := mv I bL; have ah := ak (aa); clear J aa I ae bl dg aZ ed bL)
  | (refine aE rfl 62 (.tmp 1) rfl _ rfl ?_; intro gY W2 J aa I; have iZ := ge aj J; have fD := ne ah J; have aw := mv I aj; have bM := mv I bg; have dh := mv I cH; have bF := mv I bd; have dp := mv I dc; have cw := mv I bG; have au := mv I ah; have cr := ak (aa); clear J aa I aj bg cH bd dc bG ah)
  | (refine aE rfl 79 (.tmp 2) rfl _ rfl ?_; intro gT W3 J aa I; have ki := ge aw J; have gW := ne au J; have ix := ne cr J; have aD := mv I aw; have cg := mv I bM; have dL := mv I dh; have b6 := mv I bF; have ec := mv I dp; have dq := mv I cw; have aA := mv I au; have cE := mv I cr; have dQ := ak (aa); clear J aa I aw bM dh bF dp cw au cr)
  | (refine ax (some 6) rfl rfl 57 rfl a7 bJ ?_; intro gZ W4 J aa I; have bO := ge aD J; have aG := ne aA J; have fP := ne cE J; have jG := ne dQ J; have aW := mv I aD; have cd := mv I cg; have dB := mv I dL; have cP := mv I b6; have ey := mv I ec; have dw := mv I dq; have aV := mv I aA; have b5 := mv I cE; have dT := mv I dQ; have bb := ak (aa); clear J aa I aD cg dL b6 ec dq aA cE dQ)
  | (refine ax (some 7) rfl rfl 62 rfl dM (fun _ => by kernel_rfl) ?_; intro gU W5 J aa I; have fx := ge aW J; have gF := ne aV J; have dE := ne b5 J; have jH := ne dT J; have gE := ne bb J; have bf := mv I aW; have b8 := mv I cd; have cW := mv I dB; have cY := mv I cP; have er := mv I ey; have cQ := mv I dw; have a9 := mv I aV; have du := mv I b5; have bw := mv I dT; have bu := mv I bb; have ev := ak (aa); have jE := bw.out.cell 0 _ rfl; have gS := bw.out.cell 1 _ rfl; have jD := bw.out.cell 2 _ rfl; have jC := bw.out.cell 3 _ rfl; have jB := bw.out.cell 4 _ rfl; have gB := bw.out.cell 5 _ rfl; clear J aa I aW cd dB cP ey dw aV b5 dT bb))
 go_cut [9] from 38 to 39 (fun s9 wx => s9 = .slice Al lt.length cl ∧ W5 = wx)
 case first =>
  rcases Nat.lt_or_ge 80 l.length with ll | ll
  ·have lh : decide ((80 : Int) < (l.length : Int)) = true := by simp; omega
   have tZ : (((0 : Int) ≤ 80 ∧ (80 : Int) ≤ (cl : Int)) = True) := eq_true ⟨by omega, by have := HCL.out; omega⟩
   have tY : (((80 : Int) ≤ (cl : Int)) = True) := eq_true (by have := HCL.out; omega)
   go_wp2_with fail
   go_meet
   exact ⟨by rw [HLL.out, Nat.min_eq_left (by omega)], rfl⟩
  ·have lh : decide ((80 : Int) < (l.length : Int)) = false := by simp; omega
   go_wp2_with fail
   go_meet
   exact ⟨by rw [HLL.out, Nat.min_eq_right (by omega)], rfl⟩
 case rest =>
 obtain ⟨gf, fZ⟩ := hcut
 subst gf
 subst fZ
 go_wp2_with (first
  | ((with_reducible refine av (N := 144) rfl ?_); refine ay rfl 57 (.tmp 3) rfl gX rfl _ _ _ a9.out Try.underlying57 rfl 68 (by kernel_rfl) (ag _ _ _ _ _ HL.out) ?_)
  | (go_at_call 53; refine (HBL.out _ _ ⟨_, _, _, _, rfl, ⟨HL.out, (rr b8).1, (rr b8).2, (rr cW).1, (rr cW).2⟩⟩).mono ?_; rintro e W6 ⟨v_, jT, rfl, aU, eC, I⟩; have HSZ := ak (lb HBASE bf); obtain ⟨gR, nE, nF, rfl, cV, dA⟩ := aU; obtain ⟨A8, c8, rfl⟩ := Kd.R_slice cV; obtain ⟨A9, c9, rfl⟩ := Kd.R_slice dA; obtain ⟨Ao, co, rfl⟩ := Kd.R_slice eC; have bD := mv I bf; have cI := mv I b8; have dx := mv I cW; have dm := mv I cY; have ew := mv I er; have dU := mv I cQ; have bj := mv I a9; have cN := mv I du; have fq := mv I bw; have bT := mv I bu; have dX := mv I ev; have me := ak (Kd.R_lower cV HSZ.out); have mb := ak (Kd.R_lower dA HSZ.out); have la := ak (Kd.R_lower eC HSZ.out); clear HSZ gR cV dA eC I bf b8 cW cY er cQ a9 du bw bu ev jE gS jD jC jB gB)
  | (refine ax (some 20) rfl rfl 57 rfl a7 bJ ?_; intro gQ W7 J aa I; have cz := ge bD J; have bk := ne bj J; have tC := ne cN J; have tF := ne fq J; have a8 := ne bT J; have tD := ne dX J; have dR := mv I bD; have eS := mv I cI; have iz := mv I dx; have fQ := mv I dm; have l9 := mv I ew; have jJ := mv I dU; have df := mv I bj; have iO := mv I cN; have nW := mv I fq; have dI := mv I bT; have nV := mv I dX; have mc := mv I me; have ma := mv I mb; have k9 := mv I la; have dv := ak (aa); clear J aa I bD cI dx dm ew dU bj cN fq bT dX me mb la)
  | (refine aN rfl 57 (.tmp 20) (.tmp 149) rfl gQ (aX nb.addr nb.aff nb.slots (.slice A8 nb.free.length c8) (.slice A9 nb.attrs.length c9)) rfl rfl 57 _ dv.out 68 (by kernel_rfl) (ag _ _ _ _ _ HNL.out) rfl (bZ _ _ _ _ _ rfl rfl) ?_; intro W8 aa J; have gO := gb dR cz J; have ko := gr eS dv J; have km := gr iz dv J; have lF := gr fQ dv J; have nm := gr l9 dv J; have np := gr jJ dv J; have gN := gn df bk J; have lD := gx iO dv J; have mL := gx nW dv J; have fI := gn dI a8 J; have nU := gx nV dv J; have oh := gr mc dv J; have ob := gr ma dv J; have pB := gr k9 dv J; have nZ := ak (aa); clear aa J dR eS iz fQ l9 jJ df iO nW dI nV mc ma k9 dv))
 have ai : Below W8.heap.size W8 W8.drew := bp (Below.refl _ _)
 have kp := mv ai gO; have nu := mv ai ko; have nt := mv ai km; have k8 := mv ai lF; have nk := mv ai nm; have nn := mv ai np; have kl := mv ai gN; have kZ := mv ai lD; have mK := mv ai mL; have j9 := mv ai fI; have nh := mv ai nU; have oe := mv ai oh; have oa := mv ai ob; have uZ := mv ai pB; have ni := mv ai nZ
 clear ai gO ko km lF nm np gN lD mL fI nU oh ob pB nZ
 have hB := kp
 have hF := nu
 have hG := nt
 have hS := k8
 have hP := nk
 have hM := nn
 have hX := kl
 have hY := kZ
 have hT := mK
 have hZ := j9
 have hU := nh
 have hC := oe
 have hD := oa
 have hO := uZ
 have hQ := ni
 clear kp nu nt k8 nk nn kl kZ mK j9 nh oe oa uZ ni
 refine da (n := 13) (S := fun w' => aH w' gY (dt b.addr b.aff (.slice As b.slots.length cs) (.slice Ap b.free.length cp) (.slice Am M.length cm)) 62 ∧ aH w' gT [.int .i64 5, .int .i64 n, .string a.f0, .string a.f1, .slice Al l.length cl, .string aff] 79) (ds := []) #[false, false, false, false, false, false, false, false, false, false, false, false, false] (by kernel_rfl) rfl rfl ⟨hY.out, hT.out⟩ (fun hHeld => ?_); refine bK qY.tab23 qY.bits23 (fun ab bq => ?_)
 refine tk 0 ab.out bq.out hHeld ?_ (hv := by exact fun _ aY => aJ 62 (.tmp 4) rfl gY rfl _ _ _ aY.1 Try.underlying62 rfl (by kernel_rfl))
 refine tk 1 ab.out bq.out hHeld ?_ (hv := by exact fun _ aY => aJ 62 (.tmp 4) rfl gY rfl _ _ _ aY.1 Try.underlying62 rfl (by kernel_rfl))
 refine pu 2 ab.out ?_
 refine pu 3 ab.out ?_
 refine tk 4 ab.out bq.out hHeld ?_ (hv := by intro w' aY; have Ds := aY.2.cell 2 _ rfl; go_simp; with_reducible rfl)
 refine oS (σ := Nat × Option Addr × Nat × Value × Value) 2 #[true, true, true, true, true, true, true, true, true, true, true, false, false] (fun s => [(158, .slice s.2.1 ul.length s.2.2.1), (159, .tuple #[s.2.2.2.1, s.2.2.2.2]), (152, .tuple #[s.2.2.2.1, s.2.2.2.2]), (160, s.2.2.2.1), (161, s.2.2.2.2), (23, .pointer (some ⟨s.1, 0, none⟩))]) (fun s w' => Aside0 (Below w.heap.size w w') ∧ Aside0 (Kd.R (Kd.int .u8) 5 w' base (fun _ => True) (.slice Af b.free.length cf) b.free) ∧ Aside0 (Kd.R iR 85 w' base (fun _ => True) (.slice Aa b.attrs.length ca) b.attrs) ∧ Aside0 (Kd.R (Kd.int .i64) 3 w' base (fun _ => True) (.slice As b.slots.length cs) b.slots) ∧ Aside0 (Kd.R (Kd.int .i64) 3 w' base (fun _ => True) (.slice Ap b.free.length cp) b.free) ∧ Aside0 (Kd.R hH 76 w' base (fun _ => True) (.slice Am M.length cm) M) ∧ Aside0 (aH w' gX (aX b.addr b.aff b.slots (.slice Af b.free.length cf) (.slice Aa b.attrs.length ca)) 57) ∧ Aside0 (aH w' gY (dt b.addr b.aff (.slice As b.slots.length cs) (.slice Ap b.free.length cp) (.slice Am M.length cm)) 62) ∧ Aside0 (aH w' gT [.int .i64 5, .int .i64 n, .string a.f0, .string a.f1, .slice Al l.length cl, .string aff] 79) ∧ Aside0 (aH w' gZ a7 57) ∧ Aside0 (aH w' gU dM 62) ∧ Aside0 (Kd.R (Kd.int .u8) 5 w' base (fun _ => True) (.slice A8 nb.free.length c8) nb.free) ∧ Aside0 (Kd.R iR 85 w' base (fun _ => True) (.slice A9 nb.attrs.length c9) nb.attrs) ∧ Aside0 (Kd.R (Kd.int .u32) 46 w' base (fun _ => True) (.slice Ao oo.length co) oo) ∧ Aside0 (aH w' gQ (aX nb.addr nb.aff nb.slots (.slice A8 nb.free.length c8) (.slice A9 nb.attrs.length c9)) 57) ∧ Aside0 (aH w' s.1 dM 62) ∧ Aside0 (w.heap.size ≤ s.1) ∧ Aside0 (gY ≠ s.1) ∧ Aside0 (gU ≠ s.1) ∧ Aside0 (Kd.R (Kd.int .u32) 46 w' base (fun _ => True) (.slice s.2.1 ul.length s.2.2.1) ul) ∧ Aside0 (eM w' base s.2.2.2.1 nb) ∧ Aside0 (Kd.R (Kd.int .u32) 46 w' base (fun _ => True) s.2.2.2.2 oo)) ?_ ?_
 rotate_left
 ·intro dZ
  refine tw 5 10 ab.out (fun K hK => ?_) (fun K hK => ?_)
  ·skip
   refine gs Try.func63 #[.agg (dt b.addr b.aff (.slice As b.slots.length cs) (.slice Ap b.free.length cp) (.slice Am M.length cm)).toArray, .string a.f0, .string ⟨#[]⟩] (HGV.out _ _ ⟨M, As, cs, Ap, cp, Am, cm, rfl, (jZ.of HM.out hS.out hP.out hM.out)⟩) ?_
   rintro e V5 ⟨Mr, rfl, qv, I⟩
   refine ⟨_, rfl, ?_⟩
   have hL := ak (Kd.R_lower qv (lb HBASE hB)); obtain ⟨Au, cu, rfl⟩ := Kd.R_slice hL.out; (try replace hV := mv I hV); replace hB := mv I hB; replace hF := mv I hF; replace hG := mv I hG; replace hS := mv I hS; replace hP := mv I hP; replace hM := mv I hM; replace hX := mv I hX; replace hY := mv I hY; replace hT := mv I hT; replace hZ := mv I hZ; replace hU := mv I hU; replace hC := mv I hC; replace hD := mv I hD; replace hO := mv I hO; replace hQ := mv I hQ; clear qv I
   refine kn hK ⟨hY.out, hT.out⟩ (fun hHeld => ?_)
   clear hK K
   refine tw 6 10 ab.out (fun K hK => ?_) (fun K hK => ?_)
   ·skip
    refine gs Try.func84 #[.agg (dt b.addr b.aff (.slice As b.slots.length cs) (.slice Ap b.free.length cp) (.slice Am M.length cm)).toArray, .slice Au ul.length cu] (HRL.out _ _ _ _ ⟨M, As, cs, Ap, cp, Am, cm, rfl, (jZ.of HM.out hS.out hP.out hM.out)⟩ (Kd.R_reads' hL.out).2.2) ?_
    rintro e V6 ⟨v9, p7, rfl, fF, lg, I⟩
    refine ⟨_, rfl, ?_⟩
    have fT := ak (eM.lower' fF (lb HBASE hB)); have cB := ak (Kd.R_lower lg (lb HBASE hB)); (try replace hL := mv I hL); (try replace hV := mv I hV); replace hB := mv I hB; replace hF := mv I hF; replace hG := mv I hG; replace hS := mv I hS; replace hP := mv I hP; replace hM := mv I hM; replace hX := mv I hX; replace hY := mv I hY; replace hT := mv I hT; replace hZ := mv I hZ; replace hU := mv I hU; replace hC := mv I hC; replace hD := mv I hD; replace hO := mv I hO; replace hQ := mv I hQ; clear fF lg I
    refine kn hK ⟨hY.out, hT.out⟩ (fun hHeld => ?_)
    clear hK K
    refine pu 7 ab.out ?_
    refine pu 8 ab.out ?_
    refine pu 9 ab.out ?_
    refine on 10 ab.out (fun K hK => ?_)
    refine dz (by rfl) 62 rfl dM (fun _ => by kernel_rfl) ?_
    intro gV ub J aa I
    have cG := ge hB J
    have eR := ne hY J
    have eb := ne hU J
    (try replace hL := mv I hL)
    (try replace fT := mv I fT)
    (try replace cB := mv I cB)
    replace hB := mv I hB
    replace hF := mv I hF
    replace hG := mv I hG
    replace hS := mv I hS
    replace hP := mv I hP
    replace hM := mv I hM
    replace hX := mv I hX
    replace hY := mv I hY
    replace hT := mv I hT
    replace hZ := mv I hZ
    replace hU := mv I hU
    replace hC := mv I hC
    replace hD := mv I hD
    replace hO := mv I hO
    replace hQ := mv I hQ
    have hV := ak aa
    clear J aa I
    refine kn hK ⟨hY.out, hT.out⟩ (fun hHeld => ?_)
    clear hK K
    exact nc (dZ ⟨gV, Au, cu, v9, p7⟩ _ ⟨hB, hF, hG, hS, hP, hM, hX, hY, hT, hZ, hU, hC, hD, hO, hQ, hV, cG, eR, eb, hL, fT, cB⟩)
   ·skip
    refine dz (by rfl) 62 rfl dM (fun _ => by kernel_rfl) ?_
    intro gV ub J aa I
    have cG := ge hB J
    have eR := ne hY J
    have eb := ne hU J
    (try replace hL := mv I hL)
    (try replace fT := mv I fT)
    (try replace cB := mv I cB)
    replace hB := mv I hB
    replace hF := mv I hF
    replace hG := mv I hG
    replace hS := mv I hS
    replace hP := mv I hP
    replace hM := mv I hM
    replace hX := mv I hX
    replace hY := mv I hY
    replace hT := mv I hT
    replace hZ := mv I hZ
    replace hU := mv I hU
    replace hC := mv I hC
    replace hD := mv I hD
    replace hO := mv I hO
    replace hQ := mv I hQ
    have hV := ak aa
    clear J aa I
    refine kn hK ⟨hY.out, hT.out⟩ (fun hHeld => ?_)
    clear hK K
    refine on 6 ab.out (fun K hK => ?_)
    refine gs Try.func84 #[.agg (dt b.addr b.aff (.slice As b.slots.length cs) (.slice Ap b.free.length cp) (.slice Am M.length cm)).toArray, .slice Au ul.length cu] (HRL.out _ _ _ _ ⟨M, As, cs, Ap, cp, Am, cm, rfl, (jZ.of HM.out hS.out hP.out hM.out)⟩ (Kd.R_reads' hL.out).2.2) ?_
    rintro e V6 ⟨v9, p7, rfl, fF, lg, I⟩
    refine ⟨_, rfl, ?_⟩
    have fT := ak (eM.lower' fF (lb HBASE hB)); have cB := ak (Kd.R_lower lg (lb HBASE hB)); (try replace hL := mv I hL); (try replace hV := mv I hV); replace hB := mv I hB; replace hF := mv I hF; replace hG := mv I hG; replace hS := mv I hS; replace hP := mv I hP; replace hM := mv I hM; replace hX := mv I hX; replace hY := mv I hY; replace hT := mv I hT; replace hZ := mv I hZ; replace hU := mv I hU; replace hC := mv I hC; replace hD := mv I hD; replace hO := mv I hO; replace hQ := mv I hQ; clear fF lg I
    refine kn hK ⟨hY.out, hT.out⟩ (fun hHeld => ?_)
    clear hK K
    refine pu 7 ab.out ?_
    refine pu 8 ab.out ?_
    refine pu 9 ab.out ?_
    exact nc (dZ ⟨gV, Au, cu, v9, p7⟩ _ ⟨hB, hF, hG, hS, hP, hM, hX, hY, hT, hZ, hU, hC, hD, hO, hQ, hV, cG, eR, eb, hL, fT, cB⟩)
  ·skip
   refine dz (by rfl) 62 rfl dM (fun _ => by kernel_rfl) ?_
   intro gV ub J aa I
   have cG := ge hB J
   have eR := ne hY J
   have eb := ne hU J
   (try replace hL := mv I hL)
   (try replace fT := mv I fT)
   (try replace cB := mv I cB)
   replace hB := mv I hB
   replace hF := mv I hF
   replace hG := mv I hG
   replace hS := mv I hS
   replace hP := mv I hP
   replace hM := mv I hM
   replace hX := mv I hX
   replace hY := mv I hY
   replace hT := mv I hT
   replace hZ := mv I hZ
   replace hU := mv I hU
   replace hC := mv I hC
   replace hD := mv I hD
   replace hO := mv I hO
   replace hQ := mv I hQ
   have hV := ak aa
   clear J aa I
   refine kn hK ⟨hY.out, hT.out⟩ (fun hHeld => ?_)
   clear hK K
   refine on 5 ab.out (fun K hK => ?_)
   refine gs Try.func63 #[.agg (dt b.addr b.aff (.slice As b.slots.length cs) (.slice Ap b.free.length cp) (.slice Am M.length cm)).toArray, .string a.f0, .string ⟨#[]⟩] (HGV.out _ _ ⟨M, As, cs, Ap, cp, Am, cm, rfl, (jZ.of HM.out hS.out hP.out hM.out)⟩) ?_
   rintro e V5 ⟨Mr, rfl, qv, I⟩
   refine ⟨_, rfl, ?_⟩
   have hL := ak (Kd.R_lower qv (lb HBASE hB)); obtain ⟨Au, cu, rfl⟩ := Kd.R_slice hL.out; (try replace hV := mv I hV); replace hB := mv I hB; replace hF := mv I hF; replace hG := mv I hG; replace hS := mv I hS; replace hP := mv I hP; replace hM := mv I hM; replace hX := mv I hX; replace hY := mv I hY; replace hT := mv I hT; replace hZ := mv I hZ; replace hU := mv I hU; replace hC := mv I hC; replace hD := mv I hD; replace hO := mv I hO; replace hQ := mv I hQ; clear qv I
   refine kn hK ⟨hY.out, hT.out⟩ (fun hHeld => ?_)
   clear hK K
   refine on 6 ab.out (fun K hK => ?_)
   refine gs Try.func84 #[.agg (dt b.addr b.aff (.slice As b.slots.length cs) (.slice Ap b.free.length cp) (.slice Am M.length cm)).toArray, .slice Au ul.length cu] (HRL.out _ _ _ _ ⟨M, As, cs, Ap, cp, Am, cm, rfl, (jZ.of HM.out hS.out hP.out hM.out)⟩ (Kd.R_reads' hL.out).2.2) ?_
   rintro e V6 ⟨v9, p7, rfl, fF, lg, I⟩
   refine ⟨_, rfl, ?_⟩
   have fT := ak (eM.lower' fF (lb HBASE hB)); have cB := ak (Kd.R_lower lg (lb HBASE hB)); (try replace hL := mv I hL); (try replace hV := mv I hV); replace hB := mv I hB; replace hF := mv I hF; replace hG := mv I hG; replace hS := mv I hS; replace hP := mv I hP; replace hM := mv I hM; replace hX := mv I hX; replace hY := mv I hY; replace hT := mv I hT; replace hZ := mv I hZ; replace hU := mv I hU; replace hC := mv I hC; replace hD := mv I hD; replace hO := mv I hO; replace hQ := mv I hQ; clear fF lg I
   refine kn hK ⟨hY.out, hT.out⟩ (fun hHeld => ?_)
   clear hK K
   refine pu 7 ab.out ?_
   refine pu 8 ab.out ?_
   refine pu 9 ab.out ?_
   exact nc (dZ ⟨gV, Au, cu, v9, p7⟩ _ ⟨hB, hF, hG, hS, hP, hM, hX, hY, hT, hZ, hU, hC, hD, hO, hQ, hV, cG, eR, eb, hL, fT, cB⟩)
 intro s w' hFF; obtain ⟨gV, Au, cu, v9, p7⟩ := s; simp only at hFF; obtain ⟨hB, hF, hG, hS, hP, hM, hX, hY, hT, hZ, hU, hC, hD, hO, hQ, hV, cG, eR, eb, hL, fT, cB⟩ := hFF; have fF := fT.out; obtain ⟨uk, qN, qO, rfl, gg, fm, ez⟩ := fF; obtain ⟨A1, c1, rfl⟩ := Kd.R_slice gg; obtain ⟨A2, c2, rfl⟩ := Kd.R_slice fm; obtain ⟨NM, hNM⟩ : ∃ NM, NM = nb.attrs.map vc := ⟨_, rfl⟩; rw [← hNM] at ez; have HNM := ak hNM; obtain ⟨A3, c3, rfl⟩ := Kd.R_slice ez; obtain ⟨CO, BU, rfl⟩ := Kd.R_slice cB.out; have hI := ak gg; have hJ := ak fm; have hE := ak ez; have gy := cB; clear hL fT cB hNM gg fm ez
 refine nj ?_
 refine ow 11 ab.out (fun K hK => ?_)
 refine bz (by rfl) rfl 62 (.tmp 23) (.tmp 160) rfl gV (dt nb.addr nb.aff (.slice A1 nb.slots.length c1) (.slice A2 nb.free.length c2) (.slice A3 NM.length c3)) rfl rfl 62 _ hV.out 5 (by kernel_rfl) rfl rfl (dO _ _ rfl rfl rfl) ?_
 intro ov aa J; replace hB := gb hB cG J; replace hF := gr hF hV J; replace hG := gr hG hV J; replace hS := gr hS hV J; replace hP := gr hP hV J; replace hM := gr hM hV J; replace hX := gx hX hV J; replace hY := gn hY eR J; replace hT := gx hT hV J; replace hZ := gx hZ hV J; replace hU := gn hU eb J; replace hC := gr hC hV J; replace hD := gr hD hV J; replace hO := gr hO hV J; replace hQ := gx hQ hV J; replace hI := gr hI hV J; replace hJ := gr hJ hV J; replace hE := gr hE hV J; replace gy := gr gy hV J; replace hV := ak (aa); clear aa J
 refine hK.out _ _ ⟨hY.out, hT.out⟩ (fun hHeld => ?_)
 clear hK K
 refine pu 12 ab.out ?_
 refine dn ab.out ?_
 clear hHeld
 go_wp2_with fail
 have ai : Below ov.heap.size ov ov.drew := bp (Below.refl _ _)
 have yA := mv ai hB; have ye := mv ai hF; have xX := mv ai hG; have xw := mv ai hS; have xF := mv ai hP; have xL := mv ai hM; have xm := mv ai hX; have xi := mv ai hY; have xu := mv ai hT; have xf := mv ai hZ; have xp := mv ai hU; have yt := mv ai hC; have yo := mv ai hD; have xJ := mv ai hO; have xB := mv ai hQ; have xo := mv ai hV; have xU := mv ai hI; have xQ := mv ai hJ; have yk := mv ai hE; have u9 := mv ai gy
 clear ai hB hF hG hS hP hM hX hY hT hZ hU hC hD hO hQ hV hI hJ hE gy
 have hB := yA
 have hF := ye
 have hG := xX
 have hS := xw
 have hP := xF
 have hM := xL
 have hX := xm
 have hY := xi
 have hT := xu
 have hZ := xf
 have hU := xp
 have hC := yt
 have hD := yo
 have hO := xJ
 have hQ := xB
 have hV := xo
 have hI := xU
 have hJ := xQ
 have hE := yk
 have gy := u9
 clear yA ye xX xw xF xL xm xi xu xf xp yt yo xJ xB xo xU xQ yk u9
 refine da (n := 12) (S := fun w' => aH w' gQ (aX nb.addr nb.aff nb.slots (.slice A8 nb.free.length c8) (.slice A9 nb.attrs.length c9)) 57 ∧ aH w' gV (dt nb.addr nb.aff (.slice A1 nb.slots.length c1) (.slice A2 nb.free.length c2) (.slice A3 NM.length c3)) 62) (ds := []) #[false, false, false, false, false, false, false, false, false, false, false, false] (by kernel_rfl) rfl rfl ⟨hQ.out, hV.out⟩ (fun hHeld => ?_); refine bK qX.tab24 qX.bits24 (fun ab bq => ?_)
 refine tk 0 ab.out bq.out hHeld ?_ (hv := by exact fun _ aY => aJ 57 (.tmp 20) rfl gQ rfl _ _ _ aY.1 Try.underlying57 rfl (HLN _ _ _ _))
 refine tk 1 ab.out bq.out hHeld ?_ (hv := by exact fun _ aY => aJ 62 (.tmp 23) rfl gV rfl _ _ _ aY.2 Try.underlying62 rfl (by kernel_rfl))
 refine pu 2 ab.out ?_
 refine pu 3 ab.out ?_
 refine pu 4 ab.out ?_
 refine pu 5 ab.out ?_
 refine pu 6 ab.out ?_
 refine on 7 ab.out (fun K hK => ?_)
 refine gs Try.func61 #[(.slice Ao oo.length co), (.slice CO oo.length BU)] (mm oo HOL.out _ _ _ _ _ (Kd.R_reads' hO.out).2.2 (Kd.R_reads' hO.out).2.1 (Kd.R_reads' gy.out).2.2 (Kd.R_reads' gy.out).2.1) ?_
 rintro e V7 ⟨rfl, I⟩
 refine ⟨_, rfl, ?_⟩
 replace hB := mv I hB; replace hF := mv I hF; replace hG := mv I hG; replace hS := mv I hS; replace hP := mv I hP; replace hM := mv I hM; replace hX := mv I hX; replace hY := mv I hY; replace hT := mv I hT; replace hZ := mv I hZ; replace hU := mv I hU; replace hC := mv I hC; replace hD := mv I hD; replace hO := mv I hO; replace hQ := mv I hQ; replace hV := mv I hV; replace hI := mv I hI; replace hJ := mv I hJ; replace hE := mv I hE; replace gy := mv I gy
 refine kn hK ⟨hQ.out, hV.out⟩ (fun hHeld => ?_)
 clear hK K
 refine pu 8 ab.out ?_
 refine ow 9 ab.out (fun K hK => ?_)
 refine bz (by rfl) rfl 57 (.tmp 6) (.tmp 162) rfl gZ (aX nb.addr nb.aff nb.slots (.slice A8 nb.free.length c8) (.slice A9 nb.attrs.length c9)) rfl rfl 57 _ hZ.out 68 (by kernel_rfl) (ag _ _ _ _ _ HNL.out) rfl (bZ _ _ _ _ _ rfl rfl) ?_
 intro V9 aa J; replace hB := gb hB bO J; replace hF := gr hF hZ J; replace hG := gr hG hZ J; replace hS := gr hS hZ J; replace hP := gr hP hZ J; replace hM := gr hM hZ J; replace hX := gn hX aG J; replace hY := gx hY hZ J; replace hT := gx hT hZ J; replace hU := gx hU hZ J; replace hC := gr hC hZ J; replace hD := gr hD hZ J; replace hO := gr hO hZ J; replace hQ := gm hQ a8 J; replace hV := gx hV hZ J; replace hI := gr hI hZ J; replace hJ := gr hJ hZ J; replace hE := gr hE hZ J; replace gy := gr gy hZ J; replace hZ := ak (aa); clear aa J
 refine hK.out _ _ ⟨hQ.out, hV.out⟩ (fun hHeld => ?_)
 clear hK K
 refine ow 10 ab.out (fun K hK => ?_)
 refine bz (by rfl) rfl 62 (.tmp 7) (.tmp 163) rfl gU (dt nb.addr nb.aff (.slice A1 nb.slots.length c1) (.slice A2 nb.free.length c2) (.slice A3 NM.length c3)) rfl rfl 62 _ hU.out 5 (by kernel_rfl) rfl rfl (dO _ _ rfl rfl rfl) ?_
 intro ub aa J; replace hB := gb hB fx J; replace hF := gr hF hU J; replace hG := gr hG hU J; replace hS := gr hS hU J; replace hP := gr hP hU J; replace hM := gr hM hU J; replace hX := gx hX hU J; replace hY := gn hY dE J; replace hT := gx hT hU J; replace hZ := gx hZ hU J; replace hC := gr hC hU J; replace hD := gr hD hU J; replace hO := gr hO hU J; replace hQ := gx hQ hU J; replace hV := gm hV eb J; replace hI := gr hI hU J; replace hJ := gr hJ hU J; replace hE := gr hE hU J; replace gy := gr gy hU J; replace hU := ak (aa); clear aa J
 refine hK.out _ _ ⟨hQ.out, hV.out⟩ (fun hHeld => ?_)
 clear hK K
 refine pu 11 ab.out ?_
 refine dn ab.out ?_
 clear hHeld
 go_wp2_with fail
 refine bodyPost_ret (eT rfl _ _ _ gZ gU 57 62 _ _ _ _ rfl hZ.out rfl Try.underlying57 (by first | exact HLB.out | exact HLN _ _ _ _) rfl hU.out rfl Try.underlying62 (by kernel_rfl)) rfl ⟨_, _, nb, rfl, ?_, ?_, ?_, hB.out⟩
 ·exact HRG.out
 ·exact ⟨HNL.out, _, _, rfl, hC.out, hD.out⟩
 ·exact ⟨_, _, _, rfl, hI.out, hJ.out, by rw [← HNM.out]; exact hE.out⟩
end Go.Proofs.Ytemhalnhbgkbcaa.V
end

section
namespace Go.Proofs.Ytemhalnhbgkbcaa.V
set_option maxHeartbeats 16000000 in
set_option maxRecDepth 100000 in
theorem Hp (b : Bk) (hg : RG b) (n : Int) (hn : n < 9223372036854775808) (a : kD) (e9 : a.f0.size ≤ 9223372036854775807) (fB : a.f1.size ≤ 9223372036854775807) (l : List Int) (hu : ∀ x ∈ l, 0 ≤ x ∧ x < 4294967296) (hlm : l.length ≤ 9223372036854775807) (Al : Option Addr) (cl : Nat) (hcl : l.length ≤ cl) (aff : ByteArray) (hza : aff.size ≤ 9223372036854775807) (he : a.f1.toList = []) (v v2 : Value) (w : World) (base : Nat) (hbase : base ≤ w.heap.size) (hO : ee w base v b) (hR : eM w base v2 b) (hC : Kd.C (Kd.int .u32) w Al l.length l) :
  Calls Try.prog 47 #[v, v2, .agg #[.int .i64 6, .int .i64 n, .string a.f0, .string a.f1, .slice Al l.length cl, .string aff]] w fun e w' => ∃ v1 v2 b', e = .returned (.tuple #[v1, v2, .bool true]) ∧ RG b' ∧ ee w' base v1 b' ∧ eM w' base v2 b' ∧ Below w.heap.size w w' := by
 obtain ⟨hl, vf, va, rfl, hf, ha⟩ := hO
 obtain ⟨vs, vp, vm, rfl, hs, hp, hm⟩ := hR
 obtain ⟨Af, cf, rfl⟩ := Kd.R_slice hf
 obtain ⟨Aa, ca, rfl⟩ := Kd.R_slice ha
 obtain ⟨As, cs, rfl⟩ := Kd.R_slice hs
 obtain ⟨Ap, cp, rfl⟩ := Kd.R_slice hp
 obtain ⟨M, hM⟩ : ∃ M, M = b.attrs.map vc := ⟨_, rfl⟩
 rw [← hM] at hm
 obtain ⟨Am, cm, rfl⟩ := Kd.R_slice hm
 have HL := ak hl
 have HM := ak hM
 have bl := ak hf
 have dg := ak ha
 have aZ := ak hs
 have ed := ak hp
 have bL := ak hm
 have HG := ak hg
 have ae := ak (Below.refl w.heap.size w)
 have HBASE := ak hbase
 have HLB := ak (b9 (aX b.addr b.aff b.slots (.slice Af b.free.length cf) (.slice Aa b.attrs.length ca)) (ag _ _ _ _ _ HL.out))
 obtain ⟨lt, hlt⟩ : ∃ lt, lt = l.take 80 := ⟨_, rfl⟩
 have hut : ∀ x ∈ lt, 0 ≤ x ∧ x < 4294967296 := fun x hx => hu x (by rw [hlt] at hx; exact List.mem_of_mem_take hx)
 have hll : lt.length = min 80 l.length := by rw [hlt, List.length_take]
 have HCL := ak hcl
 have HLL := ak hll
 have HC := ak hC
 have HCT := ak (fun W (I : Below w.heap.size w W) => (show Kd.C (Kd.int .u32) W Al lt.length lt by
  rcases Nat.lt_or_ge 80 l.length with h | h
  ·have h_ := Kd.C_take (m := 80) (Kd.C_below hC I) (by omega)
   rw [← hlt] at h_
   exact h_
  ·have h_ := Kd.C_below hC I
   have e : lt = l := by rw [hlt, List.take_of_length_le h]
   rw [e]
   exact h_))
 have q0 : (a.f1.toList == []) = true := by rw [he]; rfl
 have q1 : a.f1.toList.isEmpty = true := by rw [he]; rfl
 have q2 : (a.f1.toList = []) = True := eq_true he
 clear he
 clear hl hM hf ha hs hp hm hbase hC hu hut hll hcl hlt hg
 go_enter Try.func47, Try.ntmps47
 go_upto_if 37 with (first
  | (refine aE rfl 57 (.tmp 0) rfl _ rfl ?_; intro gX W1 J aa I; have bS := ge ae J; have aj := ak (ae.out.trans (I.mono ae.out.size)); have bg := mv I bl; have cH := mv I dg; have bd := mv I aZ; have dc := mv I ed; have bG := mv I bL; have ah := ak (aa); clear J aa I ae bl dg aZ ed bL)
  | (refine aE rfl 62 (.tmp 1) rfl _ rfl ?_; intro gY W2 J aa I; have iZ := ge aj J; have fD := ne ah J; have aw := mv I aj; have bM := mv I bg; have dh := mv I cH; have bF := mv I bd; have dp := mv I dc; have cw := mv I bG; have au := mv I ah; have cr := ak (aa); clear J aa I aj bg cH bd dc bG ah)
  | (refine aE rfl 79 (.tmp 2) rfl _ rfl ?_; intro gT W3 J aa I; have ki := ge aw J; have gW := ne au J; have ix := ne cr J; have aD := mv I aw; have cg := mv I bM; have dL := mv I dh; have b6 := mv I bF; have ec := mv I dp; have dq := mv I cw; have aA := mv I au; have cE := mv I cr; have dQ := ak (aa); clear J aa I aw bM dh bF dp cw au cr)
  | (refine ax (some 6) rfl rfl 57 rfl a7 bJ ?_; intro gZ W4 J aa I; have bO := ge aD J; have aG := ne aA J; have fP := ne cE J; have jG := ne dQ J; have aW := mv I aD; have cd := mv I cg; have dB := mv I dL; have cP := mv I b6; have ey := mv I ec; have dw := mv I dq; have aV := mv I aA; have b5 := mv I cE; have dT := mv I dQ; have bb := ak (aa); clear J aa I aD cg dL b6 ec dq aA cE dQ)
  | (refine ax (some 7) rfl rfl 62 rfl dM (fun _ => by kernel_rfl) ?_; intro gU W5 J aa I; have fx := ge aW J; have gF := ne aV J; have dE := ne b5 J; have jH := ne dT J; have gE := ne bb J; have bf := mv I aW; have b8 := mv I cd; have cW := mv I dB; have cY := mv I cP; have er := mv I ey; have cQ := mv I dw; have a9 := mv I aV; have du := mv I b5; have bw := mv I dT; have bu := mv I bb; have ev := ak (aa); have jE := bw.out.cell 0 _ rfl; have gS := bw.out.cell 1 _ rfl; have jD := bw.out.cell 2 _ rfl; have jC := bw.out.cell 3 _ rfl; have jB := bw.out.cell 4 _ rfl; have gB := bw.out.cell 5 _ rfl; clear J aa I aW cd dB cP ey dw aV b5 dT bb))
 go_cut [9] from 38 to 39 (fun s9 wx => s9 = .slice Al lt.length cl ∧ W5 = wx)
 case first =>
  rcases Nat.lt_or_ge 80 l.length with ll | ll
  ·have lh : decide ((80 : Int) < (l.length : Int)) = true := by simp; omega
   have tZ : (((0 : Int) ≤ 80 ∧ (80 : Int) ≤ (cl : Int)) = True) := eq_true ⟨by omega, by have := HCL.out; omega⟩
   have tY : (((80 : Int) ≤ (cl : Int)) = True) := eq_true (by have := HCL.out; omega)
   go_wp2_with fail
   go_meet
   exact ⟨by rw [HLL.out, Nat.min_eq_left (by omega)], rfl⟩
  ·have lh : decide ((80 : Int) < (l.length : Int)) = false := by simp; omega
   go_wp2_with fail
   go_meet
   exact ⟨by rw [HLL.out, Nat.min_eq_right (by omega)], rfl⟩
 case rest =>
 obtain ⟨gf, fZ⟩ := hcut
 subst gf
 subst fZ
 go_wp2_with fail
 have ai : Below W5.heap.size W5 W5.drew := bp (Below.refl _ _)
 have bD := mv ai bf; have cI := mv ai b8; have dx := mv ai cW; have dm := mv ai cY; have ew := mv ai er; have dU := mv ai cQ; have bj := mv ai a9; have cN := mv ai du; have fq := mv ai bw; have bT := mv ai bu; have dX := mv ai ev
 clear ai bf b8 cW cY er cQ a9 du bw bu ev jE gS jD jC jB gB
 have hB := bD
 have hF := cI
 have hG := dx
 have hS := dm
 have hP := ew
 have hM := dU
 have hX := bj
 have hY := cN
 have hT := fq
 have hZ := bT
 have hU := dX
 clear bD cI dx dm ew dU bj cN fq bT dX
 refine da (n := 5) (S := fun w' => aH w' gX (aX b.addr b.aff b.slots (.slice Af b.free.length cf) (.slice Aa b.attrs.length ca)) 57 ∧ aH w' gY (dt b.addr b.aff (.slice As b.slots.length cs) (.slice Ap b.free.length cp) (.slice Am M.length cm)) 62) (ds := []) #[false, false, false, false, false] (by kernel_rfl) rfl rfl ⟨hX.out, hY.out⟩ (fun hHeld => ?_); refine bK lJ.tab37 lJ.bits37 (fun ab bq => ?_)
 refine tk 0 ab.out bq.out hHeld ?_ (hv := by exact fun _ aY => aJ 57 (.tmp 3) rfl gX rfl _ _ _ aY.1 Try.underlying57 rfl HLB.out)
 refine tk 1 ab.out bq.out hHeld ?_ (hv := by exact fun _ aY => aJ 62 (.tmp 4) rfl gY rfl _ _ _ aY.2 Try.underlying62 rfl (by kernel_rfl))
 refine ow 2 ab.out (fun K hK => ?_)
 refine bz (by rfl) rfl 57 (.tmp 6) (.tmp 235) rfl gZ (aX b.addr b.aff b.slots (.slice Af b.free.length cf) (.slice Aa b.attrs.length ca)) rfl rfl 57 _ hZ.out 68 (by kernel_rfl) (ag _ _ _ _ _ HL.out) rfl (bZ _ _ _ _ _ rfl rfl) ?_
 intro V2 aa J; replace hB := gb hB bO J; replace hF := gr hF hZ J; replace hG := gr hG hZ J; replace hS := gr hS hZ J; replace hP := gr hP hZ J; replace hM := gr hM hZ J; replace hX := gn hX aG J; replace hY := gx hY hZ J; replace hT := gx hT hZ J; replace hU := gx hU hZ J; replace hZ := ak (aa); clear aa J
 refine hK.out _ _ ⟨hX.out, hY.out⟩ (fun hHeld => ?_)
 clear hK K
 refine ow 3 ab.out (fun K hK => ?_)
 refine bz (by rfl) rfl 62 (.tmp 7) (.tmp 236) rfl gU (dt b.addr b.aff (.slice As b.slots.length cs) (.slice Ap b.free.length cp) (.slice Am M.length cm)) rfl rfl 62 _ hU.out 5 (by kernel_rfl) rfl rfl (dO _ _ rfl rfl rfl) ?_
 intro V3 aa J; replace hB := gb hB fx J; replace hF := gr hF hU J; replace hG := gr hG hU J; replace hS := gr hS hU J; replace hP := gr hP hU J; replace hM := gr hM hU J; replace hX := gx hX hU J; replace hY := gn hY dE J; replace hT := gx hT hU J; replace hZ := gx hZ hU J; replace hU := ak (aa); clear aa J
 refine hK.out _ _ ⟨hX.out, hY.out⟩ (fun hHeld => ?_)
 clear hK K
 refine pu 4 ab.out ?_
 refine dn ab.out ?_
 clear hHeld
 go_wp2_with fail
 refine bodyPost_ret (eT rfl _ _ _ gZ gU 57 62 _ _ _ _ rfl hZ.out rfl Try.underlying57 (by first | exact HLB.out | exact HLN _ _ _ _) rfl hU.out rfl Try.underlying62 (by kernel_rfl)) rfl ⟨_, _, b, rfl, ?_, ?_, ?_, hB.out⟩
 ·exact HG.out
 ·exact ⟨HL.out, _, _, rfl, hF.out, hG.out⟩
 ·exact ⟨_, _, _, rfl, hS.out, hP.out, by rw [← HM.out]; exact hM.out⟩
set_option maxHeartbeats 16000000 in
set_option maxRecDepth 100000 in
theorem LR (b : Bk) (hg : RG b) (n : Int) (hn : n < 9223372036854775808) (a : kD) (e9 : a.f0.size ≤ 9223372036854775807) (fB : a.f1.size ≤ 9223372036854775807) (l : List Int) (hu : ∀ x ∈ l, 0 ≤ x ∧ x < 4294967296) (hlm : l.length ≤ 9223372036854775807) (Al : Option Addr) (cl : Nat) (hcl : l.length ≤ cl) (aff : ByteArray) (hza : aff.size ≤ 9223372036854775807) (he : a.f1.toList ≠ []) (v v2 : Value) (w : World) (base : Nat) (hbase : base ≤ w.heap.size) (hO : ee w base v b) (hR : eM w base v2 b) (hC : Kd.C (Kd.int .u32) w Al l.length l) :
  Calls Try.prog 47 #[v, v2, .agg #[.int .i64 6, .int .i64 n, .string a.f0, .string a.f1, .slice Al l.length cl, .string aff]] w fun e w' => ∃ v1 v2 b', e = .returned (.tuple #[v1, v2, .bool true]) ∧ RG b' ∧ ee w' base v1 b' ∧ eM w' base v2 b' ∧ Below w.heap.size w w' := by
 obtain ⟨hl, vf, va, rfl, hf, ha⟩ := hO
 obtain ⟨vs, vp, vm, rfl, hs, hp, hm⟩ := hR
 obtain ⟨Af, cf, rfl⟩ := Kd.R_slice hf
 obtain ⟨Aa, ca, rfl⟩ := Kd.R_slice ha
 obtain ⟨As, cs, rfl⟩ := Kd.R_slice hs
 obtain ⟨Ap, cp, rfl⟩ := Kd.R_slice hp
 obtain ⟨M, hM⟩ : ∃ M, M = b.attrs.map vc := ⟨_, rfl⟩
 rw [← hM] at hm
 obtain ⟨Am, cm, rfl⟩ := Kd.R_slice hm
 have HL := ak hl
 have HM := ak hM
 have bl := ak hf
 have dg := ak ha
 have aZ := ak hs
 have ed := ak hp
 have bL := ak hm
 have HG := ak hg
 have ae := ak (Below.refl w.heap.size w)
 have HBASE := ak hbase
 have HLB := ak (b9 (aX b.addr b.aff b.slots (.slice Af b.free.length cf) (.slice Aa b.attrs.length ca)) (ag _ _ _ _ _ HL.out))
 obtain ⟨lt, hlt⟩ : ∃ lt, lt = l.take 80 := ⟨_, rfl⟩
 have hut : ∀ x ∈ lt, 0 ≤ x ∧ x < 4294967296 := fun x hx => hu x (by rw [hlt] at hx; exact List.mem_of_mem_take hx)
 have hll : lt.length = min 80 l.length := by rw [hlt, List.length_take]
 have HCL := ak hcl
 have HLL := ak hll
 have HC := ak hC
 have HCT := ak (fun W (I : Below w.heap.size w W) => (show Kd.C (Kd.int .u32) W Al lt.length lt by
  rcases Nat.lt_or_ge 80 l.length with h | h
  ·have h_ := Kd.C_take (m := 80) (Kd.C_below hC I) (by omega)
   rw [← hlt] at h_
   exact h_
  ·have h_ := Kd.C_below hC I
   have e : lt = l := by rw [hlt, List.take_of_length_le h]
   rw [e]
   exact h_))
 have hp := iA hg.right
 have hpq : ((fun x => x.f1.toList == a.f1.toList) : At → Bool) = pG ⟨#[]⟩ a.f1 := by
  funext x
  unfold pG
  have h1 : (a.f1.toList == (⟨#[]⟩ : ByteArray).toList) = false := by simpa using he
  have h2 : ((⟨#[]⟩ : ByteArray).toList == (⟨#[]⟩ : ByteArray).toList) = true := beq_self_eq_true _
  rw [h1, h2]
  simp
 have hbl := fun v w h => CX b hg.ok a.f1 hg.right v w h
 have hgv := fun v w h => wO b hg.ok hp hl ⟨#[]⟩ a.f1 v w h
 rw [hpq] at hbl
 have hur : ∀ x ∈ dH b (pG ⟨#[]⟩ a.f1) 64, 0 ≤ x ∧ x < 4294967296 := lN hg.ok hp.first _
 have hulen := gP b (pG ⟨#[]⟩ a.f1) 64
 obtain ⟨ul, hul⟩ : ∃ ul, ul = dH b (pG ⟨#[]⟩ a.f1) 64 := ⟨_, rfl⟩
 rw [← hul] at hbl hgv hur hulen
 have hrg := hg.rel ul
 have hrl := fun Al cl v w h hC => qc b hg.ok hp hl ul hur (by omega) Al cl v w h hC
 rw [wu hg] at hrl
 obtain ⟨nb, hnb⟩ : ∃ nb, nb = kz b ul := ⟨_, rfl⟩
 obtain ⟨oo, hoo⟩ : ∃ oo, oo = (relL b ul).2 := ⟨_, rfl⟩
 rw [← hnb, ← hoo] at hbl hrl
 rw [← hnb] at hrg
 have hol : oo.length ≤ 1000 := by rw [hoo]; have h_ := (sQ hg.ok hp hl ul ul.length (Nat.le_refl _)).ol; rw [List.take_length] at h_; omega
 have HRG := ak hrg
 have HNL := ak hrg.l64
 have HOL := ak hol
 have HLN := fun A8 c8 A9 c9 => b9 (aX nb.addr nb.aff nb.slots (.slice A8 nb.free.length c8) (.slice A9 nb.attrs.length c9)) (ag _ _ _ _ _ HNL.out)
 have q0 : (a.f1.toList == []) = false := by simpa using he
 have q1 : a.f1.toList.isEmpty = false := by simpa using he
 have q2 : (a.f1.toList = []) = False := eq_false he
 have HBL := ak hbl
 have HRL := ak hrl
 have HGV := ak hgv
 clear hrg hbl hrl hgv hol hnb hoo hp hpq hur hul hulen he
 clear hl hM hf ha hs hp hm hbase hC hu hut hll hcl hlt hg
 go_enter Try.func47, Try.ntmps47
 go_upto_if 37 with (first
  | (refine aE rfl 57 (.tmp 0) rfl _ rfl ?_; intro gX W1 J aa I; have bS := ge ae J; have aj := ak (ae.out.trans (I.mono ae.out.size)); have bg := mv I bl; have cH := mv I dg; have bd := mv I aZ; have dc := mv I ed; have bG := mv I bL; have ah := ak (aa); clear J aa I ae bl dg aZ ed bL)
  | (refine aE rfl 62 (.tmp 1) rfl _ rfl ?_; intro gY W2 J aa I; have iZ := ge aj J; have fD := ne ah J; have aw := mv I aj; have bM := mv I bg; have dh := mv I cH; have bF := mv I bd; have dp := mv I dc; have cw := mv I bG; have au := mv I ah; have cr := ak (aa); clear J aa I aj bg cH bd dc bG ah)
  | (refine aE rfl 79 (.tmp 2) rfl _ rfl ?_; intro gT W3 J aa I; have ki := ge aw J; have gW := ne au J; have ix := ne cr J; have aD := mv I aw; have cg := mv I bM; have dL := mv I dh; have b6 := mv I bF; have ec := mv I dp; have dq := mv I cw; have aA := mv I au; have cE := mv I cr; have dQ := ak (aa); clear J aa I aw bM dh bF dp cw au cr)
  | (refine ax (some 6) rfl rfl 57 rfl a7 bJ ?_; intro gZ W4 J aa I; have bO := ge aD J; have aG := ne aA J; have fP := ne cE J; have jG := ne dQ J; have aW := mv I aD; have cd := mv I cg; have dB := mv I dL; have cP := mv I b6; have ey := mv I ec; have dw := mv I dq; have aV := mv I aA; have b5 := mv I cE; have dT := mv I dQ; have bb := ak (aa); clear J aa I aD cg dL b6 ec dq aA cE dQ)
  | (refine ax (some 7) rfl rfl 62 rfl dM (fun _ => by kernel_rfl) ?_; intro gU W5 J aa I; have fx := ge aW J; have gF := ne aV J; have dE := ne b5 J; have jH := ne dT J; have gE := ne bb J; have bf := mv I aW; have b8 := mv I cd; have cW := mv I dB; have cY := mv I cP; have er := mv I ey; have cQ := mv I dw; have a9 := mv I aV; have du := mv I b5; have bw := mv I dT; have bu := mv I bb; have ev := ak (aa); have jE := bw.out.cell 0 _ rfl; have gS := bw.out.cell 1 _ rfl; have jD := bw.out.cell 2 _ rfl; have jC := bw.out.cell 3 _ rfl; have jB := bw.out.cell 4 _ rfl; have gB := bw.out.cell 5 _ rfl; clear J aa I aW cd dB cP ey dw aV b5 dT bb))
 go_cut [9] from 38 to 39 (fun s9 wx => s9 = .slice Al lt.length cl ∧ W5 = wx)
 case first =>
  rcases Nat.lt_or_ge 80 l.length with ll | ll
  ·have lh : decide ((80 : Int) < (l.length : Int)) = true := by simp; omega
   have tZ : (((0 : Int) ≤ 80 ∧ (80 : Int) ≤ (cl : Int)) = True) := eq_true ⟨by omega, by have := HCL.out; omega⟩
   have tY : (((80 : Int) ≤ (cl : Int)) = True) := eq_true (by have := HCL.out; omega)
   go_wp2_with fail
   go_meet
   exact ⟨by rw [HLL.out, Nat.min_eq_left (by omega)], rfl⟩
  ·have lh : decide ((80 : Int) < (l.length : Int)) = false := by simp; omega
   go_wp2_with fail
   go_meet
   exact ⟨by rw [HLL.out, Nat.min_eq_right (by omega)], rfl⟩
 case rest =>
 obtain ⟨gf, fZ⟩ := hcut
 subst gf
 subst fZ
 go_wp2_with (first
  | ((with_reducible refine av (N := 178) rfl ?_); refine ay rfl 57 (.tmp 3) rfl gX rfl _ _ _ a9.out Try.underlying57 rfl 68 (by kernel_rfl) (ag _ _ _ _ _ HL.out) ?_)
  | (go_at_call 54; refine (HBL.out _ _ ⟨_, _, _, _, rfl, ⟨HL.out, (rr b8).1, (rr b8).2, (rr cW).1, (rr cW).2⟩⟩).mono ?_; rintro e W6 ⟨v_, jT, rfl, aU, eC, I⟩; have HSZ := ak (lb HBASE bf); obtain ⟨gR, nE, nF, rfl, cV, dA⟩ := aU; obtain ⟨A8, c8, rfl⟩ := Kd.R_slice cV; obtain ⟨A9, c9, rfl⟩ := Kd.R_slice dA; obtain ⟨Ao, co, rfl⟩ := Kd.R_slice eC; have bD := mv I bf; have cI := mv I b8; have dx := mv I cW; have dm := mv I cY; have ew := mv I er; have dU := mv I cQ; have bj := mv I a9; have cN := mv I du; have fq := mv I bw; have bT := mv I bu; have dX := mv I ev; have me := ak (Kd.R_lower cV HSZ.out); have mb := ak (Kd.R_lower dA HSZ.out); have la := ak (Kd.R_lower eC HSZ.out); clear HSZ gR cV dA eC I bf b8 cW cY er cQ a9 du bw bu ev jE gS jD jC jB gB)
  | (refine ax (some 25) rfl rfl 57 rfl a7 bJ ?_; intro gQ W7 J aa I; have cz := ge bD J; have bk := ne bj J; have tC := ne cN J; have tF := ne fq J; have a8 := ne bT J; have tD := ne dX J; have dR := mv I bD; have eS := mv I cI; have iz := mv I dx; have fQ := mv I dm; have l9 := mv I ew; have jJ := mv I dU; have df := mv I bj; have iO := mv I cN; have nW := mv I fq; have dI := mv I bT; have nV := mv I dX; have mc := mv I me; have ma := mv I mb; have k9 := mv I la; have dv := ak (aa); clear J aa I bD cI dx dm ew dU bj cN fq bT dX me mb la)
  | (refine aN rfl 57 (.tmp 25) (.tmp 183) rfl gQ (aX nb.addr nb.aff nb.slots (.slice A8 nb.free.length c8) (.slice A9 nb.attrs.length c9)) rfl rfl 57 _ dv.out 68 (by kernel_rfl) (ag _ _ _ _ _ HNL.out) rfl (bZ _ _ _ _ _ rfl rfl) ?_; intro W8 aa J; have gO := gb dR cz J; have ko := gr eS dv J; have km := gr iz dv J; have lF := gr fQ dv J; have nm := gr l9 dv J; have np := gr jJ dv J; have gN := gn df bk J; have lD := gx iO dv J; have mL := gx nW dv J; have fI := gn dI a8 J; have nU := gx nV dv J; have oh := gr mc dv J; have ob := gr ma dv J; have pB := gr k9 dv J; have nZ := ak (aa); clear aa J dR eS iz fQ l9 jJ df iO nW dI nV mc ma k9 dv))
 have ai : Below W8.heap.size W8 W8.drew := bp (Below.refl _ _)
 have kp := mv ai gO; have nu := mv ai ko; have nt := mv ai km; have k8 := mv ai lF; have nk := mv ai nm; have nn := mv ai np; have kl := mv ai gN; have kZ := mv ai lD; have mK := mv ai mL; have j9 := mv ai fI; have nh := mv ai nU; have oe := mv ai oh; have oa := mv ai ob; have uZ := mv ai pB; have ni := mv ai nZ
 clear ai gO ko km lF nm np gN lD mL fI nU oh ob pB nZ
 have hB := kp
 have hF := nu
 have hG := nt
 have hS := k8
 have hP := nk
 have hM := nn
 have hX := kl
 have hY := kZ
 have hT := mK
 have hZ := j9
 have hU := nh
 have hC := oe
 have hD := oa
 have hO := uZ
 have hQ := ni
 clear kp nu nt k8 nk nn kl kZ mK j9 nh oe oa uZ ni
 refine da (n := 13) (S := fun w' => aH w' gY (dt b.addr b.aff (.slice As b.slots.length cs) (.slice Ap b.free.length cp) (.slice Am M.length cm)) 62 ∧ aH w' gT [.int .i64 6, .int .i64 n, .string a.f0, .string a.f1, .slice Al l.length cl, .string aff] 79) (ds := []) #[false, false, false, false, false, false, false, false, false, false, false, false, false] (by kernel_rfl) rfl rfl ⟨hY.out, hT.out⟩ (fun hHeld => ?_); refine bK qW.tab28 qW.bits28 (fun ab bq => ?_)
 refine tk 0 ab.out bq.out hHeld ?_ (hv := by exact fun _ aY => aJ 62 (.tmp 4) rfl gY rfl _ _ _ aY.1 Try.underlying62 rfl (by kernel_rfl))
 refine tk 1 ab.out bq.out hHeld ?_ (hv := by exact fun _ aY => aJ 62 (.tmp 4) rfl gY rfl _ _ _ aY.1 Try.underlying62 rfl (by kernel_rfl))
 refine pu 2 ab.out ?_
 refine pu 3 ab.out ?_
 refine tk 4 ab.out bq.out hHeld ?_ (hv := by intro w' aY; have Ds := aY.2.cell 3 _ rfl; go_simp; with_reducible rfl)
 refine oS (σ := Nat × Option Addr × Nat × Value × Value) 2 #[true, true, true, true, true, true, true, true, true, true, true, false, false] (fun s => [(192, .slice s.2.1 ul.length s.2.2.1), (193, .tuple #[s.2.2.2.1, s.2.2.2.2]), (186, .tuple #[s.2.2.2.1, s.2.2.2.2]), (194, s.2.2.2.1), (195, s.2.2.2.2), (28, .pointer (some ⟨s.1, 0, none⟩))]) (fun s w' => Aside0 (Below w.heap.size w w') ∧ Aside0 (Kd.R (Kd.int .u8) 5 w' base (fun _ => True) (.slice Af b.free.length cf) b.free) ∧ Aside0 (Kd.R iR 85 w' base (fun _ => True) (.slice Aa b.attrs.length ca) b.attrs) ∧ Aside0 (Kd.R (Kd.int .i64) 3 w' base (fun _ => True) (.slice As b.slots.length cs) b.slots) ∧ Aside0 (Kd.R (Kd.int .i64) 3 w' base (fun _ => True) (.slice Ap b.free.length cp) b.free) ∧ Aside0 (Kd.R hH 76 w' base (fun _ => True) (.slice Am M.length cm) M) ∧ Aside0 (aH w' gX (aX b.addr b.aff b.slots (.slice Af b.free.length cf) (.slice Aa b.attrs.length ca)) 57) ∧ Aside0 (aH w' gY (dt b.addr b.aff (.slice As b.slots.length cs) (.slice Ap b.free.length cp) (.slice Am M.length cm)) 62) ∧ Aside0 (aH w' gT [.int .i64 6, .int .i64 n, .string a.f0, .string a.f1, .slice Al l.length cl, .string aff] 79) ∧ Aside0 (aH w' gZ a7 57) ∧ Aside0 (aH w' gU dM 62) ∧ Aside0 (Kd.R (Kd.int .u8) 5 w' base (fun _ => True) (.slice A8 nb.free.length c8) nb.free) ∧ Aside0 (Kd.R iR 85 w' base (fun _ => True) (.slice A9 nb.attrs.length c9) nb.attrs) ∧ Aside0 (Kd.R (Kd.int .u32) 46 w' base (fun _ => True) (.slice Ao oo.length co) oo) ∧ Aside0 (aH w' gQ (aX nb.addr nb.aff nb.slots (.slice A8 nb.free.length c8) (.slice A9 nb.attrs.length c9)) 57) ∧ Aside0 (aH w' s.1 dM 62) ∧ Aside0 (w.heap.size ≤ s.1) ∧ Aside0 (gY ≠ s.1) ∧ Aside0 (gU ≠ s.1) ∧ Aside0 (Kd.R (Kd.int .u32) 46 w' base (fun _ => True) (.slice s.2.1 ul.length s.2.2.1) ul) ∧ Aside0 (eM w' base s.2.2.2.1 nb) ∧ Aside0 (Kd.R (Kd.int .u32) 46 w' base (fun _ => True) s.2.2.2.2 oo)) ?_ ?_
 rotate_left
 ·intro dZ
  refine tw 5 10 ab.out (fun K hK => ?_) (fun K hK => ?_)
  ·skip
   refine gs Try.func63 #[.agg (dt b.addr b.aff (.slice As b.slots.length cs) (.slice Ap b.free.length cp) (.slice Am M.length cm)).toArray, .string ⟨#[]⟩, .string a.f1] (HGV.out _ _ ⟨M, As, cs, Ap, cp, Am, cm, rfl, (jZ.of HM.out hS.out hP.out hM.out)⟩) ?_
   rintro e V5 ⟨Mr, rfl, qv, I⟩
   refine ⟨_, rfl, ?_⟩
   have hL := ak (Kd.R_lower qv (lb HBASE hB)); obtain ⟨Au, cu, rfl⟩ := Kd.R_slice hL.out; (try replace hV := mv I hV); replace hB := mv I hB; replace hF := mv I hF; replace hG := mv I hG; replace hS := mv I hS; replace hP := mv I hP; replace hM := mv I hM; replace hX := mv I hX; replace hY := mv I hY; replace hT := mv I hT; replace hZ := mv I hZ; replace hU := mv I hU; replace hC := mv I hC; replace hD := mv I hD; replace hO := mv I hO; replace hQ := mv I hQ; clear qv I
   refine kn hK ⟨hY.out, hT.out⟩ (fun hHeld => ?_)
   clear hK K
   refine tw 6 10 ab.out (fun K hK => ?_) (fun K hK => ?_)
   ·skip
    refine gs Try.func84 #[.agg (dt b.addr b.aff (.slice As b.slots.length cs) (.slice Ap b.free.length cp) (.slice Am M.length cm)).toArray, .slice Au ul.length cu] (HRL.out _ _ _ _ ⟨M, As, cs, Ap, cp, Am, cm, rfl, (jZ.of HM.out hS.out hP.out hM.out)⟩ (Kd.R_reads' hL.out).2.2) ?_
    rintro e V6 ⟨v9, p7, rfl, fF, lg, I⟩
    refine ⟨_, rfl, ?_⟩
    have fT := ak (eM.lower' fF (lb HBASE hB)); have cB := ak (Kd.R_lower lg (lb HBASE hB)); (try replace hL := mv I hL); (try replace hV := mv I hV); replace hB := mv I hB; replace hF := mv I hF; replace hG := mv I hG; replace hS := mv I hS; replace hP := mv I hP; replace hM := mv I hM; replace hX := mv I hX; replace hY := mv I hY; replace hT := mv I hT; replace hZ := mv I hZ; replace hU := mv I hU; replace hC := mv I hC; replace hD := mv I hD; replace hO := mv I hO; replace hQ := mv I hQ; clear fF lg I
    refine kn hK ⟨hY.out, hT.out⟩ (fun hHeld => ?_)
    clear hK K
    refine pu 7 ab.out ?_
    refine pu 8 ab.out ?_
    refine pu 9 ab.out ?_
    refine on 10 ab.out (fun K hK => ?_)
    refine dz (by rfl) 62 rfl dM (fun _ => by kernel_rfl) ?_
    intro gV ub J aa I
    have cG := ge hB J
    have eR := ne hY J
    have eb := ne hU J
    (try replace hL := mv I hL)
    (try replace fT := mv I fT)
    (try replace cB := mv I cB)
    replace hB := mv I hB
    replace hF := mv I hF
    replace hG := mv I hG
    replace hS := mv I hS
    replace hP := mv I hP
    replace hM := mv I hM
    replace hX := mv I hX
    replace hY := mv I hY
    replace hT := mv I hT
    replace hZ := mv I hZ
    replace hU := mv I hU
    replace hC := mv I hC
    replace hD := mv I hD
    replace hO := mv I hO
    replace hQ := mv I hQ
    have hV := ak aa
    clear J aa I
    refine kn hK ⟨hY.out, hT.out⟩ (fun hHeld => ?_)
    clear hK K
    exact nc (dZ ⟨gV, Au, cu, v9, p7⟩ _ ⟨hB, hF, hG, hS, hP, hM, hX, hY, hT, hZ, hU, hC, hD, hO, hQ, hV, cG, eR, eb, hL, fT, cB⟩)
   ·skip
    refine dz (by rfl) 62 rfl dM (fun _ => by kernel_rfl) ?_
    intro gV ub J aa I
    have cG := ge hB J
    have eR := ne hY J
    have eb := ne hU J
    (try replace hL := mv I hL)
    (try replace fT := mv I fT)
    (try replace cB := mv I cB)
    replace hB := mv I hB
    replace hF := mv I hF
    replace hG := mv I hG
    replace hS := mv I hS
    replace hP := mv I hP
    replace hM := mv I hM
    replace hX := mv I hX
    replace hY := mv I hY
    replace hT := mv I hT
    replace hZ := mv I hZ
    replace hU := mv I hU
    replace hC := mv I hC
    replace hD := mv I hD
    replace hO := mv I hO
    replace hQ := mv I hQ
    have hV := ak aa
    clear J aa I
    refine kn hK ⟨hY.out, hT.out⟩ (fun hHeld => ?_)
    clear hK K
    refine on 6 ab.out (fun K hK => ?_)
    refine gs Try.func84 #[.agg (dt b.addr b.aff (.slice As b.slots.length cs) (.slice Ap b.free.length cp) (.slice Am M.length cm)).toArray, .slice Au ul.length cu] (HRL.out _ _ _ _ ⟨M, As, cs, Ap, cp, Am, cm, rfl, (jZ.of HM.out hS.out hP.out hM.out)⟩ (Kd.R_reads' hL.out).2.2) ?_
    rintro e V6 ⟨v9, p7, rfl, fF, lg, I⟩
    refine ⟨_, rfl, ?_⟩
    have fT := ak (eM.lower' fF (lb HBASE hB)); have cB := ak (Kd.R_lower lg (lb HBASE hB)); (try replace hL := mv I hL); (try replace hV := mv I hV); replace hB := mv I hB; replace hF := mv I hF; replace hG := mv I hG; replace hS := mv I hS; replace hP := mv I hP; replace hM := mv I hM; replace hX := mv I hX; replace hY := mv I hY; replace hT := mv I hT; replace hZ := mv I hZ; replace hU := mv I hU; replace hC := mv I hC; replace hD := mv I hD; replace hO := mv I hO; replace hQ := mv I hQ; clear fF lg I
    refine kn hK ⟨hY.out, hT.out⟩ (fun hHeld => ?_)
    clear hK K
    refine pu 7 ab.out ?_
    refine pu 8 ab.out ?_
    refine pu 9 ab.out ?_
    exact nc (dZ ⟨gV, Au, cu, v9, p7⟩ _ ⟨hB, hF, hG, hS, hP, hM, hX, hY, hT, hZ, hU, hC, hD, hO, hQ, hV, cG, eR, eb, hL, fT, cB⟩)
  ·skip
   refine dz (by rfl) 62 rfl dM (fun _ => by kernel_rfl) ?_
   intro gV ub J aa I
   have cG := ge hB J
   have eR := ne hY J
   have eb := ne hU J
   (try replace hL := mv I hL)
   (try replace fT := mv I fT)
   (try replace cB := mv I cB)
   replace hB := mv I hB
   replace hF := mv I hF
   replace hG := mv I hG
   replace hS := mv I hS
   replace hP := mv I hP
   replace hM := mv I hM
   replace hX := mv I hX
   replace hY := mv I hY
   replace hT := mv I hT
   replace hZ := mv I hZ
   replace hU := mv I hU
   replace hC := mv I hC
   replace hD := mv I hD
   replace hO := mv I hO
   replace hQ := mv I hQ
   have hV := ak aa
   clear J aa I
   refine kn hK ⟨hY.out, hT.out⟩ (fun hHeld => ?_)
   clear hK K
   refine on 5 ab.out (fun K hK => ?_)
   refine gs Try.func63 #[.agg (dt b.addr b.aff (.slice As b.slots.length cs) (.slice Ap b.free.length cp) (.slice Am M.length cm)).toArray, .string ⟨#[]⟩, .string a.f1] (HGV.out _ _ ⟨M, As, cs, Ap, cp, Am, cm, rfl, (jZ.of HM.out hS.out hP.out hM.out)⟩) ?_
   rintro e V5 ⟨Mr, rfl, qv, I⟩
   refine ⟨_, rfl, ?_⟩
   have hL := ak (Kd.R_lower qv (lb HBASE hB)); obtain ⟨Au, cu, rfl⟩ := Kd.R_slice hL.out; (try replace hV := mv I hV); replace hB := mv I hB; replace hF := mv I hF; replace hG := mv I hG; replace hS := mv I hS; replace hP := mv I hP; replace hM := mv I hM; replace hX := mv I hX; replace hY := mv I hY; replace hT := mv I hT; replace hZ := mv I hZ; replace hU := mv I hU; replace hC := mv I hC; replace hD := mv I hD; replace hO := mv I hO; replace hQ := mv I hQ; clear qv I
   refine kn hK ⟨hY.out, hT.out⟩ (fun hHeld => ?_)
   clear hK K
   refine on 6 ab.out (fun K hK => ?_)
   refine gs Try.func84 #[.agg (dt b.addr b.aff (.slice As b.slots.length cs) (.slice Ap b.free.length cp) (.slice Am M.length cm)).toArray, .slice Au ul.length cu] (HRL.out _ _ _ _ ⟨M, As, cs, Ap, cp, Am, cm, rfl, (jZ.of HM.out hS.out hP.out hM.out)⟩ (Kd.R_reads' hL.out).2.2) ?_
   rintro e V6 ⟨v9, p7, rfl, fF, lg, I⟩
   refine ⟨_, rfl, ?_⟩
   have fT := ak (eM.lower' fF (lb HBASE hB)); have cB := ak (Kd.R_lower lg (lb HBASE hB)); (try replace hL := mv I hL); (try replace hV := mv I hV); replace hB := mv I hB; replace hF := mv I hF; replace hG := mv I hG; replace hS := mv I hS; replace hP := mv I hP; replace hM := mv I hM; replace hX := mv I hX; replace hY := mv I hY; replace hT := mv I hT; replace hZ := mv I hZ; replace hU := mv I hU; replace hC := mv I hC; replace hD := mv I hD; replace hO := mv I hO; replace hQ := mv I hQ; clear fF lg I
   refine kn hK ⟨hY.out, hT.out⟩ (fun hHeld => ?_)
   clear hK K
   refine pu 7 ab.out ?_
   refine pu 8 ab.out ?_
   refine pu 9 ab.out ?_
   exact nc (dZ ⟨gV, Au, cu, v9, p7⟩ _ ⟨hB, hF, hG, hS, hP, hM, hX, hY, hT, hZ, hU, hC, hD, hO, hQ, hV, cG, eR, eb, hL, fT, cB⟩)
 intro s w' hFF; obtain ⟨gV, Au, cu, v9, p7⟩ := s; simp only at hFF; obtain ⟨hB, hF, hG, hS, hP, hM, hX, hY, hT, hZ, hU, hC, hD, hO, hQ, hV, cG, eR, eb, hL, fT, cB⟩ := hFF; have fF := fT.out; obtain ⟨uk, qN, qO, rfl, gg, fm, ez⟩ := fF; obtain ⟨A1, c1, rfl⟩ := Kd.R_slice gg; obtain ⟨A2, c2, rfl⟩ := Kd.R_slice fm; obtain ⟨NM, hNM⟩ : ∃ NM, NM = nb.attrs.map vc := ⟨_, rfl⟩; rw [← hNM] at ez; have HNM := ak hNM; obtain ⟨A3, c3, rfl⟩ := Kd.R_slice ez; obtain ⟨CO, BU, rfl⟩ := Kd.R_slice cB.out; have hI := ak gg; have hJ := ak fm; have hE := ak ez; have gy := cB; clear hL fT cB hNM gg fm ez
 refine nj ?_
 refine ow 11 ab.out (fun K hK => ?_)
 refine bz (by rfl) rfl 62 (.tmp 28) (.tmp 194) rfl gV (dt nb.addr nb.aff (.slice A1 nb.slots.length c1) (.slice A2 nb.free.length c2) (.slice A3 NM.length c3)) rfl rfl 62 _ hV.out 5 (by kernel_rfl) rfl rfl (dO _ _ rfl rfl rfl) ?_
 intro ov aa J; replace hB := gb hB cG J; replace hF := gr hF hV J; replace hG := gr hG hV J; replace hS := gr hS hV J; replace hP := gr hP hV J; replace hM := gr hM hV J; replace hX := gx hX hV J; replace hY := gn hY eR J; replace hT := gx hT hV J; replace hZ := gx hZ hV J; replace hU := gn hU eb J; replace hC := gr hC hV J; replace hD := gr hD hV J; replace hO := gr hO hV J; replace hQ := gx hQ hV J; replace hI := gr hI hV J; replace hJ := gr hJ hV J; replace hE := gr hE hV J; replace gy := gr gy hV J; replace hV := ak (aa); clear aa J
 refine hK.out _ _ ⟨hY.out, hT.out⟩ (fun hHeld => ?_)
 clear hK K
 refine pu 12 ab.out ?_
 refine dn ab.out ?_
 clear hHeld
 go_wp2_with fail
 have ai : Below ov.heap.size ov ov.drew := bp (Below.refl _ _)
 have yA := mv ai hB; have ye := mv ai hF; have xX := mv ai hG; have xw := mv ai hS; have xF := mv ai hP; have xL := mv ai hM; have xm := mv ai hX; have xi := mv ai hY; have xu := mv ai hT; have xf := mv ai hZ; have xp := mv ai hU; have yt := mv ai hC; have yo := mv ai hD; have xJ := mv ai hO; have xB := mv ai hQ; have xo := mv ai hV; have xU := mv ai hI; have xQ := mv ai hJ; have yk := mv ai hE; have u9 := mv ai gy
 clear ai hB hF hG hS hP hM hX hY hT hZ hU hC hD hO hQ hV hI hJ hE gy
 have hB := yA
 have hF := ye
 have hG := xX
 have hS := xw
 have hP := xF
 have hM := xL
 have hX := xm
 have hY := xi
 have hT := xu
 have hZ := xf
 have hU := xp
 have hC := yt
 have hD := yo
 have hO := xJ
 have hQ := xB
 have hV := xo
 have hI := xU
 have hJ := xQ
 have hE := yk
 have gy := u9
 clear yA ye xX xw xF xL xm xi xu xf xp yt yo xJ xB xo xU xQ yk u9
 refine da (n := 12) (S := fun w' => aH w' gQ (aX nb.addr nb.aff nb.slots (.slice A8 nb.free.length c8) (.slice A9 nb.attrs.length c9)) 57 ∧ aH w' gV (dt nb.addr nb.aff (.slice A1 nb.slots.length c1) (.slice A2 nb.free.length c2) (.slice A3 NM.length c3)) 62) (ds := []) #[false, false, false, false, false, false, false, false, false, false, false, false] (by kernel_rfl) rfl rfl ⟨hQ.out, hV.out⟩ (fun hHeld => ?_); refine bK qV.tab29 qV.bits29 (fun ab bq => ?_)
 refine tk 0 ab.out bq.out hHeld ?_ (hv := by exact fun _ aY => aJ 57 (.tmp 25) rfl gQ rfl _ _ _ aY.1 Try.underlying57 rfl (HLN _ _ _ _))
 refine tk 1 ab.out bq.out hHeld ?_ (hv := by exact fun _ aY => aJ 62 (.tmp 28) rfl gV rfl _ _ _ aY.2 Try.underlying62 rfl (by kernel_rfl))
 refine pu 2 ab.out ?_
 refine pu 3 ab.out ?_
 refine pu 4 ab.out ?_
 refine pu 5 ab.out ?_
 refine pu 6 ab.out ?_
 refine on 7 ab.out (fun K hK => ?_)
 refine gs Try.func61 #[(.slice Ao oo.length co), (.slice CO oo.length BU)] (mm oo HOL.out _ _ _ _ _ (Kd.R_reads' hO.out).2.2 (Kd.R_reads' hO.out).2.1 (Kd.R_reads' gy.out).2.2 (Kd.R_reads' gy.out).2.1) ?_
 rintro e V7 ⟨rfl, I⟩
 refine ⟨_, rfl, ?_⟩
 replace hB := mv I hB; replace hF := mv I hF; replace hG := mv I hG; replace hS := mv I hS; replace hP := mv I hP; replace hM := mv I hM; replace hX := mv I hX; replace hY := mv I hY; replace hT := mv I hT; replace hZ := mv I hZ; replace hU := mv I hU; replace hC := mv I hC; replace hD := mv I hD; replace hO := mv I hO; replace hQ := mv I hQ; replace hV := mv I hV; replace hI := mv I hI; replace hJ := mv I hJ; replace hE := mv I hE; replace gy := mv I gy
 refine kn hK ⟨hQ.out, hV.out⟩ (fun hHeld => ?_)
 clear hK K
 refine pu 8 ab.out ?_
 refine ow 9 ab.out (fun K hK => ?_)
 refine bz (by rfl) rfl 57 (.tmp 6) (.tmp 196) rfl gZ (aX nb.addr nb.aff nb.slots (.slice A8 nb.free.length c8) (.slice A9 nb.attrs.length c9)) rfl rfl 57 _ hZ.out 68 (by kernel_rfl) (ag _ _ _ _ _ HNL.out) rfl (bZ _ _ _ _ _ rfl rfl) ?_
 intro V9 aa J; replace hB := gb hB bO J; replace hF := gr hF hZ J; replace hG := gr hG hZ J; replace hS := gr hS hZ J; replace hP := gr hP hZ J; replace hM := gr hM hZ J; replace hX := gn hX aG J; replace hY := gx hY hZ J; replace hT := gx hT hZ J; replace hU := gx hU hZ J; replace hC := gr hC hZ J; replace hD := gr hD hZ J; replace hO := gr hO hZ J; replace hQ := gm hQ a8 J; replace hV := gx hV hZ J; replace hI := gr hI hZ J; replace hJ := gr hJ hZ J; replace hE := gr hE hZ J; replace gy := gr gy hZ J; replace hZ := ak (aa); clear aa J
 refine hK.out _ _ ⟨hQ.out, hV.out⟩ (fun hHeld => ?_)
 clear hK K
 refine ow 10 ab.out (fun K hK => ?_)
 refine bz (by rfl) rfl 62 (.tmp 7) (.tmp 197) rfl gU (dt nb.addr nb.aff (.slice A1 nb.slots.length c1) (.slice A2 nb.free.length c2) (.slice A3 NM.length c3)) rfl rfl 62 _ hU.out 5 (by kernel_rfl) rfl rfl (dO _ _ rfl rfl rfl) ?_
 intro ub aa J; replace hB := gb hB fx J; replace hF := gr hF hU J; replace hG := gr hG hU J; replace hS := gr hS hU J; replace hP := gr hP hU J; replace hM := gr hM hU J; replace hX := gx hX hU J; replace hY := gn hY dE J; replace hT := gx hT hU J; replace hZ := gx hZ hU J; replace hC := gr hC hU J; replace hD := gr hD hU J; replace hO := gr hO hU J; replace hQ := gx hQ hU J; replace hV := gm hV eb J; replace hI := gr hI hU J; replace hJ := gr hJ hU J; replace hE := gr hE hU J; replace gy := gr gy hU J; replace hU := ak (aa); clear aa J
 refine hK.out _ _ ⟨hQ.out, hV.out⟩ (fun hHeld => ?_)
 clear hK K
 refine pu 11 ab.out ?_
 refine dn ab.out ?_
 clear hHeld
 go_wp2_with fail
 refine bodyPost_ret (eT rfl _ _ _ gZ gU 57 62 _ _ _ _ rfl hZ.out rfl Try.underlying57 (by first | exact HLB.out | exact HLN _ _ _ _) rfl hU.out rfl Try.underlying62 (by kernel_rfl)) rfl ⟨_, _, nb, rfl, ?_, ?_, ?_, hB.out⟩
 ·exact HRG.out
 ·exact ⟨HNL.out, _, _, rfl, hC.out, hD.out⟩
 ·exact ⟨_, _, _, rfl, hI.out, hJ.out, by rw [← HNM.out]; exact hE.out⟩
end Go.Proofs.Ytemhalnhbgkbcaa.V
end

section
namespace Go.Proofs.Ytemhalnhbgkbcaa.V
theorem Nl (b : Bk) (hg : RG b) (kd : Int) (n : Int) (hn : n < 9223372036854775808) (a : kD) (e9 : a.f0.size ≤ 9223372036854775807) (fB : a.f1.size ≤ 9223372036854775807) (l : List Int) (hu : ∀ x ∈ l, 0 ≤ x ∧ x < 4294967296) (hlm : l.length ≤ 9223372036854775807) (Al : Option Addr) (cl : Nat) (hcl : l.length ≤ cl) (aff : ByteArray) (hza : aff.size ≤ 9223372036854775807) (v v2 : Value) (w : World) (base : Nat) (hbase : base ≤ w.heap.size) (hO : ee w base v b) (hR : eM w base v2 b) (hC : Kd.C (Kd.int .u32) w Al l.length l) :
  Calls Try.prog 47 #[v, v2, .agg #[.int .i64 kd, .int .i64 n, .string a.f0, .string a.f1, .slice Al l.length cl, .string aff]] w fun e w' => ∃ v1 v2 b', e = .returned (.tuple #[v1, v2, .bool true]) ∧ RG b' ∧ ee w' base v1 b' ∧ eM w' base v2 b' ∧ Below w.heap.size w w' := by
 by_cases k0 : kd = 0 ∨ kd = 1
 ·cases hma : eP (cv a) with
  | false => exact LV b hg kd k0 n hn a e9 fB l hu hlm Al cl hcl aff hza hma v v2 w base hbase hO hR hC
  | true =>
   rcases Int.lt_or_le n 0 with lK | lK
   ·exact LU b hg kd k0 n hn a e9 fB l hu hlm Al cl hcl aff hza hma lK v v2 w base hbase hO hR hC
   ·exact Nk b hg kd k0 n hn a e9 fB l hu hlm Al cl hcl aff hza hma lK v v2 w base hbase hO hR hC
 by_cases k2 : kd = 2 ∨ kd = 3
 ·rcases Nat.eq_zero_or_pos l.length with he | he
  ·exact Nh b hg kd k2 n hn a e9 fB l hu hlm Al cl hcl aff hza (List.length_eq_zero_iff.1 he) v v2 w base hbase hO hR hC
  ·exact Of b hg kd k2 n hn a e9 fB l hu hlm Al cl hcl aff hza he v v2 w base hbase hO hR hC
 by_cases k4 : kd = 4
 ·subst k4
  exact Nf b hg n hn a e9 fB l hu hlm Al cl hcl aff hza v v2 w base hbase hO hR hC
 by_cases k5 : kd = 5
 ·subst k5
  by_cases he : a.f0.toList = []
  ·exact Hq b hg n hn a e9 fB l hu hlm Al cl hcl aff hza he v v2 w base hbase hO hR hC
  ·exact LS b hg n hn a e9 fB l hu hlm Al cl hcl aff hza he v v2 w base hbase hO hR hC
 by_cases k6 : kd = 6
 ·subst k6
  by_cases he : a.f1.toList = []
  ·exact Hp b hg n hn a e9 fB l hu hlm Al cl hcl aff hza he v v2 w base hbase hO hR hC
  ·exact LR b hg n hn a e9 fB l hu hlm Al cl hcl aff hza he v v2 w base hbase hO hR hC
 by_cases k7 : kd = 7
 ·subst k7
  cases how : fY aff with
  | true => exact Ng b hg n hn a e9 fB l hu hlm Al cl hcl aff hza how v v2 w base hbase hO hR hC
  | false => exact LQ b hg n hn a e9 fB l hu hlm Al cl hcl aff hza how v v2 w base hbase hO hR hC
 exact Ho b hg kd n hn a e9 fB l hu hlm Al cl hcl aff hza ⟨by omega, by omega, by omega, by omega, k4, k5, k6, k7⟩ v v2 w base hbase hO hR hC
end Go.Proofs.Ytemhalnhbgkbcaa.V
end

section
namespace Go.Proofs.Ytemhalnhbgkbcaa.V
open Go.ChangeShapes Go.WideShapes
set_option maxRecDepth 100000
theorem Ic {z : Int} (h : (Lit.int .u8 z).wf = true) : 0 ≤ z ∧ z < 256 := by
 have : 0 ≤ z ∧ z ≤ 255 := by simpa [Lit.wf, IntKind.min, IntKind.max, IntKind.signed, IntKind.bits] using h
 omega
theorem AJ {z : Int} (h : (Lit.int .u32 z).wf = true) : 0 ≤ z ∧ z < 4294967296 := by
 have : 0 ≤ z ∧ z ≤ 4294967295 := by simpa [Lit.wf, IntKind.min, IntKind.max, IntKind.signed, IntKind.bits] using h
 omega
theorem Dm {α : Type} (P : Nat → α → Prop) : ∀ n, (∀ i, i < n → ∃ a, P i a) → ∃ xs : List α, xs.length = n ∧ ∀ i a, xs[i]? = some a → P i a
 | 0, _ => ⟨[], rfl, by simp⟩
 | n + 1, h => by
  obtain ⟨xs, h1, h2⟩ := Dm P n (fun i hi => h i (by omega))
  obtain ⟨a, ha⟩ := h n (by omega)
  refine ⟨xs ++ [a], by simp [h1], fun i b hb => ?_⟩
  rcases Nat.lt_trichotomy i n with hi | hi | hi
  ·rw [List.getElem?_append_left (by omega)] at hb
   exact h2 i b hb
  ·subst hi
   rw [← h1, List.getElem?_concat_length] at hb
   obtain rfl := Option.some.inj hb
   exact ha
  ·rw [List.getElem?_eq_none (by simp; omega)] at hb
   cases hb
section
variable {H : Type} {enc : TypeId × Value → H} {w : World} {base b0 : Nat} {held : Bool}
end
end Go.Proofs.Ytemhalnhbgkbcaa.V
end

section
namespace Go.Proofs.Ytemhalnhbgkbcaa.V
open Go.ChangeShapes Go.WideShapes
set_option maxRecDepth 100000
structure St where
 kd : Int
 n : Int
 a : S76
 l : List Int
 A : Option Addr
 c : Nat
 aff : ByteArray
def St.cells (s : St) : List Value := [.int .i64 s.kd, .int .i64 s.n, .string s.a.f0, .string s.a.f1, .slice s.A s.l.length s.c, .string s.aff]
structure St.Ok (w : World) (s : St) : Prop where
 n : s.n < 9223372036854775808
 z0 : s.a.f0.size ≤ 9223372036854775807
 z1 : s.a.f1.size ≤ 9223372036854775807
 u : ∀ x ∈ s.l, 0 ≤ x ∧ x < 4294967296
 lm : s.l.length ≤ 9223372036854775807
 lc : s.l.length ≤ s.c
 r : Kd.C (Kd.int .u32) w s.A s.l.length s.l
 za : s.aff.size ≤ 9223372036854775807
def Ib : St := ⟨0, 0, ⟨⟨#[]⟩, ⟨#[]⟩⟩, [], none, 0, ⟨#[]⟩⟩
structure StepsIs (w : World) (v : Value) (l : List St) : Prop where
 lm : l.length ≤ 9223372036854775807
 ok : ∀ s ∈ l, s.Ok w
 v : ∃ A c, v = .slice A l.length c ∧ l.length ≤ c ∧ ∀ i, i < l.length → ∃ ad, A = some ad ∧ ∀ j u, (l.getD i Ib).cells[j]? = some u → w.cell? (ad.add (i * 6 + j)) = some u
section
variable {H : Type} {enc : TypeId × Value → H} {w : World} {base b0 : Nat} {held : Bool}
theorem Fl {cs : List Value} {fuel : Nat} {x : DataW H × List MemPlace} (h : DataW.trod enc Try.prog w base (fun _ => true) held fuel 79 cs = some x) : ∃ s : St, s.Ok w ∧ cs = s.cells := by
 obtain ⟨xs, k, hk, hxy, hl, hxl, hfd⟩ := DataW.trod_struct Try.underlying79 h
 have hsz : cs.length = 6 := hl.trans (by kernel_rfl)
 have g0 := hfd 0 _ rfl
 have g1 := hfd 1 _ rfl
 have g2 := hfd 2 _ rfl
 have g3 := hfd 3 _ rfl
 have g4 := hfd 4 _ rfl
 have FG : xs.length = 5 := hxl
 have y0 : ∃ y, xs[0]? = some y := ⟨_, List.getElem?_eq_getElem (by omega)⟩
 have y1 : ∃ y, xs[1]? = some y := ⟨_, List.getElem?_eq_getElem (by omega)⟩
 have y2 : ∃ y, xs[2]? = some y := ⟨_, List.getElem?_eq_getElem (by omega)⟩
 have y3 : ∃ y, xs[3]? = some y := ⟨_, List.getElem?_eq_getElem (by omega)⟩
 have y4 : ∃ y, xs[4]? = some y := ⟨_, List.getElem?_eq_getElem (by omega)⟩
 obtain ⟨q0, y0⟩ := y0; obtain ⟨q1, y1⟩ := y1; obtain ⟨q2, y2⟩ := y2; obtain ⟨q3, y3⟩ := y3; obtain ⟨q4, y4⟩ := y4
 rw [y0] at g0; rw [y1] at g1; rw [y2] at g2; rw [y3] at g3; rw [y4] at g4
 have c3 : Try.prog.cellsOf 3 = 1 := by kernel_rfl
 have c9 : Try.prog.cellsOf 9 = 1 := by kernel_rfl
 have cL : Try.prog.cellsOf 77 = 1 := by kernel_rfl
 have cu : Try.prog.cellsOf 46 = 1 := by kernel_rfl
 have TH : Try.prog.cellsOf 76 = 2 := by kernel_rfl
 obtain ⟨z0, e0, _, w0⟩ := DataW.trod_int Try.underlying3 g0
 obtain ⟨z1, e1, _, w1⟩ := DataW.trod_int Try.underlying3 g1
 obtain ⟨p0, p1, n, _, _, h0, h1⟩ := trod_struct2 Try.underlying76 g2
 obtain ⟨s0, u0, _, v0⟩ := DataW.trod_string Try.underlying9 h0
 obtain ⟨s1, u1, _, v1⟩ := DataW.trod_string Try.underlying9 h1
 obtain ⟨s2, u2, _, v2⟩ := DataW.trod_string Try.underlying9 g4
 match cs, hsz with
 | [a0, a1, a2, a3, a4, a5], _ =>
  have Dw : ([a0, a1, a2, a3, a4, a5].drop 0).take (Try.prog.cellsOf 3) = [Value.int .i64 z0] := e0
  have Dv : ([a0, a1, a2, a3, a4, a5].drop 1).take (Try.prog.cellsOf 3) = [Value.int .i64 z1] := e1
  have Pr : ((([a0, a1, a2, a3, a4, a5].drop 2).take (Try.prog.cellsOf 76)).drop 0).take (Try.prog.cellsOf 9) = [Value.string s0] := u0
  have Pq : ((([a0, a1, a2, a3, a4, a5].drop 2).take (Try.prog.cellsOf 76)).drop 1).take (Try.prog.cellsOf 9) = [Value.string s1] := u1
  have Po : ([a0, a1, a2, a3, a4, a5].drop 5).take (Try.prog.cellsOf 9) = [Value.string s2] := u2
  rw [c3] at Dw Dv
  rw [TH, c9] at Pr Pq
  rw [c9] at Po
  obtain rfl : a0 = Value.int .i64 z0 := by simpa using Dw
  obtain rfl : a1 = Value.int .i64 z1 := by simpa using Dv
  obtain rfl : a2 = Value.string s0 := by simpa using Pr
  obtain rfl : a3 = Value.string s1 := by simpa using Pq
  obtain rfl : a5 = Value.string s2 := by simpa using Po
  obtain ⟨A, c, fr, e3, hfc, hcm, hfC, Tg⟩ : ∃ (A : Option Addr) (c : Nat) (fr : List Int), a4 = Value.slice A fr.length c ∧ fr.length ≤ c ∧ c ≤ maxLen ∧ Kd.C (Kd.int .u32) w A fr.length fr ∧ ∀ x ∈ fr, 0 ≤ x ∧ x < 4294967296 := by
   rcases open_ints Try.underlying77 Try.underlying46 cu g3 with ⟨hcs, _⟩ | ⟨x, l, c, ys, hcs, _, hl, hm, hy, _, hcell, hwy⟩
   ·have hcs' : ([Value.int .i64 z0, Value.int .i64 z1, Value.string s0, Value.string s1, a4, Value.string s2].drop 4).take (Try.prog.cellsOf 77) = [.slice none 0 0] := hcs
    rw [cL] at hcs'
    exact ⟨none, 0, [], by simpa using hcs', Nat.le_refl _, by unfold maxLen; omega, Kd.C_nil _ _, by intro x hx; cases hx⟩
   ·have hcs' : ([Value.int .i64 z0, Value.int .i64 z1, Value.string s0, Value.string s1, a4, Value.string s2].drop 4).take (Try.prog.cellsOf 77) = [.slice (some x) l c] := hcs
    rw [cL] at hcs'
    rw [if_pos rfl] at hy
    have hlen : (ys.take l).length = l := by rw [List.length_take]; omega
    refine ⟨some x, c, ys.take l, by rw [hlen]; simpa using hcs', by omega, hm, ?_, fun n hn => AJ (hwy n (List.mem_of_mem_take hn))⟩
    refine Kd.C_of_reads (enc := Value.int .u32) (d := 0) (h1 := fun _ => rfl) ⟨rfl, by unfold maxLen at hm; omega, fun _ => ⟨x, rfl, fun j hj => ?_⟩⟩
    rw [hlen] at hj
    rw [hcell j (by omega)]
    congr 2
    simp only [List.getD_eq_getElem?_getD, List.getElem?_take, hj, if_true]
  subst e3
  have SK : z1 < 9223372036854775808 := by
   have : -9223372036854775808 ≤ z1 ∧ z1 ≤ 9223372036854775807 := by simpa [Lit.wf, IntKind.min, IntKind.max, IntKind.signed, IntKind.bits] using w1
   omega
  refine ⟨⟨z0, z1, ⟨s0, s1⟩, fr, A, c, s2⟩, ⟨SK, by unfold maxLen at v0; exact v0, by unfold maxLen at v1; exact v1, Tg, by unfold maxLen at hcm; show fr.length ≤ _; omega, hfc, hfC, by unfold maxLen at v2; exact v2⟩, rfl⟩
theorem open_steps {v : Value} {d : DataW H} {ps : List MemPlace} (hval : Value.okWide Try.prog w .any b0 70 v) (hd : DataW.Trod enc Try.prog w base (fun _ => true) held 70 v d ps) : ∃ l : List St, StepsIs w v l := by
 obtain ⟨A, l, c, rfl⟩ := okWide_slice Try.underlying70 hval
 obtain ⟨fuel, hf⟩ := hd
 have TG : Try.prog.cellsOf 79 = 6 := by kernel_rfl
 rcases Go.Deep.open_slice Try.underlying70 hf with ⟨hcs, _⟩ | ⟨x, len, cap, m, n, D, Pl, hcs, _, hl, hm, hmm, _, hel⟩
 ·simp [Value.cells] at hcs
  obtain ⟨rfl, rfl, rfl⟩ := hcs
  exact ⟨[], by simp, (by intro s hs; cases hs), none, 0, rfl, Nat.le_refl _, fun i hi => by simp at hi⟩
 ·simp [Value.cells] at hcs
  obtain ⟨rfl, rfl, rfl⟩ := hcs
  rw [if_pos rfl] at hmm
  obtain ⟨ys, Fw, uC⟩ := Dm (fun i (s : St) => s.Ok w ∧ ∀ j u, s.cells[j]? = some u → w.cell? (x.add (i * 6 + j)) = some u) l (fun i hi => by
   obtain ⟨cs, h1, h2⟩ := hel i (by omega)
   obtain ⟨s, hs, rfl⟩ := Fl h2
   obtain ⟨_, hlen, hc⟩ := World.cells?_some h1
   rw [TG] at hc
   refine ⟨s, hs, fun j u hu => ?_⟩
   have hj : j < 6 := by
    have := (List.getElem?_eq_some_iff.1 hu).1
    exact this
   rw [← hu, ← hc j hj, Go.Deep.add_add])
  refine ⟨ys, by rw [Fw]; unfold maxLen at hm; omega, fun s hs => ?_, some x, c, by rw [Fw], by omega, fun i hi => ⟨x, rfl, ?_⟩⟩
  ·obtain ⟨j, hj, rfl⟩ := List.getElem_of_mem hs
   exact (uC j _ (List.getElem?_eq_getElem hj)).1
  ·have h2 : ys.getD i Ib = ys[i] := by simp [List.getD, hi]
   rw [h2]
   exact (uC i _ (List.getElem?_eq_getElem hi)).2
end
end Go.Proofs.Ytemhalnhbgkbcaa.V
end

section
namespace Go.Proofs.Ytemhalnhbgkbcaa.V
attribute [local go_sem] eH eF fk fj ei eh eG eE
def dD.l0 : Nat → Int → Int → ByteArray → List Int → List Int → Option (Int × ByteArray × List Int × List Int × (List (S76)))
 | 0, _, _, _, _, _ => none
 | k + 1, x6, zi, zh, ug, uf => if x6 < 64 then (if ug.length < 17592186044416 then (if uf.length < 17592186044416 then (dD.l0 k (wrap64 (x6 + 1)) zi zh (ug ++ [0]) (uf ++ [x6])) else (none)) else (none)) else (some (zi, zh, ug, uf, ([] : List (S76))))
def dD.f (k : Nat) (a0 : Int) (a1 : ByteArray) : Option (Int × ByteArray × List Int × List Int × (List (S76))) := dD.l0 k 0 ((a0 - (Int.tmod a0 64)) % 4294967296) a1 ([] : List Int) ([] : List Int)
set_option maxHeartbeats 8000000 in
set_option maxRecDepth 100000 in
theorem dD.calls (k : Nat) (a0 : Int) (a1 : ByteArray) (r1 : Int) (r2 : ByteArray) (r3 : List Int) (r4 : List Int) (r5 : List (S76)) (w : World) (h : dD.f k a0 a1 = some (r1, r2, r3, r4, r5)) :
  Calls Try.prog 45 #[.int .u32 a0, .string a1] w fun e w' => ∃ zl AE E2 : Value, e = .returned (.agg #[.int .u32 r1, .string r2, zl, AE, E2]) ∧ Kd.R (Kd.int .i64) 3 w' w.heap.size (fun k_ => some k_ ≠ (AE : Value).ownBlock) zl r3 ∧ Kd.R (Kd.int .i64) 3 w' w.heap.size (fun k_ => some k_ ≠ (zl : Value).ownBlock) AE r4 ∧ Kd.R hH 76 w' w.heap.size (fun _ => True) E2 r5 ∧ Below w.heap.size w w' := by
 have G3 := Try.underlying62
 have HB := ak (Below.refl w.heap.size w)
 have H : (dD.l0 k 0 ((a0 - (Int.tmod a0 64)) % 4294967296) a1 ([] : List Int) ([] : List Int)) = some (r1, r2, r3, r4, r5) := h
 clear h
 have H' := ak H
 clear H
 go_enter Try.func45, Try.ntmps45
 go_wp2_with (first | ((with_reducible refine av (N := 4) rfl ?_); refine fb ?hg (N := 4) ?hd (cs := #[.int .u32 0, .string (⟨#[]⟩ : ByteArray), .slice none 0 0, .slice none 0 0, .slice none 0 0]) (t := 62) ?hr ?_; (case hd => rfl); (case hg => rfl); (case hr => first | (go_simp; done) | (go_simp; rfl)); intro fa hg w3 hbox hb; have cD := ak (bE (by repeat (first | (with_reducible first | exact HB.out | apply al | apply af | apply aq) | exact HB.out)) hb); have cT := ak (hbox); have dk := ak ((by rw [hg]; exact (bs (by repeat (first | (with_reducible first | exact HB.out | apply al | apply af | apply aq) | exact HB.out))) : w.heap.size ≤ fa)); have dS := ak ((by rw [hg]; exact (bs (by repeat (first | (with_reducible first | exact HB.out | apply al | apply af | apply aq) | exact HB.out))) : w.heap.size ≤ fa)); clear HB; have HB := cD; have eD := cT; have SJ := dk; have lA := dS; clear cD cT dk dS; clear hb hbox hg) | ((with_reducible refine av (N := 5) rfl ?_); refine fb ?hg (N := 5) ?hd (cs := #[.int .u32 0, .string (⟨#[]⟩ : ByteArray), .slice none 0 0, .slice none 0 0, .slice none 0 0]) (t := 62) ?hr ?_; (case hd => rfl); (case hg => rfl); (case hr => first | (go_simp; done) | (go_simp; rfl)); intro dJ hg w4 hbox hb; have cD := ak (eV (g := fa) (o := .cells #[.int .u32 0, .string (⟨#[]⟩ : ByteArray), .slice none 0 0, .slice none 0 0, .slice none 0 0] 62 (0, 0)) (by (with_reducible repeat (first | refine aK ?_ _ | refine aT ?_ | refine aM ?_ _)); exact eD.out) hb); have cT := ak (bE (by repeat (first | (with_reducible first | exact HB.out | apply al | apply af | apply aq | refine aQ ?_ lA.out) | exact HB.out)) hb); have dk := ak (hbox); have dS := ak ((by rw [hg]; exact (bs (by repeat (first | (with_reducible first | exact HB.out | apply al | apply af | apply aq | refine aQ ?_ lA.out) | exact HB.out))) : w.heap.size ≤ dJ)); have je := ak ((by rw [hg]; exact (bs (by repeat (first | (with_reducible first | exact HB.out | apply al | apply af | apply aq | refine aQ ?_ lA.out) | exact HB.out))) : w.heap.size ≤ dJ)); have lP := ak ((by rw [hg]; exact Nat.ne_of_lt (jM (g := fa) (o := .cells #[.int .u32 0, .string (⟨#[]⟩ : ByteArray), .slice none 0 0, .slice none 0 0, .slice none 0 0] 62 (0, 0)) (by (with_reducible repeat (first | refine aK ?_ _ | refine aT ?_ | refine aM ?_ _)); exact eD.out)) : fa ≠ dJ)); have pa := ak ((by rw [hg]; exact Nat.ne_of_gt (jM (g := fa) (o := .cells #[.int .u32 0, .string (⟨#[]⟩ : ByteArray), .slice none 0 0, .slice none 0 0, .slice none 0 0] 62 (0, 0)) (by (with_reducible repeat (first | refine aK ?_ _ | refine aT ?_ | refine aM ?_ _)); exact eD.out)) : dJ ≠ fa)); clear eD; clear HB; have eD := cD; have HB := cT; have bC := dk; have SI := dS; have oK := je; have gu := lP; have pA := pa; clear cD cT dk dS je lP pa; clear hb hbox hg; have UY := pA.out; have UU := gu.out; have BD : w4.cell? ⟨dJ, 0, none⟩ = some (.int .u32 0) := (aC bC.out 0).trans rfl; have BC : w4.cell? ⟨dJ, 1, none⟩ = some (.string (⟨#[]⟩ : ByteArray)) := (aC bC.out 1).trans rfl; have Tm : w4.cell? ⟨dJ, 2, none⟩ = some (.slice none 0 0) := (aC bC.out 2).trans rfl; have Tl : w4.cell? ⟨dJ, 3, none⟩ = some (.slice none 0 0) := (aC bC.out 3).trans rfl; have Tk : w4.cell? ⟨dJ, 4, none⟩ = some (.slice none 0 0) := (aC bC.out 4).trans rfl; have By := ao bC.out 0; have Bx := ao bC.out 1; have S8 := ao bC.out 2; have S6 := ao bC.out 3; have S5 := ao bC.out 4))
 go_loopg [6] k (fun kq v6 w' => ∃ (oz : Int) (gL : List Int) (gj : List Int) (jU : Value) (gG : Value), v6 = .int .i64 oz ∧ Aside0 (dD.l0 kq oz ((a0 - (Int.tmod a0 64)) % 4294967296) a1 gL gj = some (r1, r2, r3, r4, r5)) ∧ Aside0 (kq ≤ k) ∧ Aside0 (Kd.R (Kd.int .i64) 3 w' w.heap.size (fun k_ => some k_ ≠ (gG : Value).ownBlock) jU gL) ∧ Aside0 (Kd.R (Kd.int .i64) 3 w' w.heap.size (fun k_ => some k_ ≠ (jU : Value).ownBlock) gG gj) ∧ Aside0 (w'.heap[fa]? = some (.cells #[.int .u32 0, .string (⟨#[]⟩ : ByteArray), (.slice none 0 0), (.slice none 0 0), (.slice none 0 0)] 62 (0, 0))) ∧ Aside0 (w'.heap[dJ]? = some (.cells #[.int .u32 ((a0 - (Int.tmod a0 64)) % 4294967296), .string a1, jU, gG, (.slice none 0 0)] 62 (0, 0))) ∧ Aside0 (Below w.heap.size w w'))
 case atStart => exact ⟨(0), (([] : List Int)), (([] : List Int)), (.slice none 0 0), (.slice none 0 0), (by first | rfl | (simp; done) | (simp [*]; done)), H', ⟨Nat.le_refl _⟩, ⟨by first | exact Kd.R_nil _ _ _ _ _ | exact Kd.N_nil _ _ _ _ _ | exact Kd.V_nil _ _ _ _ _ | exact Kd.Q_nil _ _ _ _ _ | exact Kd.S_nil _ _ _ _ _⟩, ⟨by first | exact Kd.R_nil _ _ _ _ _ | exact Kd.N_nil _ _ _ _ _ | exact Kd.V_nil _ _ _ _ _ | exact Kd.Q_nil _ _ _ _ _ | exact Kd.S_nil _ _ _ _ _⟩, ⟨by (with_reducible repeat (first | refine aK ?_ _ | refine aT ?_ | refine aM ?_ _)); refine lx ?_ gu.out _; (with_reducible repeat (first | refine aK ?_ _ | refine aT ?_ | refine aM ?_ _)); refine lx ?_ gu.out _; (with_reducible repeat (first | refine aK ?_ _ | refine aT ?_ | refine aM ?_ _)); refine lx ?_ gu.out _; (with_reducible repeat (first | refine aK ?_ _ | refine aT ?_ | refine aM ?_ _)); refine lx ?_ gu.out _; (with_reducible repeat (first | refine aK ?_ _ | refine aT ?_ | refine aM ?_ _)); refine lx ?_ gu.out _; (with_reducible repeat (first | refine aK ?_ _ | refine aT ?_ | refine aM ?_ _)); exact eD.out⟩, ⟨by (with_reducible repeat (first | refine aK ?_ _ | refine aT ?_ | refine aM ?_ _)); refine eX (cs := #[.int .u32 ((a0 - (Int.tmod a0 64)) % 4294967296), .string a1, .slice none 0 0, .slice none 0 0, .slice none 0 0]) ?_ 4 _ rfl; (with_reducible repeat (first | refine aK ?_ _ | refine aT ?_ | refine aM ?_ _)); refine eX (cs := #[.int .u32 ((a0 - (Int.tmod a0 64)) % 4294967296), .string a1, .slice none 0 0, .slice none 0 0, .slice none 0 0]) ?_ 3 _ rfl; (with_reducible repeat (first | refine aK ?_ _ | refine aT ?_ | refine aM ?_ _)); refine eX (cs := #[.int .u32 ((a0 - (Int.tmod a0 64)) % 4294967296), .string a1, .slice none 0 0, .slice none 0 0, .slice none 0 0]) ?_ 2 _ rfl; (with_reducible repeat (first | refine aK ?_ _ | refine aT ?_ | refine aM ?_ _)); refine eX (cs := #[.int .u32 ((a0 - (Int.tmod a0 64)) % 4294967296), .string (⟨#[]⟩ : ByteArray), .slice none 0 0, .slice none 0 0, .slice none 0 0]) ?_ 1 _ rfl; (with_reducible repeat (first | refine aK ?_ _ | refine aT ?_ | refine aM ?_ _)); refine eX (cs := #[.int .u32 0, .string (⟨#[]⟩ : ByteArray), .slice none 0 0, .slice none 0 0, .slice none 0 0]) ?_ 0 _ rfl; (with_reducible repeat (first | refine aK ?_ _ | refine aT ?_ | refine aM ?_ _)); exact bC.out⟩, ⟨by repeat (first | (with_reducible first | exact HB.out | apply al | apply af | apply aq | refine aQ ?_ lA.out | refine aQ ?_ oK.out) | exact HB.out)⟩⟩
 case round =>
  clear H'
  obtain ⟨oz, gL, gj, jU, gG, rfl, HA, dC, lz, ir, eD, bC, HB⟩ := hrel
  cases gk with
  | zero => exact absurd HA.out (by simp [dD.l0])
  | succ k1 =>
   have H := HA.out
   clear HA
   simp only [dD.l0] at H
   by_cases c7 : oz < 64
   ·rw [if_pos c7] at H
    have qC : decide (oz < 64) = true := decide_eq_true c7
    clear c7
    by_cases c8 : gL.length < 17592186044416
    ·rw [if_pos c8] at H
     have Qr := ak c8
     clear c8
     obtain ⟨lM, td⟩ : ∃ y_ : List Int, y_ = (gL ++ [0]) := ⟨_, rfl⟩
     replace H : (if gj.length < 17592186044416 then (dD.l0 k1 (wrap64 (oz + 1)) ((a0 - (Int.tmod a0 64)) % 4294967296) a1 lM (gj ++ [oz])) else (none)) = some (r1, r2, r3, r4, r5) := by first | (rw [td]; with_reducible exact H) | (have kc := (Option.bind_some _ _).symm.trans H; rw [td]; with_reducible exact kc) | (have kc := (Option.bind_some _ _).symm.trans H; with_reducible exact kc) | with_reducible exact H | (rw [td]; exact H) | exact H
     have Mf := ak td
     clear td
     by_cases c9 : gj.length < 17592186044416
     ·rw [if_pos c9] at H
      have Qq := ak c9
      clear c9
      obtain ⟨ue, tc⟩ : ∃ y_ : List Int, y_ = (gj ++ [oz]) := ⟨_, rfl⟩
      replace H : (dD.l0 k1 (wrap64 (oz + 1)) ((a0 - (Int.tmod a0 64)) % 4294967296) a1 lM ue) = some (r1, r2, r3, r4, r5) := by first | (rw [tc]; with_reducible exact H) | (have kc := (Option.bind_some _ _).symm.trans H; rw [tc]; with_reducible exact kc) | (have kc := (Option.bind_some _ _).symm.trans H; with_reducible exact kc) | with_reducible exact H | (rw [tc]; exact H) | exact H
      have Me := ak tc
      clear tc
      have H' := ak H
      clear H
      have Uz := pA.out
      have Uu := gu.out
      have LN : wr.cell? ⟨dJ, 0, none⟩ = some (.int .u32 ((a0 - (Int.tmod a0 64)) % 4294967296)) := (aC bC.out 0).trans rfl
      have LM : wr.cell? ⟨dJ, 1, none⟩ = some (.string a1) := (aC bC.out 1).trans rfl
      have Sy : wr.cell? ⟨dJ, 2, none⟩ = some (jU) := (aC bC.out 2).trans rfl
      have Sx : wr.cell? ⟨dJ, 3, none⟩ = some (gG) := (aC bC.out 3).trans rfl
      have Sw : wr.cell? ⟨dJ, 4, none⟩ = some (.slice none 0 0) := (aC bC.out 4).trans rfl
      have Lu := ao bC.out 0
      have Lt := ao bC.out 1
      have RA := ao bC.out 2
      have Rz := ao bC.out 3
      have Ry := ao bC.out 4
      go_wp2_with (first | ((with_reducible refine cC (b := .append) (xs := #[.tmp 18, .tmp 19]) rfl ?_); at_builtin; refine Kd.R_append (Kd.int .i64) (w0 := w) w.heap.size rfl (.tmp 18) (.tmp 19) 31 3 (.int .i64 0) 8 rfl Try.underlying31 z7 rfl (by decide) (by omega) jU gL 0 [.int .i64 0] (fun k_ => some k_ ≠ (gG : Value).ownBlock) (fun _ => False) rfl rfl ?aP (fun _ hk => hk.elim) ?aF ?aO ?aB ?aS ?aL ?_; (case aP => exact rfl); (case aB => exact (by repeat (first | (with_reducible first | exact HB.out | apply al | apply af | apply aq | refine aQ ?_ lA.out | refine aQ ?_ oK.out) | exact HB.out))); (case aF => exact (fun k_ hk => Kd.fresh' (Kd.R_lt (by (with_reducible repeat (first | apply Kd.R_alloc | apply Kd.R_drewN | apply Kd.R_drew)); exact ir.out)) k_ hk)); (case aO => exact (by (with_reducible repeat (first | apply Kd.R_alloc | apply Kd.R_drewN | apply Kd.R_drew)); exact lz.out)); (case aS => exact (bs (by repeat (first | (with_reducible first | exact HB.out | apply al | apply af | apply aq | refine aQ ?_ lA.out | refine aQ ?_ oK.out) | exact HB.out)))); (case aL => have := Qr.out; omega); intro SP De ho hb hg hat; rw [← Mf.out] at ho; have cD := ak (Kd.R_after (ok := (fun _ => True)) (by (with_reducible repeat (first | apply Kd.R_alloc | apply Kd.R_drewN | apply Kd.R_drew)); exact Kd.R_mono ir.out (fun _ hk => ⟨trivial, hk⟩)) hg hat); have cT := ak (jY (g := fa) (o := .cells #[.int .u32 0, .string (⟨#[]⟩ : ByteArray), .slice none 0 0, .slice none 0 0, .slice none 0 0] 62 (0, 0)) (by (with_reducible repeat (first | refine aK ?_ _ | refine aT ?_ | refine aM ?_ _)); exact eD.out) hg (Kd.R_ne lz.out eD.out (by decide))); have dk := ak (jY (g := dJ) (o := .cells #[.int .u32 ((a0 - (Int.tmod a0 64)) % 4294967296), .string a1, jU, gG, .slice none 0 0] 62 (0, 0)) (by (with_reducible repeat (first | refine aK ?_ _ | refine aT ?_ | refine aM ?_ _)); exact bC.out) hg (Kd.R_ne lz.out bC.out (by decide))); have dS := ak (hb); have je := ak (ho); clear ir; clear eD; clear bC; clear HB; clear lz; have ir := cD; have eD := cT; have bC := dk; have HB := dS; have pZ := je; clear cD cT dk dS je; clear ho hb hg hat; obtain ⟨vt, uK, Qf⟩ := Kd.R_slice pZ.out; subst Qf; have LL : De.cell? ⟨dJ, 0, none⟩ = some (.int .u32 ((a0 - (Int.tmod a0 64)) % 4294967296)) := (aC bC.out 0).trans rfl; have LK : De.cell? ⟨dJ, 1, none⟩ = some (.string a1) := (aC bC.out 1).trans rfl; have LJ : De.cell? ⟨dJ, 2, none⟩ = some (jU) := (aC bC.out 2).trans rfl; have LI : De.cell? ⟨dJ, 3, none⟩ = some (gG) := (aC bC.out 3).trans rfl; have LH : De.cell? ⟨dJ, 4, none⟩ = some (.slice none 0 0) := (aC bC.out 4).trans rfl; have Ls := ao bC.out 0; have Lr := ao bC.out 1; have Lq := ao bC.out 2; have Lp := ao bC.out 3; have Lo := ao bC.out 4) | ((with_reducible refine cC (b := .append) (xs := #[.tmp 23, .tmp 25]) rfl ?_); at_builtin; refine Kd.R_append (Kd.int .i64) (w0 := w) w.heap.size rfl (.tmp 23) (.tmp 25) 31 3 (.int .i64 0) 8 rfl Try.underlying31 z7 rfl (by decide) (by omega) gG gj oz [.int .i64 oz] (fun k_ => some k_ ≠ (.slice vt lM.length uK : Value).ownBlock) (fun _ => False) rfl (by first | (go_simp; done) | (go_simp; rfl)) ?aP (fun _ hk => hk.elim) ?aF ?aO ?aB ?aS ?aL ?_; (case aP => exact rfl); (case aB => exact (by repeat (first | (with_reducible first | exact HB.out | apply al | apply af | apply aq | refine aQ ?_ lA.out | refine aQ ?_ oK.out) | exact HB.out))); (case aF => exact (fun k_ hk => Kd.fresh' (Kd.R_lt (by (with_reducible repeat (first | apply Kd.R_alloc | apply Kd.R_drewN | apply Kd.R_drew)); exact (Kd.R_mono (Kd.R_far (p := ⟨dJ, 2, none⟩) (Kd.R_types pZ.out bC.out (by decide)) (fun _ hk => hk.2) (.slice vt lM.length uK)) (fun _ h_ => h_.1)))) k_ hk)); (case aO => exact (by (with_reducible repeat (first | apply Kd.R_alloc | apply Kd.R_drewN | apply Kd.R_drew)); exact Kd.R_mono (Kd.R_far (p := ⟨dJ, 2, none⟩) (Kd.R_types ir.out bC.out (by decide)) (fun _ hk => hk.2) (.slice vt lM.length uK)) (fun _ hk => hk.1.2))); (case aS => exact (bs (by repeat (first | (with_reducible first | exact HB.out | apply al | apply af | apply aq | refine aQ ?_ lA.out | refine aQ ?_ oK.out) | exact HB.out)))); (case aL => have := Qq.out; omega); intro SO EY ho hb hg hat; rw [← Me.out] at ho; have cD := ak (jY (g := fa) (o := .cells #[.int .u32 0, .string (⟨#[]⟩ : ByteArray), .slice none 0 0, .slice none 0 0, .slice none 0 0] 62 (0, 0)) (by (with_reducible repeat (first | refine aK ?_ _ | refine aT ?_ | refine aM ?_ _)); refine lx ?_ gu.out _; (with_reducible repeat (first | refine aK ?_ _ | refine aT ?_ | refine aM ?_ _)); exact eD.out) hg (Kd.R_ne ir.out eD.out (by decide))); have cT := ak (jY (g := dJ) (o := .cells #[.int .u32 ((a0 - (Int.tmod a0 64)) % 4294967296), .string a1, .slice vt lM.length uK, gG, .slice none 0 0] 62 (0, 0)) (by (with_reducible repeat (first | refine aK ?_ _ | refine aT ?_ | refine aM ?_ _)); refine eX (cs := #[.int .u32 ((a0 - (Int.tmod a0 64)) % 4294967296), .string a1, jU, gG, .slice none 0 0]) ?_ 2 _ rfl; (with_reducible repeat (first | refine aK ?_ _ | refine aT ?_ | refine aM ?_ _)); exact bC.out) hg (Kd.R_ne ir.out bC.out (by decide))); have dk := ak (Kd.R_after (ok := (fun _ => True)) (by (with_reducible repeat (first | apply Kd.R_alloc | apply Kd.R_drewN | apply Kd.R_drew)); exact Kd.R_mono (Kd.R_far (p := ⟨dJ, 2, none⟩) (Kd.R_types pZ.out bC.out (by decide)) (fun _ hk => hk.2) (.slice vt lM.length uK)) (fun _ hk => ⟨trivial, hk.1⟩)) hg hat); have dS := ak (hb); have je := ak (ho); clear eD; clear bC; clear pZ; clear HB; clear ir; have eD := cD; have bC := cT; have pZ := dk; have HB := dS; have DQ := je; clear cD cT dk dS je; clear ho hb hg hat; obtain ⟨H9, Hr, Qe⟩ := Kd.R_slice DQ.out; subst Qe; have Sd : EY.cell? ⟨dJ, 0, none⟩ = some (.int .u32 ((a0 - (Int.tmod a0 64)) % 4294967296)) := (aC bC.out 0).trans rfl; have Sc : EY.cell? ⟨dJ, 1, none⟩ = some (.string a1) := (aC bC.out 1).trans rfl; have Sb : EY.cell? ⟨dJ, 2, none⟩ = some (.slice vt lM.length uK) := (aC bC.out 2).trans rfl; have Sa : EY.cell? ⟨dJ, 3, none⟩ = some (gG) := (aC bC.out 3).trans rfl; have R9 : EY.cell? ⟨dJ, 4, none⟩ = some (.slice none 0 0) := (aC bC.out 4).trans rfl; have Re := ao bC.out 0; have Rc := ao bC.out 1; have Rb := ao bC.out 2; have Ra := ao bC.out 3; have Q9 := ao bC.out 4))
      go_roundg k1
      case measure => have := dC.out; omega
      case rel => exact ⟨(wrap64 (oz + 1)), (lM), (ue), (.slice vt lM.length uK), (.slice H9 ue.length Hr), (by first | rfl | (simp; done) | (simp [*]; done)), H', ⟨by have := dC.out; omega⟩, ⟨by (with_reducible repeat (first | apply Kd.R_alloc | apply Kd.R_drewN | apply Kd.R_drew)); exact Kd.R_mono (Kd.R_far (p := ⟨dJ, 3, none⟩) (Kd.R_types pZ.out bC.out (by decide)) (fun _ hk => hk.2) (.slice H9 ue.length Hr)) (fun _ hk => hk.1.2)⟩, ⟨by (with_reducible repeat (first | apply Kd.R_alloc | apply Kd.R_drewN | apply Kd.R_drew)); exact Kd.R_mono (Kd.R_far (p := ⟨dJ, 3, none⟩) (Kd.R_types DQ.out bC.out (by decide)) (fun _ hk => hk.2) (.slice H9 ue.length Hr)) (fun _ hk => hk.1)⟩, ⟨by (with_reducible repeat (first | refine aK ?_ _ | refine aT ?_ | refine aM ?_ _)); refine lx ?_ gu.out _; (with_reducible repeat (first | refine aK ?_ _ | refine aT ?_ | refine aM ?_ _)); exact eD.out⟩, ⟨by (with_reducible repeat (first | refine aK ?_ _ | refine aT ?_ | refine aM ?_ _)); refine eX (cs := #[.int .u32 ((a0 - (Int.tmod a0 64)) % 4294967296), .string a1, .slice vt lM.length uK, gG, .slice none 0 0]) ?_ 3 _ rfl; (with_reducible repeat (first | refine aK ?_ _ | refine aT ?_ | refine aM ?_ _)); exact bC.out⟩, ⟨by repeat (first | (with_reducible first | exact HB.out | apply al | apply af | apply aq | refine aQ ?_ lA.out | refine aQ ?_ oK.out) | exact HB.out)⟩⟩
     ·rw [if_neg c9] at H
      exact absurd H (by simp)
    ·rw [if_neg c8] at H
     exact absurd H (by simp)
   ·rw [if_neg c7] at H
    have qC : decide (oz < 64) = false := decide_eq_false c7
    clear c7
    simp only [Option.some.injEq, Prod.mk.injEq] at H
    obtain ⟨rfl, rfl, rfl, rfl, rfl⟩ := H
    have Ux := pA.out
    have Us := gu.out
    have LG : wr.cell? ⟨dJ, 0, none⟩ = some (.int .u32 ((a0 - (Int.tmod a0 64)) % 4294967296)) := (aC bC.out 0).trans rfl
    have LF : wr.cell? ⟨dJ, 1, none⟩ = some (.string a1) := (aC bC.out 1).trans rfl
    have LD : wr.cell? ⟨dJ, 2, none⟩ = some (jU) := (aC bC.out 2).trans rfl
    have LC : wr.cell? ⟨dJ, 3, none⟩ = some (gG) := (aC bC.out 3).trans rfl
    have LB : wr.cell? ⟨dJ, 4, none⟩ = some (.slice none 0 0) := (aC bC.out 4).trans rfl
    have Ln := ao bC.out 0
    have Lm := ao bC.out 1
    have Ll := ao bC.out 2
    have Lk := ao bC.out 3
    have Lj := ao bC.out 4
    have R8 : wr.cell? ⟨fa, 0, none⟩ = some (.int .u32 0) := (aC eD.out 0).trans rfl
    have R7 : wr.cell? ⟨fa, 1, none⟩ = some (.string (⟨#[]⟩ : ByteArray)) := (aC eD.out 1).trans rfl
    have R6 : wr.cell? ⟨fa, 2, none⟩ = some (.slice none 0 0) := (aC eD.out 2).trans rfl
    have R5 : wr.cell? ⟨fa, 3, none⟩ = some (.slice none 0 0) := (aC eD.out 3).trans rfl
    have R4 : wr.cell? ⟨fa, 4, none⟩ = some (.slice none 0 0) := (aC eD.out 4).trans rfl
    have Q8 := ao eD.out 0
    have Q7 := ao eD.out 1
    have Q6 := ao eD.out 2
    have Q5 := ao eD.out 3
    have Q4 := ao eD.out 4
    obtain ⟨CN, BT, Qc⟩ := Kd.R_slice lz.out
    subst Qc
    obtain ⟨ES, Ek, Qb⟩ := Kd.R_slice ir.out
    subst Qb
    go_wp2
    refine bodyPost_ret (results_cell_row rfl _ _ fa 62 #[.int .u32 ((a0 - (Int.tmod a0 64)) % 4294967296), .string a1, .slice CN gL.length BT, .slice ES gj.length Ek, .slice none 0 0] (0, 0) _ rfl (by (with_reducible repeat (first | refine aK ?_ _ | refine aT ?_ | refine aM ?_ _)); refine eX (cs := #[.int .u32 ((a0 - (Int.tmod a0 64)) % 4294967296), .string a1, .slice CN gL.length BT, .slice ES gj.length Ek, .slice none 0 0]) ?_ 4 _ rfl; (with_reducible repeat (first | refine aK ?_ _ | refine aT ?_ | refine aM ?_ _)); refine eX (cs := #[.int .u32 ((a0 - (Int.tmod a0 64)) % 4294967296), .string a1, .slice CN gL.length BT, .slice none 0 0, .slice none 0 0]) ?_ 3 _ rfl; (with_reducible repeat (first | refine aK ?_ _ | refine aT ?_ | refine aM ?_ _)); refine eX (cs := #[.int .u32 ((a0 - (Int.tmod a0 64)) % 4294967296), .string a1, .slice none 0 0, .slice none 0 0, .slice none 0 0]) ?_ 2 _ rfl; (with_reducible repeat (first | refine aK ?_ _ | refine aT ?_ | refine aM ?_ _)); refine eX (cs := #[.int .u32 ((a0 - (Int.tmod a0 64)) % 4294967296), .string (⟨#[]⟩ : ByteArray), .slice none 0 0, .slice none 0 0, .slice none 0 0]) ?_ 1 _ rfl; (with_reducible repeat (first | refine aK ?_ _ | refine aT ?_ | refine aM ?_ _)); refine eX (cs := #[.int .u32 0, .string (⟨#[]⟩ : ByteArray), .slice none 0 0, .slice none 0 0, .slice none 0 0]) ?_ 0 _ rfl; (with_reducible repeat (first | refine aK ?_ _ | refine aT ?_ | refine aM ?_ _)); exact eD.out) Try.underlying62 rfl (by kernel_rfl)) rfl ?_
    exact ⟨_, _, _, by first | rfl | (simp [cy, cx] <;> rfl) | (simp [*, cy, cx] <;> rfl), by (with_reducible repeat (first | apply Kd.R_alloc | apply Kd.R_drewN | apply Kd.R_drew)); exact Kd.R_mono (Kd.R_far (p := ⟨fa, 4, none⟩) (Kd.R_far (p := ⟨fa, 3, none⟩) (Kd.R_far (p := ⟨fa, 2, none⟩) (Kd.R_far (p := ⟨fa, 1, none⟩) (Kd.R_far (p := ⟨fa, 0, none⟩) (Kd.R_types lz.out eD.out (by decide)) (fun _ hk => hk.2) (.int .u32 ((a0 - (Int.tmod a0 64)) % 4294967296))) (fun _ hk => hk.2) (.string a1)) (fun _ hk => hk.2) (.slice CN gL.length BT)) (fun _ hk => hk.2) (.slice ES gj.length Ek)) (fun _ hk => hk.2) (.slice none 0 0)) (fun _ hk => hk.1), by (with_reducible repeat (first | apply Kd.R_alloc | apply Kd.R_drewN | apply Kd.R_drew)); exact Kd.R_mono (Kd.R_far (p := ⟨fa, 4, none⟩) (Kd.R_far (p := ⟨fa, 3, none⟩) (Kd.R_far (p := ⟨fa, 2, none⟩) (Kd.R_far (p := ⟨fa, 1, none⟩) (Kd.R_far (p := ⟨fa, 0, none⟩) (Kd.R_types ir.out eD.out (by decide)) (fun _ hk => hk.2) (.int .u32 ((a0 - (Int.tmod a0 64)) % 4294967296))) (fun _ hk => hk.2) (.string a1)) (fun _ hk => hk.2) (.slice CN gL.length BT)) (fun _ hk => hk.2) (.slice ES gj.length Ek)) (fun _ hk => hk.2) (.slice none 0 0)) (fun _ hk => hk.1), by first | exact Kd.R_nil _ _ _ _ _ | exact Kd.N_nil _ _ _ _ _ | exact Kd.V_nil _ _ _ _ _ | exact Kd.Q_nil _ _ _ _ _ | exact Kd.S_nil _ _ _ _ _, by repeat (first | (with_reducible first | exact HB.out | apply al | apply af | apply aq | refine aQ ?_ lA.out | refine aQ ?_ oK.out) | exact HB.out)⟩
end Go.Proofs.Ytemhalnhbgkbcaa.V
end

section
namespace Go.Proofs.Ytemhalnhbgkbcaa.V
theorem K6 (x : Int) (s : ByteArray) : ∀ (d k i : Nat), i + d = 64 → d < k → dD.l0 k (i : Int) x s (List.replicate i 0) (kS i) = some (x, s, List.replicate 64 0, kS 64, []) := by
 intro d
 induction d with
 | zero =>
  intro k i hi hk
  obtain ⟨k, rfl⟩ : ∃ m, k = m + 1 := ⟨k - 1, by omega⟩
  obtain rfl : i = 64 := by omega
  rw [dD.l0, if_neg (by decide)]
 | succ d ih =>
  intro k i hi hk
  obtain ⟨k, rfl⟩ : ∃ m, k = m + 1 := ⟨k - 1, by omega⟩
  rw [dD.l0, if_pos (by omega), g8 _ (by omega) (by omega), show (i : Int) + 1 = ((i + 1 : Nat) : Int) by omega]
  have h := ih k (i + 1) (by omega) (by omega)
  rw [wV, List.replicate_succ'] at h
  rw [if_pos (by rw [List.length_replicate]; omega), if_pos (by rw [uB]; omega)]
  exact h
theorem GI (a : Int) (h0 : 0 ≤ a) (h1 : a < 4294967296) (s : ByteArray) (w : World) :
  Calls Try.prog 45 #[.int .u32 a, .string s] w fun e w' => ∃ v, e = .returned v ∧ eM w' w.heap.size v (tp a s) ∧ Below w.heap.size w w' := by
 have hf : dD.f 100 a s = some (bN a, s, List.replicate 64 0, kS 64, []) := by
  have e : (a - Int.tmod a 64) % 4294967296 = bN a := by
   unfold bN
   rw [Int.tmod_eq_emod_of_nonneg h0]
   omega
  have h := K6 (bN a) s 64 100 0 (by omega) (by omega)
  rw [← e] at h ⊢
  exact h
 refine (dD.calls 100 a s _ _ _ _ _ w hf).mono ?_
 rintro e w' ⟨v2, v3, v4, rfl, r2, r3, r4, hb⟩
 exact ⟨_, rfl, ⟨v2, v3, v4, rfl, Kd.R_mono (ok' := fun _ => True) r2 (fun _ _ => trivial), Kd.R_mono (ok' := fun _ => True) r3 (fun _ _ => trivial), r4⟩, hb⟩
end Go.Proofs.Ytemhalnhbgkbcaa.V
end

section
namespace Go.Proofs.Ytemhalnhbgkbcaa.V
set_option maxHeartbeats 4000000 in
set_option maxRecDepth 100000 in
theorem FX (b : Bk) (hk : BkOk b) (v : Value) (w : World) (h : gi w v b) : Calls Try.prog 57 #[v] w fun e w' => e = .returned (.bool (dy b && ((b.free.length : Int) == 64))) ∧ Below w.heap.size w w' := by
 obtain ⟨A, c, A', c', rfl, hr⟩ := h
 have HR := ak hr
 have HL := ak hr.l64
 have HK := ak hk
 clear hr hk
 cases hrt : dy b with
 | false =>
  have HRT := ak hrt
  clear hrt
  go_enter Try.func57, Try.ntmps57
  go_wp2_with (first
   | (refine aE rfl 57 (.tmp 0) rfl _ rfl ?_; intro g W1 hg hbx cA; have im := ak hbx; have mG := ak (HR.out.below cA); have cn := ak cA; clear hbx cA hg)
   | (refine ay rfl 57 (.tmp 1) rfl g rfl _ _ _ im.out Try.underlying57 rfl 68 (by kernel_rfl) (ag _ _ _ _ _ HL.out) ?_)
   | (go_at_call 48; refine (dW b HK.out _ _ ⟨A, c, A', c', rfl, mG.out⟩).mono ?_; rintro e W2 ⟨rfl, eU⟩; rw [HRT.out]; have jz := ak (cn.out.trans (eU.mono cn.out.size)); clear eU))
  go_ret
  exact ⟨rfl, jz.out⟩
 | true =>
  have HRT := ak hrt
  clear hrt
  go_enter Try.func57, Try.ntmps57
  go_wp2_with (first
   | (refine aE rfl 57 (.tmp 0) rfl _ rfl ?_; intro g W1 hg hbx cA; have im := ak hbx; have mG := ak (HR.out.below cA); have cn := ak cA; clear hbx cA hg)
   | (refine ay rfl 57 (.tmp 1) rfl g rfl _ _ _ im.out Try.underlying57 rfl 68 (by kernel_rfl) (ag _ _ _ _ _ HL.out) ?_)
   | (go_at_call 48; refine (dW b HK.out _ _ ⟨A, c, A', c', rfl, mG.out⟩).mono ?_; rintro e W2 ⟨rfl, eU⟩; rw [HRT.out]; have Iw := (im.out.below eU).cell 66 _ (fR _ _ _ _ _ HL.out); have jz := ak (cn.out.trans (eU.mono cn.out.size)); clear eU))
  go_ret
  exact ⟨by simp, jz.out⟩
end Go.Proofs.Ytemhalnhbgkbcaa.V
end

section
namespace Go.Proofs.Ytemhalnhbgkbcaa.V
def AA : ByteArray := ⟨#[110]⟩
def tj : Bk := tp 167772165 AA
def GA : At := ⟨⟨#[104]⟩, ⟨#[110]⟩⟩
def uj : Bk := di tj 2 GA
def p6 : List Int := dK tj 2
def sq : Bk := kz uj p6
def DX : List Int := (relL uj p6).2
def N1 (l : List Int) : Bool := l.all (fun x => decide (0 ≤ x) && decide (x < 256))
theorem nA {l : List Int} (h : N1 l = true) : nN l := fun x hx => by
 have := List.all_eq_true.1 h x hx
 simpa using this
theorem KY : BkOk tj := ⟨by decide, by decide, nA (by kernel_rfl), nA (by kernel_rfl)⟩
theorem KX : BkOk uj := ⟨by decide, by decide, nA (by kernel_rfl), nA (by kernel_rfl)⟩
theorem KV : BkOk sq := ⟨by decide, by decide, nA (by kernel_rfl), nA (by kernel_rfl)⟩
theorem KZ : fY AA = true := by kernel_rfl
theorem K2 : kF tj 2 GA = true := by kernel_rfl
theorem DZ : dy uj = true := by kernel_rfl
theorem DY : dy sq = true := by kernel_rfl
theorem K1 : min (2 : Int).toNat tj.free.length = 2 := by kernel_rfl
theorem vv : p6 = [167772160, 167772161] := by kernel_rfl
theorem Gz : DX.length = 2 := by kernel_rfl
theorem AB : sq.free.length = 64 := by kernel_rfl
theorem KW : rd sq.free 63 = 1 := by kernel_rfl
theorem K0 (w : World) : Calls Try.prog 41 #[.int .u32 167772165, .string AA] w fun e w' => ∃ v, e = .returned (.tuple #[v, .int .i64 0]) ∧ ee w' w.heap.size v tj ∧ Below w.heap.size w w' := by
 have h := Dk 167772165 (by decide) (by decide) AA w
 rw [KZ] at h
 exact h
theorem D0 (v : Value) (w : World) (h : gi w v tj) : Calls Try.prog 49 #[v, .int .i64 2, .agg #[.string ⟨#[104]⟩, .string ⟨#[110]⟩]] w fun e w' => ∃ v' vo, e = .returned (.tuple #[v', vo, .int .i64 0]) ∧ ee w' w.heap.size v' uj ∧ Kd.R (Kd.int .u32) 46 w' w.heap.size (fun _ => True) vo p6 ∧ Below w.heap.size w w' := by
 have h2 := nL tj KY 2 (by decide) GA v w h
 rw [K2, K1] at h2
 exact h2
theorem CP (Al : Option Addr) (cl : Nat) (v : Value) (w : World) (h : gi w v uj) (hC : Kd.C (Kd.int .u32) w Al p6.length p6) : Calls Try.prog 52 #[v, .slice Al p6.length cl] w fun e w' => ∃ v' vo, e = .returned (.tuple #[v', vo, .int .i64 0]) ∧ ee w' w.heap.size v' sq ∧ Kd.R (Kd.int .u32) 46 w' w.heap.size (fun _ => True) vo DX ∧ Below w.heap.size w w' := by
 have h2 := vP uj KX p6 (by rw [vv]; decide) (by rw [vv]; decide) Al cl v w h hC
 rw [DZ] at h2
 exact h2
theorem EX (v : Value) (w : World) (h : gi w v sq) : Calls Try.prog 57 #[v] w fun e w' => e = .returned (.bool true) ∧ Below w.heap.size w w' := by
 have h2 := FX sq KV v w h
 rw [DY, AB] at h2
 exact h2
set_option maxHeartbeats 16000000 in
set_option maxRecDepth 100000 in
theorem vZ (w : World) : Calls Try.prog 44 #[] w fun e w' => e = .returned (.bool true) ∧ Below w.heap.size w w' := by
 have HN := ak (fun w => K0 w)
 have HA := ak (fun v w h => D0 v w h)
 have HE := ak (fun v w h => EX v w h)
 have HRL := ak (fun A c v w h hC => CP A c v w h hC)
 have hll : p6.length = 2 := by rw [vv]; rfl
 have vV : rd p6 1 = 167772161 := by rw [vv]; rfl
 have hml : DX.length = 2 := Gz
 have hdl : sq.free.length = 64 := AB
 have PA : rd sq.free 63 = 1 := KW
 have ae := ak (Below.refl w.heap.size w)
 unfold AA at HN
 generalize p6 = l at *
 generalize DX = m at *
 generalize tj = b at *
 generalize uj = c at *
 generalize sq = d at *
 have HLL := ak hll
 have TU := ak vV
 have HDL := ak hdl
 have Uf := ak PA
 have t1 : ((l.length : Int) == 2) = true := by rw [hll]; rfl
 have t2 : ((m.length : Int) == 2) = true := by rw [hml]; rfl
 have t3 : ((d.free.length : Int) == 64) = true := by rw [hdl]; rfl
 clear hll vV hml hdl PA
 go_enter Try.func44, Try.ntmps44
 go_wp2_with (first
  | (go_at_call 41; refine (HN.out _).mono ?_; rintro e W1 ⟨v_, rfl, aU, I⟩; obtain ⟨gR, nE, nF, rfl, cV, dA⟩ := aU; obtain ⟨Um, TC, rfl⟩ := Kd.R_slice cV; obtain ⟨Up, TF, rfl⟩ := Kd.R_slice dA; have rT := ak gR; have aj := ak (ae.out.trans (I.mono ae.out.size)); have Kq := ak (cV); have J4 := ak (dA); clear gR cV dA I ae)
  | (refine ax (some 1) rfl rfl 57 rfl a7 bJ ?_; intro gX W2 J aa I; have bS := ge aj J; have aw := mv I aj; have Kp := mv I Kq; have J3 := mv I J4; have au := ak (aa); clear J aa I aj Kq J4)
  | (refine aN rfl 57 (.tmp 1) (.tmp 11) rfl gX (aX b.addr b.aff b.slots (.slice Um b.free.length TC) (.slice Up b.attrs.length TF)) rfl rfl 57 _ au.out 68 (by kernel_rfl) (ag _ _ _ _ _ rT.out) rfl (bZ _ _ _ _ _ rfl rfl) ?_; intro W3 aa J; have aD := gb aw bS J; have Aw := gr Kp au J; have Ar := gr J3 au J; have aA := ak (aa); clear aa J aw Kp J3 au)
  | ((with_reducible refine av (N := 14) rfl ?_); refine ay rfl 57 (.tmp 1) rfl gX rfl _ _ _ aA.out Try.underlying57 rfl 68 (by kernel_rfl) (ag _ _ _ _ _ rT.out) ?_)
  | (refine fw rfl 85 #[(0, .const (.string ⟨#[104]⟩)), (1, .const (.string ⟨#[110]⟩))] rfl [.string ⟨#[104]⟩, .string ⟨#[110]⟩] (by kernel_rfl) ?_)
  | (go_at_call 49; refine (HA.out _ _ ⟨_, _, _, _, rfl, ⟨rT.out, (rr Aw).1, (rr Aw).2, (rr Ar).1, (rr Ar).2⟩⟩).mono ?_; rintro e W4 ⟨v_, jT, rfl, aU, eC, I⟩; obtain ⟨gR, nE, nF, rfl, cV, dA⟩ := aU; obtain ⟨Ul, TB, rfl⟩ := Kd.R_slice cV; obtain ⟨Uo, TE, rfl⟩ := Kd.R_slice dA; have NK := ak gR; obtain ⟨VJ, Vx, rfl⟩ := Kd.R_slice eC; have aW := mv I aD; have Ko := mv I Aw; have J2 := mv I Ar; have aV := mv I aA; have Ki := ak (cV); have JW := ak (dA); have Jl := ak (eC); clear gR cV dA eC I aD Aw Ar aA)
  | (refine ax (some 3) rfl rfl 57 rfl a7 bJ ?_; intro gY W5 J aa I; have iZ := ge aW J; have fD := ne aV J; have bf := mv I aW; have Kn := mv I Ko; have J1 := mv I J2; have a9 := mv I aV; have Kh := mv I Ki; have JV := mv I JW; have Jk := mv I Jl; have du := ak (aa); clear J aa I aW Ko J2 aV Ki JW Jl)
  | (refine aN rfl 57 (.tmp 3) (.tmp 17) rfl gY (aX c.addr c.aff c.slots (.slice Ul c.free.length TB) (.slice Uo c.attrs.length TE)) rfl rfl 57 _ du.out 68 (by kernel_rfl) (ag _ _ _ _ _ NK.out) rfl (bZ _ _ _ _ _ rfl rfl) ?_; intro W6 aa J; have bD := gb bf iZ J; have Km := gr Kn du J; have J0 := gr J1 du J; have bj := gn a9 fD J; have Av := gr Kh du J; have An := gr JV du J; have EF := gr Jk du J; have cN := ak (aa); clear aa J bf Kn J1 a9 Kh JV Jk du)
  | ((with_reducible refine av (N := 21) rfl ?_); refine ay rfl 57 (.tmp 3) rfl gY rfl _ _ _ cN.out Try.underlying57 rfl 68 (by kernel_rfl) (ag _ _ _ _ _ NK.out) ?_)
  | (go_at_call 52; refine (HRL.out _ _ _ _ ⟨_, _, _, _, rfl, ⟨NK.out, (rr Av).1, (rr Av).2, (rr An).1, (rr An).2⟩⟩ (Kd.R_reads' EF.out).2.2).mono ?_; rintro e W7 ⟨v_, jT, rfl, aU, eC, I⟩; obtain ⟨gR, nE, nF, rfl, cV, dA⟩ := aU; obtain ⟨Uk, TA, rfl⟩ := Kd.R_slice cV; obtain ⟨Un, TD, rfl⟩ := Kd.R_slice dA; have Jp := ak gR; obtain ⟨VI, Vw, rfl⟩ := Kd.R_slice eC; have dR := mv I bD; have Kl := mv I Km; have JZ := mv I J0; have df := mv I bj; have Kg := mv I Av; have JU := mv I An; have Jj := mv I EF; have iO := mv I cN; have Kb := ak (cV); have JR := ak (dA); have Jh := ak (eC); clear gR cV dA eC I bD Km J0 bj Av An EF cN)
  | (refine ax (some 6) rfl rfl 57 rfl a7 bJ ?_; intro gZ W8 J aa I; have bO := ge dR J; have aG := ne df J; have fP := ne iO J; have gO := mv I dR; have Kk := mv I Kl; have JY := mv I JZ; have gN := mv I df; have Kf := mv I Kg; have JT := mv I JU; have Ji := mv I Jj; have lD := mv I iO; have Ka := mv I Kb; have JQ := mv I JR; have Jg := mv I Jh; have fI := ak (aa); clear J aa I dR Kl JZ df Kg JU Jj iO Kb JR Jh)
  | (refine aN rfl 57 (.tmp 6) (.tmp 24) rfl gZ (aX d.addr d.aff d.slots (.slice Uk d.free.length TA) (.slice Un d.attrs.length TD)) rfl rfl 57 _ fI.out 68 (by kernel_rfl) (ag _ _ _ _ _ Jp.out) rfl (bZ _ _ _ _ _ rfl rfl) ?_; intro W9 aa J; have kp := gb gO bO J; have Kj := gr Kk fI J; have JX := gr JY fI J; have kl := gn gN aG J; have Ke := gr Kf fI J; have JS := gr JT fI J; have tM := gr Ji fI J; have kZ := gn lD fP J; have vI := gr Ka fI J; have Aj := gr JQ fI J; have Jf := gr Jg fI J; have j9 := ak (aa); obtain ⟨g2, rfl⟩ := nO tM.out (by have h_ := HLL.out; omega); obtain ⟨g3, rfl⟩ := nO vI.out (by have h_ := HDL.out; omega); have P0 := (ly tM.out 1 (by have h_ := HLL.out; omega)).1; have PZ := (ly vI.out 63 (by have h_ := HDL.out; omega)).1; rw [show ((1 : Nat) : Int) = 1 from rfl, TU.out] at P0; rw [show ((63 : Nat) : Int) = 63 from rfl, Uf.out] at PZ; have Ir := j9.out.cell 66 _ (fR _ _ _ _ _ Jp.out); have Vf : ((1 : Int) < (l.length : Int)) = True := eq_true (by have h_ := HLL.out; omega); have Vg : ((63 : Int) < (d.free.length : Int)) = True := eq_true (by have h_ := HDL.out; omega); clear aa J gO Kk JY gN Kf JT Ji lD Ka JQ Jg fI)
  | ((with_reducible refine av (N := 67) rfl ?_); refine fo (by rfl) ?_; refine ay rfl 57 (.tmp 6) rfl gZ rfl _ _ _ j9.out Try.underlying57 rfl 68 (by kernel_rfl) (ag _ _ _ _ _ Jp.out) ?_)
  | (go_at_call 57; refine (HE.out _ _ ⟨_, _, _, _, rfl, ⟨Jp.out, (rr vI).1, (rr vI).2, (rr Aj).1, (rr Aj).2⟩⟩).mono ?_; rintro e PD ⟨rfl, I⟩; have mB := mv I kp; have Uc := mv I Kj; have TZ := mv I JX; have mw := mv I kl; have Ub := mv I Ke; have TY := mv I JS; have CA := mv I tM; have oW := mv I kZ; have Ua := mv I vI; have TX := mv I Aj; have TV := mv I Jf; have m5 := mv I j9; clear I kp Kj JX kl Ke JS tM kZ vI Aj Jf j9))
 go_ret
 exact ⟨by simp, mB.out⟩
end Go.Proofs.Ytemhalnhbgkbcaa.V
end

section
namespace Go.Proofs.Ytemhalnhbgkbcaa.V
theorem RG.new (a : Int) (h0 : 0 ≤ a) (h1 : a < 4294967296) (s : ByteArray) (hs : fY s = true) : RG (tp a s) := by
 have hf : bN (bN a) = bN a := by unfold bN; omega
 have h2 : 0 ≤ bN a ∧ bN a < 4294967296 := by unfold bN; omega
 refine RG.of ⟨h2.1, h2.2, nA (by kernel_rfl), nA (by kernel_rfl)⟩ (by kernel_rfl) ?_
 have e1 : kr (tp a s) = true := by kernel_rfl
 have e2 : kB (tp a s) = true := by kernel_rfl
 unfold dy
 rw [e1, e2]
 show (bN (bN a) == bN a && (fY s && (decide (([] : List At).length ≤ 64) && (true && true)))) = true
 rw [hf, hs]
 simp
def y9.T13 : Bool × List (List Nat × List Nat) := (true, [([], []), ([0], [0]), ([1], [1]), ([2], [2]), ([3, 2, 2], [2, 3]), ([2], [2]), ([4, 5, 4, 2], [2, 4, 5]), ([6, 2], [2, 6]), ([2, 7], [2, 7]), ([8, 6], [8]), ([9], [9]), ([10, 9, 9], [9, 10]), ([11, 9], [9, 11]), ([9, 12], [9, 12]), ([13, 11], [13]), ([14], [14]), ([15, 14, 14], [14, 15]), ([16, 14], [14, 16]), ([14, 17], [14, 17])])
def y9.B13 : List Nat := [0, 1, 3, 7, 15, 7, 63, 127, 255, 511, 1023, 2047, 4095, 8191, 16383, 32767, 65535, 131071, 262143]
theorem y9.tab13 : dP .any (opsOf Try.f10 13) = y9.T13 := by kernel_rfl
theorem y9.bits13 : dr y9.T13.2 y9.B13 = true := by kernel_rfl
end Go.Proofs.Ytemhalnhbgkbcaa.V
end

section
namespace Go.Proofs.Ytemhalnhbgkbcaa.V
theorem mQ (x : Int) (is : List Int) (h : ∀ f ∈ is, 0 ≤ f) : ∀ (l : List Int) (i : Nat), i < l.length → (gM l is x).getD i 0 = if (i : Int) ∈ is then x else l.getD i 0 := by
 induction is with
 | nil => intro l i hi; simp [gM]
 | cons f is ih =>
  intro l i hi
  have h0 := h f List.mem_cons_self
  show (gM (l.set f.toNat x) is x).getD i 0 = _
  rw [ih (fun g hg => h g (List.mem_cons_of_mem _ hg)) _ i (by rw [List.length_set]; exact hi)]
  by_cases hm : (i : Int) ∈ is
  ·rw [if_pos hm, if_pos (List.mem_cons_of_mem _ hm)]
  ·rw [if_neg hm]
   by_cases hf : f = (i : Int)
   ·rw [if_pos (by rw [hf]; exact List.mem_cons_self), hf, Int.toNat_natCast, vX _ hi]
   ·rw [if_neg (by rw [List.mem_cons, not_or]; exact ⟨fun e => hf e.symm, hm⟩), getD_set_ne _ (by omega)]
theorem Hi {l m : List Int} (hl : l.length = m.length) (h : ∀ i, i < l.length → l.getD i 0 = m.getD i 0) : l = m := by
 refine List.ext_getElem hl (fun i h1 h2 => ?_)
 have := h i h1
 rwa [getD_eq h1, getD_eq h2] at this
section
variable {b : Bk} (hg : RG b)
include hg
theorem qP {m : Nat} (hm : m ≤ b.free.length) : ∀ f ∈ b.free.take m, 0 ≤ f ∧ f < 64 ∧ b.slots.getD f.toNat 0 = 0 := fun f hf => hg.f0 f (List.mem_of_mem_take hf)
theorem Et (m : Nat) (hm : m ≤ b.free.length) (x : Int) : gM (gM b.slots (b.free.take m) x) (b.free.take m) 0 = b.slots := by
 have hf := qP hg hm
 have h0 : ∀ f ∈ b.free.take m, 0 ≤ f := fun f h => (hf f h).1
 refine Hi (by rw [jA, jA]) (fun i hi => ?_)
 rw [jA, jA] at hi
 rw [mQ 0 _ h0 _ i (by rw [jA]; exact hi), mQ x _ h0 _ i hi]
 by_cases hin : (i : Int) ∈ b.free.take m
 ·rw [if_pos hin]
  have := (hf _ hin).2.2
  rw [Int.toNat_natCast] at this
  exact this.symm
 ·rw [if_neg hin, if_neg hin]
theorem zE (f : Int) (h0 : 0 ≤ f) (h1 : f < 64) : bN (b.addr + f) = b.addr := by
 have := hg.first
 have := hg.a0
 unfold bN at *
 omega
theorem Di (j : Nat) (hj : j < b.free.length) : 0 ≤ rd b.free j ∧ rd b.free j < 64 ∧ b.slots.getD (rd b.free j).toNat 0 = 0 := by
 have e := sT b.free j hj
 have := hg.f0 (rd b.free (j : Int)) (by rw [e]; exact List.getElem_mem hj)
 exact this
omit hg in
theorem Dh (j m : Nat) (hjm : j < m) (hm : m ≤ b.free.length) : rd b.free j ∈ b.free.take m := by
 have hj : j < b.free.length := by omega
 rw [oA b.free j hj, List.mem_take_iff_getElem]
 exact ⟨j, by omega, rfl⟩
theorem AU (m : Nat) (hm : m ≤ b.free.length) (a : At) : ∀ j, j ≤ m → relL (di b m a) (dK b j) = (⟨b.addr, b.aff, gM (di b m a).slots (b.free.take j) 0, b.free.drop m ++ b.free.take j, (di b m a).attrs⟩, dK b j) := by
 intro j
 induction j with
 | zero => intro _; simp [relL, dK, gM]; rfl
 | succ j ih =>
  intro hj
  have hjl : j < b.free.length := by omega
  obtain ⟨h0, h1, h2⟩ := Di hg j hjl
  have hnm := m9 (iA hg.right) hg.ok j hjl
  rw [mY b j hjl, uv, ih (by omega)]
  have hit : fy (⟨b.addr, b.aff, gM (di b m a).slots (b.free.take j) 0, b.free.drop m ++ b.free.take j, (di b m a).attrs⟩ : Bk) (b.addr + rd b.free j) = true := by
   unfold fy
   show (decide (bN (b.addr + rd b.free j) = b.addr) && ((gM (di b m a).slots (b.free.take j) 0).getD (b.addr + rd b.free j - b.addr).toNat 0 != 0)) = true
   rw [zE hg _ h0 h1, show b.addr + rd b.free j - b.addr = rd b.free j by omega]
   obtain ⟨i, hi⟩ : ∃ i : Nat, rd b.free j = (i : Int) := ⟨(rd b.free j).toNat, by omega⟩
   have hil : i < b.slots.length := by rw [hg.l64]; omega
   rw [hi, Int.toNat_natCast, mQ 0 _ (fun f hf => (qP hg (m := j) (by omega) f hf).1) _ i (by show i < (gM b.slots _ _).length; rw [jA]; exact hil), if_neg (by rw [← hi]; exact hnm.2.2.1)]
   show (decide (b.addr = b.addr) && ((gM b.slots (b.free.take m) ((en b.attrs a : Nat) : Int)).getD i 0 != 0)) = true
   rw [mQ _ _ (fun f hf => (qP hg hm f hf).1) _ i hil, if_pos (by rw [← hi]; exact Dh j m (by omega) hm)]
   have := vx b.attrs a
   simp
   omega
  unfold relF
  rw [if_pos hit]
  show ((⟨b.addr, b.aff, (gM (di b m a).slots (b.free.take j) 0).set (b.addr + rd b.free j - b.addr).toNat 0, b.free.drop m ++ b.free.take j ++ [b.addr + rd b.free j - b.addr], (di b m a).attrs⟩ : Bk), dK b j ++ [b.addr + rd b.free j]) = _
  rw [show b.addr + rd b.free j - b.addr = rd b.free j by omega, pF b.free j hjl, ss, List.append_assoc]
theorem GL (k : Nat) (hk : k ≤ b.attrs.length) : fg b.slots k = k := by
 unfold fg
 exact filter_all.2 (fun j hj => hg.used j (by omega))
theorem Bn (e : Bk) (hs : e.slots = b.slots) (r : List At) (hr : e.attrs = b.attrs ++ r) : ∀ j, j ≤ b.attrs.length → iw e j = b.attrs.take j := by
 intro j
 induction j with
 | zero => intro _; rfl
 | succ j ih =>
  intro hj
  rw [mg, ih (by omega), hs, if_pos (hg.used j (by omega)), sG b.attrs j (by omega), ks e.attrs j (by rw [hr, List.length_append]; omega), ks b.attrs j (by omega)]
  congr 2
  simp only [hr]
  exact List.getElem_append_left (by omega)
theorem L0 (m : Nat) (hm : m ≤ b.free.length) (a : At) : kz (di b m a) (dK b m) = ⟨b.addr, b.aff, b.slots, b.free.drop m ++ b.free.take m, b.attrs⟩ := by
 unfold kz
 rw [AU hg m hm a m (Nat.le_refl _)]
 have hsl : gM (di b m a).slots (b.free.take m) 0 = b.slots := Et hg m hm _
 simp only
 rw [hsl]
 obtain ⟨e, he⟩ : ∃ e : Bk, e = ⟨b.addr, b.aff, b.slots, b.free.drop m ++ b.free.take m, (di b m a).attrs⟩ := ⟨_, rfl⟩
 have hes : e.slots = b.slots := by rw [he]
 have hea : e.attrs = b.attrs ∨ (a ∉ b.attrs ∧ e.attrs = b.attrs ++ [a]) := by
  rw [he]
  show (if m = 0 then b.attrs else ea b.attrs a) = _ ∨ (_ ∧ (if m = 0 then b.attrs else ea b.attrs a) = _)
  by_cases mE : m = 0
  ·rw [if_pos mE]; exact Or.inl rfl
  ·rw [if_neg mE]
   rcases @Fm b.attrs a with ⟨i, _, _, h⟩ | ⟨h1, _, h2⟩
   ·exact Or.inl h
   ·exact Or.inr ⟨h1, h2⟩
 rw [← he]
 unfold kC
 have hk : iw e e.attrs.length = b.attrs := by
  rcases hea with h | ⟨_, h⟩
  ·rw [h, Bn hg e hes [] (by rw [h]; simp) _ (Nat.le_refl _), List.take_length]
  ·have hnu : dN b.slots b.attrs.length = false := by
    cases hu : dN b.slots b.attrs.length with
    | false => rfl
    | true => exact absurd (Df (fun s hs => (hg.s0 s hs).2) hu) (by omega)
   rw [h, List.length_append, List.length_singleton, mg, hes, if_neg (by rw [hnu]; decide), Bn hg e hes [a] h _ (Nat.le_refl _), List.take_length, List.append_nil]
 rw [hk, hes, he]
 have hmap : b.slots.map (fun s => ((fg b.slots s.toNat : Nat) : Int)) = b.slots := by
  conv => rhs; rw [← List.map_id b.slots]
  refine List.map_congr_left (fun s hs => ?_)
  have h1 := hg.s0 s hs
  rw [GL hg s.toNat (by omega)]
  show ((s.toNat : Nat) : Int) = s
  omega
 rw [hmap]
theorem Ht (m : Nat) (hm : m ≤ b.free.length) (a : At) : (relL (di b m a) (dK b m)).2 = dK b m := by rw [AU hg m hm a m (Nat.le_refl _)]
theorem FP (m : Nat) (hm : m ≤ b.free.length) (a : At) (j : Nat) (hj : j < m) : fy b (rd (dK b m) j) = false ∧ fy (di b m a) (rd (dK b m) j) = true ∧ jd (di b m a) (rd (dK b m) j) = a := by
 have hjl : j < b.free.length := by omega
 obtain ⟨h0, h1, h2⟩ := Di hg j hjl
 have he : rd (dK b m) j = b.addr + rd b.free j := by
  have hl : j < (dK b m).length := by rw [gq b m hm]; exact hj
  rw [oA _ j hl, oA b.free j hjl]
  simp [dK]
 rw [he]
 obtain ⟨i, hi⟩ : ∃ i : Nat, rd b.free j = (i : Int) := ⟨(rd b.free j).toNat, by omega⟩
 have hil : i < b.slots.length := by rw [hg.l64]; omega
 have hx : b.addr + rd b.free j - b.addr = (i : Int) := by omega
 have hcs : (di b m a).slots.getD i 0 = ((en b.attrs a : Nat) : Int) := by
  show (gM b.slots (b.free.take m) _).getD i 0 = _
  rw [mQ _ _ (fun f hf => (qP hg hm f hf).1) _ i hil, if_pos (by rw [← hi]; exact Dh j m hj hm)]
 have hnp := vx b.attrs a
 have hc : fy (di b m a) (b.addr + rd b.free j) = true := by
  show (decide (bN (b.addr + rd b.free j) = b.addr) && ((di b m a).slots.getD (b.addr + rd b.free j - b.addr).toNat 0 != 0)) = true
  rw [zE hg _ h0 h1, hx, Int.toNat_natCast, hcs]
  simp
  omega
 refine ⟨?_, hc, ?_⟩
 ·unfold fy
  rw [hx, Int.toNat_natCast, show b.slots.getD i 0 = 0 by rw [hi, Int.toNat_natCast] at h2; exact h2]
  simp
 ·unfold jd
  rw [if_pos hc]
  show gH (di b m a).attrs ((di b m a).slots.getD (b.addr + rd b.free j - b.addr).toNat 0 - 1).toNat = a
  rw [hx, Int.toNat_natCast, hcs, show (((en b.attrs a : Nat) : Int) - 1).toNat = en b.attrs a - 1 by omega]
  show gH (if m = 0 then b.attrs else ea b.attrs a) _ = a
  rw [if_neg (by omega)]
  have hix := yU b.attrs a
  have hlt := tt hix
  rw [ks _ _ hlt]
  unfold fJ at hix
  rw [List.findIdx?_eq_some_iff_getElem] at hix
  obtain ⟨h3, h4, _⟩ := hix
  exact ((kx _ _).1 h4).symm
end
end Go.Proofs.Ytemhalnhbgkbcaa.V
end

