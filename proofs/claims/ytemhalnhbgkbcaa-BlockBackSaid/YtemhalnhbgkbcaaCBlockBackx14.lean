/- The law BlockBack for every input: texts of ours, put together (part 15 of 16). No further condition. -/
import Derived.Test.YtemhalnhbgkbcaaCBlockBackx2
import Derived.Test.YtemhalnhbgkbcaaCBlockBackx6
import Derived.Test.YtemhalnhbgkbcaaCBlockBackx10
import Derived.Test.YtemhalnhbgkbcaaCBlockBackx4
import Derived.Test.YtemhalnhbgkbcaaCBlockBackx9
import Derived.Outline
import Derived.Test.YtemhalnhbgkbcaaCBlockBackx7
import Derived.Test.YtemhalnhbgkbcaaCBlockBackx13
set_option linter.unusedVariables false
set_option linter.unusedSimpArgs false
open Go.RowKit Go.Proofs.YtemhalnhbgkbcaaW.PrintWords Go.Proofs.YtemhalnhbgkbcaaW.PrintLast Go.Proofs.YtemhalnhbgkbcaaW.PrintMore Go.Proofs.Ytemhalnhbgkbcaa.Z
section
namespace Go.Proofs.Ytemhalnhbgkbcaa.V
set_option maxHeartbeats 16000000 in
set_option maxRecDepth 100000 in
theorem zD (b : Bk) (hk : BkOk b) (v : Value) (w : World) (h : gi w v b) :
  Calls Try.prog 59 #[v] w fun e w' => ∃ vo, e = .returned vo ∧ Kd.R (Kd.int .u32) 46 w' w.heap.size (fun _ => True) vo (if dy b = true then dH b (fun _ => true) 64 else []) ∧ Below w.heap.size w w' := by
 obtain ⟨A, c, A', c', rfl, hr⟩ := h
 have HL := ak hr.l64
 have HR := ak hr
 have HK := ak hk
 have ae := ak (Below.refl w.heap.size w)
 cases hrt : dy b with
 | false =>
  have HRT := ak hrt
  clear hr hk hrt
  go_enter Try.func59, Try.ntmps59
  go_wp2_with (first
   | (refine aE rfl 57 (.tmp 0) rfl _ rfl ?_; intro gX W1 J aa I; have bS := ge ae J; have aj := ak (ae.out.trans (I.mono ae.out.size)); have ah := ak (aa); clear J aa I ae)
   | ((with_reducible refine av (N := 3) rfl ?_); refine ay rfl 57 (.tmp 1) rfl gX rfl _ _ _ ah.out Try.underlying57 rfl 68 (by kernel_rfl) (ag _ _ _ _ _ HL.out) ?_)
   | (go_at_call 48; refine (dW b HK.out _ _ ⟨A, c, A', c', rfl, HR.out.below aj.out⟩).mono ?_; rintro e W2 ⟨rfl, I⟩; rw [HRT.out]; have aw := mv I aj; have au := mv I ah; clear I aj ah))
  go_ret
  exact ⟨_, rfl, Kd.R_nil _ _ _ _ _, aw.out⟩
 | true =>
  have HRT := ak hrt
  have HP := ak (iA hrt)
  clear hr hk hrt
  go_enter Try.func59, Try.ntmps59
  go_wp2_with (first
   | (refine aE rfl 57 (.tmp 0) rfl _ rfl ?_; intro gX W1 J aa I; have bS := ge ae J; have aj := ak (ae.out.trans (I.mono ae.out.size)); have ah := ak (aa); clear J aa I ae)
   | ((with_reducible refine av (N := 3) rfl ?_); refine ay rfl 57 (.tmp 1) rfl gX rfl _ _ _ ah.out Try.underlying57 rfl 68 (by kernel_rfl) (ag _ _ _ _ _ HL.out) ?_)
   | (go_at_call 48; refine (dW b HK.out _ _ ⟨A, c, A', c', rfl, HR.out.below aj.out⟩).mono ?_; rintro e W2 ⟨rfl, I⟩; rw [HRT.out]; have aw := mv I aj; have au := mv I ah; clear I aj ah)
   | ((with_reducible refine av (N := 6) rfl ?_); refine ay rfl 57 (.tmp 1) rfl gX rfl _ _ _ au.out Try.underlying57 rfl 68 (by kernel_rfl) (ag _ _ _ _ _ HL.out) ?_)
   | (go_at_call 96; refine (GD b HK.out HP.out _ _ ⟨A, c, A', c', rfl, HR.out.below aw.out⟩).mono ?_; rintro e W3 ⟨vo, rfl, aU, I⟩; have aD := mv I aw; have aA := mv I au; have ED := ak (Kd.R_lower aU aw.out.size); clear I aw au))
  go_ret
  exact ⟨_, rfl, ED.out, aD.out⟩
set_option maxHeartbeats 16000000 in
set_option maxRecDepth 100000 in
theorem MF (b : Bk) (hk : BkOk b) (x q : Int) (hpl : ∀ (v : Value) (w : World), gi w v b → Calls Try.prog 92 #[v, .int .u32 x] w fun e w' => e = .returned (.tuple #[.int .i64 q, .bool false]) ∧ Below w.heap.size w w') (v : Value) (w : World) (h : gi w v b) :
  Calls Try.prog 56 #[v, .int .u32 x] w fun e w' => e = .returned (.tuple #[.agg #[.string ⟨#[]⟩, .string ⟨#[]⟩], .bool false]) ∧ Below w.heap.size w w' := by
 obtain ⟨A, c, A', c', rfl, hr⟩ := h
 have HL := ak hr.l64
 have HR := ak hr
 have HK := ak hk
 have ae := ak (Below.refl w.heap.size w)
 have HPL := ak hpl
 clear hr hk hpl
 go_enter Try.func56, Try.ntmps56
 go_wp2_with (first
  | (refine aE rfl 57 (.tmp 0) rfl _ rfl ?_; intro gX W1 J aa I; have bS := ge ae J; have aj := ak (ae.out.trans (I.mono ae.out.size)); have ah := ak (aa); clear J aa I ae)
  | (refine ax (some 4) rfl rfl 85 rfl [.string ⟨#[]⟩, .string ⟨#[]⟩] (fun _ => by kernel_rfl) ?_; intro gZ W2 J aa I; have bO := ge aj J; have aG := ne ah J; have aw := mv I aj; have au := mv I ah; have b4 := ak (aa); clear J aa I aj ah)
  | ((with_reducible refine av (N := 9) rfl ?_); refine ay rfl 57 (.tmp 2) rfl gX rfl _ _ _ au.out Try.underlying57 rfl 68 (by kernel_rfl) (ag _ _ _ _ _ HL.out) ?_)
  | (go_at_call 92; refine (HPL.out _ _ ⟨A, c, A', c', rfl, HR.out.below aw.out⟩).mono ?_; rintro e W3 ⟨rfl, I⟩; have aD := mv I aw; have aA := mv I au; have bQ := mv I b4; clear I aw au b4)
  | (refine fw rfl 85 #[] rfl [.string ⟨#[]⟩, .string ⟨#[]⟩] (by kernel_rfl) ?_)
  | (refine aN rfl 85 (.tmp 4) (.tmp 28) rfl gZ [.string ⟨#[]⟩, .string ⟨#[]⟩] rfl rfl 85 _ bQ.out 2 (by kernel_rfl) rfl rfl (ia ⟨⟨#[]⟩, ⟨#[]⟩⟩) ?_; intro W4 aa J; have aW := gb aD bO J; have aV := gx aA bQ J; have bb := ak (aa); clear aa J aD aA bQ))
 exact bodyPost_ret (e8 rfl _ _ gZ 85 _ (0, 0) _ rfl bb.out Try.underlying85 rfl (by kernel_rfl)) rfl ⟨rfl, aW.out⟩
set_option maxHeartbeats 16000000 in
set_option maxRecDepth 100000 in
theorem K9 (b : Bk) (hk : BkOk b) (x : Int) (j : Nat) (hj : j < 64) (hpl : ∀ (v : Value) (w : World), gi w v b → Calls Try.prog 92 #[v, .int .u32 x] w fun e w' => e = .returned (.tuple #[.int .i64 (j : Int), .bool true]) ∧ Below w.heap.size w w') (hrt : dy b = true) (hz : b.slots.getD j 0 = 0) (v : Value) (w : World) (h : gi w v b) :
  Calls Try.prog 56 #[v, .int .u32 x] w fun e w' => e = .returned (.tuple #[.agg #[.string ⟨#[]⟩, .string ⟨#[]⟩], .bool false]) ∧ Below w.heap.size w w' := by
 obtain ⟨A, c, A', c', rfl, hr⟩ := h
 have HL := ak hr.l64
 have HR := ak hr
 have HK := ak hk
 have ae := ak (Below.refl w.heap.size w)
 have HPL := ak hpl
 have HRT := ak hrt
 have HM := ak hz
 clear hr hk hpl hrt hz
 go_enter Try.func56, Try.ntmps56
 go_wp2_with (first
  | (refine aE rfl 57 (.tmp 0) rfl _ rfl ?_; intro gX W1 J aa I; have bS := ge ae J; have aj := ak (ae.out.trans (I.mono ae.out.size)); have ah := ak (aa); clear J aa I ae)
  | (refine ax (some 4) rfl rfl 85 rfl [.string ⟨#[]⟩, .string ⟨#[]⟩] (fun _ => by kernel_rfl) ?_; intro gZ W2 J aa I; have bO := ge aj J; have aG := ne ah J; have aw := mv I aj; have au := mv I ah; have b4 := ak (aa); clear J aa I aj ah)
  | ((with_reducible refine av (N := 9) rfl ?_); refine ay rfl 57 (.tmp 2) rfl gX rfl _ _ _ au.out Try.underlying57 rfl 68 (by kernel_rfl) (ag _ _ _ _ _ HL.out) ?_)
  | (go_at_call 92; refine (HPL.out _ _ ⟨A, c, A', c', rfl, HR.out.below aw.out⟩).mono ?_; rintro e W3 ⟨rfl, I⟩; have aD := mv I aw; have aA := mv I au; have bQ := mv I b4; clear I aw au b4)
  | ((with_reducible refine av (N := 17) rfl ?_); refine fo (by rfl) ?_; refine ay rfl 57 (.tmp 2) rfl gX rfl _ _ _ aA.out Try.underlying57 rfl 68 (by kernel_rfl) (ag _ _ _ _ _ HL.out) ?_)
  | (go_at_call 48; refine (dW b HK.out _ _ ⟨A, c, A', c', rfl, HR.out.below aD.out⟩).mono ?_; rintro e W4 ⟨rfl, I⟩; rw [HRT.out]; have aW := mv I aD; have aV := mv I aA; have bb := mv I bQ; have lU := (show W4.cell? ⟨gX, 2 + j, none⟩ = some (.int .u8 0) from by have h_ := aV.out.slot HL.out j hj; rwa [HM.out] at h_); clear I aD aA bQ)
  | (refine fw rfl 85 #[] rfl [.string ⟨#[]⟩, .string ⟨#[]⟩] (by kernel_rfl) ?_)
  | (refine aN rfl 85 (.tmp 4) (.tmp 28) rfl gZ [.string ⟨#[]⟩, .string ⟨#[]⟩] rfl rfl 85 _ bb.out 2 (by kernel_rfl) rfl rfl (ia ⟨⟨#[]⟩, ⟨#[]⟩⟩) ?_; intro W5 aa J; have bf := gb aW bO J; have a9 := gx aV bb J; have bu := ak (aa); clear aa J aW aV bb lU))
 exact bodyPost_ret (e8 rfl _ _ gZ 85 _ (0, 0) _ rfl bu.out Try.underlying85 rfl (by kernel_rfl)) rfl ⟨rfl, bf.out⟩
def zp.T4 : Bool × List (List Nat × List Nat) := (true, [([], []), ([0], [0]), ([], []), ([], []), ([3, 2], [2, 3]), ([4], [4]), ([5], [5]), ([1, 6], [1, 6]), ([7], [7]), ([8, 0, 1, 2, 3, 4, 5, 6, 7, 8], [8]), ([9, 0, 1, 2, 3, 4, 5, 6, 7, 8, 9], [])])
def zp.B4 : List Nat := [0, 1, 0, 0, 12, 28, 60, 127, 255, 511, 1023]
theorem zp.tab4 : dP .any (opsOf Try.f56 4) = zp.T4 := by kernel_rfl
theorem zp.bits4 : dr zp.T4.2 zp.B4 = true := by kernel_rfl
set_option maxHeartbeats 16000000 in
set_option maxRecDepth 100000 in
theorem of_held (b : Bk) (hk : BkOk b) (x : Int) (j m : Nat) (hj : j < 64) (hpl : ∀ (v : Value) (w : World), gi w v b → Calls Try.prog 92 #[v, .int .u32 x] w fun e w' => e = .returned (.tuple #[.int .i64 (j : Int), .bool true]) ∧ Below w.heap.size w w') (hrt : dy b = true) (hz : b.slots.getD j 0 = (m : Int) + 1) (hma : m < b.attrs.length) (hna : b.attrs.length ≤ 64) (a : At) (ha : cU b.attrs (m : Int) = a) (v : Value) (w : World) (h : gi w v b) :
  Calls Try.prog 56 #[v, .int .u32 x] w fun e w' => e = .returned (.tuple #[.agg #[.string a.f0, .string a.f1], .bool true]) ∧ Below w.heap.size w w' := by
 obtain ⟨A, c, A', c', rfl, hr⟩ := h
 have HL := ak hr.l64
 have HR := ak hr
 have HK := ak hk
 have ae := ak (Below.refl w.heap.size w)
 have HPL := ak hpl
 have HRT := ak hrt
 have HM := ak hz
 have HAA := ak ha
 have ht : (((m : Int) + 1) == 0) = false := by rw [beq_eq_false_iff_ne]; omega
 clear hr hk hpl hrt hz ha
 go_enter Try.func56, Try.ntmps56
 go_wp2_with (first
  | (refine aE rfl 57 (.tmp 0) rfl _ rfl ?_; intro gX W1 J aa I; have bS := ge ae J; have aj := ak (ae.out.trans (I.mono ae.out.size)); have ah := ak (aa); clear J aa I ae)
  | (refine ax (some 4) rfl rfl 85 rfl [.string ⟨#[]⟩, .string ⟨#[]⟩] (fun _ => by kernel_rfl) ?_; intro gZ W2 J aa I; have bO := ge aj J; have aG := ne ah J; have aw := mv I aj; have au := mv I ah; have b4 := ak (aa); clear J aa I aj ah)
  | ((with_reducible refine av (N := 9) rfl ?_); refine ay rfl 57 (.tmp 2) rfl gX rfl _ _ _ au.out Try.underlying57 rfl 68 (by kernel_rfl) (ag _ _ _ _ _ HL.out) ?_)
  | (go_at_call 92; refine (HPL.out _ _ ⟨A, c, A', c', rfl, HR.out.below aw.out⟩).mono ?_; rintro e W3 ⟨rfl, I⟩; have aD := mv I aw; have aA := mv I au; have bQ := mv I b4; clear I aw au b4)
  | ((with_reducible refine av (N := 17) rfl ?_); refine fo (by rfl) ?_; refine ay rfl 57 (.tmp 2) rfl gX rfl _ _ _ aA.out Try.underlying57 rfl 68 (by kernel_rfl) (ag _ _ _ _ _ HL.out) ?_)
  | (go_at_call 48; refine (dW b HK.out _ _ ⟨A, c, A', c', rfl, HR.out.below aD.out⟩).mono ?_; rintro e W4 ⟨rfl, I⟩; rw [HRT.out]; have aW := mv I aD; have aV := mv I aA; have bb := mv I bQ; have lU := (show W4.cell? ⟨gX, 2 + j, none⟩ = some (.int .u8 ((m : Int) + 1)) from by have h_ := aV.out.slot HL.out j hj; rwa [HM.out] at h_); clear I aD aA bQ))
 clear lU
 have ai : Below W4.heap.size W4 W4.drew := bp (Below.refl _ _)
 have bf := mv ai aW; have a9 := mv ai aV; have bu := mv ai bb
 clear ai aW aV bb
 have pj : ((j : Int) < 64) = True := eq_true (by omega)
 obtain ⟨ad, eA, jg, lf⟩ := lr (HR.out.below bf.out).ar m (by omega) (by omega)
 cases eA
 rw [Int.toNat_natCast, HAA.out] at jg lf
 have p1 : ((m : Int) < (b.attrs.length : Int)) = True := eq_true (by omega)
 have lU : W4.drew.cell? ⟨gX, 2 + j, none⟩ = some (.int .u8 ((m : Int) + 1)) := by have h_ := a9.out.slot HL.out j hj; rwa [HM.out] at h_
 have N9 := a9.out.cell 67 _ (fz _ _ _ _ _ HL.out)
 have hwr : IntKind.u8.wrap (m : Int) = (m : Int) := by rw [IntKind.wrap_u8]; omega
 refine da (n := 11) (S := fun w' => w'.cell? ⟨gX, 67, none⟩ = some (.slice (some ad) b.attrs.length c') ∧ w'.cell? ⟨gX, 2 + j, none⟩ = some (.int .u8 ((m : Int) + 1)) ∧ w'.cell? (ad.add (m * 2)) = some (.string a.f0) ∧ w'.cell? ⟨(ad.add (m * 2)).block, (ad.add (m * 2)).off + 1, none⟩ = some (.string a.f1)) (ds := [9]) #[false, false, false, false, false, false, false, false, false, false, false] (by kernel_rfl) rfl rfl ⟨N9, lU, jg, lf⟩ (fun hHeld => ?_); refine bK zp.tab4 zp.bits4 (fun ab bq => ?_)
 refine pu 0 ab.out ?_
 refine tk 1 ab.out bq.out hHeld ?_ (hv := by intro w' aY; obtain ⟨s0, s1, s2, s3⟩ := aY; go_simp; with_reducible rfl)
 refine pu 2 ab.out ?_
 refine pu 3 ab.out ?_
 refine pu 4 ab.out ?_
 refine tk 5 ab.out bq.out hHeld ?_ (hv := by intro w' aY; obtain ⟨s0, s1, s2, s3⟩ := aY; go_simp; with_reducible rfl)
 refine pu 6 ab.out ?_
 refine pu 7 ab.out ?_
 refine tk 8 ab.out bq.out hHeld ?_ (hv := by intro w' aY; obtain ⟨s0, s1, s2, s3⟩ := aY; go_simp; with_reducible rfl)
 refine ra (i := 9) (N := none) #[true, true, true, true, true, true, true, true, true, true, false] rfl rfl (mT ab.out (by kernel_rfl)) (by decide) (fun K hK => ?_)
 refine bz (by rfl) rfl 85 (.tmp 4) (.tmp 37) rfl gZ [.string a.f0, .string a.f1] rfl rfl 85 _ bu.out 2 (by kernel_rfl) rfl rfl (ia a) ?_
 intro V3 aa J; have bD := gb bf bO J; have bj := gx a9 bu J; have bT := ak (aa); clear aa J bf a9 bu
 refine hK.out _ _ ?_
 clear hK K
 refine pu 10 ab.out ?_
 refine dn ab.out ?_
 try go_wp2
 exact bodyPost_ret (e8 rfl _ _ gZ 85 _ (0, 0) _ rfl bT.out Try.underlying85 rfl (by kernel_rfl)) rfl ⟨rfl, bD.out⟩
end Go.Proofs.Ytemhalnhbgkbcaa.V
end

section
namespace Go.Proofs.Ytemhalnhbgkbcaa.V
theorem tn (b : Bk) (hg : RG b) (x : Int) (h0 : 0 ≤ x) (h1 : x < 4294967296) (v : Value) (w : World) (h : gi w v b) :
  Calls Try.prog 56 #[v, .int .u32 x] w fun e w' => e = .returned (.tuple #[.agg #[.string (jd b x).f0, .string (jd b x).f1], .bool (fy b x)]) ∧ Below w.heap.size w w' := by
 have hpl := fun v w h => uw b hg.ok x h0 h1 v w h
 by_cases hf : bN x = b.addr
 ·have hr : 0 ≤ x - b.addr ∧ x - b.addr < 64 := by unfold bN at hf; omega
  obtain ⟨j, hj⟩ : ∃ j : Nat, x - b.addr = (j : Int) := ⟨(x - b.addr).toNat, by omega⟩
  have m7 : j < 64 := by omega
  rw [decide_eq_true hf, if_pos hf, hj] at hpl
  have hjl : j < b.slots.length := by rw [hg.l64]; exact m7
  have hs := hg.s0 (b.slots.getD j 0) (by rw [getD_eq hjl]; exact List.getElem_mem hjl)
  by_cases hz : b.slots.getD j 0 = 0
  ·have e1 : fy b x = false := by unfold fy; rw [hj, Int.toNat_natCast, hz]; simp
   have e2 : jd b x = ⟨⟨#[]⟩, ⟨#[]⟩⟩ := by unfold jd; rw [e1]; rfl
   rw [e1, e2]
   exact K9 b hg.ok x j m7 hpl hg.right hz v w h
  ·obtain ⟨m, hm⟩ : ∃ m : Nat, b.slots.getD j 0 = (m : Int) + 1 := ⟨(b.slots.getD j 0 - 1).toNat, by omega⟩
   have e1 : fy b x = true := by unfold fy; rw [hj, Int.toNat_natCast, hm, hf]; simp; omega
   have e2 : jd b x = cU b.attrs (m : Int) := by
    unfold jd j4 gH
    rw [if_pos e1, hj, Int.toNat_natCast, hm, show ((m : Int) + 1 - 1).toNat = m by omega]
   rw [e1, e2]
   exact of_held b hg.ok x j m m7 hpl hg.right hm (by omega) hg.na _ rfl v w h
 ·have e1 : fy b x = false := by unfold fy; rw [decide_eq_false hf]; rfl
  have e2 : jd b x = ⟨⟨#[]⟩, ⟨#[]⟩⟩ := by unfold jd; rw [e1]; rfl
  rw [e1, e2]
  rw [decide_eq_false hf] at hpl
  exact MF b hg.ok x _ hpl v w h
end Go.Proofs.Ytemhalnhbgkbcaa.V
end

section
namespace Go.Proofs.Ytemhalnhbgkbcaa.V
attribute [local go_sem high] z8
def uS.T11 : Bool × List (List Nat × List Nat) := (true, [([], []), ([], []), ([1], [1]), ([], []), ([3], [3]), ([0, 2, 4, 4], [0, 2, 4]), ([5], [5]), ([6], [6]), ([6], [6]), ([6], [6]), ([], []), ([10, 7, 5, 0, 1, 2, 3, 4, 5, 6, 7, 10], [7, 10]), ([8, 11, 0, 1, 2, 3, 4, 5, 6, 7, 8, 10, 11], [8]), ([9, 12, 0, 1, 2, 3, 4, 5, 6, 7, 8, 9, 10, 11, 12], [9])])
def uS.B11 : List Nat := [0, 0, 2, 0, 8, 31, 63, 127, 127, 127, 0, 1279, 3583, 8191]
theorem uS.tab11 : dP .any (opsOf Try.f12 11) = uS.T11 := by kernel_rfl
theorem uS.bits11 : dr uS.T11.2 uS.B11 = true := by kernel_rfl
def uR.T20 : Bool × List (List Nat × List Nat) := (true, [([], []), ([0], [0]), ([1], [1]), ([2, 1], [1, 2]), ([1, 3], [1, 3]), ([4, 1], [4]), ([5], [5]), ([5], [5]), ([7, 5, 5], [5, 7]), ([6, 8, 5], [5, 6, 8]), ([5, 9], [5, 9])])
def uR.B20 : List Nat := [0, 1, 3, 7, 15, 31, 63, 63, 191, 511, 1023]
theorem uR.tab20 : dP .any (opsOf Try.f12 20) = uR.T20 := by kernel_rfl
theorem uR.bits20 : dr uR.T20.2 uR.B20 = true := by kernel_rfl
def uQ.T23 : Bool × List (List Nat × List Nat) := (true, [([], []), ([0], [0]), ([], []), ([2, 1], [2]), ([1, 3, 3], [1, 3]), ([4], [4])])
def uQ.B23 : List Nat := [0, 1, 0, 7, 15, 31]
theorem uQ.tab23 : dP .any (opsOf Try.f12 23) = uQ.T23 := by kernel_rfl
theorem uQ.bits23 : dr uQ.T23.2 uQ.B23 = true := by kernel_rfl
theorem Cv {b : Bk} (hg : RG b) (m : Nat) : ∀ x ∈ dK b m, 0 ≤ x ∧ x < 4294967296 := by
 intro x hx
 obtain ⟨f, hf, rfl⟩ := List.mem_map.1 hx
 have h1 := hg.f0 f (List.mem_of_mem_take hf)
 have h2 := hg.first
 have h3 := hg.a0
 have h4 := hg.a1
 unfold bN at h2
 omega
set_option maxHeartbeats 16000000 in
set_option maxRecDepth 100000 in
theorem z2 (a0 : Int) (h0 : 0 ≤ a0) (h1 : a0 < 4294967296) (vl : Value) (l : List St) (n : Int) (lK : 0 ≤ n) (pC : n < 256) (a : kD) (e9 : a.f0.size ≤ 9223372036854775807) (fB : a.f1.size ≤ 9223372036854775807) (w : World) (hst : StepsIs w vl l) :
  Calls Try.prog 12 #[.int .u32 a0, vl, .int .u8 n, .agg #[.string a.f0, .string a.f1]] w fun e w' => e = .returned (.bool true) ∧ Below w.heap.size w w' := by
 obtain ⟨aff, haff⟩ : ∃ aff : ByteArray, aff = ⟨#[]⟩ := ⟨_, rfl⟩
 have hon : fY aff = true := by rw [haff]; kernel_rfl
 obtain ⟨hlm, hok, A, c, rfl, hlc, hat⟩ := hst
 obtain ⟨b, hb⟩ : ∃ b, b = tp a0 aff := ⟨_, rfl⟩
 have hg : RG b := by rw [hb]; exact RG.new a0 h0 h1 aff hon
 have pC := fun w => Dk a0 h0 h1 aff w
 rw [hon] at pC
 simp only [if_true] at pC
 have Dn := fun w => GI a0 h0 h1 aff w
 rw [← hb] at pC Dn
 obtain ⟨M, hM⟩ : ∃ M, M = b.attrs.map vc := ⟨_, rfl⟩
 have HL := ak hg.l64
 have HM := ak hM
 have HG := ak hg
 have CB := ak pC
 have xK := ak Dn
 have HLB := fun Af cf Aa ca => ak (b9 (aX b.addr b.aff b.slots (.slice Af b.free.length cf) (.slice Aa b.attrs.length ca)) (ag _ _ _ _ _ HL.out))
 have ae := ak (Below.refl w.heap.size w)
 have HLM := ak hlm
 have HLC := ak hlc
 have HAT := ak hat
 have HOK := ak hok
 rw [haff] at CB xK
 clear hlm hlc hat hok hb hg pC Dn hM h0 h1 hon haff
 go_enter Try.func12, Try.ntmps12
 go_wp2_with (first
  | (refine aE rfl 76 (.tmp 3) rfl _ rfl ?_; intro gA W1 J aa I; have kj := ge ae J; have aj := ak (ae.out.trans (I.mono ae.out.size)); have e7 := ak (aa); clear J aa I ae)
  | (go_at_call 41; refine (CB.out _).mono ?_; rintro e W2 ⟨v_, rfl, aU, I⟩; obtain ⟨gR, nE, nF, rfl, cV, dA⟩ := aU; obtain ⟨Af, cf, rfl⟩ := Kd.R_slice cV; obtain ⟨Aa, ca, rfl⟩ := Kd.R_slice dA; have aw := mv I aj; have bU := mv I e7; have bM := ak (Kd.R_lower cV aj.out.size); have dh := ak (Kd.R_lower dA aj.out.size); clear gR cV dA I aj e7)
  | (refine ax (some 9) rfl rfl 57 rfl a7 bJ ?_; intro gX W3 J aa I; have bS := ge aw J; have Qn := ne bU J; have aD := mv I aw; have cR := mv I bU; have cg := mv I bM; have dL := mv I dh; have aA := ak (aa); clear J aa I aw bU bM dh)
  | (refine aN rfl 57 (.tmp 9) (.tmp 35) rfl gX (aX b.addr b.aff b.slots (.slice Af b.free.length cf) (.slice Aa b.attrs.length ca)) rfl rfl 57 _ aA.out 68 (by kernel_rfl) (ag _ _ _ _ _ HL.out) rfl (bZ _ _ _ _ _ rfl rfl) ?_; intro W4 aa J; have aW := gb aD bS J; have dd := gx cR aA J; have cd := gr cg aA J; have dB := gr dL aA J; have aV := ak (aa); clear aa J aD cR cg dL aA)
  | (go_at_call 45; refine (xK.out _).mono ?_; rintro e W5 ⟨v9, rfl, fF, I⟩; obtain ⟨uk, qN, qO, rfl, gg, fm, ez⟩ := fF; obtain ⟨As, cs, rfl⟩ := Kd.R_slice gg; obtain ⟨Ap, cp, rfl⟩ := Kd.R_slice fm; rw [← HM.out] at ez; obtain ⟨Am, cm, rfl⟩ := Kd.R_slice ez; have bf := mv I aW; have eg := mv I dd; have b8 := mv I cd; have cW := mv I dB; have a9 := mv I aV; have cY := ak (Kd.R_lower gg aW.out.size); have er := ak (Kd.R_lower fm aW.out.size); have cQ := ak (Kd.R_lower ez aW.out.size); clear gg fm ez I aW dd cd dB aV)
  | (refine ax (some 11) rfl rfl 62 rfl dM (fun _ => by kernel_rfl) ?_; intro gY W6 J aa I; have iZ := ge bf J; have Qm := ne eg J; have fD := ne a9 J; have bD := mv I bf; have e6 := mv I eg; have cI := mv I b8; have dx := mv I cW; have bj := mv I a9; have dm := mv I cY; have ew := mv I er; have dU := mv I cQ; have cN := ak (aa); clear J aa I bf eg b8 cW a9 cY er cQ)
  | (refine aN rfl 62 (.tmp 11) (.tmp 38) rfl gY (dt b.addr b.aff (.slice As b.slots.length cs) (.slice Ap b.free.length cp) (.slice Am M.length cm)) rfl rfl 62 _ cN.out 5 (by kernel_rfl) rfl rfl (dO _ _ rfl rfl rfl) ?_; intro W7 aa J; have dR := gb bD iZ J; have iH := gx e6 cN J; have eS := gr cI cN J; have iz := gr dx cN J; have df := gx bj cN J; have fQ := gr dm cN J; have l9 := gr ew cN J; have jJ := gr dU cN J; have iO := ak (aa); clear aa J bD e6 cI dx bj dm ew dU cN))
 go_loopw [12, 13, 41] (fun _ _ i W => ∃ (k : Nat) (b : Bk), k ≤ l.length ∧ i = .int .i64 k ∧ Aside0 (RG b) ∧ Aside0 (OC W w.heap.size gX b) ∧ Aside0 (RX W w.heap.size gY b) ∧ Aside0 (Below w.heap.size w W) ∧ Aside0 (aH W gA [.string a.f0, .string a.f1] 76)) (fun _ _ i _ => l.length - (intOf i).toNat)
 case atStart => exact ⟨0, b, by omega, rfl, HG, ⟨⟨HL.out, _, _, df.out, eS.out, iz.out⟩⟩, ⟨⟨M, _, _, _, HM.out, iO.out, fQ.out, l9.out, jJ.out⟩⟩, dR, iH⟩
 case round =>
  clear dR iH eS iz df fQ l9 jJ iO HL HM HG CB xK HLB
  obtain ⟨k, b, hk, rfl, HG, HO, HR, ae, eO⟩ := hrel
  obtain ⟨W, rfl⟩ : ∃ W : World, W = wr := ⟨_, rfl⟩
  obtain ⟨Af, cf, Aa, ca, hx, hf, ha⟩ := HO.out.open
  have MR := HO.out.l64
  obtain ⟨M, As, cs, Ap, cp, Am, cm, hm, hy, hs, hp, hmm⟩ := HR.out.open
  have HL := ak MR
  have HM := ak hm
  have aI := ak hx
  have bl := ak hf
  have dg := ak ha
  have ik := ak hy
  have aZ := ak hs
  have ed := ak hp
  have bL := ak hmm
  clear HO HR MR hm hx hf ha hy hs hp hmm
  by_cases hkl : k < l.length
  ·skip
   obtain ⟨s, hs⟩ : ∃ s, s = l.getD k Ib := ⟨_, rfl⟩
   have hsm : s ∈ l := by rw [hs, show l.getD k Ib = l[k] by simp [List.getD, hkl]]; exact List.getElem_mem hkl
   have hso := HOK.out s hsm
   have HSO := ak hso
   obtain ⟨ad, hA, hc⟩ := HAT.out k hkl
   subst hA
   rw [← hs] at hc
   have hbw := ae.out
   have kK := (hbw.cell (World.block_lt_of_cell? w _ (hc 0 _ rfl))).trans (hc 0 _ rfl)
   have qx := (hbw.cell (World.block_lt_of_cell? w _ (hc 1 _ rfl))).trans (hc 1 _ rfl)
   have j5 := (hbw.cell (World.block_lt_of_cell? w _ (hc 2 _ rfl))).trans (hc 2 _ rfl)
   have oF := (hbw.cell (World.block_lt_of_cell? w _ (hc 3 _ rfl))).trans (hc 3 _ rfl)
   have nI := (hbw.cell (World.block_lt_of_cell? w _ (hc 4 _ rfl))).trans (hc 4 _ rfl)
   have Hc := (hbw.cell (World.block_lt_of_cell? w _ (hc 5 _ rfl))).trans (hc 5 _ rfl)
   rw [Nat.add_zero] at kK
   rw [l6 _ _ 1 (by omega)] at qx
   rw [l6 _ _ 2 (by omega)] at j5
   rw [l6 _ _ 3 (by omega)] at oF
   rw [l6 _ _ 4 (by omega)] at nI
   rw [l6 _ _ 5 (by omega)] at Hc
   have p0 : decide ((k : Int) < (l.length : Int)) = true := by simp; omega
   have p1 : ((k : Int) < (l.length : Int)) = True := eq_true (by omega)
   have p2 : ((0 : Int) ≤ (k : Int)) = True := eq_true (by omega)
   have p3 : (k < l.length) = True := eq_true hkl
   have HKL := ak hkl
   clear hs hsm hso hc hbw hkl
   have HLB := ak (b9 (aX b.addr b.aff b.slots (.slice Af b.free.length cf) (.slice Aa b.attrs.length ca)) (ag _ _ _ _ _ HL.out))
   by_cases Vs : k < 12
   ·have u0 : decide ((k : Int) < 12) = true := by simp; omega
    have u1 : ((k : Int) < 12) = True := eq_true (by omega)
    go_wp2_with (first
     | (refine ax (some 13) rfl rfl 79 rfl [.int .i64 0, .int .i64 0, .string ⟨#[]⟩, .string ⟨#[]⟩, .slice none 0 0, .string ⟨#[]⟩] (fun _ => by kernel_rfl) ?_; intro gT W1 J aa I; have ki := ge ae J; have gW := ne aI J; have ix := ne ik J; have H2 := ne eO J; have aj := ak (ae.out.trans (I.mono ae.out.size)); have bg := mv I bl; have cH := mv I dg; have bd := mv I aZ; have dc := mv I ed; have bG := mv I bL; have ah := mv I aI; have iP := mv I ik; have e7 := mv I eO; have g5 := ak (aa); clear J aa I ae bl dg aZ ed bL aI ik eO kK qx j5 oF nI Hc)
     | (refine aN rfl 79 (.tmp 13) (.tmp 45) rfl gT [.int .i64 s.kd, .int .i64 s.n, .string s.a.f0, .string s.a.f1, .slice s.A s.l.length s.c, .string s.aff] rfl rfl 79 _ g5.out 6 (by kernel_rfl) rfl rfl (fun u_ kJ => by simp only [List.mem_cons, List.not_mem_nil, or_false] at kJ; rcases kJ with rfl | rfl | rfl | rfl | rfl | rfl <;> rfl) ?_; intro W2 aa J; have aw := gb aj ki J; have bM := gr bg g5 J; have dh := gr cH g5 J; have bF := gr bd g5 J; have dp := gr dc g5 J; have cw := gr bG g5 J; have au := gx ah g5 J; have cr := gx iP g5 J; have bU := gx e7 g5 J; have sC := ak (aa); clear aa J aj bg cH bd dc bG ah iP e7 g5)
     | ((with_reducible refine av (N := 49) rfl ?_); refine ay rfl 57 (.tmp 9) rfl gX rfl _ _ _ au.out Try.underlying57 rfl 68 (by kernel_rfl) (ag _ _ _ _ _ HL.out) ?_)
     | ((with_reducible refine av (N := 50) rfl ?_); refine ay rfl 62 (.tmp 11) rfl gY rfl _ _ _ cr.out Try.underlying62 rfl 5 (by kernel_rfl) rfl ?_)
     | ((with_reducible refine av (N := 51) rfl ?_); refine ay rfl 79 (.tmp 13) rfl gT rfl _ _ _ sC.out Try.underlying79 rfl 6 (by kernel_rfl) rfl ?_)
     | (go_at_call 47; refine (Nl b HG.out s.kd s.n HSO.out.n s.a HSO.out.z0 HSO.out.z1 s.l HSO.out.u HSO.out.lm s.A s.c HSO.out.lc s.aff HSO.out.za _ _ _ w.heap.size aw.out.size ⟨HL.out, _, _, rfl, bM.out, dh.out⟩ ⟨_, _, _, rfl, bF.out, dp.out, by rw [← HM.out]; exact cw.out⟩ (Kd.C_below HSO.out.r aw.out)).mono ?_; rintro e W3 ⟨v_, v9, nb, rfl, hrg, aU, fF, I⟩; have HRG := ak hrg; have HNL := ak hrg.l64; obtain ⟨gR, nE, nF, rfl, cV, dA⟩ := aU; obtain ⟨A8, c8, rfl⟩ := Kd.R_slice cV; obtain ⟨A9, c9, rfl⟩ := Kd.R_slice dA; obtain ⟨uk, qN, qO, rfl, gg, fm, ez⟩ := fF; obtain ⟨A1, c1, rfl⟩ := Kd.R_slice gg; obtain ⟨A2, c2, rfl⟩ := Kd.R_slice fm; obtain ⟨NM, hNM⟩ : ∃ NM, NM = nb.attrs.map vc := ⟨_, rfl⟩; rw [← hNM] at ez; have HNM := ak hNM; obtain ⟨A3, c3, rfl⟩ := Kd.R_slice ez; have aD := mv I aw; have cg := mv I bM; have dL := mv I dh; have b6 := mv I bF; have ec := mv I dp; have dq := mv I cw; have aA := mv I au; have cE := mv I cr; have cR := mv I bU; have dQ := mv I sC; have wG := ak (cV); have oJ := ak (dA); have mM := ak (gg); have sE := ak (fm); have NS := ak (ez); clear hrg gR cV dA hNM gg fm ez I aw bM dh bF dp cw au cr bU sC)
     | (refine aN rfl 57 (.tmp 9) (.tmp 53) rfl gX (aX nb.addr nb.aff nb.slots (.slice A8 nb.free.length c8) (.slice A9 nb.attrs.length c9)) rfl rfl 57 _ aA.out 68 (by kernel_rfl) (ag _ _ _ _ _ HNL.out) (ag _ _ _ _ _ HL.out) (bZ _ _ _ _ _ rfl rfl) ?_; intro W4 aa J; have aW := gb aD bS J; have cd := gr cg aA J; have dB := gr dL aA J; have cP := gr b6 aA J; have ey := gr ec aA J; have dw := gr dq aA J; have aV := ak (aa); have b5 := gx cE aA J; have dd := gx cR aA J; have dT := gx dQ aA J; have CG := gr wG aA J; have CF := gr oJ aA J; have n7 := gr mM aA J; have vn := gr sE aA J; have NR := gr NS aA J; clear aa J aD cg dL b6 ec dq aA cE cR dQ wG oJ mM sE NS)
     | (refine aN rfl 62 (.tmp 11) (.tmp 54) rfl gY (dt nb.addr nb.aff (.slice A1 nb.slots.length c1) (.slice A2 nb.free.length c2) (.slice A3 NM.length c3)) rfl rfl 62 _ b5.out 5 (by kernel_rfl) rfl rfl (dO _ _ rfl rfl rfl) ?_; intro W5 aa J; have bf := gb aW iZ J; have b8 := gr cd b5 J; have cW := gr dB b5 J; have cY := gr cP b5 J; have er := gr ey b5 J; have cQ := gr dw b5 J; have a9 := gx aV b5 J; have du := ak (aa); have eg := gx dd b5 J; have bw := gx dT b5 J; have EL := gr CG b5 J; have EJ := gr CF b5 J; have il := gr n7 b5 J; have wE := gr vn b5 J; have QC := gr NR b5 J; clear aa J aW cd dB cP ey dw aV b5 dd dT CG CF n7 vn NR))
    go_roundw
    case rel => exact ⟨k + 1, nb, by have := HKL.out; omega, by (first | rfl | (simp only [intOf]; congr 1; omega) | skip), HRG, ⟨⟨HNL.out, _, _, a9.out, EL.out, EJ.out⟩⟩, ⟨⟨NM, _, _, _, HNM.out, du.out, il.out, wE.out, QC.out⟩⟩, bf, eg⟩
    case measure => have := HKL.out; simp [intOf]; omega
   ·have u0 : decide ((k : Int) < 12) = false := by simp; omega
    have u1 : ((k : Int) < 12) = False := eq_false (by omega)
    have hwr := ak (show wrap64 ((k : Int) + 1) = ((k + 1 : Nat) : Int) by have := HKL.out; have := HLM.out; rw [g8 _ (by omega) (by omega)]; omega)
    go_wp2_with (first
     | (refine ax (some 13) rfl rfl 79 rfl [.int .i64 0, .int .i64 0, .string ⟨#[]⟩, .string ⟨#[]⟩, .slice none 0 0, .string ⟨#[]⟩] (fun _ => by kernel_rfl) ?_; intro gT W1 J aa I; have ki := ge ae J; have gW := ne aI J; have ix := ne ik J; have H2 := ne eO J; have aj := ak (ae.out.trans (I.mono ae.out.size)); have bg := mv I bl; have cH := mv I dg; have bd := mv I aZ; have dc := mv I ed; have bG := mv I bL; have ah := mv I aI; have iP := mv I ik; have e7 := mv I eO; have g5 := ak (aa); clear J aa I ae bl dg aZ ed bL aI ik eO kK qx j5 oF nI Hc)
     | (refine aN rfl 79 (.tmp 13) (.tmp 45) rfl gT [.int .i64 s.kd, .int .i64 s.n, .string s.a.f0, .string s.a.f1, .slice s.A s.l.length s.c, .string s.aff] rfl rfl 79 _ g5.out 6 (by kernel_rfl) rfl rfl (fun u_ kJ => by simp only [List.mem_cons, List.not_mem_nil, or_false] at kJ; rcases kJ with rfl | rfl | rfl | rfl | rfl | rfl <;> rfl) ?_; intro W2 aa J; have aw := gb aj ki J; have bM := gr bg g5 J; have dh := gr cH g5 J; have bF := gr bd g5 J; have dp := gr dc g5 J; have cw := gr bG g5 J; have au := gx ah g5 J; have cr := gx iP g5 J; have bU := gx e7 g5 J; have sC := ak (aa); clear aa J aj bg cH bd dc bG ah iP e7 g5))
    go_roundw
    case rel => exact ⟨k + 1, b, by have := HKL.out; omega, by rw [hwr.out], HG, ⟨⟨HL.out, _, _, au.out, bM.out, dh.out⟩⟩, ⟨⟨M, _, _, _, HM.out, cr.out, bF.out, dp.out, cw.out⟩⟩, aw, bU⟩
    case measure => have h_ := HKL.out; rw [hwr.out]; simp [intOf]; omega
  ·have p0 : decide ((k : Int) < (l.length : Int)) = false := by simp; omega
   have p1 : ((k : Int) < (l.length : Int)) = False := eq_false (by omega)
   have p3 : (k < l.length) = False := eq_false hkl
   clear hkl
   have hmay := fun w => pc a e9 fB w
   cases hma : eP (cv a) with
   | false =>
    rw [hma] at hmay
    have HMY := ak hmay
    clear hmay hma
    go_wp2_with (first
     | ((with_reducible refine av (N := 57) rfl ?_); refine ay rfl 76 (.tmp 7) rfl gA rfl _ _ _ eO.out Try.underlying76 rfl 2 (by kernel_rfl) rfl ?_)
     | (go_at_call 60; refine (HMY.out _).mono ?_; rintro e W1 ⟨rfl, I⟩; have aj := ak (ae.out.trans (I.mono ae.out.size)); have bg := mv I bl; have cH := mv I dg; have bd := mv I aZ; have dc := mv I ed; have bG := mv I bL; have ah := mv I aI; have iP := mv I ik; have e7 := mv I eO; clear I ae bl dg aZ ed bL aI ik eO)
     | (go_at_call 44; refine (vZ _).mono ?_; rintro e W2 ⟨rfl, I⟩; have aw := mv I aj; have bM := mv I bg; have dh := mv I cH; have bF := mv I bd; have dp := mv I dc; have cw := mv I bG; have au := mv I ah; have cr := mv I iP; have bU := mv I e7; clear I aj bg cH bd dc bG ah iP e7))
    go_ret
    exact ⟨rfl, aw.out⟩
   | true =>
    rw [hma] at hmay
    have HMY := ak hmay
    have hg := HG.out
    obtain ⟨m, hm⟩ : ∃ m : Nat, m = min n.toNat b.free.length := ⟨_, rfl⟩
    have hmf : m ≤ b.free.length := by rw [hm]; exact Nat.min_le_right _ _
    have hna := hg.asg (cv a) hma m hmf
    have has := fun v w h => nL b hg.ok n (by omega) (cv a) v w h
    rw [show kF b n (cv a) = true by unfold kF; rw [hg.right, hma, decide_eq_true lK]; rfl] at has
    simp only [if_true] at has
    rw [← hm] at has
    have hbo := Ht hg m hmf (cv a)
    have hbb := L0 hg m hmf (cv a)
    have hgl := FP hg m hmf (cv a)
    have hgb := fun v w h => zD b hg.ok v w h
    rw [hg.right] at hgb
    simp only [if_true] at hgb
    have hur := lN hg.ok hg.first (fun _ => true)
    have hulen := gP b (fun _ => true) 64
    obtain ⟨nb, hnb⟩ : ∃ nb, nb = di b m (cv a) := ⟨_, rfl⟩
    obtain ⟨oo, hoo⟩ : ∃ oo, oo = dK b m := ⟨_, rfl⟩
    have hol : oo.length = m := by rw [hoo]; exact gq b m hmf
    have hor : ∀ x ∈ oo, 0 ≤ x ∧ x < 4294967296 := by rw [hoo]; exact Cv hg m
    rw [← hnb] at hna has hbo hbb hgl
    rw [← hoo] at has hbo hbb hgl
    rw [← g8 n (by omega) (by omega)] at has
    have hsum := hg.sum
    have hrl := fun A c v w h hC => vP nb hna.ok oo hor (by omega) A c v w h hC
    rw [hna.right] at hrl
    simp only [if_true] at hrl
    rw [hbo] at hrl
    obtain ⟨db, hdb⟩ : ∃ db, db = kz nb oo := ⟨_, rfl⟩
    have hdg : RG db := by rw [hdb]; exact hna.rel oo
    rw [← hdb] at hrl hbb
    have hgd := fun v w h => zD db hdg.ok v w h
    rw [hdg.right] at hgd
    simp only [if_true] at hgd
    have hud : dH db (fun _ => true) 64 = dH b (fun _ => true) 64 := by rw [hbb]; rfl
    have hofd : ∀ x, jd db x = jd b x ∧ fy db x = fy b x := fun x => by rw [hbb]; exact ⟨rfl, rfl⟩
    rw [hud] at hgd
    obtain ⟨ul, hul⟩ : ∃ ul, ul = dH b (fun _ => true) 64 := ⟨_, rfl⟩
    rw [← hul] at hgd hgb hur hulen
    have HAS := ak has
    have HRL := ak hrl
    have HNG := ak hna
    have HNL := ak hna.l64
    have HDG := ak hdg
    have HDL := ak hdg.l64
    have HGL := ak hgl
    have HGB := ak hgb
    have HGD := ak hgd
    have HUR := ak hur
    have HULN := ak (show ul.length ≤ 1000 by omega)
    have HOFD := ak hofd
    have HOL := ak (show oo.length = m ∧ oo.length ≤ 1000 by omega)
    have HOR := ak hor
    have HMA := ak hma
    have HLB := ak (b9 (aX b.addr b.aff b.slots (.slice Af b.free.length cf) (.slice Aa b.attrs.length ca)) (ag _ _ _ _ _ HL.out))
    have HLN := fun A8 c8 A9 c9 => b9 (aX nb.addr nb.aff nb.slots (.slice A8 nb.free.length c8) (.slice A9 nb.attrs.length c9)) (ag _ _ _ _ _ HNL.out)
    have HLD := fun A6 c6 A7 c7 => b9 (aX db.addr db.aff db.slots (.slice A6 db.free.length c6) (.slice A7 db.attrs.length c7)) (ag _ _ _ _ _ HDL.out)
    clear hmay hma hg hm hmf hna has hbo hbb hgl hgb hur hulen hnb hoo hol hor hsum hrl hdb hdg hgd hud hofd hul
    go_wp2_with (first
     | ((with_reducible refine av (N := 57) rfl ?_); refine ay rfl 76 (.tmp 7) rfl gA rfl _ _ _ eO.out Try.underlying76 rfl 2 (by kernel_rfl) rfl ?_)
     | (go_at_call 60; refine (HMY.out _).mono ?_; rintro e W1 ⟨rfl, I⟩; have aj := ak (ae.out.trans (I.mono ae.out.size)); have bg := mv I bl; have cH := mv I dg; have bd := mv I aZ; have dc := mv I ed; have bG := mv I bL; have ah := mv I aI; have iP := mv I ik; have e7 := mv I eO; clear I ae bl dg aZ ed bL aI ik eO))
    have ai : Below W1.heap.size W1 W1.drew := bp (Below.refl _ _)
    have aw := mv ai aj; have bM := mv ai bg; have dh := mv ai cH; have bF := mv ai bd; have dp := mv ai dc; have cw := mv ai bG; have au := mv ai ah; have cr := mv ai iP; have bU := mv ai e7
    clear ai aj bg cH bd dc bG ah iP e7
    have hB := aw
    have hF := bM
    have hG := dh
    have hS := bF
    have hP := dp
    have hM := cw
    have hX := au
    have hY := cr
    have hA := bU
    clear aw bM dh bF dp cw au cr bU
    refine da (n := 14) (S := fun w' => aH w' gX (aX b.addr b.aff b.slots (.slice Af b.free.length cf) (.slice Aa b.attrs.length ca)) 57 ∧ aH w' gA [.string a.f0, .string a.f1] 76) (ds := []) #[false, false, false, false, false, false, false, false, false, false, false, false, false, false] (by kernel_rfl) rfl rfl ⟨hX.out, hA.out⟩ (fun hHeld => ?_); refine bK uS.tab11 uS.bits11 (fun ab bq => ?_)
    refine tk 0 ab.out bq.out hHeld ?_ (hv := by exact fun _ aY => aJ 57 (.tmp 9) rfl gX rfl _ _ _ aY.1 Try.underlying57 rfl HLB.out)
    refine pu 1 ab.out ?_
    refine pu 2 ab.out ?_
    refine tk 3 ab.out bq.out hHeld ?_ (hv := by exact fun _ aY => aJ 76 (.tmp 7) rfl gA rfl _ _ _ aY.2 Try.underlying76 rfl (by kernel_rfl))
    refine oS (σ := Nat × Value × Value) 3 #[true, true, true, true, true, true, true, true, true, true, true, false, false, false] (fun s => [(66, et (cv a)), (67, .tuple #[s.2.1, s.2.2, .int .i64 0]), (61, .tuple #[s.2.1, s.2.2, .int .i64 0]), (68, s.2.1), (69, s.2.2), (70, .int .i64 0), (14, .pointer (some ⟨s.1, 0, none⟩))]) (fun s w' => Aside0 (Below w.heap.size w w') ∧ Aside0 (Kd.R (Kd.int .u8) 5 w' w.heap.size (fun _ => True) (.slice Af b.free.length cf) b.free) ∧ Aside0 (Kd.R iR 85 w' w.heap.size (fun _ => True) (.slice Aa b.attrs.length ca) b.attrs) ∧ Aside0 (Kd.R (Kd.int .i64) 3 w' w.heap.size (fun _ => True) (.slice As b.slots.length cs) b.slots) ∧ Aside0 (Kd.R (Kd.int .i64) 3 w' w.heap.size (fun _ => True) (.slice Ap b.free.length cp) b.free) ∧ Aside0 (Kd.R hH 76 w' w.heap.size (fun _ => True) (.slice Am M.length cm) M) ∧ Aside0 (aH w' gX (aX b.addr b.aff b.slots (.slice Af b.free.length cf) (.slice Aa b.attrs.length ca)) 57) ∧ Aside0 (aH w' gY (dt b.addr b.aff (.slice As b.slots.length cs) (.slice Ap b.free.length cp) (.slice Am M.length cm)) 62) ∧ Aside0 (aH w' gA [.string a.f0, .string a.f1] 76) ∧ Aside0 (aH w' s.1 a7 57) ∧ Aside0 (w.heap.size ≤ s.1) ∧ Aside0 (gX ≠ s.1) ∧ Aside0 (ee w' w.heap.size s.2.1 nb) ∧ Aside0 (Kd.R (Kd.int .u32) 46 w' w.heap.size (fun _ => True) s.2.2 oo)) ?_ ?_
    rotate_left
    ·intro dZ
     refine tw 4 10 ab.out (fun K hK => ?_) (fun K hK => ?_)
     ·skip
      refine gs Try.func50 #[.agg #[.string a.f0, .string a.f1]] (jh a _) ?_
      rintro e V4 ⟨rfl, I⟩
      refine ⟨_, rfl, ?_⟩
      (try replace fT := mv I fT); (try replace cB := mv I cB); (try replace hV := mv I hV); replace hB := mv I hB; replace hF := mv I hF; replace hG := mv I hG; replace hS := mv I hS; replace hP := mv I hP; replace hM := mv I hM; replace hX := mv I hX; replace hY := mv I hY; replace hA := mv I hA; clear  I
      refine kn hK ⟨hX.out, hA.out⟩ (fun hHeld => ?_)
      clear hK K
      refine tw 5 10 ab.out (fun K hK => ?_) (fun K hK => ?_)
      ·skip
       refine gs Try.func49 #[.agg (aX b.addr b.aff b.slots (.slice Af b.free.length cf) (.slice Aa b.attrs.length ca)).toArray, .int .i64 (wrap64 n), et (cv a)] (HAS.out _ _ ⟨_, _, _, _, rfl, ⟨HL.out, (rr hF).1, (rr hF).2, (rr hG).1, (rr hG).2⟩⟩) ?_
       rintro e V5 ⟨v_, jT, rfl, aU, eC, I⟩
       refine ⟨_, rfl, ?_⟩
       have fT := ak (aU.lower hB.out.size); have cB := ak (Kd.R_lower eC hB.out.size); (try replace hV := mv I hV); replace hB := mv I hB; replace hF := mv I hF; replace hG := mv I hG; replace hS := mv I hS; replace hP := mv I hP; replace hM := mv I hM; replace hX := mv I hX; replace hY := mv I hY; replace hA := mv I hA; clear aU eC I
       refine kn hK ⟨hX.out, hA.out⟩ (fun hHeld => ?_)
       clear hK K
       refine pu 6 ab.out ?_
       refine pu 7 ab.out ?_
       refine pu 8 ab.out ?_
       refine pu 9 ab.out ?_
       refine on 10 ab.out (fun K hK => ?_)
       refine dz (by rfl) 57 rfl a7 bJ ?_
       intro gV ub J aa I
       have cG := ge hB J
       have ep := ne hX J
       (try replace fT := mv I fT)
       (try replace cB := mv I cB)
       replace hB := mv I hB
       replace hF := mv I hF
       replace hG := mv I hG
       replace hS := mv I hS
       replace hP := mv I hP
       replace hM := mv I hM
       replace hX := mv I hX
       replace hY := mv I hY
       replace hA := mv I hA
       have hV := ak aa
       clear J aa I
       refine kn hK ⟨hX.out, hA.out⟩ (fun hHeld => ?_)
       clear hK K
       exact nc (dZ ⟨gV, v_, jT⟩ _ ⟨hB, hF, hG, hS, hP, hM, hX, hY, hA, hV, cG, ep, fT, cB⟩)
      ·skip
       refine dz (by rfl) 57 rfl a7 bJ ?_
       intro gV ub J aa I
       have cG := ge hB J
       have ep := ne hX J
       (try replace fT := mv I fT)
       (try replace cB := mv I cB)
       replace hB := mv I hB
       replace hF := mv I hF
       replace hG := mv I hG
       replace hS := mv I hS
       replace hP := mv I hP
       replace hM := mv I hM
       replace hX := mv I hX
       replace hY := mv I hY
       replace hA := mv I hA
       have hV := ak aa
       clear J aa I
       refine kn hK ⟨hX.out, hA.out⟩ (fun hHeld => ?_)
       clear hK K
       refine on 5 ab.out (fun K hK => ?_)
       refine gs Try.func49 #[.agg (aX b.addr b.aff b.slots (.slice Af b.free.length cf) (.slice Aa b.attrs.length ca)).toArray, .int .i64 (wrap64 n), et (cv a)] (HAS.out _ _ ⟨_, _, _, _, rfl, ⟨HL.out, (rr hF).1, (rr hF).2, (rr hG).1, (rr hG).2⟩⟩) ?_
       rintro e V5 ⟨v_, jT, rfl, aU, eC, I⟩
       refine ⟨_, rfl, ?_⟩
       have fT := ak (aU.lower hB.out.size); have cB := ak (Kd.R_lower eC hB.out.size); (try replace hV := mv I hV); replace hB := mv I hB; replace hF := mv I hF; replace hG := mv I hG; replace hS := mv I hS; replace hP := mv I hP; replace hM := mv I hM; replace hX := mv I hX; replace hY := mv I hY; replace hA := mv I hA; clear aU eC I
       refine kn hK ⟨hX.out, hA.out⟩ (fun hHeld => ?_)
       clear hK K
       refine pu 6 ab.out ?_
       refine pu 7 ab.out ?_
       refine pu 8 ab.out ?_
       refine pu 9 ab.out ?_
       exact nc (dZ ⟨gV, v_, jT⟩ _ ⟨hB, hF, hG, hS, hP, hM, hX, hY, hA, hV, cG, ep, fT, cB⟩)
     ·skip
      refine dz (by rfl) 57 rfl a7 bJ ?_
      intro gV ub J aa I
      have cG := ge hB J
      have ep := ne hX J
      (try replace fT := mv I fT)
      (try replace cB := mv I cB)
      replace hB := mv I hB
      replace hF := mv I hF
      replace hG := mv I hG
      replace hS := mv I hS
      replace hP := mv I hP
      replace hM := mv I hM
      replace hX := mv I hX
      replace hY := mv I hY
      replace hA := mv I hA
      have hV := ak aa
      clear J aa I
      refine kn hK ⟨hX.out, hA.out⟩ (fun hHeld => ?_)
      clear hK K
      refine on 4 ab.out (fun K hK => ?_)
      refine gs Try.func50 #[.agg #[.string a.f0, .string a.f1]] (jh a _) ?_
      rintro e V4 ⟨rfl, I⟩
      refine ⟨_, rfl, ?_⟩
      (try replace fT := mv I fT); (try replace cB := mv I cB); (try replace hV := mv I hV); replace hB := mv I hB; replace hF := mv I hF; replace hG := mv I hG; replace hS := mv I hS; replace hP := mv I hP; replace hM := mv I hM; replace hX := mv I hX; replace hY := mv I hY; replace hA := mv I hA; clear  I
      refine kn hK ⟨hX.out, hA.out⟩ (fun hHeld => ?_)
      clear hK K
      refine on 5 ab.out (fun K hK => ?_)
      refine gs Try.func49 #[.agg (aX b.addr b.aff b.slots (.slice Af b.free.length cf) (.slice Aa b.attrs.length ca)).toArray, .int .i64 (wrap64 n), et (cv a)] (HAS.out _ _ ⟨_, _, _, _, rfl, ⟨HL.out, (rr hF).1, (rr hF).2, (rr hG).1, (rr hG).2⟩⟩) ?_
      rintro e V5 ⟨v_, jT, rfl, aU, eC, I⟩
      refine ⟨_, rfl, ?_⟩
      have fT := ak (aU.lower hB.out.size); have cB := ak (Kd.R_lower eC hB.out.size); (try replace hV := mv I hV); replace hB := mv I hB; replace hF := mv I hF; replace hG := mv I hG; replace hS := mv I hS; replace hP := mv I hP; replace hM := mv I hM; replace hX := mv I hX; replace hY := mv I hY; replace hA := mv I hA; clear aU eC I
      refine kn hK ⟨hX.out, hA.out⟩ (fun hHeld => ?_)
      clear hK K
      refine pu 6 ab.out ?_
      refine pu 7 ab.out ?_
      refine pu 8 ab.out ?_
      refine pu 9 ab.out ?_
      exact nc (dZ ⟨gV, v_, jT⟩ _ ⟨hB, hF, hG, hS, hP, hM, hX, hY, hA, hV, cG, ep, fT, cB⟩)
    intro s w' hFF; obtain ⟨gV, v_, jT⟩ := s; simp only at hFF; obtain ⟨hB, hF, hG, hS, hP, hM, hX, hY, hA, hV, cG, ep, fT, cB⟩ := hFF; have aU := fT.out; obtain ⟨gR, nE, nF, rfl, cV, dA⟩ := aU; obtain ⟨A8, c8, rfl⟩ := Kd.R_slice cV; obtain ⟨A9, c9, rfl⟩ := Kd.R_slice dA; obtain ⟨Ao, co, rfl⟩ := Kd.R_slice cB.out; have hC := ak cV; have hD := ak dA; have hO := cB; clear fT cB gR cV dA
    refine nj ?_
    refine ow 11 ab.out (fun K hK => ?_)
    refine bz (by rfl) rfl 57 (.tmp 14) (.tmp 68) rfl gV (aX nb.addr nb.aff nb.slots (.slice A8 nb.free.length c8) (.slice A9 nb.attrs.length c9)) rfl rfl 57 _ hV.out 68 (by kernel_rfl) (ag _ _ _ _ _ HNL.out) rfl (bZ _ _ _ _ _ rfl rfl) ?_
    intro ov aa J; replace hB := gb hB cG J; replace hF := gr hF hV J; replace hG := gr hG hV J; replace hS := gr hS hV J; replace hP := gr hP hV J; replace hM := gr hM hV J; replace hX := gn hX ep J; replace hY := gx hY hV J; replace hA := gx hA hV J; replace hC := gr hC hV J; replace hD := gr hD hV J; replace hO := gr hO hV J; replace hV := ak (aa); clear aa J
    refine hK.out _ _ ⟨hX.out, hA.out⟩ (fun hHeld => ?_)
    clear hK K
    refine pu 12 ab.out ?_
    refine pu 13 ab.out ?_
    refine dn ab.out ?_
    clear hHeld
    go_wp2_with (first
     | ((with_reducible refine av (N := 72) rfl ?_); refine ay rfl 57 (.tmp 14) rfl gV rfl _ _ _ hV.out Try.underlying57 rfl 68 (by kernel_rfl) (ag _ _ _ _ _ HNL.out) ?_)
     | (go_at_call 52; refine (HRL.out _ _ _ _ ⟨_, _, _, _, rfl, ⟨HNL.out, (rr hC).1, (rr hC).2, (rr hD).1, (rr hD).2⟩⟩ (Kd.R_reads' hO.out).2.2).mono ?_; rintro e VE ⟨zl, UP, rfl, P3, G8, I⟩; obtain ⟨gR, nE, nF, rfl, cV, dA⟩ := P3; obtain ⟨A6, c6, rfl⟩ := Kd.R_slice cV; obtain ⟨A7, c7, rfl⟩ := Kd.R_slice dA; obtain ⟨Ab, cb, rfl⟩ := Kd.R_slice G8; have EN := mv I hB; have J9 := mv I hF; have JP := mv I hG; have Ez := mv I hX; have EO := mv I hA; have EA := mv I hV; have KJ := mv I hC; have KD := mv I hD; have I8 := mv I hO; have JG := ak (Kd.R_lower cV hB.out.size); have Jv := ak (Kd.R_lower dA hB.out.size); have Ks := ak (Kd.R_lower G8 hB.out.size); clear gR cV dA G8 I hB hF hG hX hA hV hC hD hO)
     | (refine ax (some 17) rfl rfl 57 rfl a7 bJ ?_; intro gQ VD J aa I; have cz := ge EN J; have bk := ne Ez J; have Qo := ne EO J; have Hz := ne EA J; have KQ := mv I EN; have J8 := mv I J9; have JO := mv I JP; have IK := mv I Ez; have KT := mv I EO; have IN := mv I EA; have KI := mv I KJ; have KC := mv I KD; have I7 := mv I I8; have JF := mv I JG; have Ju := mv I Jv; have Kr := mv I Ks; have n1 := ak (aa); clear J aa I EN J9 JP Ez EO EA KJ KD I8 JG Jv Ks)
     | (refine aN rfl 57 (.tmp 17) (.tmp 75) rfl gQ (aX db.addr db.aff db.slots (.slice A6 db.free.length c6) (.slice A7 db.attrs.length c7)) rfl rfl 57 _ n1.out 68 (by kernel_rfl) (ag _ _ _ _ _ HDL.out) rfl (bZ _ _ _ _ _ rfl rfl) ?_; intro VC aa J; have KP := gb KQ cz J; have J7 := gr J8 n1 J; have JN := gr JO n1 J; have IJ := gn IK bk J; have KS := gx KT n1 J; have IM := gn IN Hz J; have KH := gr KI n1 J; have KB := gr KC n1 J; have Ah := gr I7 n1 J; have JE := gr JF n1 J; have Jt := gr Ju n1 J; have Ax := gr Kr n1 J; have I1 := ak (aa); clear aa J KQ J8 JO IK KT IN KI KC I7 JF Ju Kr n1)
     | (go_at_call 61; refine (mm oo HOL.out.2 _ _ _ _ _ (Kd.R_reads' Ax.out).2.2 (Kd.R_reads' Ax.out).2.1 (Kd.R_reads' Ah.out).2.2 (Kd.R_reads' Ah.out).2.1).mono ?_; rintro e VB ⟨rfl, I⟩; have KO := mv I KP; have J6 := mv I J7; have JM := mv I JN; have II := mv I IJ; have KR := mv I KS; have IL := mv I IM; have KG := mv I KH; have KA := mv I KB; have I6 := mv I Ah; have JD := mv I JE; have Js := mv I Jt; have UN := mv I Ax; have I0 := mv I I1; clear I KP J7 JN IJ KS IM KH KB Ah JE Jt Ax I1))
    go_loopw [21, 22, 23, 24, 25, 92] (fun _ _ _ _ _ i W => ∃ k : Nat, k ≤ oo.length ∧ i = .int .i64 k ∧ Aside0 (aH W gX (aX b.addr b.aff b.slots (.slice Af b.free.length cf) (.slice Aa b.attrs.length ca)) 57) ∧ Aside0 (aH W gA [.string a.f0, .string a.f1] 76) ∧ Aside0 (aH W gV (aX nb.addr nb.aff nb.slots (.slice A8 nb.free.length c8) (.slice A9 nb.attrs.length c9)) 57) ∧ Aside0 (aH W gQ (aX db.addr db.aff db.slots (.slice A6 db.free.length c6) (.slice A7 db.attrs.length c7)) 57) ∧ Aside0 (Kd.R (Kd.int .u8) 5 W w.heap.size (fun _ => True) (.slice Af b.free.length cf) b.free) ∧ Aside0 (Kd.R iR 85 W w.heap.size (fun _ => True) (.slice Aa b.attrs.length ca) b.attrs) ∧ Aside0 (Kd.R (Kd.int .u8) 5 W w.heap.size (fun _ => True) (.slice A8 nb.free.length c8) nb.free) ∧ Aside0 (Kd.R iR 85 W w.heap.size (fun _ => True) (.slice A9 nb.attrs.length c9) nb.attrs) ∧ Aside0 (Kd.R (Kd.int .u8) 5 W w.heap.size (fun _ => True) (.slice A6 db.free.length c6) db.free) ∧ Aside0 (Kd.R iR 85 W w.heap.size (fun _ => True) (.slice A7 db.attrs.length c7) db.attrs) ∧ Aside0 (Kd.R (Kd.int .u32) 46 W w.heap.size (fun _ => True) (.slice Ao oo.length co) oo) ∧ Aside0 (Below w.heap.size w W)) (fun _ _ _ _ _ i _ => oo.length - (intOf i).toNat)
    case atStart => exact ⟨0, by omega, rfl, II, KR, IL, I0, J6, JM, KG, KA, JD, Js, I6, KO⟩
    case round =>
     clear KO J6 JM II KR IL KG KA I6 JD Js I0
     obtain ⟨k, hk, rfl, aI, eO, EC, tK, bl, dg, EM, EK, tR, tP, bx, ae⟩ := hrel
     obtain ⟨W, rfl⟩ : ∃ W : World, W = wr := ⟨_, rfl⟩
     have hol := HOL.out
     by_cases hkl : k < oo.length
     ·skip
      obtain ⟨ad, eA, aa⟩ := Kd.at_int (Kd.R_reads' bx.out).2.2 k (by omega) (by omega)
      cases eA
      rw [Int.toNat_natCast] at aa
      obtain ⟨x, hxx⟩ : ∃ x, x = rd oo k := ⟨_, rfl⟩
      rw [← hxx] at aa
      have hxr := HOR.out x (by rw [hxx, oA oo k hkl]; exact List.getElem_mem hkl)
      obtain ⟨g1, g2, g3⟩ := HGL.out k (by omega)
      rw [← hxx] at g1 g2 g3
      have fh := fun v w h => tn b HG.out x hxr.1 hxr.2 v w h
      rw [g1] at fh
      have ri := fun v w h => tn nb HNG.out x hxr.1 hxr.2 v w h
      rw [g2, g3] at ri
      obtain ⟨z, hz⟩ : ∃ z, z = jd b x := ⟨_, rfl⟩
      rw [← hz] at fh
      have kk := ak fh
      have NH := ak ri
      have p0 : decide ((k : Int) < (oo.length : Int)) = true := by simp; omega
      have p1 : ((k : Int) < (oo.length : Int)) = True := eq_true (by omega)
      have p2 : ((0 : Int) ≤ (k : Int)) = True := eq_true (by omega)
      have hwr := ak (show wrap64 ((k : Int) + 1) = ((k + 1 : Nat) : Int) by rw [g8 _ (by omega) (by omega)]; omega)
      have HKL := ak hkl
      have HKM := ak (show oo.length ≤ 1000 from hol.2)
      clear hxr g1 g2 g3 fh ri hz hxx hol hkl
      have wm := aa
      clear aa
      go_wp2_with (first
       | ((with_reducible refine av (N := 97) rfl ?_); refine ay rfl 57 (.tmp 9) rfl gX rfl _ _ _ aI.out Try.underlying57 rfl 68 (by kernel_rfl) (ag _ _ _ _ _ HL.out) ?_)
       | (go_at_call 56; refine (kk.out _ _ ⟨_, _, _, _, rfl, ⟨HL.out, (rr bl).1, (rr bl).2, (rr dg).1, (rr dg).2⟩⟩).mono ?_; rintro e W1 ⟨rfl, I⟩; have ah := mv I aI; have e7 := mv I eO; have fE := mv I EC; have n2 := mv I tK; have bg := mv I bl; have cH := mv I dg; have CH := mv I EM; have od := mv I EK; have tQ := mv I tR; have tO := mv I tP; have b7 := mv I bx; have aj := ak (ae.out.trans (I.mono ae.out.size)); clear I aI eO EC tK bl dg EM EK tR tP bx ae wm)
       | (refine ax (some 22) rfl rfl 85 rfl [.string ⟨#[]⟩, .string ⟨#[]⟩] (fun _ => by kernel_rfl) ?_; intro gK W2 J aa I; have ER := ge aj J; have Hy := ne ah J; have Qp := ne e7 J; have Ql := ne fE J; have HW := ne n2 J; have au := mv I ah; have bU := mv I e7; have dF := mv I fE; have wC := mv I n2; have bM := mv I bg; have dh := ak (Kd.R_mono (ok' := fun k_ => k_ ≠ gK) (Kd.R_below (Kd.R_bound cH.out) I) (fun k_ bV e_ => by have h_ := bV.2.2.1; omega)); have NT := mv I CH; have qL := ak (Kd.R_mono (ok' := fun k_ => k_ ≠ gK) (Kd.R_below (Kd.R_bound od.out) I) (fun k_ bV e_ => by have h_ := bV.2.2.1; omega)); have oI := mv I tQ; have CC := ak (Kd.R_mono (ok' := fun k_ => k_ ≠ gK) (Kd.R_below (Kd.R_bound tO.out) I) (fun k_ bV e_ => by have h_ := bV.2.2.1; omega)); have ct := mv I b7; have aw := mv I aj; have ji := ak (aa); clear J aa I ah e7 fE n2 bg cH CH od tQ tO b7 aj)
       | (refine aN rfl 85 (.tmp 22) (.tmp 100) rfl gK [.string z.f0, .string z.f1] rfl rfl 85 _ ji.out 2 (by kernel_rfl) rfl rfl (fun u_ kJ => by simp only [List.mem_cons, List.not_mem_nil, or_false] at kJ; rcases kJ with rfl | rfl <;> rfl) ?_; intro W3 aa J; have aA := gx au ji J; have cR := gx bU ji J; have l8 := gx dF ji J; have ze := gx wC ji J; have cg := gr bM ji J; have dL := ak (Kd.R_mono (ok' := fun _ => True) (Kd.R_grown dh.out J (fun k_ bV e_ => bV (Option.some.inj e_))) (fun _ _ => trivial)); have wG := gr NT ji J; have oJ := ak (Kd.R_mono (ok' := fun _ => True) (Kd.R_grown qL.out J (fun k_ bV e_ => bV (Option.some.inj e_))) (fun _ _ => trivial)); have mM := gr oI ji J; have sE := ak (Kd.R_mono (ok' := fun _ => True) (Kd.R_grown CC.out J (fun k_ bV e_ => bV (Option.some.inj e_))) (fun _ _ => trivial)); have eN := gr ct ji J; have aD := gb aw ER J; have qK := ak (aa); clear aa J au bU dF wC bM dh NT qL oI CC ct aw ji)
       | ((with_reducible refine av (N := 103) rfl ?_); refine ay rfl 57 (.tmp 14) rfl gV rfl _ _ _ l8.out Try.underlying57 rfl 68 (by kernel_rfl) (ag _ _ _ _ _ HNL.out) ?_)
       | (go_at_call 56; refine (NH.out _ _ ⟨_, _, _, _, rfl, ⟨HNL.out, (rr wG).1, (rr wG).2, (rr oJ).1, (rr oJ).2⟩⟩).mono ?_; rintro e W4 ⟨rfl, I⟩; have aV := mv I aA; have dd := mv I cR; have H3 := mv I l8; have wB := mv I ze; have cd := mv I cg; have dB := mv I dL; have CG := mv I wG; have CF := mv I oJ; have n7 := mv I mM; have vn := mv I sE; have kP := mv I eN; have aW := mv I aD; clear I aA cR l8 ze cg dL wG oJ mM sE eN aD)
       | (refine ax (some 24) rfl rfl 85 rfl [.string ⟨#[]⟩, .string ⟨#[]⟩] (fun _ => by kernel_rfl) ?_; intro uJ W5 J aa I; have CM := ge aW J; have Gd := ne aV J; have PF := ne dd J; have PE := ne H3 J; have Ge := ne wB J; have a9 := mv I aV; have eg := mv I dd; have ND := mv I H3; have Cz := mv I wB; have b8 := mv I cd; have cW := ak (Kd.R_mono (ok' := fun k_ => k_ ≠ uJ) (Kd.R_below (Kd.R_bound dB.out) I) (fun k_ bV e_ => by have h_ := bV.2.2.1; omega)); have EL := mv I CG; have EJ := ak (Kd.R_mono (ok' := fun k_ => k_ ≠ uJ) (Kd.R_below (Kd.R_bound CF.out) I) (fun k_ bV e_ => by have h_ := bV.2.2.1; omega)); have il := mv I n7; have wE := ak (Kd.R_mono (ok' := fun k_ => k_ ≠ uJ) (Kd.R_below (Kd.R_bound vn.out) I) (fun k_ bV e_ => by have h_ := bV.2.2.1; omega)); have wD := mv I kP; have bf := mv I aW; have kh := ak (aa); clear J aa I aV dd H3 wB cd dB CG CF n7 vn kP aW)
       | (refine aN rfl 85 (.tmp 24) (.tmp 106) rfl uJ [.string (cv a).f0, .string (cv a).f1] rfl rfl 85 _ kh.out 2 (by kernel_rfl) rfl rfl (fun u_ kJ => by simp only [List.mem_cons, List.not_mem_nil, or_false] at kJ; rcases kJ with rfl | rfl <;> rfl) ?_; intro W6 aa J; have bj := gx a9 kh J; have e6 := gx eg kh J; have NC := gx ND kh J; have EE := gx Cz kh J; have cI := gr b8 kh J; have dx := ak (Kd.R_mono (ok' := fun _ => True) (Kd.R_grown cW.out J (fun k_ bV e_ => bV (Option.some.inj e_))) (fun _ _ => trivial)); have me := gr EL kh J; have mb := ak (Kd.R_mono (ok' := fun _ => True) (Kd.R_grown EJ.out J (fun k_ bV e_ => bV (Option.some.inj e_))) (fun _ _ => trivial)); have jK := gr il kh J; have EI := ak (Kd.R_mono (ok' := fun _ => True) (Kd.R_grown wE.out J (fun k_ bV e_ => bV (Option.some.inj e_))) (fun _ _ => trivial)); have la := gr wD kh J; have bD := gb bf CM J; have Ai := ak (aa); clear aa J a9 eg ND Cz b8 cW EL EJ il wE wD bf kh))
      have ai : Below W6.heap.size W6 W6.drew := bp (Below.refl _ _)
      have df := mv ai bj; have iH := mv ai e6; have NB := mv ai NC; have dv := mv ai EE; have eS := mv ai cI; have iz := mv ai dx; have mc := mv ai me; have ma := mv ai mb; have jR := mv ai jK; have NO := mv ai EI; have k9 := mv ai la; have dR := mv ai bD; have Jq := mv ai Ai
      clear ai bj e6 NC EE cI dx me mb jK EI la bD Ai
      have hX := df
      have hA := iH
      have hV := NB
      have hQ := dv
      have hF := eS
      have hG := iz
      have hC := mc
      have hD := ma
      have hI := jR
      have hJ := NO
      have hO := k9
      have hB := dR
      have Iv := Jq
      clear df iH NB dv eS iz mc ma jR NO k9 dR Jq
      refine da (n := 11) (S := fun w' => aH w' gA [.string a.f0, .string a.f1] 76 ∧ aH w' uJ [.string (cv a).f0, .string (cv a).f1] 85) (ds := []) #[false, false, false, false, false, false, false, false, false, false, false] (by kernel_rfl) rfl rfl ⟨hA.out, Iv.out⟩ (fun hHeld => ?_); refine bK uR.tab20 uR.bits20 (fun ab bq => ?_)
      refine pu 0 ab.out ?_
      refine pu 1 ab.out ?_
      refine pu 2 ab.out ?_
      refine pu 3 ab.out ?_
      refine pu 4 ab.out ?_
      refine pu 5 ab.out ?_
      refine tk 6 ab.out bq.out hHeld ?_ (hv := by exact fun _ aY => aJ 85 (.tmp 24) rfl uJ rfl _ _ _ aY.2 Try.underlying85 rfl (by kernel_rfl))
      refine tk 7 ab.out bq.out hHeld ?_ (hv := by exact fun _ aY => aJ 76 (.tmp 7) rfl gA rfl _ _ _ aY.1 Try.underlying76 rfl (by kernel_rfl))
      refine on 8 ab.out (fun K hK => ?_)
      refine gs Try.func50 #[.agg #[.string a.f0, .string a.f1]] (jh a _) ?_
      rintro e V8 ⟨rfl, I⟩
      refine ⟨_, rfl, ?_⟩
      replace hX := mv I hX; replace hA := mv I hA; replace hV := mv I hV; replace hQ := mv I hQ; replace hF := mv I hF; replace hG := mv I hG; replace hC := mv I hC; replace hD := mv I hD; replace hI := mv I hI; replace hJ := mv I hJ; replace hO := mv I hO; replace hB := mv I hB; replace Iv := mv I Iv; clear I
      refine kn hK ⟨hA.out, Iv.out⟩ (fun hHeld => ?_)
      clear hK K
      refine pu 9 ab.out ?_ (hv := by intro w'; unfold et; go_simp; with_reducible rfl)
      refine pu 10 ab.out ?_
      refine dn ab.out ?_
      clear hHeld
      go_wp2_with fail
      go_roundw
      case rel => exact ⟨k + 1, by have := HKL.out; omega, by rw [hwr.out], hX, hA, hV, hQ, hF, hG, hC, hD, hI, hJ, hO, hB⟩
      case measure => have h_ := HKL.out; rw [hwr.out]; simp [intOf]; omega
     ·have p0 : decide ((k : Int) < (oo.length : Int)) = false := by simp; omega
      have p1 : ((k : Int) < (oo.length : Int)) = False := eq_false (by omega)
      clear hol hkl hk
      go_wp2_with fail
      have ai : Below W.heap.size W W.drew := bp (Below.refl _ _)
      have ah := mv ai aI; have e7 := mv ai eO; have fE := mv ai EC; have n2 := mv ai tK; have bg := mv ai bl; have cH := mv ai dg; have CH := mv ai EM; have od := mv ai EK; have tQ := mv ai tR; have tO := mv ai tP; have b7 := mv ai bx; have aj := ak (ae.out.trans (ai.mono ae.out.size))
      clear ai aI eO EC tK bl dg EM EK tR tP bx ae
      have hX := ah
      have hA := e7
      have hV := fE
      have hQ := n2
      have hF := bg
      have hG := cH
      have hC := CH
      have hD := od
      have hI := tQ
      have hJ := tO
      have hO := b7
      have hB := aj
      clear ah e7 fE n2 bg cH CH od tQ tO b7 aj
      refine da (n := 6) (S := fun w' => aH w' gX (aX b.addr b.aff b.slots (.slice Af b.free.length cf) (.slice Aa b.attrs.length ca)) 57 ∧ aH w' gQ (aX db.addr db.aff db.slots (.slice A6 db.free.length c6) (.slice A7 db.attrs.length c7)) 57) (ds := []) #[false, false, false, false, false, false] (by kernel_rfl) rfl rfl ⟨hX.out, hQ.out⟩ (fun hHeld => ?_); refine bK uQ.tab23 uQ.bits23 (fun ab bq => ?_)
      refine tk 0 ab.out bq.out hHeld ?_ (hv := by exact fun _ aY => aJ 57 (.tmp 17) rfl gQ rfl _ _ _ aY.2 Try.underlying57 rfl (HLD _ _ _ _))
      refine tk 2 ab.out bq.out hHeld ?_ (hv := by exact fun _ aY => aJ 57 (.tmp 9) rfl gX rfl _ _ _ aY.1 Try.underlying57 rfl HLB.out)
      refine on 1 ab.out (fun K hK => ?_)
      refine gs Try.func59 #[.agg (aX db.addr db.aff db.slots (.slice A6 db.free.length c6) (.slice A7 db.attrs.length c7)).toArray] (HGD.out _ _ ⟨_, _, _, _, rfl, ⟨HDL.out, (rr hI).1, (rr hI).2, (rr hJ).1, (rr hJ).2⟩⟩) ?_
      rintro e V1 ⟨Vc, rfl, tv, I⟩
      refine ⟨_, rfl, ?_⟩
      replace hX := mv I hX; replace hA := mv I hA; replace hV := mv I hV; replace hQ := mv I hQ; replace hF := mv I hF; replace hG := mv I hG; replace hC := mv I hC; replace hD := mv I hD; replace hI := mv I hI; replace hJ := mv I hJ; replace hO := mv I hO; replace hB := mv I hB; obtain ⟨A4, c4, rfl⟩ := Kd.R_slice tv; have Dr := ak (Kd.R_lower tv (Nat.zero_le _)); clear tv I
      refine kn hK ⟨hX.out, hQ.out⟩ (fun hHeld => ?_)
      clear hK K
      refine on 3 ab.out (fun K hK => ?_)
      refine gs Try.func59 #[.agg (aX b.addr b.aff b.slots (.slice Af b.free.length cf) (.slice Aa b.attrs.length ca)).toArray] (HGB.out _ _ ⟨_, _, _, _, rfl, ⟨HL.out, (rr hF).1, (rr hF).2, (rr hG).1, (rr hG).2⟩⟩) ?_
      rintro e V3 ⟨Vb, rfl, G5, I⟩
      refine ⟨_, rfl, ?_⟩
      replace hX := mv I hX; replace hA := mv I hA; replace hV := mv I hV; replace hQ := mv I hQ; replace hF := mv I hF; replace hG := mv I hG; replace hC := mv I hC; replace hD := mv I hD; replace hI := mv I hI; replace hJ := mv I hJ; replace hO := mv I hO; replace hB := mv I hB; replace Dr := mv I Dr; obtain ⟨A5, c5, rfl⟩ := Kd.R_slice G5; have Iu := ak (Kd.R_lower G5 (Nat.zero_le _)); clear G5 I
      refine kn hK ⟨hX.out, hQ.out⟩ (fun hHeld => ?_)
      clear hK K
      refine on 4 ab.out (fun K hK => ?_)
      refine gs Try.func61 #[.slice A4 ul.length c4, .slice A5 ul.length c5] (mm ul HULN.out _ _ _ _ _ (Kd.R_reads' Dr.out).2.2 (Kd.R_reads' Dr.out).2.1 (Kd.R_reads' Iu.out).2.2 (Kd.R_reads' Iu.out).2.1) ?_
      rintro e V4 ⟨rfl, I⟩
      refine ⟨_, rfl, ?_⟩
      replace hX := mv I hX; replace hA := mv I hA; replace hV := mv I hV; replace hQ := mv I hQ; replace hF := mv I hF; replace hG := mv I hG; replace hC := mv I hC; replace hD := mv I hD; replace hI := mv I hI; replace hJ := mv I hJ; replace hO := mv I hO; replace hB := mv I hB; replace Dr := mv I Dr; replace Iu := mv I Iu; clear I
      refine kn hK ⟨hX.out, hQ.out⟩ (fun hHeld => ?_)
      clear hK K
      refine pu 5 ab.out ?_
      refine dn ab.out ?_
      clear hHeld
      go_wp2_with (first
       | ((with_reducible refine av (N := 126) rfl ?_); refine ay rfl 57 (.tmp 9) rfl gX rfl _ _ _ hX.out Try.underlying57 rfl 68 (by kernel_rfl) (ag _ _ _ _ _ HL.out) ?_)
       | (go_at_call 59; refine (HGB.out _ _ ⟨_, _, _, _, rfl, ⟨HL.out, (rr hF).1, (rr hF).2, (rr hG).1, (rr hG).2⟩⟩).mono ?_; rintro e VA ⟨Va, rfl, G4, I⟩; obtain ⟨Au, cu, rfl⟩ := Kd.R_slice G4; have IH := mv I hX; have IZ := mv I hQ; have J5 := mv I hF; have JL := mv I hG; have JC := mv I hI; have Jr := mv I hJ; have KN := mv I hB; have IQ := ak (Kd.R_lower G4 hB.out.size); clear G4 I hX hQ hF hG hI hJ hB))
      go_loopw [27, 28, 29, 30, 31, 129] (fun _ _ _ _ _ i W => ∃ k : Nat, k ≤ ul.length ∧ i = .int .i64 k ∧ Aside0 (aH W gX (aX b.addr b.aff b.slots (.slice Af b.free.length cf) (.slice Aa b.attrs.length ca)) 57) ∧ Aside0 (aH W gQ (aX db.addr db.aff db.slots (.slice A6 db.free.length c6) (.slice A7 db.attrs.length c7)) 57) ∧ Aside0 (Kd.R (Kd.int .u8) 5 W w.heap.size (fun _ => True) (.slice Af b.free.length cf) b.free) ∧ Aside0 (Kd.R iR 85 W w.heap.size (fun _ => True) (.slice Aa b.attrs.length ca) b.attrs) ∧ Aside0 (Kd.R (Kd.int .u8) 5 W w.heap.size (fun _ => True) (.slice A6 db.free.length c6) db.free) ∧ Aside0 (Kd.R iR 85 W w.heap.size (fun _ => True) (.slice A7 db.attrs.length c7) db.attrs) ∧ Aside0 (Kd.R (Kd.int .u32) 46 W w.heap.size (fun _ => True) (.slice Au ul.length cu) ul) ∧ Aside0 (Below w.heap.size w W)) (fun _ _ _ _ _ i _ => ul.length - (intOf i).toNat)
      case atStart => exact ⟨0, by omega, rfl, IH, IZ, J5, JL, JC, Jr, IQ, KN⟩
      case round =>
       clear IH IZ J5 JL JC Jr KN IQ
       obtain ⟨q, hq, rfl, aI, tK, bl, dg, tR, tP, Cy, ae⟩ := hrel
       obtain ⟨W, rfl⟩ : ∃ W : World, W = wr := ⟨_, rfl⟩
       have hol := HULN.out
       by_cases hql : q < ul.length
       ·skip
        obtain ⟨ad, eA, aa⟩ := Kd.at_int (Kd.R_reads' Cy.out).2.2 q (by omega) (by omega)
        cases eA
        rw [Int.toNat_natCast] at aa
        obtain ⟨x, hxx⟩ : ∃ x, x = rd ul q := ⟨_, rfl⟩
        rw [← hxx] at aa
        have hxr := HUR.out x (by rw [hxx, oA ul q hql]; exact List.getElem_mem hql)
        have fh := fun v w h => tn b HG.out x hxr.1 hxr.2 v w h
        have ri := fun v w h => tn db HDG.out x hxr.1 hxr.2 v w h
        rw [(HOFD.out x).1, (HOFD.out x).2] at ri
        obtain ⟨z, hz⟩ : ∃ z, z = jd b x := ⟨_, rfl⟩
        obtain ⟨zb, hzb⟩ : ∃ zb, zb = fy b x := ⟨_, rfl⟩
        rw [← hz, ← hzb] at fh ri
        have kk := ak fh
        have NH := ak ri
        have r0 : decide ((q : Int) < (ul.length : Int)) = true := by simp; omega
        have r1 : ((q : Int) < (ul.length : Int)) = True := eq_true (by omega)
        have r2 : ((0 : Int) ≤ (q : Int)) = True := eq_true (by omega)
        have hwr := ak (show wrap64 ((q : Int) + 1) = ((q + 1 : Nat) : Int) by rw [g8 _ (by omega) (by omega)]; omega)
        have HQL := ak hql
        have wm := aa
        clear hxr fh ri hz hzb hxx hql aa
        go_wp2_with (first
         | ((with_reducible refine av (N := 134) rfl ?_); refine ay rfl 57 (.tmp 9) rfl gX rfl _ _ _ aI.out Try.underlying57 rfl 68 (by kernel_rfl) (ag _ _ _ _ _ HL.out) ?_)
         | (go_at_call 56; refine (kk.out _ _ ⟨_, _, _, _, rfl, ⟨HL.out, (rr bl).1, (rr bl).2, (rr dg).1, (rr dg).2⟩⟩).mono ?_; rintro e W1 ⟨rfl, I⟩; have ah := mv I aI; have n2 := mv I tK; have bg := mv I bl; have cH := mv I dg; have tQ := mv I tR; have tO := mv I tP; have H4 := mv I Cy; have aj := ak (ae.out.trans (I.mono ae.out.size)); clear I aI tK bl dg tR tP Cy ae wm)
         | (refine ax (some 28) rfl rfl 85 rfl [.string ⟨#[]⟩, .string ⟨#[]⟩] (fun _ => by kernel_rfl) ?_; intro gK W2 J aa I; have ER := ge aj J; have Hy := ne ah J; have HW := ne n2 J; have au := mv I ah; have wC := mv I n2; have bM := mv I bg; have dh := ak (Kd.R_mono (ok' := fun k_ => k_ ≠ gK) (Kd.R_below (Kd.R_bound cH.out) I) (fun k_ bV e_ => by have h_ := bV.2.2.1; omega)); have oI := mv I tQ; have CC := ak (Kd.R_mono (ok' := fun k_ => k_ ≠ gK) (Kd.R_below (Kd.R_bound tO.out) I) (fun k_ bV e_ => by have h_ := bV.2.2.1; omega)); have NG := mv I H4; have aw := mv I aj; have ji := ak (aa); clear J aa I ah n2 bg cH tQ tO H4 aj)
         | (refine aN rfl 85 (.tmp 28) (.tmp 137) rfl gK [.string z.f0, .string z.f1] rfl rfl 85 _ ji.out 2 (by kernel_rfl) rfl rfl (fun u_ kJ => by simp only [List.mem_cons, List.not_mem_nil, or_false] at kJ; rcases kJ with rfl | rfl <;> rfl) ?_; intro W3 aa J; have aA := gx au ji J; have ze := gx wC ji J; have cg := gr bM ji J; have dL := ak (Kd.R_mono (ok' := fun _ => True) (Kd.R_grown dh.out J (fun k_ bV e_ => bV (Option.some.inj e_))) (fun _ _ => trivial)); have mM := gr oI ji J; have sE := ak (Kd.R_mono (ok' := fun _ => True) (Kd.R_grown CC.out J (fun k_ bV e_ => bV (Option.some.inj e_))) (fun _ _ => trivial)); have ED := gr NG ji J; have aD := gb aw ER J; have qK := ak (aa); clear aa J au wC bM dh oI CC NG aw ji)
         | ((with_reducible refine av (N := 140) rfl ?_); refine ay rfl 57 (.tmp 17) rfl gQ rfl _ _ _ ze.out Try.underlying57 rfl 68 (by kernel_rfl) (ag _ _ _ _ _ HDL.out) ?_)
         | (go_at_call 56; refine (NH.out _ _ ⟨_, _, _, _, rfl, ⟨HDL.out, (rr mM).1, (rr mM).2, (rr sE).1, (rr sE).2⟩⟩).mono ?_; rintro e W4 ⟨rfl, I⟩; have aV := mv I aA; have wB := mv I ze; have cd := mv I cg; have dB := mv I dL; have n7 := mv I mM; have vn := mv I sE; have NF := mv I ED; have aW := mv I aD; have zf := mv I qK; clear I aA ze cg dL mM sE ED aD qK)
         | (refine ax (some 30) rfl rfl 85 rfl [.string ⟨#[]⟩, .string ⟨#[]⟩] (fun _ => by kernel_rfl) ?_; intro uJ W5 J aa I; have CM := ge aW J; have Gd := ne aV J; have Ge := ne wB J; have Gf := ne zf J; have a9 := mv I aV; have Cz := mv I wB; have b8 := mv I cd; have cW := ak (Kd.R_mono (ok' := fun k_ => k_ ≠ uJ) (Kd.R_below (Kd.R_bound dB.out) I) (fun k_ bV e_ => by have h_ := bV.2.2.1; omega)); have il := mv I n7; have wE := ak (Kd.R_mono (ok' := fun k_ => k_ ≠ uJ) (Kd.R_below (Kd.R_bound vn.out) I) (fun k_ bV e_ => by have h_ := bV.2.2.1; omega)); have ev := mv I NF; have bf := mv I aW; have EH := mv I zf; have kh := ak (aa); clear J aa I aV wB cd dB n7 vn NF aW zf)
         | (refine aN rfl 85 (.tmp 30) (.tmp 143) rfl uJ [.string z.f0, .string z.f1] rfl rfl 85 _ kh.out 2 (by kernel_rfl) rfl rfl (fun u_ kJ => by simp only [List.mem_cons, List.not_mem_nil, or_false] at kJ; rcases kJ with rfl | rfl <;> rfl) ?_; intro W6 aa J; have bj := gx a9 kh J; have EE := gx Cz kh J; have cI := gr b8 kh J; have dx := ak (Kd.R_mono (ok' := fun _ => True) (Kd.R_grown cW.out J (fun k_ bV e_ => bV (Option.some.inj e_))) (fun _ _ => trivial)); have jK := gr il kh J; have EI := ak (Kd.R_mono (ok' := fun _ => True) (Kd.R_grown wE.out J (fun k_ bV e_ => bV (Option.some.inj e_))) (fun _ _ => trivial)); have dX := gr ev kh J; have bD := gb bf CM J; have QA := gn EH Gf J; have Ai := ak (aa); clear aa J a9 Cz b8 cW il wE ev bf EH kh)
         | ((with_reducible refine av (N := 145) rfl ?_); refine ay rfl 85 (.tmp 28) rfl gK rfl _ _ _ QA.out Try.underlying85 rfl 2 (by kernel_rfl) rfl ?_)
         | ((with_reducible refine av (N := 146) rfl ?_); refine ay rfl 85 (.tmp 30) rfl uJ rfl _ _ _ Ai.out Try.underlying85 rfl 2 (by kernel_rfl) rfl ?_))
        go_roundw
        case rel => exact ⟨q + 1, by have := HQL.out; omega, by (first | rw [hwr.out] | go_num), bj, EE, cI, dx, jK, EI, dX, bD⟩
        case measure => have h_ := HQL.out; (first | rw [hwr.out] | skip); simp [intOf]; omega
       ·have r0 : decide ((q : Int) < (ul.length : Int)) = false := by simp; omega
        have r1 : ((q : Int) < (ul.length : Int)) = False := eq_false (by omega)
        clear hol hql hq
        go_wp2_with (first
         | (go_at_call 44; refine (vZ _).mono ?_; rintro e W1 ⟨rfl, I⟩; have ah := mv I aI; have n2 := mv I tK; have bg := mv I bl; have cH := mv I dg; have tQ := mv I tR; have tO := mv I tP; have H4 := mv I Cy; have aj := ak (ae.out.trans (I.mono ae.out.size)); clear I aI tK bl dg tR tP Cy ae))
        go_ret
        exact ⟨rfl, aj.out⟩
end Go.Proofs.Ytemhalnhbgkbcaa.V
end

section
namespace Go.Proofs.Ytemhalnhbgkbcaa.V
open Go.ChangeShapes Go.WideShapes
set_option maxRecDepth 100000
section
variable {H : Type} {enc : TypeId × Value → H} {w : World} {base b0 : Nat} {held : Bool}
structure RAtZ (w : World) (v : Value) (x : S76) : Prop where
 v : v = .agg #[.string x.f0, .string x.f1]
 z0 : x.f0.size ≤ 9223372036854775807
 z1 : x.f1.size ≤ 9223372036854775807
theorem open_rattrZ {v : Value} {d : DataW H} {ps : List MemPlace} (hval : Value.okWide Try.prog w .any b0 76 v) (hd : DataW.Trod enc Try.prog w base (fun _ => true) held 76 v d ps) : ∃ x : S76, RAtZ w v x := by
 obtain ⟨cs, rfl, hz⟩ := okWide_struct Try.underlying76 hval
 obtain ⟨fuel, hf⟩ := hd
 obtain ⟨y0, y1, n, _, hl, h0, h1⟩ := trod_struct2 Try.underlying76 hf
 have hsz : cs.toList.length = 2 := hl.trans (by kernel_rfl)
 obtain ⟨z0, e0, _, w0⟩ := DataW.trod_string Try.underlying9 h0
 obtain ⟨z1, e1, _, w1⟩ := DataW.trod_string Try.underlying9 h1
 match hc : cs.toList, hsz with
 | [p, q], _ =>
  have c0 : Try.prog.cellsOf 9 = 1 := by kernel_rfl
  have Dw : (cs.toList.drop 0).take (Try.prog.cellsOf 9) = [Value.string z0] := e0
  have Dv : (cs.toList.drop 1).take (Try.prog.cellsOf 9) = [Value.string z1] := e1
  rw [c0, hc] at Dw Dv
  simp at Dw Dv
  refine ⟨⟨z0, z1⟩, ?_, by unfold maxLen at w0; exact w0, by unfold maxLen at w1; exact w1⟩
  show Value.agg cs = _
  rw [show cs = #[p, q] by rw [← Array.toArray_toList (xs := cs), hc], Dw, Dv]
end
theorem blockBack_walk (a : Int) (v : Value) (l : List St) (n : Int) (u : Value) (x : S76) (w : World) (h0 : (Lit.int .u32 a).wf = true) (h : StepsIs w v l) (hn : (Lit.int .u8 n).wf = true) (hx : RAtZ w u x) : Calls Try.prog 12 #[.int .u32 a, v, .int .u8 n, u] w fun e w' => e = .returned (.bool true) ∧ Below w.heap.size w w' := by
 obtain ⟨rfl, z0, z1⟩ := hx
 exact z2 a (AJ h0).1 (AJ h0).2 v l n (Ic hn).1 (Ic hn).2 x z0 z1 w h
end Go.Proofs.Ytemhalnhbgkbcaa.V
end

