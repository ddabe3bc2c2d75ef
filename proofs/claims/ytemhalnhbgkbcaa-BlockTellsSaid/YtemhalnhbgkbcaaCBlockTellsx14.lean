/- The law BlockTells for every input: texts of ours, put together (part 15 of 16). No further condition. -/
import Derived.Test.YtemhalnhbgkbcaaCBlockTellsx2
import Derived.Test.YtemhalnhbgkbcaaCBlockTellsx6
import Derived.Test.YtemhalnhbgkbcaaCBlockTellsx10
import Derived.Test.YtemhalnhbgkbcaaCBlockTellsx4
import Derived.Test.YtemhalnhbgkbcaaCBlockTellsx9
import Derived.Outline
import Derived.Test.YtemhalnhbgkbcaaCBlockTellsx7
import Derived.Test.YtemhalnhbgkbcaaCBlockTellsx3
import Derived.Test.YtemhalnhbgkbcaaCBlockTellsx13
set_option linter.unusedVariables false
set_option linter.unusedSimpArgs false
open Go.RowKit Go.Proofs.YtemhalnhbgkbcaaW.PrintWords Go.Proofs.YtemhalnhbgkbcaaW.PrintLast Go.Proofs.YtemhalnhbgkbcaaW.PrintMore Go.Proofs.Ytemhalnhbgkbcaa.Z
section
namespace Go.Proofs.Ytemhalnhbgkbcaa.V
set_option maxHeartbeats 16000000 in
set_option maxRecDepth 100000 in
theorem Ff (b : Bk) (hk : BkOk b) (v : Value) (w : World) (h : fS w v b) :
  Calls Try.prog 59 #[v] w fun e w' => ∃ vo, e = .returned vo ∧ Kd.R (Kd.int .u32) 46 w' w.heap.size (fun _ => True) vo (if dm b = true then dk b (fun _ => true) 64 else []) ∧ Below w.heap.size w w' := by
 obtain ⟨A, c, A', c', rfl, hr⟩ := h
 have HL := ak hr.l64
 have HR := ak hr
 have HK := ak hk
 have ae := ak (Below.refl w.heap.size w)
 cases hrt : dm b with
 | false =>
  have HRT := ak hrt
  clear hr hk hrt
  go_enter Try.func59, Try.ntmps59
  go_wp2_with (first
   | (refine aE rfl 57 (.tmp 0) rfl _ rfl ?_; intro gX W1 J aa I; have bQ := ge ae J; have ai := ak (ae.out.trans (I.mono ae.out.size)); have ah := ak (aa); clear J aa I ae)
   | ((with_reducible refine ax (N := 3) rfl ?_); refine az rfl 57 (.tmp 1) rfl gX rfl _ _ _ ah.out Try.underlying57 rfl 68 (by kernel_rfl) (ag _ _ _ _ _ HL.out) ?_)
   | (go_at_call 48; refine (dH b HK.out _ _ ⟨A, c, A', c', rfl, HR.out.below ai.out⟩).mono ?_; rintro e W2 ⟨rfl, I⟩; rw [HRT.out]; have av := mv I ai; have au := mv I ah; clear I ai ah))
  go_ret
  exact ⟨_, rfl, Kd.R_nil _ _ _ _ _, av.out⟩
 | true =>
  have HRT := ak hrt
  have HP := ak (iw hrt)
  clear hr hk hrt
  go_enter Try.func59, Try.ntmps59
  go_wp2_with (first
   | (refine aE rfl 57 (.tmp 0) rfl _ rfl ?_; intro gX W1 J aa I; have bQ := ge ae J; have ai := ak (ae.out.trans (I.mono ae.out.size)); have ah := ak (aa); clear J aa I ae)
   | ((with_reducible refine ax (N := 3) rfl ?_); refine az rfl 57 (.tmp 1) rfl gX rfl _ _ _ ah.out Try.underlying57 rfl 68 (by kernel_rfl) (ag _ _ _ _ _ HL.out) ?_)
   | (go_at_call 48; refine (dH b HK.out _ _ ⟨A, c, A', c', rfl, HR.out.below ai.out⟩).mono ?_; rintro e W2 ⟨rfl, I⟩; rw [HRT.out]; have av := mv I ai; have au := mv I ah; clear I ai ah)
   | ((with_reducible refine ax (N := 6) rfl ?_); refine az rfl 57 (.tmp 1) rfl gX rfl _ _ _ au.out Try.underlying57 rfl 68 (by kernel_rfl) (ag _ _ _ _ _ HL.out) ?_)
   | (go_at_call 96; refine (F1 b HK.out HP.out _ _ ⟨A, c, A', c', rfl, HR.out.below av.out⟩).mono ?_; rintro e W3 ⟨vo, rfl, aW, I⟩; have aD := mv I av; have aA := mv I au; have Po := ak (Kd.R_lower aW av.out.size); clear I av au))
  go_ret
  exact ⟨_, rfl, Po.out, aD.out⟩
set_option maxHeartbeats 16000000 in
set_option maxRecDepth 100000 in
theorem Ld (b : Bk) (hk : BkOk b) (x q : Int) (hpl : ∀ (v : Value) (w : World), fS w v b → Calls Try.prog 92 #[v, .int .u32 x] w fun e w' => e = .returned (.tuple #[.int .i64 q, .bool false]) ∧ Below w.heap.size w w') (v : Value) (w : World) (h : fS w v b) :
  Calls Try.prog 56 #[v, .int .u32 x] w fun e w' => e = .returned (.tuple #[.agg #[.string ⟨#[]⟩, .string ⟨#[]⟩], .bool false]) ∧ Below w.heap.size w w' := by
 obtain ⟨A, c, A', c', rfl, hr⟩ := h
 have HL := ak hr.l64
 have HR := ak hr
 have HK := ak hk
 have ae := ak (Below.refl w.heap.size w)
 have HPL := ak hpl
 clear hr hk hpl
 go_enter Try.func56, Try.ntmps56
 go_wp2_with (first
  | (refine aE rfl 57 (.tmp 0) rfl _ rfl ?_; intro gX W1 J aa I; have bQ := ge ae J; have ai := ak (ae.out.trans (I.mono ae.out.size)); have ah := ak (aa); clear J aa I ae)
  | (refine aw (some 4) rfl rfl 85 rfl [.string ⟨#[]⟩, .string ⟨#[]⟩] (fun _ => by kernel_rfl) ?_; intro gZ W2 J aa I; have bN := ge ai J; have aG := ne ah J; have av := mv I ai; have au := mv I ah; have bY := ak (aa); clear J aa I ai ah)
  | ((with_reducible refine ax (N := 9) rfl ?_); refine az rfl 57 (.tmp 2) rfl gX rfl _ _ _ au.out Try.underlying57 rfl 68 (by kernel_rfl) (ag _ _ _ _ _ HL.out) ?_)
  | (go_at_call 92; refine (HPL.out _ _ ⟨A, c, A', c', rfl, HR.out.below av.out⟩).mono ?_; rintro e W3 ⟨rfl, I⟩; have aD := mv I av; have aA := mv I au; have bL := mv I bY; clear I av au bY)
  | (refine fq rfl 85 #[] rfl [.string ⟨#[]⟩, .string ⟨#[]⟩] (by kernel_rfl) ?_)
  | (refine aN rfl 85 (.tmp 4) (.tmp 28) rfl gZ [.string ⟨#[]⟩, .string ⟨#[]⟩] rfl rfl 85 _ bL.out 2 (by kernel_rfl) rfl rfl (g9 ⟨⟨#[]⟩, ⟨#[]⟩⟩) ?_; intro W4 aa J; have aY := gb aD bN J; have aV := gx aA bL J; have a8 := ak (aa); clear aa J aD aA bL))
 exact bodyPost_ret (eU rfl _ _ gZ 85 _ (0, 0) _ rfl a8.out Try.underlying85 rfl (by kernel_rfl)) rfl ⟨rfl, aY.out⟩
set_option maxHeartbeats 16000000 in
set_option maxRecDepth 100000 in
theorem JK (b : Bk) (hk : BkOk b) (x : Int) (j : Nat) (hj : j < 64) (hpl : ∀ (v : Value) (w : World), fS w v b → Calls Try.prog 92 #[v, .int .u32 x] w fun e w' => e = .returned (.tuple #[.int .i64 (j : Int), .bool true]) ∧ Below w.heap.size w w') (hrt : dm b = true) (hz : b.slots.getD j 0 = 0) (v : Value) (w : World) (h : fS w v b) :
  Calls Try.prog 56 #[v, .int .u32 x] w fun e w' => e = .returned (.tuple #[.agg #[.string ⟨#[]⟩, .string ⟨#[]⟩], .bool false]) ∧ Below w.heap.size w w' := by
 obtain ⟨A, c, A', c', rfl, hr⟩ := h
 have HL := ak hr.l64
 have HR := ak hr
 have HK := ak hk
 have ae := ak (Below.refl w.heap.size w)
 have HPL := ak hpl
 have HRT := ak hrt
 have HM := ak hz
 clear hr hk hpl hrt hz
 go_enter Try.func56, Try.ntmps56
 go_wp2_with (first
  | (refine aE rfl 57 (.tmp 0) rfl _ rfl ?_; intro gX W1 J aa I; have bQ := ge ae J; have ai := ak (ae.out.trans (I.mono ae.out.size)); have ah := ak (aa); clear J aa I ae)
  | (refine aw (some 4) rfl rfl 85 rfl [.string ⟨#[]⟩, .string ⟨#[]⟩] (fun _ => by kernel_rfl) ?_; intro gZ W2 J aa I; have bN := ge ai J; have aG := ne ah J; have av := mv I ai; have au := mv I ah; have bY := ak (aa); clear J aa I ai ah)
  | ((with_reducible refine ax (N := 9) rfl ?_); refine az rfl 57 (.tmp 2) rfl gX rfl _ _ _ au.out Try.underlying57 rfl 68 (by kernel_rfl) (ag _ _ _ _ _ HL.out) ?_)
  | (go_at_call 92; refine (HPL.out _ _ ⟨A, c, A', c', rfl, HR.out.below av.out⟩).mono ?_; rintro e W3 ⟨rfl, I⟩; have aD := mv I av; have aA := mv I au; have bL := mv I bY; clear I av au bY)
  | ((with_reducible refine ax (N := 17) rfl ?_); refine ff (by rfl) ?_; refine az rfl 57 (.tmp 2) rfl gX rfl _ _ _ aA.out Try.underlying57 rfl 68 (by kernel_rfl) (ag _ _ _ _ _ HL.out) ?_)
  | (go_at_call 48; refine (dH b HK.out _ _ ⟨A, c, A', c', rfl, HR.out.below aD.out⟩).mono ?_; rintro e W4 ⟨rfl, I⟩; rw [HRT.out]; have aY := mv I aD; have aV := mv I aA; have a8 := mv I bL; have lR := (show W4.cell? ⟨gX, 2 + j, none⟩ = some (.int .u8 0) from by have h_ := aV.out.slot HL.out j hj; rwa [HM.out] at h_); clear I aD aA bL)
  | (refine fq rfl 85 #[] rfl [.string ⟨#[]⟩, .string ⟨#[]⟩] (by kernel_rfl) ?_)
  | (refine aN rfl 85 (.tmp 4) (.tmp 28) rfl gZ [.string ⟨#[]⟩, .string ⟨#[]⟩] rfl rfl 85 _ a8.out 2 (by kernel_rfl) rfl rfl (g9 ⟨⟨#[]⟩, ⟨#[]⟩⟩) ?_; intro W5 aa J; have bf := gb aY bN J; have bb := gx aV a8 J; have bu := ak (aa); clear aa J aY aV a8 lR))
 exact bodyPost_ret (eU rfl _ _ gZ 85 _ (0, 0) _ rfl bu.out Try.underlying85 rfl (by kernel_rfl)) rfl ⟨rfl, bf.out⟩
def yY.T4 : Bool × List (List Nat × List Nat) := (true, [([], []), ([0], [0]), ([], []), ([], []), ([3, 2], [2, 3]), ([4], [4]), ([5], [5]), ([1, 6], [1, 6]), ([7], [7]), ([8, 0, 1, 2, 3, 4, 5, 6, 7, 8], [8]), ([9, 0, 1, 2, 3, 4, 5, 6, 7, 8, 9], [])])
def yY.B4 : List Nat := [0, 1, 0, 0, 12, 28, 60, 127, 255, 511, 1023]
theorem yY.tab4 : dC .any (opsOf Try.f56 4) = yY.T4 := by kernel_rfl
theorem yY.bits4 : cU yY.T4.2 yY.B4 = true := by kernel_rfl
set_option maxHeartbeats 16000000 in
set_option maxRecDepth 100000 in
theorem of_held (b : Bk) (hk : BkOk b) (x : Int) (j m : Nat) (hj : j < 64) (hpl : ∀ (v : Value) (w : World), fS w v b → Calls Try.prog 92 #[v, .int .u32 x] w fun e w' => e = .returned (.tuple #[.int .i64 (j : Int), .bool true]) ∧ Below w.heap.size w w') (hrt : dm b = true) (hz : b.slots.getD j 0 = (m : Int) + 1) (hma : m < b.attrs.length) (hna : b.attrs.length ≤ 64) (a : At) (ha : cH b.attrs (m : Int) = a) (v : Value) (w : World) (h : fS w v b) :
  Calls Try.prog 56 #[v, .int .u32 x] w fun e w' => e = .returned (.tuple #[.agg #[.string a.f0, .string a.f1], .bool true]) ∧ Below w.heap.size w w' := by
 obtain ⟨A, c, A', c', rfl, hr⟩ := h
 have HL := ak hr.l64
 have HR := ak hr
 have HK := ak hk
 have ae := ak (Below.refl w.heap.size w)
 have HPL := ak hpl
 have HRT := ak hrt
 have HM := ak hz
 have HAA := ak ha
 have ht : (((m : Int) + 1) == 0) = false := by rw [beq_eq_false_iff_ne]; omega
 clear hr hk hpl hrt hz ha
 go_enter Try.func56, Try.ntmps56
 go_wp2_with (first
  | (refine aE rfl 57 (.tmp 0) rfl _ rfl ?_; intro gX W1 J aa I; have bQ := ge ae J; have ai := ak (ae.out.trans (I.mono ae.out.size)); have ah := ak (aa); clear J aa I ae)
  | (refine aw (some 4) rfl rfl 85 rfl [.string ⟨#[]⟩, .string ⟨#[]⟩] (fun _ => by kernel_rfl) ?_; intro gZ W2 J aa I; have bN := ge ai J; have aG := ne ah J; have av := mv I ai; have au := mv I ah; have bY := ak (aa); clear J aa I ai ah)
  | ((with_reducible refine ax (N := 9) rfl ?_); refine az rfl 57 (.tmp 2) rfl gX rfl _ _ _ au.out Try.underlying57 rfl 68 (by kernel_rfl) (ag _ _ _ _ _ HL.out) ?_)
  | (go_at_call 92; refine (HPL.out _ _ ⟨A, c, A', c', rfl, HR.out.below av.out⟩).mono ?_; rintro e W3 ⟨rfl, I⟩; have aD := mv I av; have aA := mv I au; have bL := mv I bY; clear I av au bY)
  | ((with_reducible refine ax (N := 17) rfl ?_); refine ff (by rfl) ?_; refine az rfl 57 (.tmp 2) rfl gX rfl _ _ _ aA.out Try.underlying57 rfl 68 (by kernel_rfl) (ag _ _ _ _ _ HL.out) ?_)
  | (go_at_call 48; refine (dH b HK.out _ _ ⟨A, c, A', c', rfl, HR.out.below aD.out⟩).mono ?_; rintro e W4 ⟨rfl, I⟩; rw [HRT.out]; have aY := mv I aD; have aV := mv I aA; have a8 := mv I bL; have lR := (show W4.cell? ⟨gX, 2 + j, none⟩ = some (.int .u8 ((m : Int) + 1)) from by have h_ := aV.out.slot HL.out j hj; rwa [HM.out] at h_); clear I aD aA bL))
 clear lR
 have aj : Below W4.heap.size W4 W4.drew := bo (Below.refl _ _)
 have bf := mv aj aY; have bb := mv aj aV; have bu := mv aj a8
 clear aj aY aV a8
 have pj : ((j : Int) < 64) = True := eq_true (by omega)
 obtain ⟨ad, eA, fF, jf⟩ := kH (HR.out.below bf.out).ar m (by omega) (by omega)
 cases eA
 rw [Int.toNat_natCast, HAA.out] at fF jf
 have p1 : ((m : Int) < (b.attrs.length : Int)) = True := eq_true (by omega)
 have lR : W4.drew.cell? ⟨gX, 2 + j, none⟩ = some (.int .u8 ((m : Int) + 1)) := by have h_ := bb.out.slot HL.out j hj; rwa [HM.out] at h_
 have MQ := bb.out.cell 67 _ (fi _ _ _ _ _ HL.out)
 have hwr : IntKind.u8.wrap (m : Int) = (m : Int) := by rw [IntKind.wrap_u8]; omega
 refine cW (n := 11) (S := fun w' => w'.cell? ⟨gX, 67, none⟩ = some (.slice (some ad) b.attrs.length c') ∧ w'.cell? ⟨gX, 2 + j, none⟩ = some (.int .u8 ((m : Int) + 1)) ∧ w'.cell? (ad.add (m * 2)) = some (.string a.f0) ∧ w'.cell? ⟨(ad.add (m * 2)).block, (ad.add (m * 2)).off + 1, none⟩ = some (.string a.f1)) (ds := [9]) #[false, false, false, false, false, false, false, false, false, false, false] (by kernel_rfl) rfl rfl ⟨MQ, lR, fF, jf⟩ (fun hHeld => ?_); refine bK yY.tab4 yY.bits4 (fun ab bj => ?_)
 refine pu 0 ab.out ?_
 refine tk 1 ab.out bj.out hHeld ?_ (hv := by intro w' aU; obtain ⟨s0, s1, s2, s3⟩ := aU; go_simp; with_reducible rfl)
 refine pu 2 ab.out ?_
 refine pu 3 ab.out ?_
 refine pu 4 ab.out ?_
 refine tk 5 ab.out bj.out hHeld ?_ (hv := by intro w' aU; obtain ⟨s0, s1, s2, s3⟩ := aU; go_simp; with_reducible rfl)
 refine pu 6 ab.out ?_
 refine pu 7 ab.out ?_
 refine tk 8 ab.out bj.out hHeld ?_ (hv := by intro w' aU; obtain ⟨s0, s1, s2, s3⟩ := aU; go_simp; with_reducible rfl)
 refine pr (i := 9) (N := none) #[true, true, true, true, true, true, true, true, true, true, false] rfl rfl (lL ab.out (by kernel_rfl)) (by decide) (fun K hK => ?_)
 refine bA (by rfl) rfl 85 (.tmp 4) (.tmp 37) rfl gZ [.string a.f0, .string a.f1] rfl rfl 85 _ bu.out 2 (by kernel_rfl) rfl rfl (g9 a) ?_
 intro V3 aa J; have bG := gb bf bN J; have bh := gx bb bu J; have bS := ak (aa); clear aa J bf bb bu
 refine hK.out _ _ ?_
 clear hK K
 refine pu 10 ab.out ?_
 refine dn ab.out ?_
 try go_wp2
 exact bodyPost_ret (eU rfl _ _ gZ 85 _ (0, 0) _ rfl bS.out Try.underlying85 rfl (by kernel_rfl)) rfl ⟨rfl, bG.out⟩
end Go.Proofs.Ytemhalnhbgkbcaa.V
end

section
namespace Go.Proofs.Ytemhalnhbgkbcaa.V
theorem Gf (b : Bk) (hg : RG b) (x : Int) (h0 : 0 ≤ x) (h1 : x < 4294967296) (v : Value) (w : World) (h : fS w v b) :
  Calls Try.prog 56 #[v, .int .u32 x] w fun e w' => e = .returned (.tuple #[.agg #[.string (kb b x).f0, .string (kb b x).f1], .bool (gw b x)]) ∧ Below w.heap.size w w' := by
 have hpl := fun v w h => tZ b hg.ok x h0 h1 v w h
 by_cases hf : bV x = b.addr
 ·have hr : 0 ≤ x - b.addr ∧ x - b.addr < 64 := by unfold bV at hf; omega
  obtain ⟨j, hj⟩ : ∃ j : Nat, x - b.addr = (j : Int) := ⟨(x - b.addr).toNat, by omega⟩
  have mW : j < 64 := by omega
  rw [decide_eq_true hf, if_pos hf, hj] at hpl
  have hjl : j < b.slots.length := by rw [hg.l64]; exact mW
  have hs := hg.s0 (b.slots.getD j 0) (by rw [getD_eq hjl]; exact List.getElem_mem hjl)
  by_cases hz : b.slots.getD j 0 = 0
  ·have e1 : gw b x = false := by unfold gw; rw [hj, Int.toNat_natCast, hz]; simp
   have e2 : kb b x = ⟨⟨#[]⟩, ⟨#[]⟩⟩ := by unfold kb; rw [e1]; rfl
   rw [e1, e2]
   exact JK b hg.ok x j mW hpl hg.right hz v w h
  ·obtain ⟨m, hm⟩ : ∃ m : Nat, b.slots.getD j 0 = (m : Int) + 1 := ⟨(b.slots.getD j 0 - 1).toNat, by omega⟩
   have e1 : gw b x = true := by unfold gw; rw [hj, Int.toNat_natCast, hm, hf]; simp; omega
   have e2 : kb b x = cH b.attrs (m : Int) := by
    unfold kb eR gF
    rw [if_pos e1, hj, Int.toNat_natCast, hm, show ((m : Int) + 1 - 1).toNat = m by omega]
   rw [e1, e2]
   exact of_held b hg.ok x j m mW hpl hg.right hm (by omega) hg.na _ rfl v w h
 ·have e1 : gw b x = false := by unfold gw; rw [decide_eq_false hf]; rfl
  have e2 : kb b x = ⟨⟨#[]⟩, ⟨#[]⟩⟩ := by unfold kb; rw [e1]; rfl
  rw [e1, e2]
  rw [decide_eq_false hf] at hpl
  exact Ld b hg.ok x _ hpl v w h
end Go.Proofs.Ytemhalnhbgkbcaa.V
end

section
namespace Go.Proofs.Ytemhalnhbgkbcaa.V
def gS (b : Bk) : Nat → List (At × Int)
 | 0 => []
 | k + 1 => if (b.slots.getD k 0 != 0) = true then putAt (gS b k) (eR b k) (numOf (gS b k) (eR b k) + 1) else gS b k
theorem Kq (L : List (At × Int)) (a a' : At) (h : a' ≠ a) (v : Int) (i : Nat) (hi : ∀ p, L[i]? = some p → p.1 = a) : ((L.modify i fun p => (p.1, v)).find? fun p => sameAt a' p.1).map (·.2) = (L.find? fun p => sameAt a' p.1).map (·.2) := by
 have hs : sameAt a' a = false := by
  cases e : sameAt a' a with
  | false => rfl
  | true => exact absurd ((gP _ _).1 e) h
 induction L generalizing i with
 | nil => simp
 | cons p L ih =>
  cases i with
  | zero =>
   obtain rfl := hi p rfl
   rw [List.modify_zero_cons]
   simp only [List.find?_cons]
   rw [hs]
  | succ i =>
   rw [List.modify_succ_cons]
   simp only [List.find?_cons]
   cases e : sameAt a' p.1 with
   | true => rfl
   | false => exact ih i (fun q hq => hi q (by simpa using hq))
theorem yZ (L : List (At × Int)) (a : At) : numOf L a = ((L.find? fun p => sameAt a p.1).map (·.2)).getD 0 := by
 unfold numOf
 cases L.find? (fun p => sameAt a p.1) <;> rfl
theorem EJ (L : List (At × Int)) (a a' : At) (h : a' ≠ a) (v : Int) : numOf (putAt L a v) a' = numOf L a' := by
 rw [yZ, yZ]
 unfold putAt
 cases hi : idxOf L a with
 | none =>
  show ((L ++ [(a, v)]).find? _ |>.map _).getD 0 = _
  have hs : sameAt a' a = false := by
   cases e : sameAt a' a with
   | false => rfl
   | true => exact absurd ((gP _ _).1 e) h
  rw [List.find?_append]
  cases L.find? (fun p => sameAt a' p.1) with
  | none => simp [hs]
  | some p => rfl
 | some j =>
  show ((L.modify j fun p => (p.1, v)).find? _ |>.map _).getD 0 = _
  obtain ⟨p, hp, hsm, _⟩ := pz hi
  rw [Kq L a a' h v j (fun q hq => by rw [hp] at hq; cases hq; exact ((gP _ _).1 hsm).symm)]
theorem Gb (L : List (At × Int)) (a : At) (v : Int) : (a ∈ L.map (·.1) ∧ (putAt L a v).map (·.1) = L.map (·.1)) ∨ (a ∉ L.map (·.1) ∧ (putAt L a v).map (·.1) = L.map (·.1) ++ [a]) := by
 unfold putAt
 cases hi : idxOf L a with
 | none =>
  have h1 := (ny hi).1
  refine .inr ⟨fun hm => ?_, by simp⟩
  obtain ⟨p, hp, rfl⟩ := List.mem_map.1 hm
  have := h1 p hp
  rw [lg] at this
  cases this
 | some j =>
  obtain ⟨p, hp, hsm, _⟩ := pz hi
  have hpa := (gP _ _).1 hsm
  refine .inl ⟨by rw [hpa]; exact List.mem_map.2 ⟨p, List.mem_of_getElem? hp, rfl⟩, ?_⟩
  show (L.modify j fun p => (p.1, v)).map (·.1) = _
  apply List.ext_getElem?
  intro k
  simp only [List.getElem?_map, List.getElem?_modify]
  by_cases hk : j = k
  ·subst hk; rw [hp]; simp
  ·simp [hk]
theorem GM (b : Bk) (k : Nat) : ((gS b k).map (·.1)).Nodup ∧ ∀ a, a ∈ (gS b k).map (·.1) ↔ ∃ i, i < k ∧ b.slots.getD i 0 ≠ 0 ∧ eR b i = a := by
 induction k with
 | zero => exact ⟨by simp [gS], fun a => by simp [gS]⟩
 | succ k ih =>
  obtain ⟨h1, h2⟩ := ih
  unfold gS
  by_cases hz : b.slots.getD k 0 = 0
  ·rw [if_neg (by rw [hz]; decide)]
   refine ⟨h1, fun a => ?_⟩
   rw [h2]
   constructor
   ·rintro ⟨i, hi, h3, h4⟩; exact ⟨i, by omega, h3, h4⟩
   ·rintro ⟨i, hi, h3, h4⟩
    refine ⟨i, ?_, h3, h4⟩
    rcases Nat.lt_or_ge i k with h | h
    ·exact h
    ·obtain rfl : i = k := by omega
     exact absurd hz h3
  ·rw [if_pos (by simpa using hz)]
   have key : ∀ a, (a ∈ (gS b k).map (·.1) ∨ a = eR b k) ↔ ∃ i, i < k + 1 ∧ b.slots.getD i 0 ≠ 0 ∧ eR b i = a := fun a => by
    rw [h2]
    constructor
    ·rintro (⟨i, hi, h3, h4⟩ | rfl)
     ·exact ⟨i, by omega, h3, h4⟩
     ·exact ⟨k, by omega, hz, rfl⟩
    ·rintro ⟨i, hi, h3, h4⟩
     rcases Nat.lt_or_ge i k with h | h
     ·exact .inl ⟨i, h, h3, h4⟩
     ·obtain rfl : i = k := by omega
      exact .inr h4.symm
   rcases Gb (gS b k) (eR b k) (numOf (gS b k) (eR b k) + 1) with ⟨hm, he⟩ | ⟨hm, he⟩
   ·rw [he]
    refine ⟨h1, fun a => ?_⟩
    rw [← key]
    constructor
    ·exact .inl
    ·rintro (h | rfl)
     ·exact h
     ·exact hm
   ·rw [he]
    refine ⟨?_, fun a => ?_⟩
    ·rw [List.nodup_append]
     refine ⟨h1, by simp, fun x hx y hy e => ?_⟩
     rw [List.mem_singleton.1 hy] at e
     exact hm (e ▸ hx)
    ·rw [← key, List.mem_append, List.mem_singleton]
theorem C5 (b : Bk) (a : At) : ∀ k, numOf (gS b k) a = ((dk b (sameAt a) k).length : Int) := by
 intro k
 induction k with
 | zero => rfl
 | succ k ih =>
  rw [mG]
  unfold gS
  by_cases hz : b.slots.getD k 0 = 0
  ·rw [if_neg (by rw [hz]; decide), if_neg (by rw [hz]; simp), List.append_nil, ih]
  ·rw [if_pos (by simpa using hz)]
   by_cases ha : a = eR b k
   ·subst ha
    rw [ub, if_pos (by rw [lg, Bool.and_true]; simpa using hz), List.length_append, List.length_singleton, ih]
    omega
   ·have hs : sameAt a (eR b k) = false := by
     cases e : sameAt a (eR b k) with
     | false => rfl
     | true => exact absurd ((gP _ _).1 e) ha
    rw [EJ _ _ _ ha, if_neg (by rw [hs, Bool.and_false]; decide), List.append_nil, ih]
theorem DW {b : Bk} (hg : RG b) : (gS b 64).length = b.attrs.length := by
 obtain ⟨h1, h2⟩ := GM b 64
 have hp : ((gS b 64).map (·.1)).Perm b.attrs := by
  rw [List.perm_ext_iff_of_nodup h1 hg.nd]
  intro a
  rw [h2]
  constructor
  ·rintro ⟨i, hi, h3, rfl⟩
   have hil : i < b.slots.length := by rw [hg.l64]; exact hi
   have hs := hg.s0 (b.slots.getD i 0) (by rw [getD_eq hil]; exact List.getElem_mem hil)
   unfold eR
   rw [kI _ _ (by omega)]
   exact List.getElem_mem _
  ·intro ha
   obtain ⟨j, hj, rfl⟩ := List.getElem_of_mem ha
   have hu := hg.used j hj
   unfold dL at hu
   rw [List.any_eq_true] at hu
   obtain ⟨s, hs, he⟩ := hu
   rw [beq_iff_eq] at he
   obtain ⟨i, hi, rfl⟩ := List.getElem_of_mem hs
   refine ⟨i, by rw [hg.l64] at hi; exact hi, by rw [getD_eq hi]; omega, ?_⟩
   unfold eR
   rw [getD_eq hi, he, show ((((j + 1 : Nat) : Int) - 1).toNat) = j by omega, kI _ _ hj]
 have := hp.length_eq
 rwa [List.length_map] at this
theorem DK (L : List (At × Int)) (a : At) (v : Int) : (putAt L a v).length ≤ L.length + 1 := by
 unfold putAt
 cases idxOf L a <;> simp
theorem LV (b : Bk) : ∀ k, (gS b k).length ≤ k := by
 intro k
 induction k with
 | zero => exact Nat.le_refl _
 | succ k ih =>
  unfold gS
  split
  ·exact Nat.le_trans (DK _ _ _) (by omega)
  ·omega
end Go.Proofs.Ytemhalnhbgkbcaa.V
end

section
namespace Go.Proofs.Ytemhalnhbgkbcaa.V
def uu.T8 : Bool × List (List Nat × List Nat) := (true, [([], []), ([], []), ([1], [1]), ([], []), ([3], [3]), ([2, 4], [2, 4]), ([5], [5]), ([0, 6], [0, 6]), ([7], [7]), ([0, 6, 0, 1, 2, 3, 4, 5, 6], [0, 6]), ([9], [9]), ([0, 10, 8, 9, 0, 1, 2, 3, 4, 5, 6, 7, 8, 9, 10], [0, 8, 10])])
def uu.B8 : List Nat := [0, 0, 2, 0, 8, 30, 62, 127, 255, 127, 639, 2047]
theorem uu.tab8 : dC .any (opsOf Try.f58 8) = uu.T8 := by kernel_rfl
theorem uu.bits8 : cU uu.T8.2 uu.B8 = true := by kernel_rfl
set_option maxHeartbeats 16000000 in
set_option maxRecDepth 100000 in
theorem Fp (b : Bk) (hg : RG b) (v : Value) (w : World) (h : fS w v b) :
  Calls Try.prog 58 #[v] w fun e w' => ∃ g, e = .returned (.map (some g)) ∧ gG w' g (gS b 64) ∧ g < w'.heap.size ∧ Below w.heap.size w w' := by
 obtain ⟨A, c, A', c', rfl, hr⟩ := h
 have HL := ak hr.l64
 have HR := ak hr
 have HG := ak hg
 have ae := ak (Below.refl w.heap.size w)
 have HLN := ak (show (Try.prog.info? 47).map (·.size) = some (b.slots.map (Value.int .u8)).length by rw [List.length_map, hr.l64]; kernel_rfl)
 have hmm := @run_makeMap Try.prog
 clear hr hg
 go_enter Try.func58, Try.ntmps58
 go_wp2_with (first
  | (refine aE rfl 57 (.tmp 0) rfl _ rfl ?_; intro gX W1 J aa I; have bQ := ge ae J; have ai := ak (ae.out.trans (I.mono ae.out.size)); have ah := ak (aa); clear J aa I ae)
  | ((with_reducible refine ax (N := 7) rfl ?_); obtain ⟨gm, AZ⟩ : ∃ gm, gm = W1.heap.size := ⟨_, rfl⟩; rw [← AZ]; generalize bR : W1.alloc (.map #[] 0) = W2; have I : Below W1.heap.size W1 W2 := (by rw [← bR]; exact al (Below.refl _ _) _); have HM := ak (show gG W2 gm [] by rw [← bR, AZ]; exact heap_alloc_new W1 _); have HGM := ak (show gm < W2.heap.size by rw [← bR, AZ]; show _ < (W1.heap.push _).size; simp); have HGE := ak (show w.heap.size ≤ gm by rw [AZ]; exact ai.out.size); have HNX := ak (show gX ≠ gm by have := ah.out.lt; omega); have av := mv I ai; have au := mv I ah; clear bR I AZ ai ah; refine az rfl 57 (.tmp 1) rfl gX rfl _ _ _ au.out Try.underlying57 rfl 68 (by kernel_rfl) (ag _ _ _ _ _ HL.out) ?_)
  | (go_at_call 48; refine (dH b HG.out.ok _ _ ⟨A, c, A', c', rfl, HR.out.below av.out⟩).mono ?_; rintro e W3 ⟨rfl, I⟩; rw [HG.out.right]; have OE := ak (show gG W3 gm [] from (I.block gm HGM.out).trans HM.out); have Mu := ak (show gm < W3.heap.size from Nat.lt_of_lt_of_le HGM.out I.size); have aD := mv I av; have aA := mv I au; clear I av au)
  | (refine eQ rfl 47 (.tmp 11) rfl gX 2 rfl 57 _ (b.slots.map (Value.int .u8)) (.array 64 5) aA.out (kv _ _ _ _ _ HL.out) Try.underlying47 rfl HLN.out ?_))
 go_loopw [5, 13] (fun _ i W => ∃ k : Nat, k ≤ 64 ∧ i = .int .i64 k ∧ Aside0 (aH W gX (aZ b.addr b.aff b.slots (.slice A b.free.length c) (.slice A' b.attrs.length c')) 57) ∧ Aside0 (gG W gm (gS b k)) ∧ Aside0 (gm < W.heap.size) ∧ Aside0 (Below w.heap.size w W)) (fun _ i _ => 64 - (intOf i).toNat)
 case atStart => exact ⟨0, by omega, rfl, aA, OE, Mu, aD⟩
 case round =>
  clear aD aA HM OE HGM Mu
  obtain ⟨k, hk, rfl, aJ, bD, HGM, ae⟩ := hrel
  obtain ⟨W, rfl⟩ : ∃ W : World, W = wr := ⟨_, rfl⟩
  by_cases ni : k < 64
  ·have hkb : decide ((k : Int) < 64) = true := by simp; omega
   have hkl : k < b.slots.length := by have := HL.out; omega
   have hms := HG.out.s0 _ (List.getElem_mem hkl)
   have hna := HG.out.na
   have hge : b.slots.getD k 0 = b.slots[k] := by simp [List.getD, hkl]
   have hix := fun w => nh b.slots HL.out k ni w
   rw [hge] at hix
   by_cases lG : b.slots[k] = 0
   ·rw [lG] at hix
    have HUS := ak (show gS b (k + 1) = gS b k by show (if (b.slots.getD k 0 != 0) = true then _ else _) = _; rw [if_neg (by rw [hge, lG]; decide)])
    clear hms hge lG
    go_wp2_with fail
    go_roundw
    case rel => exact ⟨k + 1, by omega, by go_num, aJ, ⟨by rw [HUS.out]; exact bD.out⟩, HGM, ae⟩
    case measure => simp [intOf]; omega
   ·obtain ⟨m, hm⟩ : ∃ m : Nat, b.slots[k] = (m : Int) + 1 := ⟨(b.slots[k]).toNat - 1, by omega⟩
    have hheld : eR b k = gF b.attrs m := by
     unfold eR
     rw [hge, hm]
     congr 1
     omega
    have hma : m < b.attrs.length := by omega
    have hml : m < 64 := by omega
    have hne : ((((m : Int) + 1) != 0) = true) := by simp; omega
    obtain ⟨a, ha⟩ : ∃ a : At, gF b.attrs m = a := ⟨_, rfl⟩
    have ha' : cH b.attrs (m : Int) = a := ha
    rw [ha] at hheld
    have hct : gS b (k + 1) = putAt (gS b k) a (numOf (gS b k) a + 1) := by
     show (if (b.slots.getD k 0 != 0) = true then putAt (gS b k) (eR b k) (numOf (gS b k) (eR b k) + 1) else gS b k) = _
     rw [if_pos (by rw [hge, hm]; exact hne), hheld]
    have hnn := C5 b a k
    have hul := fD b (sameAt a) k
    obtain ⟨n, hn⟩ : ∃ n : Nat, n = (dk b (sameAt a) k).length := ⟨_, rfl⟩
    rw [← hn] at hnn hul
    rw [hnn] at hct
    have HCT := ak (show gS b (k + 1) = putAt (gS b k) a (wrap64 ((n : Int) + 1)) by rw [iB _ (by omega) (by omega)]; exact hct)
    have Cg := ak hnn
    have HLK := ak (show (gS b k).length < 1000 by have := LV b k; omega)
    rw [hm] at hix hms
    obtain ⟨ad, eA, fF, jf⟩ := kH HR.out.ar m (by omega) (by omega)
    cases eA
    rw [Int.toNat_natCast, ha'] at fF jf
    have HBK := ak (show ad.block ≠ gm by have h_ := World.block_lt_of_cell? w _ fF; have Bl := HGE.out; rw [b5] at h_; omega)
    have HXX := ak (show ∀ W, Below w.heap.size w W → W.cell? (ad.add (m * 2)) = some (.string a.f0) ∧ W.cell? ⟨(ad.add (m * 2)).block, (ad.add (m * 2)).off + 1, none⟩ = some (.string a.f1) from fun W hb => ⟨(hb.cell (World.block_lt_of_cell? w _ fF)).trans fF, (hb.cell (World.block_lt_of_cell? w _ jf)).trans jf⟩)
    have HAB := ak (b5 ad (m * 2))
    have RW : IntKind.u8.wrap (m : Int) = (m : Int) := by rw [IntKind.wrap_u8]; omega
    have p1 : ((m : Int) < (b.attrs.length : Int)) = True := eq_true (by omega)
    have Lo := (HXX.out W ae.out).1
    have Ln := (HXX.out W ae.out).2
    have nz := aJ.out.cell 67 _ (fi _ _ _ _ _ HL.out)
    clear hct hnn hul hn hge lG hm hheld hma ha ha' fF jf
    go_wp2_with fail
    refine cW (n := 12) (S := fun w' => w'.cell? ⟨gX, 67, none⟩ = some (Value.slice (some ad) b.attrs.length c') ∧ w'.cell? (ad.add (m * 2)) = some (.string a.f0) ∧ w'.cell? ⟨(ad.add (m * 2)).block, (ad.add (m * 2)).off + 1, none⟩ = some (.string a.f1) ∧ ∃ L1, gG w' gm L1 ∧ numOf L1 a = (n : Int)) (ds := [11]) #[false, false, false, false, false, false, false, false, false, false, false, false] (by kernel_rfl) rfl rfl ⟨nz, Lo, Ln, _, bD.out, Cg.out⟩ (fun hHeld => ?_); refine bK uu.tab8 uu.bits8 (fun ab bj => ?_)
    refine pu 0 ab.out ?_
    refine pu 1 ab.out ?_
    refine tk 2 ab.out bj.out hHeld ?_ (hv := by intro w' aU; obtain ⟨s0, s1, s2, s3⟩ := aU; go_simp; with_reducible rfl)
    refine pu 3 ab.out ?_
    refine pu 4 ab.out ?_ (hv := by intro w'; go_simp; (try rw [RW]); with_reducible rfl)
    refine pu 5 ab.out ?_
    refine tk 6 ab.out bj.out hHeld ?_ (hv := by intro w' aU; obtain ⟨s0, s1, s2, s3⟩ := aU; go_simp; with_reducible rfl)
    refine tk 7 ab.out bj.out hHeld ?_ (hv := by intro w' aU; obtain ⟨s0, s1, s2, L1, s3, s4⟩ := aU; have hlk := qk _ _ _ s3 a; rw [s4] at hlk; simp only [ej] at hlk; go_simp; with_reducible rfl)
    refine pu 8 ab.out ?_
    refine on 9 ab.out (fun K hK => ?_)
    obtain ⟨W6, W7, jj, Bd, Fc, Hl, E4, ql, zi⟩ := zl W.drew gm _ bD.out HLK.out a (wrap64 ((n : Int) + 1)); rw [Cg.out] at Bd; simp only [ej] at Bd
    refine th (v := .tuple #[.int .i64 (n : Int), .int .i64 jj]) (w1 := W6) (by rfl) ?_ ?_
    ·go_simp
     try rfl
    refine kn hK ⟨(zi _ HNX.out).trans nz, (zi _ (by rw [HAB.out]; exact HBK.out)).trans Lo, (zi _ (by show (ad.add (m * 2)).block ≠ gm; rw [HAB.out]; exact HBK.out)).trans Ln, by obtain ⟨L1, h1, h2⟩ := Fc; exact ⟨L1, h1, h2.trans Cg.out⟩⟩ (fun hHeld => ?_)
    clear hK K
    refine pu 10 ab.out ?_
    refine pr (i := 11) (N := none) #[true, true, true, true, true, true, true, true, true, true, true, true] rfl rfl (lL ab.out (by kernel_rfl)) (by decide) (fun K hK => ?_)
    refine oA (w1 := ?_) (by rfl) rfl ?_ ?_
    rotate_left
    ·go_simp
     rfl
    refine hK.out _ _ ?_
    clear hK K
    refine dn ab.out ?_
    have OB := ak ((show aH W.drew gX (aZ b.addr b.aff b.slots (.slice A b.free.length c) (.slice (some ad) b.attrs.length c')) 57 from aJ.out).grown ql (fun e => HNX.out (Option.some.inj e)))
    have xv := ak E4
    rw [← HCT.out] at xv
    have Js := ak ((bo ae.out).grown ql ae.out.size (fun q hq => by cases hq; exact HGE.out))
    have FO := ak (show gm < W7.heap.size from Nat.lt_of_lt_of_le HGM.out ql.size)
    clear E4 ql zi Bd Hl Fc hHeld
    go_wp2_with fail
    go_roundw
    case rel => exact ⟨k + 1, by omega, by go_num, OB, xv, FO, Js⟩
    case measure => simp [intOf]; omega
  ·obtain rfl : k = 64 := by omega
   rw [show ((64 : Nat) : Int) = (64 : Int) from rfl]
   have hkb : decide ((64 : Int) < 64) = false := by decide
   go_wp2
   go_ret
   exact ⟨gm, rfl, bD.out, HGM.out, ae.out⟩
end Go.Proofs.Ytemhalnhbgkbcaa.V
end

section
namespace Go.Proofs.Ytemhalnhbgkbcaa.V
attribute [local go_sem high] zO
def uB.T12 : Bool × List (List Nat × List Nat) := (true, [([], []), ([], []), ([0, 1], [0, 1]), ([2], [2]), ([3], [3]), ([3], [3]), ([5, 3, 3], [3, 5]), ([4, 6, 3], [3, 4, 6]), ([3, 7], [3, 7]), ([8, 6], [8]), ([9], [9]), ([10, 9, 9], [9, 10]), ([9], [9]), ([12, 11, 9], [9, 12]), ([11, 13, 13, 9], [9, 11, 13]), ([14, 9], [9, 14]), ([9, 15], [9, 15]), ([16, 14], [16]), ([17], [17]), ([18, 17, 17], [17, 18]), ([17], [17]), ([20, 17], [17, 20]), ([21, 17], [17, 21]), ([22, 17], [17, 22]), ([19, 23, 17], [17, 19, 23]), ([17, 24], [17, 24])])
def uB.B12 : List Nat := [0, 0, 3, 7, 15, 15, 47, 127, 255, 511, 1023, 2047, 1023, 8191, 16383, 32767, 65535, 131071, 262143, 524287, 262143, 1310719, 3407871, 7602175, 16777215, 33554431]
theorem uB.tab12 : dC .any (opsOf Try.f13 12) = uB.T12 := by kernel_rfl
theorem uB.bits12 : cU uB.T12.2 uB.B12 = true := by kernel_rfl
def uA.T20 : Bool × List (List Nat × List Nat) := (true, [([], []), ([], []), ([1], [1]), ([0, 2], [0, 2]), ([], []), ([], []), ([5], [5]), ([], []), ([7], [7]), ([4, 6, 8, 2], [4, 6, 8]), ([9], [9]), ([3, 10], [3, 10])])
def uA.B20 : List Nat := [0, 0, 2, 7, 0, 0, 32, 0, 128, 502, 1014, 2047]
theorem uA.tab20 : dC .any (opsOf Try.f13 20) = uA.T20 := by kernel_rfl
theorem uA.bits20 : cU uA.T20.2 uA.B20 = true := by kernel_rfl
theorem qJ {W W1 : World} {g : Nat} {L : List (At × Int)} (h : gG W g L) (hb : Below W.heap.size W W1) : gG W1 g L := (hb.block g (Array.getElem?_eq_some_iff.1 h).1).trans h
theorem EN {W W1 : World} {g g' : Nat} {L : List (At × Int)} (h : gG W g L) (hg : W.grownBy W1 (some g')) (hn : g ≠ g') : gG W1 g L := (hg.block g (Array.getElem?_eq_some_iff.1 h).1 (fun e => hn (Option.some.inj e))).trans h
theorem Lh {W : World} {g g' t : Nat} {cs : List Value} {L : List (At × Int)} (h : gG W g L) (hx : aH W g' cs t) : g ≠ g' := by
 rintro rfl
 unfold gG at h
 unfold aH at hx
 rw [h] at hx
 cases hx
theorem tE {s : ByteArray} (h : fp s = true) : (s.toList == (⟨#[]⟩ : ByteArray).toList) = false := by
 cases e : (s.toList == (⟨#[]⟩ : ByteArray).toList) with
 | false => rfl
 | true =>
  rw [beq_iff_eq, ByteArray.toList_eq, ByteArray.toList_eq] at e
  unfold fp at h
  simp only [Bool.and_eq_true, decide_eq_true_eq] at h
  have h2 : s.size = 0 := by
   show s.data.size = 0
   rw [← Array.length_toList, e]
   rfl
  omega
theorem JI (a : At) (ha : eo a = true) : pG a.f0 a.f1 = sameAt a := by
 unfold eo at ha
 rw [Bool.and_eq_true] at ha
 have h0 := tE ha.1
 have h1 := tE ha.2
 funext x
 unfold pG
 rw [h0, h1, Bool.false_or, Bool.false_or, se]
 rfl
set_option maxHeartbeats 16000000 in
set_option maxRecDepth 100000 in
theorem yM (a0 : Int) (h0 : 0 ≤ a0) (h1 : a0 < 4294967296) (vl : Value) (l : List St) (n : Int) (lP : 0 ≤ n) (pf : n < 256) (w : World) (hst : StepsIs w vl l) :
  Calls Try.prog 13 #[.int .u32 a0, vl, .int .u8 n] w fun e w' => e = .returned (.bool true) ∧ Below w.heap.size w w' := by
 obtain ⟨aff, haff⟩ : ∃ aff : ByteArray, aff = ⟨#[]⟩ := ⟨_, rfl⟩
 have hon : fW aff = true := by rw [haff]; kernel_rfl
 obtain ⟨hlm, hok, A, c, rfl, hlc, hat⟩ := hst
 obtain ⟨b, hb⟩ : ∃ b, b = tb a0 aff := ⟨_, rfl⟩
 have hg : RG b := by rw [hb]; exact RG.new a0 h0 h1 aff hon
 have pf := fun w => CW a0 h0 h1 aff w
 rw [hon] at pf
 simp only [if_true] at pf
 have C0 := fun w => F5 a0 h0 h1 aff w
 rw [← hb] at pf C0
 obtain ⟨M, hM⟩ : ∃ M, M = b.attrs.map vc := ⟨_, rfl⟩
 have HL := ak hg.l64
 have HM := ak hM
 have HG := ak hg
 have Cf := ak pf
 have xp := ak C0
 have HLB := fun Af cf Aa ca => ak (cg (aZ b.addr b.aff b.slots (.slice Af b.free.length cf) (.slice Aa b.attrs.length ca)) (ag _ _ _ _ _ HL.out))
 have ae := ak (Below.refl w.heap.size w)
 have HLM := ak hlm
 have HLC := ak hlc
 have HAT := ak hat
 have HOK := ak hok
 rw [haff] at Cf xp
 clear hlm hlc hat hok hb hg pf C0 hM h0 h1 hon haff
 go_enter Try.func13, Try.ntmps13
 go_wp2_with (first
  | (go_at_call 41; refine (Cf.out _).mono ?_; rintro e W1 ⟨v_, rfl, aW, I⟩; obtain ⟨iD, oP, oQ, rfl, di, dO⟩ := aW; obtain ⟨Af, cf, rfl⟩ := Kd.R_slice di; obtain ⟨Aa, ca, rfl⟩ := Kd.R_slice dO; have ai := ak (ae.out.trans (I.mono ae.out.size)); have bp := ak (Kd.R_lower di ae.out.size); have dp := ak (Kd.R_lower dO ae.out.size); clear iD di dO I ae)
  | (refine aw (some 7) rfl rfl 57 rfl a9 bP ?_; intro gX W2 J aa I; have bQ := ge ai J; have av := mv I ai; have bT := mv I bp; have dF := mv I dp; have au := ak (aa); clear J aa I ai bp dp)
  | (refine aN rfl 57 (.tmp 7) (.tmp 23) rfl gX (aZ b.addr b.aff b.slots (.slice Af b.free.length cf) (.slice Aa b.attrs.length ca)) rfl rfl 57 _ au.out 68 (by kernel_rfl) (ag _ _ _ _ _ HL.out) rfl (b4 _ _ _ _ _ rfl rfl) ?_; intro W3 aa J; have aD := gb av bQ J; have cj := gr bT au J; have dQ := gr dF au J; have aA := ak (aa); clear aa J av bT dF au)
  | (go_at_call 45; refine (xp.out _).mono ?_; rintro e W4 ⟨v9, rfl, fC, I⟩; obtain ⟨tT, qE, qF, rfl, fZ, fb, ep⟩ := fC; obtain ⟨As, cs, rfl⟩ := Kd.R_slice fZ; obtain ⟨Ap, cp, rfl⟩ := Kd.R_slice fb; rw [← HM.out] at ep; obtain ⟨Am, cm, rfl⟩ := Kd.R_slice ep; have aY := mv I aD; have ch := mv I cj; have dE := mv I dQ; have aV := mv I aA; have cx := ak (Kd.R_lower fZ aD.out.size); have dX := ak (Kd.R_lower fb aD.out.size); have cR := ak (Kd.R_lower ep aD.out.size); clear fZ fb ep I aD cj dQ aA)
  | (refine aw (some 9) rfl rfl 62 rfl dG (fun _ => by kernel_rfl) ?_; intro gY W5 J aa I; have iX := ge aY J; have fB := ne aV J; have bf := mv I aY; have cb := mv I ch; have de := mv I dE; have bb := mv I aV; have cJ := mv I cx; have ee := mv I dX; have cG := mv I cR; have cB := ak (aa); clear J aa I aY ch dE aV cx dX cR)
  | (refine aN rfl 62 (.tmp 9) (.tmp 26) rfl gY (da b.addr b.aff (.slice As b.slots.length cs) (.slice Ap b.free.length cp) (.slice Am M.length cm)) rfl rfl 62 _ cB.out 5 (by kernel_rfl) rfl rfl (dJ _ _ rfl rfl rfl) ?_; intro W6 aa J; have bG := gb bf iX J; have cQ := gr cb cB J; have dt := gr de cB J; have bh := gx bb cB J; have cY := gr cJ cB J; have ef := gr ee cB J; have dD := gr cG cB J; have cX := ak (aa); clear aa J bf cb de bb cJ ee cG cB))
 go_loopw [10, 11, 29] (fun _ _ i W => ∃ (k : Nat) (b : Bk), k ≤ l.length ∧ i = .int .i64 k ∧ Aside0 (RG b) ∧ Aside0 (OC W w.heap.size gX b) ∧ Aside0 (RX W w.heap.size gY b) ∧ Aside0 (Below w.heap.size w W)) (fun _ _ i _ => l.length - (intOf i).toNat)
 case atStart => exact ⟨0, b, by omega, rfl, HG, ⟨⟨HL.out, _, _, bh.out, cQ.out, dt.out⟩⟩, ⟨⟨M, _, _, _, HM.out, cX.out, cY.out, ef.out, dD.out⟩⟩, bG⟩
 case round =>
  clear bG cQ dt bh cY ef dD cX HL HM HG Cf xp HLB
  obtain ⟨k, b, hk, rfl, HG, HO, HR, ae⟩ := hrel
  obtain ⟨W, rfl⟩ : ∃ W : World, W = wr := ⟨_, rfl⟩
  obtain ⟨Af, cf, Aa, ca, hx, hf, ha⟩ := HO.out.open
  have Lu := HO.out.l64
  obtain ⟨M, As, cs, Ap, cp, Am, cm, hm, hy, hs, hp, hmm⟩ := HR.out.open
  have HL := ak Lu
  have HM := ak hm
  have aJ := ak hx
  have bw := ak hf
  have dY := ak ha
  have gD := ak hy
  have aX := ak hs
  have dT := ak hp
  have bD := ak hmm
  clear HO HR Lu hm hx hf ha hy hs hp hmm
  by_cases hkl : k < l.length
  ·skip
   obtain ⟨s, hs⟩ : ∃ s, s = l.getD k G6 := ⟨_, rfl⟩
   have hsm : s ∈ l := by rw [hs, show l.getD k G6 = l[k] by simp [List.getD, hkl]]; exact List.getElem_mem hkl
   have hso := HOK.out s hsm
   have HSO := ak hso
   obtain ⟨ad, hA, hc⟩ := HAT.out k hkl
   subst hA
   rw [← hs] at hc
   have hbw := ae.out
   have ke := (hbw.cell (World.block_lt_of_cell? w _ (hc 0 _ rfl))).trans (hc 0 _ rfl)
   have qo := (hbw.cell (World.block_lt_of_cell? w _ (hc 1 _ rfl))).trans (hc 1 _ rfl)
   have jX := (hbw.cell (World.block_lt_of_cell? w _ (hc 2 _ rfl))).trans (hc 2 _ rfl)
   have ot := (hbw.cell (World.block_lt_of_cell? w _ (hc 3 _ rfl))).trans (hc 3 _ rfl)
   have mA := (hbw.cell (World.block_lt_of_cell? w _ (hc 4 _ rfl))).trans (hc 4 _ rfl)
   have Gw := (hbw.cell (World.block_lt_of_cell? w _ (hc 5 _ rfl))).trans (hc 5 _ rfl)
   rw [Nat.add_zero] at ke
   rw [l4 _ _ 1 (by omega)] at qo
   rw [l4 _ _ 2 (by omega)] at jX
   rw [l4 _ _ 3 (by omega)] at ot
   rw [l4 _ _ 4 (by omega)] at mA
   rw [l4 _ _ 5 (by omega)] at Gw
   have p0 : decide ((k : Int) < (l.length : Int)) = true := by simp; omega
   have p1 : ((k : Int) < (l.length : Int)) = True := eq_true (by omega)
   have p2 : ((0 : Int) ≤ (k : Int)) = True := eq_true (by omega)
   have p3 : (k < l.length) = True := eq_true hkl
   have HKL := ak hkl
   clear hs hsm hso hc hbw hkl
   have HLB := ak (cg (aZ b.addr b.aff b.slots (.slice Af b.free.length cf) (.slice Aa b.attrs.length ca)) (ag _ _ _ _ _ HL.out))
   by_cases Uu : k < 12
   ·have u0 : decide ((k : Int) < 12) = true := by simp; omega
    have u1 : ((k : Int) < 12) = True := eq_true (by omega)
    go_wp2_with (first
     | (refine aw (some 11) rfl rfl 79 rfl [.int .i64 0, .int .i64 0, .string ⟨#[]⟩, .string ⟨#[]⟩, .slice none 0 0, .string ⟨#[]⟩] (fun _ => by kernel_rfl) ?_; intro gT W1 J aa I; have j9 := ge ae J; have gW := ne aJ J; have ir := ne gD J; have ai := ak (ae.out.trans (I.mono ae.out.size)); have bp := mv I bw; have dp := mv I dY; have bd := mv I aX; have cZ := mv I dT; have bH := mv I bD; have ah := mv I aJ; have iG := mv I gD; have iv := ak (aa); clear J aa I ae bw dY aX dT bD aJ gD ke qo jX ot mA Gw)
     | (refine aN rfl 79 (.tmp 11) (.tmp 33) rfl gT [.int .i64 s.kd, .int .i64 s.n, .string s.a.f0, .string s.a.f1, .slice s.A s.l.length s.c, .string s.aff] rfl rfl 79 _ iv.out 6 (by kernel_rfl) rfl rfl (fun u_ lF => by simp only [List.mem_cons, List.not_mem_nil, or_false] at lF; rcases lF with rfl | rfl | rfl | rfl | rfl | rfl <;> rfl) ?_; intro W2 aa J; have av := gb ai j9 J; have bT := gr bp iv J; have dF := gr dp iv J; have bC := gr bd iv J; have dd := gr cZ iv J; have b9 := gr bH iv J; have au := gx ah iv J; have b8 := gx iG iv J; have sn := ak (aa); clear aa J ai bp dp bd cZ bH ah iG iv)
     | ((with_reducible refine ax (N := 37) rfl ?_); refine az rfl 57 (.tmp 7) rfl gX rfl _ _ _ au.out Try.underlying57 rfl 68 (by kernel_rfl) (ag _ _ _ _ _ HL.out) ?_)
     | ((with_reducible refine ax (N := 38) rfl ?_); refine az rfl 62 (.tmp 9) rfl gY rfl _ _ _ b8.out Try.underlying62 rfl 5 (by kernel_rfl) rfl ?_)
     | ((with_reducible refine ax (N := 39) rfl ?_); refine az rfl 79 (.tmp 11) rfl gT rfl _ _ _ sn.out Try.underlying79 rfl 6 (by kernel_rfl) rfl ?_)
     | (go_at_call 47; refine (LU b HG.out s.kd s.n HSO.out.n s.a HSO.out.z0 HSO.out.z1 s.l HSO.out.u HSO.out.lm s.A s.c HSO.out.lc s.aff HSO.out.za _ _ _ w.heap.size av.out.size ⟨HL.out, _, _, rfl, bT.out, dF.out⟩ ⟨_, _, _, rfl, bC.out, dd.out, by rw [← HM.out]; exact b9.out⟩ (Kd.C_below HSO.out.r av.out)).mono ?_; rintro e W3 ⟨v_, v9, nb, rfl, hrg, aW, fC, I⟩; have HRG := ak hrg; have HNL := ak hrg.l64; obtain ⟨iD, oP, oQ, rfl, di, dO⟩ := aW; obtain ⟨A8, c8, rfl⟩ := Kd.R_slice di; obtain ⟨A9, c9, rfl⟩ := Kd.R_slice dO; obtain ⟨tT, qE, qF, rfl, fZ, fb, ep⟩ := fC; obtain ⟨A1, c1, rfl⟩ := Kd.R_slice fZ; obtain ⟨A2, c2, rfl⟩ := Kd.R_slice fb; obtain ⟨NM, hNM⟩ : ∃ NM, NM = nb.attrs.map vc := ⟨_, rfl⟩; rw [← hNM] at ep; have HNM := ak hNM; obtain ⟨A3, c3, rfl⟩ := Kd.R_slice ep; have aD := mv I av; have cj := mv I bT; have dQ := mv I dF; have bU := mv I bC; have dA := mv I dd; have cN := mv I b9; have aA := mv I au; have b7 := mv I b8; have dK := mv I sn; have MB := ak (di); have uN := ak (dO); have uM := ak (fZ); have Mq := ak (fb); have My := ak (ep); clear hrg iD di dO hNM fZ fb ep I av bT dF bC dd b9 au b8 sn)
     | (refine aN rfl 57 (.tmp 7) (.tmp 41) rfl gX (aZ nb.addr nb.aff nb.slots (.slice A8 nb.free.length c8) (.slice A9 nb.attrs.length c9)) rfl rfl 57 _ aA.out 68 (by kernel_rfl) (ag _ _ _ _ _ HNL.out) (ag _ _ _ _ _ HL.out) (b4 _ _ _ _ _ rfl rfl) ?_; intro W4 aa J; have aY := gb aD bQ J; have ch := gr cj aA J; have dE := gr dQ aA J; have cx := gr bU aA J; have dX := gr dA aA J; have cR := gr cN aA J; have aV := ak (aa); have bZ := gx b7 aA J; have dP := gx dK aA J; have MA := gr MB aA J; have Mz := gr uN aA J; have uL := gr uM aA J; have Mp := gr Mq aA J; have Mx := gr My aA J; clear aa J aD cj dQ bU dA cN aA b7 dK MB uN uM Mq My)
     | (refine aN rfl 62 (.tmp 9) (.tmp 42) rfl gY (da nb.addr nb.aff (.slice A1 nb.slots.length c1) (.slice A2 nb.free.length c2) (.slice A3 NM.length c3)) rfl rfl 62 _ bZ.out 5 (by kernel_rfl) rfl rfl (dJ _ _ rfl rfl rfl) ?_; intro W5 aa J; have bf := gb aY iX J; have cb := gr ch bZ J; have de := gr dE bZ J; have cJ := gr cx bZ J; have ee := gr dX bZ J; have cG := gr cR bZ J; have bb := gx aV bZ J; have cB := ak (aa); have bx := gx dP bZ J; have PB := gr MA bZ J; have PA := gr Mz bZ J; have jO := gr uL bZ J; have Px := gr Mp bZ J; have Pz := gr Mx bZ J; clear aa J aY ch dE cx dX cR aV bZ dP MA Mz uL Mp Mx))
    go_roundw
    case rel => exact ⟨k + 1, nb, by have := HKL.out; omega, by (first | rfl | (simp only [intOf]; congr 1; omega) | skip), HRG, ⟨⟨HNL.out, _, _, bb.out, PB.out, PA.out⟩⟩, ⟨⟨NM, _, _, _, HNM.out, cB.out, jO.out, Px.out, Pz.out⟩⟩, bf⟩
    case measure => have := HKL.out; simp [intOf]; omega
   ·have u0 : decide ((k : Int) < 12) = false := by simp; omega
    have u1 : ((k : Int) < 12) = False := eq_false (by omega)
    have hwr := ak (show wrap64 ((k : Int) + 1) = ((k + 1 : Nat) : Int) by have := HKL.out; have := HLM.out; rw [iB _ (by omega) (by omega)]; omega)
    go_wp2_with (first
     | (refine aw (some 11) rfl rfl 79 rfl [.int .i64 0, .int .i64 0, .string ⟨#[]⟩, .string ⟨#[]⟩, .slice none 0 0, .string ⟨#[]⟩] (fun _ => by kernel_rfl) ?_; intro gT W1 J aa I; have j9 := ge ae J; have gW := ne aJ J; have ir := ne gD J; have ai := ak (ae.out.trans (I.mono ae.out.size)); have bp := mv I bw; have dp := mv I dY; have bd := mv I aX; have cZ := mv I dT; have bH := mv I bD; have ah := mv I aJ; have iG := mv I gD; have iv := ak (aa); clear J aa I ae bw dY aX dT bD aJ gD ke qo jX ot mA Gw)
     | (refine aN rfl 79 (.tmp 11) (.tmp 33) rfl gT [.int .i64 s.kd, .int .i64 s.n, .string s.a.f0, .string s.a.f1, .slice s.A s.l.length s.c, .string s.aff] rfl rfl 79 _ iv.out 6 (by kernel_rfl) rfl rfl (fun u_ lF => by simp only [List.mem_cons, List.not_mem_nil, or_false] at lF; rcases lF with rfl | rfl | rfl | rfl | rfl | rfl <;> rfl) ?_; intro W2 aa J; have av := gb ai j9 J; have bT := gr bp iv J; have dF := gr dp iv J; have bC := gr bd iv J; have dd := gr cZ iv J; have b9 := gr bH iv J; have au := gx ah iv J; have b8 := gx iG iv J; have sn := ak (aa); clear aa J ai bp dp bd cZ bH ah iG iv))
    go_roundw
    case rel => exact ⟨k + 1, b, by have := HKL.out; omega, by rw [hwr.out], HG, ⟨⟨HL.out, _, _, au.out, bT.out, dF.out⟩⟩, ⟨⟨M, _, _, _, HM.out, b8.out, bC.out, dd.out, b9.out⟩⟩, av⟩
    case measure => have h_ := HKL.out; rw [hwr.out]; simp [intOf]; omega
  ·have p0 : decide ((k : Int) < (l.length : Int)) = false := by simp; omega
   have p1 : ((k : Int) < (l.length : Int)) = False := eq_false (by omega)
   have p3 : (k < l.length) = False := eq_false hkl
   clear hkl
   have hg := HG.out
   obtain ⟨x, aa⟩ : ∃ x : Int, x = (b.addr + n) % 4294967296 := ⟨_, rfl⟩
   have fF : 0 ≤ x ∧ x < 4294967296 := by omega
   have TS : IntKind.u32.wrap n = n := by rw [IntKind.wrap_u32]; omega
   have TI : IntKind.u32.wrap (b.addr + n) = x := by rw [IntKind.wrap_u32, aa]
   have fw := fun v w h => Gf b hg x fF.1 fF.2 v w h
   have wD := fun w h => oe b hg.l64 hg.ok.s8 (fun s hs => (hg.s0 s hs).2) M As Ap Am cs cp cm w h x fF.1 fF.2
   have hgb := fun v w h => Ff b hg.ok v w h
   rw [hg.right] at hgb
   simp only [if_true] at hgb
   have hrg := fun h n v w hV => sZ b hg.ok (iw hg.right) hg.l64 h n v w hV
   have hpe : pG ⟨#[]⟩ ⟨#[]⟩ = (fun _ => true) := by
    funext a
    have e : ((⟨#[]⟩ : ByteArray).toList == (⟨#[]⟩ : ByteArray).toList) = true := beq_self_eq_true _
    unfold pG
    rw [e]
    rfl
   have DP := fun v w hV => hrg ⟨#[]⟩ ⟨#[]⟩ v w hV
   rw [hpe] at DP
   have hem := fun v w h => zm b hg.ok v w h
   rw [hg.right] at hem
   simp only [Bool.true_and] at hem
   obtain ⟨fe, hfe⟩ : ∃ fe : Bool, fe = ((b.free.length : Int) == 64) := ⟨_, rfl⟩
   rw [← hfe] at hem
   have e0 : ((b.free.length : Int) == 64) = fe := hfe.symm
   have e1 : decide ((b.free.length : Int) = 64) = fe := by rw [hfe]; rfl
   have hco := fun v w h => Fp b hg v w h
   obtain ⟨ul, hul⟩ : ∃ ul, ul = dk b (fun _ => true) 64 := ⟨_, rfl⟩
   have hulen := fD b (fun _ => true) 64
   rw [← hul] at hgb DP hulen
   obtain ⟨cl, hcl⟩ : ∃ cl, cl = gS b 64 := ⟨_, rfl⟩
   have hml : M.length = b.attrs.length := by rw [HM.out, List.length_map]
   have hcll : cl.length = M.length := by rw [hcl, DW hg, hml]
   have hnum : ∀ a, eo a = true → numOf cl a = ((dk b (pG a.f0 a.f1) 64).length : Int) := fun a ha => by
    rw [hcl, C5, JI a ha]
   have hat : ∀ k, k < M.length → ∃ a : At, fv M (k : Int) = vc a ∧ eo a = true := fun k hk => by
    refine ⟨b.attrs[k], ?_, hg.may _ (List.getElem_mem _)⟩
    simp [fv, List.getD, HM.out, List.getElem?_eq_getElem (show k < b.attrs.length by omega)]
   rw [← hcl] at hco
   obtain ⟨z, hz⟩ : ∃ z, z = kb b x := ⟨_, rfl⟩
   obtain ⟨zb, hzb⟩ : ∃ zb, zb = gw b x := ⟨_, rfl⟩
   rw [← hz, ← hzb] at fw wD
   have kA := ak fw
   have SU := ak wD
   have HGB := ak hgb
   have HRG := ak hrg
   have Pr := ak DP
   have HEM := ak hem
   have HCO := ak hco
   have HULN := ak (show ul.length ≤ 1000 by omega)
   have HCLL := ak hcll
   have HNUM := ak hnum
   have HATM := ak hat
   have HML := ak (show M.length ≤ 1000 by have := hg.na; omega)
   have HCV := ak (fun w => (show Calls Try.prog 50 #[.agg #[.string z.f0, .string z.f1]] w fun e w' => e = .returned (ej z) ∧ Below w.heap.size w w' from jI (vc z) w))
   have HLB := ak (cg (aZ b.addr b.aff b.slots (.slice Af b.free.length cf) (.slice Aa b.attrs.length ca)) (ag _ _ _ _ _ HL.out))
   have ke := gD.out.cell 0 _ rfl
   clear hg aa fF fw wD hgb hrg DP hpe hem hfe hco hul hulen hcl hml hcll hnum hat hz hzb
   go_wp2_with (first
    | ((with_reducible refine ax (N := 51) rfl ?_); refine az rfl 57 (.tmp 7) rfl gX rfl _ _ _ aJ.out Try.underlying57 rfl 68 (by kernel_rfl) (ag _ _ _ _ _ HL.out) ?_)
    | (go_at_call 56; refine (kA.out _ _ ⟨_, _, _, _, rfl, ⟨HL.out, (rr bw).1, (rr bw).2, (rr dY).1, (rr dY).2⟩⟩).mono ?_; rintro e W1 ⟨rfl, I⟩; have ai := ak (ae.out.trans (I.mono ae.out.size)); have bp := mv I bw; have dp := mv I dY; have bd := mv I aX; have cZ := mv I dT; have bH := mv I bD; have ah := mv I aJ; have iG := mv I gD; clear I ae bw dY aX dT bD aJ gD ke)
    | (refine aw (some 13) rfl rfl 85 rfl [.string ⟨#[]⟩, .string ⟨#[]⟩] (fun _ => by kernel_rfl) ?_; intro gV W2 J aa I; have df := ge ai J; have fx := ne ah J; have eC := ne iG J; have av := mv I ai; have bT := mv I bp; have dF := ak (Kd.R_mono (ok' := fun k_ => k_ ≠ gV) (Kd.R_below (Kd.R_bound dp.out) I) (fun k_ cD e_ => by have h_ := cD.2.2.1; omega)); have bC := mv I bd; have dd := mv I cZ; have b9 := mv I bH; have au := mv I ah; have b8 := mv I iG; have dc := ak (aa); clear J aa I ai bp dp bd cZ bH ah iG)
    | (refine aN rfl 85 (.tmp 13) (.tmp 54) rfl gV [.string z.f0, .string z.f1] rfl rfl 85 _ dc.out 2 (by kernel_rfl) rfl rfl (fun u_ lF => by simp only [List.mem_cons, List.not_mem_nil, or_false] at lF; rcases lF with rfl | rfl <;> rfl) ?_; intro W3 aa J; have aD := gb av df J; have cj := gr bT dc J; have dQ := ak (Kd.R_mono (ok' := fun _ => True) (Kd.R_grown dF.out J (fun k_ cD e_ => cD (Option.some.inj e_))) (fun _ _ => trivial)); have bU := gr bC dc J; have dA := gr dd dc J; have cN := gr b9 dc J; have aA := gx au dc J; have b7 := gx b8 dc J; have mB := ak (aa); clear aa J av bT dF bC dd b9 au b8 dc)
    | ((with_reducible refine ax (N := 57) rfl ?_); refine az rfl 62 (.tmp 9) rfl gY rfl _ _ _ b7.out Try.underlying62 rfl 5 (by kernel_rfl) rfl ?_)
    | (go_at_call 62; refine (SU.out _ (jd.of HM.out bU.out dA.out cN.out)).mono ?_; rintro e W4 ⟨rfl, I⟩; have aY := mv I aD; have ch := mv I cj; have dE := mv I dQ; have cx := mv I bU; have dX := mv I dA; have cR := mv I cN; have aV := mv I aA; have bZ := mv I b7; have GY := mv I mB; clear I aD cj dQ bU dA cN aA b7 mB)
    | (refine aw (some 15) rfl rfl 76 rfl [.string ⟨#[]⟩, .string ⟨#[]⟩] (fun _ => by kernel_rfl) ?_; intro gN W5 J aa I; have Ee := ge aY J; have Pf := ne aV J; have GV := ne bZ J; have Pg := ne GY J; have bf := mv I aY; have cb := mv I ch; have de := mv I dE; have cJ := mv I cx; have ee := mv I dX; have cG := ak (Kd.R_mono (ok' := fun k_ => k_ ≠ gN) (Kd.R_below (Kd.R_bound cR.out) I) (fun k_ cD e_ => by have h_ := cD.2.2.1; omega)); have bb := mv I aV; have cB := mv I bZ; have Md := mv I GY; have tz := ak (aa); clear J aa I aY ch dE cx dX cR aV bZ GY)
    | (refine aN rfl 76 (.tmp 15) (.tmp 60) rfl gN [.string z.f0, .string z.f1] rfl rfl 76 _ tz.out 2 (by kernel_rfl) rfl rfl (fun u_ lF => by simp only [List.mem_cons, List.not_mem_nil, or_false] at lF; rcases lF with rfl | rfl <;> rfl) ?_; intro W6 aa J; have bG := gb bf Ee J; have cQ := gr cb tz J; have dt := gr de tz J; have cY := gr cJ tz J; have ef := gr ee tz J; have dD := ak (Kd.R_mono (ok' := fun _ => True) (Kd.R_grown cG.out J (fun k_ cD e_ => cD (Option.some.inj e_))) (fun _ _ => trivial)); have bh := gx bb tz J; have cX := gx cB tz J; have Mc := gx Md tz J; have Mg := ak (aa); clear aa J bf cb de cJ ee cG bb cB Md tz))
   have aj : Below W6.heap.size W6 W6.drew := bo (Below.refl _ _)
   have dU := mv aj bG; have eZ := mv aj cQ; have je := mv aj dt; have fN := mv aj cY; have l6 := mv aj ef; have jF := mv aj dD; have dj := mv aj bh; have iN := mv aj cX; have Mb := mv aj Mc; have Mf := mv aj Mg
   clear aj bG cQ dt cY ef dD bh cX Mc Mg
   have hB := dU
   have hF := eZ
   have hG := je
   have hS := fN
   have hP := l6
   have hM := jF
   have hX := dj
   have hY := iN
   have hV := Mb
   have hN := Mf
   clear dU eZ je fN l6 jF dj iN Mb Mf
   refine cW (n := 26) (S := fun w' => aH w' gX (aZ b.addr b.aff b.slots (.slice Af b.free.length cf) (.slice Aa b.attrs.length ca)) 57 ∧ aH w' gY (da b.addr b.aff (.slice As b.slots.length cs) (.slice Ap b.free.length cp) (.slice Am M.length cm)) 62 ∧ aH w' gV [.string z.f0, .string z.f1] 85 ∧ aH w' gN [.string z.f0, .string z.f1] 76) (ds := []) #[false, false, false, false, false, false, false, false, false, false, false, false, false, false, false, false, false, false, false, false, false, false, false, false, false, false] (by kernel_rfl) rfl rfl ⟨hX.out, hY.out, hV.out, hN.out⟩ (fun hHeld => ?_); refine bK uB.tab12 uB.bits12 (fun ab bj => ?_)
   refine pu 0 ab.out ?_
   refine pu 1 ab.out ?_
   refine pu 2 ab.out ?_
   refine pu 3 ab.out ?_
   refine tk 4 ab.out bj.out hHeld ?_ (hv := by exact fun _ aU => aI 85 (.tmp 13) rfl gV rfl _ _ _ aU.2.2.1 Try.underlying85 rfl (by kernel_rfl))
   refine tk 5 ab.out bj.out hHeld ?_ (hv := by exact fun _ aU => aI 76 (.tmp 15) rfl gN rfl _ _ _ aU.2.2.2 Try.underlying76 rfl (by kernel_rfl))
   refine on 6 ab.out (fun K hK => ?_)
   refine gs Try.func50 #[.agg #[.string z.f0, .string z.f1]] (HCV.out _) ?_
   rintro e V6 ⟨rfl, I⟩
   refine ⟨_, rfl, ?_⟩
   replace hB := mv I hB; replace hF := mv I hF; replace hG := mv I hG; replace hS := mv I hS; replace hP := mv I hP; replace hM := mv I hM; replace hX := mv I hX; replace hY := mv I hY; replace hV := mv I hV; replace hN := mv I hN; clear I
   refine kn hK ⟨hX.out, hY.out, hV.out, hN.out⟩ (fun hHeld => ?_)
   clear hK K
   refine pu 7 ab.out ?_ (hv := by intro w'; unfold ej; go_simp; with_reducible rfl)
   refine pu 8 ab.out ?_
   refine pu 9 ab.out ?_
   refine tk 10 ab.out bj.out hHeld ?_ (hv := by exact fun _ aU => aI 57 (.tmp 7) rfl gX rfl _ _ _ aU.1 Try.underlying57 rfl HLB.out)
   refine tk 12 ab.out bj.out hHeld ?_ (hv := by exact fun _ aU => aI 62 (.tmp 9) rfl gY rfl _ _ _ aU.2.1 Try.underlying62 rfl (by kernel_rfl))
   refine on 11 ab.out (fun K hK => ?_)
   refine gs Try.func59 #[.agg (aZ b.addr b.aff b.slots (.slice Af b.free.length cf) (.slice Aa b.attrs.length ca)).toArray] (HGB.out _ _ ⟨_, _, _, _, rfl, ⟨HL.out, (rr hF).1, (rr hF).2, (rr hG).1, (rr hG).2⟩⟩) ?_
   rintro e oa ⟨RJ, rfl, o9, I⟩
   refine ⟨_, rfl, ?_⟩
   replace hB := mv I hB; replace hF := mv I hF; replace hG := mv I hG; replace hS := mv I hS; replace hP := mv I hP; replace hM := mv I hM; replace hX := mv I hX; replace hY := mv I hY; replace hV := mv I hV; replace hN := mv I hN; obtain ⟨A4, c4, rfl⟩ := Kd.R_slice o9; have Fb := ak (Kd.R_lower o9 (Nat.zero_le _)); clear o9 I
   refine kn hK ⟨hX.out, hY.out, hV.out, hN.out⟩ (fun hHeld => ?_)
   clear hK K
   refine on 13 ab.out (fun K hK => ?_)
   refine gs Try.func63 #[.agg (da b.addr b.aff (.slice As b.slots.length cs) (.slice Ap b.free.length cp) (.slice Am M.length cm)).toArray, .string ⟨#[]⟩, .string ⟨#[]⟩] (Pr.out _ _ ⟨M, As, cs, Ap, cp, Am, cm, rfl, (jd.of HM.out hS.out hP.out hM.out)⟩) ?_
   rintro e Ox ⟨Uc, rfl, Gq, I⟩
   refine ⟨_, rfl, ?_⟩
   replace hB := mv I hB; replace hF := mv I hF; replace hG := mv I hG; replace hS := mv I hS; replace hP := mv I hP; replace hM := mv I hM; replace hX := mv I hX; replace hY := mv I hY; replace hV := mv I hV; replace hN := mv I hN; replace Fb := mv I Fb; obtain ⟨A5, c5, rfl⟩ := Kd.R_slice Gq; have LH := ak (Kd.R_lower Gq (Nat.zero_le _)); clear Gq I
   refine kn hK ⟨hX.out, hY.out, hV.out, hN.out⟩ (fun hHeld => ?_)
   clear hK K
   refine on 14 ab.out (fun K hK => ?_)
   refine gs Try.func61 #[.slice A4 ul.length c4, .slice A5 ul.length c5] (nD ul HULN.out _ _ _ _ _ (Kd.R_reads' Fb.out).2.2 (Kd.R_reads' Fb.out).2.1 (Kd.R_reads' LH.out).2.2 (Kd.R_reads' LH.out).2.1) ?_
   rintro e Ow ⟨rfl, I⟩
   refine ⟨_, rfl, ?_⟩
   replace hB := mv I hB; replace hF := mv I hF; replace hG := mv I hG; replace hS := mv I hS; replace hP := mv I hP; replace hM := mv I hM; replace hX := mv I hX; replace hY := mv I hY; replace hV := mv I hV; replace hN := mv I hN; clear I Fb LH
   refine kn hK ⟨hX.out, hY.out, hV.out, hN.out⟩ (fun hHeld => ?_)
   clear hK K
   refine pu 15 ab.out ?_
   refine pu 16 ab.out ?_
   refine pu 17 ab.out ?_
   refine tk 18 ab.out bj.out hHeld ?_ (hv := by exact fun _ aU => aI 57 (.tmp 7) rfl gX rfl _ _ _ aU.1 Try.underlying57 rfl HLB.out)
   refine pu 20 ab.out ?_
   refine tk 21 ab.out bj.out hHeld ?_ (hv := by intro w' aU; have TZ := aU.2.1.cell 3 _ rfl; go_simp; with_reducible rfl)
   refine pu 22 ab.out ?_
   refine pu 23 ab.out ?_
   refine on 19 ab.out (fun K hK => ?_)
   refine gs Try.func57 #[.agg (aZ b.addr b.aff b.slots (.slice Af b.free.length cf) (.slice Aa b.attrs.length ca)).toArray] (HEM.out _ _ ⟨_, _, _, _, rfl, ⟨HL.out, (rr hF).1, (rr hF).2, (rr hG).1, (rr hG).2⟩⟩) ?_
   rintro e Ov ⟨rfl, I⟩
   refine ⟨_, rfl, ?_⟩
   replace hB := mv I hB; replace hF := mv I hF; replace hG := mv I hG; replace hS := mv I hS; replace hP := mv I hP; replace hM := mv I hM; replace hX := mv I hX; replace hY := mv I hY; replace hV := mv I hV; replace hN := mv I hN; clear I
   refine kn hK ⟨hX.out, hY.out, hV.out, hN.out⟩ (fun hHeld => ?_)
   clear hK K
   refine pu 24 ab.out ?_
   refine pu 25 ab.out ?_
   refine dn ab.out ?_
   clear hHeld
   go_wp2_with (first
    | ((with_reducible refine ax (N := 88) rfl ?_); refine az rfl 57 (.tmp 7) rfl gX rfl _ _ _ hX.out Try.underlying57 rfl 68 (by kernel_rfl) (ag _ _ _ _ _ HL.out) ?_)
    | (go_at_call 58; refine (HCO.out _ _ ⟨_, _, _, _, rfl, ⟨HL.out, (rr hF).1, (rr hF).2, (rr hG).1, (rr hG).2⟩⟩).mono ?_; rintro e SK ⟨gm, rfl, Ls, lE, I⟩; have OG := ak Ls; have Oy := ak lE; have Jr := mv I hB; have N1 := mv I hF; have NZ := mv I hG; have H8 := mv I hS; have Ib := mv I hP; have Iu := mv I hM; have NY := mv I hX; have D8 := mv I hY; have Hg := fun ty => run_len_map (P := Try.prog) (w := SK) 93 ty gm (et cl).toArray cl.length (by kernel_rfl) Ls; rw [List.size_toArray, uc, HCLL.out] at Hg; have mA := D8.out.cell 4 _ rfl; clear Ls lE I hB hF hG hS hP hM hX hY))
   go_loopw [19, 99] (fun _ i W => ∃ k : Nat, k ≤ M.length ∧ i = .int .i64 k ∧ Aside0 (aH W gY (da b.addr b.aff (.slice As b.slots.length cs) (.slice Ap b.free.length cp) (.slice Am M.length cm)) 62) ∧ Aside0 (Kd.R (Kd.int .i64) 3 W w.heap.size (fun _ => True) (.slice As b.slots.length cs) b.slots) ∧ Aside0 (Kd.R (Kd.int .i64) 3 W w.heap.size (fun _ => True) (.slice Ap b.free.length cp) b.free) ∧ Aside0 (Kd.R g8 76 W w.heap.size (fun _ => True) (.slice Am M.length cm) M) ∧ Aside0 (Below w.heap.size w W) ∧ Aside0 (gG W gm cl) ∧ Aside0 (gm < W.heap.size)) (fun _ i _ => M.length - (intOf i).toNat)
   case atStart => exact ⟨0, by omega, rfl, D8, H8, Ib, Iu, Jr, OG, Oy⟩
   case round =>
    clear Jr N1 NZ H8 Ib Iu NY D8 OG Oy Hg mA
    obtain ⟨q, hq, rfl, gD, aX, dT, bD, ae, Mt, br⟩ := hrel
    obtain ⟨W, rfl⟩ : ∃ W : World, W = wr := ⟨_, rfl⟩
    have hol := HML.out
    by_cases hql : q < M.length
    ·skip
     obtain ⟨d, On, Om⟩ := HATM.out q hql
     obtain ⟨ad, eA, fF, jf⟩ := B5 (Kd.R_reads' bD.out).2.2 q (by omega) (by omega)
     cases eA
     rw [Int.toNat_natCast, On] at fF jf
     have Hc : W.cell? (ad.add (q * 2)) = some (.string d.f0) := fF
     have AT : W.cell? ⟨(ad.add (q * 2)).block, (ad.add (q * 2)).off + 1, none⟩ = some (.string d.f1) := jf
     have hnd := HNUM.out d Om
     have hrd := fun v w hV => HRG.out d.f0 d.f1 v w hV
     have hvlen := fD b (pG d.f0 d.f1) 64
     obtain ⟨N9, hvl⟩ : ∃ N9, N9 = dk b (pG d.f0 d.f1) 64 := ⟨_, rfl⟩
     rw [← hvl] at hnd hrd hvlen
     have HND := ak hnd
     have HRD := ak hrd
     have HCD := ak (fun w => (show Calls Try.prog 50 #[.agg #[.string d.f0, .string d.f1]] w fun e w' => e = .returned (ej d) ∧ Below w.heap.size w w' from jI (vc d) w))
     have r0 : decide ((q : Int) < (M.length : Int)) = true := by simp; omega
     have r1 : ((q : Int) < (M.length : Int)) = True := eq_true (by omega)
     have r2 : ((0 : Int) ≤ (q : Int)) = True := eq_true (by omega)
     have hwr := ak (show wrap64 ((q : Int) + 1) = ((q + 1 : Nat) : Int) by rw [iB _ (by omega) (by omega)]; omega)
     have HQL := ak hql
     clear fF jf On Om hnd hrd hvlen hvl hql hol
     go_wp2_with (first
      | (refine aw (some 19) rfl rfl 76 rfl [.string ⟨#[]⟩, .string ⟨#[]⟩] (fun _ => by kernel_rfl) ?_; intro gN W1 J aa I; have Ee := ge ae J; have GV := ne gD J; have iG := mv I gD; have bd := mv I aX; have cZ := mv I dT; have bH := ak (Kd.R_mono (ok' := fun k_ => k_ ≠ gN) (Kd.R_below (Kd.R_bound bD.out) I) (fun k_ cD e_ => by have h_ := cD.2.2.1; omega)); have ai := ak (ae.out.trans (I.mono ae.out.size)); have yO := ak (aa); have G1 := ak (qJ Mt.out I); have bM := ak (Nat.lt_of_lt_of_le br.out I.size); clear J aa I gD aX dT bD ae Hc AT Mt br)
      | (refine aN rfl 76 (.tmp 19) (.tmp 102) rfl gN [.string d.f0, .string d.f1] rfl rfl 76 _ yO.out 2 (by kernel_rfl) rfl rfl (fun u_ lF => by simp only [List.mem_cons, List.not_mem_nil, or_false] at lF; rcases lF with rfl | rfl <;> rfl) ?_; intro W2 aa J; have b8 := gx iG yO J; have bC := gr bd yO J; have dd := gr cZ yO J; have b9 := ak (Kd.R_mono (ok' := fun _ => True) (Kd.R_grown bH.out J (fun k_ cD e_ => cD (Option.some.inj e_))) (fun _ _ => trivial)); have av := gb ai Ee J; have Mi := ak (aa); have Ms := ak (EN G1.out J (Lh G1.out yO.out)); have bY := ak (Nat.lt_of_lt_of_le bM.out J.size); clear aa J iG bd cZ bH ai yO G1 bM))
     have aj : Below W2.heap.size W2 W2.drew := bo (Below.refl _ _)
     have b7 := mv aj b8; have bU := mv aj bC; have dA := mv aj dd; have cN := mv aj b9; have aD := mv aj av; have Mh := mv aj Mi; have Mr := ak (qJ Ms.out aj); have bL := ak (Nat.lt_of_lt_of_le bY.out aj.size)
     clear aj b8 bC dd b9 av Mi Ms bY
     have hY := b7
     have hS := bU
     have hP := dA
     have hM := cN
     have hB := aD
     have hN := Mh
     have hH := Mr
     have hZ := bL
     clear b7 bU dA cN aD Mh Mr bL
     refine cW (n := 12) (S := fun w' => aH w' gY (da b.addr b.aff (.slice As b.slots.length cs) (.slice Ap b.free.length cp) (.slice (some ad) M.length cm)) 62 ∧ aH w' gN [.string d.f0, .string d.f1] 76 ∧ gG w' gm cl) (ds := []) #[false, false, false, false, false, false, false, false, false, false, false, false] (by kernel_rfl) rfl rfl ⟨hY.out, hN.out, hH.out⟩ (fun hHeld => ?_); refine bK uA.tab20 uA.bits20 (fun ab bj => ?_)
     refine pu 0 ab.out ?_
     refine tk 1 ab.out bj.out hHeld ?_ (hv := by exact fun _ aU => aI 76 (.tmp 19) rfl gN rfl _ _ _ aU.2.1 Try.underlying76 rfl (by kernel_rfl))
     refine tk 4 ab.out bj.out hHeld ?_ (hv := by exact fun _ aU => aI 62 (.tmp 9) rfl gY rfl _ _ _ aU.1 Try.underlying62 rfl (by kernel_rfl))
     refine pu 5 ab.out ?_
     refine tk 6 ab.out bj.out hHeld ?_ (hv := by intro w' aU; have Uq := aU.2.1.cell 0 _ rfl; go_simp; with_reducible rfl)
     refine pu 7 ab.out ?_
     refine tk 8 ab.out bj.out hHeld ?_ (hv := by intro w' aU; have Up := aU.2.1.cell 1 _ rfl; go_simp; with_reducible rfl)
     refine on 2 ab.out (fun K hK => ?_)
     refine gs Try.func50 #[.agg #[.string d.f0, .string d.f1]] (HCD.out _) ?_
     rintro e V2 ⟨rfl, I⟩
     refine ⟨_, rfl, ?_⟩
     replace hY := mv I hY; replace hS := mv I hS; replace hP := mv I hP; replace hM := mv I hM; replace hB := mv I hB; replace hN := mv I hN; replace hH := ak (qJ hH.out I); replace hZ := ak (Nat.lt_of_lt_of_le hZ.out I.size); clear I
     refine kn hK ⟨hY.out, hN.out, hH.out⟩ (fun hHeld => ?_)
     clear hK K
     refine tk 3 ab.out bj.out hHeld ?_ (hv := by intro w' aU; have hlk := qk _ _ _ aU.2.2 d; rw [HND.out] at hlk; go_simp; with_reducible rfl)
     refine on 9 ab.out (fun K hK => ?_)
     refine gs Try.func63 #[.agg (da b.addr b.aff (.slice As b.slots.length cs) (.slice Ap b.free.length cp) (.slice (some ad) M.length cm)).toArray, .string d.f0, .string d.f1] (HRD.out _ _ ⟨M, As, cs, Ap, cp, _, cm, rfl, (jd.of HM.out hS.out hP.out hM.out)⟩) ?_
     rintro e V9 ⟨RJ, rfl, o9, I⟩
     refine ⟨_, rfl, ?_⟩
     replace hY := mv I hY; replace hS := mv I hS; replace hP := mv I hP; replace hM := mv I hM; replace hB := mv I hB; replace hN := mv I hN; replace hH := ak (qJ hH.out I); replace hZ := ak (Nat.lt_of_lt_of_le hZ.out I.size); obtain ⟨A4, c4, rfl⟩ := Kd.R_slice o9; clear o9 I
     refine kn hK ⟨hY.out, hN.out, hH.out⟩ (fun hHeld => ?_)
     clear hK K
     refine pu 10 ab.out ?_
     refine pu 11 ab.out ?_
     refine dn ab.out ?_
     clear hHeld
     go_wp2_with fail
     go_roundw
     case rel => exact ⟨q + 1, by have := HQL.out; omega, by (first | rw [hwr.out] | go_num), hY, hS, hP, hM, hB, hH, hZ⟩
     case measure => have h_ := HQL.out; (first | rw [hwr.out] | skip); simp [intOf]; omega
    ·have r0 : decide ((q : Int) < (M.length : Int)) = false := by simp; omega
     have r1 : ((q : Int) < (M.length : Int)) = False := eq_false (by omega)
     clear hol hql hq
     go_wp2_with (first
      | (go_at_call 44; refine (CN _).mono ?_; rintro e W1 ⟨rfl, I⟩; have ai := ak (ae.out.trans (I.mono ae.out.size)); clear I ae))
     go_ret
     exact ⟨rfl, ai.out⟩
end Go.Proofs.Ytemhalnhbgkbcaa.V
end

section
namespace Go.Proofs.Ytemhalnhbgkbcaa.V
theorem blockTells_walk (a : Int) (v : Value) (l : List St) (n : Int) (w : World) (h0 : (Lit.int .u32 a).wf = true) (h : StepsIs w v l) (hn : (Lit.int .u8 n).wf = true) : Calls Try.prog 13 #[.int .u32 a, v, .int .u8 n] w fun e w' => e = .returned (.bool true) ∧ Below w.heap.size w w' :=
 yM a (Ac h0).1 (Ac h0).2 v l n (G7 hn).1 (G7 hn).2 w h
end Go.Proofs.Ytemhalnhbgkbcaa.V
end

