/- The law BlockRight for every input: texts of ours, put together (part 7 of 12). No further condition. -/
import Derived.Test.YtemhalnhbgkbcaaCBlockRightx5
import Derived.Outline
import Derived.Test.YtemhalnhbgkbcaaCBlockRightx4
import Derived.Test.YtemhalnhbgkbcaaCBlockRightw1
import Derived.Lib.SliceRun
import Derived.Test.YtemhalnhbgkbcaaCBlockRightx2
-- BAssignYes
section
/- block.Assign, where it is done. -/
namespace Go.Proofs.Ytemhalnhbgkbcaa.V
open Go.RowKit Go.Proofs.YtemhalnhbgkbcaaW.PrintWords Go.Proofs.YtemhalnhbgkbcaaW.PrintLast Go.Proofs.YtemhalnhbgkbcaaW.PrintMore
set_option linter.unusedVariables false
set_option linter.unusedSimpArgs false

theorem cloneDrop (xs : List Int) (A : Option Addr) (c m : Nat) (w : World) (hr : Kd.C (Kd.int .u8) w A xs.length xs) (hm : m ≤ xs.length) (hc : xs.length ≤ c) (hl : xs.length ≤ 4294967296) (A' : Option Addr) (hA : A' = if c = m then A else A.map (fun x => x.add m)) :
    Calls Try.prog 91 #[.slice A' (xs.length - m) (c - m)] w fun e w' => ∃ v, e = .returned v ∧ Kd.R (Kd.int .u8) 5 w' w.heap.size (fun _ => True) v (xs.drop m) ∧ Below w.heap.size w w' := by
  subst hA
  have h := Kd.C_drop hr hm hc
  have hld : (xs.drop m).length = xs.length - m := List.length_drop
  have h2 := cloneU8 (xs.drop m) _ (c - m) w h (by omega) (by omega)
  rw [hld] at h2
  have e : (A.map fun x => x.add (m * (Kd.int .u8).sz)) = A.map fun x => x.add m := by
    cases A with
    | none => rfl
    | some ad => show some (ad.add (m * 1)) = some (ad.add m); rw [Nat.mul_one]
  rw [e] at h2
  exact h2
theorem info_u32 : (Try.prog.info? 46).map (fun i => (i.zero, i.size, i.bytes)) = some (some (.int .u32 0), 1, 4) := by kernel_rfl
set_option maxHeartbeats 16000000 in
set_option maxRecDepth 100000 in
theorem assign_part (b : Bk) (hk : BkOk b) (m : Nat) (hm0 : m < b.free.length) (a : At) (hrt : rightB b = true) (hm : mayAt a = true) (v : Value) (w : World) (h : BkV w v b) :
    Calls Try.prog 49 #[v, .int .i64 (m : Int), atV a] w fun e w' => ∃ v' vo, e = .returned (.tuple #[v', vo, .int .i64 0]) ∧ BkO w' w.heap.size v' (asgBk b m a) ∧ Kd.R (Kd.int .u32) 46 w' w.heap.size (fun _ => True) vo (asgOut b m) ∧ Below w.heap.size w w' := by
  obtain ⟨A, c, A', c', rfl, hr⟩ := h
  have hp := right_p hrt
  have hsum := hp.sum_le hk hr.l64
  have HL := Aside0.mk hr.l64
  have HR := Aside0.mk hr
  have HK := Aside0.mk hk
  have HRT := Aside0.mk hrt
  have HMY := Aside0.mk hm
  have HP := Aside0.mk hp
  have hfl : b.free.length ≤ 64 := by omega
  have HCP := Aside0.mk (copied_any b (by omega) (by omega))
  have HB_0 := Aside0.mk (Below.refl w.heap.size w)
  have HSUM := Aside0.mk hsum
  clear hr hk hrt hm hp hsum
  go_enter Try.func49, Try.ntmps49
  go_wp2_with (first
    | (refine step_box rfl 57 (.tmp 0) rfl _ rfl ?_; intro gX W1 hg_ hx_ hb_; have GE_gX := Aside0.mk (show w.heap.size ≤ gX by have := HB_0.out.size; omega); have HB_1 := Aside0.mk (HB_0.out.trans (hb_.mono HB_0.out.size)); have HX_1 := Aside0.mk (hx_); clear hg_ hx_ hb_ HB_0)
    | (refine step_box rfl 85 (.tmp 2) rfl _ rfl ?_; intro gA W2 hg_ hx_ hb_; have GE_gA := Aside0.mk (show w.heap.size ≤ gA by have := HB_1.out.size; omega); have NE_gX_gA := Aside0.mk (show gX ≠ gA by have := HX_1.out.lt; omega); have HB_2 := Aside0.mk (HB_1.out.trans (hb_.mono HB_1.out.size)); have HX_2 := Aside0.mk (HX_1.out.below hb_); have HA_2 := Aside0.mk (hx_); clear hg_ hx_ hb_ HB_1 HX_1)
    | (refine step_allocN (some 6) rfl rfl 57 rfl zeroL zero57 ?_; intro gZ W3 hg_ hx_ hb_; have GE_gZ := Aside0.mk (show w.heap.size ≤ gZ by have := HB_2.out.size; omega); have NE_gX_gZ := Aside0.mk (show gX ≠ gZ by have := HX_2.out.lt; omega); have NE_gA_gZ := Aside0.mk (show gA ≠ gZ by have := HA_2.out.lt; omega); have HB_3 := Aside0.mk (HB_2.out.trans (hb_.mono HB_2.out.size)); have HX_3 := Aside0.mk (HX_2.out.below hb_); have HA_3 := Aside0.mk (HA_2.out.below hb_); have HZ_3 := Aside0.mk (hx_); clear hg_ hx_ hb_ HB_2 HX_2 HA_2)
    | ((with_reducible refine gate_dst (N := 12) rfl ?_); refine step_load rfl 57 (.tmp 3) rfl gX rfl _ _ _ HX_3.out Try.underlying57 rfl 68 (by kernel_rfl) (bkL_length _ _ _ _ _ HL.out) ?_)
    | (go_at_call 48; refine (right_any' b HK.out _ _ ⟨A, c, A', c', rfl, HR.out.below HB_3.out⟩).mono ?_; rintro e W4 ⟨rfl, hb_⟩; rw [HRT.out]; have HB_4 := Aside0.mk (HB_3.out.trans (hb_.mono HB_3.out.size)); have HX_4 := Aside0.mk (HX_3.out.below hb_); have HA_4 := Aside0.mk (HA_3.out.below hb_); have HZ_4 := Aside0.mk (HZ_3.out.below hb_); clear hb_ HB_3 HX_3 HA_3 HZ_3)
    | ((with_reducible refine gate_dst (N := 16) rfl ?_); refine gate_guard (by rfl) ?_; refine step_load rfl 85 (.tmp 5) rfl gA rfl _ _ _ HA_4.out Try.underlying85 rfl 2 (by kernel_rfl) rfl ?_)
    | (go_at_call 88; refine (bmay_any a _).mono ?_; rintro e W5 ⟨rfl, hb_⟩; rw [HMY.out]; have HB_5 := Aside0.mk (HB_4.out.trans (hb_.mono HB_4.out.size)); have HX_5 := Aside0.mk (HX_4.out.below hb_); have HA_5 := Aside0.mk (HA_4.out.below hb_); have HZ_5 := Aside0.mk (HZ_4.out.below hb_); clear hb_ HB_4 HX_4 HA_4 HZ_4)
    | ((with_reducible refine gate_dst (N := 25) rfl ?_); refine step_load rfl 57 (.tmp 3) rfl gX rfl _ _ _ HX_5.out Try.underlying57 rfl 68 (by kernel_rfl) (bkL_length _ _ _ _ _ HL.out) ?_)
    | (go_at_call 89; refine (HCP.out _ _ ⟨A, c, A', c', rfl, HR.out.below HB_5.out⟩).mono ?_; rintro e W6 ⟨v5, rfl, ho5, hb_⟩; obtain ⟨hl5, vf, va, rfl, hf5, ha5⟩ := ho5; obtain ⟨Af, cf, rfl⟩ := Kd.R_slice hf5; obtain ⟨Aa, ca, rfl⟩ := Kd.R_slice ha5; have HSZ := Aside0.mk HB_5.out.size; have LT_gX := Aside0.mk (show gX < W5.heap.size from HX_5.out.lt); have LT_gA := Aside0.mk (show gA < W5.heap.size from HA_5.out.lt); have LT_gZ := Aside0.mk (show gZ < W5.heap.size from HZ_5.out.lt); have HB_6 := Aside0.mk (HB_5.out.trans (hb_.mono HB_5.out.size)); have HX_6 := Aside0.mk (HX_5.out.below hb_); have HA_6 := Aside0.mk (HA_5.out.below hb_); have HZ_6 := Aside0.mk (HZ_5.out.below hb_); have HF_6 := Aside0.mk (hf5); have HG_6 := Aside0.mk (ha5); have HS_6 := Aside0.mk (hb_.size); clear hl5 hf5 ha5 hb_ HB_5 HX_5 HA_5 HZ_5)
    | (refine step_store rfl 57 (.tmp 3) (.tmp 26) rfl gX (bkL b.addr b.aff b.slots (.slice Af b.free.length cf) (.slice Aa b.attrs.length ca)) rfl rfl 57 _ HX_6.out 68 (by kernel_rfl) (bkL_length _ _ _ _ _ HL.out) (bkL_length _ _ _ _ _ HL.out) (bkL_one _ _ _ _ _ rfl rfl) ?_; intro W7 hx_ hg_; have HB_7 := Aside0.mk (HB_6.out.grown hg_ HB_6.out.size (by intro k hk; cases hk; exact GE_gX.out)); have HX_7 := Aside0.mk (OC.stored HL.out HX_6.out hx_ HF_6.out HG_6.out hg_); have HA_7 := Aside0.mk (HA_6.out.grown hg_ (fun e => (HA_6.out.ne HX_6.out (by decide)) (Option.some.inj e))); have HZ_7 := Aside0.mk (HZ_6.out.grown hg_ (fun e => (Ne.symm NE_gX_gZ.out) (Option.some.inj e))); have HF_7 := Aside0.mk (R_box_grown HF_6.out HX_6.out (by decide) hg_); have HG_7 := Aside0.mk (R_box_grown HG_6.out HX_6.out (by decide) hg_); have HS_7 := Aside0.mk (Nat.le_trans HS_6.out hg_.size); have hc_ := hx_.cell 66 _ (bkL_66 _ _ _ _ _ HL.out); have hcf_ : b.free.length ≤ cf := (Kd.R_reads' HF_7.out).2.1; clear hx_ hg_ HB_6 HX_6 HA_6 HZ_6 HF_6 HG_6 HS_6))
  clear hc_
  obtain ⟨b1, hb1⟩ : ∃ b1, b1 = W5.heap.size := ⟨_, rfl⟩
  rw [← hb1] at HX_7 HF_7 HS_7 LT_gX LT_gA LT_gZ HSZ
  have HB1 := Aside0.mk (show w.heap.size ≤ b1 from HSZ.out)
  clear hb1 HSZ
  have hmf : m ≤ b.free.length := by omega
  go_loopw [9, 11, 36] (fun o _ i W => ∃ k : Nat, k ≤ m ∧ i = .int .i64 k ∧ Aside0 (OC W b1 gX (asgMid b k a)) ∧ Aside0 (Kd.R (Kd.int .u32) 46 W w.heap.size (fun _ => True) o (asgOut b k)) ∧ Aside0 (Box W gA [.string a.f0, .string a.f1] 85) ∧ Aside0 (Box W gZ zeroL 57) ∧ Aside0 (Kd.R (Kd.int .u8) 5 W b1 (fun _ => True) (.slice Af b.free.length cf) b.free) ∧ Aside0 (b1 ≤ W.heap.size) ∧ Aside0 (Below w.heap.size w W)) (fun _ _ i _ => m - (intOf i).toNat)
  case atStart => exact ⟨0, by omega, rfl, HX_7, ⟨Kd.R_nil _ _ _ _ _⟩, HA_7, HZ_7, HF_7, HS_7, HB_7⟩
  case round =>
    clear HB_7 HX_7 HA_7 HZ_7 HF_7 HS_7
    obtain ⟨k, hk, rfl, HX_0, HO_0, HA_0, HZ_0, HF_0, HS_0, HB_0⟩ := hrel
    obtain ⟨W, rfl⟩ : ∃ W : World, W = wr := ⟨_, rfl⟩
    by_cases hkn : k < m
    · have hkb : decide ((k : Int) < (m : Int)) = true := by simp; omega
      have hkf : k < b.free.length := by omega
      obtain ⟨ad, eA, hx⟩ := Kd.at_int (Kd.R_reads' HF_0.out).2.2 k (by omega) (by omega)
      cases eA
      rw [Int.toNat_natCast] at hx
      obtain ⟨j, hj⟩ : ∃ j : Nat, rd b.free k = (j : Int) := ⟨(rd b.free k).toNat, by have := (U8s_rd HK.out.f8 k).1; omega⟩
      have hj2 : j < 64 := by
        have h1 := HP.out.fr k hkf
        unfold freeBad at h1
        rw [Bool.or_eq_false_iff, decide_eq_false_iff_not] at h1
        have := h1.1
        omega
      rw [hj] at hx
      have HSC := Aside0.mk (show asgMid b (k + 1) a = ⟨(asgMid b k a).addr, (asgMid b k a).aff, (asgMid b k a).slots.set (rd b.free k).toNat (numAt (asgMid b k a).attrs a : Nat), (asgMid b k a).free, addAt (asgMid b k a).attrs a⟩ from asgMid_succ b k a hkf)
      have HSO := Aside0.mk (asgOut_succ b k hkf)
      rw [hj] at HSC HSO
      rw [Int.toNat_natCast] at HSC
      have hol := asgOut_length b k (by omega)
      have HOL := Aside0.mk hol
      have HAL := Aside0.mk (show (asgMid b k a).attrs.length ≤ 100 by
        have := add_length b.attrs a
        have := HSUM.out
        show (if k = 0 then b.attrs else addAt b.attrs a).length ≤ 100
        split <;> omega)
      obtain ⟨bm, hbm⟩ : ∃ bm, bm = asgMid b k a := ⟨_, rfl⟩
      have hadr : bm.addr = b.addr := by rw [hbm]; rfl
      have HADR := Aside0.mk hadr
      clear hadr
      rw [← hbm] at HX_0 HSC HAL
      obtain ⟨oo, hoo⟩ : ∃ oo, oo = asgOut b k := ⟨_, rfl⟩
      obtain ⟨o1, ho1⟩ : ∃ o1, o1 = asgOut b (k + 1) := ⟨_, rfl⟩
      rw [← hoo] at HO_0 HSO HOL
      rw [← ho1, ← HADR.out] at HSO
      have HO1 := Aside0.mk ho1
      have ha0 : 0 ≤ bm.addr := by rw [HADR.out]; exact HK.out.a0
      have ha1 : bm.addr + 64 ≤ 4294967296 := by
        rw [HADR.out]
        have h1 := HP.out.first
        have h2 := HK.out.a1
        unfold firstI at h1
        omega
      clear hol hj hbm hoo ho1
      obtain ⟨Ao, co, rfl⟩ := Kd.R_slice HO_0.out
      go_wp2_with (first
        | ((with_reducible refine gate_dst (N := 41) rfl ?_); refine step_load rfl 85 (.tmp 5) rfl gA rfl _ _ _ HA_0.out Try.underlying85 rfl 2 (by kernel_rfl) rfl ?_)
        | (go_at_call 90; refine (number_any bm HAL.out a gX b1 w.heap.size _ GE_gX.out HB1.out HS_0.out HX_0.out).mono ?_; rintro e W1 ⟨rfl, ho_, hb_, hk_⟩; obtain ⟨A1_, c1_, A2_, c2_, hxx_, _, _⟩ := HX_0.out.open; have HX_1 := Aside0.mk (ho_); have HO_1 := Aside0.mk (Kd.R_added HO_0.out hxx_ (by decide) hk_); have HA_1 := Aside0.mk (Box.added HA_0.out (Ne.symm NE_gX_gA.out) LT_gA.out hk_); have HZ_1 := Aside0.mk (Box.added HZ_0.out (Ne.symm NE_gX_gZ.out) LT_gZ.out hk_); have HF_1 := Aside0.mk (Kd.R_added HF_0.out hxx_ (by decide) hk_); have HS_1 := Aside0.mk (Nat.le_trans HS_0.out hk_.1); have HB_1 := Aside0.mk (HB_0.out.trans hb_); have hc_ := (show OC W1 b1 gX ⟨bm.addr, bm.aff, bm.slots, bm.free, addAt bm.attrs a⟩ from HX_1.out).slotCell j hj2; have hcz_ := HX_1.out.frozen (2 + j); have hca_ := HX_1.out.addrCell; clear ho_ hb_ hk_ hxx_ HX_0 HO_0 HA_0 HZ_0 HF_0 HS_0 HB_0)
        | ((with_reducible refine gate_builtin (b := .append) (xs := #[.tmp 45, .tmp 51]) rfl ?_); at_builtin; clear hc_ hcz_ hca_; obtain ⟨_, _, _, _, hxx_, _, _⟩ := HX_1.out.open; generalize hw_ : W1.setCell ⟨gX, 2 + j, none⟩ (.int .u8 (numAt bm.attrs a : Nat)) = W2; have hz_ : W1.heap.size = W2.heap.size := (by rw [← hw_]; simp [World.setCell]); rw [hz_]; clear hz_; have hg_ : W1.grownBy W2 (some gX) := (by rw [← hw_]; exact setCell_grown _ _ _ _); have HX_2 := Aside0.mk (OC.slot HX_1.out j hj2 (numAt bm.attrs a : Nat)); have HO_2 := Aside0.mk (R_box_grown HO_1.out hxx_ (by decide) hg_); have HA_2 := Aside0.mk (HA_1.out.grown hg_ (fun e => (Ne.symm NE_gX_gA.out) (Option.some.inj e))); have HZ_2 := Aside0.mk (HZ_1.out.grown hg_ (fun e => (Ne.symm NE_gX_gZ.out) (Option.some.inj e))); have HF_2 := Aside0.mk (R_box_grown HF_1.out hxx_ (by decide) hg_); have HS_2 := Aside0.mk (Nat.le_trans HS_1.out hg_.size); have HB_2 := Aside0.mk (HB_1.out.grown hg_ HB_1.out.size (by intro k hk; cases hk; exact GE_gX.out)); rw [hw_] at HX_2; clear hw_ hg_ HX_1 HO_1 HA_1 HZ_1 HF_1 HS_1 HB_1 hxx_; refine Kd.R_append (Kd.int .u32) (w0 := w) w.heap.size rfl (.tmp 45) (.tmp 51) 77 46 (.int .u32 0) 4 rfl Try.underlying77 info_u32 rfl (by decide) (by omega) _ oo (bm.addr + (j : Int)) [.int .u32 (bm.addr + (j : Int))] (fun _ => True) (fun _ => False) rfl rfl rfl (fun _ hk => hk.elim) (fun _ _ => trivial) HO_2.out HB_2.out HB_2.out.size (by have := HOL.out; omega) ?_; intro v_ W3 ho_ hb_ hg_ hat_; rw [← HSO.out] at ho_; have HX_3 := Aside0.mk (OC.row HX_2.out HO_2.out (by decide) (by decide) hg_); have HO_3 := Aside0.mk (ho_); have HA_3 := Aside0.mk (HA_2.out.grown hg_ (HA_2.out.ne_row HO_2.out (by decide))); have HZ_3 := Aside0.mk (HZ_2.out.grown hg_ (HZ_2.out.ne_row HO_2.out (by decide))); have HF_3 := Aside0.mk (Kd.R_over HF_2.out HO_2.out (by decide) hg_); have HS_3 := Aside0.mk (Nat.le_trans HS_2.out hg_.size); have HB_3 := Aside0.mk (hb_); obtain ⟨AO, cO, rfl⟩ := Kd.R_slice ho_; clear ho_ hb_ hg_ hat_ HX_2 HO_2 HA_2 HZ_2 HF_2 HS_2 HB_2))
      go_roundw
      case rel => exact ⟨k + 1, by omega, by go_num, ⟨by rw [HSC.out]; exact HX_3.out⟩, ⟨by rw [← HO1.out]; exact HO_3.out⟩, HA_3, HZ_3, HF_3, HS_3, HB_3⟩
      case measure => simp [intOf]; omega
    · obtain rfl : k = m := by omega
      have hkb : decide ((k : Int) < (k : Int)) = false := by simp
      have hol := asgOut_length b k (by omega)
      obtain ⟨oo, hoo⟩ : ∃ oo, oo = asgOut b k := ⟨_, rfl⟩
      obtain ⟨bm, hbm⟩ : ∃ bm, bm = asgMid b k a := ⟨_, rfl⟩
      rw [← hoo] at HO_0 hol
      rw [← hbm] at HX_0
      have HOO := Aside0.mk hoo
      have hfr : bm.free = b.free := by rw [hbm]; rfl
      have HBK := Aside0.mk (show asgBk b k a = ⟨bm.addr, bm.aff, bm.slots, bm.free.drop oo.length, bm.attrs⟩ by rw [hol, hbm]; rfl)
      obtain ⟨Ao, co, rfl⟩ := Kd.R_slice HO_0.out
      obtain ⟨A1, c1, A2, c2, hxx, hf1, ha1⟩ := HX_0.out.open
      have hqa : bm.free.length ≤ c1 := (Kd.R_reads' hf1).2.1
      have hqb : oo.length ≤ bm.free.length := by rw [hfr, hol]; omega
      have hqc : bm.free.length ≤ 64 := by rw [hfr]; omega
      have HQ := Aside0.mk (Kd.R_reads' hf1).2.2
      have HA1 := Aside0.mk ha1
      have HXX := Aside0.mk hxx
      have HL := Aside0.mk HX_0.out.l64
      have HWS := Aside0.mk HB_0.out.size
      have hc_ := hxx.cell 66 _ (bkL_66 _ _ _ _ _ HL.out)
      have HCD := Aside0.mk (fun w' (h : Kd.C (Kd.int .u8) w' A1 bm.free.length bm.free) => cloneDrop bm.free A1 c1 oo.length w' h hqb hqa (by omega) _ rfl)
      have hne : ¬ c1 = oo.length := by rw [hol]; rw [hfr] at hqa; omega
      rw [if_neg hne] at HCD
      obtain ⟨fd, hfd⟩ : ∃ fd, fd = bm.free.drop oo.length := ⟨_, rfl⟩
      rw [← hfd] at HCD HBK
      clear hxx hf1 ha1 hol hoo hbm hfr hfd
      go_wp2_with (first
        | (go_at_call 91; refine (HCD.out _ HQ.out).mono ?_; rintro e W1 ⟨v1_, rfl, hf_, hb_⟩; clear hc_; obtain ⟨A3_, c3_, rfl⟩ := Kd.R_slice hf_; have HX_1 := Aside0.mk (HXX.out.below hb_); have HO_1 := Aside0.mk (Kd.R_below HO_0.out hb_); have HZ_1 := Aside0.mk (HZ_0.out.below hb_); have HS_1 := Aside0.mk (Nat.le_trans HS_0.out hb_.size); have HB_1 := Aside0.mk (HB_0.out.trans (hb_.mono HB_0.out.size)); have HP_1 := Aside0.mk (Kd.R_below HA1.out hb_); have HD_1 := Aside0.mk (hf_); have hc1_ := HX_1.out.cell 66 _ (bkL_66 _ _ _ _ _ HL.out); have hz1_ := HX_1.out.frozen 66; clear hf_ hb_ HXX HO_0 HZ_0 HS_0 HB_0 HA1)
        | (generalize hw_ : W1.setCell ⟨gX, 66, none⟩ (.slice A3_ fd.length c3_) = W2; have hg_ : W1.grownBy W2 (some gX) := (by rw [← hw_]; exact setCell_grown _ _ _ _); have HX_2 := Aside0.mk (HX_1.out.set 66 (.slice A3_ fd.length c3_)); have HO_2 := Aside0.mk (R_box_grown HO_1.out HX_1.out (by decide) hg_); have HZ_2 := Aside0.mk (HZ_1.out.grown hg_ (fun e => (Ne.symm NE_gX_gZ.out) (Option.some.inj e))); have HS_2 := Aside0.mk (Nat.le_trans HS_1.out hg_.size); have HB_2 := Aside0.mk (HB_1.out.grown hg_ HB_1.out.size (by intro k hk; cases hk; exact GE_gX.out)); have HP_2 := Aside0.mk (R_box_grown HP_1.out HX_1.out (by decide) hg_); have HD_2 := Aside0.mk (R_box_grown HD_1.out HX_1.out (by decide) hg_); rw [hw_] at HX_2; clear hw_ hg_ HX_1 HO_1 HZ_1 HS_1 HB_1 HP_1 HD_1 hc1_ hz1_; rw [bkL_set_66 _ _ _ _ _ HL.out] at HX_2; refine step_load rfl 57 (.tmp 3) rfl gX rfl _ _ _ HX_2.out Try.underlying57 rfl 68 (by kernel_rfl) (bkL_length _ _ _ _ _ HL.out) ?_)
        | (refine step_store rfl 57 (.tmp 6) (.tmp 61) rfl gZ (bkL bm.addr bm.aff bm.slots (.slice A3_ fd.length c3_) (.slice A2 bm.attrs.length c2)) rfl rfl 57 _ HZ_2.out 68 (by kernel_rfl) (bkL_length _ _ _ _ _ HL.out) rfl (bkL_one _ _ _ _ _ rfl rfl) ?_; intro W3 hx_ hg_; have HX_3 := Aside0.mk (HX_2.out.grown hg_ (fun e => NE_gX_gZ.out (Option.some.inj e))); have HO_3 := Aside0.mk (R_box_grown HO_2.out HZ_2.out (by decide) hg_); have HZ_3 := Aside0.mk (hx_); have HS_3 := Aside0.mk (Nat.le_trans HS_2.out hg_.size); have HB_3 := Aside0.mk (HB_2.out.grown hg_ HB_2.out.size (by intro k hk; cases hk; exact GE_gZ.out)); have HP_3 := Aside0.mk (R_box_grown HP_2.out HZ_2.out (by decide) hg_); have HD_3 := Aside0.mk (R_box_grown HD_2.out HZ_2.out (by decide) hg_); clear hx_ hg_ HX_2 HO_2 HZ_2 HS_2 HB_2 HP_2 HD_2))
      refine bodyPost_ret (results_ctt rfl _ _ gZ 57 _ (0, 0) _ rfl HZ_3.out Try.underlying57 rfl (by simp only [List.size_toArray]; exact size57 _ (bkL_length _ _ _ _ _ HL.out))) rfl ⟨_, _, rfl, ?_, ?_, HB_3.out⟩
      · rw [HBK.out]; exact ⟨HL.out, _, _, rfl, Kd.R_lower HD_3.out HWS.out, Kd.R_lower HP_3.out HB1.out⟩
      · rw [← HOO.out]; exact HO_3.out
set_option maxHeartbeats 16000000 in
set_option maxRecDepth 100000 in
theorem assign_all (b : Bk) (hk : BkOk b) (n : Int) (hn : (b.free.length : Int) < n) (hn2 : n < 9223372036854775808) (a : At) (hrt : rightB b = true) (hm : mayAt a = true) (v : Value) (w : World) (h : BkV w v b) :
    Calls Try.prog 49 #[v, .int .i64 n, atV a] w fun e w' => ∃ v' vo, e = .returned (.tuple #[v', vo, .int .i64 0]) ∧ BkO w' w.heap.size v' (asgBk b b.free.length a) ∧ Kd.R (Kd.int .u32) 46 w' w.heap.size (fun _ => True) vo (asgOut b b.free.length) ∧ Below w.heap.size w w' := by
  obtain ⟨A, c, A', c', rfl, hr⟩ := h
  have hp := right_p hrt
  have hsum := hp.sum_le hk hr.l64
  have HL := Aside0.mk hr.l64
  have HR := Aside0.mk hr
  have HK := Aside0.mk hk
  have HRT := Aside0.mk hrt
  have HMY := Aside0.mk hm
  have HP := Aside0.mk hp
  have hfl : b.free.length ≤ 64 := by omega
  have HCP := Aside0.mk (copied_any b (by omega) (by omega))
  have HB_0 := Aside0.mk (Below.refl w.heap.size w)
  have HSUM := Aside0.mk hsum
  clear hr hk hrt hm hp hsum
  have hnn : 0 ≤ n := by omega
  go_enter Try.func49, Try.ntmps49
  go_wp2_with (first
    | (refine step_box rfl 57 (.tmp 0) rfl _ rfl ?_; intro gX W1 hg_ hx_ hb_; have GE_gX := Aside0.mk (show w.heap.size ≤ gX by have := HB_0.out.size; omega); have HB_1 := Aside0.mk (HB_0.out.trans (hb_.mono HB_0.out.size)); have HX_1 := Aside0.mk (hx_); clear hg_ hx_ hb_ HB_0)
    | (refine step_box rfl 85 (.tmp 2) rfl _ rfl ?_; intro gA W2 hg_ hx_ hb_; have GE_gA := Aside0.mk (show w.heap.size ≤ gA by have := HB_1.out.size; omega); have NE_gX_gA := Aside0.mk (show gX ≠ gA by have := HX_1.out.lt; omega); have HB_2 := Aside0.mk (HB_1.out.trans (hb_.mono HB_1.out.size)); have HX_2 := Aside0.mk (HX_1.out.below hb_); have HA_2 := Aside0.mk (hx_); clear hg_ hx_ hb_ HB_1 HX_1)
    | (refine step_allocN (some 6) rfl rfl 57 rfl zeroL zero57 ?_; intro gZ W3 hg_ hx_ hb_; have GE_gZ := Aside0.mk (show w.heap.size ≤ gZ by have := HB_2.out.size; omega); have NE_gX_gZ := Aside0.mk (show gX ≠ gZ by have := HX_2.out.lt; omega); have NE_gA_gZ := Aside0.mk (show gA ≠ gZ by have := HA_2.out.lt; omega); have HB_3 := Aside0.mk (HB_2.out.trans (hb_.mono HB_2.out.size)); have HX_3 := Aside0.mk (HX_2.out.below hb_); have HA_3 := Aside0.mk (HA_2.out.below hb_); have HZ_3 := Aside0.mk (hx_); clear hg_ hx_ hb_ HB_2 HX_2 HA_2)
    | ((with_reducible refine gate_dst (N := 12) rfl ?_); refine step_load rfl 57 (.tmp 3) rfl gX rfl _ _ _ HX_3.out Try.underlying57 rfl 68 (by kernel_rfl) (bkL_length _ _ _ _ _ HL.out) ?_)
    | (go_at_call 48; refine (right_any' b HK.out _ _ ⟨A, c, A', c', rfl, HR.out.below HB_3.out⟩).mono ?_; rintro e W4 ⟨rfl, hb_⟩; rw [HRT.out]; have HB_4 := Aside0.mk (HB_3.out.trans (hb_.mono HB_3.out.size)); have HX_4 := Aside0.mk (HX_3.out.below hb_); have HA_4 := Aside0.mk (HA_3.out.below hb_); have HZ_4 := Aside0.mk (HZ_3.out.below hb_); clear hb_ HB_3 HX_3 HA_3 HZ_3)
    | ((with_reducible refine gate_dst (N := 16) rfl ?_); refine gate_guard (by rfl) ?_; refine step_load rfl 85 (.tmp 5) rfl gA rfl _ _ _ HA_4.out Try.underlying85 rfl 2 (by kernel_rfl) rfl ?_)
    | (go_at_call 88; refine (bmay_any a _).mono ?_; rintro e W5 ⟨rfl, hb_⟩; rw [HMY.out]; have HB_5 := Aside0.mk (HB_4.out.trans (hb_.mono HB_4.out.size)); have HX_5 := Aside0.mk (HX_4.out.below hb_); have HA_5 := Aside0.mk (HA_4.out.below hb_); have HZ_5 := Aside0.mk (HZ_4.out.below hb_); clear hb_ HB_4 HX_4 HA_4 HZ_4)
    | ((with_reducible refine gate_dst (N := 25) rfl ?_); refine step_load rfl 57 (.tmp 3) rfl gX rfl _ _ _ HX_5.out Try.underlying57 rfl 68 (by kernel_rfl) (bkL_length _ _ _ _ _ HL.out) ?_)
    | (go_at_call 89; refine (HCP.out _ _ ⟨A, c, A', c', rfl, HR.out.below HB_5.out⟩).mono ?_; rintro e W6 ⟨v5, rfl, ho5, hb_⟩; obtain ⟨hl5, vf, va, rfl, hf5, ha5⟩ := ho5; obtain ⟨Af, cf, rfl⟩ := Kd.R_slice hf5; obtain ⟨Aa, ca, rfl⟩ := Kd.R_slice ha5; have HSZ := Aside0.mk HB_5.out.size; have LT_gX := Aside0.mk (show gX < W5.heap.size from HX_5.out.lt); have LT_gA := Aside0.mk (show gA < W5.heap.size from HA_5.out.lt); have LT_gZ := Aside0.mk (show gZ < W5.heap.size from HZ_5.out.lt); have HB_6 := Aside0.mk (HB_5.out.trans (hb_.mono HB_5.out.size)); have HX_6 := Aside0.mk (HX_5.out.below hb_); have HA_6 := Aside0.mk (HA_5.out.below hb_); have HZ_6 := Aside0.mk (HZ_5.out.below hb_); have HF_6 := Aside0.mk (hf5); have HG_6 := Aside0.mk (ha5); have HS_6 := Aside0.mk (hb_.size); clear hl5 hf5 ha5 hb_ HB_5 HX_5 HA_5 HZ_5)
    | (refine step_store rfl 57 (.tmp 3) (.tmp 26) rfl gX (bkL b.addr b.aff b.slots (.slice Af b.free.length cf) (.slice Aa b.attrs.length ca)) rfl rfl 57 _ HX_6.out 68 (by kernel_rfl) (bkL_length _ _ _ _ _ HL.out) (bkL_length _ _ _ _ _ HL.out) (bkL_one _ _ _ _ _ rfl rfl) ?_; intro W7 hx_ hg_; have HB_7 := Aside0.mk (HB_6.out.grown hg_ HB_6.out.size (by intro k hk; cases hk; exact GE_gX.out)); have HX_7 := Aside0.mk (OC.stored HL.out HX_6.out hx_ HF_6.out HG_6.out hg_); have HA_7 := Aside0.mk (HA_6.out.grown hg_ (fun e => (HA_6.out.ne HX_6.out (by decide)) (Option.some.inj e))); have HZ_7 := Aside0.mk (HZ_6.out.grown hg_ (fun e => (Ne.symm NE_gX_gZ.out) (Option.some.inj e))); have HF_7 := Aside0.mk (R_box_grown HF_6.out HX_6.out (by decide) hg_); have HG_7 := Aside0.mk (R_box_grown HG_6.out HX_6.out (by decide) hg_); have HS_7 := Aside0.mk (Nat.le_trans HS_6.out hg_.size); have hc_ := hx_.cell 66 _ (bkL_66 _ _ _ _ _ HL.out); have hcf_ : b.free.length ≤ cf := (Kd.R_reads' HF_7.out).2.1; clear hx_ hg_ HB_6 HX_6 HA_6 HZ_6 HF_6 HG_6 HS_6))
  clear hc_
  obtain ⟨b1, hb1⟩ : ∃ b1, b1 = W5.heap.size := ⟨_, rfl⟩
  rw [← hb1] at HX_7 HF_7 HS_7 LT_gX LT_gA LT_gZ HSZ
  have HB1 := Aside0.mk (show w.heap.size ≤ b1 from HSZ.out)
  clear hb1 HSZ
  have hmf : b.free.length ≤ b.free.length := by omega
  go_loopw [9, 11, 36] (fun o _ i W => ∃ k : Nat, k ≤ b.free.length ∧ i = .int .i64 k ∧ Aside0 (OC W b1 gX (asgMid b k a)) ∧ Aside0 (Kd.R (Kd.int .u32) 46 W w.heap.size (fun _ => True) o (asgOut b k)) ∧ Aside0 (Box W gA [.string a.f0, .string a.f1] 85) ∧ Aside0 (Box W gZ zeroL 57) ∧ Aside0 (Kd.R (Kd.int .u8) 5 W b1 (fun _ => True) (.slice Af b.free.length cf) b.free) ∧ Aside0 (b1 ≤ W.heap.size) ∧ Aside0 (Below w.heap.size w W)) (fun _ _ i _ => b.free.length - (intOf i).toNat)
  case atStart => exact ⟨0, by omega, rfl, HX_7, ⟨Kd.R_nil _ _ _ _ _⟩, HA_7, HZ_7, HF_7, HS_7, HB_7⟩
  case round =>
    clear HB_7 HX_7 HA_7 HZ_7 HF_7 HS_7
    obtain ⟨k, hk, rfl, HX_0, HO_0, HA_0, HZ_0, HF_0, HS_0, HB_0⟩ := hrel
    obtain ⟨W, rfl⟩ : ∃ W : World, W = wr := ⟨_, rfl⟩
    by_cases hkn : k < b.free.length
    · have hkb : decide ((k : Int) < (b.free.length : Int)) = true := by simp; omega
      have hkf : k < b.free.length := by omega
      obtain ⟨ad, eA, hx⟩ := Kd.at_int (Kd.R_reads' HF_0.out).2.2 k (by omega) (by omega)
      cases eA
      rw [Int.toNat_natCast] at hx
      obtain ⟨j, hj⟩ : ∃ j : Nat, rd b.free k = (j : Int) := ⟨(rd b.free k).toNat, by have := (U8s_rd HK.out.f8 k).1; omega⟩
      have hj2 : j < 64 := by
        have h1 := HP.out.fr k hkf
        unfold freeBad at h1
        rw [Bool.or_eq_false_iff, decide_eq_false_iff_not] at h1
        have := h1.1
        omega
      rw [hj] at hx
      have HSC := Aside0.mk (show asgMid b (k + 1) a = ⟨(asgMid b k a).addr, (asgMid b k a).aff, (asgMid b k a).slots.set (rd b.free k).toNat (numAt (asgMid b k a).attrs a : Nat), (asgMid b k a).free, addAt (asgMid b k a).attrs a⟩ from asgMid_succ b k a hkf)
      have HSO := Aside0.mk (asgOut_succ b k hkf)
      rw [hj] at HSC HSO
      rw [Int.toNat_natCast] at HSC
      have hol := asgOut_length b k (by omega)
      have HOL := Aside0.mk hol
      have HAL := Aside0.mk (show (asgMid b k a).attrs.length ≤ 100 by
        have := add_length b.attrs a
        have := HSUM.out
        show (if k = 0 then b.attrs else addAt b.attrs a).length ≤ 100
        split <;> omega)
      obtain ⟨bm, hbm⟩ : ∃ bm, bm = asgMid b k a := ⟨_, rfl⟩
      have hadr : bm.addr = b.addr := by rw [hbm]; rfl
      have HADR := Aside0.mk hadr
      clear hadr
      rw [← hbm] at HX_0 HSC HAL
      obtain ⟨oo, hoo⟩ : ∃ oo, oo = asgOut b k := ⟨_, rfl⟩
      obtain ⟨o1, ho1⟩ : ∃ o1, o1 = asgOut b (k + 1) := ⟨_, rfl⟩
      rw [← hoo] at HO_0 HSO HOL
      rw [← ho1, ← HADR.out] at HSO
      have HO1 := Aside0.mk ho1
      have ha0 : 0 ≤ bm.addr := by rw [HADR.out]; exact HK.out.a0
      have ha1 : bm.addr + 64 ≤ 4294967296 := by
        rw [HADR.out]
        have h1 := HP.out.first
        have h2 := HK.out.a1
        unfold firstI at h1
        omega
      clear hol hj hbm hoo ho1
      obtain ⟨Ao, co, rfl⟩ := Kd.R_slice HO_0.out
      go_wp2_with (first
        | ((with_reducible refine gate_dst (N := 41) rfl ?_); refine step_load rfl 85 (.tmp 5) rfl gA rfl _ _ _ HA_0.out Try.underlying85 rfl 2 (by kernel_rfl) rfl ?_)
        | (go_at_call 90; refine (number_any bm HAL.out a gX b1 w.heap.size _ GE_gX.out HB1.out HS_0.out HX_0.out).mono ?_; rintro e W1 ⟨rfl, ho_, hb_, hk_⟩; obtain ⟨A1_, c1_, A2_, c2_, hxx_, _, _⟩ := HX_0.out.open; have HX_1 := Aside0.mk (ho_); have HO_1 := Aside0.mk (Kd.R_added HO_0.out hxx_ (by decide) hk_); have HA_1 := Aside0.mk (Box.added HA_0.out (Ne.symm NE_gX_gA.out) LT_gA.out hk_); have HZ_1 := Aside0.mk (Box.added HZ_0.out (Ne.symm NE_gX_gZ.out) LT_gZ.out hk_); have HF_1 := Aside0.mk (Kd.R_added HF_0.out hxx_ (by decide) hk_); have HS_1 := Aside0.mk (Nat.le_trans HS_0.out hk_.1); have HB_1 := Aside0.mk (HB_0.out.trans hb_); have hc_ := (show OC W1 b1 gX ⟨bm.addr, bm.aff, bm.slots, bm.free, addAt bm.attrs a⟩ from HX_1.out).slotCell j hj2; have hcz_ := HX_1.out.frozen (2 + j); have hca_ := HX_1.out.addrCell; clear ho_ hb_ hk_ hxx_ HX_0 HO_0 HA_0 HZ_0 HF_0 HS_0 HB_0)
        | ((with_reducible refine gate_builtin (b := .append) (xs := #[.tmp 45, .tmp 51]) rfl ?_); at_builtin; clear hc_ hcz_ hca_; obtain ⟨_, _, _, _, hxx_, _, _⟩ := HX_1.out.open; generalize hw_ : W1.setCell ⟨gX, 2 + j, none⟩ (.int .u8 (numAt bm.attrs a : Nat)) = W2; have hz_ : W1.heap.size = W2.heap.size := (by rw [← hw_]; simp [World.setCell]); rw [hz_]; clear hz_; have hg_ : W1.grownBy W2 (some gX) := (by rw [← hw_]; exact setCell_grown _ _ _ _); have HX_2 := Aside0.mk (OC.slot HX_1.out j hj2 (numAt bm.attrs a : Nat)); have HO_2 := Aside0.mk (R_box_grown HO_1.out hxx_ (by decide) hg_); have HA_2 := Aside0.mk (HA_1.out.grown hg_ (fun e => (Ne.symm NE_gX_gA.out) (Option.some.inj e))); have HZ_2 := Aside0.mk (HZ_1.out.grown hg_ (fun e => (Ne.symm NE_gX_gZ.out) (Option.some.inj e))); have HF_2 := Aside0.mk (R_box_grown HF_1.out hxx_ (by decide) hg_); have HS_2 := Aside0.mk (Nat.le_trans HS_1.out hg_.size); have HB_2 := Aside0.mk (HB_1.out.grown hg_ HB_1.out.size (by intro k hk; cases hk; exact GE_gX.out)); rw [hw_] at HX_2; clear hw_ hg_ HX_1 HO_1 HA_1 HZ_1 HF_1 HS_1 HB_1 hxx_; refine Kd.R_append (Kd.int .u32) (w0 := w) w.heap.size rfl (.tmp 45) (.tmp 51) 77 46 (.int .u32 0) 4 rfl Try.underlying77 info_u32 rfl (by decide) (by omega) _ oo (bm.addr + (j : Int)) [.int .u32 (bm.addr + (j : Int))] (fun _ => True) (fun _ => False) rfl rfl rfl (fun _ hk => hk.elim) (fun _ _ => trivial) HO_2.out HB_2.out HB_2.out.size (by have := HOL.out; omega) ?_; intro v_ W3 ho_ hb_ hg_ hat_; rw [← HSO.out] at ho_; have HX_3 := Aside0.mk (OC.row HX_2.out HO_2.out (by decide) (by decide) hg_); have HO_3 := Aside0.mk (ho_); have HA_3 := Aside0.mk (HA_2.out.grown hg_ (HA_2.out.ne_row HO_2.out (by decide))); have HZ_3 := Aside0.mk (HZ_2.out.grown hg_ (HZ_2.out.ne_row HO_2.out (by decide))); have HF_3 := Aside0.mk (Kd.R_over HF_2.out HO_2.out (by decide) hg_); have HS_3 := Aside0.mk (Nat.le_trans HS_2.out hg_.size); have HB_3 := Aside0.mk (hb_); obtain ⟨AO, cO, rfl⟩ := Kd.R_slice ho_; clear ho_ hb_ hg_ hat_ HX_2 HO_2 HA_2 HZ_2 HF_2 HS_2 HB_2))
      go_roundw
      case rel => exact ⟨k + 1, by omega, by go_num, ⟨by rw [HSC.out]; exact HX_3.out⟩, ⟨by rw [← HO1.out]; exact HO_3.out⟩, HA_3, HZ_3, HF_3, HS_3, HB_3⟩
      case measure => simp [intOf]; omega
    · obtain rfl : k = b.free.length := by omega
      have hkb : decide ((b.free.length : Int) < (b.free.length : Int)) = false := by simp
      have hol := asgOut_length b b.free.length (by omega)
      obtain ⟨oo, hoo⟩ : ∃ oo, oo = asgOut b b.free.length := ⟨_, rfl⟩
      obtain ⟨bm, hbm⟩ : ∃ bm, bm = asgMid b b.free.length a := ⟨_, rfl⟩
      rw [← hoo] at HO_0 hol
      rw [← hbm] at HX_0
      have HOO := Aside0.mk hoo
      have hfr : bm.free = b.free := by rw [hbm]; rfl
      have HBK := Aside0.mk (show asgBk b b.free.length a = ⟨bm.addr, bm.aff, bm.slots, bm.free.drop oo.length, bm.attrs⟩ by rw [hol, hbm]; rfl)
      obtain ⟨Ao, co, rfl⟩ := Kd.R_slice HO_0.out
      obtain ⟨A1, c1, A2, c2, hxx, hf1, ha1⟩ := HX_0.out.open
      have hqa : bm.free.length ≤ c1 := (Kd.R_reads' hf1).2.1
      have hqb : oo.length ≤ bm.free.length := by rw [hfr, hol]; omega
      have hqc : bm.free.length ≤ 64 := by rw [hfr]; omega
      have HQ := Aside0.mk (Kd.R_reads' hf1).2.2
      have HA1 := Aside0.mk ha1
      have HXX := Aside0.mk hxx
      have HL := Aside0.mk HX_0.out.l64
      have HWS := Aside0.mk HB_0.out.size
      have hc_ := hxx.cell 66 _ (bkL_66 _ _ _ _ _ HL.out)
      have HCD := Aside0.mk (fun w' (h : Kd.C (Kd.int .u8) w' A1 bm.free.length bm.free) => cloneDrop bm.free A1 c1 oo.length w' h hqb hqa (by omega) _ rfl)
      obtain ⟨fd, hfd⟩ : ∃ fd, fd = bm.free.drop oo.length := ⟨_, rfl⟩
      rw [← hfd] at HCD HBK
      clear hxx hf1 ha1 hol hoo hbm hfr hfd
      by_cases hne : c1 = oo.length
      all_goals
        first | rw [if_neg hne] at HCD | rw [if_pos hne, show c1 - oo.length = 0 by omega] at HCD
        go_wp2_with (first
          | (go_at_call 91; refine (HCD.out _ HQ.out).mono ?_; rintro e W1 ⟨v1_, rfl, hf_, hb_⟩; clear hc_; obtain ⟨A3_, c3_, rfl⟩ := Kd.R_slice hf_; have HX_1 := Aside0.mk (HXX.out.below hb_); have HO_1 := Aside0.mk (Kd.R_below HO_0.out hb_); have HZ_1 := Aside0.mk (HZ_0.out.below hb_); have HS_1 := Aside0.mk (Nat.le_trans HS_0.out hb_.size); have HB_1 := Aside0.mk (HB_0.out.trans (hb_.mono HB_0.out.size)); have HP_1 := Aside0.mk (Kd.R_below HA1.out hb_); have HD_1 := Aside0.mk (hf_); have hc1_ := HX_1.out.cell 66 _ (bkL_66 _ _ _ _ _ HL.out); have hz1_ := HX_1.out.frozen 66; clear hf_ hb_ HXX HO_0 HZ_0 HS_0 HB_0 HA1)
          | (generalize hw_ : W1.setCell ⟨gX, 66, none⟩ (.slice A3_ fd.length c3_) = W2; have hg_ : W1.grownBy W2 (some gX) := (by rw [← hw_]; exact setCell_grown _ _ _ _); have HX_2 := Aside0.mk (HX_1.out.set 66 (.slice A3_ fd.length c3_)); have HO_2 := Aside0.mk (R_box_grown HO_1.out HX_1.out (by decide) hg_); have HZ_2 := Aside0.mk (HZ_1.out.grown hg_ (fun e => (Ne.symm NE_gX_gZ.out) (Option.some.inj e))); have HS_2 := Aside0.mk (Nat.le_trans HS_1.out hg_.size); have HB_2 := Aside0.mk (HB_1.out.grown hg_ HB_1.out.size (by intro k hk; cases hk; exact GE_gX.out)); have HP_2 := Aside0.mk (R_box_grown HP_1.out HX_1.out (by decide) hg_); have HD_2 := Aside0.mk (R_box_grown HD_1.out HX_1.out (by decide) hg_); rw [hw_] at HX_2; clear hw_ hg_ HX_1 HO_1 HZ_1 HS_1 HB_1 HP_1 HD_1 hc1_ hz1_; rw [bkL_set_66 _ _ _ _ _ HL.out] at HX_2; refine step_load rfl 57 (.tmp 3) rfl gX rfl _ _ _ HX_2.out Try.underlying57 rfl 68 (by kernel_rfl) (bkL_length _ _ _ _ _ HL.out) ?_)
          | (refine step_store rfl 57 (.tmp 6) (.tmp 61) rfl gZ (bkL bm.addr bm.aff bm.slots (.slice A3_ fd.length c3_) (.slice A2 bm.attrs.length c2)) rfl rfl 57 _ HZ_2.out 68 (by kernel_rfl) (bkL_length _ _ _ _ _ HL.out) rfl (bkL_one _ _ _ _ _ rfl rfl) ?_; intro W3 hx_ hg_; have HX_3 := Aside0.mk (HX_2.out.grown hg_ (fun e => NE_gX_gZ.out (Option.some.inj e))); have HO_3 := Aside0.mk (R_box_grown HO_2.out HZ_2.out (by decide) hg_); have HZ_3 := Aside0.mk (hx_); have HS_3 := Aside0.mk (Nat.le_trans HS_2.out hg_.size); have HB_3 := Aside0.mk (HB_2.out.grown hg_ HB_2.out.size (by intro k hk; cases hk; exact GE_gZ.out)); have HP_3 := Aside0.mk (R_box_grown HP_2.out HZ_2.out (by decide) hg_); have HD_3 := Aside0.mk (R_box_grown HD_2.out HZ_2.out (by decide) hg_); clear hx_ hg_ HX_2 HO_2 HZ_2 HS_2 HB_2 HP_2 HD_2))
        refine bodyPost_ret (results_ctt rfl _ _ gZ 57 _ (0, 0) _ rfl HZ_3.out Try.underlying57 rfl (by simp only [List.size_toArray]; exact size57 _ (bkL_length _ _ _ _ _ HL.out))) rfl ⟨_, _, rfl, ?_, ?_, HB_3.out⟩
        · rw [HBK.out]; exact ⟨HL.out, _, _, rfl, Kd.R_lower HD_3.out HWS.out, Kd.R_lower HP_3.out HB1.out⟩
        · rw [← HOO.out]; exact HO_3.out
set_option maxHeartbeats 16000000 in
set_option maxRecDepth 100000 in
theorem assign_just (b : Bk) (hk : BkOk b)  (a : At) (hrt : rightB b = true) (hm : mayAt a = true) (v : Value) (w : World) (h : BkV w v b) :
    Calls Try.prog 49 #[v, .int .i64 (b.free.length : Int), atV a] w fun e w' => ∃ v' vo, e = .returned (.tuple #[v', vo, .int .i64 0]) ∧ BkO w' w.heap.size v' (asgBk b b.free.length a) ∧ Kd.R (Kd.int .u32) 46 w' w.heap.size (fun _ => True) vo (asgOut b b.free.length) ∧ Below w.heap.size w w' := by
  obtain ⟨A, c, A', c', rfl, hr⟩ := h
  have hp := right_p hrt
  have hsum := hp.sum_le hk hr.l64
  have HL := Aside0.mk hr.l64
  have HR := Aside0.mk hr
  have HK := Aside0.mk hk
  have HRT := Aside0.mk hrt
  have HMY := Aside0.mk hm
  have HP := Aside0.mk hp
  have hfl : b.free.length ≤ 64 := by omega
  have HCP := Aside0.mk (copied_any b (by omega) (by omega))
  have HB_0 := Aside0.mk (Below.refl w.heap.size w)
  have HSUM := Aside0.mk hsum
  clear hr hk hrt hm hp hsum
  go_enter Try.func49, Try.ntmps49
  go_wp2_with (first
    | (refine step_box rfl 57 (.tmp 0) rfl _ rfl ?_; intro gX W1 hg_ hx_ hb_; have GE_gX := Aside0.mk (show w.heap.size ≤ gX by have := HB_0.out.size; omega); have HB_1 := Aside0.mk (HB_0.out.trans (hb_.mono HB_0.out.size)); have HX_1 := Aside0.mk (hx_); clear hg_ hx_ hb_ HB_0)
    | (refine step_box rfl 85 (.tmp 2) rfl _ rfl ?_; intro gA W2 hg_ hx_ hb_; have GE_gA := Aside0.mk (show w.heap.size ≤ gA by have := HB_1.out.size; omega); have NE_gX_gA := Aside0.mk (show gX ≠ gA by have := HX_1.out.lt; omega); have HB_2 := Aside0.mk (HB_1.out.trans (hb_.mono HB_1.out.size)); have HX_2 := Aside0.mk (HX_1.out.below hb_); have HA_2 := Aside0.mk (hx_); clear hg_ hx_ hb_ HB_1 HX_1)
    | (refine step_allocN (some 6) rfl rfl 57 rfl zeroL zero57 ?_; intro gZ W3 hg_ hx_ hb_; have GE_gZ := Aside0.mk (show w.heap.size ≤ gZ by have := HB_2.out.size; omega); have NE_gX_gZ := Aside0.mk (show gX ≠ gZ by have := HX_2.out.lt; omega); have NE_gA_gZ := Aside0.mk (show gA ≠ gZ by have := HA_2.out.lt; omega); have HB_3 := Aside0.mk (HB_2.out.trans (hb_.mono HB_2.out.size)); have HX_3 := Aside0.mk (HX_2.out.below hb_); have HA_3 := Aside0.mk (HA_2.out.below hb_); have HZ_3 := Aside0.mk (hx_); clear hg_ hx_ hb_ HB_2 HX_2 HA_2)
    | ((with_reducible refine gate_dst (N := 12) rfl ?_); refine step_load rfl 57 (.tmp 3) rfl gX rfl _ _ _ HX_3.out Try.underlying57 rfl 68 (by kernel_rfl) (bkL_length _ _ _ _ _ HL.out) ?_)
    | (go_at_call 48; refine (right_any' b HK.out _ _ ⟨A, c, A', c', rfl, HR.out.below HB_3.out⟩).mono ?_; rintro e W4 ⟨rfl, hb_⟩; rw [HRT.out]; have HB_4 := Aside0.mk (HB_3.out.trans (hb_.mono HB_3.out.size)); have HX_4 := Aside0.mk (HX_3.out.below hb_); have HA_4 := Aside0.mk (HA_3.out.below hb_); have HZ_4 := Aside0.mk (HZ_3.out.below hb_); clear hb_ HB_3 HX_3 HA_3 HZ_3)
    | ((with_reducible refine gate_dst (N := 16) rfl ?_); refine gate_guard (by rfl) ?_; refine step_load rfl 85 (.tmp 5) rfl gA rfl _ _ _ HA_4.out Try.underlying85 rfl 2 (by kernel_rfl) rfl ?_)
    | (go_at_call 88; refine (bmay_any a _).mono ?_; rintro e W5 ⟨rfl, hb_⟩; rw [HMY.out]; have HB_5 := Aside0.mk (HB_4.out.trans (hb_.mono HB_4.out.size)); have HX_5 := Aside0.mk (HX_4.out.below hb_); have HA_5 := Aside0.mk (HA_4.out.below hb_); have HZ_5 := Aside0.mk (HZ_4.out.below hb_); clear hb_ HB_4 HX_4 HA_4 HZ_4)
    | ((with_reducible refine gate_dst (N := 25) rfl ?_); refine step_load rfl 57 (.tmp 3) rfl gX rfl _ _ _ HX_5.out Try.underlying57 rfl 68 (by kernel_rfl) (bkL_length _ _ _ _ _ HL.out) ?_)
    | (go_at_call 89; refine (HCP.out _ _ ⟨A, c, A', c', rfl, HR.out.below HB_5.out⟩).mono ?_; rintro e W6 ⟨v5, rfl, ho5, hb_⟩; obtain ⟨hl5, vf, va, rfl, hf5, ha5⟩ := ho5; obtain ⟨Af, cf, rfl⟩ := Kd.R_slice hf5; obtain ⟨Aa, ca, rfl⟩ := Kd.R_slice ha5; have HSZ := Aside0.mk HB_5.out.size; have LT_gX := Aside0.mk (show gX < W5.heap.size from HX_5.out.lt); have LT_gA := Aside0.mk (show gA < W5.heap.size from HA_5.out.lt); have LT_gZ := Aside0.mk (show gZ < W5.heap.size from HZ_5.out.lt); have HB_6 := Aside0.mk (HB_5.out.trans (hb_.mono HB_5.out.size)); have HX_6 := Aside0.mk (HX_5.out.below hb_); have HA_6 := Aside0.mk (HA_5.out.below hb_); have HZ_6 := Aside0.mk (HZ_5.out.below hb_); have HF_6 := Aside0.mk (hf5); have HG_6 := Aside0.mk (ha5); have HS_6 := Aside0.mk (hb_.size); clear hl5 hf5 ha5 hb_ HB_5 HX_5 HA_5 HZ_5)
    | (refine step_store rfl 57 (.tmp 3) (.tmp 26) rfl gX (bkL b.addr b.aff b.slots (.slice Af b.free.length cf) (.slice Aa b.attrs.length ca)) rfl rfl 57 _ HX_6.out 68 (by kernel_rfl) (bkL_length _ _ _ _ _ HL.out) (bkL_length _ _ _ _ _ HL.out) (bkL_one _ _ _ _ _ rfl rfl) ?_; intro W7 hx_ hg_; have HB_7 := Aside0.mk (HB_6.out.grown hg_ HB_6.out.size (by intro k hk; cases hk; exact GE_gX.out)); have HX_7 := Aside0.mk (OC.stored HL.out HX_6.out hx_ HF_6.out HG_6.out hg_); have HA_7 := Aside0.mk (HA_6.out.grown hg_ (fun e => (HA_6.out.ne HX_6.out (by decide)) (Option.some.inj e))); have HZ_7 := Aside0.mk (HZ_6.out.grown hg_ (fun e => (Ne.symm NE_gX_gZ.out) (Option.some.inj e))); have HF_7 := Aside0.mk (R_box_grown HF_6.out HX_6.out (by decide) hg_); have HG_7 := Aside0.mk (R_box_grown HG_6.out HX_6.out (by decide) hg_); have HS_7 := Aside0.mk (Nat.le_trans HS_6.out hg_.size); have hc_ := hx_.cell 66 _ (bkL_66 _ _ _ _ _ HL.out); have hcf_ : b.free.length ≤ cf := (Kd.R_reads' HF_7.out).2.1; clear hx_ hg_ HB_6 HX_6 HA_6 HZ_6 HF_6 HG_6 HS_6))
  clear hc_
  obtain ⟨b1, hb1⟩ : ∃ b1, b1 = W5.heap.size := ⟨_, rfl⟩
  rw [← hb1] at HX_7 HF_7 HS_7 LT_gX LT_gA LT_gZ HSZ
  have HB1 := Aside0.mk (show w.heap.size ≤ b1 from HSZ.out)
  clear hb1 HSZ
  have hmf : b.free.length ≤ b.free.length := by omega
  go_loopw [9, 11, 36] (fun o _ i W => ∃ k : Nat, k ≤ b.free.length ∧ i = .int .i64 k ∧ Aside0 (OC W b1 gX (asgMid b k a)) ∧ Aside0 (Kd.R (Kd.int .u32) 46 W w.heap.size (fun _ => True) o (asgOut b k)) ∧ Aside0 (Box W gA [.string a.f0, .string a.f1] 85) ∧ Aside0 (Box W gZ zeroL 57) ∧ Aside0 (Kd.R (Kd.int .u8) 5 W b1 (fun _ => True) (.slice Af b.free.length cf) b.free) ∧ Aside0 (b1 ≤ W.heap.size) ∧ Aside0 (Below w.heap.size w W)) (fun _ _ i _ => b.free.length - (intOf i).toNat)
  case atStart => exact ⟨0, by omega, rfl, HX_7, ⟨Kd.R_nil _ _ _ _ _⟩, HA_7, HZ_7, HF_7, HS_7, HB_7⟩
  case round =>
    clear HB_7 HX_7 HA_7 HZ_7 HF_7 HS_7
    obtain ⟨k, hk, rfl, HX_0, HO_0, HA_0, HZ_0, HF_0, HS_0, HB_0⟩ := hrel
    obtain ⟨W, rfl⟩ : ∃ W : World, W = wr := ⟨_, rfl⟩
    by_cases hkn : k < b.free.length
    · have hkb : decide ((k : Int) < (b.free.length : Int)) = true := by simp; omega
      have hkf : k < b.free.length := by omega
      obtain ⟨ad, eA, hx⟩ := Kd.at_int (Kd.R_reads' HF_0.out).2.2 k (by omega) (by omega)
      cases eA
      rw [Int.toNat_natCast] at hx
      obtain ⟨j, hj⟩ : ∃ j : Nat, rd b.free k = (j : Int) := ⟨(rd b.free k).toNat, by have := (U8s_rd HK.out.f8 k).1; omega⟩
      have hj2 : j < 64 := by
        have h1 := HP.out.fr k hkf
        unfold freeBad at h1
        rw [Bool.or_eq_false_iff, decide_eq_false_iff_not] at h1
        have := h1.1
        omega
      rw [hj] at hx
      have HSC := Aside0.mk (show asgMid b (k + 1) a = ⟨(asgMid b k a).addr, (asgMid b k a).aff, (asgMid b k a).slots.set (rd b.free k).toNat (numAt (asgMid b k a).attrs a : Nat), (asgMid b k a).free, addAt (asgMid b k a).attrs a⟩ from asgMid_succ b k a hkf)
      have HSO := Aside0.mk (asgOut_succ b k hkf)
      rw [hj] at HSC HSO
      rw [Int.toNat_natCast] at HSC
      have hol := asgOut_length b k (by omega)
      have HOL := Aside0.mk hol
      have HAL := Aside0.mk (show (asgMid b k a).attrs.length ≤ 100 by
        have := add_length b.attrs a
        have := HSUM.out
        show (if k = 0 then b.attrs else addAt b.attrs a).length ≤ 100
        split <;> omega)
      obtain ⟨bm, hbm⟩ : ∃ bm, bm = asgMid b k a := ⟨_, rfl⟩
      have hadr : bm.addr = b.addr := by rw [hbm]; rfl
      have HADR := Aside0.mk hadr
      clear hadr
      rw [← hbm] at HX_0 HSC HAL
      obtain ⟨oo, hoo⟩ : ∃ oo, oo = asgOut b k := ⟨_, rfl⟩
      obtain ⟨o1, ho1⟩ : ∃ o1, o1 = asgOut b (k + 1) := ⟨_, rfl⟩
      rw [← hoo] at HO_0 HSO HOL
      rw [← ho1, ← HADR.out] at HSO
      have HO1 := Aside0.mk ho1
      have ha0 : 0 ≤ bm.addr := by rw [HADR.out]; exact HK.out.a0
      have ha1 : bm.addr + 64 ≤ 4294967296 := by
        rw [HADR.out]
        have h1 := HP.out.first
        have h2 := HK.out.a1
        unfold firstI at h1
        omega
      clear hol hj hbm hoo ho1
      obtain ⟨Ao, co, rfl⟩ := Kd.R_slice HO_0.out
      go_wp2_with (first
        | ((with_reducible refine gate_dst (N := 41) rfl ?_); refine step_load rfl 85 (.tmp 5) rfl gA rfl _ _ _ HA_0.out Try.underlying85 rfl 2 (by kernel_rfl) rfl ?_)
        | (go_at_call 90; refine (number_any bm HAL.out a gX b1 w.heap.size _ GE_gX.out HB1.out HS_0.out HX_0.out).mono ?_; rintro e W1 ⟨rfl, ho_, hb_, hk_⟩; obtain ⟨A1_, c1_, A2_, c2_, hxx_, _, _⟩ := HX_0.out.open; have HX_1 := Aside0.mk (ho_); have HO_1 := Aside0.mk (Kd.R_added HO_0.out hxx_ (by decide) hk_); have HA_1 := Aside0.mk (Box.added HA_0.out (Ne.symm NE_gX_gA.out) LT_gA.out hk_); have HZ_1 := Aside0.mk (Box.added HZ_0.out (Ne.symm NE_gX_gZ.out) LT_gZ.out hk_); have HF_1 := Aside0.mk (Kd.R_added HF_0.out hxx_ (by decide) hk_); have HS_1 := Aside0.mk (Nat.le_trans HS_0.out hk_.1); have HB_1 := Aside0.mk (HB_0.out.trans hb_); have hc_ := (show OC W1 b1 gX ⟨bm.addr, bm.aff, bm.slots, bm.free, addAt bm.attrs a⟩ from HX_1.out).slotCell j hj2; have hcz_ := HX_1.out.frozen (2 + j); have hca_ := HX_1.out.addrCell; clear ho_ hb_ hk_ hxx_ HX_0 HO_0 HA_0 HZ_0 HF_0 HS_0 HB_0)
        | ((with_reducible refine gate_builtin (b := .append) (xs := #[.tmp 45, .tmp 51]) rfl ?_); at_builtin; clear hc_ hcz_ hca_; obtain ⟨_, _, _, _, hxx_, _, _⟩ := HX_1.out.open; generalize hw_ : W1.setCell ⟨gX, 2 + j, none⟩ (.int .u8 (numAt bm.attrs a : Nat)) = W2; have hz_ : W1.heap.size = W2.heap.size := (by rw [← hw_]; simp [World.setCell]); rw [hz_]; clear hz_; have hg_ : W1.grownBy W2 (some gX) := (by rw [← hw_]; exact setCell_grown _ _ _ _); have HX_2 := Aside0.mk (OC.slot HX_1.out j hj2 (numAt bm.attrs a : Nat)); have HO_2 := Aside0.mk (R_box_grown HO_1.out hxx_ (by decide) hg_); have HA_2 := Aside0.mk (HA_1.out.grown hg_ (fun e => (Ne.symm NE_gX_gA.out) (Option.some.inj e))); have HZ_2 := Aside0.mk (HZ_1.out.grown hg_ (fun e => (Ne.symm NE_gX_gZ.out) (Option.some.inj e))); have HF_2 := Aside0.mk (R_box_grown HF_1.out hxx_ (by decide) hg_); have HS_2 := Aside0.mk (Nat.le_trans HS_1.out hg_.size); have HB_2 := Aside0.mk (HB_1.out.grown hg_ HB_1.out.size (by intro k hk; cases hk; exact GE_gX.out)); rw [hw_] at HX_2; clear hw_ hg_ HX_1 HO_1 HA_1 HZ_1 HF_1 HS_1 HB_1 hxx_; refine Kd.R_append (Kd.int .u32) (w0 := w) w.heap.size rfl (.tmp 45) (.tmp 51) 77 46 (.int .u32 0) 4 rfl Try.underlying77 info_u32 rfl (by decide) (by omega) _ oo (bm.addr + (j : Int)) [.int .u32 (bm.addr + (j : Int))] (fun _ => True) (fun _ => False) rfl rfl rfl (fun _ hk => hk.elim) (fun _ _ => trivial) HO_2.out HB_2.out HB_2.out.size (by have := HOL.out; omega) ?_; intro v_ W3 ho_ hb_ hg_ hat_; rw [← HSO.out] at ho_; have HX_3 := Aside0.mk (OC.row HX_2.out HO_2.out (by decide) (by decide) hg_); have HO_3 := Aside0.mk (ho_); have HA_3 := Aside0.mk (HA_2.out.grown hg_ (HA_2.out.ne_row HO_2.out (by decide))); have HZ_3 := Aside0.mk (HZ_2.out.grown hg_ (HZ_2.out.ne_row HO_2.out (by decide))); have HF_3 := Aside0.mk (Kd.R_over HF_2.out HO_2.out (by decide) hg_); have HS_3 := Aside0.mk (Nat.le_trans HS_2.out hg_.size); have HB_3 := Aside0.mk (hb_); obtain ⟨AO, cO, rfl⟩ := Kd.R_slice ho_; clear ho_ hb_ hg_ hat_ HX_2 HO_2 HA_2 HZ_2 HF_2 HS_2 HB_2))
      go_roundw
      case rel => exact ⟨k + 1, by omega, by go_num, ⟨by rw [HSC.out]; exact HX_3.out⟩, ⟨by rw [← HO1.out]; exact HO_3.out⟩, HA_3, HZ_3, HF_3, HS_3, HB_3⟩
      case measure => simp [intOf]; omega
    · obtain rfl : k = b.free.length := by omega
      have hkb : decide ((b.free.length : Int) < (b.free.length : Int)) = false := by simp
      have hol := asgOut_length b b.free.length (by omega)
      obtain ⟨oo, hoo⟩ : ∃ oo, oo = asgOut b b.free.length := ⟨_, rfl⟩
      obtain ⟨bm, hbm⟩ : ∃ bm, bm = asgMid b b.free.length a := ⟨_, rfl⟩
      rw [← hoo] at HO_0 hol
      rw [← hbm] at HX_0
      have HOO := Aside0.mk hoo
      have hfr : bm.free = b.free := by rw [hbm]; rfl
      have HBK := Aside0.mk (show asgBk b b.free.length a = ⟨bm.addr, bm.aff, bm.slots, bm.free.drop oo.length, bm.attrs⟩ by rw [hol, hbm]; rfl)
      obtain ⟨Ao, co, rfl⟩ := Kd.R_slice HO_0.out
      obtain ⟨A1, c1, A2, c2, hxx, hf1, ha1⟩ := HX_0.out.open
      have hqa : bm.free.length ≤ c1 := (Kd.R_reads' hf1).2.1
      have hqb : oo.length ≤ bm.free.length := by rw [hfr, hol]; omega
      have hqc : bm.free.length ≤ 64 := by rw [hfr]; omega
      have HQ := Aside0.mk (Kd.R_reads' hf1).2.2
      have HA1 := Aside0.mk ha1
      have HXX := Aside0.mk hxx
      have HL := Aside0.mk HX_0.out.l64
      have HWS := Aside0.mk HB_0.out.size
      have hc_ := hxx.cell 66 _ (bkL_66 _ _ _ _ _ HL.out)
      have HCD := Aside0.mk (fun w' (h : Kd.C (Kd.int .u8) w' A1 bm.free.length bm.free) => cloneDrop bm.free A1 c1 oo.length w' h hqb hqa (by omega) _ rfl)
      obtain ⟨fd, hfd⟩ : ∃ fd, fd = bm.free.drop oo.length := ⟨_, rfl⟩
      rw [← hfd] at HCD HBK
      clear hxx hf1 ha1 hol hoo hbm hfr hfd
      by_cases hne : c1 = oo.length
      all_goals
        first | rw [if_neg hne] at HCD | rw [if_pos hne, show c1 - oo.length = 0 by omega] at HCD
        go_wp2_with (first
          | (go_at_call 91; refine (HCD.out _ HQ.out).mono ?_; rintro e W1 ⟨v1_, rfl, hf_, hb_⟩; clear hc_; obtain ⟨A3_, c3_, rfl⟩ := Kd.R_slice hf_; have HX_1 := Aside0.mk (HXX.out.below hb_); have HO_1 := Aside0.mk (Kd.R_below HO_0.out hb_); have HZ_1 := Aside0.mk (HZ_0.out.below hb_); have HS_1 := Aside0.mk (Nat.le_trans HS_0.out hb_.size); have HB_1 := Aside0.mk (HB_0.out.trans (hb_.mono HB_0.out.size)); have HP_1 := Aside0.mk (Kd.R_below HA1.out hb_); have HD_1 := Aside0.mk (hf_); have hc1_ := HX_1.out.cell 66 _ (bkL_66 _ _ _ _ _ HL.out); have hz1_ := HX_1.out.frozen 66; clear hf_ hb_ HXX HO_0 HZ_0 HS_0 HB_0 HA1)
          | (generalize hw_ : W1.setCell ⟨gX, 66, none⟩ (.slice A3_ fd.length c3_) = W2; have hg_ : W1.grownBy W2 (some gX) := (by rw [← hw_]; exact setCell_grown _ _ _ _); have HX_2 := Aside0.mk (HX_1.out.set 66 (.slice A3_ fd.length c3_)); have HO_2 := Aside0.mk (R_box_grown HO_1.out HX_1.out (by decide) hg_); have HZ_2 := Aside0.mk (HZ_1.out.grown hg_ (fun e => (Ne.symm NE_gX_gZ.out) (Option.some.inj e))); have HS_2 := Aside0.mk (Nat.le_trans HS_1.out hg_.size); have HB_2 := Aside0.mk (HB_1.out.grown hg_ HB_1.out.size (by intro k hk; cases hk; exact GE_gX.out)); have HP_2 := Aside0.mk (R_box_grown HP_1.out HX_1.out (by decide) hg_); have HD_2 := Aside0.mk (R_box_grown HD_1.out HX_1.out (by decide) hg_); rw [hw_] at HX_2; clear hw_ hg_ HX_1 HO_1 HZ_1 HS_1 HB_1 HP_1 HD_1 hc1_ hz1_; rw [bkL_set_66 _ _ _ _ _ HL.out] at HX_2; refine step_load rfl 57 (.tmp 3) rfl gX rfl _ _ _ HX_2.out Try.underlying57 rfl 68 (by kernel_rfl) (bkL_length _ _ _ _ _ HL.out) ?_)
          | (refine step_store rfl 57 (.tmp 6) (.tmp 61) rfl gZ (bkL bm.addr bm.aff bm.slots (.slice A3_ fd.length c3_) (.slice A2 bm.attrs.length c2)) rfl rfl 57 _ HZ_2.out 68 (by kernel_rfl) (bkL_length _ _ _ _ _ HL.out) rfl (bkL_one _ _ _ _ _ rfl rfl) ?_; intro W3 hx_ hg_; have HX_3 := Aside0.mk (HX_2.out.grown hg_ (fun e => NE_gX_gZ.out (Option.some.inj e))); have HO_3 := Aside0.mk (R_box_grown HO_2.out HZ_2.out (by decide) hg_); have HZ_3 := Aside0.mk (hx_); have HS_3 := Aside0.mk (Nat.le_trans HS_2.out hg_.size); have HB_3 := Aside0.mk (HB_2.out.grown hg_ HB_2.out.size (by intro k hk; cases hk; exact GE_gZ.out)); have HP_3 := Aside0.mk (R_box_grown HP_2.out HZ_2.out (by decide) hg_); have HD_3 := Aside0.mk (R_box_grown HD_2.out HZ_2.out (by decide) hg_); clear hx_ hg_ HX_2 HO_2 HZ_2 HS_2 HB_2 HP_2 HD_2))
        refine bodyPost_ret (results_ctt rfl _ _ gZ 57 _ (0, 0) _ rfl HZ_3.out Try.underlying57 rfl (by simp only [List.size_toArray]; exact size57 _ (bkL_length _ _ _ _ _ HL.out))) rfl ⟨_, _, rfl, ?_, ?_, HB_3.out⟩
        · rw [HBK.out]; exact ⟨HL.out, _, _, rfl, Kd.R_lower HD_3.out HWS.out, Kd.R_lower HP_3.out HB1.out⟩
        · rw [← HOO.out]; exact HO_3.out
/-- What Assign answers. -/
theorem assign_any (b : Bk) (hk : BkOk b) (n : Int) (hn : n < 9223372036854775808) (a : At) (v : Value) (w : World) (h : BkV w v b) :
    Calls Try.prog 49 #[v, .int .i64 n, atV a] w fun e w' => ∃ v' vo, e = .returned (.tuple #[v', vo, .int .i64 (if asgOk b n a = true then 0 else 1)]) ∧ BkO w' w.heap.size v' (if asgOk b n a = true then asgBk b (min n.toNat b.free.length) a else zbk) ∧ Kd.R (Kd.int .u32) 46 w' w.heap.size (fun _ => True) vo (if asgOk b n a = true then asgOut b (min n.toNat b.free.length) else []) ∧ Below w.heap.size w w' := by
  cases ho : asgOk b n a with
  | false =>
    simp only [Bool.false_eq_true, if_false]
    exact assign_no b hk n a ho v w h
  | true =>
    simp only [if_true]
    unfold asgOk at ho
    simp only [Bool.and_eq_true, decide_eq_true_eq] at ho
    obtain ⟨h1, h2, h3⟩ := ho
    by_cases hl : (b.free.length : Int) ≤ n
    · rw [show min n.toNat b.free.length = b.free.length by omega]
      by_cases hl2 : (b.free.length : Int) < n
      · exact assign_all b hk n hl2 hn a h1 h2 v w h
      · obtain rfl : n = (b.free.length : Int) := by omega
        exact assign_just b hk a h1 h2 v w h
    · obtain ⟨m, rfl⟩ : ∃ m : Nat, n = (m : Int) := ⟨n.toNat, by omega⟩
      rw [show min (m : Int).toNat b.free.length = m by omega]
      exact assign_part b hk m (by omega) a h1 h2 v w h
end Go.Proofs.Ytemhalnhbgkbcaa.V
end

-- BRelease
section
/- block.Release. -/
namespace Go.Proofs.Ytemhalnhbgkbcaa.V
open Go.RowKit Go.Proofs.YtemhalnhbgkbcaaW.PrintWords Go.Proofs.YtemhalnhbgkbcaaW.PrintLast Go.Proofs.YtemhalnhbgkbcaaW.PrintMore
set_option linter.unusedVariables false
set_option linter.unusedSimpArgs false

set_option maxHeartbeats 16000000 in
set_option maxRecDepth 100000 in
theorem release_no (b : Bk) (hk : BkOk b) (l : List Int) (hu : ∀ x ∈ l, 0 ≤ x ∧ x < 4294967296) (hll : l.length ≤ 1000) (Al : Option Addr) (cl : Nat) (hrt : rightB b = false) (v : Value) (w : World) (h : BkV w v b) (hC : Kd.C (Kd.int .u32) w Al l.length l) :
    Calls Try.prog 52 #[v, .slice Al l.length cl] w fun e w' => ∃ v' vo, e = .returned (.tuple #[v', vo, .int .i64 1]) ∧ BkO w' w.heap.size v' zbk ∧ Kd.R (Kd.int .u32) 46 w' w.heap.size (fun _ => True) vo [] ∧ Below w.heap.size w w' := by
  obtain ⟨A, c, A', c', rfl, hr⟩ := h
  have HL := Aside0.mk hr.l64
  have HR := Aside0.mk hr
  have HK := Aside0.mk hk
  have HRT := Aside0.mk hrt
  have HC := Aside0.mk hC
  have HB_0 := Aside0.mk (Below.refl w.heap.size w)
  clear hr hk hrt hC
  go_enter Try.func52, Try.ntmps52
  go_wp2_with (first
    | (refine step_box rfl 57 (.tmp 0) rfl _ rfl ?_; intro gX W1 hg_ hx_ hb_; have GE_gX := Aside0.mk (show w.heap.size ≤ gX by have := HB_0.out.size; omega); have HB_1 := Aside0.mk (HB_0.out.trans (hb_.mono HB_0.out.size)); have HX_1 := Aside0.mk (hx_); clear hg_ hx_ hb_ HB_0)
    | (refine step_allocN (some 4) rfl rfl 57 rfl zeroL zero57 ?_; intro gZ W2 hg_ hx_ hb_; have GE_gZ := Aside0.mk (show w.heap.size ≤ gZ by have := HB_1.out.size; omega); have NE_gX_gZ := Aside0.mk (show gX ≠ gZ by have := HX_1.out.lt; omega); have HB_2 := Aside0.mk (HB_1.out.trans (hb_.mono HB_1.out.size)); have HX_2 := Aside0.mk (HX_1.out.below hb_); have HZ_2 := Aside0.mk (hx_); clear hg_ hx_ hb_ HB_1 HX_1)
    | ((with_reducible refine gate_dst (N := 12) rfl ?_); go_loud (refine step_load rfl 57 (.tmp 2) rfl gX rfl _ _ _ HX_2.out Try.underlying57 rfl 68 (by kernel_rfl) (bkL_length _ _ _ _ _ HL.out) ?_))
    | (go_at_call 48; go_loud (refine (right_any' b HK.out _ _ ⟨A, c, A', c', rfl, HR.out.below HB_2.out⟩).mono ?_; rintro e W3 ⟨rfl, hb_⟩; rw [HRT.out]; have HB_3 := Aside0.mk (HB_2.out.trans (hb_.mono HB_2.out.size)); have HX_3 := Aside0.mk (HX_2.out.below hb_); have HZ_3 := Aside0.mk (HZ_2.out.below hb_); clear hb_ HB_2 HX_2 HZ_2))
    | (refine step_build rfl 57 #[] rfl zeroL built0 ?_)
    | (refine step_store rfl 57 (.tmp 4) (.tmp 15) rfl gZ zeroL rfl rfl 57 _ HZ_3.out 68 (by kernel_rfl) rfl rfl zeroL_one ?_; intro W4 hx_ hg_; have HB_4 := Aside0.mk (HB_3.out.grown hg_ HB_3.out.size (by intro k hk; cases hk; exact GE_gZ.out)); have HX_4 := Aside0.mk (HX_3.out.grown hg_ (fun e => NE_gX_gZ.out (Option.some.inj e))); have HZ_4 := Aside0.mk (hx_); clear hx_ hg_ HB_3 HX_3 HZ_3))
  exact bodyPost_ret (results_ctt rfl _ _ gZ 57 _ (0, 0) _ rfl HZ_4.out Try.underlying57 rfl (by simp only [List.size_toArray]; exact size57 _ rfl)) rfl ⟨_, _, rfl, zbk_O _ _, Kd.R_nil _ _ _ _ _, HB_4.out⟩
set_option maxHeartbeats 16000000 in
set_option maxRecDepth 100000 in
theorem release_yes (b : Bk) (hk : BkOk b) (l : List Int) (hu : ∀ x ∈ l, 0 ≤ x ∧ x < 4294967296) (hll : l.length ≤ 1000) (Al : Option Addr) (cl : Nat) (hrt : rightB b = true) (v : Value) (w : World) (h : BkV w v b) (hC : Kd.C (Kd.int .u32) w Al l.length l) :
    Calls Try.prog 52 #[v, .slice Al l.length cl] w fun e w' => ∃ v' vo, e = .returned (.tuple #[v', vo, .int .i64 0]) ∧ BkO w' w.heap.size v' (relBk b l) ∧ Kd.R (Kd.int .u32) 46 w' w.heap.size (fun _ => True) vo (relL b l).2 ∧ Below w.heap.size w w' := by
  obtain ⟨A, c, A', c', rfl, hr⟩ := h
  have HL := Aside0.mk hr.l64
  have HR := Aside0.mk hr
  have HK := Aside0.mk hk
  have HRT := Aside0.mk hrt
  have HC := Aside0.mk hC
  have HB_0 := Aside0.mk (Below.refl w.heap.size w)
  have hp := right_p hrt
  have hsum := hp.sum_le hk hr.l64
  have hrk := relL_ok hk hp hr.l64 l
  have HRK := Aside0.mk hrk
  have HFL := Aside0.mk (show b.free.length ≤ 64 by omega)
  have hal : b.attrs.length ≤ 64 := by omega
  have HAL := Aside0.mk hal
  have HCP := Aside0.mk (copied_any b (by omega) (by omega))
  have HU := Aside0.mk hu
  have HCL := Aside0.mk (relL_attrs b l)
  clear hr hk hrt hC hp hsum hrk hu
  go_enter Try.func52, Try.ntmps52
  go_wp2_with (first
    | (refine step_box rfl 57 (.tmp 0) rfl _ rfl ?_; intro gX W1 hg_ hx_ hb_; have GE_gX := Aside0.mk (show w.heap.size ≤ gX by have := HB_0.out.size; omega); have HB_1 := Aside0.mk (HB_0.out.trans (hb_.mono HB_0.out.size)); have HX_1 := Aside0.mk (hx_); clear hg_ hx_ hb_ HB_0)
    | (refine step_allocN (some 4) rfl rfl 57 rfl zeroL zero57 ?_; intro gZ W2 hg_ hx_ hb_; have GE_gZ := Aside0.mk (show w.heap.size ≤ gZ by have := HB_1.out.size; omega); have NE_gX_gZ := Aside0.mk (show gX ≠ gZ by have := HX_1.out.lt; omega); have HB_2 := Aside0.mk (HB_1.out.trans (hb_.mono HB_1.out.size)); have HX_2 := Aside0.mk (HX_1.out.below hb_); have HZ_2 := Aside0.mk (hx_); clear hg_ hx_ hb_ HB_1 HX_1)
    | ((with_reducible refine gate_dst (N := 12) rfl ?_); go_loud (refine step_load rfl 57 (.tmp 2) rfl gX rfl _ _ _ HX_2.out Try.underlying57 rfl 68 (by kernel_rfl) (bkL_length _ _ _ _ _ HL.out) ?_))
    | (go_at_call 48; go_loud (refine (right_any' b HK.out _ _ ⟨A, c, A', c', rfl, HR.out.below HB_2.out⟩).mono ?_; rintro e W3 ⟨rfl, hb_⟩; rw [HRT.out]; have HB_3 := Aside0.mk (HB_2.out.trans (hb_.mono HB_2.out.size)); have HX_3 := Aside0.mk (HX_2.out.below hb_); have HZ_3 := Aside0.mk (HZ_2.out.below hb_); clear hb_ HB_2 HX_2 HZ_2))
    | ((with_reducible refine gate_dst (N := 16) rfl ?_); go_loud (refine step_load rfl 57 (.tmp 2) rfl gX rfl _ _ _ HX_3.out Try.underlying57 rfl 68 (by kernel_rfl) (bkL_length _ _ _ _ _ HL.out) ?_))
    | (go_at_call 89; go_loud (refine (HCP.out _ _ ⟨A, c, A', c', rfl, HR.out.below HB_3.out⟩).mono ?_; rintro e W4 ⟨v5, rfl, ho5, hb_⟩; obtain ⟨hl5, vf, va, rfl, hf5, ha5⟩ := ho5; obtain ⟨Af, cf, rfl⟩ := Kd.R_slice hf5; obtain ⟨Aa, ca, rfl⟩ := Kd.R_slice ha5; have HSZ := Aside0.mk HB_3.out.size; have HB_4 := Aside0.mk (HB_3.out.trans (hb_.mono HB_3.out.size)); have HX_4 := Aside0.mk (HX_3.out.below hb_); have HZ_4 := Aside0.mk (HZ_3.out.below hb_); have HF_4 := Aside0.mk (hf5); have HG_4 := Aside0.mk (ha5); have HS_4 := Aside0.mk (hb_.size); clear hl5 hf5 ha5 hb_ HB_3 HX_3 HZ_3))
    | (refine step_store rfl 57 (.tmp 2) (.tmp 17) rfl gX (bkL b.addr b.aff b.slots (.slice Af b.free.length cf) (.slice Aa b.attrs.length ca)) rfl rfl 57 _ HX_4.out 68 (by kernel_rfl) (bkL_length _ _ _ _ _ HL.out) (bkL_length _ _ _ _ _ HL.out) (bkL_one _ _ _ _ _ rfl rfl) ?_; intro W5 hx_ hg_; have HB_5 := Aside0.mk (HB_4.out.grown hg_ HB_4.out.size (by intro k hk; cases hk; exact GE_gX.out)); have HX_5 := Aside0.mk (hx_); have HZ_5 := Aside0.mk (HZ_4.out.grown hg_ (fun e => (Ne.symm NE_gX_gZ.out) (Option.some.inj e))); have HF_5 := Aside0.mk (R_box_grown HF_4.out HX_4.out (by decide) hg_); have HG_5 := Aside0.mk (R_box_grown HG_4.out HX_4.out (by decide) hg_); have HS_5 := Aside0.mk (Nat.le_trans HS_4.out hg_.size); clear hx_ hg_ HB_4 HX_4 HZ_4 HF_4 HG_4 HS_4))
  obtain ⟨b1, hb1⟩ : ∃ b1, b1 = W3.heap.size := ⟨_, rfl⟩
  rw [← hb1] at HF_5 HG_5 HS_5 HSZ
  have HB1 := Aside0.mk (show w.heap.size ≤ b1 from HSZ.out)
  clear hb1 HSZ
  go_loopw [7, 9, 10, 11, 20, 24] (fun q _ _ _ i _ W => ∃ k : Nat, k ≤ l.length ∧ i = .int .i64 k ∧ Aside0 (OC W b1 gX (relL b (l.take k)).1) ∧ Aside0 (Kd.R (Kd.int .u32) 46 W w.heap.size (fun _ => True) q (relL b (l.take k)).2) ∧ Aside0 (Box W gZ zeroL 57) ∧ Aside0 (b1 ≤ W.heap.size) ∧ Aside0 (Below w.heap.size w W)) (fun _ _ _ _ i _ _ => l.length - (intOf i).toNat)
  case atStart => exact ⟨0, by omega, rfl, ⟨HL.out, _, _, HX_5.out, HF_5.out, HG_5.out⟩, ⟨Kd.R_nil _ _ _ _ _⟩, HZ_5, HS_5, HB_5⟩
  case round =>
    clear HB_5 HX_5 HZ_5 HF_5 HG_5 HS_5
    obtain ⟨k, hk, rfl, HX_0, HO_0, HZ_0, HS_0, HB_0⟩ := hrel
    obtain ⟨W, rfl⟩ : ∃ W : World, W = wr := ⟨_, rfl⟩
    have hro := HRK.out k hk
    by_cases hkn : k < l.length
    · have hkb : decide ((k : Int) < (l.length : Int)) = true := by simp; omega
      obtain ⟨ad, eA, hx⟩ := Kd.at_int (Kd.C_below HC.out HB_0.out) k (by omega) (by omega)
      cases eA
      rw [Int.toNat_natCast] at hx
      have p1 : ((k : Int) < (l.length : Int)) = True := eq_true (by omega)
      have hrd : rd l k = l[k] := by simp [rd, List.getD, hkn]
      have hx0 := HU.out _ (List.getElem_mem hkn)
      obtain ⟨x, hxx⟩ : ∃ x, l[k] = x := ⟨_, rfl⟩
      rw [hxx] at hrd hx0
      rw [hrd] at hx
      have hsu := relL_succ b l k hkn x hxx
      obtain ⟨rs, hrs⟩ : ∃ rs, rs = relL b (l.take k) := ⟨_, rfl⟩
      rw [← hrs] at hro hsu HX_0 HO_0
      have hol := hro.ol
      have hfl := hro.fl
      have hbk : BkOk rs.1 := ⟨by rw [hro.addr]; exact HK.out.a0, by rw [hro.addr]; exact HK.out.a1, hro.s8, hro.f8⟩
      have hpl := fun v w h => place_any rs.1 hbk x hx0.1 hx0.2 v w h
      have HSU := Aside0.mk hsu
      have HLM := Aside0.mk hro.l64
      obtain ⟨bm, oo⟩ := rs
      simp only at hol hfl hpl HX_0 HO_0 HLM
      obtain ⟨Ao, co, rfl⟩ := Kd.R_slice HO_0.out
      obtain ⟨A1, c1, A2, c2, hxx1, hf1, ha1⟩ := HX_0.out.open
      have HOL := Aside0.mk (show oo.length ≤ 1000 by omega)
      have HFLN := Aside0.mk (show bm.free.length ≤ 2000 by have := HFL.out; omega)
      have HXX := Aside0.mk hxx1
      have HF1 := Aside0.mk hf1
      have HA1 := Aside0.mk ha1
      clear hro hxx1 hf1 ha1 hrs hrd hxx hsu hbk hol hfl HX_0
      by_cases hpb : firstI x = bm.addr
      · rw [if_pos hpb, decide_eq_true hpb] at hpl
        have hj : (x - bm.addr).toNat < 64 ∧ ((x - bm.addr).toNat : Int) = x - bm.addr := by
          unfold firstI at hpb
          omega
        obtain ⟨j, hjq⟩ : ∃ j : Nat, j = (x - bm.addr).toNat := ⟨_, rfl⟩
        rw [← hjq] at hj
        rw [← hj.2] at hpl
        have hj64 : j < 64 := hj.1
        have pj : ((j : Int) < 64) = True := eq_true (by omega)
        have HPL := Aside0.mk hpl
        obtain ⟨m, hm⟩ : ∃ m, bm.slots.getD j 0 = m := ⟨_, rfl⟩
        have hhit : hitB bm x = (m != 0) := by
          unfold hitB
          rw [decide_eq_true hpb, ← hjq, hm, Bool.true_and]
        have HM := Aside0.mk hm
        have HJ := Aside0.mk hj.2
        by_cases hm0 : m = 0
        · subst hm0
          have HEQ := Aside0.mk (show relL b (l.take (k + 1)) = (bm, oo) by rw [HSU.out]; unfold relF; rw [if_neg (by rw [hhit]; decide)])
          clear hpb hj hpl hjq hm hhit
          go_wp2_with (first
            | ((with_reducible refine gate_dst (N := 25) rfl ?_); go_loud (refine step_load rfl 57 (.tmp 2) rfl gX rfl _ _ _ HXX.out Try.underlying57 rfl 68 (by kernel_rfl) (bkL_length _ _ _ _ _ HLM.out) ?_))
            | (go_at_call 92; go_loud (refine (HPL.out _ _ ⟨A1, c1, A2, c2, rfl, ⟨HLM.out, (Kd.R_reads' HF1.out).2.2, (Kd.R_reads' HF1.out).2.1, (Kd.R_reads' HA1.out).2.2, (Kd.R_reads' HA1.out).2.1⟩⟩).mono ?_; rintro e W1 ⟨rfl, hb_⟩; have HX_1 := Aside0.mk (HXX.out.below hb_); have HF_1 := Aside0.mk (Kd.R_below HF1.out hb_); have HG_1 := Aside0.mk (Kd.R_below HA1.out hb_); have HO_1 := Aside0.mk (Kd.R_below HO_0.out hb_); have HZ_1 := Aside0.mk (HZ_0.out.below hb_); have HS_1 := Aside0.mk (Nat.le_trans HS_0.out hb_.size); have HB_1 := Aside0.mk (HB_0.out.trans (hb_.mono HB_0.out.size)); have hsl_ := (show W1.cell? ⟨gX, 2 + j, none⟩ = some (.int .u8 0) from by have h_ := HX_1.out.slot HLM.out j hj64; rwa [HM.out] at h_); have hsf_ := HX_1.out.frozen (2 + j); clear hb_ HXX HF1 HA1 HO_0 HZ_0 HS_0 HB_0)))
          go_roundw
          case rel => exact ⟨k + 1, by omega, by go_num, ⟨by rw [HEQ.out]; exact ⟨HLM.out, _, _, HX_1.out, HF_1.out, HG_1.out⟩⟩, ⟨by rw [HEQ.out]; exact HO_1.out⟩, HZ_1, HS_1, HB_1⟩
          case measure => simp [intOf]; omega
        · have hm1 : (m == 0) = false := by rw [beq_eq_false_iff_ne]; exact hm0
          have HEQ := Aside0.mk (show relL b (l.take (k + 1)) = (⟨bm.addr, bm.aff, bm.slots.set j 0, bm.free ++ [(j : Int)], bm.attrs⟩, oo ++ [x]) by
            rw [HSU.out]
            unfold relF
            rw [if_pos (by rw [hhit]; simpa using hm0)]
            rw [← hjq, hj.2])
          clear hpb hj hpl hjq hm hhit hm0
          obtain ⟨fr, hfr⟩ : ∃ fr, fr = bm.free ++ [(j : Int)] := ⟨_, rfl⟩
          obtain ⟨o1, ho1⟩ : ∃ o1, o1 = oo ++ [x] := ⟨_, rfl⟩
          rw [← hfr, ← ho1] at HEQ
          have HFR := Aside0.mk hfr
          have HO1 := Aside0.mk ho1
          clear hfr ho1
          go_wp2_with (first
            | ((with_reducible refine gate_dst (N := 25) rfl ?_); go_loud (refine step_load rfl 57 (.tmp 2) rfl gX rfl _ _ _ HXX.out Try.underlying57 rfl 68 (by kernel_rfl) (bkL_length _ _ _ _ _ HLM.out) ?_))
            | (go_at_call 92; go_loud (refine (HPL.out _ _ ⟨A1, c1, A2, c2, rfl, ⟨HLM.out, (Kd.R_reads' HF1.out).2.2, (Kd.R_reads' HF1.out).2.1, (Kd.R_reads' HA1.out).2.2, (Kd.R_reads' HA1.out).2.1⟩⟩).mono ?_; rintro e W1 ⟨rfl, hb_⟩; have HX_1 := Aside0.mk (HXX.out.below hb_); have HF_1 := Aside0.mk (Kd.R_below HF1.out hb_); have HG_1 := Aside0.mk (Kd.R_below HA1.out hb_); have HO_1 := Aside0.mk (Kd.R_below HO_0.out hb_); have HZ_1 := Aside0.mk (HZ_0.out.below hb_); have HS_1 := Aside0.mk (Nat.le_trans HS_0.out hb_.size); have HB_1 := Aside0.mk (HB_0.out.trans (hb_.mono HB_0.out.size)); have hsl_ := (show W1.cell? ⟨gX, 2 + j, none⟩ = some (.int .u8 m) from by have h_ := HX_1.out.slot HLM.out j hj64; rwa [HM.out] at h_); have hsf_ := HX_1.out.frozen (2 + j); clear hb_ HXX HF1 HA1 HO_0 HZ_0 HS_0 HB_0))
            | ((with_reducible refine gate_dst (N := 42) rfl ?_); go_loud (generalize hw_ : W1.setCell ⟨gX, 2 + j, none⟩ (.int .u8 0) = W2; have hg_ : W1.grownBy W2 (some gX) := (by rw [← hw_]; exact setCell_grown _ _ _ _); have HX_2 := Aside0.mk (HX_1.out.set (2 + j) (.int .u8 0)); have HF_2 := Aside0.mk (R_box_grown HF_1.out HX_1.out (by decide) hg_); have HG_2 := Aside0.mk (R_box_grown HG_1.out HX_1.out (by decide) hg_); have HO_2 := Aside0.mk (R_box_grown HO_1.out HX_1.out (by decide) hg_); have HZ_2 := Aside0.mk (HZ_1.out.grown hg_ (fun e => (Ne.symm NE_gX_gZ.out) (Option.some.inj e))); have HS_2 := Aside0.mk (Nat.le_trans HS_1.out hg_.size); have HB_2 := Aside0.mk (HB_1.out.grown hg_ HB_1.out.size (by intro k hk; cases hk; exact GE_gX.out)); rw [hw_] at HX_2; clear hw_ hg_ HX_1 HF_1 HG_1 HO_1 HZ_1 HS_1 HB_1 hsl_ hsf_; rw [bkL_set_slot _ _ _ _ _ HLM.out j hj64] at HX_2; have HLM2 := Aside0.mk (show (bm.slots.set j 0).length = 64 by rw [List.length_set]; exact HLM.out); have hc66_ := HX_2.out.cell 66 _ (bkL_66 _ _ _ _ _ HLM2.out)))
            | ((with_reducible refine gate_builtin (b := .append) (xs := #[.tmp 43, .tmp 46]) rfl ?_); at_builtin; go_loud (refine Kd.R_append (Kd.int .u8) (w0 := W2) b1 rfl (.tmp 43) (.tmp 46) 48 5 (.int .u8 0) 1 rfl Try.underlying48 info_u8 rfl (by decide) (by omega) _ bm.free (j : Int) [.int .u8 (j : Int)] (fun _ => True) (fun _ => False) rfl rfl rfl (fun _ hk => hk.elim) (fun _ _ => trivial) HF_2.out (Below.refl _ _) HS_2.out (by have := HFLN.out; omega) ?_; intro v_ W3 ho_ hb_ hg_ hat_; rw [← HFR.out] at ho_; have HX_3 := Aside0.mk (HX_2.out.grown hg_ (HX_2.out.ne_row HF_2.out (by decide))); have HF_3 := Aside0.mk (ho_); have HG_3 := Aside0.mk (Kd.R_over HG_2.out HF_2.out (by decide) hg_); have HO_3 := Aside0.mk (Kd.R_over HO_2.out HF_2.out (by decide) hg_); have HZ_3 := Aside0.mk (HZ_2.out.grown hg_ (HZ_2.out.ne_row HF_2.out (by decide))); have HS_3 := Aside0.mk (Nat.le_trans HS_2.out hg_.size); have HB_3 := Aside0.mk (HB_2.out.trans (hb_.mono HB1.out)); obtain ⟨AF, cF, rfl⟩ := Kd.R_slice ho_; have hcc66_ := HX_3.out.cell 66 _ (bkL_66 _ _ _ _ _ HLM2.out); have hz66_ := HX_3.out.frozen 66; clear ho_ hb_ hg_ hat_ HX_2 HF_2 HG_2 HO_2 HZ_2 HS_2 HB_2 hc66_))
            | ((with_reducible refine gate_builtin (b := .append) (xs := #[.tmp 49, .tmp 51]) rfl ?_); at_builtin; go_loud (generalize hw_ : W3.setCell ⟨gX, 66, none⟩ (.slice AF fr.length cF) = W4; have hz_ : W3.heap.size = W4.heap.size := (by rw [← hw_]; simp [World.setCell]); have hg_ : W3.grownBy W4 (some gX) := (by rw [← hw_]; exact setCell_grown _ _ _ _); have HX_4 := Aside0.mk (HX_3.out.set 66 (.slice AF fr.length cF)); have HF_4 := Aside0.mk (R_box_grown HF_3.out HX_3.out (by decide) hg_); have HG_4 := Aside0.mk (R_box_grown HG_3.out HX_3.out (by decide) hg_); have HO_4 := Aside0.mk (R_box_grown HO_3.out HX_3.out (by decide) hg_); have HZ_4 := Aside0.mk (HZ_3.out.grown hg_ (fun e => (Ne.symm NE_gX_gZ.out) (Option.some.inj e))); have HS_4 := Aside0.mk (Nat.le_trans HS_3.out hg_.size); have HB_4 := Aside0.mk (HB_3.out.grown hg_ HB_3.out.size (by intro k hk; cases hk; exact GE_gX.out)); rw [hw_] at HX_4; clear hw_ hg_ HX_3 HF_3 HG_3 HO_3 HZ_3 HS_3 HB_3 hcc66_ hz66_; rw [bkL_set_66 _ _ _ _ _ HLM2.out] at HX_4; refine Kd.R_append (Kd.int .u32) (w0 := w) w.heap.size rfl (.tmp 49) (.tmp 51) 77 46 (.int .u32 0) 4 rfl Try.underlying77 info_u32 rfl (by decide) (by omega) _ oo x [.int .u32 x] (fun _ => True) (fun _ => False) rfl (congrArg (fun n_ => Value.slice (some ⟨n_, 0, none⟩) 1 1) hz_) rfl (fun _ hk => hk.elim) (fun _ _ => trivial) HO_4.out HB_4.out HB_4.out.size (by have := HOL.out; omega) ?_; intro v_ W5 ho_ hb_ hg_ hat_; rw [← HO1.out] at ho_; have HX_5 := Aside0.mk (HX_4.out.grown hg_ (HX_4.out.ne_row HO_4.out (by decide))); have HF_5 := Aside0.mk (Kd.R_over HF_4.out HO_4.out (by decide) hg_); have HG_5 := Aside0.mk (Kd.R_over HG_4.out HO_4.out (by decide) hg_); have HO_5 := Aside0.mk (ho_); have HZ_5 := Aside0.mk (HZ_4.out.grown hg_ (HZ_4.out.ne_row HO_4.out (by decide))); have HS_5 := Aside0.mk (Nat.le_trans HS_4.out hg_.size); have HB_5 := Aside0.mk (hb_); obtain ⟨AO, cO, rfl⟩ := Kd.R_slice ho_; clear ho_ hb_ hg_ hat_ hz_ HX_4 HF_4 HG_4 HO_4 HZ_4 HS_4 HB_4)))
          go_roundw
          case rel => exact ⟨k + 1, by omega, by go_num, ⟨by rw [HEQ.out]; exact ⟨HLM2.out, _, _, HX_5.out, HF_5.out, HG_5.out⟩⟩, ⟨by rw [HEQ.out]; exact HO_5.out⟩, HZ_5, HS_5, HB_5⟩
          case measure => simp [intOf]; omega
      · rw [if_neg hpb, decide_eq_false hpb] at hpl
        have HPL := Aside0.mk hpl
        have HEQ := Aside0.mk (show relL b (l.take (k + 1)) = (bm, oo) by
          rw [HSU.out]
          unfold relF
          rw [if_neg (by unfold hitB; rw [decide_eq_false hpb]; simp)])
        clear hpb hpl
        go_wp2_with (first
          | ((with_reducible refine gate_dst (N := 25) rfl ?_); go_loud (refine step_load rfl 57 (.tmp 2) rfl gX rfl _ _ _ HXX.out Try.underlying57 rfl 68 (by kernel_rfl) (bkL_length _ _ _ _ _ HLM.out) ?_))
          | (go_at_call 92; go_loud (refine (HPL.out _ _ ⟨A1, c1, A2, c2, rfl, ⟨HLM.out, (Kd.R_reads' HF1.out).2.2, (Kd.R_reads' HF1.out).2.1, (Kd.R_reads' HA1.out).2.2, (Kd.R_reads' HA1.out).2.1⟩⟩).mono ?_; rintro e W1 ⟨rfl, hb_⟩; have HX_1 := Aside0.mk (HXX.out.below hb_); have HF_1 := Aside0.mk (Kd.R_below HF1.out hb_); have HG_1 := Aside0.mk (Kd.R_below HA1.out hb_); have HO_1 := Aside0.mk (Kd.R_below HO_0.out hb_); have HZ_1 := Aside0.mk (HZ_0.out.below hb_); have HS_1 := Aside0.mk (Nat.le_trans HS_0.out hb_.size); have HB_1 := Aside0.mk (HB_0.out.trans (hb_.mono HB_0.out.size)); clear hb_ HXX HF1 HA1 HO_0 HZ_0 HS_0 HB_0)))
        go_roundw
        case rel => exact ⟨k + 1, by omega, by go_num, ⟨by rw [HEQ.out]; exact ⟨HLM.out, _, _, HX_1.out, HF_1.out, HG_1.out⟩⟩, ⟨by rw [HEQ.out]; exact HO_1.out⟩, HZ_1, HS_1, HB_1⟩
        case measure => simp [intOf]; omega
    · obtain rfl : k = l.length := by omega
      have hkb : decide ((l.length : Int) < (l.length : Int)) = false := by simp
      rw [List.take_of_length_le (Nat.le_refl l.length)] at hro HX_0 HO_0
      have HBR := Aside0.mk (show relBk b l = cmpBk (relL b l).1 from rfl)
      obtain ⟨rs, hrs⟩ : ∃ rs, rs = relL b l := ⟨_, rfl⟩
      have HRS := Aside0.mk hrs
      rw [← hrs] at hro HX_0 HO_0 HBR
      obtain ⟨bm, oo⟩ := rs
      simp only at HX_0 HO_0 HBR
      have HCM := Aside0.mk (fun v w base hb0 h => compact_any bm hro.s8 (by rw [hro.attrs]; exact HAL.out) (fun s hs => by rw [hro.attrs]; exact hro.le s hs) v w base hb0 h)
      have HLM := Aside0.mk hro.l64
      simp only at HLM
      obtain ⟨Ao, co, rfl⟩ := Kd.R_slice HO_0.out
      obtain ⟨A1, c1, A2, c2, hxx1, hf1, ha1⟩ := HX_0.out.open
      have HXX := Aside0.mk hxx1
      have HF1 := Aside0.mk hf1
      have HA1 := Aside0.mk ha1
      clear hro hxx1 hf1 ha1 hrs HX_0
      go_wp2_with (first
        | ((with_reducible refine gate_dst (N := 54) rfl ?_); go_loud (refine step_load rfl 57 (.tmp 2) rfl gX rfl _ _ _ HXX.out Try.underlying57 rfl 68 (by kernel_rfl) (bkL_length _ _ _ _ _ HLM.out) ?_))
        | (go_at_call 95; go_loud (refine (HCM.out _ _ b1 HS_0.out ⟨HLM.out, _, _, rfl, HF1.out, HA1.out⟩).mono ?_; rintro e W1 ⟨v9, rfl, ho9, hb_⟩; obtain ⟨hl9, vf9, va9, rfl, hf9, ha9⟩ := ho9; obtain ⟨A8, c8, rfl⟩ := Kd.R_slice hf9; obtain ⟨A9, c9, rfl⟩ := Kd.R_slice ha9; have HL9 := Aside0.mk hl9; have HX_1 := Aside0.mk (HXX.out.below hb_); have HO_1 := Aside0.mk (Kd.R_below HO_0.out hb_); have HZ_1 := Aside0.mk (HZ_0.out.below hb_); have HS_1 := Aside0.mk (Nat.le_trans HS_0.out hb_.size); have HB_1 := Aside0.mk (HB_0.out.trans (hb_.mono HB_0.out.size)); have HP_1 := Aside0.mk (hf9); have HQ_1 := Aside0.mk (ha9); clear hl9 hf9 ha9 hb_ HXX HO_0 HZ_0 HS_0 HB_0))
        | (refine step_store rfl 57 (.tmp 4) (.tmp 55) rfl gZ (bkL (cmpBk bm).addr (cmpBk bm).aff (cmpBk bm).slots (.slice A8 (cmpBk bm).free.length c8) (.slice A9 (cmpBk bm).attrs.length c9)) rfl rfl 57 _ HZ_1.out 68 (by kernel_rfl) (bkL_length _ _ _ _ _ HL9.out) rfl (bkL_one _ _ _ _ _ rfl rfl) ?_; intro W2 hx_ hg_; have HX_2 := Aside0.mk (HX_1.out.grown hg_ (fun e => NE_gX_gZ.out (Option.some.inj e))); have HO_2 := Aside0.mk (R_box_grown HO_1.out HZ_1.out (by decide) hg_); have HZ_2 := Aside0.mk (hx_); have HS_2 := Aside0.mk (Nat.le_trans HS_1.out hg_.size); have HB_2 := Aside0.mk (HB_1.out.grown hg_ HB_1.out.size (by intro k hk; cases hk; exact GE_gZ.out)); have HP_2 := Aside0.mk (R_box_grown HP_1.out HZ_1.out (by decide) hg_); have HQ_2 := Aside0.mk (R_box_grown HQ_1.out HZ_1.out (by decide) hg_); clear hx_ hg_ HX_1 HO_1 HZ_1 HS_1 HB_1 HP_1 HQ_1))
      refine bodyPost_ret (results_ctt rfl _ _ gZ 57 _ (0, 0) _ rfl HZ_2.out Try.underlying57 rfl (by simp only [List.size_toArray]; exact size57 _ (bkL_length _ _ _ _ _ HL9.out))) rfl ⟨_, _, rfl, ?_, by rw [← HRS.out]; exact HO_2.out, HB_2.out⟩
      rw [HBR.out]
      exact ⟨HL9.out, _, _, rfl, Kd.R_lower HP_2.out HB1.out, Kd.R_lower HQ_2.out HB1.out⟩
/-- What Release answers. -/
theorem release_any (b : Bk) (hk : BkOk b) (l : List Int) (hu : ∀ x ∈ l, 0 ≤ x ∧ x < 4294967296) (hll : l.length ≤ 1000) (Al : Option Addr) (cl : Nat) (v : Value) (w : World) (h : BkV w v b) (hC : Kd.C (Kd.int .u32) w Al l.length l) :
    Calls Try.prog 52 #[v, .slice Al l.length cl] w fun e w' => ∃ v' vo, e = .returned (.tuple #[v', vo, .int .i64 (if rightB b = true then 0 else 1)]) ∧ BkO w' w.heap.size v' (if rightB b = true then relBk b l else zbk) ∧ Kd.R (Kd.int .u32) 46 w' w.heap.size (fun _ => True) vo (if rightB b = true then (relL b l).2 else []) ∧ Below w.heap.size w w' := by
  cases hrt : rightB b with
  | false => exact release_no b hk l hu hll Al cl hrt v w h hC
  | true => exact release_yes b hk l hu hll Al cl hrt v w h hC
end Go.Proofs.Ytemhalnhbgkbcaa.V
end

-- BEmpty
section
/- block.Empty. -/
namespace Go.Proofs.Ytemhalnhbgkbcaa.V
open Go.RowKit Go.Proofs.YtemhalnhbgkbcaaW.PrintWords Go.Proofs.YtemhalnhbgkbcaaW.PrintLast Go.Proofs.YtemhalnhbgkbcaaW.PrintMore
set_option linter.unusedVariables false
set_option linter.unusedSimpArgs false

set_option maxHeartbeats 4000000 in
set_option maxRecDepth 100000 in
theorem empty_any (b : Bk) (hk : BkOk b) (v : Value) (w : World) (h : BkV w v b) : Calls Try.prog 57 #[v] w fun e w' => e = .returned (.bool (rightB b && ((b.free.length : Int) == 64))) ∧ Below w.heap.size w w' := by
  obtain ⟨A, c, A', c', rfl, hr⟩ := h
  have HR := Aside0.mk hr
  have HL := Aside0.mk hr.l64
  have HK := Aside0.mk hk
  clear hr hk
  cases hrt : rightB b with
  | false =>
    have HRT := Aside0.mk hrt
    clear hrt
    go_enter Try.func57, Try.ntmps57
    go_wp2_with (first
      | (refine step_box rfl 57 (.tmp 0) rfl _ rfl ?_; intro g W1 hg hbx hb1; have HX1 := Aside0.mk hbx; have HR1 := Aside0.mk (HR.out.below hb1); have HB1 := Aside0.mk hb1; clear hbx hb1 hg)
      | (refine step_load rfl 57 (.tmp 1) rfl g rfl _ _ _ HX1.out Try.underlying57 rfl 68 (by kernel_rfl) (bkL_length _ _ _ _ _ HL.out) ?_)
      | (go_at_call 48; refine (right_any' b HK.out _ _ ⟨A, c, A', c', rfl, HR1.out⟩).mono ?_; rintro e W2 ⟨rfl, hb2⟩; rw [HRT.out]; have HB2 := Aside0.mk (HB1.out.trans (hb2.mono HB1.out.size)); clear hb2))
    go_ret
    exact ⟨rfl, HB2.out⟩
  | true =>
    have HRT := Aside0.mk hrt
    clear hrt
    go_enter Try.func57, Try.ntmps57
    go_wp2_with (first
      | (refine step_box rfl 57 (.tmp 0) rfl _ rfl ?_; intro g W1 hg hbx hb1; have HX1 := Aside0.mk hbx; have HR1 := Aside0.mk (HR.out.below hb1); have HB1 := Aside0.mk hb1; clear hbx hb1 hg)
      | (refine step_load rfl 57 (.tmp 1) rfl g rfl _ _ _ HX1.out Try.underlying57 rfl 68 (by kernel_rfl) (bkL_length _ _ _ _ _ HL.out) ?_)
      | (go_at_call 48; refine (right_any' b HK.out _ _ ⟨A, c, A', c', rfl, HR1.out⟩).mono ?_; rintro e W2 ⟨rfl, hb2⟩; rw [HRT.out]; have h66 := (HX1.out.below hb2).cell 66 _ (bkL_66 _ _ _ _ _ HL.out); have HB2 := Aside0.mk (HB1.out.trans (hb2.mono HB1.out.size)); clear hb2))
    go_ret
    exact ⟨by simp, HB2.out⟩
end Go.Proofs.Ytemhalnhbgkbcaa.V
end

-- BDelF
section
/- slices.DeleteFunc of a number, as AssignAt calls it. -/
namespace Go.Proofs.Ytemhalnhbgkbcaa.V
open Go.RowKit Go.Proofs.YtemhalnhbgkbcaaW.PrintWords Go.Proofs.YtemhalnhbgkbcaaW.PrintLast Go.Proofs.YtemhalnhbgkbcaaW.PrintMore
set_option linter.unusedVariables false
set_option linter.unusedSimpArgs false

theorem R_head {α : Type} {d : Kd α} {e base n c : Nat} {ok : Nat → Prop} {W : World} {A : Option Addr} {xs : List α} (h : d.R e W base ok (.slice A n c) xs) (hn : 0 < xs.length) : ∃ g, A = some ⟨g, 0, none⟩ := by
  have hl := (Kd.R_reads' h).1
  obtain ⟨_, inner, ho, _⟩ := h
  rcases ho.2 with ⟨hv, h0⟩ | ⟨g', cap', cur, hv, _⟩
  · injection hv with h1 h2 h3
    omega
  · injection hv with h1 h2 h3
    exact ⟨g', h1⟩
end Go.Proofs.Ytemhalnhbgkbcaa.V
end

-- VFVirgatelaw15Attr
section
-- PRINTED by print.py (a twelfth state) out of the translation. Not trusted: Lean checks it.
namespace Go.Proofs.Ytemhalnhbgkbcaa.V
open Go.RowKit Go.Proofs.YtemhalnhbgkbcaaW.PrintWords Go.Proofs.YtemhalnhbgkbcaaW.PrintLast Go.Proofs.YtemhalnhbgkbcaaW.PrintMore
attribute [local go_sem] max2_int min2_int max_two min_two max_three min_three max_four min_four   -- for this text's walks alone
set_option linter.unusedVariables false
set_option linter.unusedSimpArgs false

/-! ### virgatelaw15_Attr: function 50 -/
def virgatelaw15_Attr.f (a0_0 : ByteArray) (a0_1 : ByteArray) : Option (ByteArray × ByteArray) := some (a0_0, a0_1)
set_option maxHeartbeats 8000000 in
set_option maxRecDepth 100000 in
theorem virgatelaw15_Attr.calls (a0_0 : ByteArray) (a0_1 : ByteArray) (r1 : ByteArray) (r2 : ByteArray) (w : World) (h : virgatelaw15_Attr.f a0_0 a0_1 = some (r1, r2)) :
    Calls Try.prog 50 #[.agg #[.string a0_0, .string a0_1]] w fun e w' => e = .returned (.agg #[.string r1, .string r2]) ∧ Below w.heap.size w w' := by
  have hu76 := Try.underlying76
  have hu85 := Try.underlying85
  have HB := Aside0.mk (Below.refl w.heap.size w)
  have H : (some (a0_0, a0_1)) = some (r1, r2) := h
  clear h
  simp only [Option.some.injEq, Prod.mk.injEq] at H
  obtain ⟨rfl, rfl⟩ := H
  go_enter Try.func50, Try.ntmps50
  go_wp2_with (first | ((with_reducible refine gate_dst (N := 1) rfl ?_); refine box_event ?hg (N := 1) ?hd (cs := #[.string a0_0, .string a0_1]) (t := 76) ?hr ?_; (case hd => rfl); (case hg => rfl); (case hr => first | (go_simp; done) | (go_simp; rfl)); intro gb50101 hg w2 hbox hb; have n0_ := Aside0.mk (below_step (by repeat (first | (with_reducible first | exact HB.out | apply below_alloc | apply pw_below_drewN | apply below_drew1) | exact HB.out)) hb); have n1_ := Aside0.mk (hbox); have n2_ := Aside0.mk ((by rw [hg]; exact (below_size (by repeat (first | (with_reducible first | exact HB.out | apply below_alloc | apply pw_below_drewN | apply below_drew1) | exact HB.out))) : w.heap.size ≤ gb50101)); have n3_ := Aside0.mk ((by rw [hg]; exact (below_size (by repeat (first | (with_reducible first | exact HB.out | apply below_alloc | apply pw_below_drewN | apply below_drew1) | exact HB.out))) : w.heap.size ≤ gb50101)); clear HB; have HB := n0_; have BK50101 := n1_; have GW50101 := n2_; have GE50101 := n3_; clear n0_ n1_ n2_ n3_; clear hb hbox hg) | ((with_reducible refine gate_dst (N := 2) rfl ?_); refine box_event ?hg (N := 2) ?hd (cs := #[.string (⟨#[]⟩ : ByteArray), .string (⟨#[]⟩ : ByteArray)]) (t := 85) ?hr ?_; (case hd => rfl); (case hg => rfl); (case hr => first | (go_simp; done) | (go_simp; rfl)); intro gb50102 hg w3 hbox hb; have n0_ := Aside0.mk (blk_below (g := gb50101) (o := .cells #[.string a0_0, .string a0_1] 76 (0, 0)) (by (with_reducible repeat (first | refine blk_drewN ?_ _ | refine blk_drew ?_ | refine blk_alloc ?_ _)); exact BK50101.out) hb); have n1_ := Aside0.mk (below_step (by repeat (first | (with_reducible first | exact HB.out | apply below_alloc | apply pw_below_drewN | apply below_drew1 | refine below_set ?_ GE50101.out) | exact HB.out)) hb); have n2_ := Aside0.mk (hbox); have n3_ := Aside0.mk ((by rw [hg]; exact (below_size (by repeat (first | (with_reducible first | exact HB.out | apply below_alloc | apply pw_below_drewN | apply below_drew1 | refine below_set ?_ GE50101.out) | exact HB.out))) : w.heap.size ≤ gb50102)); have n4_ := Aside0.mk ((by rw [hg]; exact (below_size (by repeat (first | (with_reducible first | exact HB.out | apply below_alloc | apply pw_below_drewN | apply below_drew1 | refine below_set ?_ GE50101.out) | exact HB.out))) : w.heap.size ≤ gb50102)); have n5_ := Aside0.mk ((by rw [hg]; exact Nat.ne_of_lt (blk_lt (g := gb50101) (o := .cells #[.string a0_0, .string a0_1] 76 (0, 0)) (by (with_reducible repeat (first | refine blk_drewN ?_ _ | refine blk_drew ?_ | refine blk_alloc ?_ _)); exact BK50101.out)) : gb50101 ≠ gb50102)); have n6_ := Aside0.mk ((by rw [hg]; exact Nat.ne_of_gt (blk_lt (g := gb50101) (o := .cells #[.string a0_0, .string a0_1] 76 (0, 0)) (by (with_reducible repeat (first | refine blk_drewN ?_ _ | refine blk_drew ?_ | refine blk_alloc ?_ _)); exact BK50101.out)) : gb50102 ≠ gb50101)); clear BK50101; clear HB; have BK50101 := n0_; have HB := n1_; have BK50102 := n2_; have GW50102 := n3_; have GE50102 := n4_; have NB50101_50102 := n5_; have NB50102_50101 := n6_; clear n0_ n1_ n2_ n3_ n4_ n5_ n6_; clear hb hbox hg; have hnb4 := NB50101_50102.out; have hnc4 := NB50102_50101.out; have hcz5_0 : w3.cell? ⟨gb50101, 0, none⟩ = some (.string a0_0) := (blk_cell BK50101.out 0).trans rfl; have hcz5_1 : w3.cell? ⟨gb50101, 1, none⟩ = some (.string a0_1) := (blk_cell BK50101.out 1).trans rfl; have hfz5_0 := blk_frozen BK50101.out 0; have hfz5_1 := blk_frozen BK50101.out 1; have hcz6_0 : w3.cell? ⟨gb50102, 0, none⟩ = some (.string (⟨#[]⟩ : ByteArray)) := (blk_cell BK50102.out 0).trans rfl; have hcz6_1 : w3.cell? ⟨gb50102, 1, none⟩ = some (.string (⟨#[]⟩ : ByteArray)) := (blk_cell BK50102.out 1).trans rfl; have hfz6_0 := blk_frozen BK50102.out 0; have hfz6_1 := blk_frozen BK50102.out 1))
  refine bodyPost_ret (results_cell_row rfl _ _ gb50102 85 #[.string a0_0, .string a0_1] (0, 0) _ rfl (by (with_reducible repeat (first | refine blk_drewN ?_ _ | refine blk_drew ?_ | refine blk_alloc ?_ _)); refine blk_put (cs := #[.string a0_0, .string (⟨#[]⟩ : ByteArray)]) ?_ 1 _ rfl; (with_reducible repeat (first | refine blk_drewN ?_ _ | refine blk_drew ?_ | refine blk_alloc ?_ _)); refine blk_put (cs := #[.string (⟨#[]⟩ : ByteArray), .string (⟨#[]⟩ : ByteArray)]) ?_ 0 _ rfl; (with_reducible repeat (first | refine blk_drewN ?_ _ | refine blk_drew ?_ | refine blk_alloc ?_ _)); exact BK50102.out) Try.underlying85 rfl (by kernel_rfl)) rfl ?_
  exact ⟨by first | rfl | (simp [errW_none, errW_some] <;> rfl) | (simp [*, errW_none, errW_some] <;> rfl), by repeat (first | (with_reducible first | exact HB.out | apply below_alloc | apply pw_below_drewN | apply below_drew1 | refine below_set ?_ GE50101.out | refine below_set ?_ GE50102.out) | exact HB.out)⟩
end Go.Proofs.Ytemhalnhbgkbcaa.V
end

-- BOurs
section
/- virgatelaw15.Ours: a raw block as the program's. -/
namespace Go.Proofs.Ytemhalnhbgkbcaa.V
open Go.RowKit Go.Proofs.YtemhalnhbgkbcaaW.PrintWords Go.Proofs.YtemhalnhbgkbcaaW.PrintLast Go.Proofs.YtemhalnhbgkbcaaW.PrintMore
set_option linter.unusedVariables false
set_option linter.unusedSimpArgs false

/-- A raw block. -/
structure Rw where
  addr : Int
  aff : ByteArray
  slots : List Int
  free : List Int
  attrs : List S76
structure RwR (W : World) (b : Rw) (A : Option Addr) (c : Nat) (A' : Option Addr) (c' : Nat) : Prop where
  l64 : b.slots.length = 64
  fr : Kd.C (Kd.int .u8) W A b.free.length b.free
  fc : b.free.length ≤ c
  ar : Kd.C k76 W A' b.attrs.length b.attrs
  ac : b.attrs.length ≤ c'
theorem RwR.below {W W1 : World} {b : Rw} {A A' : Option Addr} {c c' : Nat} (h : RwR W b A c A' c') (hb : Below W.heap.size W W1) : RwR W1 b A c A' c' := ⟨h.l64, Kd.C_below h.fr hb, h.fc, Kd.C_below h.ar hb, h.ac⟩
def RwV (W : World) (v : Value) (b : Rw) : Prop := ∃ A c A' c', v = .agg (bkL b.addr b.aff b.slots (.slice A b.free.length c) (.slice A' b.attrs.length c')).toArray ∧ RwR W b A c A' c'
theorem RwV.below {W W1 : World} {v : Value} {b : Rw} (h : RwV W v b) (hb : Below W.heap.size W W1) : RwV W1 v b := by
  obtain ⟨A, c, A', c', e, hr⟩ := h
  exact ⟨A, c, A', c', e, hr.below hb⟩
def cv (a : S76) : At := ⟨a.f0, a.f1⟩
def ours (r : Rw) : Bk := ⟨r.addr, r.aff, r.slots, r.free.take 70, (r.attrs.take 70).map cv⟩
theorem cv_any (a : S76) (w : World) : Calls Try.prog 50 #[.agg #[.string a.f0, .string a.f1]] w fun e w' => e = .returned (atV (cv a)) ∧ Below w.heap.size w w' :=
  virgatelaw15_Attr.calls a.f0 a.f1 a.f0 a.f1 w rfl
/-- A struct put together, its parts told. -/
theorem step_buildV {P : Program} {ops : Array Oper} {rest : List Oper} {o : Oper} {a : Act} {w : World} {Q : Exit → Act → World → Prop} (hgd : o.guard = none) (t : TypeId) (parts : Array (Nat × Operand)) (ho : o.op = .build t parts) (vals : List (Nat × Value)) (hv : (parts.map fun (i, x) => (i, a.eval x)).toList = vals) (cs : List Value)
    (hf : P.built t vals = some cs.toArray) (h : wpList P ops Q rest (a.put o.dst (.agg cs.toArray)) w) : wpList P ops Q (o :: rest) a w := step_build hgd t parts ho cs (by rw [hv]; exact hf) h
theorem built3' (x : Int) (s : ByteArray) (f : Nat → Int) : Try.prog.built 57 [(0, .int .u32 x), (1, .string s), (2, .agg (((List.range 64).map f).map (Value.int .u8)).toArray)] = some (bkL x s ((List.range 64).map f) (.slice none 0 0) (.slice none 0 0)).toArray := by kernel_rfl
theorem built3 (x : Int) (s : ByteArray) (l : List Int) (hl : l.length = 64) : Try.prog.built 57 [(0, .int .u32 x), (1, .string s), (2, .agg (l.map (Value.int .u8)).toArray)] = some (bkL x s l (.slice none 0 0) (.slice none 0 0)).toArray := by
  have e : l = (List.range 64).map (fun i => l.getD i 0) := by
    apply List.ext_getElem?
    intro i
    rcases Nat.lt_or_ge i 64 with h | h
    · simp [List.getElem?_eq_getElem (show i < l.length by omega), h, List.getD]
    · rw [List.getElem?_eq_none (by omega), List.getElem?_eq_none (by simp; omega)]
  rw [e]
  exact built3' x s _
theorem take_70 {α : Type} (l : List α) (k : Nat) (h : k < l.length) (h7 : k < 70) : (l.take (k + 1)).take 70 = (l.take k).take 70 ++ [l[k]] := by
  rw [List.take_take, List.take_take, show min 70 (k + 1) = k + 1 by omega, show min 70 k = k by omega, List.take_add_one, List.getElem?_eq_getElem h]
  rfl
theorem take_71 {α : Type} (l : List α) (k : Nat) (h7 : 70 ≤ k) : (l.take (k + 1)).take 70 = (l.take k).take 70 := by
  rw [List.take_take, List.take_take, show min 70 (k + 1) = 70 by omega, show min 70 k = 70 by omega]
def ours12.T12 : Bool × List (List Nat × List Nat) := (true, [([], []), ([0], [0]), ([], []), ([2], [2]), ([3], [3]), ([1, 4, 3], [1, 4]), ([0, 1, 2, 3, 4, 5], []), ([6, 5, 5, 0, 1, 2, 3, 4, 5], [5, 6])])
def ours12.B12 : List Nat := [0, 1, 0, 4, 12, 31, 63, 127]
theorem ours12.tab12 : rtab .any (opsOf Try.f33 12) = ours12.T12 := by kernel_rfl
theorem ours12.bits12 : waitsOk ours12.T12.2 ours12.B12 = true := by kernel_rfl
set_option maxHeartbeats 8000000 in
set_option maxRecDepth 100000 in
theorem ours_any (r : Rw) (hs : U8s r.slots) (v : Value) (w : World) (h : RwV w v r) :
    Calls Try.prog 33 #[v] w fun e w' => ∃ v', e = .returned v' ∧ BkO w' w.heap.size v' (ours r) ∧ Below w.heap.size w w' := by
  obtain ⟨A, c, A', c', rfl, hr⟩ := h
  have HL := Aside0.mk hr.l64
  have HR := Aside0.mk hr
  have HS := Aside0.mk hs
  have hnf : r.free.length ≤ 9223372036854775807 := hr.fr.2.1
  have hna : r.attrs.length ≤ 9223372036854775807 := hr.ar.2.1
  have HLN := Aside0.mk (show (Try.prog.info? 47).map (·.size) = some (r.slots.map (Value.int .u8)).length by rw [List.length_map, hr.l64]; kernel_rfl)
  have HBT := Aside0.mk (built3 r.addr r.aff r.slots hr.l64)
  clear hr hs
  go_enter Try.func33, Try.ntmps33
  go_wp2_with (first
    | (refine step_box rfl 51 (.tmp 0) rfl _ rfl ?_; intro g W1 hg hbx hb1; have HX1 := Aside0.mk hbx; have HB1 := Aside0.mk hb1; clear hbx hb1 hg)
    | (refine step_allocN (some 2) rfl rfl 57 rfl zeroL zero57 ?_; intro g2 W2 hg2 hbx2 hb2; have HX2 := Aside0.mk (HX1.out.below hb2); have HY2 := Aside0.mk hbx2; have HB2 := Aside0.mk (HB1.out.trans (hb2.mono HB1.out.size)); have HG2 := Aside0.mk (show w.heap.size ≤ g2 by have := HB1.out.size; omega); have HN12 := Aside0.mk (show g ≠ g2 by have := HX1.out.lt; omega); have h0 := HX2.out.cell 0 _ rfl; have h1 := HX2.out.cell 1 _ rfl; clear hbx2 hb2 hg2 HX1 HB1)
    | (refine step_loadPart rfl 47 (.tmp 12) rfl g 2 rfl 51 _ (r.slots.map (Value.int .u8)) (.array 64 5) HX2.out (bkL_part _ _ _ _ _ HL.out) Try.underlying47 rfl HLN.out ?_; simp only [Act.put, List.setIfInBounds_toArray, List.set_cons_zero, List.set_cons_succ])
    | ((with_reducible refine gate_dst (N := 14) rfl ?_); refine step_buildV rfl 57 #[(0, .tmp 9), (1, .tmp 11), (2, .tmp 13)] rfl [(0, .int .u32 r.addr), (1, .string r.aff), (2, .agg (r.slots.map (Value.int .u8)).toArray)] (by simp only [List.map_toArray, List.map_cons, List.map_nil]; rfl) (bkL r.addr r.aff r.slots (.slice none 0 0) (.slice none 0 0)) HBT.out ?_)
    | (refine step_allocN (some 3) rfl rfl 57 rfl zeroL zero57 ?_; intro g3 W3 hg3 hbx3 hb3; have HX3 := Aside0.mk (HX2.out.below hb3); have HY3 := Aside0.mk (HY2.out.below hb3); have HZ3 := Aside0.mk hbx3; have HB3 := Aside0.mk (HB2.out.trans (hb3.mono HB2.out.size)); have HG3 := Aside0.mk (show w.heap.size ≤ g3 by have := HB2.out.size; omega); have HN13 := Aside0.mk (show g ≠ g3 by have := HX2.out.lt; omega); have HN23 := Aside0.mk (show g2 ≠ g3 by have := HY2.out.lt; omega); clear hbx3 hb3 hg3 HX2 HY2 HB2 h0 h1)
    | (refine step_store rfl 57 (.tmp 3) (.tmp 14) rfl g3 (bkL r.addr r.aff r.slots (.slice none 0 0) (.slice none 0 0)) rfl rfl 57 _ HZ3.out 68 (by kernel_rfl) (bkL_length _ _ _ _ _ HL.out) rfl (bkL_one _ _ _ _ _ rfl rfl) ?_; intro W4 hz4 hg4; have HZ4 := Aside0.mk hz4; have HX4 := Aside0.mk (HX3.out.grown hg4 (fun e => HN13.out (Option.some.inj e))); have HY4 := Aside0.mk (HY3.out.grown hg4 (fun e => HN23.out (Option.some.inj e))); have HB4 := Aside0.mk (HB3.out.grown hg4 HB3.out.size (by intro k hk; cases hk; exact HG3.out)); have h66 := HX4.out.cell 66 _ (bkL_66 _ _ _ _ _ HL.out); clear hz4 hg4 HX3 HY3 HZ3 HB3))
  clear h66
  go_loopw [4, 5, 18] (fun _ _ i W => ∃ k : Nat, k ≤ r.free.length ∧ i = .int .i64 k ∧ ∃ vf, Aside0 (Box W g3 (bkL r.addr r.aff r.slots vf (.slice none 0 0)) 57) ∧ Aside0 (Kd.R (Kd.int .u8) 5 W w.heap.size (fun _ => True) vf ((r.free.take k).take 70)) ∧ Aside0 (Box W g2 zeroL 57) ∧ Aside0 (Box W g (bkL r.addr r.aff r.slots (.slice A r.free.length c) (.slice A' r.attrs.length c')) 51) ∧ Aside0 (Below w.heap.size w W)) (fun _ _ i _ => r.free.length - (intOf i).toNat)
  case atStart => exact ⟨0, by omega, rfl, _, HZ4, ⟨Kd.R_nil _ _ _ _ _⟩, HY4, HX4, HB4⟩
  case round =>
    clear HZ4 HY4 HX4 HB4
    obtain ⟨k, hk, rfl, vf, HZ, HF, HY, HX, HB⟩ := hrel
    obtain ⟨W, rfl⟩ : ∃ W : World, W = wr := ⟨_, rfl⟩
    by_cases hkn : k < r.free.length
    · have hkb : decide ((k : Int) < (r.free.length : Int)) = true := by simp; omega
      obtain ⟨ad, eA, hx⟩ := Kd.at_int (HR.out.below HB.out).fr k (by omega) (by omega)
      cases eA
      rw [Int.toNat_natCast] at hx
      have p1 : ((k : Int) < (r.free.length : Int)) = True := eq_true (by omega)
      obtain ⟨x, hx0⟩ : ∃ x : Int, rd r.free k = x := ⟨_, rfl⟩
      rw [hx0] at hx
      have h66 := HZ.out.cell 66 _ (bkL_66 _ _ _ _ _ HL.out)
      by_cases h7 : k < 70
      · have h7b : decide ((k : Int) < 70) = true := by simp; omega
        obtain ⟨L, hL⟩ : ∃ L : List Int, L = (r.free.take (k + 1)).take 70 := ⟨_, rfl⟩
        have HLq := Aside0.mk hL
        have HT := Aside0.mk (show L = (r.free.take k).take 70 ++ [x] by rw [hL, take_70 _ _ hkn h7, ← hx0]; simp [rd, List.getD, hkn])
        clear hL
        have hlen : ((r.free.take k).take 70).length ≤ 70 := by simp; omega
        clear hx0
        go_wp2_with (first | ((with_reducible refine gate_builtin (b := .append) (xs := #[.tmp 26, .tmp 28]) rfl ?_); at_builtin; refine Kd.R_append (Kd.int .u8) (w0 := w) w.heap.size rfl (.tmp 26) (.tmp 28) 48 5 (.int .u8 0) 1 rfl Try.underlying48 info_u8 rfl (by decide) (by omega) vf ((r.free.take k).take 70) x [.int .u8 x] (fun _ => True) (fun _ => False) rfl rfl rfl (fun _ hk => hk.elim) (fun _ _ => trivial) HF.out HB.out HB.out.size (by omega) ?_; intro v1 w1 ho1 hb1 hg1 hat1; have HZ1 := Aside0.mk (HZ.out.grown hg1 (HZ.out.ne_row HF.out (by decide))); have HX1 := Aside0.mk (HX.out.grown hg1 (HX.out.ne_row HF.out (by decide))); have HY1 := Aside0.mk (HY.out.grown hg1 (HY.out.ne_row HF.out (by decide))); rw [← HT.out] at ho1; have HF1 := Aside0.mk ho1; have HB1 := Aside0.mk hb1; obtain ⟨A1, c1, rfl⟩ := Kd.R_slice ho1; have hc1 := HZ1.out.cell 66 _ (bkL_66 _ _ _ _ _ HL.out); have hf1 := HZ1.out.frozen 66; clear ho1 hb1 hg1 hat1 h66 HZ HX HY HF HB hx))
        have HZ2 := Aside0.mk (show Box (w1.setCell ⟨g3, 66, none⟩ (.slice A1 L.length c1)) g3 (bkL r.addr r.aff r.slots (.slice A1 L.length c1) (.slice none 0 0)) 57 by have := HZ1.out.set 66 (.slice A1 L.length c1); rwa [bkL_set_66 _ _ _ _ _ HL.out] at this)
        go_roundw
        case rel => exact ⟨k + 1, by omega, by go_num, _, HZ2, ⟨by rw [← HLq.out]; exact R_box_grown HF1.out HZ1.out (by decide) (setCell_grown _ _ _ _)⟩, ⟨HY1.out.far (p := ⟨g3, 66, none⟩) HN23.out _⟩, ⟨HX1.out.far (p := ⟨g3, 66, none⟩) HN13.out _⟩, ⟨Below.setCell HB1.out (p := ⟨g3, 66, none⟩) HG3.out _⟩⟩
        case measure => simp [intOf]; omega
      · have h7b : decide ((k : Int) < 70) = false := by simp; omega
        have HT := Aside0.mk (take_71 r.free k (by omega))
        clear hx0
        go_wp2
        go_roundw
        case rel => exact ⟨k + 1, by omega, by go_num, _, HZ, ⟨by rw [HT.out]; exact HF.out⟩, HY, HX, HB⟩
        case measure => simp [intOf]; omega
    · obtain rfl : k = r.free.length := by omega
      have hkb : decide ((r.free.length : Int) < (r.free.length : Int)) = false := by simp
      have HT := Aside0.mk (show (r.free.take r.free.length).take 70 = r.free.take 70 by rw [List.take_of_length_le (Nat.le_refl r.free.length)])
      rw [HT.out] at HF
      obtain ⟨LF, hLF⟩ : ∃ LF : List Int, LF = r.free.take 70 := ⟨_, rfl⟩
      have HLF := Aside0.mk hLF
      rw [← hLF] at HF
      clear hLF
      obtain ⟨Af, cf, rfl⟩ := Kd.R_slice HF.out
      have h67 := HX.out.cell 67 _ (bkL_67 _ _ _ _ _ HL.out)
      have HRW := Aside0.mk (HR.out.below HB.out)
      have HBW := HB
      have HFW := HF
      go_wp2_with fail
      clear h67
      go_loopw [6, 7, 35] (fun _ _ i V => ∃ k : Nat, k ≤ r.attrs.length ∧ i = .int .i64 k ∧ ∃ va, Aside0 (Box V g3 (bkL r.addr r.aff r.slots (.slice Af LF.length cf) va) 57) ∧ Aside0 (Kd.R (Kd.int .u8) 5 V w.heap.size (fun _ => True) (.slice Af LF.length cf) LF) ∧ Aside0 (Kd.R k85 85 V w.heap.size (fun _ => True) va (((r.attrs.take k).take 70).map cv)) ∧ Aside0 (Box V g2 zeroL 57) ∧ Aside0 (Below w.heap.size w V)) (fun _ _ i _ => r.attrs.length - (intOf i).toNat)
      case atStart => exact ⟨0, by omega, rfl, _, HZ, HF, ⟨Kd.R_nil _ _ _ _ _⟩, HY, HB⟩
      case round =>
        clear HZ HF HY HX HB HFW HBW HRW
        obtain ⟨k, hk, rfl, va, HZ, HF, HA, HY, HB⟩ := hrel
        obtain ⟨V, rfl⟩ : ∃ V : World, V = wr := ⟨_, rfl⟩
        by_cases hkn : k < r.attrs.length
        · have hkb : decide ((k : Int) < (r.attrs.length : Int)) = true := by simp; omega
          obtain ⟨ad, eA, hx0, hx1⟩ := at_T76 (HR.out.below HB.out).ar k (by omega) (by omega)
          cases eA
          rw [Int.toNat_natCast] at hx0 hx1
          have p1 : ((k : Int) < (r.attrs.length : Int)) = True := eq_true (by omega)
          obtain ⟨a, ha⟩ : ∃ a, rd_T76 r.attrs (k : Int) = a := ⟨_, rfl⟩
          rw [ha] at hx0 hx1
          have ha2 : r.attrs[k] = a := by rw [← ha]; simp [rd_T76, List.getD, hkn]
          by_cases h7 : k < 70
          · have h7b : decide ((k : Int) < 70) = true := by simp; omega
            obtain ⟨L, hL⟩ : ∃ L : List At, L = ((r.attrs.take (k + 1)).take 70).map cv := ⟨_, rfl⟩
            obtain ⟨M, hM⟩ : ∃ M : List At, M = ((r.attrs.take k).take 70).map cv := ⟨_, rfl⟩
            have HLq := Aside0.mk hL
            have HT := Aside0.mk (show L = M ++ [cv a] by rw [hL, hM, take_70 _ _ hkn h7, ha2]; simp)
            have hml : M.length ≤ 70 := by rw [hM]; simp; omega
            rw [← hM] at HA
            clear hL hM ha ha2
            obtain ⟨Am, cm, rfl⟩ := Kd.R_slice HA.out
            go_wp2_with (first
              | (refine step_allocN (some 7) rfl rfl 76 rfl [.string ⟨#[]⟩, .string ⟨#[]⟩] (fun _ => by kernel_rfl) ?_; intro ga W3 hga HB3 hbw3)
              | (refine step_store rfl 76 (.tmp 7) (.tmp 39) rfl ga [.string a.f0, .string a.f1] rfl rfl 76 _ HB3 2 (by kernel_rfl) rfl rfl (by intro u hu; simp at hu; rcases hu with rfl | rfl <;> rfl) ?_; intro W4 HB4 hgw4))
            have HA4 := Aside0.mk (show Box W4.drew ga [.string a.f0, .string a.f1] 76 from HB4)
            have hbW : Below V.heap.size V W4.drew := below_drew (hbw3.grown hgw4 hbw3.size (fun q hq => by cases hq; exact hga))
            have HB5 := Aside0.mk (below_step HB.out hbW)
            have HZ5 := Aside0.mk (HZ.out.below hbW)
            have HF5 := Aside0.mk (Kd.R_below HF.out hbW)
            have HM5 := Aside0.mk (Kd.R_below HA.out hbW)
            have HY5 := Aside0.mk (HY.out.below hbW)
            clear HB3 HB4 hga hbw3 hgw4 hbW hx0 hx1 HA HZ HF HY HB
            refine start_ (n := 8) (S := fun w' => w'.cell? ⟨ga, 0, none⟩ = some (.string a.f0) ∧ w'.cell? ⟨ga, 1, none⟩ = some (.string a.f1) ∧ w'.cell? ⟨g3, 67, none⟩ = some (.slice Am M.length cm)) (ds := [7]) #[false, false, false, false, false, false, false, false] (by kernel_rfl) rfl rfl ⟨HA4.out.cell 0 _ rfl, HA4.out.cell 1 _ rfl, HZ5.out.cell 67 _ (bkL_67 _ _ _ _ _ HL.out)⟩ (fun hHeld => ?_); refine with_tabW ours12.tab12 ours12.bits12 (fun HT_ HW_ => ?_)
            refine pure_ (i := 0) (N := some 42) (v := ?_) (a' := ?_) #[true, false, false, false, false, false, false, false] rfl rfl (any_of HT_.out (by kernel_rfl)) (fun _ _ _ h => h) (Or.inl ⟨by rfl, ?_⟩) ?_ ?_
            rotate_left
            · intro w'
              go_simp
              with_reducible rfl
            rotate_left
            · simp only [Act.put, List.setIfInBounds_toArray, List.set_cons_zero, List.set_cons_succ, i64_w, i32_w]
              rfl
            refine take_ (i := 1) (N := some 43) (v := ?_) (a' := ?_) #[true, true, false, false, false, false, false, false] rfl rfl (take_ofW HT_.out HW_.out (by kernel_rfl)) (fun _ _ _ h => h) (Or.inl ⟨by rfl, ?_⟩) hHeld ?_ ?_
            rotate_left
            · intro w' hS_
              obtain ⟨s0, s1, s2⟩ := hS_
              go_simp
              with_reducible rfl
            rotate_left
            · simp only [Act.put, List.setIfInBounds_toArray, List.set_cons_zero, List.set_cons_succ, i64_w, i32_w]
              rfl
            refine take_ (i := 2) (N := some 44) (v := ?_) (a' := ?_) #[true, true, true, false, false, false, false, false] rfl rfl (take_ofW HT_.out HW_.out (by kernel_rfl)) (fun _ _ _ h => h) (Or.inl ⟨by rfl, ?_⟩) hHeld ?_ ?_
            rotate_left
            · intro w' hS_
              obtain ⟨s0, s1, s2⟩ := hS_
              go_simp
              with_reducible rfl
            rotate_left
            · simp only [Act.put, List.setIfInBounds_toArray, List.set_cons_zero, List.set_cons_succ, i64_w, i32_w]
              rfl
            refine one_ (i := 3) (N := some 45) #[true, true, true, true, false, false, false, false] rfl rfl (one_of HT_.out (by kernel_rfl)) (by decide) (fun K hK => ?_)
            refine goes_ Try.func50 (by kernel_rfl) rfl #[.agg #[.string a.f0, .string a.f1]] (by rfl) rfl rfl (by (try simp only [List.map_toArray, List.map_cons, List.map_nil]); first | done | rfl) ?_
            refine (cv_any a _).mono ?_
            rintro e V3 ⟨rfl, hb3⟩
            refine ⟨_, rfl, ?_⟩
            have HA6 := Aside0.mk (HA4.out.below hb3); have HZ6 := Aside0.mk (HZ5.out.below hb3); have HF6 := Aside0.mk (Kd.R_below HF5.out hb3); have HM6 := Aside0.mk (Kd.R_below HM5.out hb3); have HY6 := Aside0.mk (HY5.out.below hb3); have HB6 := Aside0.mk (below_step HB5.out hb3); clear hb3
            refine hK.out _ _ ⟨HA6.out.cell 0 _ rfl, HA6.out.cell 1 _ rfl, HZ6.out.cell 67 _ (bkL_67 _ _ _ _ _ HL.out)⟩ (fun hHeld => ?_)
            clear hK K
            refine norm_ (a' := ?_) ?_ ?_
            rotate_left
            · show Act.put _ (some 45) _ = _
              simp only [Act.put, List.setIfInBounds_toArray, List.set_cons_zero, List.set_cons_succ, i64_w, i32_w]
              rfl
            refine one_ (i := 4) (N := some 46) #[true, true, true, true, true, false, false, false] rfl rfl (one_of HT_.out (by kernel_rfl)) (by decide) (fun K hK => ?_)
            have HA7 := Aside0.mk (HA6.out.alloc (.cells [Value.string (cv a).f0, .string (cv a).f1].toArray 85)); have HZ7 := Aside0.mk (HZ6.out.alloc (.cells [Value.string (cv a).f0, .string (cv a).f1].toArray 85))
            refine event_step (v := .slice (some ⟨V3.heap.size, 0, none⟩) 1 1) (w1 := V3.alloc (.cells [Value.string (cv a).f0, .string (cv a).f1].toArray 85)) (by rfl) ?_ ?_
            · go_simp
              try rfl
            refine hK.out _ _ ⟨HA7.out.cell 0 _ rfl, HA7.out.cell 1 _ rfl, HZ7.out.cell 67 _ (bkL_67 _ _ _ _ _ HL.out)⟩ (fun hHeld => ?_)
            clear hK K
            refine norm_ (a' := ?_) ?_ ?_
            rotate_left
            · show Act.put _ (some 46) _ = _
              simp only [Act.put, List.setIfInBounds_toArray, List.set_cons_zero, List.set_cons_succ, i64_w, i32_w]
              rfl
            refine one_ (i := 5) (N := some 47) #[true, true, true, true, true, true, false, false] rfl rfl (one_of HT_.out (by kernel_rfl)) (by decide) (fun K hK => ?_)
            refine Kd.R_append_step k85 (w0 := w) w.heap.size (by rfl) (.tmp 43) (.tmp 46) 55 85 (.agg #[.string ⟨#[]⟩, .string ⟨#[]⟩]) 32 rfl Try.underlying55 info_at rfl (by decide) (by omega) _ M (cv a) [.string (cv a).f0, .string (cv a).f1] (fun _ => True) (fun _ => False) rfl rfl (k85_mkM _ _ _ _) (fun _ h => h.elim) (fun _ _ => trivial) HM6.out HB6.out HB6.out.size (by omega) ?_
            intro v8 w8 ho8 hb8 hg8 hat8
            rw [← HT.out] at ho8
            have HZ8 := Aside0.mk (HZ6.out.grown hg8 (HZ6.out.ne_row HM6.out (by decide)))
            have HA8 := Aside0.mk (HA6.out.grown hg8 (HA6.out.ne_row HM6.out (by decide)))
            have HY8 := Aside0.mk (HY6.out.grown hg8 (HY6.out.ne_row HM6.out (by decide)))
            have HF8 := Aside0.mk (Kd.R_over HF6.out HM6.out (by decide) hg8)
            have HM8 := Aside0.mk ho8
            have HB8 := Aside0.mk hb8
            obtain ⟨A8, c8, rfl⟩ := Kd.R_slice ho8
            clear ho8 hb8 hg8 hat8
            refine hK.out _ _ ⟨HA8.out.cell 0 _ rfl, HA8.out.cell 1 _ rfl, HZ8.out.cell 67 _ (bkL_67 _ _ _ _ _ HL.out)⟩ (fun hHeld => ?_)
            clear hK K
            refine norm_ (a' := ?_) ?_ ?_
            rotate_left
            · show Act.put _ (some 47) _ = _
              simp only [Act.put, List.setIfInBounds_toArray, List.set_cons_zero, List.set_cons_succ, i64_w, i32_w]
              rfl
            refine pure_ (i := 6) (N := some 48) (v := ?_) (a' := ?_) #[true, true, true, true, true, true, true, false] rfl rfl (any_of HT_.out (by kernel_rfl)) (fun _ _ _ h => h) (Or.inl ⟨by rfl, ?_⟩) ?_ ?_
            rotate_left
            · intro w'
              go_simp
              with_reducible rfl
            rotate_left
            · simp only [Act.put, List.setIfInBounds_toArray, List.set_cons_zero, List.set_cons_succ, i64_w, i32_w]
              rfl
            refine last_ (i := 7) (N := none) #[true, true, true, true, true, true, true, true] rfl rfl (one_of HT_.out (by kernel_rfl)) (by decide) (fun K hK => ?_)
            have hf67 := HZ8.out.frozen 67; have hc67 := HZ8.out.cell 67 _ (bkL_67 _ _ _ _ _ HL.out)
            refine skip_ (w1 := ?_) (by rfl) rfl ?_ ?_
            rotate_left
            · go_simp
              rfl
            refine hK.out _ _ ?_
            clear hK K
            refine done_ (done_of HT_.out (by kernel_rfl)) ?_
            have HZ9 := Aside0.mk (show Box (w8.setCell ⟨g3, 67, none⟩ (.slice A8 L.length c8)) g3 (bkL r.addr r.aff r.slots (.slice Af LF.length cf) (.slice A8 L.length c8)) 57 by have := HZ8.out.set 67 (.slice A8 L.length c8); rwa [bkL_set_67 _ _ _ _ _ HL.out] at this)
            go_wp2
            go_roundw
            case rel => exact ⟨k + 1, by omega, by go_num, _, HZ9, ⟨R_box_grown HF8.out HZ8.out (by decide) (setCell_grown _ _ _ _)⟩, ⟨by rw [← HLq.out]; exact R_box_grown HM8.out HZ8.out (by decide) (setCell_grown _ _ _ _)⟩, ⟨HY8.out.far (p := ⟨g3, 67, none⟩) HN23.out _⟩, ⟨Below.setCell HB8.out (p := ⟨g3, 67, none⟩) HG3.out _⟩⟩
            case measure => simp [intOf]; omega
          · have h7b : decide ((k : Int) < 70) = false := by simp; omega
            have HT := Aside0.mk (take_71 r.attrs k (by omega))
            clear ha ha2
            go_wp2_with (first
              | (refine step_allocN (some 7) rfl rfl 76 rfl [.string ⟨#[]⟩, .string ⟨#[]⟩] (fun _ => by kernel_rfl) ?_; intro ga W3 hga HB3 hbw3)
              | (refine step_store rfl 76 (.tmp 7) (.tmp 39) rfl ga [.string a.f0, .string a.f1] rfl rfl 76 _ HB3 2 (by kernel_rfl) rfl rfl (by intro u hu; simp at hu; rcases hu with rfl | rfl <;> rfl) ?_; intro W4 HB4 hgw4; have hbW : Below V.heap.size V W4 := hbw3.grown hgw4 hbw3.size (fun q hq => by cases hq; exact hga); have HB5 := Aside0.mk (below_step HB.out hbW); have HZ5 := Aside0.mk (HZ.out.below hbW); have HF5 := Aside0.mk (Kd.R_below HF.out hbW); have HM5 := Aside0.mk (Kd.R_below HA.out hbW); have HY5 := Aside0.mk (HY.out.below hbW); clear HB3 HB4 hga hbw3 hgw4 hbW hx0 hx1 HA HZ HF HY HB))
            go_roundw
            case rel => exact ⟨k + 1, by omega, by go_num, _, HZ5, HF5, ⟨by rw [HT.out]; exact HM5.out⟩, HY5, HB5⟩
            case measure => simp [intOf]; omega
        · obtain rfl : k = r.attrs.length := by omega
          have hkb : decide ((r.attrs.length : Int) < (r.attrs.length : Int)) = false := by simp
          obtain ⟨LA, hLA⟩ : ∃ LA : List At, LA = (r.attrs.take 70).map cv := ⟨_, rfl⟩
          have HT2 := Aside0.mk (show ((r.attrs.take r.attrs.length).take 70).map cv = LA by rw [List.take_of_length_le (Nat.le_refl r.attrs.length), hLA])
          have HLA := Aside0.mk hLA
          rw [HT2.out] at HA
          clear hLA
          obtain ⟨Aa, ca, rfl⟩ := Kd.R_slice HA.out
          have H68 := Aside0.mk (bkL_length r.addr r.aff r.slots (.slice Af LF.length cf) (.slice Aa LA.length ca) HL.out)
          go_wp2_with (first
            | (refine step_load rfl 57 (.tmp 3) rfl g3 rfl _ _ _ HZ.out Try.underlying57 rfl 68 (by kernel_rfl) H68.out ?_)
            | (refine step_store rfl 57 (.tmp 2) (.tmp 50) rfl g2 (bkL r.addr r.aff r.slots (.slice Af LF.length cf) (.slice Aa LA.length ca)) rfl rfl 57 _ HY.out 68 (by kernel_rfl) H68.out rfl (bkL_one _ _ _ _ _ rfl rfl) ?_; intro W6 HB6 hg6))
          refine bodyPost_ret (results_cell_row rfl _ _ g2 57 _ (0, 0) _ rfl HB6 Try.underlying57 rfl (by simp only [List.size_toArray]; exact size57 _ H68.out)) rfl ⟨_, rfl, ⟨HL.out, _, _, rfl, ?_, ?_⟩, HB.out.grown hg6 HB.out.size (by intro k hk; cases hk; exact HG2.out)⟩
          · show Kd.R _ _ _ _ _ _ (r.free.take 70)
            rw [← HLF.out]
            exact R_box_grown HF.out HY.out (by decide) hg6
          · show Kd.R _ _ _ _ _ _ ((r.attrs.take 70).map cv)
            rw [← HLA.out]
            exact R_box_grown HA.out HY.out (by decide) hg6
end Go.Proofs.Ytemhalnhbgkbcaa.V
end

-- BPlain
section
/- virgatelaw15.Plain: a block as the document's. -/
namespace Go.Proofs.Ytemhalnhbgkbcaa.V
open Go.RowKit Go.Proofs.YtemhalnhbgkbcaaW.PrintWords Go.Proofs.YtemhalnhbgkbcaaW.PrintLast Go.Proofs.YtemhalnhbgkbcaaW.PrintMore
set_option linter.unusedVariables false
set_option linter.unusedSimpArgs false

def vc (a : At) : S76 := ⟨a.f0, a.f1⟩
def zero5 : List Value := [.int .u32 0, .string ⟨#[]⟩, .slice none 0 0, .slice none 0 0, .slice none 0 0]
theorem info_i : (Try.prog.info? 3).map (fun i => (i.zero, i.size, i.bytes)) = some (some (.int .i64 0), 1, 8) := by kernel_rfl
theorem info_rat : (Try.prog.info? 76).map (fun i => (i.zero, i.size, i.bytes)) = some (some (.agg #[.string ⟨#[]⟩, .string ⟨#[]⟩]), 2, 32) := by kernel_rfl
theorem built5 (x : Int) (s : ByteArray) : Try.prog.built 62 [(0, .int .u32 x), (1, .string s)] = some [Value.int .u32 x, .string s, .slice none 0 0, .slice none 0 0, .slice none 0 0].toArray := by kernel_rfl
/-- A row that lies under b1 stays where one from b1 on is written. -/
theorem R_under {α β : Type} {d : Kd α} {d' : Kd β} {e e' b1 base : Nat} {W w1 : World} {ok ok' : Nat → Prop} {u v : Value} {xs : List α} {ys : List β} (h : d.R e W base ok u xs) (ho : ∀ k, ok k → k < b1) (hv : d'.R e' W b1 ok' v ys) (hg : W.grownBy w1 v.ownBlock) : d.R e w1 base ok u xs :=
  Kd.R_grown h hg (fun k hk he => by have := ho k hk; have := Kd.R_base hv k he.symm; omega)
set_option maxHeartbeats 8000000 in
set_option maxRecDepth 100000 in
theorem plain_any (b : Bk) (hk : BkOk b) (hfl : b.free.length ≤ 1000) (hal : b.attrs.length ≤ 1000) (v : Value) (w : World) (h : BkV w v b) :
    Calls Try.prog 36 #[v] w fun e w' => ∃ vs vf va, e = .returned (.agg #[.int .u32 b.addr, .string b.aff, vs, vf, va]) ∧ Kd.R (Kd.int .i64) 3 w' w.heap.size (fun _ => True) vs b.slots ∧ Kd.R (Kd.int .i64) 3 w' w.heap.size (fun _ => True) vf b.free ∧ Kd.R k76 76 w' w.heap.size (fun _ => True) va (b.attrs.map vc) ∧ Below w.heap.size w w' := by
  obtain ⟨A, c, A', c', rfl, hr⟩ := h
  have HL := Aside0.mk hr.l64
  have HR := Aside0.mk hr
  have HK := Aside0.mk hk
  have hnf : b.free.length ≤ 9223372036854775807 := hr.fr.2.1
  have hna : b.attrs.length ≤ 9223372036854775807 := hr.ar.2.1
  have HLN := Aside0.mk (show (Try.prog.info? 47).map (·.size) = some (b.slots.map (Value.int .u8)).length by rw [List.length_map, hr.l64]; kernel_rfl)
  have HBT := Aside0.mk (built5 b.addr b.aff)
  clear hr hk
  go_enter Try.func36, Try.ntmps36
  go_wp2_with (first
    | (refine step_box rfl 57 (.tmp 0) rfl _ rfl ?_; intro g W1 hg hbx hb1; have HX1 := Aside0.mk hbx; have HB1 := Aside0.mk hb1; clear hbx hb1 hg)
    | (refine step_allocN (some 2) rfl rfl 62 rfl zero5 (fun _ => by kernel_rfl) ?_; intro g2 W2 hg2 hbx2 hb2; have HX2 := Aside0.mk (HX1.out.below hb2); have HY2 := Aside0.mk hbx2; have HB2 := Aside0.mk (HB1.out.trans (hb2.mono HB1.out.size)); have HG2 := Aside0.mk (show w.heap.size ≤ g2 by have := HB1.out.size; omega); have HN12 := Aside0.mk (show g ≠ g2 by have := HX1.out.lt; omega); have h0 := HX2.out.cell 0 _ rfl; have h1 := HX2.out.cell 1 _ rfl; clear hbx2 hb2 hg2 HX1 HB1)
    | ((with_reducible refine gate_dst (N := 14) rfl ?_); refine step_buildV rfl 62 #[(0, .tmp 11), (1, .tmp 13)] rfl [(0, .int .u32 b.addr), (1, .string b.aff)] (by simp only [List.map_toArray, List.map_cons, List.map_nil]; rfl) [Value.int .u32 b.addr, .string b.aff, .slice none 0 0, .slice none 0 0, .slice none 0 0] HBT.out ?_)
    | (refine step_allocN (some 3) rfl rfl 62 rfl zero5 (fun _ => by kernel_rfl) ?_; intro g3 W3 hg3 hbx3 hb3; have HX3 := Aside0.mk (HX2.out.below hb3); have HY3 := Aside0.mk (HY2.out.below hb3); have HZ3 := Aside0.mk hbx3; have HB3 := Aside0.mk (HB2.out.trans (hb3.mono HB2.out.size)); have HG3 := Aside0.mk (show w.heap.size ≤ g3 by have := HB2.out.size; omega); have HN13 := Aside0.mk (show g ≠ g3 by have := HX2.out.lt; omega); have HN23 := Aside0.mk (show g2 ≠ g3 by have := HY2.out.lt; omega); clear hbx3 hb3 hg3 HX2 HY2 HB2 h0 h1)
    | (refine step_store rfl 62 (.tmp 3) (.tmp 14) rfl g3 [Value.int .u32 b.addr, .string b.aff, .slice none 0 0, .slice none 0 0, .slice none 0 0] rfl rfl 62 _ HZ3.out 5 (by kernel_rfl) rfl rfl (by intro u hu; simp at hu; rcases hu with rfl | rfl | rfl | rfl | rfl <;> rfl) ?_; intro W4 hz4 hg4; have HZ4 := Aside0.mk hz4; have HX4 := Aside0.mk (HX3.out.grown hg4 (fun e => HN13.out (Option.some.inj e))); have HY4 := Aside0.mk (HY3.out.grown hg4 (fun e => HN23.out (Option.some.inj e))); have HB4 := Aside0.mk (HB3.out.grown hg4 HB3.out.size (by intro k hk; cases hk; exact HG3.out)); clear hz4 hg4 HX3 HY3 HZ3 HB3)
    | (refine step_loadPart rfl 47 (.tmp 15) rfl g 2 rfl 57 _ (b.slots.map (Value.int .u8)) (.array 64 5) HX4.out (bkL_part _ _ _ _ _ HL.out) Try.underlying47 rfl HLN.out ?_))
  go_loopw [5, 17] (fun _ i W => ∃ k : Nat, k ≤ 64 ∧ i = .int .i64 k ∧ ∃ vs, Aside0 (Box W g3 [.int .u32 b.addr, .string b.aff, vs, .slice none 0 0, .slice none 0 0] 62) ∧ Aside0 (Kd.R (Kd.int .i64) 3 W w.heap.size (fun _ => True) vs (b.slots.take k)) ∧ Aside0 (Box W g2 zero5 62) ∧ Aside0 (Box W g (bkL b.addr b.aff b.slots (.slice A b.free.length c) (.slice A' b.attrs.length c')) 57) ∧ Aside0 (Below w.heap.size w W)) (fun _ i _ => 64 - (intOf i).toNat)
  case atStart => exact ⟨0, by omega, rfl, _, HZ4, ⟨Kd.R_nil _ _ _ _ _⟩, HY4, HX4, HB4⟩
  case round =>
    clear HZ4 HY4 HX4 HB4
    obtain ⟨k, hk, rfl, vs, HZ, HS, HY, HX, HB⟩ := hrel
    obtain ⟨W, rfl⟩ : ∃ W : World, W = wr := ⟨_, rfl⟩
    by_cases hk2 : k < 64
    · have hkb : decide ((k : Int) < 64) = true := by simp; omega
      have hkl : k < b.slots.length := by have := HL.out; omega
      obtain ⟨m, hm⟩ : ∃ m : Nat, rd b.slots k = (m : Int) := ⟨(rd b.slots k).toNat, by have := (U8s_rd HK.out.s8 k).1; omega⟩
      have hm2 : m < 256 := by have := (U8s_rd HK.out.s8 k).2; omega
      have hix := fun w => index47 b.slots HL.out k hk2 w
      have hg0 : b.slots.getD k 0 = (m : Int) := by rw [← hm]; simp [rd]
      rw [hg0] at hix
      obtain ⟨L, hL⟩ : ∃ L : List Int, L = b.slots.take (k + 1) := ⟨_, rfl⟩
      have HLq := Aside0.mk hL
      have HT := Aside0.mk (show L = b.slots.take k ++ [(m : Int)] by rw [hL, List.take_add_one, List.getElem?_eq_getElem hkl, ← hg0]; simp [List.getD, hkl])
      clear hL hm hg0
      have hlen : (b.slots.take k).length ≤ 64 := by simp; omega
      have hc2 := HZ.out.cell 2 _ rfl
      go_wp2_with (first | ((with_reducible refine gate_builtin (b := .append) (xs := #[.tmp 21, .tmp 24]) rfl ?_); at_builtin; refine Kd.R_append (Kd.int .i64) (w0 := w) w.heap.size rfl (.tmp 21) (.tmp 24) 31 3 (.int .i64 0) 8 rfl Try.underlying31 info_i rfl (by decide) (by omega) vs (b.slots.take k) (m : Int) [.int .i64 (m : Int)] (fun _ => True) (fun _ => False) rfl rfl rfl (fun _ hk => hk.elim) (fun _ _ => trivial) HS.out HB.out HB.out.size (by omega) ?_; intro v1 w1 ho1 hb1 hg1 hat1; have HZ1 := Aside0.mk (HZ.out.grown hg1 (HZ.out.ne_row HS.out (by decide))); have HX1 := Aside0.mk (HX.out.grown hg1 (HX.out.ne_row HS.out (by decide))); have HY1 := Aside0.mk (HY.out.grown hg1 (HY.out.ne_row HS.out (by decide))); rw [← HT.out] at ho1; have HS1 := Aside0.mk ho1; have HB1 := Aside0.mk hb1; obtain ⟨A1, c1, rfl⟩ := Kd.R_slice ho1; have hc1 := HZ1.out.cell 2 _ rfl; have hf1 := HZ1.out.frozen 2; clear ho1 hb1 hg1 hat1 hc2 HZ HX HY HS HB))
      have HZ2 := Aside0.mk (show Box (w1.setCell ⟨g3, 2, none⟩ (.slice A1 L.length c1)) g3 [.int .u32 b.addr, .string b.aff, .slice A1 L.length c1, .slice none 0 0, .slice none 0 0] 62 from HZ1.out.set 2 (.slice A1 L.length c1))
      go_roundw
      case rel => exact ⟨k + 1, by omega, by go_num, _, HZ2, ⟨by rw [← HLq.out]; exact R_box_grown HS1.out HZ1.out (by decide) (setCell_grown _ _ _ _)⟩, ⟨HY1.out.far (p := ⟨g3, 2, none⟩) HN23.out _⟩, ⟨HX1.out.far (p := ⟨g3, 2, none⟩) HN13.out _⟩, ⟨Below.setCell HB1.out (p := ⟨g3, 2, none⟩) HG3.out _⟩⟩
      case measure => simp [intOf]; omega
    · obtain rfl : k = 64 := by omega
      rw [show ((64 : Nat) : Int) = (64 : Int) from rfl]
      have hkb : decide ((64 : Int) < 64) = false := by decide
      rw [show b.slots.take 64 = b.slots from List.take_of_length_le (by have := HL.out; omega)] at HS
      have h66 := HX.out.cell 66 _ (bkL_66 _ _ _ _ _ HL.out)
      obtain ⟨As, cs, rfl⟩ := Kd.R_slice HS.out
      have HS' := Aside0.mk (Kd.R_mono (ok' := fun k => k < W.heap.size) (Kd.R_bound HS.out) (fun k hk => hk.2.2.1))
      have HSZ := Aside0.mk (Nat.le_refl W.heap.size)
      have HB0 := HB.out.size
      obtain ⟨b1, hb1⟩ : ∃ b1, b1 = W.heap.size := ⟨_, rfl⟩
      rw [← hb1] at HS' HB0
      have HSZ := Aside0.mk (show b1 ≤ W.heap.size by omega)
      have HWB := Aside0.mk HB0
      have HRF := Aside0.mk (HR.out.below HB.out)
      clear HS hb1 HB0
      go_wp2_with fail
      clear h66
      go_loopw [7, 31] (fun _ i V => ∃ k : Nat, k ≤ b.free.length ∧ i = .int .i64 k ∧ ∃ vf, Aside0 (Box V g3 [.int .u32 b.addr, .string b.aff, .slice As b.slots.length cs, vf, .slice none 0 0] 62) ∧ Aside0 (Kd.R (Kd.int .i64) 3 V w.heap.size (fun k => k < b1) (.slice As b.slots.length cs) b.slots) ∧ Aside0 (Kd.R (Kd.int .i64) 3 V b1 (fun _ => True) vf (b.free.take k)) ∧ Aside0 (Box V g2 zero5 62) ∧ Aside0 (Box V g (bkL b.addr b.aff b.slots (.slice A b.free.length c) (.slice A' b.attrs.length c')) 57) ∧ Aside0 (b1 ≤ V.heap.size) ∧ Aside0 (Below w.heap.size w V)) (fun _ i _ => b.free.length - (intOf i).toNat)
      case atStart => exact ⟨0, by omega, rfl, _, HZ, HS', ⟨Kd.R_nil _ _ _ _ _⟩, HY, HX, HSZ, HB⟩
      case round =>
        clear HZ HS' HY HX HSZ HB HRF
        obtain ⟨k, hk, rfl, vf, HZ, HS, HF, HY, HX, HSZ, HB⟩ := hrel
        obtain ⟨V, rfl⟩ : ∃ V : World, V = wr := ⟨_, rfl⟩
        by_cases hkn : k < b.free.length
        · have hkb : decide ((k : Int) < (b.free.length : Int)) = true := by simp; omega
          obtain ⟨ad, eA, hx⟩ := Kd.at_int (HR.out.below HB.out).fr k (by omega) (by omega)
          cases eA
          rw [Int.toNat_natCast] at hx
          have p1 : ((k : Int) < (b.free.length : Int)) = True := eq_true (by omega)
          obtain ⟨m, hm⟩ : ∃ m : Nat, rd b.free k = (m : Int) := ⟨(rd b.free k).toNat, by have := (U8s_rd HK.out.f8 k).1; omega⟩
          have hm2 : m < 256 := by have := (U8s_rd HK.out.f8 k).2; omega
          rw [hm] at hx
          obtain ⟨L, hL⟩ : ∃ L : List Int, L = b.free.take (k + 1) := ⟨_, rfl⟩
          have HLq := Aside0.mk hL
          have HT := Aside0.mk (show L = b.free.take k ++ [(m : Int)] by rw [hL, List.take_add_one, List.getElem?_eq_getElem hkn, ← hm]; simp [rd, List.getD, hkn])
          clear hL hm
          have hlen : (b.free.take k).length ≤ k := by simp; omega
          have hc3 := HZ.out.cell 3 _ rfl
          go_wp2_with (first | ((with_reducible refine gate_builtin (b := .append) (xs := #[.tmp 36, .tmp 39]) rfl ?_); at_builtin; refine Kd.R_append (Kd.int .i64) (w0 := V) b1 rfl (.tmp 36) (.tmp 39) 31 3 (.int .i64 0) 8 rfl Try.underlying31 info_i rfl (by decide) (by omega) vf (b.free.take k) (m : Int) [.int .i64 (m : Int)] (fun _ => True) (fun _ => False) rfl rfl rfl (fun _ hk => hk.elim) (fun _ _ => trivial) HF.out (Below.refl _ _) HSZ.out (by omega) ?_; intro v1 w1 ho1 hb1 hg1 hat1; have HZ1 := Aside0.mk (HZ.out.grown hg1 (HZ.out.ne_row HF.out (by decide))); have HX1 := Aside0.mk (HX.out.grown hg1 (HX.out.ne_row HF.out (by decide))); have HY1 := Aside0.mk (HY.out.grown hg1 (HY.out.ne_row HF.out (by decide))); have HS1 := Aside0.mk (R_under HS.out (fun _ h => h) HF.out hg1); rw [← HT.out] at ho1; have HF1 := Aside0.mk ho1; have HB1 := Aside0.mk (HB.out.trans (hb1.mono HWB.out)); have HSZ1 := Aside0.mk (Nat.le_trans HSZ.out hb1.size); obtain ⟨A1, c1, rfl⟩ := Kd.R_slice ho1; have hc1 := HZ1.out.cell 3 _ rfl; have hf1 := HZ1.out.frozen 3; clear ho1 hb1 hg1 hat1 hc3 HZ HX HY HS HF HB HSZ hx))
          have HZ2 := Aside0.mk (show Box (w1.setCell ⟨g3, 3, none⟩ (.slice A1 L.length c1)) g3 [.int .u32 b.addr, .string b.aff, .slice As b.slots.length cs, .slice A1 L.length c1, .slice none 0 0] 62 from HZ1.out.set 3 (.slice A1 L.length c1))
          have HBS := Aside0.mk (Below.setCell HB1.out (p := ⟨g3, 3, none⟩) HG3.out (.slice A1 L.length c1))
          have hgS := setCell_grown w1 g3 3 (.slice A1 L.length c1)
          have HSZ2 := Aside0.mk (Nat.le_trans HSZ1.out hgS.size)
          have HS2 := Aside0.mk (R_box_grown HS1.out HZ1.out (by decide) hgS)
          have HF2 := Aside0.mk (R_box_grown HF1.out HZ1.out (by decide) hgS)
          clear hgS
          go_roundw
          case rel => exact ⟨k + 1, by omega, by go_num, _, HZ2, HS2, ⟨by rw [← HLq.out]; exact HF2.out⟩, ⟨HY1.out.far (p := ⟨g3, 3, none⟩) HN23.out _⟩, ⟨HX1.out.far (p := ⟨g3, 3, none⟩) HN13.out _⟩, HSZ2, HBS⟩
          case measure => simp [intOf]; omega
        · obtain rfl : k = b.free.length := by omega
          have hkb : decide ((b.free.length : Int) < (b.free.length : Int)) = false := by simp
          rw [List.take_of_length_le (Nat.le_refl b.free.length)] at HF
          have h67 := HX.out.cell 67 _ (bkL_67 _ _ _ _ _ HL.out)
          obtain ⟨Af, cf, rfl⟩ := Kd.R_slice HF.out
          have HF' := Aside0.mk (Kd.R_lower HF.out HWB.out)
          have HS' := Aside0.mk (Kd.R_mono (ok' := fun _ => True) HS.out (fun _ _ => trivial))
          clear HF HS HSZ
          go_wp2_with fail
          clear h67
          go_loopw [9, 46] (fun _ i U => ∃ k : Nat, k ≤ b.attrs.length ∧ i = .int .i64 k ∧ ∃ va, Aside0 (Box U g3 [.int .u32 b.addr, .string b.aff, .slice As b.slots.length cs, .slice Af b.free.length cf, va] 62) ∧ Aside0 (Kd.R (Kd.int .i64) 3 U w.heap.size (fun _ => True) (.slice As b.slots.length cs) b.slots) ∧ Aside0 (Kd.R (Kd.int .i64) 3 U w.heap.size (fun _ => True) (.slice Af b.free.length cf) b.free) ∧ Aside0 (Kd.R k76 76 U w.heap.size (fun _ => True) va ((b.attrs.take k).map vc)) ∧ Aside0 (Box U g2 zero5 62) ∧ Aside0 (Below w.heap.size w U)) (fun _ i _ => b.attrs.length - (intOf i).toNat)
          case atStart => exact ⟨0, by omega, rfl, _, HZ, HS', HF', ⟨Kd.R_nil _ _ _ _ _⟩, HY, HB⟩
          case round =>
            clear HZ HS' HF' HY HX HB
            obtain ⟨k, hk, rfl, va, HZ, HS, HF, HA, HY, HB⟩ := hrel
            obtain ⟨U, rfl⟩ : ∃ U : World, U = wr := ⟨_, rfl⟩
            by_cases hkn : k < b.attrs.length
            · have hkb : decide ((k : Int) < (b.attrs.length : Int)) = true := by simp; omega
              obtain ⟨ad, eA, hx0, hx1⟩ := at_T85 (HR.out.below HB.out).ar k (by omega) (by omega)
              cases eA
              rw [Int.toNat_natCast] at hx0 hx1
              have p1 : ((k : Int) < (b.attrs.length : Int)) = True := eq_true (by omega)
              obtain ⟨a, ha⟩ : ∃ a, rd_T85 b.attrs (k : Int) = a := ⟨_, rfl⟩
              rw [ha] at hx0 hx1
              have ha2 : b.attrs[k] = a := by rw [← ha]; simp [rd_T85, List.getD, hkn]
              obtain ⟨L, hL⟩ : ∃ L : List S76, L = (b.attrs.take (k + 1)).map vc := ⟨_, rfl⟩
              obtain ⟨M, hM⟩ : ∃ M : List S76, M = (b.attrs.take k).map vc := ⟨_, rfl⟩
              have HLq := Aside0.mk hL
              have HT := Aside0.mk (show L = M ++ [vc a] by rw [hL, hM, List.take_add_one, List.getElem?_eq_getElem hkn, ha2]; simp)
              have hml : M.length ≤ k := by rw [hM]; simp; omega
              rw [← hM] at HA
              clear hL hM ha ha2
              obtain ⟨Am, cm, rfl⟩ := Kd.R_slice HA.out
              go_wp2_with (first
                | (refine step_allocN (some 9) rfl rfl 85 rfl [.string ⟨#[]⟩, .string ⟨#[]⟩] (fun _ => by kernel_rfl) ?_; intro ga W3 hga HB3 hbw3)
                | (refine step_store rfl 85 (.tmp 9) (.tmp 49) rfl ga [.string a.f0, .string a.f1] rfl rfl 85 _ HB3 2 (by kernel_rfl) rfl rfl (by intro u hu; simp at hu; rcases hu with rfl | rfl <;> rfl) ?_; intro W4 HB4 hgw4; have HA4 := Aside0.mk HB4; have hbW : Below U.heap.size U W4 := hbw3.grown hgw4 hbw3.size (fun q hq => by cases hq; exact hga); have HB5 := Aside0.mk (below_step HB.out hbW); have HZ5 := Aside0.mk (HZ.out.below hbW); have HS5 := Aside0.mk (Kd.R_below HS.out hbW); have HF5 := Aside0.mk (Kd.R_below HF.out hbW); have HM5 := Aside0.mk (Kd.R_below HA.out hbW); have HY5 := Aside0.mk (HY.out.below hbW); have hc4 := HZ5.out.cell 4 _ rfl; have hy0 := HA4.out.cell 0 _ rfl; have hy1 := HA4.out.cell 1 _ rfl; clear HB3 HB4 hga hbw3 hgw4 hbW hx0 hx1 HA HZ HS HF HY HB)
                | ((with_reducible refine gate_builtin (b := .append) (xs := #[.tmp 51, .tmp 57]) rfl ?_); at_builtin; refine Kd.R_append k76 (w0 := w) w.heap.size rfl (.tmp 51) (.tmp 57) 49 76 (.agg #[.string ⟨#[]⟩, .string ⟨#[]⟩]) 32 rfl Try.underlying49 info_rat rfl (by decide) (by omega) _ M (vc a) [.string a.f0, .string a.f1] (fun _ => True) (fun _ => False) rfl rfl (k76_mkM _ _ _ _) (fun _ h => h.elim) (fun _ _ => trivial) HM5.out HB5.out HB5.out.size (by omega) ?_; intro v8 w8 ho8 hb8 hg8 hat8; rw [← HT.out] at ho8; have HZ8 := Aside0.mk (HZ5.out.grown hg8 (HZ5.out.ne_row HM5.out (by decide))); have HY8 := Aside0.mk (HY5.out.grown hg8 (HY5.out.ne_row HM5.out (by decide))); have HS8 := Aside0.mk (Kd.R_over HS5.out HM5.out (by decide) hg8); have HF8 := Aside0.mk (Kd.R_over HF5.out HM5.out (by decide) hg8); have HM8 := Aside0.mk ho8; have HB8 := Aside0.mk hb8; obtain ⟨A8, c8, rfl⟩ := Kd.R_slice ho8; have hc8 := HZ8.out.cell 4 _ rfl; have hf8 := HZ8.out.frozen 4; clear ho8 hb8 hg8 hat8 hc4 HZ5 HS5 HF5 HM5 HY5 HB5 hy0 hy1))
              have HZ9 := Aside0.mk (show Box (w8.setCell ⟨g3, 4, none⟩ (.slice A8 L.length c8)) g3 [.int .u32 b.addr, .string b.aff, .slice As b.slots.length cs, .slice Af b.free.length cf, .slice A8 L.length c8] 62 from HZ8.out.set 4 (.slice A8 L.length c8))
              go_roundw
              case rel => exact ⟨k + 1, by omega, by go_num, _, HZ9, ⟨R_box_grown HS8.out HZ8.out (by decide) (setCell_grown _ _ _ _)⟩, ⟨R_box_grown HF8.out HZ8.out (by decide) (setCell_grown _ _ _ _)⟩, ⟨by rw [← HLq.out]; exact R_box_grown HM8.out HZ8.out (by decide) (setCell_grown _ _ _ _)⟩, ⟨HY8.out.far (p := ⟨g3, 4, none⟩) HN23.out _⟩, ⟨Below.setCell HB8.out (p := ⟨g3, 4, none⟩) HG3.out _⟩⟩
              case measure => simp [intOf]; omega
            · obtain rfl : k = b.attrs.length := by omega
              have hkb : decide ((b.attrs.length : Int) < (b.attrs.length : Int)) = false := by simp
              rw [List.take_of_length_le (Nat.le_refl b.attrs.length)] at HA
              obtain ⟨LA, hLA⟩ : ∃ LA, LA = b.attrs.map vc := ⟨_, rfl⟩
              have HLA := Aside0.mk hLA
              rw [← hLA] at HA
              clear hLA
              obtain ⟨Aa, ca, rfl⟩ := Kd.R_slice HA.out
              go_wp2_with (first
                | (refine step_load rfl 62 (.tmp 3) rfl g3 rfl _ _ _ HZ.out Try.underlying62 rfl 5 (by kernel_rfl) rfl ?_)
                | (refine step_store rfl 62 (.tmp 2) (.tmp 61) rfl g2 [.int .u32 b.addr, .string b.aff, .slice As b.slots.length cs, .slice Af b.free.length cf, .slice Aa LA.length ca] rfl rfl 62 _ HY.out 5 (by kernel_rfl) rfl rfl (by intro u hu; simp at hu; rcases hu with rfl | rfl | rfl | rfl | rfl <;> rfl) ?_; intro W6 HB6 hg6))
              refine bodyPost_ret (results_cell_row rfl _ _ g2 62 _ (0, 0) _ rfl HB6 Try.underlying62 rfl (by kernel_rfl)) rfl ⟨_, _, _, rfl, R_box_grown HS.out HY.out (by decide) hg6, R_box_grown HF.out HY.out (by decide) hg6, ?_, HB.out.grown hg6 HB.out.size (by intro k hk; cases hk; exact HG2.out)⟩
              rw [← HLA.out]
              exact R_box_grown HA.out HY.out (by decide) hg6
end Go.Proofs.Ytemhalnhbgkbcaa.V
end

