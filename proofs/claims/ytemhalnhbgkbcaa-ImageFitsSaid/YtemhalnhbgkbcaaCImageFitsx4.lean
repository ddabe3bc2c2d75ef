/- The law ImageFits for every input: texts of ours, put together (part 5 of 6). No further condition. -/
import Derived.Test.YtemhalnhbgkbcaaCImageFitsx3
import Derived.Outline
import Derived.Test.YtemhalnhbgkbcaaCImageFitsx1
import Derived.Test.YtemhalnhbgkbcaaCImageFitsw0
import Derived.ChangeSame
import Derived.WideShapes
import Derived.OpenShut
import Derived.Deep.SlicePairs
-- BSize
section
/- image.Size: how many bytes a block has. -/
namespace Go.Proofs.Ytemhalnhbgkbcaa.V
open Go.RowKit Go.Proofs.YtemhalnhbgkbcaaW.PrintWords Go.Proofs.YtemhalnhbgkbcaaW.PrintLast Go.Proofs.YtemhalnhbgkbcaaW.PrintMore
set_option linter.unusedVariables false
set_option linter.unusedSimpArgs false

theorem imgPre_zero_len (b : Bk) : (imgPre b 0).length = 7 + b.aff.size := by
  simp [imgPre, be4, textB_length]
  omega
theorem imgPre_succ_len (b : Bk) (k : Nat) (h : k < b.attrs.length) : (imgPre b (k + 1)).length = (imgPre b k).length + ((atN b.attrs k).f0.size + 1) + ((atN b.attrs k).f1.size + 1) := by
  rw [imgPre_succ _ _ h, List.length_append, List.length_append, textB_length, textB_length]
theorem imgOf_len (b : Bk) (hl : b.slots.length = 64) : (imgOf b).length = (imgPre b b.attrs.length).length + 65 + b.free.length := by
  simp [imgOf]
  omega
set_option maxHeartbeats 8000000 in
set_option maxRecDepth 100000 in
theorem isize_any (b : Bk) (hk : BkOk b) (v : Value) (w : World) (h : BkV w v b) :
    Calls Try.prog 37 #[v] w fun e w' => e = .returned (.int .i64 (if rightB b = true then ((imgOf b).length : Int) else 0)) ∧ Below w.heap.size w w' := by
  obtain ⟨A, c, A', c', rfl, hr⟩ := h
  have HL := Aside0.mk hr.l64
  have HR := Aside0.mk hr
  have HK := Aside0.mk hk
  have H68 := Aside0.mk (bkL_length b.addr b.aff b.slots (.slice A b.free.length c) (.slice A' b.attrs.length c') hr.l64)
  clear hr
  cases hrt : rightB b with
  | false =>
    have HRT := Aside0.mk hrt
    clear hrt hk
    go_enter Try.func37, Try.ntmps37
    go_wp2_with (first
      | (refine step_box rfl 57 (.tmp 0) rfl _ rfl ?_; intro g W1 hg hbx hb1; have HX := Aside0.mk hbx; have HB := Aside0.mk hb1; clear hbx hb1 hg)
      | (refine step_load rfl 57 (.tmp 1) rfl g rfl _ _ _ HX.out Try.underlying57 rfl 68 (by kernel_rfl) H68.out ?_)
      | (go_at_call 48; refine (right_any' b HK.out _ _ ⟨A, c, A', c', rfl, HR.out.below HB.out⟩).mono ?_; rintro e W2 ⟨rfl, hb2⟩; rw [HRT.out]; have HB2 := Aside0.mk (HB.out.trans (hb2.mono HB.out.size)); clear hb2))
    go_ret
    exact ⟨rfl, HB2.out⟩
  | true =>
    have HRT := Aside0.mk hrt
    have hp := right_p hrt
    have HP := Aside0.mk hp
    have hsz := owner_size hp.owner
    have hfl := hp.free_len HL.out
    have hal := hp.na
    have HIL := Aside0.mk (imgOf_len b HL.out)
    have HZL := Aside0.mk (imgPre_zero_len b)
    clear hrt hp hk
    go_enter Try.func37, Try.ntmps37
    go_wp2_with (first
      | (refine step_box rfl 57 (.tmp 0) rfl _ rfl ?_; intro g W1 hg hbx hb1; have HX := Aside0.mk hbx; have HB := Aside0.mk hb1; clear hbx hb1)
      | (refine step_load rfl 57 (.tmp 1) rfl g rfl _ _ _ HX.out Try.underlying57 rfl 68 (by kernel_rfl) H68.out ?_)
      | (go_at_call 48; refine (right_any' b HK.out _ _ ⟨A, c, A', c', rfl, HR.out.below HB.out⟩).mono ?_; rintro e W2 ⟨rfl, hb2⟩; rw [HRT.out]; have HB2 := Aside0.mk (HB.out.trans (hb2.mono HB.out.size)); have HX2 := Aside0.mk (HX.out.below hb2); have HR2 := Aside0.mk (HR.out.below HB2.out); have h1 := HX2.out.cell 1 _ rfl; have h66 := HX2.out.cell 66 _ (bkL_66 _ _ _ _ _ HL.out); have h67 := HX2.out.cell 67 _ (bkL_67 _ _ _ _ _ HL.out); clear hb2 HX HB))
    clear h1 h66 h67
    go_loopw [3, 5, 20] (fun s _ i W => ∃ (k m : Nat), k ≤ b.attrs.length ∧ m ≤ 9000 ∧ i = .int .i64 k ∧ s = .int .i64 m ∧ Aside0 (m = (imgPre b k).length + 65 + b.free.length) ∧ Aside0 (Below W2.heap.size W2 W)) (fun _ _ i _ => b.attrs.length - (intOf i).toNat)
    case atStart => exact ⟨0, 72 + b.aff.size + b.free.length, by omega, by omega, rfl, by first | rfl | (congr 1; omega) | (simp; omega), ⟨by rw [HZL.out]; omega⟩, ⟨Below.refl _ _⟩⟩
    case round =>
      obtain ⟨k, m, hk, hm, rfl, rfl, HM, HZ⟩ := hrel
      obtain ⟨W, rfl⟩ : ∃ W : World, W = wr := ⟨_, rfl⟩
      by_cases hkn : k < b.attrs.length
      · have hkb : decide ((k : Int) < (b.attrs.length : Int)) = true := by simp; omega
        obtain ⟨ad, eA, hx0, hx1⟩ := at_T85 (HR2.out.below HZ.out).ar k (by omega) (by omega)
        cases eA
        rw [Int.toNat_natCast] at hx0 hx1
        have p1 : ((k : Int) < (b.attrs.length : Int)) = True := eq_true (by omega)
        have hsl := imgPre_succ_len b k hkn
        have hma := HP.out.may k hkn
        have hpl := imgPre_len HP.out (k + 1) (by omega)
        obtain ⟨a, ha⟩ : ∃ a : At, atN b.attrs k = a := ⟨_, rfl⟩
        have ha' : rd_T85 b.attrs (k : Int) = a := ha
        rw [ha'] at hx0 hx1
        rw [ha] at hma hsl
        unfold mayAt at hma
        rw [Bool.and_eq_true] at hma
        have hs0 := (rightName_size hma.1).2
        have hs1 := (rightName_size hma.2).2
        have HSL := Aside0.mk hsl
        have HPL := Aside0.mk hpl
        clear ha ha' hma hsl hpl
        go_wp2_with (first
          | (refine step_allocN (some 5) rfl rfl 85 rfl [.string ⟨#[]⟩, .string ⟨#[]⟩] (fun _ => by kernel_rfl) ?_; intro ga W3 hga HB3 hbw3)
          | (refine step_store rfl 85 (.tmp 5) (.tmp 23) rfl ga [.string a.f0, .string a.f1] rfl rfl 85 _ HB3 2 (by kernel_rfl) rfl rfl (by intro u hu; simp at hu; rcases hu with rfl | rfl <;> rfl) ?_; intro W4 HB4 hgw4; have hy0 := HB4.cell 0 _ rfl; have hy1 := HB4.cell 1 _ rfl; have HZ4 := Aside0.mk (below_step HZ.out (hbw3.grown hgw4 hbw3.size (fun q hq => by cases hq; exact hga))); clear HB3 HB4 hga hbw3 hgw4 hx0 hx1))
        go_roundw
        case rel => exact ⟨k + 1, m + (2 + a.f0.size + a.f1.size), by omega, by have := HM.out; have := HSL.out; have := HPL.out; omega, by go_num, by first | rfl | go_num | (congr 1; omega) | (simp; omega), ⟨by have := HM.out; have := HSL.out; omega⟩, HZ4⟩
        case measure => simp [intOf]; omega
      · obtain rfl : k = b.attrs.length := by omega
        have hkb : decide ((b.attrs.length : Int) < (b.attrs.length : Int)) = false := by simp
        go_wp2
        go_ret
        refine ⟨?_, HB2.out.trans (HZ.out.mono HB2.out.size)⟩
        have := HIL.out
        have := HM.out
        show Ending.returned (Value.int .i64 (m : Int)) = Ending.returned (Value.int .i64 ((imgOf b).length : Int))
        rw [show m = (imgOf b).length by omega]
end Go.Proofs.Ytemhalnhbgkbcaa.V
end

-- BNew
section
/- block.New. -/
namespace Go.Proofs.Ytemhalnhbgkbcaa.V
open Go.RowKit Go.Proofs.YtemhalnhbgkbcaaW.PrintWords Go.Proofs.YtemhalnhbgkbcaaW.PrintLast Go.Proofs.YtemhalnhbgkbcaaW.PrintMore
set_option linter.unusedVariables false
set_option linter.unusedSimpArgs false

def iotaI (n : Nat) : List Int := (List.range n).map (fun i : Nat => (i : Int))
theorem iotaI_succ (n : Nat) : iotaI (n + 1) = iotaI n ++ [(n : Int)] := by simp [iotaI, List.range_succ]
theorem iotaI_length (n : Nat) : (iotaI n).length = n := by simp [iotaI]
def newBk (a : Int) (s : ByteArray) : Bk := ⟨firstI a, s, List.replicate 64 0, iotaI 64, []⟩
theorem built0 : Try.prog.built 57 [] = some zeroL.toArray := by kernel_rfl
theorem built1 (x : Int) (s : ByteArray) : Try.prog.built 57 [(0, .int .u32 x), (1, .string s)] = some (bkL x s (List.replicate 64 0) (.slice none 0 0) (.slice none 0 0)).toArray := by kernel_rfl
theorem zeroL_one : ∀ v ∈ zeroL, v.oneCell' = true := bkL_one _ _ _ _ _ rfl rfl
set_option maxHeartbeats 4000000 in
set_option maxRecDepth 100000 in
theorem new_any (a : Int) (h0 : 0 ≤ a) (h1 : a < 4294967296) (s : ByteArray) (w : World) :
    Calls Try.prog 41 #[.int .u32 a, .string s] w fun e w' => ∃ v, e = .returned (.tuple #[v, .int .i64 (if ownerB s = true then 0 else 1)]) ∧ BkO w' w.heap.size v (if ownerB s = true then newBk a s else zbk) ∧ Below w.heap.size w w' := by
  have HF1 := Aside0.mk (first_f a h0 h1)
  have HF2 := Aside0.mk (owner_f s)
  clear h0 h1
  cases ho : ownerB s with
  | false =>
    rw [ho] at HF2
    clear ho
    go_enter Try.func41, Try.ntmps41
    go_wp2_with (first
      | (refine step_allocN (some 4) rfl rfl 57 rfl zeroL zero57 ?_; intro g4 W1 hg4 hbx1 hb1; have HX1 := Aside0.mk hbx1; have HB1 := Aside0.mk hb1; have HG4 := Aside0.mk hg4; clear hbx1 hb1 hg4)
      | (go_at_call 79; refine (block_owner.calls _ _ _ HF2.out).mono ?_; rintro e W2 ⟨rfl, hb2⟩; have HX2 := Aside0.mk (HX1.out.below hb2); have HB2 := Aside0.mk (HB1.out.trans (hb2.mono HB1.out.size)); clear hb2 HX1 HB1)
      | (refine step_build rfl 57 #[] rfl zeroL built0 ?_)
      | (refine step_store rfl 57 (.tmp 4) (.tmp 11) rfl g4 zeroL rfl rfl 57 _ HX2.out 68 (by kernel_rfl) rfl rfl zeroL_one ?_; intro W3 HB3 hg3))
    exact bodyPost_ret (results_ct rfl _ _ g4 57 _ (0, 0) _ rfl HB3 Try.underlying57 rfl (by simp only [List.size_toArray]; exact size57 _ rfl)) rfl ⟨_, rfl, zbk_O _ _, HB2.out.grown hg3 HB2.out.size (by intro k hk; cases hk; exact HG4.out)⟩
  | true =>
    rw [ho] at HF2
    clear ho
    go_enter Try.func41, Try.ntmps41
    go_wp2_with (first
      | (refine step_allocN (some 4) rfl rfl 57 rfl zeroL zero57 ?_; intro g4 W1 hg4 hbx1 hb1; have HX1 := Aside0.mk hbx1; have HB1 := Aside0.mk hb1; have HG4 := Aside0.mk hg4; clear hbx1 hb1 hg4)
      | (go_at_call 79; refine (block_owner.calls _ _ _ HF2.out).mono ?_; rintro e W2 ⟨rfl, hb2⟩; have HX2 := Aside0.mk (HX1.out.below hb2); have HB2 := Aside0.mk (HB1.out.trans (hb2.mono HB1.out.size)); clear hb2 HX1 HB1)
      | (go_at_call 80; refine (block_first.calls _ _ _ HF1.out).mono ?_; rintro e W3 ⟨rfl, hb3⟩; have HX3 := Aside0.mk (HX2.out.below hb3); have HB3 := Aside0.mk (HB2.out.trans (hb3.mono HB2.out.size)); clear hb3 HX2 HB2)
      | (refine step_build rfl 57 #[(0, .tmp 13), (1, .tmp 14)] rfl (bkL (firstI a) s (List.replicate 64 0) (.slice none 0 0) (.slice none 0 0)) (built1 _ _) ?_)
      | (refine step_allocN (some 6) rfl rfl 57 rfl zeroL zero57 ?_; intro g6 W4 hg6 hbx4 hb4; have HX4 := Aside0.mk (HX3.out.below hb4); have HY4 := Aside0.mk hbx4; have HNE := Aside0.mk (show g4 ≠ g6 by have := HX3.out.lt; omega); have HB4 := Aside0.mk (HB3.out.trans (hb4.mono HB3.out.size)); have HG6 := Aside0.mk (show w.heap.size ≤ g6 by have := HB3.out.size; omega); clear hbx4 hb4 hg6 HX3 HB3)
      | (refine step_store rfl 57 (.tmp 6) (.tmp 15) rfl g6 (bkL (firstI a) s (List.replicate 64 0) (.slice none 0 0) (.slice none 0 0)) rfl rfl 57 _ HY4.out 68 (by kernel_rfl) rfl rfl (bkL_one _ _ _ _ _ rfl rfl) ?_; intro W5 hy5 hg5; have HY5 := Aside0.mk hy5; have HX5 := Aside0.mk (HX4.out.grown hg5 (fun e => HNE.out (Option.some.inj e))); have HB5 := Aside0.mk (HB4.out.grown hg5 HB4.out.size (by intro k hk; cases hk; exact HG6.out)); clear hy5 hg5 HX4 HY4 HB4))
    go_loopw [7, 16] (fun _ i W => ∃ k : Nat, k ≤ 64 ∧ i = .int .i64 k ∧ ∃ vf, Aside0 (Box W g6 (bkL (firstI a) s (List.replicate 64 0) vf (.slice none 0 0)) 57) ∧ Aside0 (Kd.R (Kd.int .u8) 5 W w.heap.size (fun _ => True) vf (iotaI k)) ∧ Aside0 (Box W g4 zeroL 57) ∧ Aside0 (Below w.heap.size w W)) (fun _ i _ => 64 - (intOf i).toNat)
    case atStart => exact ⟨0, by omega, rfl, _, HY5, ⟨Kd.R_nil _ _ _ _ _⟩, HX5, HB5⟩
    case round =>
      clear HY5 HX5 HB5
      obtain ⟨k, hk, rfl, vf, HY, HR, HX, HB⟩ := hrel
      obtain ⟨W, rfl⟩ : ∃ W : World, W = wr := ⟨_, rfl⟩
      by_cases hk2 : k < 64
      · have hkb : decide ((k : Int) < 64) = true := by simp; omega
        have h66 := HY.out.cell 66 _ (bkL_66 _ _ _ _ _ rfl)
        have hlen := iotaI_length k
        go_wp2_with (first | ((with_reducible refine gate_builtin (b := .append) (xs := #[.tmp 20, .tmp 23]) rfl ?_); at_builtin; refine Kd.R_append (Kd.int .u8) (w0 := w) w.heap.size rfl (.tmp 20) (.tmp 23) 48 5 (.int .u8 0) 1 rfl Try.underlying48 info_u8 rfl (by decide) (by omega) vf (iotaI k) (k : Int) [.int .u8 (k : Int)] (fun _ => True) (fun _ => False) rfl rfl rfl (fun _ hk => hk.elim) (fun _ _ => trivial) HR.out HB.out HB.out.size (by omega) ?_; intro v1 w1 ho1 hb1 hg1 hat1; have HY1 := Aside0.mk (HY.out.grown hg1 (HY.out.ne_row HR.out (by decide))); have HX1 := Aside0.mk (HX.out.grown hg1 (HX.out.ne_row HR.out (by decide))); rw [← iotaI_succ] at ho1; have HR1 := Aside0.mk ho1; have HB1 := Aside0.mk hb1; obtain ⟨A1, c1, rfl⟩ := Kd.R_slice ho1; have hc1 := HY1.out.cell 66 _ (bkL_66 _ _ _ _ _ rfl); have hf1 := HY1.out.frozen 66; clear ho1 hb1 hg1 hat1 h66 HY HX HR HB))
        have HY2 := Aside0.mk (show Box (w1.setCell ⟨g6, 66, none⟩ (.slice A1 (iotaI (k + 1)).length c1)) g6 (bkL (firstI a) s (List.replicate 64 0) (.slice A1 (iotaI (k + 1)).length c1) (.slice none 0 0)) 57 by have := HY1.out.set 66 (.slice A1 (iotaI (k + 1)).length c1); rwa [bkL_set_66 _ _ _ _ _ rfl] at this)
        go_roundw
        case rel => exact ⟨k + 1, by omega, by go_num, _, HY2, ⟨R_box_grown HR1.out HY1.out (by decide) (setCell_grown _ _ _ _)⟩, ⟨HX1.out.far (p := ⟨g6, 66, none⟩) HNE.out _⟩, ⟨Below.setCell HB1.out (p := ⟨g6, 66, none⟩) HG6.out _⟩⟩
        case measure => simp [intOf]; omega
      · obtain rfl : k = 64 := by omega
        rw [show ((64 : Nat) : Int) = (64 : Int) from rfl]
        have hkb : decide ((64 : Int) < 64) = false := by decide
        obtain ⟨Af, cf, rfl⟩ := Kd.R_slice HR.out
        go_wp2_with (first
          | (refine step_load rfl 57 (.tmp 6) rfl g6 rfl _ _ _ HY.out Try.underlying57 rfl 68 (by kernel_rfl) rfl ?_)
          | (refine step_store rfl 57 (.tmp 4) (.tmp 27) rfl g4 (bkL (firstI a) s (List.replicate 64 0) (.slice Af (iotaI 64).length cf) (.slice none 0 0)) rfl rfl 57 _ HX.out 68 (by kernel_rfl) rfl rfl (bkL_one _ _ _ _ _ rfl rfl) ?_; intro W6 HB6 hg6))
        exact bodyPost_ret (results_ct rfl _ _ g4 57 _ (0, 0) _ rfl HB6 Try.underlying57 rfl (by simp only [List.size_toArray]; exact size57 _ rfl)) rfl ⟨_, rfl, ⟨rfl, _, _, rfl, R_box_grown HR.out HX.out (by decide) hg6, Kd.R_nil _ _ _ _ _⟩, HB.out.grown hg6 HB.out.size (by intro k hk; cases hk; exact HG4.out)⟩
end Go.Proofs.Ytemhalnhbgkbcaa.V
end

-- BFitsP
section
/- How long a block's bytes are; the example of chapter 16. -/
namespace Go.Proofs.Ytemhalnhbgkbcaa.V
open Go.RowKit Go.Proofs.YtemhalnhbgkbcaaW.PrintWords Go.Proofs.YtemhalnhbgkbcaaW.PrintLast Go.Proofs.YtemhalnhbgkbcaaW.PrintMore
set_option linter.unusedVariables false
set_option linter.unusedSimpArgs false

theorem nodup_le (xs ys : List Int) (h : xs.Nodup) (hs : ∀ x ∈ xs, x ∈ ys) : xs.length ≤ ys.length := h.length_le_of_subset hs
theorem listN_nodup (s n : Nat) : (listN s n).Nodup := by
  unfold listN List.Nodup
  rw [List.pairwise_map]
  exact (List.Pairwise.filter _ List.nodup_range).imp (fun {a b} h e => h (by omega))
theorem used_le (l : List Int) : (listOf (usedN l)).length ≤ (l.filter (fun x => decide (1 ≤ x))).length := by
  have h : (listOf (usedN l)).length ≤ ((l.filter (fun x => decide (1 ≤ x))).map (fun s => s - 1)).length := by
    refine nodup_le _ _ (listN_nodup _ 64) (fun x hx => ?_)
    obtain ⟨i, rfl, hi, ht⟩ := mem_listN_nat _ _ x hx
    unfold usedN at ht
    rw [ofN_testBit _ i hi, decide_eq_true_eq, List.mem_map] at ht
    obtain ⟨s, hs, he⟩ := ht
    exact List.mem_map.2 ⟨s, List.mem_filter.2 ⟨hs, by simp; omega⟩, he⟩
  simpa using h
theorem zero_one (l : List Int) (h : U8s l) : (l.filter (fun x => decide (1 ≤ x))).length + l.countP (fun x => x == 0) = l.length := by
  induction l with
  | nil => rfl
  | cons x l ih =>
    have h1 := ih (fun y hy => h y (by simp [hy]))
    have h2 := h x (by simp)
    by_cases hx : x = 0
    · subst hx
      simp only [List.filter_cons, List.countP_cons, List.length_cons]
      simp
      omega
    · have h3 : 1 ≤ x := by omega
      simp only [List.filter_cons, List.countP_cons, List.length_cons]
      simp [hx, h3]
      omega
theorem RightP.sum_le {b : Bk} (h : RightP b) (hk : BkOk b) (hl : b.slots.length = 64) : b.attrs.length + b.free.length ≤ 64 := by
  have h1 := used_le b.slots
  have h2 := zero_one b.slots hk.s8
  rw [h.used] at h1
  rw [h.zc, hl] at h2
  omega
theorem imgPre_ge {b : Bk} (h : RightP b) : ∀ k, k ≤ b.attrs.length → 7 + 4 * k ≤ (imgPre b k).length ∧ (imgPre b k).length ≤ 7 + b.aff.size + 130 * k := by
  intro k
  induction k with
  | zero =>
    intro _
    rw [imgPre_zero_len]
    omega
  | succ k ih =>
    intro hk
    obtain ⟨h1, h2⟩ := ih (by omega)
    have hm := h.may k (by omega)
    unfold mayAt at hm
    rw [Bool.and_eq_true] at hm
    have s1 := rightName_size hm.1
    have s2 := rightName_size hm.2
    rw [imgPre_succ_len _ _ (by omega)]
    omega
theorem img_fits {b : Bk} (h : RightP b) (hk : BkOk b) (hl : b.slots.length = 64) : 76 ≤ (imgOf b).length ∧ (imgOf b).length ≤ 8456 := by
  obtain ⟨h1, h2⟩ := imgPre_ge h b.attrs.length (Nat.le_refl _)
  have h3 := h.sum_le hk hl
  have h4 := owner_size h.owner
  rw [imgOf_len b hl]
  refine ⟨?_, by omega⟩
  rcases Nat.eq_zero_or_pos b.attrs.length with h0 | h0
  · have : b.free.length = 64 := by
      rw [← h.zc, ← hl]
      rw [List.countP_eq_length]
      intro s hs
      have := h.sa s hs
      have := (hk.s8 s hs).1
      simp
      omega
    omega
  · omega
theorem strOfNums_size (l : List Int) : (strOfNums l).size = l.length := by
  simp [strOfNums, ByteArray.size]
/-! ### The example -/
def nb0 : Bk := newBk 0 ⟨#[]⟩
theorem nb0_right : rightB nb0 = true := by kernel_rfl
theorem nb0_len : (imgOf nb0).length = 136 := by kernel_rfl
theorem nb0_ok : BkOk nb0 := ⟨by decide, by decide, by intro x hx; simp [nb0, newBk] at hx; omega, by intro x hx; simp only [nb0, newBk, iotaI, List.mem_map, List.mem_range] at hx; obtain ⟨i, hi, rfl⟩ := hx; omega⟩
end Go.Proofs.Ytemhalnhbgkbcaa.V
end

-- VFVirgatelaw15Attr
section
-- PRINTED by print.py (a twelfth state) out of the translation. Not trusted: Lean checks it.
namespace Go.Proofs.Ytemhalnhbgkbcaa.V
open Go.RowKit Go.Proofs.YtemhalnhbgkbcaaW.PrintWords Go.Proofs.YtemhalnhbgkbcaaW.PrintLast Go.Proofs.YtemhalnhbgkbcaaW.PrintMore
attribute [local go_sem] max2_int min2_int max_two min_two max_three min_three max_four min_four   -- for this text's walks alone
set_option linter.unusedVariables false
set_option linter.unusedSimpArgs false

/-! ### virgatelaw15_Attr: function 50 -/
def virgatelaw15_Attr.f (a0_0 : ByteArray) (a0_1 : ByteArray) : Option (ByteArray × ByteArray) := some (a0_0, a0_1)
set_option maxHeartbeats 8000000 in
set_option maxRecDepth 100000 in
theorem virgatelaw15_Attr.calls (a0_0 : ByteArray) (a0_1 : ByteArray) (r1 : ByteArray) (r2 : ByteArray) (w : World) (h : virgatelaw15_Attr.f a0_0 a0_1 = some (r1, r2)) :
    Calls Try.prog 50 #[.agg #[.string a0_0, .string a0_1]] w fun e w' => e = .returned (.agg #[.string r1, .string r2]) ∧ Below w.heap.size w w' := by
  have hu76 := Try.underlying76
  have hu85 := Try.underlying85
  have HB := Aside0.mk (Below.refl w.heap.size w)
  have H : (some (a0_0, a0_1)) = some (r1, r2) := h
  clear h
  simp only [Option.some.injEq, Prod.mk.injEq] at H
  obtain ⟨rfl, rfl⟩ := H
  go_enter Try.func50, Try.ntmps50
  go_wp2_with (first | ((with_reducible refine gate_dst (N := 1) rfl ?_); refine box_event ?hg (N := 1) ?hd (cs := #[.string a0_0, .string a0_1]) (t := 76) ?hr ?_; (case hd => rfl); (case hg => rfl); (case hr => first | (go_simp; done) | (go_simp; rfl)); intro gb50101 hg w2 hbox hb; have n0_ := Aside0.mk (below_step (by repeat (first | (with_reducible first | exact HB.out | apply below_alloc | apply pw_below_drewN | apply below_drew1) | exact HB.out)) hb); have n1_ := Aside0.mk (hbox); have n2_ := Aside0.mk ((by rw [hg]; exact (below_size (by repeat (first | (with_reducible first | exact HB.out | apply below_alloc | apply pw_below_drewN | apply below_drew1) | exact HB.out))) : w.heap.size ≤ gb50101)); have n3_ := Aside0.mk ((by rw [hg]; exact (below_size (by repeat (first | (with_reducible first | exact HB.out | apply below_alloc | apply pw_below_drewN | apply below_drew1) | exact HB.out))) : w.heap.size ≤ gb50101)); clear HB; have HB := n0_; have BK50101 := n1_; have GW50101 := n2_; have GE50101 := n3_; clear n0_ n1_ n2_ n3_; clear hb hbox hg) | ((with_reducible refine gate_dst (N := 2) rfl ?_); refine box_event ?hg (N := 2) ?hd (cs := #[.string (⟨#[]⟩ : ByteArray), .string (⟨#[]⟩ : ByteArray)]) (t := 85) ?hr ?_; (case hd => rfl); (case hg => rfl); (case hr => first | (go_simp; done) | (go_simp; rfl)); intro gb50102 hg w3 hbox hb; have n0_ := Aside0.mk (blk_below (g := gb50101) (o := .cells #[.string a0_0, .string a0_1] 76 (0, 0)) (by (with_reducible repeat (first | refine blk_drewN ?_ _ | refine blk_drew ?_ | refine blk_alloc ?_ _)); exact BK50101.out) hb); have n1_ := Aside0.mk (below_step (by repeat (first | (with_reducible first | exact HB.out | apply below_alloc | apply pw_below_drewN | apply below_drew1 | refine below_set ?_ GE50101.out) | exact HB.out)) hb); have n2_ := Aside0.mk (hbox); have n3_ := Aside0.mk ((by rw [hg]; exact (below_size (by repeat (first | (with_reducible first | exact HB.out | apply below_alloc | apply pw_below_drewN | apply below_drew1 | refine below_set ?_ GE50101.out) | exact HB.out))) : w.heap.size ≤ gb50102)); have n4_ := Aside0.mk ((by rw [hg]; exact (below_size (by repeat (first | (with_reducible first | exact HB.out | apply below_alloc | apply pw_below_drewN | apply below_drew1 | refine below_set ?_ GE50101.out) | exact HB.out))) : w.heap.size ≤ gb50102)); have n5_ := Aside0.mk ((by rw [hg]; exact Nat.ne_of_lt (blk_lt (g := gb50101) (o := .cells #[.string a0_0, .string a0_1] 76 (0, 0)) (by (with_reducible repeat (first | refine blk_drewN ?_ _ | refine blk_drew ?_ | refine blk_alloc ?_ _)); exact BK50101.out)) : gb50101 ≠ gb50102)); have n6_ := Aside0.mk ((by rw [hg]; exact Nat.ne_of_gt (blk_lt (g := gb50101) (o := .cells #[.string a0_0, .string a0_1] 76 (0, 0)) (by (with_reducible repeat (first | refine blk_drewN ?_ _ | refine blk_drew ?_ | refine blk_alloc ?_ _)); exact BK50101.out)) : gb50102 ≠ gb50101)); clear BK50101; clear HB; have BK50101 := n0_; have HB := n1_; have BK50102 := n2_; have GW50102 := n3_; have GE50102 := n4_; have NB50101_50102 := n5_; have NB50102_50101 := n6_; clear n0_ n1_ n2_ n3_ n4_ n5_ n6_; clear hb hbox hg; have hnb4 := NB50101_50102.out; have hnc4 := NB50102_50101.out; have hcz5_0 : w3.cell? ⟨gb50101, 0, none⟩ = some (.string a0_0) := (blk_cell BK50101.out 0).trans rfl; have hcz5_1 : w3.cell? ⟨gb50101, 1, none⟩ = some (.string a0_1) := (blk_cell BK50101.out 1).trans rfl; have hfz5_0 := blk_frozen BK50101.out 0; have hfz5_1 := blk_frozen BK50101.out 1; have hcz6_0 : w3.cell? ⟨gb50102, 0, none⟩ = some (.string (⟨#[]⟩ : ByteArray)) := (blk_cell BK50102.out 0).trans rfl; have hcz6_1 : w3.cell? ⟨gb50102, 1, none⟩ = some (.string (⟨#[]⟩ : ByteArray)) := (blk_cell BK50102.out 1).trans rfl; have hfz6_0 := blk_frozen BK50102.out 0; have hfz6_1 := blk_frozen BK50102.out 1))
  refine bodyPost_ret (results_cell_row rfl _ _ gb50102 85 #[.string a0_0, .string a0_1] (0, 0) _ rfl (by (with_reducible repeat (first | refine blk_drewN ?_ _ | refine blk_drew ?_ | refine blk_alloc ?_ _)); refine blk_put (cs := #[.string a0_0, .string (⟨#[]⟩ : ByteArray)]) ?_ 1 _ rfl; (with_reducible repeat (first | refine blk_drewN ?_ _ | refine blk_drew ?_ | refine blk_alloc ?_ _)); refine blk_put (cs := #[.string (⟨#[]⟩ : ByteArray), .string (⟨#[]⟩ : ByteArray)]) ?_ 0 _ rfl; (with_reducible repeat (first | refine blk_drewN ?_ _ | refine blk_drew ?_ | refine blk_alloc ?_ _)); exact BK50102.out) Try.underlying85 rfl (by kernel_rfl)) rfl ?_
  exact ⟨by first | rfl | (simp [errW_none, errW_some] <;> rfl) | (simp [*, errW_none, errW_some] <;> rfl), by repeat (first | (with_reducible first | exact HB.out | apply below_alloc | apply pw_below_drewN | apply below_drew1 | refine below_set ?_ GE50101.out | refine below_set ?_ GE50102.out) | exact HB.out)⟩
end Go.Proofs.Ytemhalnhbgkbcaa.V
end

-- BOurs
section
/- virgatelaw15.Ours: a raw block as the program's. -/
namespace Go.Proofs.Ytemhalnhbgkbcaa.V
open Go.RowKit Go.Proofs.YtemhalnhbgkbcaaW.PrintWords Go.Proofs.YtemhalnhbgkbcaaW.PrintLast Go.Proofs.YtemhalnhbgkbcaaW.PrintMore
set_option linter.unusedVariables false
set_option linter.unusedSimpArgs false

/-- A raw block. -/
structure Rw where
  addr : Int
  aff : ByteArray
  slots : List Int
  free : List Int
  attrs : List S76
structure RwR (W : World) (b : Rw) (A : Option Addr) (c : Nat) (A' : Option Addr) (c' : Nat) : Prop where
  l64 : b.slots.length = 64
  fr : Kd.C (Kd.int .u8) W A b.free.length b.free
  fc : b.free.length ≤ c
  ar : Kd.C k76 W A' b.attrs.length b.attrs
  ac : b.attrs.length ≤ c'
theorem RwR.below {W W1 : World} {b : Rw} {A A' : Option Addr} {c c' : Nat} (h : RwR W b A c A' c') (hb : Below W.heap.size W W1) : RwR W1 b A c A' c' := ⟨h.l64, Kd.C_below h.fr hb, h.fc, Kd.C_below h.ar hb, h.ac⟩
def RwV (W : World) (v : Value) (b : Rw) : Prop := ∃ A c A' c', v = .agg (bkL b.addr b.aff b.slots (.slice A b.free.length c) (.slice A' b.attrs.length c')).toArray ∧ RwR W b A c A' c'
theorem RwV.below {W W1 : World} {v : Value} {b : Rw} (h : RwV W v b) (hb : Below W.heap.size W W1) : RwV W1 v b := by
  obtain ⟨A, c, A', c', e, hr⟩ := h
  exact ⟨A, c, A', c', e, hr.below hb⟩
def cv (a : S76) : At := ⟨a.f0, a.f1⟩
def ours (r : Rw) : Bk := ⟨r.addr, r.aff, r.slots, r.free.take 70, (r.attrs.take 70).map cv⟩
theorem cv_any (a : S76) (w : World) : Calls Try.prog 50 #[.agg #[.string a.f0, .string a.f1]] w fun e w' => e = .returned (atV (cv a)) ∧ Below w.heap.size w w' :=
  virgatelaw15_Attr.calls a.f0 a.f1 a.f0 a.f1 w rfl
/-- A struct put together, its parts told. -/
theorem step_buildV {P : Program} {ops : Array Oper} {rest : List Oper} {o : Oper} {a : Act} {w : World} {Q : Exit → Act → World → Prop} (hgd : o.guard = none) (t : TypeId) (parts : Array (Nat × Operand)) (ho : o.op = .build t parts) (vals : List (Nat × Value)) (hv : (parts.map fun (i, x) => (i, a.eval x)).toList = vals) (cs : List Value)
    (hf : P.built t vals = some cs.toArray) (h : wpList P ops Q rest (a.put o.dst (.agg cs.toArray)) w) : wpList P ops Q (o :: rest) a w := step_build hgd t parts ho cs (by rw [hv]; exact hf) h
theorem built3' (x : Int) (s : ByteArray) (f : Nat → Int) : Try.prog.built 57 [(0, .int .u32 x), (1, .string s), (2, .agg (((List.range 64).map f).map (Value.int .u8)).toArray)] = some (bkL x s ((List.range 64).map f) (.slice none 0 0) (.slice none 0 0)).toArray := by kernel_rfl
theorem built3 (x : Int) (s : ByteArray) (l : List Int) (hl : l.length = 64) : Try.prog.built 57 [(0, .int .u32 x), (1, .string s), (2, .agg (l.map (Value.int .u8)).toArray)] = some (bkL x s l (.slice none 0 0) (.slice none 0 0)).toArray := by
  have e : l = (List.range 64).map (fun i => l.getD i 0) := by
    apply List.ext_getElem?
    intro i
    rcases Nat.lt_or_ge i 64 with h | h
    · simp [List.getElem?_eq_getElem (show i < l.length by omega), h, List.getD]
    · rw [List.getElem?_eq_none (by omega), List.getElem?_eq_none (by simp; omega)]
  rw [e]
  exact built3' x s _
theorem take_70 {α : Type} (l : List α) (k : Nat) (h : k < l.length) (h7 : k < 70) : (l.take (k + 1)).take 70 = (l.take k).take 70 ++ [l[k]] := by
  rw [List.take_take, List.take_take, show min 70 (k + 1) = k + 1 by omega, show min 70 k = k by omega, List.take_add_one, List.getElem?_eq_getElem h]
  rfl
theorem take_71 {α : Type} (l : List α) (k : Nat) (h7 : 70 ≤ k) : (l.take (k + 1)).take 70 = (l.take k).take 70 := by
  rw [List.take_take, List.take_take, show min 70 (k + 1) = 70 by omega, show min 70 k = 70 by omega]
def ours12.T12 : Bool × List (List Nat × List Nat) := (true, [([], []), ([0], [0]), ([], []), ([2], [2]), ([3], [3]), ([1, 4, 3], [1, 4]), ([0, 1, 2, 3, 4, 5], []), ([6, 5, 5, 0, 1, 2, 3, 4, 5], [5, 6])])
def ours12.B12 : List Nat := [0, 1, 0, 4, 12, 31, 63, 127]
theorem ours12.tab12 : rtab .any (opsOf Try.f33 12) = ours12.T12 := by kernel_rfl
theorem ours12.bits12 : waitsOk ours12.T12.2 ours12.B12 = true := by kernel_rfl
set_option maxHeartbeats 8000000 in
set_option maxRecDepth 100000 in
theorem ours_any (r : Rw) (hs : U8s r.slots) (v : Value) (w : World) (h : RwV w v r) :
    Calls Try.prog 33 #[v] w fun e w' => ∃ v', e = .returned v' ∧ BkO w' w.heap.size v' (ours r) ∧ Below w.heap.size w w' := by
  obtain ⟨A, c, A', c', rfl, hr⟩ := h
  have HL := Aside0.mk hr.l64
  have HR := Aside0.mk hr
  have HS := Aside0.mk hs
  have hnf : r.free.length ≤ 9223372036854775807 := hr.fr.2.1
  have hna : r.attrs.length ≤ 9223372036854775807 := hr.ar.2.1
  have HLN := Aside0.mk (show (Try.prog.info? 47).map (·.size) = some (r.slots.map (Value.int .u8)).length by rw [List.length_map, hr.l64]; kernel_rfl)
  have HBT := Aside0.mk (built3 r.addr r.aff r.slots hr.l64)
  clear hr hs
  go_enter Try.func33, Try.ntmps33
  go_wp2_with (first
    | (refine step_box rfl 51 (.tmp 0) rfl _ rfl ?_; intro g W1 hg hbx hb1; have HX1 := Aside0.mk hbx; have HB1 := Aside0.mk hb1; clear hbx hb1 hg)
    | (refine step_allocN (some 2) rfl rfl 57 rfl zeroL zero57 ?_; intro g2 W2 hg2 hbx2 hb2; have HX2 := Aside0.mk (HX1.out.below hb2); have HY2 := Aside0.mk hbx2; have HB2 := Aside0.mk (HB1.out.trans (hb2.mono HB1.out.size)); have HG2 := Aside0.mk (show w.heap.size ≤ g2 by have := HB1.out.size; omega); have HN12 := Aside0.mk (show g ≠ g2 by have := HX1.out.lt; omega); have h0 := HX2.out.cell 0 _ rfl; have h1 := HX2.out.cell 1 _ rfl; clear hbx2 hb2 hg2 HX1 HB1)
    | (refine step_loadPart rfl 47 (.tmp 12) rfl g 2 rfl 51 _ (r.slots.map (Value.int .u8)) (.array 64 5) HX2.out (bkL_part _ _ _ _ _ HL.out) Try.underlying47 rfl HLN.out ?_; simp only [Act.put, List.setIfInBounds_toArray, List.set_cons_zero, List.set_cons_succ])
    | ((with_reducible refine gate_dst (N := 14) rfl ?_); refine step_buildV rfl 57 #[(0, .tmp 9), (1, .tmp 11), (2, .tmp 13)] rfl [(0, .int .u32 r.addr), (1, .string r.aff), (2, .agg (r.slots.map (Value.int .u8)).toArray)] (by simp only [List.map_toArray, List.map_cons, List.map_nil]; rfl) (bkL r.addr r.aff r.slots (.slice none 0 0) (.slice none 0 0)) HBT.out ?_)
    | (refine step_allocN (some 3) rfl rfl 57 rfl zeroL zero57 ?_; intro g3 W3 hg3 hbx3 hb3; have HX3 := Aside0.mk (HX2.out.below hb3); have HY3 := Aside0.mk (HY2.out.below hb3); have HZ3 := Aside0.mk hbx3; have HB3 := Aside0.mk (HB2.out.trans (hb3.mono HB2.out.size)); have HG3 := Aside0.mk (show w.heap.size ≤ g3 by have := HB2.out.size; omega); have HN13 := Aside0.mk (show g ≠ g3 by have := HX2.out.lt; omega); have HN23 := Aside0.mk (show g2 ≠ g3 by have := HY2.out.lt; omega); clear hbx3 hb3 hg3 HX2 HY2 HB2 h0 h1)
    | (refine step_store rfl 57 (.tmp 3) (.tmp 14) rfl g3 (bkL r.addr r.aff r.slots (.slice none 0 0) (.slice none 0 0)) rfl rfl 57 _ HZ3.out 68 (by kernel_rfl) (bkL_length _ _ _ _ _ HL.out) rfl (bkL_one _ _ _ _ _ rfl rfl) ?_; intro W4 hz4 hg4; have HZ4 := Aside0.mk hz4; have HX4 := Aside0.mk (HX3.out.grown hg4 (fun e => HN13.out (Option.some.inj e))); have HY4 := Aside0.mk (HY3.out.grown hg4 (fun e => HN23.out (Option.some.inj e))); have HB4 := Aside0.mk (HB3.out.grown hg4 HB3.out.size (by intro k hk; cases hk; exact HG3.out)); have h66 := HX4.out.cell 66 _ (bkL_66 _ _ _ _ _ HL.out); clear hz4 hg4 HX3 HY3 HZ3 HB3))
  clear h66
  go_loopw [4, 5, 18] (fun _ _ i W => ∃ k : Nat, k ≤ r.free.length ∧ i = .int .i64 k ∧ ∃ vf, Aside0 (Box W g3 (bkL r.addr r.aff r.slots vf (.slice none 0 0)) 57) ∧ Aside0 (Kd.R (Kd.int .u8) 5 W w.heap.size (fun _ => True) vf ((r.free.take k).take 70)) ∧ Aside0 (Box W g2 zeroL 57) ∧ Aside0 (Box W g (bkL r.addr r.aff r.slots (.slice A r.free.length c) (.slice A' r.attrs.length c')) 51) ∧ Aside0 (Below w.heap.size w W)) (fun _ _ i _ => r.free.length - (intOf i).toNat)
  case atStart => exact ⟨0, by omega, rfl, _, HZ4, ⟨Kd.R_nil _ _ _ _ _⟩, HY4, HX4, HB4⟩
  case round =>
    clear HZ4 HY4 HX4 HB4
    obtain ⟨k, hk, rfl, vf, HZ, HF, HY, HX, HB⟩ := hrel
    obtain ⟨W, rfl⟩ : ∃ W : World, W = wr := ⟨_, rfl⟩
    by_cases hkn : k < r.free.length
    · have hkb : decide ((k : Int) < (r.free.length : Int)) = true := by simp; omega
      obtain ⟨ad, eA, hx⟩ := Kd.at_int (HR.out.below HB.out).fr k (by omega) (by omega)
      cases eA
      rw [Int.toNat_natCast] at hx
      have p1 : ((k : Int) < (r.free.length : Int)) = True := eq_true (by omega)
      obtain ⟨x, hx0⟩ : ∃ x : Int, rd r.free k = x := ⟨_, rfl⟩
      rw [hx0] at hx
      have h66 := HZ.out.cell 66 _ (bkL_66 _ _ _ _ _ HL.out)
      by_cases h7 : k < 70
      · have h7b : decide ((k : Int) < 70) = true := by simp; omega
        obtain ⟨L, hL⟩ : ∃ L : List Int, L = (r.free.take (k + 1)).take 70 := ⟨_, rfl⟩
        have HLq := Aside0.mk hL
        have HT := Aside0.mk (show L = (r.free.take k).take 70 ++ [x] by rw [hL, take_70 _ _ hkn h7, ← hx0]; simp [rd, List.getD, hkn])
        clear hL
        have hlen : ((r.free.take k).take 70).length ≤ 70 := by simp; omega
        clear hx0
        go_wp2_with (first | ((with_reducible refine gate_builtin (b := .append) (xs := #[.tmp 26, .tmp 28]) rfl ?_); at_builtin; refine Kd.R_append (Kd.int .u8) (w0 := w) w.heap.size rfl (.tmp 26) (.tmp 28) 48 5 (.int .u8 0) 1 rfl Try.underlying48 info_u8 rfl (by decide) (by omega) vf ((r.free.take k).take 70) x [.int .u8 x] (fun _ => True) (fun _ => False) rfl rfl rfl (fun _ hk => hk.elim) (fun _ _ => trivial) HF.out HB.out HB.out.size (by omega) ?_; intro v1 w1 ho1 hb1 hg1 hat1; have HZ1 := Aside0.mk (HZ.out.grown hg1 (HZ.out.ne_row HF.out (by decide))); have HX1 := Aside0.mk (HX.out.grown hg1 (HX.out.ne_row HF.out (by decide))); have HY1 := Aside0.mk (HY.out.grown hg1 (HY.out.ne_row HF.out (by decide))); rw [← HT.out] at ho1; have HF1 := Aside0.mk ho1; have HB1 := Aside0.mk hb1; obtain ⟨A1, c1, rfl⟩ := Kd.R_slice ho1; have hc1 := HZ1.out.cell 66 _ (bkL_66 _ _ _ _ _ HL.out); have hf1 := HZ1.out.frozen 66; clear ho1 hb1 hg1 hat1 h66 HZ HX HY HF HB hx))
        have HZ2 := Aside0.mk (show Box (w1.setCell ⟨g3, 66, none⟩ (.slice A1 L.length c1)) g3 (bkL r.addr r.aff r.slots (.slice A1 L.length c1) (.slice none 0 0)) 57 by have := HZ1.out.set 66 (.slice A1 L.length c1); rwa [bkL_set_66 _ _ _ _ _ HL.out] at this)
        go_roundw
        case rel => exact ⟨k + 1, by omega, by go_num, _, HZ2, ⟨by rw [← HLq.out]; exact R_box_grown HF1.out HZ1.out (by decide) (setCell_grown _ _ _ _)⟩, ⟨HY1.out.far (p := ⟨g3, 66, none⟩) HN23.out _⟩, ⟨HX1.out.far (p := ⟨g3, 66, none⟩) HN13.out _⟩, ⟨Below.setCell HB1.out (p := ⟨g3, 66, none⟩) HG3.out _⟩⟩
        case measure => simp [intOf]; omega
      · have h7b : decide ((k : Int) < 70) = false := by simp; omega
        have HT := Aside0.mk (take_71 r.free k (by omega))
        clear hx0
        go_wp2
        go_roundw
        case rel => exact ⟨k + 1, by omega, by go_num, _, HZ, ⟨by rw [HT.out]; exact HF.out⟩, HY, HX, HB⟩
        case measure => simp [intOf]; omega
    · obtain rfl : k = r.free.length := by omega
      have hkb : decide ((r.free.length : Int) < (r.free.length : Int)) = false := by simp
      have HT := Aside0.mk (show (r.free.take r.free.length).take 70 = r.free.take 70 by rw [List.take_of_length_le (Nat.le_refl r.free.length)])
      rw [HT.out] at HF
      obtain ⟨LF, hLF⟩ : ∃ LF : List Int, LF = r.free.take 70 := ⟨_, rfl⟩
      have HLF := Aside0.mk hLF
      rw [← hLF] at HF
      clear hLF
      obtain ⟨Af, cf, rfl⟩ := Kd.R_slice HF.out
      have h67 := HX.out.cell 67 _ (bkL_67 _ _ _ _ _ HL.out)
      have HRW := Aside0.mk (HR.out.below HB.out)
      have HBW := HB
      have HFW := HF
      go_wp2_with fail
      clear h67
      go_loopw [6, 7, 35] (fun _ _ i V => ∃ k : Nat, k ≤ r.attrs.length ∧ i = .int .i64 k ∧ ∃ va, Aside0 (Box V g3 (bkL r.addr r.aff r.slots (.slice Af LF.length cf) va) 57) ∧ Aside0 (Kd.R (Kd.int .u8) 5 V w.heap.size (fun _ => True) (.slice Af LF.length cf) LF) ∧ Aside0 (Kd.R k85 85 V w.heap.size (fun _ => True) va (((r.attrs.take k).take 70).map cv)) ∧ Aside0 (Box V g2 zeroL 57) ∧ Aside0 (Below w.heap.size w V)) (fun _ _ i _ => r.attrs.length - (intOf i).toNat)
      case atStart => exact ⟨0, by omega, rfl, _, HZ, HF, ⟨Kd.R_nil _ _ _ _ _⟩, HY, HB⟩
      case round =>
        clear HZ HF HY HX HB HFW HBW HRW
        obtain ⟨k, hk, rfl, va, HZ, HF, HA, HY, HB⟩ := hrel
        obtain ⟨V, rfl⟩ : ∃ V : World, V = wr := ⟨_, rfl⟩
        by_cases hkn : k < r.attrs.length
        · have hkb : decide ((k : Int) < (r.attrs.length : Int)) = true := by simp; omega
          obtain ⟨ad, eA, hx0, hx1⟩ := at_T76 (HR.out.below HB.out).ar k (by omega) (by omega)
          cases eA
          rw [Int.toNat_natCast] at hx0 hx1
          have p1 : ((k : Int) < (r.attrs.length : Int)) = True := eq_true (by omega)
          obtain ⟨a, ha⟩ : ∃ a, rd_T76 r.attrs (k : Int) = a := ⟨_, rfl⟩
          rw [ha] at hx0 hx1
          have ha2 : r.attrs[k] = a := by rw [← ha]; simp [rd_T76, List.getD, hkn]
          by_cases h7 : k < 70
          · have h7b : decide ((k : Int) < 70) = true := by simp; omega
            obtain ⟨L, hL⟩ : ∃ L : List At, L = ((r.attrs.take (k + 1)).take 70).map cv := ⟨_, rfl⟩
            obtain ⟨M, hM⟩ : ∃ M : List At, M = ((r.attrs.take k).take 70).map cv := ⟨_, rfl⟩
            have HLq := Aside0.mk hL
            have HT := Aside0.mk (show L = M ++ [cv a] by rw [hL, hM, take_70 _ _ hkn h7, ha2]; simp)
            have hml : M.length ≤ 70 := by rw [hM]; simp; omega
            rw [← hM] at HA
            clear hL hM ha ha2
            obtain ⟨Am, cm, rfl⟩ := Kd.R_slice HA.out
            go_wp2_with (first
              | (refine step_allocN (some 7) rfl rfl 76 rfl [.string ⟨#[]⟩, .string ⟨#[]⟩] (fun _ => by kernel_rfl) ?_; intro ga W3 hga HB3 hbw3)
              | (refine step_store rfl 76 (.tmp 7) (.tmp 39) rfl ga [.string a.f0, .string a.f1] rfl rfl 76 _ HB3 2 (by kernel_rfl) rfl rfl (by intro u hu; simp at hu; rcases hu with rfl | rfl <;> rfl) ?_; intro W4 HB4 hgw4))
            have HA4 := Aside0.mk (show Box W4.drew ga [.string a.f0, .string a.f1] 76 from HB4)
            have hbW : Below V.heap.size V W4.drew := below_drew (hbw3.grown hgw4 hbw3.size (fun q hq => by cases hq; exact hga))
            have HB5 := Aside0.mk (below_step HB.out hbW)
            have HZ5 := Aside0.mk (HZ.out.below hbW)
            have HF5 := Aside0.mk (Kd.R_below HF.out hbW)
            have HM5 := Aside0.mk (Kd.R_below HA.out hbW)
            have HY5 := Aside0.mk (HY.out.below hbW)
            clear HB3 HB4 hga hbw3 hgw4 hbW hx0 hx1 HA HZ HF HY HB
            refine start_ (n := 8) (S := fun w' => w'.cell? ⟨ga, 0, none⟩ = some (.string a.f0) ∧ w'.cell? ⟨ga, 1, none⟩ = some (.string a.f1) ∧ w'.cell? ⟨g3, 67, none⟩ = some (.slice Am M.length cm)) (ds := [7]) #[false, false, false, false, false, false, false, false] (by kernel_rfl) rfl rfl ⟨HA4.out.cell 0 _ rfl, HA4.out.cell 1 _ rfl, HZ5.out.cell 67 _ (bkL_67 _ _ _ _ _ HL.out)⟩ (fun hHeld => ?_); refine with_tabW ours12.tab12 ours12.bits12 (fun HT_ HW_ => ?_)
            refine pure_ (i := 0) (N := some 42) (v := ?_) (a' := ?_) #[true, false, false, false, false, false, false, false] rfl rfl (any_of HT_.out (by kernel_rfl)) (fun _ _ _ h => h) (Or.inl ⟨by rfl, ?_⟩) ?_ ?_
            rotate_left
            · intro w'
              go_simp
              with_reducible rfl
            rotate_left
            · simp only [Act.put, List.setIfInBounds_toArray, List.set_cons_zero, List.set_cons_succ, i64_w, i32_w]
              rfl
            refine take_ (i := 1) (N := some 43) (v := ?_) (a' := ?_) #[true, true, false, false, false, false, false, false] rfl rfl (take_ofW HT_.out HW_.out (by kernel_rfl)) (fun _ _ _ h => h) (Or.inl ⟨by rfl, ?_⟩) hHeld ?_ ?_
            rotate_left
            · intro w' hS_
              obtain ⟨s0, s1, s2⟩ := hS_
              go_simp
              with_reducible rfl
            rotate_left
            · simp only [Act.put, List.setIfInBounds_toArray, List.set_cons_zero, List.set_cons_succ, i64_w, i32_w]
              rfl
            refine take_ (i := 2) (N := some 44) (v := ?_) (a' := ?_) #[true, true, true, false, false, false, false, false] rfl rfl (take_ofW HT_.out HW_.out (by kernel_rfl)) (fun _ _ _ h => h) (Or.inl ⟨by rfl, ?_⟩) hHeld ?_ ?_
            rotate_left
            · intro w' hS_
              obtain ⟨s0, s1, s2⟩ := hS_
              go_simp
              with_reducible rfl
            rotate_left
            · simp only [Act.put, List.setIfInBounds_toArray, List.set_cons_zero, List.set_cons_succ, i64_w, i32_w]
              rfl
            refine one_ (i := 3) (N := some 45) #[true, true, true, true, false, false, false, false] rfl rfl (one_of HT_.out (by kernel_rfl)) (by decide) (fun K hK => ?_)
            refine goes_ Try.func50 (by kernel_rfl) rfl #[.agg #[.string a.f0, .string a.f1]] (by rfl) rfl rfl (by (try simp only [List.map_toArray, List.map_cons, List.map_nil]); first | done | rfl) ?_
            refine (cv_any a _).mono ?_
            rintro e V3 ⟨rfl, hb3⟩
            refine ⟨_, rfl, ?_⟩
            have HA6 := Aside0.mk (HA4.out.below hb3); have HZ6 := Aside0.mk (HZ5.out.below hb3); have HF6 := Aside0.mk (Kd.R_below HF5.out hb3); have HM6 := Aside0.mk (Kd.R_below HM5.out hb3); have HY6 := Aside0.mk (HY5.out.below hb3); have HB6 := Aside0.mk (below_step HB5.out hb3); clear hb3
            refine hK.out _ _ ⟨HA6.out.cell 0 _ rfl, HA6.out.cell 1 _ rfl, HZ6.out.cell 67 _ (bkL_67 _ _ _ _ _ HL.out)⟩ (fun hHeld => ?_)
            clear hK K
            refine norm_ (a' := ?_) ?_ ?_
            rotate_left
            · show Act.put _ (some 45) _ = _
              simp only [Act.put, List.setIfInBounds_toArray, List.set_cons_zero, List.set_cons_succ, i64_w, i32_w]
              rfl
            refine one_ (i := 4) (N := some 46) #[true, true, true, true, true, false, false, false] rfl rfl (one_of HT_.out (by kernel_rfl)) (by decide) (fun K hK => ?_)
            have HA7 := Aside0.mk (HA6.out.alloc (.cells [Value.string (cv a).f0, .string (cv a).f1].toArray 85)); have HZ7 := Aside0.mk (HZ6.out.alloc (.cells [Value.string (cv a).f0, .string (cv a).f1].toArray 85))
            refine event_step (v := .slice (some ⟨V3.heap.size, 0, none⟩) 1 1) (w1 := V3.alloc (.cells [Value.string (cv a).f0, .string (cv a).f1].toArray 85)) (by rfl) ?_ ?_
            · go_simp
              try rfl
            refine hK.out _ _ ⟨HA7.out.cell 0 _ rfl, HA7.out.cell 1 _ rfl, HZ7.out.cell 67 _ (bkL_67 _ _ _ _ _ HL.out)⟩ (fun hHeld => ?_)
            clear hK K
            refine norm_ (a' := ?_) ?_ ?_
            rotate_left
            · show Act.put _ (some 46) _ = _
              simp only [Act.put, List.setIfInBounds_toArray, List.set_cons_zero, List.set_cons_succ, i64_w, i32_w]
              rfl
            refine one_ (i := 5) (N := some 47) #[true, true, true, true, true, true, false, false] rfl rfl (one_of HT_.out (by kernel_rfl)) (by decide) (fun K hK => ?_)
            refine Kd.R_append_step k85 (w0 := w) w.heap.size (by rfl) (.tmp 43) (.tmp 46) 55 85 (.agg #[.string ⟨#[]⟩, .string ⟨#[]⟩]) 32 rfl Try.underlying55 info_at rfl (by decide) (by omega) _ M (cv a) [.string (cv a).f0, .string (cv a).f1] (fun _ => True) (fun _ => False) rfl rfl (k85_mkM _ _ _ _) (fun _ h => h.elim) (fun _ _ => trivial) HM6.out HB6.out HB6.out.size (by omega) ?_
            intro v8 w8 ho8 hb8 hg8 hat8
            rw [← HT.out] at ho8
            have HZ8 := Aside0.mk (HZ6.out.grown hg8 (HZ6.out.ne_row HM6.out (by decide)))
            have HA8 := Aside0.mk (HA6.out.grown hg8 (HA6.out.ne_row HM6.out (by decide)))
            have HY8 := Aside0.mk (HY6.out.grown hg8 (HY6.out.ne_row HM6.out (by decide)))
            have HF8 := Aside0.mk (Kd.R_over HF6.out HM6.out (by decide) hg8)
            have HM8 := Aside0.mk ho8
            have HB8 := Aside0.mk hb8
            obtain ⟨A8, c8, rfl⟩ := Kd.R_slice ho8
            clear ho8 hb8 hg8 hat8
            refine hK.out _ _ ⟨HA8.out.cell 0 _ rfl, HA8.out.cell 1 _ rfl, HZ8.out.cell 67 _ (bkL_67 _ _ _ _ _ HL.out)⟩ (fun hHeld => ?_)
            clear hK K
            refine norm_ (a' := ?_) ?_ ?_
            rotate_left
            · show Act.put _ (some 47) _ = _
              simp only [Act.put, List.setIfInBounds_toArray, List.set_cons_zero, List.set_cons_succ, i64_w, i32_w]
              rfl
            refine pure_ (i := 6) (N := some 48) (v := ?_) (a' := ?_) #[true, true, true, true, true, true, true, false] rfl rfl (any_of HT_.out (by kernel_rfl)) (fun _ _ _ h => h) (Or.inl ⟨by rfl, ?_⟩) ?_ ?_
            rotate_left
            · intro w'
              go_simp
              with_reducible rfl
            rotate_left
            · simp only [Act.put, List.setIfInBounds_toArray, List.set_cons_zero, List.set_cons_succ, i64_w, i32_w]
              rfl
            refine last_ (i := 7) (N := none) #[true, true, true, true, true, true, true, true] rfl rfl (one_of HT_.out (by kernel_rfl)) (by decide) (fun K hK => ?_)
            have hf67 := HZ8.out.frozen 67; have hc67 := HZ8.out.cell 67 _ (bkL_67 _ _ _ _ _ HL.out)
            refine skip_ (w1 := ?_) (by rfl) rfl ?_ ?_
            rotate_left
            · go_simp
              rfl
            refine hK.out _ _ ?_
            clear hK K
            refine done_ (done_of HT_.out (by kernel_rfl)) ?_
            have HZ9 := Aside0.mk (show Box (w8.setCell ⟨g3, 67, none⟩ (.slice A8 L.length c8)) g3 (bkL r.addr r.aff r.slots (.slice Af LF.length cf) (.slice A8 L.length c8)) 57 by have := HZ8.out.set 67 (.slice A8 L.length c8); rwa [bkL_set_67 _ _ _ _ _ HL.out] at this)
            go_wp2
            go_roundw
            case rel => exact ⟨k + 1, by omega, by go_num, _, HZ9, ⟨R_box_grown HF8.out HZ8.out (by decide) (setCell_grown _ _ _ _)⟩, ⟨by rw [← HLq.out]; exact R_box_grown HM8.out HZ8.out (by decide) (setCell_grown _ _ _ _)⟩, ⟨HY8.out.far (p := ⟨g3, 67, none⟩) HN23.out _⟩, ⟨Below.setCell HB8.out (p := ⟨g3, 67, none⟩) HG3.out _⟩⟩
            case measure => simp [intOf]; omega
          · have h7b : decide ((k : Int) < 70) = false := by simp; omega
            have HT := Aside0.mk (take_71 r.attrs k (by omega))
            clear ha ha2
            go_wp2_with (first
              | (refine step_allocN (some 7) rfl rfl 76 rfl [.string ⟨#[]⟩, .string ⟨#[]⟩] (fun _ => by kernel_rfl) ?_; intro ga W3 hga HB3 hbw3)
              | (refine step_store rfl 76 (.tmp 7) (.tmp 39) rfl ga [.string a.f0, .string a.f1] rfl rfl 76 _ HB3 2 (by kernel_rfl) rfl rfl (by intro u hu; simp at hu; rcases hu with rfl | rfl <;> rfl) ?_; intro W4 HB4 hgw4; have hbW : Below V.heap.size V W4 := hbw3.grown hgw4 hbw3.size (fun q hq => by cases hq; exact hga); have HB5 := Aside0.mk (below_step HB.out hbW); have HZ5 := Aside0.mk (HZ.out.below hbW); have HF5 := Aside0.mk (Kd.R_below HF.out hbW); have HM5 := Aside0.mk (Kd.R_below HA.out hbW); have HY5 := Aside0.mk (HY.out.below hbW); clear HB3 HB4 hga hbw3 hgw4 hbW hx0 hx1 HA HZ HF HY HB))
            go_roundw
            case rel => exact ⟨k + 1, by omega, by go_num, _, HZ5, HF5, ⟨by rw [HT.out]; exact HM5.out⟩, HY5, HB5⟩
            case measure => simp [intOf]; omega
        · obtain rfl : k = r.attrs.length := by omega
          have hkb : decide ((r.attrs.length : Int) < (r.attrs.length : Int)) = false := by simp
          obtain ⟨LA, hLA⟩ : ∃ LA : List At, LA = (r.attrs.take 70).map cv := ⟨_, rfl⟩
          have HT2 := Aside0.mk (show ((r.attrs.take r.attrs.length).take 70).map cv = LA by rw [List.take_of_length_le (Nat.le_refl r.attrs.length), hLA])
          have HLA := Aside0.mk hLA
          rw [HT2.out] at HA
          clear hLA
          obtain ⟨Aa, ca, rfl⟩ := Kd.R_slice HA.out
          have H68 := Aside0.mk (bkL_length r.addr r.aff r.slots (.slice Af LF.length cf) (.slice Aa LA.length ca) HL.out)
          go_wp2_with (first
            | (refine step_load rfl 57 (.tmp 3) rfl g3 rfl _ _ _ HZ.out Try.underlying57 rfl 68 (by kernel_rfl) H68.out ?_)
            | (refine step_store rfl 57 (.tmp 2) (.tmp 50) rfl g2 (bkL r.addr r.aff r.slots (.slice Af LF.length cf) (.slice Aa LA.length ca)) rfl rfl 57 _ HY.out 68 (by kernel_rfl) H68.out rfl (bkL_one _ _ _ _ _ rfl rfl) ?_; intro W6 HB6 hg6))
          refine bodyPost_ret (results_cell_row rfl _ _ g2 57 _ (0, 0) _ rfl HB6 Try.underlying57 rfl (by simp only [List.size_toArray]; exact size57 _ H68.out)) rfl ⟨_, rfl, ⟨HL.out, _, _, rfl, ?_, ?_⟩, HB.out.grown hg6 HB.out.size (by intro k hk; cases hk; exact HG2.out)⟩
          · show Kd.R _ _ _ _ _ _ (r.free.take 70)
            rw [← HLF.out]
            exact R_box_grown HF.out HY.out (by decide) hg6
          · show Kd.R _ _ _ _ _ _ ((r.attrs.take 70).map cv)
            rw [← HLA.out]
            exact R_box_grown HA.out HY.out (by decide) hg6
end Go.Proofs.Ytemhalnhbgkbcaa.V
end

-- BFits
section
/- ImageFits: the walk; chapter 16's example. -/
namespace Go.Proofs.Ytemhalnhbgkbcaa.V
open Go.RowKit Go.Proofs.YtemhalnhbgkbcaaW.PrintWords Go.Proofs.YtemhalnhbgkbcaaW.PrintLast Go.Proofs.YtemhalnhbgkbcaaW.PrintMore
set_option linter.unusedVariables false
set_option linter.unusedSimpArgs false

theorem new_nb0 (w : World) : Calls Try.prog 41 #[.int .u32 0, .string ⟨#[]⟩] w fun e w' => ∃ vf va, e = .returned (.tuple #[.agg (bkL nb0.addr nb0.aff nb0.slots vf va).toArray, .int .i64 0]) ∧ BkV w' (.agg (bkL nb0.addr nb0.aff nb0.slots vf va).toArray) nb0 ∧ Below w.heap.size w w' ∧ vf.oneCell' = true ∧ va.oneCell' = true := by
  refine (new_any 0 (by omega) (by omega) ⟨#[]⟩ w).mono ?_
  rintro e w' ⟨v, rfl, hb, hw⟩
  have e1 : ownerB ⟨#[]⟩ = true := by kernel_rfl
  rw [if_pos e1] at hb ⊢
  have hv := hb.toV
  obtain ⟨hl, vf, va, rfl, hf, ha⟩ := hb
  refine ⟨vf, va, rfl, hv, hw, ?_, ?_⟩
  · obtain ⟨A, c, rfl⟩ := Kd.R_slice hf; rfl
  · obtain ⟨A, c, rfl⟩ := Kd.R_slice ha; rfl
theorem nb0_l64 : nb0.slots.length = 64 := rfl
theorem iput_nb0 (v : Value) (w : World) (h : BkV w v nb0) : Calls Try.prog 32 #[v] w fun e w' => ∃ s : ByteArray, e = .returned (.tuple #[.string s, .int .i64 0]) ∧ s.size = 136 ∧ Below w.heap.size w w' := by
  refine (iput_any nb0 nb0_ok v w h).mono ?_
  rintro e w' ⟨rfl, hb⟩
  rw [if_pos nb0_right, if_pos nb0_right]
  exact ⟨_, rfl, by rw [strOfNums_size, nb0_len], hb⟩
theorem isize_nb0 (v : Value) (w : World) (h : BkV w v nb0) : Calls Try.prog 37 #[v] w fun e w' => e = .returned (.int .i64 136) ∧ Below w.heap.size w w' := by
  refine (isize_any nb0 nb0_ok v w h).mono ?_
  rintro e w' ⟨rfl, hb⟩
  rw [if_pos nb0_right, nb0_len]
  exact ⟨rfl, hb⟩
set_option maxHeartbeats 4000000 in
set_option maxRecDepth 100000 in
theorem awake16_any (w : World) : Calls Try.prog 34 #[] w fun e w' => e = .returned (.bool true) ∧ Below w.heap.size w w' := by
  obtain ⟨L, hL⟩ : ∃ L : Value → Value → List Value, L = bkL nb0.addr nb0.aff nb0.slots := ⟨_, rfl⟩
  have HLL := Aside0.mk (show ∀ u v, (L u v).length = 68 by intro u v; rw [hL]; exact bkL_length _ _ _ _ _ nb0_l64)
  have HLO := Aside0.mk (show ∀ u v, u.oneCell' = true → v.oneCell' = true → ∀ x ∈ L u v, x.oneCell' = true by intro u v h1 h2; rw [hL]; exact bkL_one _ _ _ _ _ h1 h2)
  have hnew := new_nb0
  rw [← hL] at hnew
  have HNW := Aside0.mk hnew
  clear hL hnew
  go_enter Try.func34, Try.ntmps34
  go_wp2_with (first
    | (go_at_call 41; refine (HNW.out _).mono ?_; rintro e W1 ⟨vf, va, rfl, hv, hb, h1, h2⟩; have HV1 := Aside0.mk hv; have HB1 := Aside0.mk hb; have HO := Aside0.mk (And.intro h1 h2); clear hv hb h1 h2)
    | (refine step_allocN (some 1) rfl rfl 57 rfl zeroL zero57 ?_; intro g1 W2 hg1 hbx hb2; have HX2 := Aside0.mk hbx; have HB12 := Aside0.mk hb2; have HB2 := Aside0.mk (HB1.out.trans (hb2.mono HB1.out.size)); have HG1 := Aside0.mk (show w.heap.size ≤ g1 by have := HB1.out.size; omega); have HLT := Aside0.mk (show W1.heap.size ≤ g1 from hg1); clear hbx hb2 hg1)
    | (refine step_store rfl 57 (.tmp 1) (.tmp 7) rfl g1 (L vf va) rfl rfl 57 _ HX2.out 68 (by kernel_rfl) (HLL.out _ _) rfl (HLO.out _ _ HO.out.1 HO.out.2) ?_; intro W3 hx3 hg3; have HX3 := Aside0.mk hx3; have HB3 := Aside0.mk (HB2.out.grown hg3 HB2.out.size (by intro k hk; cases hk; exact HG1.out)); have HV3 := Aside0.mk (HV1.out.below (HB12.out.grown hg3 HB12.out.size (by intro k hk; cases hk; exact HLT.out))); clear hx3 hg3)
    | (refine step_load rfl 57 (.tmp 1) rfl g1 rfl _ _ _ HX3.out Try.underlying57 rfl 68 (by kernel_rfl) (HLL.out _ _) ?_)
    | (go_at_call 32; refine (iput_nb0 _ _ HV3.out).mono ?_; rintro e W4 ⟨s, rfl, hs, hb4⟩; have HS := Aside0.mk hs; have HX4 := Aside0.mk (HX3.out.below hb4); have HV4 := Aside0.mk (HV3.out.below hb4); have HB4 := Aside0.mk (HB3.out.trans (hb4.mono HB3.out.size)); clear hb4)
    | ((with_reducible refine gate_dst (N := 22) rfl ?_); refine gate_guard (by rfl) ?_; refine step_load rfl 57 (.tmp 1) rfl g1 rfl _ _ _ HX4.out Try.underlying57 rfl 68 (by kernel_rfl) (HLL.out _ _) ?_)
    | (go_at_call 37; refine (isize_nb0 _ _ HV4.out).mono ?_; rintro e W5 ⟨rfl, hb5⟩; have HB5 := Aside0.mk (HB4.out.trans (hb5.mono HB4.out.size)); clear hb5))
  go_ret
  exact ⟨rfl, HB5.out⟩
set_option maxHeartbeats 4000000 in
set_option maxRecDepth 100000 in
theorem imageFits_any (r : Rw) (ha0 : 0 ≤ r.addr) (ha1 : r.addr < 4294967296) (hs : U8s r.slots) (hf : U8s r.free) (v : Value) (w : World) (h : RwV w v r) :
    Calls Try.prog 7 #[v] w fun e w' => e = .returned (.bool true) ∧ Below w.heap.size w w' := by
  have hok : BkOk (ours r) := ⟨ha0, ha1, hs, fun x hx => hf x (List.mem_of_mem_take hx)⟩
  obtain ⟨A, c, A', c', rfl, hr⟩ := h
  have HR := Aside0.mk hr
  have HS := Aside0.mk hs
  have HOK := Aside0.mk hok
  have H68 := Aside0.mk (bkL_length r.addr r.aff r.slots (.slice A r.free.length c) (.slice A' r.attrs.length c') hr.l64)
  have hput : ∀ (v : Value) (w : World), BkV w v (ours r) → Calls Try.prog 32 #[v] w fun e w' => ∃ s : ByteArray, e = .returned (.tuple #[.string s, .int .i64 (if rightB (ours r) = true then 0 else 1)]) ∧ ((rightB (ours r) = true ∧ 76 ≤ s.size ∧ s.size ≤ 8456) ∨ (rightB (ours r) = false ∧ s = ⟨#[]⟩)) ∧ Below w.heap.size w w' := by
    intro v w hv
    have hl : (ours r).slots.length = 64 := hr.l64
    refine (iput_any _ hok v w hv).mono ?_
    rintro e w' ⟨rfl, hb⟩
    cases hrt : rightB (ours r) with
    | true =>
      have := img_fits (right_p hrt) hok hl
      rw [if_pos rfl, if_pos rfl]
      exact ⟨_, rfl, .inl ⟨rfl, by rw [strOfNums_size]; exact this.1, by rw [strOfNums_size]; exact this.2⟩, hb⟩
    | false => exact ⟨_, rfl, .inr ⟨rfl, rfl⟩, hb⟩
  clear hr hs hok hf ha0 ha1
  have box_arm : True := trivial
  cases hrt : rightB (ours r) with
  | true =>
    have HPU := Aside0.mk (show ∀ (v : Value) (w : World), BkV w v (ours r) → Calls Try.prog 32 #[v] w fun e w' => ∃ s : ByteArray, e = .returned (.tuple #[.string s, .int .i64 0]) ∧ (76 ≤ s.size ∧ s.size ≤ 8456) ∧ Below w.heap.size w w' from fun v w hv => (hput v w hv).mono (by
      rintro e w' ⟨s, rfl, h1, h2⟩
      rw [hrt] at h1 ⊢
      rcases h1 with ⟨_, h1⟩ | ⟨h1, _⟩
      · exact ⟨s, rfl, h1, h2⟩
      · cases h1))
    clear hput hrt box_arm
    go_enter Try.func7, Try.ntmps7
    go_wp2_with (first
      | (refine step_box rfl 51 (.tmp 0) rfl _ rfl ?_; intro g W1 hg hbx hb1; have HX1 := Aside0.mk hbx; have HB1 := Aside0.mk hb1; clear hbx hb1 hg)
      | (refine step_load rfl 51 (.tmp 1) rfl g rfl _ _ _ HX1.out Try.underlying51 rfl 68 (by kernel_rfl) H68.out ?_)
      | (go_at_call 33; refine (ours_any r HS.out _ _ ⟨A, c, A', c', rfl, HR.out.below HB1.out⟩).mono ?_; rintro e W2 ⟨v2, rfl, ho2, hb2⟩; have HV2 := Aside0.mk ho2.toV; have HB2 := Aside0.mk (HB1.out.trans (hb2.mono HB1.out.size)); clear ho2 hb2)
      | (go_at_call 32; refine (HPU.out _ _ HV2.out).mono ?_; rintro e W3 ⟨s, rfl, hsx, hb3⟩; have b1 : decide ((76 : Int) ≤ (s.size : Int)) = true := (by simp; omega); have b2 : decide ((s.size : Int) ≤ 8456) = true := (by simp; omega); have b3 : 76 ≤ s.size := hsx.1; have b4 : s.size ≤ 8456 := hsx.2; have HB3 := Aside0.mk (HB2.out.trans (hb3.mono HB2.out.size)); clear hsx hb3)
      | (go_at_call 34; refine (awake16_any _).mono ?_; rintro e W4 ⟨rfl, hb4⟩))
    go_ret
    exact ⟨rfl, HB3.out.trans (hb4.mono HB3.out.size)⟩
  | false =>
    have HPU := Aside0.mk (show ∀ (v : Value) (w : World), BkV w v (ours r) → Calls Try.prog 32 #[v] w fun e w' => e = .returned (.tuple #[.string ⟨#[]⟩, .int .i64 1]) ∧ Below w.heap.size w w' from fun v w hv => (hput v w hv).mono (by
      rintro e w' ⟨s, rfl, h1, h2⟩
      rw [hrt] at h1 ⊢
      rcases h1 with ⟨h1, _⟩ | ⟨_, rfl⟩
      · cases h1
      · exact ⟨rfl, h2⟩))
    clear hput hrt box_arm
    go_enter Try.func7, Try.ntmps7
    go_wp2_with (first
      | (refine step_box rfl 51 (.tmp 0) rfl _ rfl ?_; intro g W1 hg hbx hb1; have HX1 := Aside0.mk hbx; have HB1 := Aside0.mk hb1; clear hbx hb1 hg)
      | (refine step_load rfl 51 (.tmp 1) rfl g rfl _ _ _ HX1.out Try.underlying51 rfl 68 (by kernel_rfl) H68.out ?_)
      | (go_at_call 33; refine (ours_any r HS.out _ _ ⟨A, c, A', c', rfl, HR.out.below HB1.out⟩).mono ?_; rintro e W2 ⟨v2, rfl, ho2, hb2⟩; have HV2 := Aside0.mk ho2.toV; have HB2 := Aside0.mk (HB1.out.trans (hb2.mono HB1.out.size)); clear ho2 hb2)
      | (go_at_call 32; refine (HPU.out _ _ HV2.out).mono ?_; rintro e W3 ⟨rfl, hb3⟩; have HB3 := Aside0.mk (HB2.out.trans (hb3.mono HB2.out.size)); clear hb3)
      | (go_at_call 34; refine (awake16_any _).mono ?_; rintro e W4 ⟨rfl, hb4⟩))
    go_ret
    exact ⟨rfl, HB3.out.trans (hb4.mono HB3.out.size)⟩
end Go.Proofs.Ytemhalnhbgkbcaa.V
end

-- BOpen
section
/- A raw block as it comes in. -/
namespace Go.Proofs.Ytemhalnhbgkbcaa.V
open Go.RowKit Go.Proofs.YtemhalnhbgkbcaaW.PrintWords Go.Proofs.YtemhalnhbgkbcaaW.PrintLast Go.Proofs.YtemhalnhbgkbcaaW.PrintMore
open Go.ChangeShapes Go.WideShapes
set_option linter.unusedVariables false
set_option maxRecDepth 100000
theorem u8_wf {z : Int} (h : (Lit.int .u8 z).wf = true) : 0 ≤ z ∧ z < 256 := by
  have : 0 ≤ z ∧ z ≤ 255 := by simpa [Lit.wf, IntKind.min, IntKind.max, IntKind.signed, IntKind.bits] using h
  omega
theorem u32_wf {z : Int} (h : (Lit.int .u32 z).wf = true) : 0 ≤ z ∧ z < 4294967296 := by
  have : 0 ≤ z ∧ z ≤ 4294967295 := by simpa [Lit.wf, IntKind.min, IntKind.max, IntKind.signed, IntKind.bits] using h
  omega
theorem list_nums (l : List Value) (P : Int → Prop) (h : ∀ i, i < l.length → ∃ z, P z ∧ (l.drop i).take 1 = [Value.int .u8 z]) : ∃ zs : List Int, l = zs.map (Value.int .u8) ∧ ∀ z ∈ zs, P z := by
  induction l with
  | nil => exact ⟨[], rfl, by simp⟩
  | cons x l ih =>
    obtain ⟨z, hz, e⟩ := h 0 (by simp)
    obtain ⟨zs, h1, h2⟩ := ih (fun i hi => by
      obtain ⟨z, hz, e⟩ := h (i + 1) (by simpa using hi)
      exact ⟨z, hz, by simpa using e⟩)
    have e' : x = Value.int .u8 z := by simpa using e
    exact ⟨z :: zs, by rw [e', h1]; rfl, by intro y hy; rcases List.mem_cons.1 hy with rfl | hy; exact hz; exact h2 y hy⟩
theorem list_of {α : Type} (P : Nat → α → Prop) : ∀ n, (∀ i, i < n → ∃ a, P i a) → ∃ xs : List α, xs.length = n ∧ ∀ i a, xs[i]? = some a → P i a
  | 0, _ => ⟨[], rfl, by simp⟩
  | n + 1, h => by
    obtain ⟨xs, h1, h2⟩ := list_of P n (fun i hi => h i (by omega))
    obtain ⟨a, ha⟩ := h n (by omega)
    refine ⟨xs ++ [a], by simp [h1], fun i b hb => ?_⟩
    rcases Nat.lt_trichotomy i n with hi | hi | hi
    · rw [List.getElem?_append_left (by omega)] at hb
      exact h2 i b hb
    · subst hi
      rw [← h1, List.getElem?_concat_length] at hb
      obtain rfl := Option.some.inj hb
      exact ha
    · rw [List.getElem?_eq_none (by simp; omega)] at hb
      cases hb
theorem split68 (l : List Value) (h : l.length = 68) : l = (l.drop 0).take 1 ++ ((l.drop 1).take 1 ++ ((l.drop 2).take 64 ++ ((l.drop 66).take 1 ++ (l.drop 67).take 1))) := by
  have e : ∀ (n m : Nat), l.drop n = (l.drop n).take m ++ l.drop (n + m) := fun n m => by
    rw [← List.drop_drop]
    exact (List.take_append_drop m (l.drop n)).symm
  have e0 := e 0 1
  have e1 := e 1 1
  have e2 := e 2 64
  have e3 := e 66 1
  have e4 : (l.drop 67).take 1 = l.drop 67 := List.take_of_length_le (by simp; omega)
  rw [e4, ← e3, ← e2, ← e1, ← e0]
  rfl
section
variable {H : Type} {enc : TypeId × Value → H} {w : World} {base b0 : Nat} {held : Bool}
structure RwIs (w : World) (v : Value) (r : Rw) : Prop where
  v : RwV w v r
  a0 : 0 ≤ r.addr
  a1 : r.addr < 4294967296
  s8 : U8s r.slots
  f8 : U8s r.free
theorem open_raw {v : Value} {d : DataW H} {ps : List MemPlace} (hval : Value.okWide Try.prog w .any b0 51 v) (hd : DataW.Trod enc Try.prog w base (fun _ => true) held 51 v d ps) : ∃ r : Rw, RwIs w v r := by
  obtain ⟨cs, rfl, hz⟩ := okWide_struct Try.underlying51 hval
  obtain ⟨fuel, hf⟩ := hd
  obtain ⟨xs, k, hk, hxy, hl, hxl, hfd⟩ := DataW.trod_struct Try.underlying51 hf
  have hsz : cs.toList.length = 68 := hl.trans (by kernel_rfl)
  have g0 := hfd 0 _ rfl
  have g1 := hfd 1 _ rfl
  have g2 := hfd 2 _ rfl
  have g3 := hfd 3 _ rfl
  have g4 := hfd 4 _ rfl
  have hx5 : xs.length = 5 := hxl
  have y0 : ∃ y, xs[0]? = some y := ⟨_, List.getElem?_eq_getElem (by omega)⟩
  have y1 : ∃ y, xs[1]? = some y := ⟨_, List.getElem?_eq_getElem (by omega)⟩
  have y2 : ∃ y, xs[2]? = some y := ⟨_, List.getElem?_eq_getElem (by omega)⟩
  have y3 : ∃ y, xs[3]? = some y := ⟨_, List.getElem?_eq_getElem (by omega)⟩
  have y4 : ∃ y, xs[4]? = some y := ⟨_, List.getElem?_eq_getElem (by omega)⟩
  obtain ⟨q0, y0⟩ := y0; obtain ⟨q1, y1⟩ := y1; obtain ⟨q2, y2⟩ := y2; obtain ⟨q3, y3⟩ := y3; obtain ⟨q4, y4⟩ := y4
  rw [y0] at g0; rw [y1] at g1; rw [y2] at g2; rw [y3] at g3; rw [y4] at g4
  have c46 : Try.prog.cellsOf 46 = 1 := by kernel_rfl
  have c9 : Try.prog.cellsOf 9 = 1 := by kernel_rfl
  have c47 : Try.prog.cellsOf 47 = 64 := by kernel_rfl
  have c48 : Try.prog.cellsOf 48 = 1 := by kernel_rfl
  have c49 : Try.prog.cellsOf 49 = 1 := by kernel_rfl
  have c5 : Try.prog.cellsOf 5 = 1 := by kernel_rfl
  have c76 : Try.prog.cellsOf 76 = 2 := by kernel_rfl
  obtain ⟨z0, e0, _, w0⟩ := DataW.trod_int Try.underlying46 g0
  obtain ⟨s1, e1, _, w1⟩ := DataW.trod_string Try.underlying9 g1
  obtain ⟨ax, am, _, _, al, alen, ael⟩ := DataW.trod_array Try.underlying47 g2
  have e0' : (cs.toList.drop 0).take (Try.prog.cellsOf 46) = [Value.int .u32 z0] := e0
  have e1' : (cs.toList.drop 1).take (Try.prog.cellsOf 9) = [Value.string s1] := e1
  rw [c46] at e0'
  rw [c9] at e1'
  obtain ⟨L, hL⟩ : ∃ L, L = (cs.toList.drop 2).take (Try.prog.cellsOf 47) := ⟨_, rfl⟩
  have hLl : L.length = 64 := by rw [hL, c47, List.length_take, List.length_drop, hsz]; rfl
  have ael' : ∀ i, i < 64 → DataW.trod enc Try.prog w base (fun _ => true) held am 5 ((L.drop (i * 1)).take 1) = ax[i]? := by
    intro i hi
    have := ael i hi
    rw [c5] at this
    rw [hL]
    exact this
  obtain ⟨zs, hzs, hz8⟩ := list_nums L (fun z => 0 ≤ z ∧ z < 256) (fun i hi => by
    have h := ael' i (by omega)
    rw [Nat.mul_one, List.getElem?_eq_getElem (by omega)] at h
    obtain ⟨z, e, _, wz⟩ := DataW.trod_int Try.underlying5 h
    exact ⟨z, u8_wf wz, e⟩)
  have hzl : zs.length = 64 := by rw [hzs] at hLl; simpa using hLl
  obtain ⟨A, c, fr, e3, hfc, hfC, hf8⟩ : ∃ (A : Option Addr) (c : Nat) (fr : List Int), (cs.toList.drop 66).take 1 = [Value.slice A fr.length c] ∧ fr.length ≤ c ∧ Kd.C (Kd.int .u8) w A fr.length fr ∧ U8s fr := by
    rcases open_ints Try.underlying48 Try.underlying5 c5 g3 with ⟨hcs, _⟩ | ⟨x, l, c, ys, hcs, _, hl, hm, hy, _, hcell, hwy⟩
    · have hcs' : (cs.toList.drop 66).take (Try.prog.cellsOf 48) = [.slice none 0 0] := hcs
      rw [c48] at hcs'
      exact ⟨none, 0, [], hcs', Nat.le_refl _, Kd.C_nil _ _, by intro x hx; cases hx⟩
    · have hcs' : (cs.toList.drop 66).take (Try.prog.cellsOf 48) = [.slice (some x) l c] := hcs
      rw [c48] at hcs'
      rw [if_pos rfl] at hy
      have hlen : (ys.take l).length = l := by rw [List.length_take]; omega
      refine ⟨some x, c, ys.take l, by rw [hlen]; exact hcs', by omega, ?_, fun n hn => u8_wf (hwy n (List.mem_of_mem_take hn))⟩
      refine Kd.C_of_reads (enc := Value.int .u8) (d := 0) (h1 := fun _ => rfl) ⟨rfl, by unfold maxLen at hm; omega, fun _ => ⟨x, rfl, fun j hj => ?_⟩⟩
      rw [hlen] at hj
      rw [hcell j (by omega)]
      congr 2
      simp only [List.getD_eq_getElem?_getD, List.getElem?_take, hj, if_true]
  obtain ⟨A', c', at', e4, hac, haC⟩ : ∃ (A : Option Addr) (c : Nat) (l : List S76), (cs.toList.drop 67).take 1 = [Value.slice A l.length c] ∧ l.length ≤ c ∧ Kd.C k76 w A l.length l := by
    rcases Go.Deep.open_slice_pairs Try.underlying49 Try.underlying76 c76 rfl rfl c9 c9 g4 with ⟨hcs, _⟩ | ⟨x, l, c, m, n, V0, V1, D0, D1, P0, P1, hcs, _, hl, hm, hmm, _, hel⟩
    · have hcs' : (cs.toList.drop 67).take (Try.prog.cellsOf 49) = [.slice none 0 0] := hcs
      rw [c49] at hcs'
      exact ⟨none, 0, [], hcs', Nat.le_refl _, Kd.C_nil _ _⟩
    · have hcs' : (cs.toList.drop 67).take (Try.prog.cellsOf 49) = [.slice (some x) l c] := hcs
      rw [c49] at hcs'
      have hmc : m = c := by rw [hmm]; rfl
      obtain ⟨ys, hy1, hy2⟩ := list_of (fun i (a : S76) => w.cell? (x.add (i * 2)) = some (.string a.f0) ∧ w.cell? (x.add (i * 2 + 1)) = some (.string a.f1)) l (fun i hi => by
        obtain ⟨h0, h1, t0, t1⟩ := hel i (by omega)
        obtain ⟨s0, u0, _, _⟩ := DataW.trod_string Try.underlying9 t0
        obtain ⟨s1, u1, _, _⟩ := DataW.trod_string Try.underlying9 t1
        exact ⟨⟨s0, s1⟩, by rw [h0]; simpa using u0, by rw [h1]; simpa using u1⟩)
      refine ⟨some x, c, ys, by rw [hy1]; exact hcs', by omega, rfl, by unfold maxLen at hm; omega, fun _ => ⟨x, rfl, fun j p hj => ⟨_, rfl, k76_mk w p, fun i u hu => ?_⟩⟩⟩
      obtain ⟨h0, h1⟩ := hy2 j p hj
      match i, hu with
      | 0, hu => obtain rfl := Option.some.inj hu; exact h0
      | 1, hu => obtain rfl := Option.some.inj hu; exact h1
  refine ⟨⟨z0, s1, zs, fr, at'⟩, ⟨A, c, A', c', ?_, hzl, hfC, hfc, haC, hac⟩, (u32_wf w0).1, (u32_wf w0).2, hz8, hf8⟩
  have e2 : (cs.toList.drop 2).take 64 = zs.map (Value.int .u8) := by rw [← hzs, hL, c47]
  have hs := split68 cs.toList hsz
  rw [e0', e1', e2, e3, e4] at hs
  rw [show cs = cs.toList.toArray from (Array.toArray_toList (xs := cs)).symm, hs]
  rfl
end
end Go.Proofs.Ytemhalnhbgkbcaa.V
end

-- BWalks
section
/- The walks of the laws of chapter 16, over what comes in. -/
namespace Go.Proofs.Ytemhalnhbgkbcaa.V
open Go.RowKit Go.Proofs.YtemhalnhbgkbcaaW.PrintWords Go.Proofs.YtemhalnhbgkbcaaW.PrintLast Go.Proofs.YtemhalnhbgkbcaaW.PrintMore
theorem imageFits_walk (v : Value) (r : Rw) (w : World) (h : RwIs w v r) : Calls Try.prog 7 #[v] w fun e w' => e = .returned (.bool true) ∧ Below w.heap.size w w' :=
  imageFits_any r h.a0 h.a1 h.s8 h.f8 v w h.v
end Go.Proofs.Ytemhalnhbgkbcaa.V
end

