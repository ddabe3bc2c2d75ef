/- The law ImagePut for every input: texts of ours, put together (part 7 of 10). No further condition. -/
import Derived.Test.YtemhalnhbgkbcaaCImagePutx4
import Derived.Test.YtemhalnhbgkbcaaCImagePutx5
import Derived.Outline
import Derived.Test.YtemhalnhbgkbcaaCImagePutx2
import Derived.ArgAppend
import Derived.Lib.SlBytesConst
import Derived.Test.YtemhalnhbgkbcaaCImagePutw1
import Derived.Test.YtemhalnhbgkbcaaCImagePutx3
-- BImgPut
section
/- image.Put: a block's bytes. -/
namespace Go.Proofs.Ytemhalnhbgkbcaa.V
open Go.RowKit Go.Proofs.YtemhalnhbgkbcaaW.PrintWords Go.Proofs.YtemhalnhbgkbcaaW.PrintLast Go.Proofs.YtemhalnhbgkbcaaW.PrintMore
set_option linter.unusedVariables false
set_option linter.unusedSimpArgs false

def attB (a : At) : List Int := textB a.f0 ++ textB a.f1
/-- A block's bytes up to its k-th attribute. -/
def imgPre (b : Bk) (k : Nat) : List Int := 66 :: (be4 b.addr.toNat ++ textB b.aff ++ [(b.attrs.length : Int)] ++ (b.attrs.take k).flatMap attB)
def imgOf (b : Bk) : List Int := imgPre b b.attrs.length ++ b.slots ++ [(b.free.length : Int)] ++ b.free
theorem imgPre_succ (b : Bk) (k : Nat) (h : k < b.attrs.length) : imgPre b (k + 1) = imgPre b k ++ textB (atN b.attrs k).f0 ++ textB (atN b.attrs k).f1 := by
  unfold imgPre
  rw [take_at _ _ h]
  simp [attB]
theorem size_nil {s : ByteArray} (h : s.toList = []) : s.size = 0 := by
  rw [ByteArray.toList_eq] at h
  have := congrArg List.length h
  rw [data_length] at this
  simpa using this
theorem rightName_size {s : ByteArray} (h : rightName s = true) : 0 < s.size ∧ s.size ≤ 64 := by
  unfold rightName at h
  simp only [Bool.and_eq_true, decide_eq_true_eq] at h
  exact ⟨h.1.2, h.2⟩
theorem owner_size {s : ByteArray} (h : ownerB s = true) : s.size ≤ 64 := by
  unfold ownerB at h
  rw [Bool.or_eq_true, decide_eq_true_eq] at h
  rcases h with h | h
  · rw [size_nil h]; omega
  · exact (rightName_size h).2
/-- What a right block has. -/
structure RightP (b : Bk) : Prop where
  first : firstI b.addr = b.addr
  owner : ownerB b.aff = true
  na : b.attrs.length ≤ 64
  sa : ∀ s ∈ b.slots, s ≤ (b.attrs.length : Int)
  may : ∀ j, j < b.attrs.length → mayAt (atN b.attrs j) = true
  nd : ∀ j, j < b.attrs.length → (b.attrs.take j).any (sameAt (atN b.attrs j)) = false
  used : (listOf (usedN b.slots)).length = b.attrs.length
  fr : ∀ j, j < b.free.length → freeBad b j = false
  zc : b.slots.countP (fun x => x == 0) = b.free.length
theorem right_p {b : Bk} (h : rightB b = true) : RightP b := by
  unfold rightB attrsOk freeOk at h
  simp only [Bool.and_eq_true, decide_eq_true_eq, List.all_eq_true, beq_iff_eq, List.mem_range, Bool.not_eq_true'] at h
  obtain ⟨h1, h2, h3, ⟨h4, h5, h6⟩, h7, h8⟩ := h
  exact ⟨h1, h2, h3, h4, fun j hj => (h5 j hj).1, fun j hj => (h5 j hj).2, h6, h7, h8⟩
theorem RightP.free_len {b : Bk} (h : RightP b) (hl : b.slots.length = 64) : b.free.length ≤ 64 := by
  rw [← h.zc, ← hl]
  exact List.countP_le_length
theorem attB_len (a : At) (h : mayAt a = true) : (attB a).length ≤ 130 := by
  unfold mayAt at h
  rw [Bool.and_eq_true] at h
  have h1 := (rightName_size h.1).2
  have h2 := (rightName_size h.2).2
  simp [attB, textB_length]
  omega
theorem imgPre_len {b : Bk} (h : RightP b) : ∀ k, k ≤ b.attrs.length → (imgPre b k).length ≤ 71 + 130 * k := by
  intro k
  induction k with
  | zero =>
    intro _
    have := owner_size h.owner
    simp [imgPre, be4, textB_length]
    omega
  | succ k ih =>
    intro hk
    have h1 := ih (by omega)
    have h2 := attB_len _ (h.may k (by omega))
    rw [imgPre_succ _ _ (by omega)]
    simp [attB] at h2 ⊢
    omega
theorem C_slots {W : World} {g : Nat} {a : Int} {s : ByteArray} {l : List Int} {v v' : Value} {t : Nat} (h : Box W g (bkL a s l v v') t) (hl : l.length = 64) : Kd.C (Kd.int .u8) W (some ⟨g, 2, none⟩) 64 l :=
  Kd.C_of_reads (d := (0 : Int)) (h1 := fun _ => rfl) ⟨hl, by omega, fun _ => ⟨_, rfl, fun j hj => by rw [add_at]; exact h.slot hl j hj⟩⟩
def iput9.T9 : Bool × List (List Nat × List Nat) := (true, [([], []), ([], []), ([1], [1]), ([0, 2], [0, 2]), ([], []), ([4], [4]), ([3, 5, 3], [3, 5]), ([6, 6, 0, 1, 2, 3, 4, 5, 6], [0, 6])])
def iput9.B9 : List Nat := [0, 0, 2, 7, 0, 16, 63, 127]
theorem iput9.tab9 : rtab .any (opsOf Try.f32 9) = iput9.T9 := by kernel_rfl
theorem iput9.bits9 : waitsOk iput9.T9.2 iput9.B9 = true := by kernel_rfl
set_option maxHeartbeats 8000000 in
set_option maxRecDepth 100000 in
theorem iput_any (b : Bk) (hk : BkOk b) (v : Value) (w : World) (h : BkV w v b) :
    Calls Try.prog 32 #[v] w fun e w' => e = .returned (.tuple #[.string (if rightB b = true then strOfNums (imgOf b) else ⟨#[]⟩), .int .i64 (if rightB b = true then 0 else 1)]) ∧ Below w.heap.size w w' := by
  obtain ⟨A, c, A', c', rfl, hr⟩ := h
  have HL := Aside0.mk hr.l64
  have HR := Aside0.mk hr
  have HK := Aside0.mk hk
  have H68 := Aside0.mk (bkL_length b.addr b.aff b.slots (.slice A b.free.length c) (.slice A' b.attrs.length c') hr.l64)
  clear hr
  cases hrt : rightB b with
  | false =>
    have HRT := Aside0.mk hrt
    clear hrt hk
    go_enter Try.func32, Try.ntmps32
    go_wp2_with (first
      | (refine step_box rfl 57 (.tmp 0) rfl _ rfl ?_; intro g W1 hg hbx hb1; have HX := Aside0.mk hbx; have HB := Aside0.mk hb1; clear hbx hb1 hg)
      | (refine step_load rfl 57 (.tmp 1) rfl g rfl _ _ _ HX.out Try.underlying57 rfl 68 (by kernel_rfl) H68.out ?_)
      | (go_at_call 48; refine (right_any' b HK.out _ _ ⟨A, c, A', c', rfl, HR.out.below HB.out⟩).mono ?_; rintro e W2 ⟨rfl, hb2⟩; rw [HRT.out]; have HB2 := Aside0.mk (HB.out.trans (hb2.mono HB.out.size)); clear hb2))
    go_ret2
    exact ⟨rfl, HB2.out⟩
  | true =>
    have HRT := Aside0.mk hrt
    have hp := right_p hrt
    have HP := Aside0.mk hp
    have hsz := owner_size hp.owner
    obtain ⟨n, hn⟩ : ∃ n : Nat, b.addr = (n : Int) := ⟨b.addr.toNat, by have := hk.a0; omega⟩
    have hnl : n < 4294967296 := by have := hk.a1; omega
    have HN := Aside0.mk hn
    have HNL := Aside0.mk hnl
    have hfl := hp.free_len HL.out
    have hal := hp.na
    obtain ⟨L1, hL1⟩ : ∃ L1 : List Int, L1 = 66 :: be4 b.addr.toNat := ⟨_, rfl⟩
    obtain ⟨L2, hL2⟩ : ∃ L2 : List Int, L2 = L1 ++ textB b.aff := ⟨_, rfl⟩
    have HPU := Aside0.mk (show pack_Put.f 20 [66] (b.addr) 4 = some L1 by rw [hn, put4 [66] (by simp) n (by omega), hL1, hn]; rfl)
    have HT := Aside0.mk (show image_text.f 20 L1 b.aff = some L2 by rw [hL2, text_f _ (by simp [hL1, be4]) b.aff hsz])
    have HA := Aside0.mk (show pack_Put.f 20 L2 (b.attrs.length : Int) 1 = some (imgPre b 0) by
      rw [put1 _ (by simp [hL2, hL1, be4, textB_length]; omega) b.attrs.length (by omega), show b.attrs.length % 256 = b.attrs.length by omega]
      simp [imgPre, hL1, hL2])
    clear hL1 hL2
    obtain ⟨L4, hL4⟩ : ∃ L4 : List Int, L4 = imgPre b b.attrs.length ++ b.slots := ⟨_, rfl⟩
    obtain ⟨L5, hL5⟩ : ∃ L5 : List Int, L5 = L4 ++ [(b.free.length : Int)] := ⟨_, rfl⟩
    obtain ⟨L6, hL6⟩ : ∃ L6 : List Int, L6 = L5 ++ b.free := ⟨_, rfl⟩
    have h4l : L4.length ≤ 9000 := by
      have := imgPre_len hp b.attrs.length (Nat.le_refl _)
      have := HL.out
      rw [hL4, List.length_append]
      omega
    have HFP := Aside0.mk (show pack_Put.f 20 L4 (b.free.length : Int) 1 = some L5 by
      rw [put1 _ (by omega) b.free.length (by omega), show b.free.length % 256 = b.free.length by omega, hL5])
    have HI := Aside0.mk (show imgOf b = L6 by rw [hL6, hL5, hL4]; rfl)
    have H4 := Aside0.mk hL4
    have H6 := Aside0.mk hL6
    have HLS := Aside0.mk (show L5.length + b.free.length ≤ 140737488355328 by rw [hL5, List.length_append, List.length_singleton]; omega)
    clear hL4 hL5 hL6 h4l
    have HFL := Aside0.mk hfl
    have HAL := Aside0.mk hal
    have hw1 : 0 ≤ b.addr := hk.a0
    have hw2 : b.addr < 4294967296 := hk.a1
    clear hrt hp hsz hn hnl hk
    go_enter Try.func32, Try.ntmps32
    go_wp2_with (first
      | (refine step_box rfl 57 (.tmp 0) rfl _ rfl ?_; intro g W1 hg hbx hb1; have HX := Aside0.mk hbx; have HB := Aside0.mk hb1; clear hbx hb1)
      | (refine step_load rfl 57 (.tmp 1) rfl g rfl _ _ _ HX.out Try.underlying57 rfl 68 (by kernel_rfl) H68.out ?_)
      | (go_at_call 48; refine (right_any' b HK.out _ _ ⟨A, c, A', c', rfl, HR.out.below HB.out⟩).mono ?_; rintro e W2 ⟨rfl, hb2⟩; rw [HRT.out]; have HB2 := Aside0.mk (HB.out.trans (hb2.mono HB.out.size)); have HX2 := Aside0.mk (HX.out.below hb2); clear hb2 HX HB)
      | ((with_reducible refine gate_dst (N := 10) rfl ?_); refine Kd.R_lit (Kd.int .u8) w.heap.size 5 (w0 := w) ?hg (N := 10) ?hd (xs := ([66] : List Int)) (inner := [.int .u8 66]) (ok := fun _ => True) (okp := fun _ => True) ?hr ?hp (fun _ hk => hk) trivial HB2.out HB2.out.size (by simp) ?_; (case hd => rfl); (case hg => rfl); (case hr => first | (go_simp; done) | (go_simp; rfl)); (case hp => exact (Kd.reps_scalar (enc := Value.int .u8) [66])); intro v1 w1 ho1 hb1 hg1 hn1; have HO1 := Aside0.mk ho1; have HB3 := Aside0.mk hb1; have HX3 := Aside0.mk (HX2.out.grown hg1 (by simp)); obtain ⟨A1, c1, rfl⟩ := Kd.R_slice ho1; have hc0 := HX3.out.cell 0 _ rfl; clear ho1 hb1 hg1 hn1 HB2 HX2)
      | (go_at_call 66; obtain ⟨A1', c1', hq, hcc, hC⟩ := Kd.R_reads HO1.out; cases hq; refine (pack_Put.calls 20 _ _ [66] _ _ _ _ hC hcc HPU.out).mono ?_; rintro e W4 ⟨v4, rfl, ho4, hb4⟩; have HO4 := Aside0.mk (Kd.R_lower ho4 HB3.out.size); have HB4 := Aside0.mk (HB3.out.trans (hb4.mono HB3.out.size)); have HX4 := Aside0.mk (HX3.out.below hb4); obtain ⟨A4, c4, rfl⟩ := Kd.R_slice ho4; have hc1 := HX4.out.cell 1 _ rfl; clear ho4 hb4 HB3 HX3 hc0)
      | (go_at_call 67; obtain ⟨A4', c4', hq, hcc, hC⟩ := Kd.R_reads HO4.out; cases hq; refine (image_text.calls 20 _ _ L1 _ _ _ hC hcc HT.out).mono ?_; rintro e W5 ⟨v5, rfl, ho5, hb5⟩; have HO5 := Aside0.mk (Kd.R_lower ho5 HB4.out.size); have HB5 := Aside0.mk (HB4.out.trans (hb5.mono HB4.out.size)); have HX5 := Aside0.mk (HX4.out.below hb5); obtain ⟨A5, c5, rfl⟩ := Kd.R_slice ho5; have hc67 := HX5.out.cell 67 _ (bkL_67 _ _ _ _ _ HL.out); clear ho5 hb5 HB4 HX4 hc1 HO1)
      | (go_at_call 66; obtain ⟨A5', c5', hq, hcc, hC⟩ := Kd.R_reads HO5.out; cases hq; refine (pack_Put.calls 20 _ _ L2 _ _ _ _ hC hcc HA.out).mono ?_; rintro e W6 ⟨v6, rfl, ho6, hb6⟩; have HO6 := Aside0.mk (Kd.R_lower ho6 HB5.out.size); have HB6 := Aside0.mk (HB5.out.trans (hb6.mono HB5.out.size)); have HX6 := Aside0.mk (HX5.out.below hb6); have h67 := HX6.out.cell 67 _ (bkL_67 _ _ _ _ _ HL.out); clear ho6 hb6 HB5 HX5 HO4 hc67))
    have HR6 := Aside0.mk (HR.out.below HB6.out)
    have HG := Aside0.mk hg
    clear HO5 hg
    go_loopw [4, 6, 28] (fun s _ i W => ∃ k : Nat, k ≤ b.attrs.length ∧ i = .int .i64 k ∧ Aside0 (Kd.R (Kd.int .u8) 5 W w.heap.size (fun _ => True) s (imgPre b k)) ∧ Aside0 (Below W6.heap.size W6 W)) (fun _ _ i _ => b.attrs.length - (intOf i).toNat)
    case atStart => exact ⟨0, by omega, rfl, HO6, ⟨Below.refl _ _⟩⟩
    case round =>
      clear HO6 h67
      obtain ⟨k, hk, rfl, HO, HZ⟩ := hrel
      obtain ⟨W, rfl⟩ : ∃ W : World, W = wr := ⟨_, rfl⟩
      by_cases hkn : k < b.attrs.length
      · have hkb : decide ((k : Int) < (b.attrs.length : Int)) = true := by simp; omega
        obtain ⟨ad, eA, hx0, hx1⟩ := at_T85 (HR6.out.below HZ.out).ar k (by omega) (by omega)
        cases eA
        rw [Int.toNat_natCast] at hx0 hx1
        have p1 : ((k : Int) < (b.attrs.length : Int)) = True := eq_true (by omega)
        obtain ⟨a, ha⟩ : ∃ a : At, atN b.attrs k = a := ⟨_, rfl⟩
        have ha' : rd_T85 b.attrs (k : Int) = a := ha
        rw [ha'] at hx0 hx1
        have hma := HP.out.may k hkn
        rw [ha] at hma
        unfold mayAt at hma
        rw [Bool.and_eq_true] at hma
        have hs0 := (rightName_size hma.1).2
        have hs1 := (rightName_size hma.2).2
        have hpl := imgPre_len HP.out k (by omega)
        obtain ⟨L3, hL3⟩ : ∃ L3 : List Int, L3 = imgPre b k ++ textB a.f0 := ⟨_, rfl⟩
        have HT0 := Aside0.mk (show image_text.f 20 (imgPre b k) a.f0 = some L3 by rw [hL3, text_f _ (by omega) a.f0 hs0])
        have HT1 := Aside0.mk (show image_text.f 20 L3 a.f1 = some (imgPre b (k + 1)) by
          rw [text_f _ (by rw [hL3, List.length_append, textB_length]; omega) a.f1 hs1, hL3, imgPre_succ _ _ hkn, ha])
        clear ha ha' hma hs0 hs1 hpl hL3
        obtain ⟨Ao, co, rfl⟩ := Kd.R_slice HO.out
        go_wp2_with (first
          | (refine step_allocN (some 6) rfl rfl 85 rfl [.string ⟨#[]⟩, .string ⟨#[]⟩] (fun _ => by kernel_rfl) ?_; intro ga W3 hga HB3 hbw3)
          | (refine step_store rfl 85 (.tmp 6) (.tmp 31) rfl ga [.string a.f0, .string a.f1] rfl rfl 85 _ HB3 2 (by kernel_rfl) rfl rfl (by intro u hu; simp at hu; rcases hu with rfl | rfl <;> rfl) ?_; intro W4 HB4 hgw4))
        have HA4 := Aside0.mk (show Box W4.drew ga [.string a.f0, .string a.f1] 85 from HB4)
        have hbW : Below W.heap.size W W4.drew := below_drew (hbw3.grown hgw4 hbw3.size (fun q hq => by cases hq; exact hga))
        have HZ4 := Aside0.mk (below_step HZ.out hbW)
        have HO4 := Aside0.mk (Kd.R_below HO.out hbW)
        have HS4 := Aside0.mk (show w.heap.size ≤ W4.drew.heap.size from Nat.le_trans HB6.out.size HZ4.out.size)
        clear HB3 HB4 hga hbw3 hgw4 hbW hx0 hx1 HO HZ
        refine start_ (n := 8) (S := fun w' => w'.cell? ⟨ga, 0, none⟩ = some (.string a.f0) ∧ w'.cell? ⟨ga, 1, none⟩ = some (.string a.f1)) (ds := []) #[false, false, false, false, false, false, false, false] (by kernel_rfl) rfl rfl ⟨HA4.out.cell 0 _ rfl, HA4.out.cell 1 _ rfl⟩ (fun hHeld => ?_); refine with_tabW iput9.tab9 iput9.bits9 (fun HT_ HW_ => ?_)
        refine pure_ (i := 0) (N := some 32) (v := ?_) (a' := ?_) #[true, false, false, false, false, false, false, false] rfl rfl (any_of HT_.out (by kernel_rfl)) (fun _ _ _ h => h) (Or.inl ⟨by rfl, ?_⟩) ?_ ?_
        rotate_left
        · intro w'
          go_simp
          with_reducible rfl
        rotate_left
        · simp only [Act.put, List.setIfInBounds_toArray, List.set_cons_zero, List.set_cons_succ, i64_w, i32_w]
          rfl
        refine pure_ (i := 1) (N := some 33) (v := ?_) (a' := ?_) #[true, true, false, false, false, false, false, false] rfl rfl (any_of HT_.out (by kernel_rfl)) (fun _ _ _ h => h) (Or.inl ⟨by rfl, ?_⟩) ?_ ?_
        rotate_left
        · intro w'
          go_simp
          with_reducible rfl
        rotate_left
        · simp only [Act.put, List.setIfInBounds_toArray, List.set_cons_zero, List.set_cons_succ, i64_w, i32_w]
          rfl
        refine take_ (i := 2) (N := some 34) (v := ?_) (a' := ?_) #[true, true, true, false, false, false, false, false] rfl rfl (take_ofW HT_.out HW_.out (by kernel_rfl)) (fun _ _ _ h => h) (Or.inl ⟨by rfl, ?_⟩) hHeld ?_ ?_
        rotate_left
        · intro w' hS_
          obtain ⟨s0, s1⟩ := hS_
          go_simp
          with_reducible rfl
        rotate_left
        · simp only [Act.put, List.setIfInBounds_toArray, List.set_cons_zero, List.set_cons_succ, i64_w, i32_w]
          rfl
        refine pure_ (i := 4) (N := some 36) (v := ?_) (a' := ?_) #[true, true, true, false, true, false, false, false] rfl rfl (any_of HT_.out (by kernel_rfl)) (fun _ _ _ h => h) (Or.inl ⟨by rfl, ?_⟩) ?_ ?_
        rotate_left
        · intro w'
          go_simp
          with_reducible rfl
        rotate_left
        · simp only [Act.put, List.setIfInBounds_toArray, List.set_cons_zero, List.set_cons_succ, i64_w, i32_w]
          rfl
        refine take_ (i := 5) (N := some 37) (v := ?_) (a' := ?_) #[true, true, true, false, true, true, false, false] rfl rfl (take_ofW HT_.out HW_.out (by kernel_rfl)) (fun _ _ _ h => h) (Or.inl ⟨by rfl, ?_⟩) hHeld ?_ ?_
        rotate_left
        · intro w' hS_
          obtain ⟨s0, s1⟩ := hS_
          go_simp
          with_reducible rfl
        rotate_left
        · simp only [Act.put, List.setIfInBounds_toArray, List.set_cons_zero, List.set_cons_succ, i64_w, i32_w]
          rfl
        obtain ⟨Ao', co', hq, hcc, hC⟩ := Kd.R_reads HO4.out; cases hq
        refine one_ (i := 3) (N := some 35) #[true, true, true, true, true, true, false, false] rfl rfl (one_of HT_.out (by kernel_rfl)) (by decide) (fun K hK => ?_)
        refine goes_ Try.func67 (by kernel_rfl) rfl #[.slice Ao (imgPre b k).length co, .string a.f0] (by rfl) rfl rfl (by (try simp only [List.map_toArray, List.map_cons, List.map_nil]); first | done | rfl) ?_
        refine (image_text.calls 20 _ _ (imgPre b k) _ _ _ hC hcc HT0.out).mono ?_
        rintro e V3 ⟨v3, rfl, ho3, hb3⟩
        refine ⟨_, rfl, ?_⟩
        have HZ5 := Aside0.mk (below_step HZ4.out hb3); have HO5 := Aside0.mk (Kd.R_lower ho3 HS4.out); have HA5 := Aside0.mk (HA4.out.below hb3); have HS5 := Aside0.mk (Nat.le_trans HS4.out hb3.size); obtain ⟨A3, c3, hq3, hcc3, hC3⟩ := Kd.R_reads ho3; subst hq3; clear ho3 hb3
        refine hK.out _ _ ⟨HA5.out.cell 0 _ rfl, HA5.out.cell 1 _ rfl⟩ (fun hHeld => ?_)
        clear hK K
        refine norm_ (a' := ?_) ?_ ?_
        rotate_left
        · show Act.put _ (some 35) _ = _
          simp only [Act.put, List.setIfInBounds_toArray, List.set_cons_zero, List.set_cons_succ, i64_w, i32_w]
          rfl
        refine one_ (i := 6) (N := some 38) #[true, true, true, true, true, true, true, false] rfl rfl (one_of HT_.out (by kernel_rfl)) (by decide) (fun K hK => ?_)
        refine goes_ Try.func67 (by kernel_rfl) rfl #[.slice A3 L3.length c3, .string a.f1] (by rfl) rfl rfl (by (try simp only [List.map_toArray, List.map_cons, List.map_nil]); first | done | rfl) ?_
        refine (image_text.calls 20 _ _ L3 _ _ _ hC3 hcc3 HT1.out).mono ?_
        rintro e V6 ⟨v6, rfl, ho6, hb6⟩
        refine ⟨_, rfl, ?_⟩
        have HZ6 := Aside0.mk (below_step HZ5.out hb6); have HO6 := Aside0.mk (Kd.R_lower ho6 HS5.out); have HA6 := Aside0.mk (HA5.out.below hb6); clear hb6
        refine hK.out _ _ ⟨HA6.out.cell 0 _ rfl, HA6.out.cell 1 _ rfl⟩ (fun hHeld => ?_)
        clear hK K
        refine norm_ (a' := ?_) ?_ ?_
        rotate_left
        · show Act.put _ (some 38) _ = _
          simp only [Act.put, List.setIfInBounds_toArray, List.set_cons_zero, List.set_cons_succ, i64_w, i32_w]
          rfl
        refine pure_ (i := 7) (N := some 4) (v := ?_) (a' := ?_) #[true, true, true, true, true, true, true, true] rfl rfl (any_of HT_.out (by kernel_rfl)) (fun _ _ _ h => h) (Or.inl ⟨by rfl, ?_⟩) ?_ ?_
        rotate_left
        · intro w'
          go_simp
          with_reducible rfl
        rotate_left
        · simp only [Act.put, List.setIfInBounds_toArray, List.set_cons_zero, List.set_cons_succ, i64_w, i32_w]
          rfl
        refine done_ (done_of HT_.out (by kernel_rfl)) ?_
        go_wp2
        go_roundw
        case rel => exact ⟨k + 1, by omega, by go_num, HO6, HZ6⟩
        case measure => simp [intOf]; omega
      · obtain rfl : k = b.attrs.length := by omega
        have hkb : decide ((b.attrs.length : Int) < (b.attrs.length : Int)) = false := by simp
        have HXW := Aside0.mk (HX6.out.below HZ.out)
        have HBW := Aside0.mk (HB6.out.trans (HZ.out.mono HB6.out.size))
        have HRW := Aside0.mk (HR6.out.below HZ.out)
        have h66 := HXW.out.cell 66 _ (bkL_66 _ _ _ _ _ HL.out)
        obtain ⟨Ao, co, rfl⟩ := Kd.R_slice HO.out
        have hCs := C_slots HXW.out HL.out
        have HPL := Aside0.mk (imgPre_len HP.out b.attrs.length (Nat.le_refl _))
        have HCS := Aside0.mk hCs
        clear hCs
        go_wp2_with (first
          | ((with_reducible refine gate_builtin (b := .append) (xs := #[.tmp 40, .tmp 42]) rfl ?_); at_builtin; refine Kd.R_append_row (Value.int .u8) (0 : Int) (w0 := w) w.heap.size rfl (.tmp 40) (.tmp 42) 48 5 (.int .u8 0) 1 rfl Try.underlying48 info_u8 rfl (by decide) _ (imgPre b b.attrs.length) b.slots (some ⟨g, 2, none⟩) 64 64 (fun _ => True) rfl rfl (fun _ _ => trivial) HO.out HCS.out HBW.out HBW.out.size (by have := HPL.out; have := HAL.out; omega) ?_; intro v7 w7 ho7 hb7 hg7 hat7; rw [← H4.out] at ho7; have HX7 := Aside0.mk (HXW.out.grown hg7 (HXW.out.ne_row HO.out (by decide))); have HO7 := Aside0.mk ho7; have HB7 := Aside0.mk hb7; obtain ⟨A7, c7, rfl⟩ := Kd.R_slice ho7; have h66' := HX7.out.cell 66 _ (bkL_66 _ _ _ _ _ HL.out); clear ho7 hb7 hg7 hat7 h66 HXW HBW HRW HCS)
          | (go_at_call 66; obtain ⟨A7', c7', hq, hcc, hC⟩ := Kd.R_reads HO7.out; cases hq; refine (pack_Put.calls 20 _ _ L4 _ _ _ _ hC hcc HFP.out).mono ?_; rintro e W8 ⟨v8, rfl, ho8, hb8⟩; have HO8 := Aside0.mk (Kd.R_lower ho8 HB7.out.size); have HB8 := Aside0.mk (HB7.out.trans (hb8.mono HB7.out.size)); have HX8 := Aside0.mk (HX7.out.below hb8); obtain ⟨A8, c8, rfl⟩ := Kd.R_slice ho8; have h66'' := HX8.out.cell 66 _ (bkL_66 _ _ _ _ _ HL.out); clear ho8 hb8 HX7 h66')
          | ((with_reducible refine gate_builtin (b := .append) (xs := #[.tmp 50, .tmp 52]) rfl ?_); at_builtin; refine Kd.R_append_row (Value.int .u8) (0 : Int) (w0 := w) w.heap.size rfl (.tmp 50) (.tmp 52) 48 5 (.int .u8 0) 1 rfl Try.underlying48 info_u8 rfl (by decide) _ L5 b.free A b.free.length c (fun _ => True) rfl rfl (fun _ _ => trivial) HO8.out ((HR.out.below HB8.out).fr) HB8.out HB8.out.size (by have := HLS.out; omega) ?_; intro v9 w9 ho9 hb9 hg9 hat9; rw [← H6.out] at ho9; have HB9 := Aside0.mk hb9; obtain ⟨A9, c9, hq9, hcc9, hC9⟩ := Kd.R_reads ho9; subst hq9; have hst := Kd.C_string (P := Try.prog) (src := 48) (dst := 9) (c := c9) Try.underlying48 Try.underlying5 Try.underlying9 hC9; clear ho9 hb9 hg9 hat9 h66'' HX8 HO8 HO7 hC9))
        go_ret2
        exact ⟨by simp only [HI.out]; rfl, HB9.out⟩
end Go.Proofs.Ytemhalnhbgkbcaa.V
end

-- BSize
section
/- image.Size: how many bytes a block has. -/
namespace Go.Proofs.Ytemhalnhbgkbcaa.V
open Go.RowKit Go.Proofs.YtemhalnhbgkbcaaW.PrintWords Go.Proofs.YtemhalnhbgkbcaaW.PrintLast Go.Proofs.YtemhalnhbgkbcaaW.PrintMore
set_option linter.unusedVariables false
set_option linter.unusedSimpArgs false

theorem imgPre_zero_len (b : Bk) : (imgPre b 0).length = 7 + b.aff.size := by
  simp [imgPre, be4, textB_length]
  omega
theorem imgPre_succ_len (b : Bk) (k : Nat) (h : k < b.attrs.length) : (imgPre b (k + 1)).length = (imgPre b k).length + ((atN b.attrs k).f0.size + 1) + ((atN b.attrs k).f1.size + 1) := by
  rw [imgPre_succ _ _ h, List.length_append, List.length_append, textB_length, textB_length]
theorem imgOf_len (b : Bk) (hl : b.slots.length = 64) : (imgOf b).length = (imgPre b b.attrs.length).length + 65 + b.free.length := by
  simp [imgOf]
  omega
set_option maxHeartbeats 8000000 in
set_option maxRecDepth 100000 in
theorem isize_any (b : Bk) (hk : BkOk b) (v : Value) (w : World) (h : BkV w v b) :
    Calls Try.prog 37 #[v] w fun e w' => e = .returned (.int .i64 (if rightB b = true then ((imgOf b).length : Int) else 0)) ∧ Below w.heap.size w w' := by
  obtain ⟨A, c, A', c', rfl, hr⟩ := h
  have HL := Aside0.mk hr.l64
  have HR := Aside0.mk hr
  have HK := Aside0.mk hk
  have H68 := Aside0.mk (bkL_length b.addr b.aff b.slots (.slice A b.free.length c) (.slice A' b.attrs.length c') hr.l64)
  clear hr
  cases hrt : rightB b with
  | false =>
    have HRT := Aside0.mk hrt
    clear hrt hk
    go_enter Try.func37, Try.ntmps37
    go_wp2_with (first
      | (refine step_box rfl 57 (.tmp 0) rfl _ rfl ?_; intro g W1 hg hbx hb1; have HX := Aside0.mk hbx; have HB := Aside0.mk hb1; clear hbx hb1 hg)
      | (refine step_load rfl 57 (.tmp 1) rfl g rfl _ _ _ HX.out Try.underlying57 rfl 68 (by kernel_rfl) H68.out ?_)
      | (go_at_call 48; refine (right_any' b HK.out _ _ ⟨A, c, A', c', rfl, HR.out.below HB.out⟩).mono ?_; rintro e W2 ⟨rfl, hb2⟩; rw [HRT.out]; have HB2 := Aside0.mk (HB.out.trans (hb2.mono HB.out.size)); clear hb2))
    go_ret
    exact ⟨rfl, HB2.out⟩
  | true =>
    have HRT := Aside0.mk hrt
    have hp := right_p hrt
    have HP := Aside0.mk hp
    have hsz := owner_size hp.owner
    have hfl := hp.free_len HL.out
    have hal := hp.na
    have HIL := Aside0.mk (imgOf_len b HL.out)
    have HZL := Aside0.mk (imgPre_zero_len b)
    clear hrt hp hk
    go_enter Try.func37, Try.ntmps37
    go_wp2_with (first
      | (refine step_box rfl 57 (.tmp 0) rfl _ rfl ?_; intro g W1 hg hbx hb1; have HX := Aside0.mk hbx; have HB := Aside0.mk hb1; clear hbx hb1)
      | (refine step_load rfl 57 (.tmp 1) rfl g rfl _ _ _ HX.out Try.underlying57 rfl 68 (by kernel_rfl) H68.out ?_)
      | (go_at_call 48; refine (right_any' b HK.out _ _ ⟨A, c, A', c', rfl, HR.out.below HB.out⟩).mono ?_; rintro e W2 ⟨rfl, hb2⟩; rw [HRT.out]; have HB2 := Aside0.mk (HB.out.trans (hb2.mono HB.out.size)); have HX2 := Aside0.mk (HX.out.below hb2); have HR2 := Aside0.mk (HR.out.below HB2.out); have h1 := HX2.out.cell 1 _ rfl; have h66 := HX2.out.cell 66 _ (bkL_66 _ _ _ _ _ HL.out); have h67 := HX2.out.cell 67 _ (bkL_67 _ _ _ _ _ HL.out); clear hb2 HX HB))
    clear h1 h66 h67
    go_loopw [3, 5, 20] (fun s _ i W => ∃ (k m : Nat), k ≤ b.attrs.length ∧ m ≤ 9000 ∧ i = .int .i64 k ∧ s = .int .i64 m ∧ Aside0 (m = (imgPre b k).length + 65 + b.free.length) ∧ Aside0 (Below W2.heap.size W2 W)) (fun _ _ i _ => b.attrs.length - (intOf i).toNat)
    case atStart => exact ⟨0, 72 + b.aff.size + b.free.length, by omega, by omega, rfl, by first | rfl | (congr 1; omega) | (simp; omega), ⟨by rw [HZL.out]; omega⟩, ⟨Below.refl _ _⟩⟩
    case round =>
      obtain ⟨k, m, hk, hm, rfl, rfl, HM, HZ⟩ := hrel
      obtain ⟨W, rfl⟩ : ∃ W : World, W = wr := ⟨_, rfl⟩
      by_cases hkn : k < b.attrs.length
      · have hkb : decide ((k : Int) < (b.attrs.length : Int)) = true := by simp; omega
        obtain ⟨ad, eA, hx0, hx1⟩ := at_T85 (HR2.out.below HZ.out).ar k (by omega) (by omega)
        cases eA
        rw [Int.toNat_natCast] at hx0 hx1
        have p1 : ((k : Int) < (b.attrs.length : Int)) = True := eq_true (by omega)
        have hsl := imgPre_succ_len b k hkn
        have hma := HP.out.may k hkn
        have hpl := imgPre_len HP.out (k + 1) (by omega)
        obtain ⟨a, ha⟩ : ∃ a : At, atN b.attrs k = a := ⟨_, rfl⟩
        have ha' : rd_T85 b.attrs (k : Int) = a := ha
        rw [ha'] at hx0 hx1
        rw [ha] at hma hsl
        unfold mayAt at hma
        rw [Bool.and_eq_true] at hma
        have hs0 := (rightName_size hma.1).2
        have hs1 := (rightName_size hma.2).2
        have HSL := Aside0.mk hsl
        have HPL := Aside0.mk hpl
        clear ha ha' hma hsl hpl
        go_wp2_with (first
          | (refine step_allocN (some 5) rfl rfl 85 rfl [.string ⟨#[]⟩, .string ⟨#[]⟩] (fun _ => by kernel_rfl) ?_; intro ga W3 hga HB3 hbw3)
          | (refine step_store rfl 85 (.tmp 5) (.tmp 23) rfl ga [.string a.f0, .string a.f1] rfl rfl 85 _ HB3 2 (by kernel_rfl) rfl rfl (by intro u hu; simp at hu; rcases hu with rfl | rfl <;> rfl) ?_; intro W4 HB4 hgw4; have hy0 := HB4.cell 0 _ rfl; have hy1 := HB4.cell 1 _ rfl; have HZ4 := Aside0.mk (below_step HZ.out (hbw3.grown hgw4 hbw3.size (fun q hq => by cases hq; exact hga))); clear HB3 HB4 hga hbw3 hgw4 hx0 hx1))
        go_roundw
        case rel => exact ⟨k + 1, m + (2 + a.f0.size + a.f1.size), by omega, by have := HM.out; have := HSL.out; have := HPL.out; omega, by go_num, by first | rfl | go_num | (congr 1; omega) | (simp; omega), ⟨by have := HM.out; have := HSL.out; omega⟩, HZ4⟩
        case measure => simp [intOf]; omega
      · obtain rfl : k = b.attrs.length := by omega
        have hkb : decide ((b.attrs.length : Int) < (b.attrs.length : Int)) = false := by simp
        go_wp2
        go_ret
        refine ⟨?_, HB2.out.trans (HZ.out.mono HB2.out.size)⟩
        have := HIL.out
        have := HM.out
        show Ending.returned (Value.int .i64 (m : Int)) = Ending.returned (Value.int .i64 ((imgOf b).length : Int))
        rw [show m = (imgOf b).length by omega]
end Go.Proofs.Ytemhalnhbgkbcaa.V
end

-- BFitsP
section
/- How long a block's bytes are; the example of chapter 16. -/
namespace Go.Proofs.Ytemhalnhbgkbcaa.V
open Go.RowKit Go.Proofs.YtemhalnhbgkbcaaW.PrintWords Go.Proofs.YtemhalnhbgkbcaaW.PrintLast Go.Proofs.YtemhalnhbgkbcaaW.PrintMore
set_option linter.unusedVariables false
set_option linter.unusedSimpArgs false

theorem nodup_le (xs ys : List Int) (h : xs.Nodup) (hs : ∀ x ∈ xs, x ∈ ys) : xs.length ≤ ys.length := h.length_le_of_subset hs
theorem listN_nodup (s n : Nat) : (listN s n).Nodup := by
  unfold listN List.Nodup
  rw [List.pairwise_map]
  exact (List.Pairwise.filter _ List.nodup_range).imp (fun {a b} h e => h (by omega))
theorem used_le (l : List Int) : (listOf (usedN l)).length ≤ (l.filter (fun x => decide (1 ≤ x))).length := by
  have h : (listOf (usedN l)).length ≤ ((l.filter (fun x => decide (1 ≤ x))).map (fun s => s - 1)).length := by
    refine nodup_le _ _ (listN_nodup _ 64) (fun x hx => ?_)
    obtain ⟨i, rfl, hi, ht⟩ := mem_listN_nat _ _ x hx
    unfold usedN at ht
    rw [ofN_testBit _ i hi, decide_eq_true_eq, List.mem_map] at ht
    obtain ⟨s, hs, he⟩ := ht
    exact List.mem_map.2 ⟨s, List.mem_filter.2 ⟨hs, by simp; omega⟩, he⟩
  simpa using h
theorem zero_one (l : List Int) (h : U8s l) : (l.filter (fun x => decide (1 ≤ x))).length + l.countP (fun x => x == 0) = l.length := by
  induction l with
  | nil => rfl
  | cons x l ih =>
    have h1 := ih (fun y hy => h y (by simp [hy]))
    have h2 := h x (by simp)
    by_cases hx : x = 0
    · subst hx
      simp only [List.filter_cons, List.countP_cons, List.length_cons]
      simp
      omega
    · have h3 : 1 ≤ x := by omega
      simp only [List.filter_cons, List.countP_cons, List.length_cons]
      simp [hx, h3]
      omega
theorem RightP.sum_le {b : Bk} (h : RightP b) (hk : BkOk b) (hl : b.slots.length = 64) : b.attrs.length + b.free.length ≤ 64 := by
  have h1 := used_le b.slots
  have h2 := zero_one b.slots hk.s8
  rw [h.used] at h1
  rw [h.zc, hl] at h2
  omega
theorem imgPre_ge {b : Bk} (h : RightP b) : ∀ k, k ≤ b.attrs.length → 7 + 4 * k ≤ (imgPre b k).length ∧ (imgPre b k).length ≤ 7 + b.aff.size + 130 * k := by
  intro k
  induction k with
  | zero =>
    intro _
    rw [imgPre_zero_len]
    omega
  | succ k ih =>
    intro hk
    obtain ⟨h1, h2⟩ := ih (by omega)
    have hm := h.may k (by omega)
    unfold mayAt at hm
    rw [Bool.and_eq_true] at hm
    have s1 := rightName_size hm.1
    have s2 := rightName_size hm.2
    rw [imgPre_succ_len _ _ (by omega)]
    omega
theorem img_fits {b : Bk} (h : RightP b) (hk : BkOk b) (hl : b.slots.length = 64) : 76 ≤ (imgOf b).length ∧ (imgOf b).length ≤ 8456 := by
  obtain ⟨h1, h2⟩ := imgPre_ge h b.attrs.length (Nat.le_refl _)
  have h3 := h.sum_le hk hl
  have h4 := owner_size h.owner
  rw [imgOf_len b hl]
  refine ⟨?_, by omega⟩
  rcases Nat.eq_zero_or_pos b.attrs.length with h0 | h0
  · have : b.free.length = 64 := by
      rw [← h.zc, ← hl]
      rw [List.countP_eq_length]
      intro s hs
      have := h.sa s hs
      have := (hk.s8 s hs).1
      simp
      omega
    omega
  · omega
theorem strOfNums_size (l : List Int) : (strOfNums l).size = l.length := by
  simp [strOfNums, ByteArray.size]
/-! ### The example -/
def nb0 : Bk := newBk 0 ⟨#[]⟩
theorem nb0_right : rightB nb0 = true := by kernel_rfl
theorem nb0_len : (imgOf nb0).length = 136 := by kernel_rfl
theorem nb0_ok : BkOk nb0 := ⟨by decide, by decide, by intro x hx; simp [nb0, newBk] at hx; omega, by intro x hx; simp only [nb0, newBk, iotaI, List.mem_map, List.mem_range] at hx; obtain ⟨i, hi, rfl⟩ := hx; omega⟩
end Go.Proofs.Ytemhalnhbgkbcaa.V
end

-- VFVirgateref03Put
section
-- PRINTED by print.py (a twelfth state) out of the translation. Not trusted: Lean checks it.
namespace Go.Proofs.Ytemhalnhbgkbcaa.V
open Go.RowKit Go.Proofs.YtemhalnhbgkbcaaW.PrintWords Go.Proofs.YtemhalnhbgkbcaaW.PrintLast Go.Proofs.YtemhalnhbgkbcaaW.PrintMore
attribute [local go_sem] max2_int min2_int max_two min_two max_three min_three max_four min_four   -- for this text's walks alone
set_option linter.unusedVariables false
set_option linter.unusedSimpArgs false

/-! ### virgateref03_Put: function 75 -/
mutual
def virgateref03_Put.j0 : Nat → Int → Int → Bool → Option (List Int)
  | 0, _, _, _ => none
  | k + 1, x0, x1, x12 => if x12 = true then (some ([] : List Int)) else (if 0 ≤ x1 then (if (x1 : Int).toNat ≤ 281474976710656 then (virgateref03_Put.l0 k x0 (List.replicate (x1 : Int).toNat 0) (wrap64 (x1 - 1))) else (none)) else (none))
def virgateref03_Put.l0 : Nat → Int → List Int → Int → Option (List Int)
  | 0, _, _, _ => none
  | k + 1, x0, x5, x6 => if x6 ≥ 0 then (if 0 ≤ x6 then (if x6 < (x5.length : Int) then (virgateref03_Put.l0 k (IntKind.u64.wrap (Int.tdiv x0 256)) (x5.set (x6 : Int).toNat ((Int.tmod x0 256) % 256)) (wrap64 (x6 - 1))) else (none)) else (none)) else (some x5)
end
def virgateref03_Put.f (k : Nat) (a0 : Int) (a1 : Int) : Option (List Int) := if a1 < 1 then (virgateref03_Put.j0 k a0 a1 true) else (virgateref03_Put.j0 k a0 a1 (decide (a1 > 8)))
theorem virgateref03_Put.mono_l : ∀ k, (∀ y0 y1 y2, LeO (virgateref03_Put.j0 k y0 y1 y2) (virgateref03_Put.j0 (k + 1) y0 y1 y2)) ∧ (∀ y0 y1 y2, LeO (virgateref03_Put.l0 k y0 y1 y2) (virgateref03_Put.l0 (k + 1) y0 y1 y2))
  | 0 => ⟨fun _ _ _ r h => by simp [virgateref03_Put.j0] at h, fun _ _ _ r h => by simp [virgateref03_Put.l0] at h⟩
  | k + 1 => by
    obtain ⟨ih0, ih1⟩ := virgateref03_Put.mono_l k
    refine ⟨?_, ?_⟩
    · intro y0 y1 y2
      unfold virgateref03_Put.j0
      repeat' first
      | (with_reducible exact ih0 _ _ _)
      | (with_reducible exact ih1 _ _ _)
      | (with_reducible exact LeO.refl _)
      | (with_reducible exact LeO.none _)
      | (with_reducible refine LeO.ite ?_ ?_)
      | (with_reducible refine LeO.bind ?_ (fun _ => ?_))
      | exact ih0 _ _ _
      | exact ih1 _ _ _
      | exact LeO.none _
      | refine LeO.ite ?_ ?_
      | refine LeO.bind ?_ (fun _ => ?_)
    · intro y0 y1 y2
      unfold virgateref03_Put.l0
      repeat' first
      | (with_reducible exact ih0 _ _ _)
      | (with_reducible exact ih1 _ _ _)
      | (with_reducible exact LeO.refl _)
      | (with_reducible exact LeO.none _)
      | (with_reducible refine LeO.ite ?_ ?_)
      | (with_reducible refine LeO.bind ?_ (fun _ => ?_))
      | exact ih0 _ _ _
      | exact ih1 _ _ _
      | exact LeO.none _
      | refine LeO.ite ?_ ?_
      | refine LeO.bind ?_ (fun _ => ?_)
theorem virgateref03_Put.mono : ∀ a0 a1 k, LeO (virgateref03_Put.f k a0 a1) (virgateref03_Put.f (k + 1) a0 a1) := by
  intro a0 a1 k
  obtain ⟨ih0, ih1⟩ := virgateref03_Put.mono_l k
  unfold virgateref03_Put.f
  repeat' first
      | (with_reducible exact ih0 _ _ _)
      | (with_reducible exact ih1 _ _ _)
      | (with_reducible exact LeO.refl _)
      | (with_reducible exact LeO.none _)
      | (with_reducible refine LeO.ite ?_ ?_)
      | (with_reducible refine LeO.bind ?_ (fun _ => ?_))
      | exact ih0 _ _ _
      | exact ih1 _ _ _
      | exact LeO.none _
      | refine LeO.ite ?_ ?_
      | refine LeO.bind ?_ (fun _ => ?_)
set_option maxHeartbeats 8000000 in
set_option maxRecDepth 100000 in
theorem virgateref03_Put.calls (k : Nat) (a0 : Int) (a1 : Int) (r : List Int) (w : World) (h : virgateref03_Put.f k a0 a1 = some r) :
    Calls Try.prog 75 #[.int .u64 a0, .int .i64 a1] w fun e w' => ∃ v0_ : Value, e = .returned (v0_) ∧ Kd.R (Kd.int .u8) 5 w' w.heap.size (fun _ => True) v0_ r ∧ Below w.heap.size w w' := by
  have HB := Aside0.mk (Below.refl w.heap.size w)
  have H : (if a1 < 1 then (virgateref03_Put.j0 k a0 a1 true) else (virgateref03_Put.j0 k a0 a1 (decide (a1 > 8)))) = some r := h
  clear h
  have HC3 := Aside0.mk H
  clear H
  go_enter Try.func75, Try.ntmps75
  go_upto_region 1 with (fail)
  go_cut [12] (fun v12 wc => ∃ (kq : Nat) (x12_2 : Bool), v12 = .bool x12_2 ∧ Aside0 (virgateref03_Put.j0 kq a0 a1 x12_2 = some r) ∧ Aside0 (kq ≤ k) ∧ Aside0 (Below w.heap.size w wc))
  case first =>
    have H := HC3.out
    clear HC3
    by_cases c4 : a1 < 1
    · rw [if_pos c4] at H
      have c4b0 : decide (a1 < 1) = true := decide_eq_true c4
      clear c4
      (first | rw [c4b0] | (simp only [i64_w, i32_w]; rw [c4b0]) | skip)
      have H' := Aside0.mk H
      clear H
      go_wp2
      go_meet
      case rel => exact ⟨_, (true), (by first | rfl | (simp; done) | (simp [*]; done)), H', ⟨by first | omega | exact Nat.le_refl _⟩, ⟨by repeat (first | (with_reducible first | exact HB.out | apply below_alloc | apply pw_below_drewN | apply below_drew1) | exact HB.out)⟩⟩
    · rw [if_neg c4] at H
      have c4b0 : decide (a1 < 1) = false := decide_eq_false c4
      clear c4
      (first | rw [c4b0] | (simp only [i64_w, i32_w]; rw [c4b0]) | skip)
      have H' := Aside0.mk H
      clear H
      go_wp2
      go_meet
      case rel => exact ⟨_, (decide (a1 > 8)), (by first | rfl | (simp; done) | (simp [*]; done)), H', ⟨by first | omega | exact Nat.le_refl _⟩, ⟨by repeat (first | (with_reducible first | exact HB.out | apply below_alloc | apply pw_below_drewN | apply below_drew1) | exact HB.out)⟩⟩
  case rest =>
    clear HC3
    try clear p2
    try clear c4
    try clear c4b0
    obtain ⟨kq, x12_2, rfl, HA, HJ2, HB⟩ := hcut
    cases kq with
    | zero => exact absurd HA.out (by simp [virgateref03_Put.j0])
    | succ kj2 =>
      have H := HA.out
      clear HA
      simp only [virgateref03_Put.j0] at H
      by_cases c5 : x12_2 = true
      · subst c5
        have H1 : (some ([] : List Int)) = some r := by rw [if_pos rfl] at H; exact H
        clear H
        have H := H1
        clear H1
        obtain rfl := Option.some.inj H
        go_wp2
        go_ret
        exact ⟨_, by first | rfl | (simp [errW_none, errW_some] <;> rfl) | (simp [*, errW_none, errW_some] <;> rfl), by first | exact Kd.R_nil _ _ _ _ _ | exact Kd.N_nil _ _ _ _ _ | exact Kd.V_nil _ _ _ _ _ | exact Kd.Q_nil _ _ _ _ _ | exact Kd.S_nil _ _ _ _ _, by repeat (first | (with_reducible first | exact HB.out | apply below_alloc | apply pw_below_drewN | apply below_drew1) | exact HB.out)⟩
      · replace c5 := Bool.eq_false_iff.mpr c5
        subst c5
        have H1 : (if 0 ≤ a1 then (if (a1 : Int).toNat ≤ 281474976710656 then (virgateref03_Put.l0 kj2 a0 (List.replicate (a1 : Int).toNat 0) (wrap64 (a1 - 1))) else (none)) else (none)) = some r := by rw [if_neg (show ¬ (false = true) by decide)] at H; exact H
        clear H
        have H := H1
        clear H1
        by_cases c6 : 0 ≤ a1
        · rw [if_pos c6] at H
          have c6b0 := eq_true c6
          have c6b1 : decide (0 ≤ a1) = true := decide_eq_true c6
          clear c6
          by_cases c7 : (a1 : Int).toNat ≤ 281474976710656
          · rw [if_pos c7] at H
            have c7b0 := eq_true c7
            have c7b1 : decide ((a1 : Int).toNat ≤ 281474976710656) = true := decide_eq_true c7
            clear c7
            obtain ⟨y75101, hy75101⟩ : ∃ y_ : List Int, y_ = (List.replicate (a1 : Int).toNat 0) := ⟨_, rfl⟩
            replace H : (virgateref03_Put.l0 kj2 a0 y75101 (wrap64 (a1 - 1))) = some r := by first | (rw [hy75101]; with_reducible exact H) | (have H2_ := (Option.bind_some _ _).symm.trans H; rw [hy75101]; with_reducible exact H2_) | (have H2_ := (Option.bind_some _ _).symm.trans H; with_reducible exact H2_) | with_reducible exact H | (rw [hy75101]; exact H) | exact H
            have Ny75101 := Aside0.mk hy75101
            clear hy75101
            have H' := Aside0.mk H
            clear H
            go_wp2_with (first | ((with_reducible refine gate_dst (N := 14) rfl ?_); refine Kd.R_make (Kd.int .u8) _ 5 rfl (N := 14) rfl 48 _ _ rfl a1 rfl rfl Try.underlying48 (.int .u8 0) 1 info5 rfl (by decide) (by omega) 0 (ok := fun _ => True) (okp := fun _ => True) rfl (fun _ hk => hk) trivial (of_decide_eq_true (by first | (with_reducible assumption) | assumption)) (Nat.le_trans (Nat.mul_le_mul_right _ (of_decide_eq_true (by first | (with_reducible assumption) | assumption) : a1.toNat ≤ 281474976710656)) (by omega)) (Below.refl _ _) (Nat.le_refl _) ?_; intro v75102 w8 ho9 hb hg_ hnew_; clear hg_ hnew_; (first | rw [← Ny75101.out] at ho9 | (simp only [Int.reduceToNat] at ho9; rw [← Ny75101.out] at ho9)); have n0_ := Aside0.mk (Kd.R_lower ho9 (below_size (by repeat (first | (with_reducible first | exact HB.out | apply below_alloc | apply pw_below_drewN | apply below_drew1) | exact HB.out)))); have n1_ := Aside0.mk (below_step (by repeat (first | (with_reducible first | exact HB.out | apply below_alloc | apply pw_below_drewN | apply below_drew1) | exact HB.out)) hb); clear HB; have HO75103 := n0_; have HB := n1_; clear n0_ n1_; clear hb ho9))
            go_loopg [0, 6] kj2 (fun kq v0 v6 w' => ∃ (x0_2 : Int) (x5_2 : List Int) (x6_2 : Int), v0 = .int .u64 x0_2 ∧ v6 = .int .i64 x6_2 ∧ Aside0 (virgateref03_Put.l0 kq x0_2 x5_2 x6_2 = some r) ∧ Aside0 (kq ≤ kj2) ∧ Aside0 (Kd.R (Kd.int .u8) 5 w' w.heap.size (fun _ => True) v75102 x5_2) ∧ Aside0 (Below w.heap.size w w'))
            case atStart => exact ⟨(a0), (y75101), (wrap64 (a1 - 1)), (by first | rfl | (simp; done) | (simp [*]; done)), (by first | rfl | (simp; done) | (simp [*]; done)), H', ⟨Nat.le_refl _⟩, ⟨by (with_reducible repeat (first | apply Kd.R_alloc | apply Kd.R_drewN | apply Kd.R_drew)); exact HO75103.out⟩, ⟨by repeat (first | (with_reducible first | exact HB.out | apply below_alloc | apply pw_below_drewN | apply below_drew1) | exact HB.out)⟩⟩
            case round =>
              clear H'
              try clear p2
              try clear c4
              try clear c4b0
              try clear c5
              try clear c6
              try clear c6b0
              try clear c6b1
              try clear p6
              try clear c7
              try clear c7b0
              try clear c7b1
              try clear p2
              obtain ⟨x0_2, x5_2, x6_2, rfl, rfl, HA, HK2, HO_5, HB⟩ := hrel
              cases gk with
              | zero => exact absurd HA.out (by simp [virgateref03_Put.l0])
              | succ k2 =>
                have H := HA.out
                clear HA
                simp only [virgateref03_Put.l0] at H
                by_cases c10 : x6_2 ≥ 0
                · rw [if_pos c10] at H
                  have c10b0 : decide (0 ≤ x6_2) = true := decide_eq_true c10
                  clear c10
                  by_cases c11 : 0 ≤ x6_2
                  · rw [if_pos c11] at H
                    have c11b0 : decide (0 ≤ x6_2) = true := decide_eq_true c11
                    clear c11
                    by_cases c12 : x6_2 < (x5_2.length : Int)
                    · rw [if_pos c12] at H
                      have c12b0 : decide (x6_2 < (x5_2.length : Int)) = true := decide_eq_true c12
                      clear c12
                      obtain ⟨y75104, hy75104⟩ : ∃ y_ : List Int, y_ = (x5_2.set (x6_2 : Int).toNat ((Int.tmod x0_2 256) % 256)) := ⟨_, rfl⟩
                      replace H : (virgateref03_Put.l0 k2 (IntKind.u64.wrap (Int.tdiv x0_2 256)) y75104 (wrap64 (x6_2 - 1))) = some r := by first | (rw [hy75104]; with_reducible exact H) | (have H2_ := (Option.bind_some _ _).symm.trans H; rw [hy75104]; with_reducible exact H2_) | (have H2_ := (Option.bind_some _ _).symm.trans H; with_reducible exact H2_) | with_reducible exact H | (rw [hy75104]; exact H) | exact H
                      have Ny75104 := Aside0.mk hy75104
                      clear hy75104
                      have H' := Aside0.mk H
                      clear H
                      have p13 : 0 ≤ (x6_2 : Int) := of_decide_eq_true (by first | (with_reducible assumption) | assumption)
                      have q13 : (x6_2 : Int) < ((x5_2.length : Int) : Int) := of_decide_eq_true (by first | (with_reducible assumption) | assumption)
                      obtain ⟨go13, co13, eo13, gb13, gl13, cl13, HG13⟩ := Kd.R_form HO_5.out (by omega)
                      (first | cases eo13 | (injection eo13 with ea_ en_ ec_; (first | subst ea_ | (injection ea_ with ea_; subst ea_)); subst ec_; clear en_))
                      have GB13 := Aside0.mk gb13
                      have GG13 := Aside0.mk HG13
                      clear gb13 gl13 HG13
                      obtain ⟨hx13_0, hf13_0⟩ := Kd.R_celln 0 HO_5.out (x6_2 : Int) p13 q13
                      replace p13 := eq_true p13
                      replace q13 := eq_true q13
                      have HP14 := Kd.R_putg HO_5.out (x6_2 : Int) ((Int.tmod x0_2 256) % 256)
                      go_wp2_with (first | ((with_reducible refine gate_store (t := 5) (p := 26) rfl ?_); refine store_event (t := 5) (p := 26) (v := ?vo_w15) (w1 := (wr.setCell ⟨go13, (x6_2 : Int).toNat, none⟩ (.int .u8 ((Int.tmod x0_2 256) % 256)))) ?hg ?ho ?hn ?hr ?_; (case ho => rfl); (case hg => rfl); (case hn => rfl); (case hr => first | (go_simp; done) | (go_simp; rfl)); intro w15 hw; have hg : wr.grownBy w15 (some go13) := (by rw [hw]; exact HP14.2); have hp_ : Kd.R (Kd.int .u8) 5 w15 w.heap.size (fun _ => True) (.slice (some ⟨go13, 0, none⟩) x5_2.length co13) y75104 := (by rw [hw, Ny75104.out]; exact HP14.1); clear HP14; have n0_ := Aside0.mk (hp_); have n1_ := Aside0.mk ((by rw [hw]; exact below_set (HB.out) GB13.out : Below w.heap.size w w15)); clear HO_5; clear HB; have HO_5 := n0_; have HB := n1_; clear n0_ n1_; clear hg hw hp_))
                      go_roundg k2
                      case measure => have := HJ2.out; have := HK2.out; omega
                      case rel => exact ⟨(IntKind.u64.wrap (Int.tdiv x0_2 256)), (y75104), (wrap64 (x6_2 - 1)), (by first | rfl | (simp; done) | (simp [*]; done)), (by first | rfl | (simp; done) | (simp [*]; done)), H', ⟨by have := HJ2.out; have := HK2.out; omega⟩, ⟨by (with_reducible repeat (first | apply Kd.R_alloc | apply Kd.R_drewN | apply Kd.R_drew)); exact HO_5.out⟩, ⟨by repeat (first | (with_reducible first | exact HB.out | apply below_alloc | apply pw_below_drewN | apply below_drew1) | exact HB.out)⟩⟩
                    · rw [if_neg c12] at H
                      exact absurd H (by simp)
                  · rw [if_neg c11] at H
                    exact absurd H (by simp)
                · rw [if_neg c10] at H
                  have c10b0 : decide (0 ≤ x6_2) = false := decide_eq_false c10
                  clear c10
                  obtain rfl := Option.some.inj H
                  go_wp2
                  go_ret
                  exact ⟨_, by first | rfl | (simp [errW_none, errW_some] <;> rfl) | (simp [*, errW_none, errW_some] <;> rfl), by (with_reducible repeat (first | apply Kd.R_alloc | apply Kd.R_drewN | apply Kd.R_drew)); exact HO_5.out, by repeat (first | (with_reducible first | exact HB.out | apply below_alloc | apply pw_below_drewN | apply below_drew1) | exact HB.out)⟩
          · rw [if_neg c7] at H
            exact absurd H (by simp)
        · rw [if_neg c6] at H
          exact absurd H (by simp)
end Go.Proofs.Ytemhalnhbgkbcaa.V
end

-- VFVirgateref03Text
section
-- PRINTED by print.py (a twelfth state) out of the translation. Not trusted: Lean checks it.
namespace Go.Proofs.Ytemhalnhbgkbcaa.V
open Go.RowKit Go.Proofs.YtemhalnhbgkbcaaW.PrintWords Go.Proofs.YtemhalnhbgkbcaaW.PrintLast Go.Proofs.YtemhalnhbgkbcaaW.PrintMore
attribute [local go_sem] max2_int min2_int max_two min_two max_three min_three max_four min_four   -- for this text's walks alone
set_option linter.unusedVariables false
set_option linter.unusedSimpArgs false

/-! ### virgateref03_Text: function 76 -/
def virgateref03_Text.f (a0 : ByteArray) : Option (List Int) := (some (([((a0.size : Int)) % 256] : List Int) : List Int)).bind fun y76101 => (if y76101.length + a0.size < 140737488355328 then (some (y76101 ++ bytesOf a0)) else (none))
set_option maxHeartbeats 8000000 in
set_option maxRecDepth 100000 in
theorem virgateref03_Text.calls (a0 : ByteArray) (r : List Int) (w : World) (h : virgateref03_Text.f a0 = some r) :
    Calls Try.prog 76 #[.string a0] w fun e w' => ∃ v0_ : Value, e = .returned (v0_) ∧ Kd.R (Kd.int .u8) 5 w' w.heap.size (fun _ => True) v0_ r ∧ Below w.heap.size w w' := by
  have HB := Aside0.mk (Below.refl w.heap.size w)
  have H : ((some (([((a0.size : Int)) % 256] : List Int) : List Int)).bind fun y76101 => (if y76101.length + a0.size < 140737488355328 then (some (y76101 ++ bytesOf a0)) else (none))) = some r := h
  clear h
  obtain ⟨y76101, hy76101⟩ : ∃ y_ : List Int, y_ = (([((a0.size : Int)) % 256] : List Int)) := ⟨_, rfl⟩
  replace H : (if y76101.length + a0.size < 140737488355328 then (some (y76101 ++ bytesOf a0)) else (none)) = some r := by first | (rw [hy76101]; with_reducible exact H) | (have H2_ := (Option.bind_some _ _).symm.trans H; rw [hy76101]; with_reducible exact H2_) | (have H2_ := (Option.bind_some _ _).symm.trans H; with_reducible exact H2_) | with_reducible exact H | (rw [hy76101]; exact H) | exact H
  have Ny76101 := Aside0.mk hy76101
  clear hy76101
  by_cases c2 : y76101.length + a0.size < 140737488355328
  · rw [if_pos c2] at H
    have LMc2 := Aside0.mk c2
    clear c2
    obtain ⟨y76104, hy76104⟩ : ∃ y_ : List Int, y_ = (y76101 ++ bytesOf a0) := ⟨_, rfl⟩
    replace H : (some y76104) = some r := by first | (rw [hy76104]; with_reducible exact H) | (have H2_ := (Option.bind_some _ _).symm.trans H; rw [hy76104]; with_reducible exact H2_) | (have H2_ := (Option.bind_some _ _).symm.trans H; with_reducible exact H2_) | with_reducible exact H | (rw [hy76104]; exact H) | exact H
    have Ny76104 := Aside0.mk hy76104
    clear hy76104
    obtain rfl := Option.some.inj H
    go_enter Try.func76, Try.ntmps76
    go_wp2_with (first | ((with_reducible refine gate_dst (N := 6) rfl ?_); refine Kd.R_lit (Kd.int .u8) _ 5 ?hg (N := 6) ?hd (xs := ([((a0.size : Int)) % 256] : List Int)) (inner := [.int .u8 (((a0.size : Int)) % 256)]) (ok := fun _ => True) (okp := fun _ => True) ?hr ?hp (fun _ hk => hk) trivial (Below.refl _ _) (Nat.le_refl _) (by simp) ?_; (case hd => rfl); (case hg => rfl); (case hr => first | (go_simp; done) | (go_simp; rfl)); (case hp => exact (Reps.one (show Kd.M (Kd.int .u8) _ _ _ (((a0.size : Int)) % 256) [.int .u8 (((a0.size : Int)) % 256)] from rfl) (Reps.none _ _))); intro v76102 w3 ho4 hb hg_ hnew_; clear hg_ hnew_; (first | rw [← Ny76101.out] at ho4 | (simp only [Int.reduceToNat] at ho4; rw [← Ny76101.out] at ho4)); have n0_ := Aside0.mk (Kd.R_lower ho4 (below_size (by repeat (first | (with_reducible first | exact HB.out | apply below_alloc | apply pw_below_drewN | apply below_drew1) | exact HB.out)))); have n1_ := Aside0.mk (below_step (by repeat (first | (with_reducible first | exact HB.out | apply below_alloc | apply pw_below_drewN | apply below_drew1) | exact HB.out)) hb); clear HB; have HO76103 := n0_; have HB := n1_; clear n0_ n1_; clear hb ho4) | (at_builtin; refine print_append_str (w0 := w) w.heap.size rfl (.tmp 6) _ 48 9 5 rfl Try.underlying48 Try.underlying9 info5 v76102 y76101 a0 rfl rfl ?aO ?aB ?aS ?aL ?_; (case aB => exact (by repeat (first | (with_reducible first | exact HB.out | apply below_alloc | apply pw_below_drewN | apply below_drew1) | exact HB.out))); (case aO => exact (Kd.own_of_R (by (with_reducible repeat (first | apply Kd.R_alloc | apply Kd.R_drewN | apply Kd.R_drew)); exact HO76103.out))); (case aS => exact (below_size (by repeat (first | (with_reducible first | exact HB.out | apply below_alloc | apply pw_below_drewN | apply below_drew1) | exact HB.out)))); (case aL => have := LMc2.out; omega); intro v76105 w5 ho0 hb hg; have ho := Kd.R_of_own (h1 := fun _ => rfl) (ok := fun _ => True) ho0 (fun _ _ => trivial); clear ho0; have hat := True.intro; rw [← Ny76104.out] at ho; change Kd.R (Kd.int .u8) 5 w5 w.heap.size (fun _ => True) v76105 y76104 at ho; have n0_ := Aside0.mk (hb); have n1_ := Aside0.mk (ho); clear HB; clear HO76103; have HB := n0_; have HO76106 := n1_; clear n0_ n1_; clear ho hb hg hat))
    go_ret
    exact ⟨_, by first | rfl | (simp [errW_none, errW_some] <;> rfl) | (simp [*, errW_none, errW_some] <;> rfl), by (with_reducible repeat (first | apply Kd.R_alloc | apply Kd.R_drewN | apply Kd.R_drew)); exact HO76106.out, by repeat (first | (with_reducible first | exact HB.out | apply below_alloc | apply pw_below_drewN | apply below_drew1) | exact HB.out)⟩
  · rw [if_neg c2] at H
    exact absurd H (by simp)
end Go.Proofs.Ytemhalnhbgkbcaa.V
end

-- BRefPut
section
/- virgateref16.Put: the document's bytes of a right block. -/
namespace Go.Proofs.Ytemhalnhbgkbcaa.V
open Go.RowKit Go.Proofs.YtemhalnhbgkbcaaW.PrintWords Go.Proofs.YtemhalnhbgkbcaaW.PrintLast Go.Proofs.YtemhalnhbgkbcaaW.PrintMore
set_option linter.unusedVariables false
set_option linter.unusedSimpArgs false

set_option maxRecDepth 100000 in
/-- append of bytes to a constant's bytes. -/
theorem append_lit {ops : Array Oper} {rest : List Oper} {o : Oper} {a : Act} {Q : Exit → Act → World → Prop} {W : World} (hgd : o.guard = none) (s x : Operand)
    (ho : o.op = .call { callee := .builtin .append, args := #[s, x], argTypes := #[48, 48] }) (g : Nat) (hs : a.eval s = .slice (some ⟨g, 0, none⟩) 1 1) (hcell : W.cell? ⟨g, 0, none⟩ = some (.int .u8 66))
    (A : Option Addr) (c : Nat) (ys : List Int) (hx : a.eval x = .slice A ys.length c) (hC : Kd.C (Kd.int .u8) W A ys.length ys) (hy : 0 < ys.length) (hy2 : ys.length ≤ 1000)
    (h : ∀ v1 w1, Kd.R (Kd.int .u8) 5 w1 W.heap.size (fun _ => True) v1 ([66] ++ ys) → W.grownBy w1 none → wpList Try.prog ops Q rest (a.put o.dst v1) w1) : wpList Try.prog ops Q (o :: rest) a W := by
  obtain ⟨i, hi, hz⟩ := Option.map_eq_some_iff.1 info_u8
  simp only [Prod.mk.injEq] at hz
  rcases A with _ | ad
  · obtain ⟨ad, h, _⟩ := hC.2.2 hy
    cases h
  · obtain ⟨news, hnr, hnc⟩ := ReadsRow.inner_ hC
    have hnl : news.length = ys.length * 1 := hnr.1
    have hone : ∀ u ∈ news, u.oneCell' = true := by
      intro u hu
      obtain ⟨q, hq, rfl⟩ := List.mem_iff_getElem.1 hu
      have := hnr.2 q _ (List.getElem?_eq_getElem (show q < ys.length by omega))
      have e : ((news.drop (q * 1)).take 1) = [Value.int .u8 (ys[q]'(by omega))] := this
      rw [Nat.mul_one, List.drop_eq_getElem_cons hq, List.take_succ_cons, List.take_zero] at e
      injection e with e _
      rw [e]
      rfl
    refine wpList_append_arg W hgd s x 48 ho 5 i (.int .u8 0) 1 1 Try.underlying48 hi hz.1 hz.2.1 hz.2.2 rfl (by decide) g 0 1 1 [.int .u8 66] hs rfl (fun j u hj => ?_) ad ys.length c news hx hnl hnc hone (fun hle => by omega) (by simp only [maxLen]; omega) (by omega) (fun hle => by omega) (fun _ v' w' hown hg => h v' w' ⟨fun _ _ => trivial, [.int .u8 66] ++ news, ?_, ?_⟩ hg)
    · rcases j with _ | j
      · obtain rfl := Option.some.inj hj
        exact hcell
      · simp at hj
    · have e : ([(66 : Int)] ++ ys).length = 1 + ys.length := by rw [List.length_append]; rfl
      rw [e]
      exact hown
    · exact Kd.reps_append (Kd.reps_scalar (enc := Value.int .u8) [66]) hnr
theorem rtext_f (s : ByteArray) (hs : s.size ≤ 64) : virgateref03_Text.f s = some (textB s) := by
  unfold virgateref03_Text.f
  rw [Option.bind_some, if_pos (by simp; omega)]
  have : ((s.size : Int)) % 256 = (s.size : Int) := by omega
  simp [textB, this]
theorem rput_step (n i k : Nat) (xs : List Int) (hn : n < 18446744073709551616) (hi : i < xs.length) (hi2 : i < 100) :
    virgateref03_Put.l0 (k + 1) (n : Int) xs (i : Int) = virgateref03_Put.l0 k ((n / 256 : Nat) : Int) (xs.set i ((n % 256 : Nat) : Int)) ((i : Int) - 1) := by
  rw [virgateref03_Put.l0, if_pos (by omega), if_pos (by omega), if_pos (by omega), wrap64_id ((i : Int) - 1) (by omega) (by omega)]
  have e1 : Int.tdiv (n : Int) 256 = ((n / 256 : Nat) : Int) := by
    rw [Int.tdiv_eq_ediv_of_nonneg (by omega)]; omega
  have e2 : Int.tmod (n : Int) 256 = ((n % 256 : Nat) : Int) := by
    rw [Int.tmod_eq_emod_of_nonneg (by omega)]; omega
  rw [e1, e2, wrap_u64_nat _ (by omega), Int.toNat_natCast]
  congr 2
  omega
theorem rput4_f (n : Nat) (hn : n < 4294967296) : virgateref03_Put.f 20 (n : Int) 4 = some (be4 n) := by
  unfold virgateref03_Put.f
  rw [if_neg (by decide), show decide ((4 : Int) > 8) = false from rfl, virgateref03_Put.j0, if_neg (by decide), if_pos (by decide), if_pos (by decide), show wrap64 ((4 : Int) - 1) = ((3 : Nat) : Int) by unfold wrap64; omega]
  rw [rput_step n 3 18 _ (by omega) (by decide) (by omega), show ((3 : Nat) : Int) - 1 = ((2 : Nat) : Int) by omega, rput_step _ 2 17 _ (by omega) (by simp) (by omega), show ((2 : Nat) : Int) - 1 = ((1 : Nat) : Int) by omega, rput_step _ 1 16 _ (by omega) (by simp) (by omega), show ((1 : Nat) : Int) - 1 = ((0 : Nat) : Int) by omega, rput_step _ 0 15 _ (by omega) (by simp) (by omega), virgateref03_Put.l0, if_neg (by decide)]
  have h3 : n / 256 / 256 / 256 = n / 16777216 := by omega
  have h2 : n / 256 / 256 = n / 65536 := by omega
  rw [h3, h2]
  rfl
set_option maxHeartbeats 8000000 in
set_option maxRecDepth 100000 in
theorem rput_any (b : Bk) (hk : BkOk b) (hp : RightP b) (hsl : b.slots.length = 64) (As Af Aa : Option Addr) (cs cf ca : Nat) (w : World)
    (h1 : Kd.C (Kd.int .i64) w As b.slots.length b.slots) (h2 : Kd.C (Kd.int .i64) w Af b.free.length b.free) (h3 : Kd.C k76 w Aa (b.attrs.map vc).length (b.attrs.map vc)) :
    Calls Try.prog 39 #[.agg #[.int .u32 b.addr, .string b.aff, .slice As b.slots.length cs, .slice Af b.free.length cf, .slice Aa (b.attrs.map vc).length ca]] w fun e w' => e = .returned (.string (strOfNums (imgOf b))) ∧ Below w.heap.size w w' := by
  have hsz := owner_size hp.owner
  obtain ⟨n, hn⟩ : ∃ n : Nat, b.addr = (n : Int) := ⟨b.addr.toNat, by have := hk.a0; omega⟩
  have hnl : n < 4294967296 := by have := hk.a1; omega
  have hfl := hp.free_len hsl
  have hal := hp.na
  have HP := Aside0.mk hp
  have HK := Aside0.mk hk
  have HSL := Aside0.mk hsl
  obtain ⟨M, hM⟩ : ∃ M, M = b.attrs.map vc := ⟨_, rfl⟩
  have HM := Aside0.mk hM
  have hml : M.length = b.attrs.length := by rw [hM, List.length_map]
  have HML := Aside0.mk hml
  rw [← hM] at h3 ⊢
  have C1 := Aside0.mk h1
  have C2 := Aside0.mk h2
  have C3 := Aside0.mk h3
  obtain ⟨B4, hB4⟩ : ∃ B4 : List Int, B4 = be4 n := ⟨_, rfl⟩
  obtain ⟨L1, hL1⟩ : ∃ L1 : List Int, L1 = [66] ++ B4 := ⟨_, rfl⟩
  obtain ⟨TA, hTA⟩ : ∃ TA : List Int, TA = textB b.aff := ⟨_, rfl⟩
  obtain ⟨L2, hL2⟩ : ∃ L2 : List Int, L2 = L1 ++ TA := ⟨_, rfl⟩
  obtain ⟨L3, hL3⟩ : ∃ L3 : List Int, L3 = imgPre b 0 := ⟨_, rfl⟩
  have H1 := Aside0.mk hL1
  have H2 := Aside0.mk hL2
  have H3 := Aside0.mk hL3
  have H30 := Aside0.mk (show L3 = L2 ++ [(M.length : Int)] by
    rw [hL3, hL2, hL1, hTA, hB4, hml]
    simp [imgPre, hn])
  have HPU := Aside0.mk (show virgateref03_Put.f 20 b.addr 4 = some B4 by rw [hn, hB4]; exact rput4_f n hnl)
  have HTX := Aside0.mk (show virgateref03_Text.f b.aff = some TA by rw [hTA]; exact rtext_f _ hsz)
  have l1 : B4.length = 4 := by rw [hB4]; rfl
  have l2 : L1.length = 5 := by rw [hL1, List.length_append, l1]; rfl
  have l3 : TA.length ≤ 65 := by rw [hTA, textB_length]; omega
  have l4 : L2.length ≤ 70 := by rw [hL2, List.length_append]; omega
  have L1A := Aside0.mk l1
  have L2A := Aside0.mk l2
  have L3A := Aside0.mk l3
  have L4A := Aside0.mk l4
  have hw1 : 0 ≤ b.addr := hk.a0
  have hw2 : b.addr < 4294967296 := hk.a1
  have HFL := Aside0.mk hfl
  have HAL := Aside0.mk hal
  have hml6 : M.length ≤ 64 := by omega
  have hsl6 : b.slots.length ≤ 64 := by omega
  clear hml h1 h2 h3 hM hB4 hL1 hTA hL2 hL3 l1 l2 l3 l4 hn hnl hsz hp hk hsl
  have kc := fun (w : World) (C : Array Value) (n c : Nat) => Lib.run_convert_bytes_const (P := Try.prog) w 48 5 C n c Try.underlying48 Try.underlying5
  go_enter Try.func39, Try.ntmps39
  go_wp2_with (first
    | (refine step_box rfl 62 (.tmp 0) rfl _ rfl ?_; intro g W1 hg hbx hb1; have HX := Aside0.mk hbx; have HB := Aside0.mk hb1; have hc0 := (hbx.alloc (.cells #[.int .u8 66] 5 (1, 2))).cell 0 _ rfl; clear hbx hb1)
    | (go_at_call 75; refine (virgateref03_Put.calls 20 _ _ _ _ HPU.out).mono ?_; rintro e W4 ⟨v4, rfl, ho4, hb4⟩; have HO4 := Aside0.mk (show W4.cell? ⟨W1.heap.size, 0, none⟩ = some (.int .u8 66) by have hq : W4.heap[W1.heap.size]? = some (.cells #[.int .u8 66] 5 (1, 2)) := (by rw [hb4.block _ (by show _ < (W1.heap.push _).size; simp)]; exact heap_alloc_new W1 _); simp [World.cell?, hq]); have HB4 := Aside0.mk ((below_alloc HB.out (.cells #[.int .u8 66] 5 (1, 2))).trans (hb4.mono (below_alloc HB.out (.cells #[.int .u8 66] 5 (1, 2))).size)); have HX4 := Aside0.mk ((HX.out.alloc (.cells #[.int .u8 66] 5 (1, 2))).below hb4); obtain ⟨A4, c4, hq4, hcc4, hC4⟩ := Kd.R_reads ho4; subst hq4; have HC4 := Aside0.mk hC4; clear ho4 hb4 HB hc0 hC4)
    | ((with_reducible refine gate_builtin (b := .append) (xs := #[.tmp 11, .tmp 15]) rfl ?_); at_builtin; refine append_lit rfl (.tmp 11) (.tmp 15) rfl W1.heap.size rfl HO4.out A4 c4 B4 rfl HC4.out (by have := L1A.out; omega) (by have := L1A.out; omega) ?_; intro v5 w5 ho5 hg5; rw [← H1.out] at ho5; have HX5 := Aside0.mk (HX4.out.grown hg5 (by simp)); have HO5 := Aside0.mk (Kd.R_lower ho5 HB4.out.size); have HB5 := Aside0.mk (HB4.out.grown hg5 HB4.out.size (by simp)); obtain ⟨A5, c5, rfl⟩ := Kd.R_slice ho5; have hc1 := HX5.out.cell 1 _ rfl; clear ho5 hg5 HX4 HO4 HC4 HB4)
    | (go_at_call 76; refine (virgateref03_Text.calls _ _ _ HTX.out).mono ?_; rintro e W6 ⟨v6, rfl, ho6, hb6⟩; have HO6 := Aside0.mk (Kd.R_below HO5.out hb6); have HB6 := Aside0.mk (HB5.out.trans (hb6.mono HB5.out.size)); have HX6 := Aside0.mk (HX5.out.below hb6); obtain ⟨A6, c6, hq6, hcc6, hC6⟩ := Kd.R_reads ho6; subst hq6; have HC6 := Aside0.mk hC6; clear ho6 hb6 HB5 HX5 hc1 hC6)
    | ((with_reducible refine gate_builtin (b := .append) (xs := #[.tmp 17, .tmp 20]) rfl ?_); at_builtin; refine Kd.R_append_row (Value.int .u8) (0 : Int) (w0 := w) w.heap.size rfl (.tmp 17) (.tmp 20) 48 5 (.int .u8 0) 1 rfl Try.underlying48 info_u8 rfl (by decide) _ L1 TA A6 TA.length c6 (fun _ => True) rfl rfl (fun _ _ => trivial) HO6.out HC6.out HB6.out HB6.out.size (by have := L2A.out; have := L3A.out; omega) ?_; intro v7 w7 ho7 hb7 hg7 hat7; rw [← H2.out] at ho7; have HX7 := Aside0.mk (HX6.out.grown hg7 (HX6.out.ne_row HO6.out (by decide))); have HO7 := Aside0.mk ho7; have HB7 := Aside0.mk hb7; obtain ⟨A7, c7, rfl⟩ := Kd.R_slice ho7; have hc4 := HX7.out.cell 4 _ rfl; clear ho7 hb7 hg7 hat7 HX6 HO6 HC6 HB6)
    | ((with_reducible refine gate_builtin (b := .append) (xs := #[.tmp 22, .tmp 27]) rfl ?_); at_builtin; refine Kd.R_append (Kd.int .u8) (w0 := w) w.heap.size rfl (.tmp 22) (.tmp 27) 48 5 (.int .u8 0) 1 rfl Try.underlying48 info_u8 rfl (by decide) (by omega) _ L2 (M.length : Int) [.int .u8 (M.length : Int)] (fun _ => True) (fun _ => False) rfl rfl rfl (fun _ hk => hk.elim) (fun _ _ => trivial) HO7.out HB7.out HB7.out.size (by have := L4A.out; omega) ?_; intro v8 w8 ho8 hb8 hg8 hat8; rw [← H30.out] at ho8; have HX8 := Aside0.mk (HX7.out.grown hg8 (HX7.out.ne_row HO7.out (by decide))); have HO8 := Aside0.mk ho8; have HB8 := Aside0.mk hb8; obtain ⟨A8, c8, rfl⟩ := Kd.R_slice ho8; have hc4' := HX8.out.cell 4 _ rfl; clear ho8 hb8 hg8 hat8 HX7 HO7 HB7 hc4))
  have HZ8 := Aside0.mk (show Kd.R (Kd.int .u8) 5 _ w.heap.size (fun _ => True) (.slice A8 L3.length c8) (imgPre b 0) by rw [← H3.out]; exact HO8.out)
  clear HO8 hg hc4'
  go_loopw [3, 5, 32] (fun s _ i W => ∃ k : Nat, k ≤ M.length ∧ i = .int .i64 k ∧ Aside0 (Kd.R (Kd.int .u8) 5 W w.heap.size (fun _ => True) s (imgPre b k)) ∧ Aside0 (Box W g [.int .u32 b.addr, .string b.aff, .slice As b.slots.length cs, .slice Af b.free.length cf, .slice Aa M.length ca] 62) ∧ Aside0 (Below w.heap.size w W)) (fun _ _ i _ => M.length - (intOf i).toNat)
  case atStart => exact ⟨0, by omega, rfl, HZ8, HX8, HB8⟩
  case round =>
    clear HZ8 HX8 HB8
    obtain ⟨k, hk, rfl, HO, HX, HB⟩ := hrel
    obtain ⟨W, rfl⟩ : ∃ W : World, W = wr := ⟨_, rfl⟩
    by_cases hkn : k < M.length
    · have hkb : decide ((k : Int) < (M.length : Int)) = true := by simp; omega
      obtain ⟨ad, eA, hx0, hx1⟩ := at_T76 (Kd.C_below C3.out HB.out) k (by omega) (by omega)
      cases eA
      rw [Int.toNat_natCast] at hx0 hx1
      have p1 : ((k : Int) < (M.length : Int)) = True := eq_true (by omega)
      have hka : k < b.attrs.length := by have := HML.out; omega
      obtain ⟨a, ha⟩ : ∃ a : At, atN b.attrs k = a := ⟨_, rfl⟩
      have ha' : rd_T76 M (k : Int) = vc a := by
        rw [← ha, HM.out]
        show rd_T76 (b.attrs.map vc) (k : Int) = vc (rd_T85 b.attrs (k : Int))
        simp [rd_T76, rd_T85, List.getD, hka]
      rw [ha'] at hx0 hx1
      have hma := HP.out.may k hka
      rw [ha] at hma
      unfold mayAt at hma
      rw [Bool.and_eq_true] at hma
      have hs0 := (rightName_size hma.1).2
      have hs1 := (rightName_size hma.2).2
      have hpl := imgPre_len HP.out k (by omega)
      obtain ⟨P0, hP0⟩ : ∃ P0, P0 = imgPre b k := ⟨_, rfl⟩
      obtain ⟨T0, hT0⟩ : ∃ T0, T0 = textB a.f0 := ⟨_, rfl⟩
      obtain ⟨T1, hT1⟩ : ∃ T1, T1 = textB a.f1 := ⟨_, rfl⟩
      obtain ⟨P1, hP1⟩ : ∃ P1 : List Int, P1 = P0 ++ T0 := ⟨_, rfl⟩
      have hP2 := imgPre_succ b k hka
      rw [ha, ← hP0, ← hT0, ← hP1, ← hT1] at hP2
      obtain ⟨P2, hPP⟩ : ∃ P2 : List Int, P2 = imgPre b (k + 1) := ⟨_, rfl⟩
      rw [← hPP] at hP2
      rw [← hP0] at HO hpl
      have HF0 := Aside0.mk (show virgateref03_Text.f (vc a).f0 = some T0 by rw [hT0]; exact rtext_f _ hs0)
      have HF1 := Aside0.mk (show virgateref03_Text.f (vc a).f1 = some T1 by rw [hT1]; exact rtext_f _ hs1)
      have lp0 := Aside0.mk (show P0.length ≤ 71 + 130 * 64 by have := HAL.out; omega)
      have lt0 := Aside0.mk (show T0.length ≤ 65 by rw [hT0, textB_length]; omega)
      have lt1 := Aside0.mk (show T1.length ≤ 65 by rw [hT1, textB_length]; omega)
      have lp1 := Aside0.mk (show P1.length ≤ 136 + 130 * 64 by have := HAL.out; rw [hP1, List.length_append, hT0, textB_length]; omega)
      have E1 := Aside0.mk hP1
      have E2 := Aside0.mk hP2
      have E3 := Aside0.mk hPP
      clear ha ha' hma hs0 hs1 hpl hP0 hT0 hT1 hP1 hP2 hPP
      obtain ⟨Ao, co, rfl⟩ := Kd.R_slice HO.out
      go_wp2_with (first
        | (refine step_allocN (some 5) rfl rfl 76 rfl [.string ⟨#[]⟩, .string ⟨#[]⟩] (fun _ => by kernel_rfl) ?_; intro ga W3 hga HB3 hbw3)
        | (refine step_store rfl 76 (.tmp 5) (.tmp 35) rfl ga [.string (vc a).f0, .string (vc a).f1] rfl rfl 76 _ HB3 2 (by kernel_rfl) rfl rfl (by intro u hu; simp at hu; rcases hu with rfl | rfl <;> rfl) ?_; intro W4 HB4 hgw4; have HA4 := Aside0.mk HB4; have hbW : Below W.heap.size W W4 := hbw3.grown hgw4 hbw3.size (fun q hq => by cases hq; exact hga); have HB5 := Aside0.mk (below_step HB.out hbW); have HX5 := Aside0.mk (HX.out.below hbW); have HO5 := Aside0.mk (Kd.R_below HO.out hbW); have hy0 := HA4.out.cell 0 _ rfl; clear HB3 HB4 hga hbw3 hgw4 hbW hx0 hx1 HO HX HB)
        | (go_at_call 76; refine (virgateref03_Text.calls _ _ _ HF0.out).mono ?_; rintro e W6 ⟨v6, rfl, ho6, hb6⟩; have HO6 := Aside0.mk (Kd.R_below HO5.out hb6); have HB6 := Aside0.mk (HB5.out.trans (hb6.mono HB5.out.size)); have HX6 := Aside0.mk (HX5.out.below hb6); have HA6 := Aside0.mk (HA4.out.below hb6); obtain ⟨A6, c6, hq6, hcc6, hC6⟩ := Kd.R_reads ho6; subst hq6; have HC6 := Aside0.mk hC6; clear ho6 hb6 HB5 HX5 HO5 HA4 hy0 hC6)
        | ((with_reducible refine gate_builtin (b := .append) (xs := #[.tmp 36, .tmp 39]) rfl ?_); at_builtin; refine Kd.R_append_row (Value.int .u8) (0 : Int) (w0 := w) w.heap.size rfl (.tmp 36) (.tmp 39) 48 5 (.int .u8 0) 1 rfl Try.underlying48 info_u8 rfl (by decide) _ P0 T0 A6 T0.length c6 (fun _ => True) rfl rfl (fun _ _ => trivial) HO6.out HC6.out HB6.out HB6.out.size (by have := lp0.out; have := lt0.out; omega) ?_; intro v7 w7 ho7 hb7 hg7 hat7; rw [← E1.out] at ho7; have HX7 := Aside0.mk (HX6.out.grown hg7 (HX6.out.ne_row HO6.out (by decide))); have HA7 := Aside0.mk (HA6.out.grown hg7 (HA6.out.ne_row HO6.out (by decide))); have HO7 := Aside0.mk ho7; have HB7 := Aside0.mk hb7; obtain ⟨A7, c7, rfl⟩ := Kd.R_slice ho7; have hy1 := HA7.out.cell 1 _ rfl; clear ho7 hb7 hg7 hat7 HX6 HO6 HC6 HB6 HA6)
        | (go_at_call 76; refine (virgateref03_Text.calls _ _ _ HF1.out).mono ?_; rintro e W8 ⟨v8, rfl, ho8, hb8⟩; have HO8 := Aside0.mk (Kd.R_below HO7.out hb8); have HB8 := Aside0.mk (HB7.out.trans (hb8.mono HB7.out.size)); have HX8 := Aside0.mk (HX7.out.below hb8); obtain ⟨A8, c8, hq8, hcc8, hC8⟩ := Kd.R_reads ho8; subst hq8; have HC8 := Aside0.mk hC8; clear ho8 hb8 HB7 HX7 HO7 HA7 hy1 hC8)
        | ((with_reducible refine gate_builtin (b := .append) (xs := #[.tmp 41, .tmp 44]) rfl ?_); at_builtin; refine Kd.R_append_row (Value.int .u8) (0 : Int) (w0 := w) w.heap.size rfl (.tmp 41) (.tmp 44) 48 5 (.int .u8 0) 1 rfl Try.underlying48 info_u8 rfl (by decide) _ P1 T1 A8 T1.length c8 (fun _ => True) rfl rfl (fun _ _ => trivial) HO8.out HC8.out HB8.out HB8.out.size (by have := lp1.out; have := lt1.out; omega) ?_; intro v9 w9 ho9 hb9 hg9 hat9; rw [← E2.out] at ho9; have HX9 := Aside0.mk (HX8.out.grown hg9 (HX8.out.ne_row HO8.out (by decide))); have HO9 := Aside0.mk ho9; have HB9 := Aside0.mk hb9; clear ho9 hb9 hg9 hat9 HX8 HO8 HC8 HB8))
      go_roundw
      case rel => exact ⟨k + 1, by omega, by go_num, ⟨by rw [← E3.out]; exact HO9.out⟩, HX9, HB9⟩
      case measure => simp [intOf]; omega
    · obtain rfl : k = M.length := by omega
      have hkb : decide ((M.length : Int) < (M.length : Int)) = false := by simp
      have hc2 := HX.out.cell 2 _ rfl
      have e0 : imgPre b M.length = imgPre b b.attrs.length ++ b.slots.take 0 := by rw [HML.out, List.take_zero, List.append_nil]
      rw [e0] at HO
      clear e0
      obtain ⟨Ao, co, rfl⟩ := Kd.R_slice HO.out
      have HZ := Aside0.mk HO.out
      have hPL := imgPre_len HP.out b.attrs.length (Nat.le_refl _)
      obtain ⟨PA, hPA⟩ : ∃ PA : List Int, PA = imgPre b b.attrs.length := ⟨_, rfl⟩
      have HPA := Aside0.mk hPA
      have HPL := Aside0.mk (show PA.length ≤ 71 + 130 * 64 by have := HAL.out; rw [hPA]; omega)
      clear HO
      rw [← hPA] at HZ ⊢
      clear hPA hPL
      go_wp2_with fail
      clear hc2
      go_loopw [3, 7, 50] (fun s _ i W => ∃ k : Nat, k ≤ b.slots.length ∧ i = .int .i64 k ∧ Aside0 (Kd.R (Kd.int .u8) 5 W w.heap.size (fun _ => True) s (PA ++ b.slots.take k)) ∧ Aside0 (Box W g [.int .u32 b.addr, .string b.aff, .slice As b.slots.length cs, .slice Af b.free.length cf, .slice Aa M.length ca] 62) ∧ Aside0 (Below w.heap.size w W)) (fun _ _ i _ => b.slots.length - (intOf i).toNat)
      case atStart => exact ⟨0, by omega, rfl, HZ, HX, HB⟩
      case round =>
        clear HZ HX HB
        obtain ⟨k, hk, rfl, HO, HX, HB⟩ := hrel
        obtain ⟨W, rfl⟩ : ∃ W : World, W = wr := ⟨_, rfl⟩
        by_cases hkn : k < b.slots.length
        · have hkb : decide ((k : Int) < (b.slots.length : Int)) = true := by simp; omega
          obtain ⟨ad, eA, hx⟩ := Kd.at_int (Kd.C_below C1.out HB.out) k (by omega) (by omega)
          cases eA
          rw [Int.toNat_natCast] at hx
          have p1 : ((k : Int) < (b.slots.length : Int)) = True := eq_true (by omega)
          obtain ⟨m, hm⟩ : ∃ m : Nat, rd b.slots k = (m : Int) := ⟨(rd b.slots k).toNat, by have := (U8s_rd HK.out.s8 k).1; omega⟩
          have hm2 : m < 256 := by have := (U8s_rd HK.out.s8 k).2; omega
          rw [hm] at hx
          obtain ⟨L, hL⟩ : ∃ L : List Int, L = PA ++ b.slots.take (k + 1) := ⟨_, rfl⟩
          obtain ⟨L0, hL0⟩ : ∃ L0 : List Int, L0 = PA ++ b.slots.take k := ⟨_, rfl⟩
          have HLq := Aside0.mk hL
          have HT := Aside0.mk (show L = L0 ++ [(m : Int)] by
            rw [hL, hL0, ← hm, List.take_add_one, List.getElem?_eq_getElem hkn]; simp [rd, List.getD, hkn])
          rw [← hL0] at HO
          have hlen := Aside0.mk (show L0.length ≤ 10000 by have := HPL.out; have := HSL.out; rw [hL0, List.length_append, List.length_take]; omega)
          clear hL hL0 hm
          obtain ⟨Ao, co, rfl⟩ := Kd.R_slice HO.out
          go_wp2_with (first | ((with_reducible refine gate_builtin (b := .append) (xs := #[.tmp 54, .tmp 57]) rfl ?_); at_builtin; refine Kd.R_append (Kd.int .u8) (w0 := w) w.heap.size rfl (.tmp 54) (.tmp 57) 48 5 (.int .u8 0) 1 rfl Try.underlying48 info_u8 rfl (by decide) (by omega) _ L0 (m : Int) [.int .u8 (m : Int)] (fun _ => True) (fun _ => False) rfl rfl rfl (fun _ hk => hk.elim) (fun _ _ => trivial) HO.out HB.out HB.out.size (by have := hlen.out; omega) ?_; intro v1 w1 ho1 hb1 hg1 hat1; have HX1 := Aside0.mk (HX.out.grown hg1 (HX.out.ne_row HO.out (by decide))); rw [← HT.out] at ho1; have HO1 := Aside0.mk ho1; have HB1 := Aside0.mk hb1; clear ho1 hb1 hg1 hat1 HX HO HB hx))
          go_roundw
          case rel => exact ⟨k + 1, by omega, by go_num, ⟨by rw [← HLq.out]; exact HO1.out⟩, HX1, HB1⟩
          case measure => simp [intOf]; omega
        · obtain rfl : k = b.slots.length := by omega
          have hkb : decide ((b.slots.length : Int) < (b.slots.length : Int)) = false := by simp
          rw [List.take_of_length_le (Nat.le_refl b.slots.length)] at HO
          obtain ⟨L4, hL4⟩ : ∃ L4 : List Int, L4 = PA ++ b.slots := ⟨_, rfl⟩
          obtain ⟨L5, hL5⟩ : ∃ L5 : List Int, L5 = L4 ++ [(b.free.length : Int)] := ⟨_, rfl⟩
          have H4 := Aside0.mk hL4
          have H5 := Aside0.mk hL5
          rw [← hL4] at HO
          have l4 := Aside0.mk (show L4.length ≤ 10000 by have := HPL.out; have := HSL.out; rw [hL4, List.length_append]; omega)
          have l5 := Aside0.mk (show L5.length ≤ 10001 by have := l4.out; rw [hL5, List.length_append, List.length_singleton]; omega)
          clear hL4 hL5
          obtain ⟨Ao, co, rfl⟩ := Kd.R_slice HO.out
          have hc3 := HX.out.cell 3 _ rfl
          go_wp2_with (first | ((with_reducible refine gate_builtin (b := .append) (xs := #[.tmp 60, .tmp 65]) rfl ?_); at_builtin; refine Kd.R_append (Kd.int .u8) (w0 := w) w.heap.size rfl (.tmp 60) (.tmp 65) 48 5 (.int .u8 0) 1 rfl Try.underlying48 info_u8 rfl (by decide) (by omega) _ L4 (b.free.length : Int) [.int .u8 (b.free.length : Int)] (fun _ => True) (fun _ => False) rfl rfl rfl (fun _ hk => hk.elim) (fun _ _ => trivial) HO.out HB.out HB.out.size (by have := l4.out; omega) ?_; intro v1 w1 ho1 hb1 hg1 hat1; have HX1 := Aside0.mk (HX.out.grown hg1 (HX.out.ne_row HO.out (by decide))); rw [← H5.out] at ho1; have HO1 := Aside0.mk (show Kd.R (Kd.int .u8) 5 w1 w.heap.size (fun _ => True) v1 (L5 ++ b.free.take 0) by rw [List.take_zero, List.append_nil]; exact ho1); have HB1 := Aside0.mk hb1; have hc3' := HX1.out.cell 3 _ rfl; clear ho1 hb1 hg1 hat1 HX HO HB hc3))
          clear hc3'
          go_loopw [3, 9, 70] (fun s _ i W => ∃ k : Nat, k ≤ b.free.length ∧ i = .int .i64 k ∧ Aside0 (Kd.R (Kd.int .u8) 5 W w.heap.size (fun _ => True) s (L5 ++ b.free.take k)) ∧ Aside0 (Below w.heap.size w W)) (fun _ _ i _ => b.free.length - (intOf i).toNat)
          case atStart => exact ⟨0, by omega, rfl, HO1, HB1⟩
          case round =>
            clear HO1 HX1 HB1
            obtain ⟨k, hk, rfl, HO, HB⟩ := hrel
            obtain ⟨W, rfl⟩ : ∃ W : World, W = wr := ⟨_, rfl⟩
            by_cases hkn : k < b.free.length
            · have hkb : decide ((k : Int) < (b.free.length : Int)) = true := by simp; omega
              obtain ⟨ad, eA, hx⟩ := Kd.at_int (Kd.C_below C2.out HB.out) k (by omega) (by omega)
              cases eA
              rw [Int.toNat_natCast] at hx
              have p1 : ((k : Int) < (b.free.length : Int)) = True := eq_true (by omega)
              obtain ⟨m, hm⟩ : ∃ m : Nat, rd b.free k = (m : Int) := ⟨(rd b.free k).toNat, by have := (U8s_rd HK.out.f8 k).1; omega⟩
              have hm2 : m < 256 := by have := (U8s_rd HK.out.f8 k).2; omega
              rw [hm] at hx
              obtain ⟨L, hL⟩ : ∃ L : List Int, L = L5 ++ b.free.take (k + 1) := ⟨_, rfl⟩
              obtain ⟨L0, hL0⟩ : ∃ L0 : List Int, L0 = L5 ++ b.free.take k := ⟨_, rfl⟩
              have HLq := Aside0.mk hL
              have HT := Aside0.mk (show L = L0 ++ [(m : Int)] by
                rw [hL, hL0, ← hm, List.take_add_one, List.getElem?_eq_getElem hkn]; simp [rd, List.getD, hkn])
              rw [← hL0] at HO
              have hlen := Aside0.mk (show L0.length ≤ 11000 by have := l5.out; have := HFL.out; rw [hL0, List.length_append, List.length_take]; omega)
              clear hL hL0 hm
              obtain ⟨Ao, co, rfl⟩ := Kd.R_slice HO.out
              go_wp2_with (first | ((with_reducible refine gate_builtin (b := .append) (xs := #[.tmp 74, .tmp 77]) rfl ?_); at_builtin; refine Kd.R_append (Kd.int .u8) (w0 := w) w.heap.size rfl (.tmp 74) (.tmp 77) 48 5 (.int .u8 0) 1 rfl Try.underlying48 info_u8 rfl (by decide) (by omega) _ L0 (m : Int) [.int .u8 (m : Int)] (fun _ => True) (fun _ => False) rfl rfl rfl (fun _ hk => hk.elim) (fun _ _ => trivial) HO.out HB.out HB.out.size (by have := hlen.out; omega) ?_; intro v1 w1 ho1 hb1 hg1 hat1; rw [← HT.out] at ho1; have HO1 := Aside0.mk ho1; have HB1 := Aside0.mk hb1; clear ho1 hb1 hg1 hat1 HO HB hx))
              go_roundw
              case rel => exact ⟨k + 1, by omega, by go_num, ⟨by rw [← HLq.out]; exact HO1.out⟩, HB1⟩
              case measure => simp [intOf]; omega
            · obtain rfl : k = b.free.length := by omega
              have hkb : decide ((b.free.length : Int) < (b.free.length : Int)) = false := by simp
              rw [List.take_of_length_le (Nat.le_refl b.free.length)] at HO
              have HI := Aside0.mk (show L5 ++ b.free = imgOf b by
                rw [H5.out, H4.out, HPA.out]
                simp [imgOf])
              obtain ⟨L6, hL6⟩ : ∃ L6 : List Int, L6 = L5 ++ b.free := ⟨_, rfl⟩
              have H6 := Aside0.mk hL6
              rw [← hL6] at HO
              clear hL6
              obtain ⟨A9, c9, hq9, hcc9, hC9⟩ := Kd.R_reads HO.out
              subst hq9
              have hst := Kd.C_string (P := Try.prog) (src := 48) (dst := 9) (c := c9) Try.underlying48 Try.underlying5 Try.underlying9 hC9
              clear hC9
              go_wp2_with fail
              go_ret
              exact ⟨by rw [← HI.out, ← H6.out]; rfl, HB.out⟩
end Go.Proofs.Ytemhalnhbgkbcaa.V
end

-- BFits
section
/- ImageFits: the walk; chapter 16's example. -/
namespace Go.Proofs.Ytemhalnhbgkbcaa.V
open Go.RowKit Go.Proofs.YtemhalnhbgkbcaaW.PrintWords Go.Proofs.YtemhalnhbgkbcaaW.PrintLast Go.Proofs.YtemhalnhbgkbcaaW.PrintMore
set_option linter.unusedVariables false
set_option linter.unusedSimpArgs false

theorem new_nb0 (w : World) : Calls Try.prog 41 #[.int .u32 0, .string ⟨#[]⟩] w fun e w' => ∃ vf va, e = .returned (.tuple #[.agg (bkL nb0.addr nb0.aff nb0.slots vf va).toArray, .int .i64 0]) ∧ BkV w' (.agg (bkL nb0.addr nb0.aff nb0.slots vf va).toArray) nb0 ∧ Below w.heap.size w w' ∧ vf.oneCell' = true ∧ va.oneCell' = true := by
  refine (new_any 0 (by omega) (by omega) ⟨#[]⟩ w).mono ?_
  rintro e w' ⟨v, rfl, hb, hw⟩
  have e1 : ownerB ⟨#[]⟩ = true := by kernel_rfl
  rw [if_pos e1] at hb ⊢
  have hv := hb.toV
  obtain ⟨hl, vf, va, rfl, hf, ha⟩ := hb
  refine ⟨vf, va, rfl, hv, hw, ?_, ?_⟩
  · obtain ⟨A, c, rfl⟩ := Kd.R_slice hf; rfl
  · obtain ⟨A, c, rfl⟩ := Kd.R_slice ha; rfl
theorem nb0_l64 : nb0.slots.length = 64 := rfl
theorem iput_nb0 (v : Value) (w : World) (h : BkV w v nb0) : Calls Try.prog 32 #[v] w fun e w' => ∃ s : ByteArray, e = .returned (.tuple #[.string s, .int .i64 0]) ∧ s.size = 136 ∧ Below w.heap.size w w' := by
  refine (iput_any nb0 nb0_ok v w h).mono ?_
  rintro e w' ⟨rfl, hb⟩
  rw [if_pos nb0_right, if_pos nb0_right]
  exact ⟨_, rfl, by rw [strOfNums_size, nb0_len], hb⟩
theorem isize_nb0 (v : Value) (w : World) (h : BkV w v nb0) : Calls Try.prog 37 #[v] w fun e w' => e = .returned (.int .i64 136) ∧ Below w.heap.size w w' := by
  refine (isize_any nb0 nb0_ok v w h).mono ?_
  rintro e w' ⟨rfl, hb⟩
  rw [if_pos nb0_right, nb0_len]
  exact ⟨rfl, hb⟩
set_option maxHeartbeats 4000000 in
set_option maxRecDepth 100000 in
theorem awake16_any (w : World) : Calls Try.prog 34 #[] w fun e w' => e = .returned (.bool true) ∧ Below w.heap.size w w' := by
  obtain ⟨L, hL⟩ : ∃ L : Value → Value → List Value, L = bkL nb0.addr nb0.aff nb0.slots := ⟨_, rfl⟩
  have HLL := Aside0.mk (show ∀ u v, (L u v).length = 68 by intro u v; rw [hL]; exact bkL_length _ _ _ _ _ nb0_l64)
  have HLO := Aside0.mk (show ∀ u v, u.oneCell' = true → v.oneCell' = true → ∀ x ∈ L u v, x.oneCell' = true by intro u v h1 h2; rw [hL]; exact bkL_one _ _ _ _ _ h1 h2)
  have hnew := new_nb0
  rw [← hL] at hnew
  have HNW := Aside0.mk hnew
  clear hL hnew
  go_enter Try.func34, Try.ntmps34
  go_wp2_with (first
    | (go_at_call 41; refine (HNW.out _).mono ?_; rintro e W1 ⟨vf, va, rfl, hv, hb, h1, h2⟩; have HV1 := Aside0.mk hv; have HB1 := Aside0.mk hb; have HO := Aside0.mk (And.intro h1 h2); clear hv hb h1 h2)
    | (refine step_allocN (some 1) rfl rfl 57 rfl zeroL zero57 ?_; intro g1 W2 hg1 hbx hb2; have HX2 := Aside0.mk hbx; have HB12 := Aside0.mk hb2; have HB2 := Aside0.mk (HB1.out.trans (hb2.mono HB1.out.size)); have HG1 := Aside0.mk (show w.heap.size ≤ g1 by have := HB1.out.size; omega); have HLT := Aside0.mk (show W1.heap.size ≤ g1 from hg1); clear hbx hb2 hg1)
    | (refine step_store rfl 57 (.tmp 1) (.tmp 7) rfl g1 (L vf va) rfl rfl 57 _ HX2.out 68 (by kernel_rfl) (HLL.out _ _) rfl (HLO.out _ _ HO.out.1 HO.out.2) ?_; intro W3 hx3 hg3; have HX3 := Aside0.mk hx3; have HB3 := Aside0.mk (HB2.out.grown hg3 HB2.out.size (by intro k hk; cases hk; exact HG1.out)); have HV3 := Aside0.mk (HV1.out.below (HB12.out.grown hg3 HB12.out.size (by intro k hk; cases hk; exact HLT.out))); clear hx3 hg3)
    | (refine step_load rfl 57 (.tmp 1) rfl g1 rfl _ _ _ HX3.out Try.underlying57 rfl 68 (by kernel_rfl) (HLL.out _ _) ?_)
    | (go_at_call 32; refine (iput_nb0 _ _ HV3.out).mono ?_; rintro e W4 ⟨s, rfl, hs, hb4⟩; have HS := Aside0.mk hs; have HX4 := Aside0.mk (HX3.out.below hb4); have HV4 := Aside0.mk (HV3.out.below hb4); have HB4 := Aside0.mk (HB3.out.trans (hb4.mono HB3.out.size)); clear hb4)
    | ((with_reducible refine gate_dst (N := 22) rfl ?_); refine gate_guard (by rfl) ?_; refine step_load rfl 57 (.tmp 1) rfl g1 rfl _ _ _ HX4.out Try.underlying57 rfl 68 (by kernel_rfl) (HLL.out _ _) ?_)
    | (go_at_call 37; refine (isize_nb0 _ _ HV4.out).mono ?_; rintro e W5 ⟨rfl, hb5⟩; have HB5 := Aside0.mk (HB4.out.trans (hb5.mono HB4.out.size)); clear hb5))
  go_ret
  exact ⟨rfl, HB5.out⟩
end Go.Proofs.Ytemhalnhbgkbcaa.V
end

-- VE76
section
-- PRINTED by print.py (a twelfth state) out of the translation. Not trusted: Lean checks it.
namespace Go.Proofs.Ytemhalnhbgkbcaa.V
open Go.RowKit Go.Proofs.YtemhalnhbgkbcaaW.PrintWords Go.Proofs.YtemhalnhbgkbcaaW.PrintLast Go.Proofs.YtemhalnhbgkbcaaW.PrintMore
attribute [local go_sem] max2_int min2_int max_two min_two max_three min_three max_four min_four   -- for this text's walks alone
set_option linter.unusedVariables false
set_option linter.unusedSimpArgs false

theorem eqA76 (d : Nat) (w : World) (x0 y0 : ByteArray) (x1 y1 : ByteArray) :
    (Op.equalIn (d + 2) 76 (.agg #[.string x0, .string x1]) (.agg #[.string y0, .string y1])).run Try.prog w = .ok (x0.toList == y0.toList && (x1.toList == y1.toList)) w := by
  refine eqA_of Try.underlying76 (by kernel_rfl) ?_
  refine eqf_cons (by rfl) (by go_simp; rfl) (by go_simp; rfl) (by go_simp) ?_
  exact eqf_last (by rfl) (by go_simp; rfl) (by go_simp; rfl) (by go_simp)
end Go.Proofs.Ytemhalnhbgkbcaa.V
end

-- VFVirgateref15Owner
section
-- PRINTED by print.py (a twelfth state) out of the translation. Not trusted: Lean checks it.
namespace Go.Proofs.Ytemhalnhbgkbcaa.V
open Go.RowKit Go.Proofs.YtemhalnhbgkbcaaW.PrintWords Go.Proofs.YtemhalnhbgkbcaaW.PrintLast Go.Proofs.YtemhalnhbgkbcaaW.PrintMore
attribute [local go_sem] max2_int min2_int max_two min_two max_three min_three max_four min_four   -- for this text's walks alone
set_option linter.unusedVariables false
set_option linter.unusedSimpArgs false

/-! ### virgateref15_Owner: function 42 -/
def virgateref15_Owner.f (k : Nat) (a0 : ByteArray) : Option (Bool) := if a0.toList = ([] : List UInt8) then (some true) else ((virgateref12_Right.f k a0).bind fun t42101 => (some t42101))
theorem virgateref15_Owner.mono : ∀ a0 k, LeO (virgateref15_Owner.f k a0) (virgateref15_Owner.f (k + 1) a0) := by
  intro a0 k
  unfold virgateref15_Owner.f
  repeat' first
      | (with_reducible exact virgateref12_Right.mono _ _)
      | (with_reducible exact LeO.refl _)
      | (with_reducible exact LeO.none _)
      | (with_reducible refine LeO.ite ?_ ?_)
      | (with_reducible refine LeO.bind ?_ (fun _ => ?_))
      | exact virgateref12_Right.mono _ _
      | exact LeO.none _
      | refine LeO.ite ?_ ?_
      | refine LeO.bind ?_ (fun _ => ?_)
set_option maxHeartbeats 8000000 in
set_option maxRecDepth 100000 in
theorem virgateref15_Owner.calls (k : Nat) (a0 : ByteArray) (r : Bool) (w : World) (h : virgateref15_Owner.f k a0 = some r) :
    Calls Try.prog 42 #[.string a0] w fun e w' => e = .returned (.bool r) ∧ Drawn0 w w' := by
  have H : (if a0.toList = ([] : List UInt8) then (some true) else ((virgateref12_Right.f k a0).bind fun t42101 => (some t42101))) = some r := h
  clear h
  by_cases c2 : a0.toList = ([] : List UInt8)
  · rw [if_pos c2] at H
    have c2b0 : (a0.toList == ([] : List UInt8)) = true := beq_iff_eq.mpr c2
    have c2b1 : (a0.toList != ([] : List UInt8)) = false := bne_eq_false_iff_eq.mpr c2
    clear c2
    obtain rfl := Option.some.inj H
    go_enter Try.func42, Try.ntmps42
    go_wp2
    go_ret
    exact ⟨by first | rfl | (simp; done) | (simp [*]; done), by repeat (first | exact Drawn0.refl _ | apply Drawn0.step)⟩
  · rw [if_neg c2] at H
    have c2b0 : (a0.toList == ([] : List UInt8)) = false := beq_eq_false_iff_ne.mpr c2
    have c2b1 : (a0.toList != ([] : List UInt8)) = true := bne_iff_ne.mpr c2
    replace H := Option.bind_eq_some_iff.mp H
    obtain ⟨t42101, A30, H⟩ := H
    replace H : (some t42101) = some r := H
    have A3 := Aside0.mk A30
    clear A30
    obtain rfl := Option.some.inj H
    go_enter Try.func42, Try.ntmps42
    go_wp2_with (first | (go_at_call 81; (with_reducible refine (virgateref12_Right.calls k a0 t42101 _ A3.out).mono ?_); rintro e w' ⟨rfl, ⟨nd, rfl⟩⟩))
    go_ret
    exact ⟨by first | rfl | (simp; done) | (simp [*]; done), by repeat (first | exact Drawn0.refl _ | apply Drawn0.step)⟩
end Go.Proofs.Ytemhalnhbgkbcaa.V
end

-- VFVirgateref15May
section
-- PRINTED by print.py (a twelfth state) out of the translation. Not trusted: Lean checks it.
namespace Go.Proofs.Ytemhalnhbgkbcaa.V
open Go.RowKit Go.Proofs.YtemhalnhbgkbcaaW.PrintWords Go.Proofs.YtemhalnhbgkbcaaW.PrintLast Go.Proofs.YtemhalnhbgkbcaaW.PrintMore
attribute [local go_sem] max2_int min2_int max_two min_two max_three min_three max_four min_four   -- for this text's walks alone
set_option linter.unusedVariables false
set_option linter.unusedSimpArgs false

/-! ### virgateref15_May: function 60 -/
def virgateref15_May.f (k : Nat) (a0_0 : ByteArray) (a0_1 : ByteArray) : Option (Bool) := (virgateref12_Right.f k a0_0).bind fun t60102 => (if t60102 = true then ((virgateref12_Right.f k a0_1).bind fun t60103 => (some t60103)) else (some false))
theorem virgateref15_May.mono : ∀ a0 a1 k, LeO (virgateref15_May.f k a0 a1) (virgateref15_May.f (k + 1) a0 a1) := by
  intro a0 a1 k
  unfold virgateref15_May.f
  repeat' first
      | (with_reducible exact virgateref12_Right.mono _ _)
      | (with_reducible exact LeO.refl _)
      | (with_reducible exact LeO.none _)
      | (with_reducible refine LeO.ite ?_ ?_)
      | (with_reducible refine LeO.bind ?_ (fun _ => ?_))
      | exact virgateref12_Right.mono _ _
      | exact LeO.none _
      | refine LeO.ite ?_ ?_
      | refine LeO.bind ?_ (fun _ => ?_)
set_option maxHeartbeats 8000000 in
set_option maxRecDepth 100000 in
theorem virgateref15_May.calls (k : Nat) (a0_0 : ByteArray) (a0_1 : ByteArray) (r : Bool) (w : World) (h : virgateref15_May.f k a0_0 a0_1 = some r) :
    Calls Try.prog 60 #[.agg #[.string a0_0, .string a0_1]] w fun e w' => e = .returned (.bool r) ∧ Below w.heap.size w w' := by
  have hu76 := Try.underlying76
  have HB := Aside0.mk (Below.refl w.heap.size w)
  have H : ((virgateref12_Right.f k a0_0).bind fun t60102 => (if t60102 = true then ((virgateref12_Right.f k a0_1).bind fun t60103 => (some t60103)) else (some false))) = some r := h
  clear h
  replace H := Option.bind_eq_some_iff.mp H
  obtain ⟨t60102, A20, H⟩ := H
  replace H : (if t60102 = true then ((virgateref12_Right.f k a0_1).bind fun t60103 => (some t60103)) else (some false)) = some r := H
  have A2 := Aside0.mk A20
  clear A20
  by_cases c3 : t60102 = true
  · subst c3
    have H1 : ((virgateref12_Right.f k a0_1).bind fun t60103 => (some t60103)) = some r := by rw [if_pos rfl] at H; exact H
    clear H
    have H := H1
    clear H1
    replace H := Option.bind_eq_some_iff.mp H
    obtain ⟨t60103, A40, H⟩ := H
    replace H : (some t60103) = some r := H
    have A4 := Aside0.mk A40
    clear A40
    obtain rfl := Option.some.inj H
    go_enter Try.func60, Try.ntmps60
    go_wp2_with (first | ((with_reducible refine gate_dst (N := 1) rfl ?_); refine box_event ?hg (N := 1) ?hd (cs := #[.string a0_0, .string a0_1]) (t := 76) ?hr ?_; (case hd => rfl); (case hg => rfl); (case hr => first | (go_simp; done) | (go_simp; rfl)); intro gb60101 hg w5 hbox hb; have n0_ := Aside0.mk (below_step (by repeat (first | (with_reducible first | exact HB.out | apply below_alloc | apply pw_below_drewN | apply below_drew1) | exact HB.out)) hb); have n1_ := Aside0.mk (hbox); have n2_ := Aside0.mk ((by rw [hg]; exact (below_size (by repeat (first | (with_reducible first | exact HB.out | apply below_alloc | apply pw_below_drewN | apply below_drew1) | exact HB.out))) : w.heap.size ≤ gb60101)); have n3_ := Aside0.mk ((by rw [hg]; exact (below_size (by repeat (first | (with_reducible first | exact HB.out | apply below_alloc | apply pw_below_drewN | apply below_drew1) | exact HB.out))) : w.heap.size ≤ gb60101)); clear HB; have HB := n0_; have BK60101 := n1_; have GW60101 := n2_; have GE60101 := n3_; clear n0_ n1_ n2_ n3_; clear hb hbox hg; have hcz6_0 : w5.cell? ⟨gb60101, 0, none⟩ = some (.string a0_0) := (blk_cell BK60101.out 0).trans rfl; have hcz6_1 : w5.cell? ⟨gb60101, 1, none⟩ = some (.string a0_1) := (blk_cell BK60101.out 1).trans rfl; have hfz6_0 := blk_frozen BK60101.out 0; have hfz6_1 := blk_frozen BK60101.out 1) | ((with_reducible refine gate_callee (f := 81) rfl ?_); refine goesL_ (some 5) rfl rfl Try.func81 (by kernel_rfl) rfl #[.string a0_0] rfl (by (try simp only [List.map_toArray, List.map_cons, List.map_nil]); first | done | rfl | (simp only [List.length_drop, List.length_take]; rfl)) ?_; (with_reducible refine (virgateref12_Right.calls k a0_0 true _ A2.out).mono ?_); rintro e w' ⟨rfl, ⟨nd, rfl⟩⟩; refine ⟨_, rfl, ?_⟩) | (go_at_call 81; (with_reducible refine (virgateref12_Right.calls k a0_1 t60103 _ A4.out).mono ?_); rintro e w' ⟨rfl, ⟨nd, rfl⟩⟩))
    go_ret
    exact ⟨by first | rfl | (simp [errW_none, errW_some] <;> rfl) | (simp [*, errW_none, errW_some] <;> rfl), by repeat (first | (with_reducible first | exact HB.out | apply below_alloc | apply pw_below_drewN | apply below_drew1 | refine below_set ?_ GE60101.out) | exact HB.out)⟩
  · replace c3 := Bool.eq_false_iff.mpr c3
    subst c3
    have H1 : (some false) = some r := by rw [if_neg (show ¬ (false = true) by decide)] at H; exact H
    clear H
    have H := H1
    clear H1
    obtain rfl := Option.some.inj H
    go_enter Try.func60, Try.ntmps60
    go_wp2_with (first | ((with_reducible refine gate_dst (N := 1) rfl ?_); refine box_event ?hg (N := 1) ?hd (cs := #[.string a0_0, .string a0_1]) (t := 76) ?hr ?_; (case hd => rfl); (case hg => rfl); (case hr => first | (go_simp; done) | (go_simp; rfl)); intro gb60101 hg w7 hbox hb; have n0_ := Aside0.mk (below_step (by repeat (first | (with_reducible first | exact HB.out | apply below_alloc | apply pw_below_drewN | apply below_drew1) | exact HB.out)) hb); have n1_ := Aside0.mk (hbox); have n2_ := Aside0.mk ((by rw [hg]; exact (below_size (by repeat (first | (with_reducible first | exact HB.out | apply below_alloc | apply pw_below_drewN | apply below_drew1) | exact HB.out))) : w.heap.size ≤ gb60101)); have n3_ := Aside0.mk ((by rw [hg]; exact (below_size (by repeat (first | (with_reducible first | exact HB.out | apply below_alloc | apply pw_below_drewN | apply below_drew1) | exact HB.out))) : w.heap.size ≤ gb60101)); clear HB; have HB := n0_; have BK60101 := n1_; have GW60101 := n2_; have GE60101 := n3_; clear n0_ n1_ n2_ n3_; clear hb hbox hg; have hcz8_0 : w7.cell? ⟨gb60101, 0, none⟩ = some (.string a0_0) := (blk_cell BK60101.out 0).trans rfl; have hcz8_1 : w7.cell? ⟨gb60101, 1, none⟩ = some (.string a0_1) := (blk_cell BK60101.out 1).trans rfl; have hfz8_0 := blk_frozen BK60101.out 0; have hfz8_1 := blk_frozen BK60101.out 1) | ((with_reducible refine gate_callee (f := 81) rfl ?_); refine goesL_ (some 5) rfl rfl Try.func81 (by kernel_rfl) rfl #[.string a0_0] rfl (by (try simp only [List.map_toArray, List.map_cons, List.map_nil]); first | done | rfl | (simp only [List.length_drop, List.length_take]; rfl)) ?_; (with_reducible refine (virgateref12_Right.calls k a0_0 false _ A2.out).mono ?_); rintro e w' ⟨rfl, ⟨nd, rfl⟩⟩; refine ⟨_, rfl, ?_⟩))
    go_ret
    exact ⟨by first | rfl | (simp [errW_none, errW_some] <;> rfl) | (simp [*, errW_none, errW_some] <;> rfl), by repeat (first | (with_reducible first | exact HB.out | apply below_alloc | apply pw_below_drewN | apply below_drew1 | refine below_set ?_ GE60101.out) | exact HB.out)⟩
end Go.Proofs.Ytemhalnhbgkbcaa.V
end

-- VFVirgateref15Count
section
-- PRINTED by print.py (a twelfth state) out of the translation. Not trusted: Lean checks it.
namespace Go.Proofs.Ytemhalnhbgkbcaa.V
open Go.RowKit Go.Proofs.YtemhalnhbgkbcaaW.PrintWords Go.Proofs.YtemhalnhbgkbcaaW.PrintLast Go.Proofs.YtemhalnhbgkbcaaW.PrintMore
attribute [local go_sem] max2_int min2_int max_two min_two max_three min_three max_four min_four   -- for this text's walks alone
set_option linter.unusedVariables false
set_option linter.unusedSimpArgs false

/-! ### virgateref15_count: function 68 -/
def virgateref15_count.l0 : Nat → Int → Int → List Int → Int → Int → Option (Int)
  | 0, _, _, _, _, _ => none
  | k + 1, x1, x5, x8, x9, x10 => if x10 < x9 then (if 0 ≤ x10 then (if x10 < (x8.length : Int) then (if (rd x8 x10) = x1 then (virgateref15_count.l0 k x1 (wrap64 (x5 + 1)) x8 x9 (wrap64 (x10 + 1))) else (virgateref15_count.l0 k x1 x5 x8 x9 (wrap64 (x10 + 1)))) else (none)) else (none)) else (some x5)
def virgateref15_count.f (k : Nat) (l0 : List Int) (a1 : Int) : Option (Int) := virgateref15_count.l0 k a1 0 l0 (l0.length : Int) 0
theorem virgateref15_count.mono_l : ∀ k, (∀ y0 y1 y2 y3 y4, LeO (virgateref15_count.l0 k y0 y1 y2 y3 y4) (virgateref15_count.l0 (k + 1) y0 y1 y2 y3 y4))
  | 0 => fun _ _ _ _ _ r h => by simp [virgateref15_count.l0] at h
  | k + 1 => by
    have ih0 := virgateref15_count.mono_l k
    · intro y0 y1 y2 y3 y4
      unfold virgateref15_count.l0
      repeat' first
      | (with_reducible exact ih0 _ _ _ _ _)
      | (with_reducible exact LeO.refl _)
      | (with_reducible exact LeO.none _)
      | (with_reducible refine LeO.ite ?_ ?_)
      | (with_reducible refine LeO.bind ?_ (fun _ => ?_))
      | exact ih0 _ _ _ _ _
      | exact LeO.none _
      | refine LeO.ite ?_ ?_
      | refine LeO.bind ?_ (fun _ => ?_)
theorem virgateref15_count.mono : ∀ a0 a1 k, LeO (virgateref15_count.f k a0 a1) (virgateref15_count.f (k + 1) a0 a1) := by
  intro a0 a1 k
  have ih0 := virgateref15_count.mono_l k
  unfold virgateref15_count.f
  repeat' first
      | (with_reducible exact ih0 _ _ _ _ _)
      | (with_reducible exact LeO.refl _)
      | (with_reducible exact LeO.none _)
      | (with_reducible refine LeO.ite ?_ ?_)
      | (with_reducible refine LeO.bind ?_ (fun _ => ?_))
      | exact ih0 _ _ _ _ _
      | exact LeO.none _
      | refine LeO.ite ?_ ?_
      | refine LeO.bind ?_ (fun _ => ?_)
set_option maxHeartbeats 8000000 in
set_option maxRecDepth 100000 in
theorem virgateref15_count.calls (k : Nat) (A0 : Option Addr) (c0 : Nat) (l0 : List Int) (a1 : Int) (r : Int) (w : World) (hr0 : Kd.C (Kd.int .i64) w A0 l0.length l0) (hc0 : l0.length ≤ c0) (h : virgateref15_count.f k l0 a1 = some r) :
    Calls Try.prog 68 #[.slice A0 l0.length c0, .int .i64 a1] w fun e w' => e = .returned (.int .i64 r) ∧ Drawn0 w w' := by
  have HR0 := Aside0.mk hr0
  have HC0 := Aside0.mk hc0
  clear hr0 hc0
  have H : (virgateref15_count.l0 k a1 0 l0 (l0.length : Int) 0) = some r := h
  clear h
  have H' := Aside0.mk H
  clear H
  go_enter Try.func68, Try.ntmps68
  go_wp2
  go_loopg [5, 10] k (fun kq v5 v10 w' => ∃ (x5_1 : Int) (x10_1 : Int), v5 = .int .i64 x5_1 ∧ v10 = .int .i64 x10_1 ∧ Aside0 (virgateref15_count.l0 kq a1 x5_1 l0 (l0.length : Int) x10_1 = some r) ∧ Aside0 (kq ≤ k) ∧ Drawn0 w w')
  case atStart => exact ⟨(0), (0), (by first | rfl | (simp; done) | (simp [*]; done)), (by first | rfl | (simp; done) | (simp [*]; done)), H', ⟨Nat.le_refl _⟩, by repeat (first | exact Drawn0.refl _ | apply Drawn0.step)⟩
  case round =>
    clear H'
    try clear p2
    obtain ⟨x5_1, x10_1, rfl, rfl, HA, HK1, ⟨m1, rfl⟩⟩ := hrel
    cases gk with
    | zero => exact absurd HA.out (by simp [virgateref15_count.l0])
    | succ k1 =>
      have H := HA.out
      clear HA
      simp only [virgateref15_count.l0] at H
      by_cases c3 : x10_1 < (l0.length : Int)
      · rw [if_pos c3] at H
        have c3b0 : decide (x10_1 < (l0.length : Int)) = true := decide_eq_true c3
        clear c3
        by_cases c4 : 0 ≤ x10_1
        · rw [if_pos c4] at H
          have c4b0 : decide (0 ≤ x10_1) = true := decide_eq_true c4
          clear c4
          by_cases c5 : x10_1 < (l0.length : Int)
          · rw [if_pos c5] at H
            have c5b0 : decide (x10_1 < (l0.length : Int)) = true := decide_eq_true c5
            clear c5
            by_cases c6 : (rd l0 x10_1) = a1
            · rw [if_pos c6] at H
              have c6b0 : ((rd l0 x10_1) == a1) = true := beq_iff_eq.mpr c6
              have c6b1 : ((rd l0 x10_1) != a1) = false := bne_eq_false_iff_eq.mpr c6
              clear c6
              have H' := Aside0.mk H
              clear H
              have p68101 : 0 ≤ (x10_1 : Int) := of_decide_eq_true (by first | (with_reducible assumption) | assumption)
              have q68101 : x10_1 < (l0.length : Int) := of_decide_eq_true (by first | (with_reducible assumption) | assumption)
              obtain ⟨ad68101, e68101, hx68101_0⟩ := Kd.at_int HR0.out x10_1 p68101 q68101
              cases e68101
              replace p68101 := eq_true p68101
              replace q68101 := eq_true q68101
              go_wp2
              go_roundg k1
              case measure => have := HK1.out; omega
              case rel => exact ⟨(wrap64 (x5_1 + 1)), (wrap64 (x10_1 + 1)), (by first | rfl | (simp; done) | (simp [*]; done)), (by first | rfl | (simp; done) | (simp [*]; done)), H', ⟨by have := HK1.out; omega⟩, by repeat (first | exact Drawn0.refl _ | apply Drawn0.step)⟩
            · rw [if_neg c6] at H
              have c6b0 : ((rd l0 x10_1) == a1) = false := beq_eq_false_iff_ne.mpr c6
              have c6b1 : ((rd l0 x10_1) != a1) = true := bne_iff_ne.mpr c6
              have H' := Aside0.mk H
              clear H
              have p68101 : 0 ≤ (x10_1 : Int) := of_decide_eq_true (by first | (with_reducible assumption) | assumption)
              have q68101 : x10_1 < (l0.length : Int) := of_decide_eq_true (by first | (with_reducible assumption) | assumption)
              obtain ⟨ad68101, e68101, hx68101_0⟩ := Kd.at_int HR0.out x10_1 p68101 q68101
              cases e68101
              replace p68101 := eq_true p68101
              replace q68101 := eq_true q68101
              go_wp2
              go_roundg k1
              case measure => have := HK1.out; omega
              case rel => exact ⟨(x5_1), (wrap64 (x10_1 + 1)), (by first | rfl | (simp; done) | (simp [*]; done)), (by first | rfl | (simp; done) | (simp [*]; done)), H', ⟨by have := HK1.out; omega⟩, by repeat (first | exact Drawn0.refl _ | apply Drawn0.step)⟩
          · rw [if_neg c5] at H
            exact absurd H (by simp)
        · rw [if_neg c4] at H
          exact absurd H (by simp)
      · rw [if_neg c3] at H
        have c3b0 : decide (x10_1 < (l0.length : Int)) = false := decide_eq_false c3
        clear c3
        obtain rfl := Option.some.inj H
        go_wp2
        go_ret
        exact ⟨by first | rfl | (simp; done) | (simp [*]; done), by repeat (first | exact Drawn0.refl _ | apply Drawn0.step)⟩
end Go.Proofs.Ytemhalnhbgkbcaa.V
end

