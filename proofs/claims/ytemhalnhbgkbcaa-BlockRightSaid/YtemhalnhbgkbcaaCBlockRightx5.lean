/- The law BlockRight for every input: texts of ours, put together (part 6 of 12). No further condition. -/
import Derived.Test.YtemhalnhbgkbcaaCBlockRightx4
import Derived.Outline
import Derived.Test.YtemhalnhbgkbcaaCBlockRightx2
import Derived.Test.YtemhalnhbgkbcaaCBlockRightx3
import Derived.Test.YtemhalnhbgkbcaaCBlockRightw1
-- BNumber
section
/- A block's own box; block.number. -/
namespace Go.Proofs.Ytemhalnhbgkbcaa.V
open Go.RowKit Go.Proofs.YtemhalnhbgkbcaaW.PrintWords Go.Proofs.YtemhalnhbgkbcaaW.PrintLast Go.Proofs.YtemhalnhbgkbcaaW.PrintMore
set_option linter.unusedVariables false
set_option linter.unusedSimpArgs false

/-- A block in a box, in rows of the call's own from b1 on. -/
def OC (W : World) (b1 g : Nat) (b : Bk) : Prop := b.slots.length = 64 ∧ ∃ vf va, Box W g (bkL b.addr b.aff b.slots vf va) 57 ∧ Kd.R (Kd.int .u8) 5 W b1 (fun _ => True) vf b.free ∧ Kd.R k85 85 W b1 (fun _ => True) va b.attrs
/-- All blocks but some stay. -/
def Keeps (S : Nat → Prop) (W W' : World) : Prop := W.heap.size ≤ W'.heap.size ∧ ∀ k, k < W.heap.size → ¬ S k → W'.heap[k]? = W.heap[k]?
/-- What is written where an attribute is added: the box, and its row. -/
def AddS (W : World) (b1 g : Nat) (k : Nat) : Prop := k = g ∨ b1 ≤ k ∧ ∃ cells, W.heap[k]? = some (.cells cells 85 (0, 0))
def idxAt (l : List At) (a : At) : Option Nat := l.findIdx? (sameAt a)
def numAt (l : List At) (a : At) : Nat := match idxAt l a with | some i => i + 1 | none => l.length + 1
def addAt (l : List At) (a : At) : List At := match idxAt l a with | some _ => l | none => l ++ [a]
theorem index_f (l : List At) (hl : l.length ≤ 1000) (a : At) : block_Attr_110.f (l.length + 5) l a.f0 a.f1 = some (match idxAt l a with | some i => (i : Int) | none => -1) := by
  have key : ∀ (d i k : Nat), i + d = l.length → d < k → block_Attr_110.l0 k l (l.length : Int) (i : Int) a.f0 a.f1 = some (match (l.drop i).findIdx? (sameAt a) with | some j => ((i + j : Nat) : Int) | none => -1) := by
    intro d
    induction d with
    | zero =>
      intro i k hi hk
      obtain ⟨k, rfl⟩ : ∃ m, k = m + 1 := ⟨k - 1, by omega⟩
      rw [block_Attr_110.l0, if_neg (by omega), List.drop_of_length_le (by omega)]
      rfl
    | succ d ih =>
      intro i k hi hk
      obtain ⟨k, rfl⟩ : ∃ m, k = m + 1 := ⟨k - 1, by omega⟩
      have hil : i < l.length := by omega
      have e : rd_T85 l (i : Int) = l[i] := by simp [rd_T85, List.getD, hil]
      rw [block_Attr_110.l0, if_pos (by omega), if_pos (by omega), if_pos (by omega), e, List.drop_eq_getElem_cons hil, List.findIdx?_cons]
      cases h : sameAt a l[i] with
      | true =>
        have h' : (a.f0.toList == l[i].f0.toList && a.f1.toList == l[i].f1.toList) = true := h
        rw [h', if_pos rfl]
        simp
      | false =>
        have h' : (a.f0.toList == l[i].f0.toList && a.f1.toList == l[i].f1.toList) = false := h
        rw [h', if_neg (by decide), wrap64_id ((i : Int) + 1) (by omega) (by omega), show (i : Int) + 1 = ((i + 1 : Nat) : Int) by omega, ih (i + 1) k (by omega) (by omega)]
        cases (l.drop (i + 1)).findIdx? (sameAt a) with
        | none => rfl
        | some j =>
          show some ((i + 1 + j : Nat) : Int) = some ((i + (j + 1) : Nat) : Int)
          rw [show i + 1 + j = i + (j + 1) by omega]
  unfold block_Attr_110.f
  rw [show (0 : Int) = ((0 : Nat) : Int) from rfl, key l.length 0 _ (by omega) (by omega), List.drop_zero]
  unfold idxAt
  cases l.findIdx? (sameAt a) with
  | none => rfl
  | some j => simp
theorem idxAt_lt {l : List At} {a : At} {i : Nat} (h : idxAt l a = some i) : i < l.length := by
  unfold idxAt at h
  rw [List.findIdx?_eq_some_iff_getElem] at h
  exact h.1
def number1.T1 : Bool × List (List Nat × List Nat) := (true, [([], []), ([0], [0]), ([1], [1]), ([2], [2]), ([], []), ([3, 4], [3, 4]), ([5, 5, 0, 1, 2, 3, 4, 5], [5])])
def number1.B1 : List Nat := [0, 1, 3, 7, 0, 31, 63]
theorem number1.tab1 : rtab .any (opsOf Try.f90 1) = number1.T1 := by kernel_rfl
theorem number1.bits1 : waitsOk number1.T1.2 number1.B1 = true := by kernel_rfl
def number4.T4 : Bool × List (List Nat × List Nat) := (true, [([], []), ([], []), ([1], [1]), ([2], [2]), ([3], [3]), ([], []), ([5], [5]), ([4, 6], [4, 6]), ([0, 0, 1, 2, 3, 4, 5, 6, 7], [0]), ([8, 0, 1, 2, 3, 4, 5, 6, 7], [8]), ([9, 7, 7, 0, 1, 2, 3, 4, 5, 6, 7], [7, 9])])
def number4.B4 : List Nat := [0, 0, 2, 6, 14, 0, 32, 126, 255, 511, 1023]
theorem number4.tab4 : rtab .any (opsOf Try.f90 4) = number4.T4 := by kernel_rfl
theorem number4.bits4 : waitsOk number4.T4.2 number4.B4 = true := by kernel_rfl
set_option maxHeartbeats 4000000 in
set_option maxRecDepth 100000 in
theorem number_any (b : Bk) (hal : b.attrs.length ≤ 100) (a : At) (g b1 base : Nat) (W : World) (hbg : base ≤ g) (hbb : base ≤ b1) (hb1W : b1 ≤ W.heap.size) (h : OC W b1 g b) :
    Calls Try.prog 90 #[.pointer (some ⟨g, 0, none⟩), .agg #[.string a.f0, .string a.f1]] W fun e W' => e = .returned (.int .u8 (numAt b.attrs a : Nat)) ∧ OC W' b1 g ⟨b.addr, b.aff, b.slots, b.free, addAt b.attrs a⟩ ∧ Below base W W' ∧ Keeps (AddS W b1 g) W W' := by
  obtain ⟨hl, vf, va, hx, hf, ha⟩ := h
  have HG := Aside0.mk hbg
  have HBB := Aside0.mk hbb
  have HBW := Aside0.mk hb1W
  have hbase : base ≤ W.heap.size := Nat.le_trans hbb hb1W
  have HROW := Aside0.mk (show ∀ k, va.ownBlock = some k → AddS W b1 g k from fun k hk => by
    obtain ⟨hr, _⟩ := Kd.R_bound ha
    obtain ⟨_, h2, _, q, hq, h3⟩ := hr k hk
    refine Or.inr ⟨h2, ?_⟩
    rcases List.mem_cons.1 hq with rfl | hq
    · exact h3
    · cases hq)
  have HL := Aside0.mk hl
  have hfi := index_f b.attrs (by omega) a
  obtain ⟨A, c, rfl⟩ := Kd.R_slice ha
  obtain ⟨Af, cf, rfl⟩ := Kd.R_slice hf
  have HX := Aside0.mk hx
  have HF := Aside0.mk hf
  have HA := Aside0.mk ha
  obtain ⟨A0, c0, hq, hcc, hC⟩ := Kd.R_reads ha
  cases hq
  have HCC := Aside0.mk hcc
  have HC := Aside0.mk hC
  clear hbg hbb hb1W hl hx hf ha hcc hC
  cases hi : idxAt b.attrs a with
  | some i =>
    have hil := idxAt_lt hi
    have e1 : numAt b.attrs a = i + 1 := by unfold numAt; rw [hi]
    have e2 : addAt b.attrs a = b.attrs := by unfold addAt; rw [hi]
    rw [hi] at hfi
    rw [e1, e2]
    have HFI := Aside0.mk hfi
    have hneg : decide ((i : Int) < 0) = false := decide_eq_false (by omega)
    clear hfi hi e1 e2
    go_enter Try.func90, Try.ntmps90
    go_wp2_with (first
      | (refine step_box rfl 85 (.tmp 1) rfl _ rfl ?_; intro ga W1 hga hbx hb1; have hbd : Below W.heap.size W W1.drew := below_drew hb1; have HY1 := Aside0.mk (hbx.below (below_drew (Below.refl _ _))); have HX1 := Aside0.mk (HX.out.below hbd); have HF1 := Aside0.mk (Kd.R_below HF.out hbd); have HA1 := Aside0.mk (Kd.R_below HA.out hbd); have HC1 := Aside0.mk (Kd.C_below HC.out hbd); have HB1 := Aside0.mk (hbd.mono hbase); have HBD := Aside0.mk hbd; have HGA := Aside0.mk hga; clear hbx hb1 hga hbd))
    refine start_ (n := 7) (S := fun w' => w'.cell? ⟨g, 67, none⟩ = some (.slice A b.attrs.length c) ∧ w'.cell? ⟨ga, 0, none⟩ = some (.string a.f0) ∧ w'.cell? ⟨ga, 1, none⟩ = some (.string a.f1)) (ds := []) #[false, false, false, false, false, false, false] (by kernel_rfl) rfl rfl ⟨HX1.out.cell 67 _ (bkL_67 _ _ _ _ _ HL.out), HY1.out.cell 0 _ rfl, HY1.out.cell 1 _ rfl⟩ (fun hHeld => ?_); refine with_tabW number1.tab1 number1.bits1 (fun HT_ HW_ => ?_)
    refine pure_ (i := 0) (N := some 6) (v := ?_) (a' := ?_) #[true, false, false, false, false, false, false] rfl rfl (any_of HT_.out (by kernel_rfl)) (fun _ _ _ h => h) (Or.inl ⟨by rfl, ?_⟩) ?_ ?_
    rotate_left
    · intro w'
      go_simp
      with_reducible rfl
    rotate_left
    · simp only [Act.put, List.setIfInBounds_toArray, List.set_cons_zero, List.set_cons_succ, i64_w, i32_w]
      rfl
    refine pure_ (i := 1) (N := some 7) (v := ?_) (a' := ?_) #[true, true, false, false, false, false, false] rfl rfl (any_of HT_.out (by kernel_rfl)) (fun _ _ _ h => h) (Or.inl ⟨by rfl, ?_⟩) ?_ ?_
    rotate_left
    · intro w'
      go_simp
      with_reducible rfl
    rotate_left
    · simp only [Act.put, List.setIfInBounds_toArray, List.set_cons_zero, List.set_cons_succ, i64_w, i32_w]
      rfl
    refine pure_ (i := 2) (N := some 8) (v := ?_) (a' := ?_) #[true, true, true, false, false, false, false] rfl rfl (any_of HT_.out (by kernel_rfl)) (fun _ _ _ h => h) (Or.inl ⟨by rfl, ?_⟩) ?_ ?_
    rotate_left
    · intro w'
      go_simp
      with_reducible rfl
    rotate_left
    · simp only [Act.put, List.setIfInBounds_toArray, List.set_cons_zero, List.set_cons_succ, i64_w, i32_w]
      rfl
    refine take_ (i := 3) (N := some 9) (v := ?_) (a' := ?_) #[true, true, true, true, false, false, false] rfl rfl (take_ofW HT_.out HW_.out (by kernel_rfl)) (fun _ _ _ h => h) (Or.inl ⟨by rfl, ?_⟩) hHeld ?_ ?_
    rotate_left
    · intro w' hS_
      obtain ⟨s0, s1, s2⟩ := hS_
      go_simp
      with_reducible rfl
    rotate_left
    · simp only [Act.put, List.setIfInBounds_toArray, List.set_cons_zero, List.set_cons_succ, i64_w, i32_w]
      rfl
    refine take_ (i := 4) (N := some 10) (v := ?_) (a' := ?_) #[true, true, true, true, true, false, false] rfl rfl (take_ofW HT_.out HW_.out (by kernel_rfl)) (fun _ _ _ h => h) (Or.inl ⟨by rfl, ?_⟩) hHeld ?_ ?_
    rotate_left
    · intro w' hS_
      obtain ⟨s0, s1, s2⟩ := hS_
      go_simp
      with_reducible rfl
    rotate_left
    · simp only [Act.put, List.setIfInBounds_toArray, List.set_cons_zero, List.set_cons_succ, i64_w, i32_w]
      rfl
    refine one_ (i := 5) (N := some 11) #[true, true, true, true, true, true, false] rfl rfl (one_of HT_.out (by kernel_rfl)) (by decide) (fun K hK => ?_)
    refine goes_ Try.func110 (by kernel_rfl) rfl #[.slice A b.attrs.length c, .agg #[.string a.f0, .string a.f1]] (by rfl) rfl rfl (by (try simp only [List.map_toArray, List.map_cons, List.map_nil]); first | done | rfl) ?_
    refine (block_Attr_110.calls _ A c b.attrs a.f0 a.f1 _ _ HC1.out HCC.out HFI.out).mono ?_
    rintro e V3 ⟨rfl, hb3⟩
    refine ⟨_, rfl, ?_⟩
    have HX3 := Aside0.mk (HX1.out.below hb3); have HY3 := Aside0.mk (HY1.out.below hb3); have HB3 := Aside0.mk (HB1.out.trans (hb3.mono (Nat.le_trans hbase HB1.out.size))); skip
    refine hK.out _ _ ⟨HX3.out.cell 67 _ (bkL_67 _ _ _ _ _ HL.out), HY3.out.cell 0 _ rfl, HY3.out.cell 1 _ rfl⟩ (fun hHeld => ?_)
    clear hK K
    refine norm_ (a' := ?_) ?_ ?_
    rotate_left
    · show Act.put _ (some 11) _ = _
      simp only [Act.put, List.setIfInBounds_toArray, List.set_cons_zero, List.set_cons_succ, i64_w, i32_w]
      rfl
    refine pure_ (i := 6) (N := some 5) (v := ?_) (a' := ?_) #[true, true, true, true, true, true, true] rfl rfl (any_of HT_.out (by kernel_rfl)) (fun _ _ _ h => h) (Or.inl ⟨by rfl, ?_⟩) ?_ ?_
    rotate_left
    · intro w'
      go_simp
      with_reducible rfl
    rotate_left
    · simp only [Act.put, List.setIfInBounds_toArray, List.set_cons_zero, List.set_cons_succ, i64_w, i32_w]
      rfl
    refine done_ (done_of HT_.out (by kernel_rfl)) ?_
    have hbd : Below W1.drew.heap.size W1.drew V3 := hb3
    go_wp2
    go_ret
    exact ⟨by simp, ⟨HL.out, _, _, HX3.out, Kd.R_below HF1.out hbd, Kd.R_below HA1.out hbd⟩, HB3.out, Nat.le_trans HBD.out.size hbd.size, fun k hk _ => (hbd.block k (Nat.lt_of_lt_of_le hk HBD.out.size)).trans (HBD.out.block k hk)⟩
  | none =>
    have e1 : numAt b.attrs a = b.attrs.length + 1 := by unfold numAt; rw [hi]
    have e2 : addAt b.attrs a = b.attrs ++ [a] := by unfold addAt; rw [hi]
    rw [hi] at hfi
    rw [e1, e2]
    have HFI := Aside0.mk hfi
    obtain ⟨L, hL⟩ : ∃ L, L = b.attrs ++ [a] := ⟨_, rfl⟩
    have HLL := Aside0.mk hL
    rw [← hL]
    clear hfi hi e1 e2 hL
    go_enter Try.func90, Try.ntmps90
    go_wp2_with (first
      | (refine step_box rfl 85 (.tmp 1) rfl _ rfl ?_; intro ga W1 hga hbx hb1; have hbd : Below W.heap.size W W1.drew := below_drew hb1; have HY1 := Aside0.mk (hbx.below (below_drew (Below.refl _ _))); have HX1 := Aside0.mk (HX.out.below hbd); have HF1 := Aside0.mk (Kd.R_below HF.out hbd); have HA1 := Aside0.mk (Kd.R_below HA.out hbd); have HC1 := Aside0.mk (Kd.C_below HC.out hbd); have HB1 := Aside0.mk (hbd.mono hbase); have HBD := Aside0.mk hbd; have HGA := Aside0.mk hga; clear hbx hb1 hga hbd))
    refine start_ (n := 7) (S := fun w' => w'.cell? ⟨g, 67, none⟩ = some (.slice A b.attrs.length c) ∧ w'.cell? ⟨ga, 0, none⟩ = some (.string a.f0) ∧ w'.cell? ⟨ga, 1, none⟩ = some (.string a.f1)) (ds := []) #[false, false, false, false, false, false, false] (by kernel_rfl) rfl rfl ⟨HX1.out.cell 67 _ (bkL_67 _ _ _ _ _ HL.out), HY1.out.cell 0 _ rfl, HY1.out.cell 1 _ rfl⟩ (fun hHeld => ?_); refine with_tabW number1.tab1 number1.bits1 (fun HT_ HW_ => ?_)
    refine pure_ (i := 0) (N := some 6) (v := ?_) (a' := ?_) #[true, false, false, false, false, false, false] rfl rfl (any_of HT_.out (by kernel_rfl)) (fun _ _ _ h => h) (Or.inl ⟨by rfl, ?_⟩) ?_ ?_
    rotate_left
    · intro w'
      go_simp
      with_reducible rfl
    rotate_left
    · simp only [Act.put, List.setIfInBounds_toArray, List.set_cons_zero, List.set_cons_succ, i64_w, i32_w]
      rfl
    refine pure_ (i := 1) (N := some 7) (v := ?_) (a' := ?_) #[true, true, false, false, false, false, false] rfl rfl (any_of HT_.out (by kernel_rfl)) (fun _ _ _ h => h) (Or.inl ⟨by rfl, ?_⟩) ?_ ?_
    rotate_left
    · intro w'
      go_simp
      with_reducible rfl
    rotate_left
    · simp only [Act.put, List.setIfInBounds_toArray, List.set_cons_zero, List.set_cons_succ, i64_w, i32_w]
      rfl
    refine pure_ (i := 2) (N := some 8) (v := ?_) (a' := ?_) #[true, true, true, false, false, false, false] rfl rfl (any_of HT_.out (by kernel_rfl)) (fun _ _ _ h => h) (Or.inl ⟨by rfl, ?_⟩) ?_ ?_
    rotate_left
    · intro w'
      go_simp
      with_reducible rfl
    rotate_left
    · simp only [Act.put, List.setIfInBounds_toArray, List.set_cons_zero, List.set_cons_succ, i64_w, i32_w]
      rfl
    refine take_ (i := 3) (N := some 9) (v := ?_) (a' := ?_) #[true, true, true, true, false, false, false] rfl rfl (take_ofW HT_.out HW_.out (by kernel_rfl)) (fun _ _ _ h => h) (Or.inl ⟨by rfl, ?_⟩) hHeld ?_ ?_
    rotate_left
    · intro w' hS_
      obtain ⟨s0, s1, s2⟩ := hS_
      go_simp
      with_reducible rfl
    rotate_left
    · simp only [Act.put, List.setIfInBounds_toArray, List.set_cons_zero, List.set_cons_succ, i64_w, i32_w]
      rfl
    refine take_ (i := 4) (N := some 10) (v := ?_) (a' := ?_) #[true, true, true, true, true, false, false] rfl rfl (take_ofW HT_.out HW_.out (by kernel_rfl)) (fun _ _ _ h => h) (Or.inl ⟨by rfl, ?_⟩) hHeld ?_ ?_
    rotate_left
    · intro w' hS_
      obtain ⟨s0, s1, s2⟩ := hS_
      go_simp
      with_reducible rfl
    rotate_left
    · simp only [Act.put, List.setIfInBounds_toArray, List.set_cons_zero, List.set_cons_succ, i64_w, i32_w]
      rfl
    refine one_ (i := 5) (N := some 11) #[true, true, true, true, true, true, false] rfl rfl (one_of HT_.out (by kernel_rfl)) (by decide) (fun K hK => ?_)
    refine goes_ Try.func110 (by kernel_rfl) rfl #[.slice A b.attrs.length c, .agg #[.string a.f0, .string a.f1]] (by rfl) rfl rfl (by (try simp only [List.map_toArray, List.map_cons, List.map_nil]); first | done | rfl) ?_
    refine (block_Attr_110.calls _ A c b.attrs a.f0 a.f1 _ _ HC1.out HCC.out HFI.out).mono ?_
    rintro e V3 ⟨rfl, hb3⟩
    refine ⟨_, rfl, ?_⟩
    have HX3 := Aside0.mk (HX1.out.below hb3); have HY3 := Aside0.mk (HY1.out.below hb3); have HB3 := Aside0.mk (HB1.out.trans (hb3.mono (Nat.le_trans hbase HB1.out.size))); skip
    refine hK.out _ _ ⟨HX3.out.cell 67 _ (bkL_67 _ _ _ _ _ HL.out), HY3.out.cell 0 _ rfl, HY3.out.cell 1 _ rfl⟩ (fun hHeld => ?_)
    clear hK K
    refine norm_ (a' := ?_) ?_ ?_
    rotate_left
    · show Act.put _ (some 11) _ = _
      simp only [Act.put, List.setIfInBounds_toArray, List.set_cons_zero, List.set_cons_succ, i64_w, i32_w]
      rfl
    refine pure_ (i := 6) (N := some 5) (v := ?_) (a' := ?_) #[true, true, true, true, true, true, true] rfl rfl (any_of HT_.out (by kernel_rfl)) (fun _ _ _ h => h) (Or.inl ⟨by rfl, ?_⟩) ?_ ?_
    rotate_left
    · intro w'
      go_simp
      with_reducible rfl
    rotate_left
    · simp only [Act.put, List.setIfInBounds_toArray, List.set_cons_zero, List.set_cons_succ, i64_w, i32_w]
      rfl
    refine done_ (done_of HT_.out (by kernel_rfl)) ?_
    have hbd : Below W1.drew.heap.size W1.drew V3.drew := below_drew hb3
    have HX4 := Aside0.mk (HX1.out.below hbd)
    have HY4 := Aside0.mk (HY1.out.below hbd)
    have HF4 := Aside0.mk (Kd.R_below HF1.out hbd)
    have HA4 := Aside0.mk (Kd.R_below HA1.out hbd)
    have HB4 := Aside0.mk (below_drew HB3.out)
    have HBD4 := Aside0.mk (show Below W.heap.size W V3.drew from HBD.out.trans (hbd.mono HBD.out.size))
    have HS4 := Aside0.mk (show b1 ≤ V3.drew.heap.size from Nat.le_trans HBW.out HBD4.out.size)
    have hc67 := HX3.out.cell 67 _ (bkL_67 _ _ _ _ _ HL.out)
    go_wp2_with fail
    clear hc67
    refine start_ (n := 11) (S := fun w' => w'.cell? ⟨g, 67, none⟩ = some (.slice A b.attrs.length c) ∧ w'.cell? ⟨ga, 0, none⟩ = some (.string a.f0) ∧ w'.cell? ⟨ga, 1, none⟩ = some (.string a.f1)) (ds := [10]) #[false, false, false, false, false, false, false, false, false, false, false] (by kernel_rfl) rfl rfl ⟨HX4.out.cell 67 _ (bkL_67 _ _ _ _ _ HL.out), HY4.out.cell 0 _ rfl, HY4.out.cell 1 _ rfl⟩ (fun hHeld => ?_); refine with_tabW number4.tab4 number4.bits4 (fun HT_ HW_ => ?_)
    refine pure_ (i := 0) (N := some 19) (v := ?_) (a' := ?_) #[true, false, false, false, false, false, false, false, false, false, false] rfl rfl (any_of HT_.out (by kernel_rfl)) (fun _ _ _ h => h) (Or.inl ⟨by rfl, ?_⟩) ?_ ?_
    rotate_left
    · intro w'
      go_simp
      with_reducible rfl
    rotate_left
    · simp only [Act.put, List.setIfInBounds_toArray, List.set_cons_zero, List.set_cons_succ, i64_w, i32_w]
      rfl
    refine pure_ (i := 1) (N := some 20) (v := ?_) (a' := ?_) #[true, true, false, false, false, false, false, false, false, false, false] rfl rfl (any_of HT_.out (by kernel_rfl)) (fun _ _ _ h => h) (Or.inl ⟨by rfl, ?_⟩) ?_ ?_
    rotate_left
    · intro w'
      go_simp
      with_reducible rfl
    rotate_left
    · simp only [Act.put, List.setIfInBounds_toArray, List.set_cons_zero, List.set_cons_succ, i64_w, i32_w]
      rfl
    refine pure_ (i := 2) (N := some 21) (v := ?_) (a' := ?_) #[true, true, true, false, false, false, false, false, false, false, false] rfl rfl (any_of HT_.out (by kernel_rfl)) (fun _ _ _ h => h) (Or.inl ⟨by rfl, ?_⟩) ?_ ?_
    rotate_left
    · intro w'
      go_simp
      with_reducible rfl
    rotate_left
    · simp only [Act.put, List.setIfInBounds_toArray, List.set_cons_zero, List.set_cons_succ, i64_w, i32_w]
      rfl
    refine pure_ (i := 3) (N := some 22) (v := ?_) (a' := ?_) #[true, true, true, true, false, false, false, false, false, false, false] rfl rfl (any_of HT_.out (by kernel_rfl)) (fun _ _ _ h => h) (Or.inl ⟨by rfl, ?_⟩) ?_ ?_
    rotate_left
    · intro w'
      go_simp
      with_reducible rfl
    rotate_left
    · simp only [Act.put, List.setIfInBounds_toArray, List.set_cons_zero, List.set_cons_succ, i64_w, i32_w]
      rfl
    refine take_ (i := 4) (N := some 23) (v := ?_) (a' := ?_) #[true, true, true, true, true, false, false, false, false, false, false] rfl rfl (take_ofW HT_.out HW_.out (by kernel_rfl)) (fun _ _ _ h => h) (Or.inl ⟨by rfl, ?_⟩) hHeld ?_ ?_
    rotate_left
    · intro w' hS_
      obtain ⟨s0, s1, s2⟩ := hS_
      go_simp
      with_reducible rfl
    rotate_left
    · simp only [Act.put, List.setIfInBounds_toArray, List.set_cons_zero, List.set_cons_succ, i64_w, i32_w]
      rfl
    refine take_ (i := 5) (N := some 24) (v := ?_) (a' := ?_) #[true, true, true, true, true, true, false, false, false, false, false] rfl rfl (take_ofW HT_.out HW_.out (by kernel_rfl)) (fun _ _ _ h => h) (Or.inl ⟨by rfl, ?_⟩) hHeld ?_ ?_
    rotate_left
    · intro w' hS_
      obtain ⟨s0, s1, s2⟩ := hS_
      go_simp
      with_reducible rfl
    rotate_left
    · simp only [Act.put, List.setIfInBounds_toArray, List.set_cons_zero, List.set_cons_succ, i64_w, i32_w]
      rfl
    refine one_ (i := 6) (N := some 25) #[true, true, true, true, true, true, true, false, false, false, false] rfl rfl (one_of HT_.out (by kernel_rfl)) (by decide) (fun K hK => ?_)
    have HX5 := Aside0.mk (HX4.out.alloc (.cells [Value.string a.f0, .string a.f1].toArray 85)); have HY5 := Aside0.mk (HY4.out.alloc (.cells [Value.string a.f0, .string a.f1].toArray 85))
    refine event_step (v := .slice (some ⟨V3.drew.heap.size, 0, none⟩) 1 1) (w1 := V3.drew.alloc (.cells [Value.string a.f0, .string a.f1].toArray 85)) (by rfl) ?_ ?_
    · go_simp
      try rfl
    refine hK.out _ _ ⟨HX5.out.cell 67 _ (bkL_67 _ _ _ _ _ HL.out), HY5.out.cell 0 _ rfl, HY5.out.cell 1 _ rfl⟩ (fun hHeld => ?_)
    clear hK K
    refine norm_ (a' := ?_) ?_ ?_
    rotate_left
    · show Act.put _ (some 25) _ = _
      simp only [Act.put, List.setIfInBounds_toArray, List.set_cons_zero, List.set_cons_succ, i64_w, i32_w]
      rfl
    refine one_ (i := 7) (N := some 26) #[true, true, true, true, true, true, true, true, false, false, false] rfl rfl (one_of HT_.out (by kernel_rfl)) (by decide) (fun K hK => ?_)
    refine Kd.R_append_step k85 (w0 := V3.drew) b1 (by rfl) (.tmp 23) (.tmp 25) 55 85 (.agg #[.string ⟨#[]⟩, .string ⟨#[]⟩]) 32 rfl Try.underlying55 info_at rfl (by decide) (by omega) _ b.attrs a [.string a.f0, .string a.f1] (fun _ => True) (fun _ => False) rfl rfl (k85_mkM _ _ _ _) (fun _ h => h.elim) (fun _ _ => trivial) HA4.out (Below.refl _ _) HS4.out (by omega) ?_
    intro v8 w8 ho8 hb8 hg8 hat8
    rw [← HLL.out] at ho8
    have HX8 := Aside0.mk (HX4.out.grown hg8 (HX4.out.ne_row HA4.out (by decide)))
    have HF8 := Aside0.mk (Kd.R_over HF4.out HA4.out (by decide) hg8)
    have HA8 := Aside0.mk ho8
    have HB8 := Aside0.mk (HB4.out.trans (hb8.mono HBB.out))
    have HK8 := Aside0.mk hg8
    have HY8 := Aside0.mk (HY4.out.grown hg8 (fun e => by have := Kd.R_lt HA.out _ e.symm; have := HGA.out; omega))
    obtain ⟨A8, c8, rfl⟩ := Kd.R_slice ho8
    clear ho8 hb8 hat8
    refine hK.out _ _ ⟨HX8.out.cell 67 _ (bkL_67 _ _ _ _ _ HL.out), HY8.out.cell 0 _ rfl, HY8.out.cell 1 _ rfl⟩ (fun hHeld => ?_)
    clear hK K
    refine norm_ (a' := ?_) ?_ ?_
    rotate_left
    · show Act.put _ (some 26) _ = _
      simp only [Act.put, List.setIfInBounds_toArray, List.set_cons_zero, List.set_cons_succ, i64_w, i32_w]
      rfl
    refine pure_ (i := 8) (N := some 27) (v := ?_) (a' := ?_) #[true, true, true, true, true, true, true, true, true, false, false] rfl rfl (any_of HT_.out (by kernel_rfl)) (fun _ _ _ h => h) (Or.inl ⟨by rfl, ?_⟩) ?_ ?_
    rotate_left
    · intro w'
      go_simp
      with_reducible rfl
    rotate_left
    · simp only [Act.put, List.setIfInBounds_toArray, List.set_cons_zero, List.set_cons_succ, i64_w, i32_w]
      rfl
    refine pure_ (i := 9) (N := some 28) (v := ?_) (a' := ?_) #[true, true, true, true, true, true, true, true, true, true, false] rfl rfl (any_of HT_.out (by kernel_rfl)) (fun _ _ _ h => h) (Or.inl ⟨by rfl, ?_⟩) ?_ ?_
    rotate_left
    · intro w'
      go_simp
      with_reducible rfl
    rotate_left
    · simp only [Act.put, List.setIfInBounds_toArray, List.set_cons_zero, List.set_cons_succ, i64_w, i32_w]
      rfl
    refine last_ (i := 10) (N := none) #[true, true, true, true, true, true, true, true, true, true, true] rfl rfl (one_of HT_.out (by kernel_rfl)) (by decide) (fun K hK => ?_)
    have hf67 := HX8.out.frozen 67; have hc67 := HX8.out.cell 67 _ (bkL_67 _ _ _ _ _ HL.out)
    refine skip_ (w1 := ?_) (by rfl) rfl ?_ ?_
    rotate_left
    · go_simp
      rfl
    refine hK.out _ _ ?_
    clear hK K
    refine done_ (done_of HT_.out (by kernel_rfl)) ?_
    have HX9 : Box (w8.setCell ⟨g, 67, none⟩ (.slice A8 L.length c8)) g (bkL b.addr b.aff b.slots (.slice Af b.free.length cf) (.slice A8 L.length c8)) 57 := by
      have := HX8.out.set 67 (.slice A8 L.length c8)
      rwa [bkL_set_67 _ _ _ _ _ HL.out] at this
    go_wp2
    go_ret
    refine ⟨by simp, ⟨HL.out, _, _, HX9, R_box_grown HF8.out HX8.out (by decide) (setCell_grown _ _ _ _), R_box_grown HA8.out HX8.out (by decide) (setCell_grown _ _ _ _)⟩, Below.setCell HB8.out (p := ⟨g, 67, none⟩) HG.out _, ?_, fun k hk hns => ?_⟩
    · have h1 := HBD4.out.size
      have h2 := HK8.out.size
      have h3 := (setCell_grown w8 g 67 (.slice A8 L.length c8)).size
      omega
    · have h1 := HBD4.out.block k hk
      have h2 := HK8.out.block k (Nat.lt_of_lt_of_le hk HBD4.out.size) (fun e => hns (HROW.out k e.symm))
      have h3 := (setCell_grown w8 g 67 (.slice A8 L.length c8)).block k (Nat.lt_of_lt_of_le hk (Nat.le_trans HBD4.out.size HK8.out.size)) (fun e => hns (Or.inl (Option.some.inj e)))
      exact h3.trans (h2.trans h1)
end Go.Proofs.Ytemhalnhbgkbcaa.V
end

-- BObj
section
/- A block's own box: how it stays, and how it is turned. -/
namespace Go.Proofs.Ytemhalnhbgkbcaa.V
open Go.RowKit Go.Proofs.YtemhalnhbgkbcaaW.PrintWords Go.Proofs.YtemhalnhbgkbcaaW.PrintLast Go.Proofs.YtemhalnhbgkbcaaW.PrintMore
set_option linter.unusedVariables false
set_option linter.unusedSimpArgs false

/-! ### Keeps -/
theorem Keeps.of_below {S : Nat → Prop} {W W1 : World} (h : Below W.heap.size W W1) : Keeps S W W1 := ⟨h.size, fun k hk _ => h.block k hk⟩
theorem Keeps.trans {S : Nat → Prop} {W W1 W2 : World} (h : Keeps S W W1) (k : Keeps S W1 W2) : Keeps S W W2 := ⟨Nat.le_trans h.1 k.1, fun q hq hs => (k.2 q (Nat.lt_of_lt_of_le hq h.1) hs).trans (h.2 q hq hs)⟩
theorem Box.keeps {S : Nat → Prop} {W W1 : World} {g t : Nat} {cs : List Value} (h : Box W g cs t) (hk : Keeps S W W1) (hs : ¬ S g) : Box W1 g cs t := (hk.2 g h.lt hs).trans h
theorem Kd.R_keeps {α : Type} {d : Kd α} {e base : Nat} {ok S : Nat → Prop} {W W1 : World} {v : Value} {xs : List α} (h : d.R e W base ok v xs) (hk : Keeps S W W1) (hs : ∀ k, ok k → k < W.heap.size → base ≤ k → (∃ q, q ∈ e :: d.E ∧ ∃ cells, W.heap[k]? = some (.cells cells q (0, 0))) → ¬ S k) : d.R e W1 base ok v xs :=
  Kd.R_mono (Kd.R_move (Kd.R_bound h) (fun k ⟨h1, h2, h3, h4⟩ => hk.2 k h3 (hs k h1 h3 h2 h4))) (fun _ hk => hk.1)
/-- A row of other elements stays where an attribute is added. -/
theorem Kd.R_added {α : Type} {d : Kd α} {e base b1 g : Nat} {ok : Nat → Prop} {W W1 : World} {v : Value} {xs : List α} {cs : List Value} (h : d.R e W base ok v xs) (hx : Box W g cs 57) (ht : ∀ q, q ∈ e :: d.E → q ≠ 57 ∧ q ≠ 85) (hk : Keeps (AddS W b1 g) W W1) : d.R e W1 base ok v xs :=
  Kd.R_keeps h hk (fun k _ _ _ ⟨q, hq, cells, hc⟩ hs => by
    rcases hs with rfl | ⟨_, c2, h2⟩
    · unfold Box at hx
      rw [hx] at hc
      injection hc with hc
      injection hc with _ hc
      exact (ht q hq).1 hc.symm
    · rw [h2] at hc
      injection hc with hc
      injection hc with _ hc
      exact (ht q hq).2 hc.symm)
/-- A box that lies under b1 stays. -/
theorem Box.added {W W1 : World} {b1 g g' t : Nat} {cs : List Value} (h : Box W g' cs t) (hne : g' ≠ g) (hlt : g' < b1) (hk : Keeps (AddS W b1 g) W W1) : Box W1 g' cs t :=
  h.keeps hk (fun hs => by
    rcases hs with e | ⟨e, _⟩
    · exact hne e
    · omega)
/-! ### A block in a box -/
section
variable {W W1 : World} {b1 b2 g g' t : Nat} {b : Bk}
theorem OC.open (h : OC W b1 g b) : ∃ A c A' c', Box W g (bkL b.addr b.aff b.slots (.slice A b.free.length c) (.slice A' b.attrs.length c')) 57 ∧ Kd.R (Kd.int .u8) 5 W b1 (fun _ => True) (.slice A b.free.length c) b.free ∧ Kd.R k85 85 W b1 (fun _ => True) (.slice A' b.attrs.length c') b.attrs := by
  obtain ⟨_, vf, va, hx, hf, ha⟩ := h
  obtain ⟨A, c, rfl⟩ := Kd.R_slice hf
  obtain ⟨A', c', rfl⟩ := Kd.R_slice ha
  exact ⟨A, c, A', c', hx, hf, ha⟩
theorem OC.l64 (h : OC W b1 g b) : b.slots.length = 64 := h.1
theorem OC.below (h : OC W b1 g b) (hb : Below W.heap.size W W1) : OC W1 b1 g b := by
  obtain ⟨hl, vf, va, hx, hf, ha⟩ := h
  exact ⟨hl, vf, va, hx.below hb, Kd.R_below hf hb, Kd.R_below ha hb⟩
theorem OC.drew (h : OC W b1 g b) : OC W.drew b1 g b := h.below (below_drew (Below.refl _ _))
theorem OC.lower (h : OC W b1 g b) (hb : b2 ≤ b1) : OC W b2 g b := by
  obtain ⟨hl, vf, va, hx, hf, ha⟩ := h
  exact ⟨hl, vf, va, hx, Kd.R_lower hf hb, Kd.R_lower ha hb⟩
theorem OC.lt (h : OC W b1 g b) : g < W.heap.size := by
  obtain ⟨A, c, A', c', hx, _, _⟩ := h.open
  exact hx.lt
/-- Another box is written. -/
theorem OC.box {cs : List Value} (h : OC W b1 g b) (hx' : Box W g' cs t) (ht : ∀ q, q ∈ [5, 85] → q ≠ t) (hne : g ≠ g') (hg : W.grownBy W1 (some g')) : OC W1 b1 g b := by
  obtain ⟨hl, vf, va, hx, hf, ha⟩ := h
  exact ⟨hl, vf, va, hx.grown hg (fun e => hne (Option.some.inj e)), R_box_grown hf hx' (fun q hq => by
    rcases List.mem_cons.1 hq with rfl | hq
    · exact ht _ (by simp)
    · cases hq) hg, R_box_grown ha hx' (fun q hq => by
    rcases List.mem_cons.1 hq with rfl | hq
    · exact ht _ (by simp)
    · cases hq) hg⟩
/-- A row of another type is written. -/
theorem OC.row {α : Type} {d : Kd α} {e base' : Nat} {ok : Nat → Prop} {v : Value} {xs : List α} (h : OC W b1 g b) (hr : d.R e W base' ok v xs) (he : e ≠ 57) (ht : ∀ q, q ∈ [5, 85] → q ≠ e) (hg : W.grownBy W1 v.ownBlock) : OC W1 b1 g b := by
  obtain ⟨hl, vf, va, hx, hf, ha⟩ := h
  exact ⟨hl, vf, va, hx.grown hg (hx.ne_row hr he), Kd.R_over hf hr (fun q hq => by
    rcases List.mem_cons.1 hq with rfl | hq
    · exact ht _ (by simp)
    · cases hq) hg, Kd.R_over ha hr (fun q hq => by
    rcases List.mem_cons.1 hq with rfl | hq
    · exact ht _ (by simp)
    · cases hq) hg⟩
/-- A slot is set. -/
theorem OC.slot (h : OC W b1 g b) (i : Nat) (hi : i < 64) (x : Int) : OC (W.setCell ⟨g, 2 + i, none⟩ (.int .u8 x)) b1 g ⟨b.addr, b.aff, b.slots.set i x, b.free, b.attrs⟩ := by
  obtain ⟨hl, vf, va, hx, hf, ha⟩ := h
  refine ⟨by simpa using hl, vf, va, ?_, R_box_grown hf hx (by decide) (setCell_grown _ _ _ _), R_box_grown ha hx (by decide) (setCell_grown _ _ _ _)⟩
  have := hx.set (2 + i) (.int .u8 x)
  rwa [bkL_set_slot _ _ _ _ _ hl i hi] at this
/-- A block with rows of the call's own is stored into a box. -/
theorem OC.stored {vf va : Value} {old : List Value} (hl : b.slots.length = 64) (hx : Box W g old 57) (hx1 : Box W1 g (bkL b.addr b.aff b.slots vf va) 57) (hf : Kd.R (Kd.int .u8) 5 W b1 (fun _ => True) vf b.free) (ha : Kd.R k85 85 W b1 (fun _ => True) va b.attrs) (hg : W.grownBy W1 (some g)) : OC W1 b1 g b :=
  ⟨hl, vf, va, hx1, R_box_grown hf hx (by decide) hg, R_box_grown ha hx (by decide) hg⟩
theorem OC.slotCell (h : OC W b1 g b) (i : Nat) (hi : i < 64) : W.cell? ⟨g, 2 + i, none⟩ = some (.int .u8 (b.slots.getD i 0)) := by
  obtain ⟨A, c, A', c', hx, _, _⟩ := h.open
  exact hx.cell _ _ (bkL_slot _ _ _ _ _ h.l64 i hi)
theorem OC.frozen (h : OC W b1 g b) (j : Nat) : W.frozen? ⟨g, j, none⟩ = false := by
  obtain ⟨A, c, A', c', hx, _, _⟩ := h.open
  exact hx.frozen _
theorem OC.addrCell (h : OC W b1 g b) : W.cell? ⟨g, 0, none⟩ = some (.int .u32 b.addr) := by
  obtain ⟨A, c, A', c', hx, _, _⟩ := h.open
  exact hx.cell 0 _ rfl
end
end Go.Proofs.Ytemhalnhbgkbcaa.V
end

-- BAct
section
/- What is done to a block, plainly. -/
namespace Go.Proofs.Ytemhalnhbgkbcaa.V
open Go.RowKit Go.Proofs.YtemhalnhbgkbcaaW.PrintWords Go.Proofs.YtemhalnhbgkbcaaW.PrintLast Go.Proofs.YtemhalnhbgkbcaaW.PrintMore
set_option linter.unusedVariables false
set_option linter.unusedSimpArgs false

/-- The slots of a row of numbers are set. -/
def setAll (l is : List Int) (x : Int) : List Int := is.foldl (fun l i => l.set i.toNat x) l
theorem setAll_snoc (l is : List Int) (i x : Int) : setAll l (is ++ [i]) x = (setAll l is x).set i.toNat x := by simp [setAll]
theorem take_snocI (l : List Int) (k : Nat) (h : k < l.length) : l.take (k + 1) = l.take k ++ [rd l k] := by
  rw [List.take_add_one, List.getElem?_eq_getElem h]
  simp [rd, List.getD, h]
/-- The first n that are free are given. -/
def asgMid (b : Bk) (n : Nat) (a : At) : Bk := ⟨b.addr, b.aff, setAll b.slots (b.free.take n) (numAt b.attrs a : Nat), b.free, if n = 0 then b.attrs else addAt b.attrs a⟩
def asgBk (b : Bk) (n : Nat) (a : At) : Bk := ⟨b.addr, b.aff, setAll b.slots (b.free.take n) (numAt b.attrs a : Nat), b.free.drop n, if n = 0 then b.attrs else addAt b.attrs a⟩
def asgOut (b : Bk) (n : Nat) : List Int := (b.free.take n).map (fun i => b.addr + i)
theorem idx_add (l : List At) (a : At) : idxAt (addAt l a) a = some (numAt l a - 1) := by
  unfold addAt numAt
  cases h : idxAt l a with
  | some i =>
    show idxAt l a = some (i + 1 - 1)
    rw [h]
    rfl
  | none =>
    show idxAt (l ++ [a]) a = some (l.length + 1 - 1)
    unfold idxAt at h ⊢
    rw [List.findIdx?_append, h]
    simp [sameAt_self]
theorem num_pos (l : List At) (a : At) : 1 ≤ numAt l a := by
  unfold numAt
  cases idxAt l a <;> simp
theorem num_add (l : List At) (a : At) : numAt (addAt l a) a = numAt l a := by
  have h := idx_add l a
  have hp := num_pos l a
  unfold numAt at h hp ⊢
  rw [h]
  show _ - 1 + 1 = _
  omega
theorem add_add (l : List At) (a : At) : addAt (addAt l a) a = addAt l a := by
  have h := idx_add l a
  generalize addAt l a = m at h ⊢
  unfold addAt
  rw [h]
theorem add_length (l : List At) (a : At) : (addAt l a).length ≤ l.length + 1 := by
  unfold addAt
  cases h : idxAt l a with
  | some i => show l.length ≤ _; omega
  | none => simp
/-- One more of the free ones is given. -/
theorem asgMid_succ (b : Bk) (n : Nat) (a : At) (h : n < b.free.length) : asgMid b (n + 1) a = ⟨b.addr, b.aff, (asgMid b n a).slots.set (rd b.free n).toNat (numAt (asgMid b n a).attrs a : Nat), b.free, addAt (asgMid b n a).attrs a⟩ := by
  unfold asgMid
  by_cases h0 : n = 0
  · subst h0
    simp only [take_snocI b.free 0 h, setAll_snoc, if_true, List.take_zero]
    rfl
  · simp only [take_snocI b.free n h, setAll_snoc, if_neg h0, if_neg (show ¬ n + 1 = 0 by omega), num_add, add_add]
theorem asgOut_succ (b : Bk) (n : Nat) (h : n < b.free.length) : asgOut b (n + 1) = asgOut b n ++ [b.addr + rd b.free n] := by
  unfold asgOut
  rw [take_snocI b.free n h]
  simp
theorem asgOut_length (b : Bk) (n : Nat) (h : n ≤ b.free.length) : (asgOut b n).length = n := by
  unfold asgOut
  rw [List.length_map, List.length_take]
  omega
/-! ### Freeing -/
def hitB (b : Bk) (x : Int) : Bool := decide (firstI x = b.addr) && (b.slots.getD (x - b.addr).toNat 0 != 0)
def relF (s : Bk × List Int) (x : Int) : Bk × List Int := if hitB s.1 x = true then (⟨s.1.addr, s.1.aff, s.1.slots.set (x - s.1.addr).toNat 0, s.1.free ++ [x - s.1.addr], s.1.attrs⟩, s.2 ++ [x]) else s
def relL (b : Bk) (l : List Int) : Bk × List Int := l.foldl relF (b, [])
theorem relL_snoc (b : Bk) (l : List Int) (x : Int) : relL b (l ++ [x]) = relF (relL b l) x := by simp [relL]
theorem relF_attrs (s : Bk × List Int) (x : Int) : (relF s x).1.attrs = s.1.attrs ∧ (relF s x).1.addr = s.1.addr ∧ (relF s x).1.aff = s.1.aff ∧ (relF s x).1.slots.length = s.1.slots.length := by
  unfold relF
  split <;> simp
theorem relL_attrs (b : Bk) (l : List Int) : (relL b l).1.attrs = b.attrs ∧ (relL b l).1.addr = b.addr ∧ (relL b l).1.aff = b.aff ∧ (relL b l).1.slots.length = b.slots.length := by
  unfold relL
  suffices h : ∀ (s : Bk × List Int), (l.foldl relF s).1.attrs = s.1.attrs ∧ (l.foldl relF s).1.addr = s.1.addr ∧ (l.foldl relF s).1.aff = s.1.aff ∧ (l.foldl relF s).1.slots.length = s.1.slots.length from h (b, [])
  induction l with
  | nil => intro s; exact ⟨rfl, rfl, rfl, rfl⟩
  | cons x l ih =>
    intro s
    have h1 := ih (relF s x)
    have h2 := relF_attrs s x
    exact ⟨h1.1.trans h2.1, h1.2.1.trans h2.2.1, h1.2.2.1.trans h2.2.2.1, h1.2.2.2.trans h2.2.2.2⟩
/-! ### Attributes that are no slot's any more -/
def usedK (l : List Int) (k : Nat) : Bool := l.any (fun s => s == ((k + 1 : Nat) : Int))
def rankN (l : List Int) (k : Nat) : Nat := ((List.range k).filter (usedK l)).length
def keptN (b : Bk) (k : Nat) : List At := ((List.range k).filter (usedK b.slots)).map (atN b.attrs)
def cmpBk (b : Bk) : Bk := ⟨b.addr, b.aff, b.slots.map (fun s => ((rankN b.slots s.toNat : Nat) : Int)), b.free, keptN b b.attrs.length⟩
def relBk (b : Bk) (l : List Int) : Bk := cmpBk (relL b l).1
theorem keptN_length (b : Bk) (k : Nat) : (keptN b k).length = rankN b.slots k := by simp [keptN, rankN]
theorem rankN_le (l : List Int) (k : Nat) : rankN l k ≤ k := by
  unfold rankN
  exact Nat.le_trans (List.length_filter_le _ _) (by simp)
theorem keptN_succ (b : Bk) (k : Nat) : keptN b (k + 1) = keptN b k ++ if usedK b.slots k = true then [atN b.attrs k] else [] := by
  unfold keptN
  rw [List.range_succ, List.filter_append, List.map_append]
  cases h : usedK b.slots k <;> simp [h]
/-! ### Which are given -/
def heldAt (b : Bk) (i : Nat) : At := atN b.attrs (b.slots.getD i 0 - 1).toNat
def underI (b : Bk) (p : At → Bool) (n : Nat) : List Int := (((List.range n).filter (fun i => b.slots.getD i 0 != 0 && p (heldAt b i))).map (fun i : Nat => b.addr + (i : Int)))
theorem underI_succ (b : Bk) (p : At → Bool) (n : Nat) : underI b p (n + 1) = underI b p n ++ if (b.slots.getD n 0 != 0 && p (heldAt b n)) = true then [b.addr + (n : Int)] else [] := by
  unfold underI
  rw [List.range_succ, List.filter_append, List.map_append]
  cases h : (b.slots.getD n 0 != 0 && p (heldAt b n)) <;> simp only [List.filter_cons, h, List.filter_nil] <;> simp
theorem underI_length (b : Bk) (p : At → Bool) (n : Nat) : (underI b p n).length ≤ n := by
  unfold underI
  rw [List.length_map]
  exact Nat.le_trans (List.length_filter_le _ _) (by simp)
end Go.Proofs.Ytemhalnhbgkbcaa.V
end

-- BCmpP
section
/- compact, plainly; sets of slots with their worlds below. -/
namespace Go.Proofs.Ytemhalnhbgkbcaa.V
open Go.RowKit Go.Proofs.YtemhalnhbgkbcaaW.PrintWords Go.Proofs.YtemhalnhbgkbcaaW.PrintLast Go.Proofs.YtemhalnhbgkbcaaW.PrintMore
set_option linter.unusedVariables false
set_option linter.unusedSimpArgs false

theorem withB (s : Nat) (hs : s < 18446744073709551616) (i : Int) (w : World) : Calls Try.prog 21 #[.int .u64 (s : Int), .int .i64 i] w fun e w' => e = .returned (.int .u64 ((withN s i : Nat) : Int)) ∧ Below w.heap.size w w' :=
  (with_any s hs i w).mono (by
    rintro e w' ⟨rfl, ⟨nd, rfl⟩⟩
    exact ⟨rfl, pw_below_drewN (Below.refl _ _) nd⟩)
theorem hasBl (s : Nat) (hs : s < 18446744073709551616) (i : Int) (w : World) : Calls Try.prog 20 #[.int .u64 (s : Int), .int .i64 i] w fun e w' => e = .returned (.bool (hasB s i)) ∧ Below w.heap.size w w' :=
  (has_any s hs i w).mono (by
    rintro e w' ⟨rfl, ⟨nd, rfl⟩⟩
    exact ⟨rfl, pw_below_drewN (Below.refl _ _) nd⟩)
theorem used_step (l : List Int) (k : Nat) (h : k < l.length) (m : Int) (hm : l[k] = m) : withN (usedN (l.take k)) (m - 1) = usedN (l.take (k + 1)) := by
  unfold usedN ofN
  rw [List.take_succ_eq_append_getElem h, List.map_append, List.foldl_append, hm]
  rfl
theorem has_used (l : List Int) (k : Nat) (hk : k < 64) : hasB (usedN l) (k : Int) = usedK l k := by
  have h1 : (usedN l).testBit k = decide ((k : Int) ∈ l.map (fun s => s - 1)) := ofN_testBit _ k hk
  have h2 : hasB (usedN l) (k : Int) = (usedN l).testBit k := by
    unfold hasB slotB
    have e1 : decide ((0 : Int) ≤ (k : Int)) = true := by simp
    have e2 : decide ((k : Int) < 64) = true := by simp; omega
    rw [e1, e2]
    simp
  rw [h2, h1]
  unfold usedK
  rw [Bool.eq_iff_iff, decide_eq_true_eq, List.any_eq_true, List.mem_map]
  constructor
  · rintro ⟨s, hs, he⟩
    exact ⟨s, hs, by rw [beq_iff_eq]; omega⟩
  · rintro ⟨s, hs, he⟩
    rw [beq_iff_eq] at he
    exact ⟨s, hs, by omega⟩
def turnedI (l : List Int) (k s : Nat) : Int := if 1 ≤ s ∧ s ≤ k ∧ usedK l (s - 1) = true then ((rankN l s : Nat) : Int) else 0
def turnedL (l : List Int) (k : Nat) : List Int := (List.range 65).map (turnedI l k)
theorem turnedL_length (l : List Int) (k : Nat) : (turnedL l k).length = 65 := by simp [turnedL]
theorem turnedL_zero (l : List Int) : turnedL l 0 = List.replicate 65 0 := by
  unfold turnedL
  rw [List.eq_replicate_iff]
  refine ⟨by simp, fun x hx => ?_⟩
  obtain ⟨s, _, rfl⟩ := List.mem_map.1 hx
  unfold turnedI
  rw [if_neg (by omega)]
theorem turnedL_get (l : List Int) (k s : Nat) (hs : s < 65) : (turnedL l k).getD s 0 = turnedI l k s := by
  unfold turnedL
  rw [List.getD_eq_getElem?_getD, List.getElem?_map, List.getElem?_range hs]
  rfl
theorem turnedL_used (l : List Int) (k : Nat) (hk : k < 64) (h : usedK l k = true) : (turnedL l k).set (k + 1) ((rankN l (k + 1) : Nat) : Int) = turnedL l (k + 1) := by
  apply List.ext_getElem?
  intro s
  rw [List.getElem?_set]
  unfold turnedL
  simp only [List.length_map, List.length_range, List.getElem?_map]
  by_cases hs : k + 1 = s
  · subst hs
    rw [if_pos rfl, if_pos (by omega), List.getElem?_range (by omega)]
    show some _ = some (turnedI l (k + 1) (k + 1))
    unfold turnedI
    rw [if_pos ⟨by omega, by omega, h⟩]
  · rw [if_neg hs]
    rcases Nat.lt_or_ge s 65 with h1 | h1
    · rw [List.getElem?_range h1]
      show some (turnedI l k s) = some (turnedI l (k + 1) s)
      unfold turnedI
      by_cases h2 : 1 ≤ s ∧ s ≤ k ∧ usedK l (s - 1) = true
      · rw [if_pos h2, if_pos ⟨h2.1, by omega, h2.2.2⟩]
      · rw [if_neg h2, if_neg (fun h3 => h2 ⟨h3.1, by omega, h3.2.2⟩)]
    · rw [List.getElem?_eq_none (by simpa using h1)]
      rfl
theorem turnedL_not (l : List Int) (k : Nat) (h : usedK l k = false) : turnedL l (k + 1) = turnedL l k := by
  unfold turnedL
  apply List.map_congr_left
  intro s _
  unfold turnedI
  by_cases h2 : 1 ≤ s ∧ s ≤ k ∧ usedK l (s - 1) = true
  · rw [if_pos h2, if_pos ⟨h2.1, by omega, h2.2.2⟩]
  · rw [if_neg h2, if_neg (fun h3 => h2 ⟨h3.1, by
      rcases Nat.lt_or_ge k s with h4 | h4
      · exfalso
        have : s - 1 = k := by omega
        rw [this, h] at h3
        exact absurd h3.2.2 (by decide)
      · exact h4, h3.2.2⟩)]
theorem used_mem (l : List Int) (s : Int) (h : s ∈ l) (h0 : 1 ≤ s) : usedK l (s.toNat - 1) = true := by
  unfold usedK
  rw [List.any_eq_true]
  exact ⟨s, h, by rw [beq_iff_eq]; omega⟩
/-- A slot's number turned is its attribute's new place. -/
theorem turned_rank (l : List Int) (k : Nat) (s : Int) (hs : s ∈ l) (h0 : 0 ≤ s) (h1 : s ≤ (k : Int)) (h2 : s < 65) : (turnedL l k).getD s.toNat 0 = ((rankN l s.toNat : Nat) : Int) := by
  rw [turnedL_get _ _ _ (by omega)]
  unfold turnedI
  by_cases h : 1 ≤ s.toNat
  · rw [if_pos ⟨h, by omega, used_mem l s hs (by omega)⟩]
  · have : s.toNat = 0 := by omega
    rw [this, if_neg (by omega)]
    rfl
/-- The slots, of which k are turned. -/
def midS (l : List Int) (k : Nat) : List Int := (l.take k).map (fun s => ((rankN l s.toNat : Nat) : Int)) ++ l.drop k
theorem midS_length (l : List Int) (k : Nat) : (midS l k).length = l.length := by
  unfold midS
  rw [List.length_append, List.length_map, List.length_take, List.length_drop]
  omega
theorem midS_all (l : List Int) : midS l l.length = l.map (fun s => ((rankN l s.toNat : Nat) : Int)) := by simp [midS]
theorem midS_set (l : List Int) (k : Nat) (h : k < l.length) : (midS l k).set k ((rankN l (l[k]).toNat : Nat) : Int) = midS l (k + 1) := by
  unfold midS
  have e : ((l.take k).map (fun s => ((rankN l s.toNat : Nat) : Int))).length = k := by rw [List.length_map, List.length_take]; omega
  rw [List.set_append, if_neg (by omega), e, Nat.sub_self, List.drop_eq_getElem_cons h, List.set_cons_zero, List.take_succ_eq_append_getElem h, List.map_append]
  simp
end Go.Proofs.Ytemhalnhbgkbcaa.V
end

-- BCloneMan
section
/- slices.Clone of bytes in the print's form. -/
namespace Go.Proofs.Ytemhalnhbgkbcaa.V
open Go.RowKit Go.Proofs.YtemhalnhbgkbcaaW.PrintWords Go.Proofs.YtemhalnhbgkbcaaW.PrintLast Go.Proofs.YtemhalnhbgkbcaaW.PrintMore
set_option linter.unusedVariables false
def slices_Clone_uint8_uint8.f (l0 : List Int) : Option (List Int) := if l0.length ≤ 4294967296 then some l0 else none
theorem slices_Clone_uint8_uint8.calls (A0 : Option Addr) (c0 : Nat) (l0 : List Int) (r : List Int) (w : World) (hr0 : Kd.C (Kd.int .u8) w A0 l0.length l0) (hc0 : l0.length ≤ c0) (h : slices_Clone_uint8_uint8.f l0 = some r) :
    Calls Try.prog 91 #[.slice A0 l0.length c0] w fun e w' => ∃ v0_ : Value, e = .returned v0_ ∧ Kd.R (Kd.int .u8) 5 w' w.heap.size (fun _ => True) v0_ r ∧ Below w.heap.size w w' := by
  unfold slices_Clone_uint8_uint8.f at h
  split at h
  · rename_i hl
    obtain rfl := Option.some.inj h
    exact cloneU8 l0 A0 c0 w hr0 hc0 hl
  · cases h
end Go.Proofs.Ytemhalnhbgkbcaa.V
end

-- VFPackPut
section
-- PRINTED by print.py (a twelfth state) out of the translation. Not trusted: Lean checks it.
namespace Go.Proofs.Ytemhalnhbgkbcaa.V
open Go.RowKit Go.Proofs.YtemhalnhbgkbcaaW.PrintWords Go.Proofs.YtemhalnhbgkbcaaW.PrintLast Go.Proofs.YtemhalnhbgkbcaaW.PrintMore
attribute [local go_sem] max2_int min2_int max_two min_two max_three min_three max_four min_four   -- for this text's walks alone
set_option linter.unusedVariables false
set_option linter.unusedSimpArgs false

/-! ### pack_Put: function 66 -/
mutual
def pack_Put.j0 : Nat → Int → Int → List Int → Bool → Option (List Int)
  | 0, _, _, _, _ => none
  | k + 1, x1, x2, x7, x16 => if x16 = true then (some x7) else (pack_Put.l0 k x1 x7 (wrap64 (x2 - 1)))
def pack_Put.l0 : Nat → Int → List Int → Int → Option (List Int)
  | 0, _, _, _ => none
  | k + 1, x1, x7, x8 => if x8 ≥ 0 then (if 0 ≤ (wrap64 (8 * x8)) then (if x7.length < 140737488355328 then (pack_Put.l0 k x1 (x7 ++ [(shr .u64 x1 (wrap64 (8 * x8))) % 256]) (wrap64 (x8 - 1))) else (none)) else (none)) else (some x7)
end
def pack_Put.f (k : Nat) (l0 : List Int) (a1 : Int) (a2 : Int) : Option (List Int) := (slices_Clone_uint8_uint8.f l0).bind fun t66101 => (if a2 < 1 then (pack_Put.j0 k a1 a2 t66101 true) else (pack_Put.j0 k a1 a2 t66101 (decide (a2 > 8))))
theorem pack_Put.mono_l : ∀ k, (∀ y0 y1 y2 y3, LeO (pack_Put.j0 k y0 y1 y2 y3) (pack_Put.j0 (k + 1) y0 y1 y2 y3)) ∧ (∀ y0 y1 y2, LeO (pack_Put.l0 k y0 y1 y2) (pack_Put.l0 (k + 1) y0 y1 y2))
  | 0 => ⟨fun _ _ _ _ r h => by simp [pack_Put.j0] at h, fun _ _ _ r h => by simp [pack_Put.l0] at h⟩
  | k + 1 => by
    obtain ⟨ih0, ih1⟩ := pack_Put.mono_l k
    refine ⟨?_, ?_⟩
    · intro y0 y1 y2 y3
      unfold pack_Put.j0
      repeat' first
      | (with_reducible exact ih0 _ _ _ _)
      | (with_reducible exact ih1 _ _ _)
      | (with_reducible exact LeO.refl _)
      | (with_reducible exact LeO.none _)
      | (with_reducible refine LeO.ite ?_ ?_)
      | (with_reducible refine LeO.bind ?_ (fun _ => ?_))
      | exact ih0 _ _ _ _
      | exact ih1 _ _ _
      | exact LeO.none _
      | refine LeO.ite ?_ ?_
      | refine LeO.bind ?_ (fun _ => ?_)
    · intro y0 y1 y2
      unfold pack_Put.l0
      repeat' first
      | (with_reducible exact ih0 _ _ _ _)
      | (with_reducible exact ih1 _ _ _)
      | (with_reducible exact LeO.refl _)
      | (with_reducible exact LeO.none _)
      | (with_reducible refine LeO.ite ?_ ?_)
      | (with_reducible refine LeO.bind ?_ (fun _ => ?_))
      | exact ih0 _ _ _ _
      | exact ih1 _ _ _
      | exact LeO.none _
      | refine LeO.ite ?_ ?_
      | refine LeO.bind ?_ (fun _ => ?_)
theorem pack_Put.mono : ∀ a0 a1 a2 k, LeO (pack_Put.f k a0 a1 a2) (pack_Put.f (k + 1) a0 a1 a2) := by
  intro a0 a1 a2 k
  obtain ⟨ih0, ih1⟩ := pack_Put.mono_l k
  unfold pack_Put.f
  repeat' first
      | (with_reducible exact ih0 _ _ _ _)
      | (with_reducible exact ih1 _ _ _)
      | (with_reducible exact LeO.refl _)
      | (with_reducible exact LeO.none _)
      | (with_reducible refine LeO.ite ?_ ?_)
      | (with_reducible refine LeO.bind ?_ (fun _ => ?_))
      | exact ih0 _ _ _ _
      | exact ih1 _ _ _
      | exact LeO.none _
      | refine LeO.ite ?_ ?_
      | refine LeO.bind ?_ (fun _ => ?_)
set_option maxHeartbeats 8000000 in
set_option maxRecDepth 100000 in
theorem pack_Put.calls (k : Nat) (A0 : Option Addr) (c0 : Nat) (l0 : List Int) (a1 : Int) (a2 : Int) (r : List Int) (w : World) (hr0 : Kd.C (Kd.int .u8) w A0 l0.length l0) (hc0 : l0.length ≤ c0) (h : pack_Put.f k l0 a1 a2 = some r) :
    Calls Try.prog 66 #[.slice A0 l0.length c0, .int .u64 a1, .int .i64 a2] w fun e w' => ∃ v0_ : Value, e = .returned (v0_) ∧ Kd.R (Kd.int .u8) 5 w' w.heap.size (fun _ => True) v0_ r ∧ Below w.heap.size w w' := by
  have HR0 := Aside0.mk hr0
  have HC0 := Aside0.mk hc0
  clear hr0 hc0
  have HB := Aside0.mk (Below.refl w.heap.size w)
  have H : ((slices_Clone_uint8_uint8.f l0).bind fun t66101 => (if a2 < 1 then (pack_Put.j0 k a1 a2 t66101 true) else (pack_Put.j0 k a1 a2 t66101 (decide (a2 > 8))))) = some r := h
  clear h
  replace H := Option.bind_eq_some_iff.mp H
  obtain ⟨t66101, A40, H⟩ := H
  replace H : (if a2 < 1 then (pack_Put.j0 k a1 a2 t66101 true) else (pack_Put.j0 k a1 a2 t66101 (decide (a2 > 8)))) = some r := H
  have A4 := Aside0.mk A40
  clear A40
  have HC5 := Aside0.mk H
  clear H
  go_enter Try.func66, Try.ntmps66
  go_upto_region 2 with (first | ((with_reducible refine gate_callee (f := 91) rfl ?_); refine goesL_ (some 10) rfl rfl Try.func91 (by kernel_rfl) rfl #[.slice A0 l0.length c0] rfl (by (try simp only [List.map_toArray, List.map_cons, List.map_nil]); first | done | rfl | (simp only [List.length_drop, List.length_take]; rfl)) ?_; (with_reducible refine (slices_Clone_uint8_uint8.calls _ _ l0 t66101 _ ?side1 ?side2 A4.out).mono ?_); (case side1 => repeat (first | exact HR0.out | (with_reducible refine Kd.C_alloc ?_ _) | (with_reducible refine Kd.C_drewN ?_ _) | (with_reducible refine Kd.C_drew ?_))); (case side2 => exact HC0.out); rintro e w6 ⟨v66102, rfl, ho0, hb⟩; refine ⟨_, rfl, ?_⟩; have n0_ := Aside0.mk (Kd.R_lower ho0 (below_size (by repeat (first | (with_reducible first | exact HB.out | apply below_alloc | apply pw_below_drewN | apply below_drew1) | exact HB.out)))); have n1_ := Aside0.mk (below_step (by repeat (first | (with_reducible first | exact HB.out | apply below_alloc | apply pw_below_drewN | apply below_drew1) | exact HB.out)) hb); clear HB; have HO66103 := n0_; have HB := n1_; clear n0_ n1_; (try clear hb); (try clear hb2); (try clear hk); (try clear hi); (try clear ho0)))
  (try simp only [Act.put, List.setIfInBounds_toArray, List.set_cons_zero, List.set_cons_succ])
  go_cut [16] (fun v16 wc => ∃ (kq : Nat) (x16_4 : Bool), v16 = .bool x16_4 ∧ Aside0 (pack_Put.j0 kq a1 a2 t66101 x16_4 = some r) ∧ Aside0 (kq ≤ k) ∧ Aside0 (Kd.R (Kd.int .u8) 5 wc w.heap.size (fun _ => True) v66102 t66101) ∧ Aside0 (Below w.heap.size w wc))
  case first =>
    have H := HC5.out
    clear HC5
    by_cases c7 : a2 < 1
    · rw [if_pos c7] at H
      have c7b0 : decide (a2 < 1) = true := decide_eq_true c7
      clear c7
      (first | rw [c7b0] | (simp only [i64_w, i32_w]; rw [c7b0]) | skip)
      have H' := Aside0.mk H
      clear H
      go_wp2
      go_meet
      case rel => exact ⟨_, (true), (by first | rfl | (simp; done) | (simp [*]; done)), H', ⟨by first | omega | exact Nat.le_refl _⟩, ⟨by (with_reducible repeat (first | apply Kd.R_alloc | apply Kd.R_drewN | apply Kd.R_drew)); exact HO66103.out⟩, ⟨by repeat (first | (with_reducible first | exact HB.out | apply below_alloc | apply pw_below_drewN | apply below_drew1) | exact HB.out)⟩⟩
    · rw [if_neg c7] at H
      have c7b0 : decide (a2 < 1) = false := decide_eq_false c7
      clear c7
      (first | rw [c7b0] | (simp only [i64_w, i32_w]; rw [c7b0]) | skip)
      have H' := Aside0.mk H
      clear H
      go_wp2
      go_meet
      case rel => exact ⟨_, (decide (a2 > 8)), (by first | rfl | (simp; done) | (simp [*]; done)), H', ⟨by first | omega | exact Nat.le_refl _⟩, ⟨by (with_reducible repeat (first | apply Kd.R_alloc | apply Kd.R_drewN | apply Kd.R_drew)); exact HO66103.out⟩, ⟨by repeat (first | (with_reducible first | exact HB.out | apply below_alloc | apply pw_below_drewN | apply below_drew1) | exact HB.out)⟩⟩
  case rest =>
    clear HC5
    try clear p2
    try clear c6
    try clear c7
    try clear c7b0
    obtain ⟨kq, x16_4, rfl, HA, HJ4, HO_7, HB⟩ := hcut
    cases kq with
    | zero => exact absurd HA.out (by simp [pack_Put.j0])
    | succ kj4 =>
      have H := HA.out
      clear HA
      simp only [pack_Put.j0] at H
      by_cases c8 : x16_4 = true
      · subst c8
        have H1 : (some t66101) = some r := by rw [if_pos rfl] at H; exact H
        clear H
        have H := H1
        clear H1
        obtain rfl := Option.some.inj H
        go_wp2
        go_ret
        exact ⟨_, by first | rfl | (simp [errW_none, errW_some] <;> rfl) | (simp [*, errW_none, errW_some] <;> rfl), by (with_reducible repeat (first | apply Kd.R_alloc | apply Kd.R_drewN | apply Kd.R_drew)); exact HO_7.out, by repeat (first | (with_reducible first | exact HB.out | apply below_alloc | apply pw_below_drewN | apply below_drew1) | exact HB.out)⟩
      · replace c8 := Bool.eq_false_iff.mpr c8
        subst c8
        have H1 : (pack_Put.l0 kj4 a1 t66101 (wrap64 (a2 - 1))) = some r := by rw [if_neg (show ¬ (false = true) by decide)] at H; exact H
        clear H
        have H := H1
        clear H1
        have H' := Aside0.mk H
        clear H
        go_wp2
        go_loopg [7, 8] kj4 (fun kq v7 v8 w' => ∃ (x7_2 : List Int) (x8_2 : Int), v8 = .int .i64 x8_2 ∧ Aside0 (pack_Put.l0 kq a1 x7_2 x8_2 = some r) ∧ Aside0 (kq ≤ kj4) ∧ Aside0 (Kd.R (Kd.int .u8) 5 w' w.heap.size (fun _ => True) v7 x7_2) ∧ Aside0 (Below w.heap.size w w'))
        case atStart => exact ⟨(t66101), (wrap64 (a2 - 1)), (by first | rfl | (simp; done) | (simp [*]; done)), H', ⟨Nat.le_refl _⟩, ⟨by (with_reducible repeat (first | apply Kd.R_alloc | apply Kd.R_drewN | apply Kd.R_drew)); exact HO_7.out⟩, ⟨by repeat (first | (with_reducible first | exact HB.out | apply below_alloc | apply pw_below_drewN | apply below_drew1) | exact HB.out)⟩⟩
        case round =>
          clear H'
          try clear p2
          try clear c6
          try clear p6
          try clear c7
          try clear c7b0
          try clear c8
          try clear p2
          obtain ⟨x7_2, x8_2, rfl, HA, HK2, HO_7, HB⟩ := hrel
          cases gk with
          | zero => exact absurd HA.out (by simp [pack_Put.l0])
          | succ k2 =>
            have H := HA.out
            clear HA
            simp only [pack_Put.l0] at H
            by_cases c9 : x8_2 ≥ 0
            · rw [if_pos c9] at H
              have c9b0 : decide (0 ≤ x8_2) = true := decide_eq_true c9
              clear c9
              obtain ⟨ji10, hji10⟩ : ∃ j_ : Int, (wrap64 (8 * x8_2)) = j_ := ⟨_, rfl⟩
              replace H : (if 0 ≤ (ji10) then (if x7_2.length < 140737488355328 then (pack_Put.l0 k2 a1 (x7_2 ++ [(shr .u64 a1 (ji10)) % 256]) (wrap64 (x8_2 - 1))) else (none)) else (none)) = some r := by first | (rw [hji10] at H; exact H) | (simp only [hji10] at H ⊢; exact H)
              have hji10w : (IntKind.i64.wrap (8 * x8_2)) = ji10 := (i64_w _).trans hji10
              by_cases c11 : 0 ≤ (ji10)
              · rw [if_pos c11] at H
                have c11b0 := eq_true c11
                have c11b1 : decide (0 ≤ (ji10)) = true := decide_eq_true c11
                clear c11
                obtain ⟨ji12, hji12⟩ : ∃ j_ : Int, (shr .u64 a1 (ji10)) = j_ := ⟨_, rfl⟩
                replace H : (if x7_2.length < 140737488355328 then (pack_Put.l0 k2 a1 (x7_2 ++ [(ji12) % 256]) (wrap64 (x8_2 - 1))) else (none)) = some r := by first | (rw [hji12] at H; exact H) | (simp only [hji12] at H ⊢; exact H)
                have hji12_ : (a1 / 2 ^ min (ji10).toNat 64) = ji12 := hji12
                have hji12z : (ji10) ≤ 64 → (a1 / 2 ^ (ji10).toNat) = ji12 := shr_small hji12
                by_cases c13 : x7_2.length < 140737488355328
                · rw [if_pos c13] at H
                  have LMc13 := Aside0.mk c13
                  clear c13
                  obtain ⟨y66104, hy66104⟩ : ∃ y_ : List Int, y_ = (x7_2 ++ [(ji12) % 256]) := ⟨_, rfl⟩
                  replace H : (pack_Put.l0 k2 a1 y66104 (wrap64 (x8_2 - 1))) = some r := by first | (rw [hy66104]; with_reducible exact H) | (have H2_ := (Option.bind_some _ _).symm.trans H; rw [hy66104]; with_reducible exact H2_) | (have H2_ := (Option.bind_some _ _).symm.trans H; with_reducible exact H2_) | with_reducible exact H | (rw [hy66104]; exact H) | exact H
                  have Ny66104 := Aside0.mk hy66104
                  clear hy66104
                  have H' := Aside0.mk H
                  clear H
                  go_wp2_with (first | ((with_reducible refine gate_builtin (b := .append) (xs := #[.tmp 24, .tmp 30]) rfl ?_); at_builtin; refine Kd.R_append (Kd.int .u8) (w0 := w) w.heap.size rfl (.tmp 24) (.tmp 30) 48 5 (.int .u8 0) 1 rfl Try.underlying48 info5 rfl (by decide) (by omega) u7 x7_2 ((ji12) % 256) [.int .u8 ((ji12) % 256)] (fun _ => True) (fun _ => False) rfl rfl ?aP (fun _ hk => hk.elim) ?aF ?aO ?aB ?aS ?aL ?_; (case aP => exact rfl); (case aB => exact (by repeat (first | (with_reducible first | exact HB.out | apply below_alloc | apply pw_below_drewN | apply below_drew1) | exact HB.out))); (case aF => exact (fun _ _ => trivial)); (case aO => exact (by (with_reducible repeat (first | apply Kd.R_alloc | apply Kd.R_drewN | apply Kd.R_drew)); exact HO_7.out)); (case aS => exact (below_size (by repeat (first | (with_reducible first | exact HB.out | apply below_alloc | apply pw_below_drewN | apply below_drew1) | exact HB.out)))); (case aL => have := LMc13.out; omega); intro v66105 w14 ho hb hg hat; rw [← Ny66104.out] at ho; have n0_ := Aside0.mk (hb); have n1_ := Aside0.mk (ho); clear HB; clear HO_7; have HB := n0_; have HO66106 := n1_; clear n0_ n1_; clear ho hb hg hat))
                  go_roundg k2
                  case measure => have := HJ4.out; have := HK2.out; omega
                  case rel => exact ⟨(y66104), (wrap64 (x8_2 - 1)), (by first | rfl | (simp; done) | (simp [*]; done)), H', ⟨by have := HJ4.out; have := HK2.out; omega⟩, ⟨by (with_reducible repeat (first | apply Kd.R_alloc | apply Kd.R_drewN | apply Kd.R_drew)); exact HO66106.out⟩, ⟨by repeat (first | (with_reducible first | exact HB.out | apply below_alloc | apply pw_below_drewN | apply below_drew1) | exact HB.out)⟩⟩
                · rw [if_neg c13] at H
                  exact absurd H (by simp)
              · rw [if_neg c11] at H
                exact absurd H (by simp)
            · rw [if_neg c9] at H
              have c9b0 : decide (0 ≤ x8_2) = false := decide_eq_false c9
              clear c9
              obtain rfl := Option.some.inj H
              go_wp2
              go_ret
              exact ⟨_, by first | rfl | (simp [errW_none, errW_some] <;> rfl) | (simp [*, errW_none, errW_some] <;> rfl), by (with_reducible repeat (first | apply Kd.R_alloc | apply Kd.R_drewN | apply Kd.R_drew)); exact HO_7.out, by repeat (first | (with_reducible first | exact HB.out | apply below_alloc | apply pw_below_drewN | apply below_drew1) | exact HB.out)⟩
end Go.Proofs.Ytemhalnhbgkbcaa.V
end

-- VFPackText
section
-- PRINTED by print.py (a twelfth state) out of the translation. Not trusted: Lean checks it.
namespace Go.Proofs.Ytemhalnhbgkbcaa.V
open Go.RowKit Go.Proofs.YtemhalnhbgkbcaaW.PrintWords Go.Proofs.YtemhalnhbgkbcaaW.PrintLast Go.Proofs.YtemhalnhbgkbcaaW.PrintMore
attribute [local go_sem] max2_int min2_int max_two min_two max_three min_three max_four min_four   -- for this text's walks alone
set_option linter.unusedVariables false
set_option linter.unusedSimpArgs false

/-! ### pack_Text: function 101 -/
def pack_Text.f (k : Nat) (l0 : List Int) (a1 : ByteArray) : Option (List Int × Int) := if (a1.size : Int) > 64 then (some (([] : List Int), 1)) else ((pack_Put.f k l0 (IntKind.u64.wrap ((a1.size : Int))) 1).bind fun t101101 => (if t101101.length + a1.size < 140737488355328 then (some ((t101101 ++ bytesOf a1), 0)) else (none)))
theorem pack_Text.mono : ∀ a0 a1 k, LeO (pack_Text.f k a0 a1) (pack_Text.f (k + 1) a0 a1) := by
  intro a0 a1 k
  unfold pack_Text.f
  repeat' first
      | (with_reducible exact pack_Put.mono _ _ _ _)
      | (with_reducible exact LeO.refl _)
      | (with_reducible exact LeO.none _)
      | (with_reducible refine LeO.ite ?_ ?_)
      | (with_reducible refine LeO.bind ?_ (fun _ => ?_))
      | exact pack_Put.mono _ _ _ _
      | exact LeO.none _
      | refine LeO.ite ?_ ?_
      | refine LeO.bind ?_ (fun _ => ?_)
set_option maxHeartbeats 8000000 in
set_option maxRecDepth 100000 in
theorem pack_Text.calls (k : Nat) (A0 : Option Addr) (c0 : Nat) (l0 : List Int) (a1 : ByteArray) (r1 : List Int) (r2 : Int) (w : World) (hr0 : Kd.C (Kd.int .u8) w A0 l0.length l0) (hc0 : l0.length ≤ c0) (h : pack_Text.f k l0 a1 = some (r1, r2)) :
    Calls Try.prog 101 #[.slice A0 l0.length c0, .string a1] w fun e w' => ∃ v0_ : Value, e = .returned (.tuple #[v0_, .int .i64 r2]) ∧ Kd.R (Kd.int .u8) 5 w' w.heap.size (fun _ => True) v0_ r1 ∧ Below w.heap.size w w' := by
  have HR0 := Aside0.mk hr0
  have HC0 := Aside0.mk hc0
  clear hr0 hc0
  have HB := Aside0.mk (Below.refl w.heap.size w)
  have H : (if (a1.size : Int) > 64 then (some (([] : List Int), 1)) else ((pack_Put.f k l0 (IntKind.u64.wrap ((a1.size : Int))) 1).bind fun t101101 => (if t101101.length + a1.size < 140737488355328 then (some ((t101101 ++ bytesOf a1), 0)) else (none)))) = some (r1, r2) := h
  clear h
  by_cases c3 : (a1.size : Int) > 64
  · rw [if_pos c3] at H
    have c3b0 : decide (64 < (a1.size : Int)) = true := decide_eq_true c3
    have c3b1 : decide (64 < a1.size) = true := decide_eq_true (by omega)
    clear c3
    simp only [Option.some.injEq, Prod.mk.injEq] at H
    obtain ⟨rfl, rfl⟩ := H
    go_enter Try.func101, Try.ntmps101
    go_wp2
    go_ret2
    exact ⟨_, by first | rfl | (simp [errW_none, errW_some] <;> rfl) | (simp [*, errW_none, errW_some] <;> rfl), by first | exact Kd.R_nil _ _ _ _ _ | exact Kd.N_nil _ _ _ _ _ | exact Kd.V_nil _ _ _ _ _ | exact Kd.Q_nil _ _ _ _ _ | exact Kd.S_nil _ _ _ _ _, by repeat (first | (with_reducible first | exact HB.out | apply below_alloc | apply pw_below_drewN | apply below_drew1) | exact HB.out)⟩
  · rw [if_neg c3] at H
    have c3b0 : decide (64 < (a1.size : Int)) = false := decide_eq_false c3
    have c3b1 : decide (64 < a1.size) = false := decide_eq_false (by omega)
    clear c3
    replace H := Option.bind_eq_some_iff.mp H
    obtain ⟨t101101, A40, H⟩ := H
    replace H : (if t101101.length + a1.size < 140737488355328 then (some ((t101101 ++ bytesOf a1), 0)) else (none)) = some (r1, r2) := H
    have A4 := Aside0.mk A40
    clear A40
    by_cases c5 : t101101.length + a1.size < 140737488355328
    · rw [if_pos c5] at H
      have LMc5 := Aside0.mk c5
      clear c5
      obtain ⟨y101104, hy101104⟩ : ∃ y_ : List Int, y_ = (t101101 ++ bytesOf a1) := ⟨_, rfl⟩
      replace H : (some (y101104, 0)) = some (r1, r2) := by first | (rw [hy101104]; with_reducible exact H) | (have H2_ := (Option.bind_some _ _).symm.trans H; rw [hy101104]; with_reducible exact H2_) | (have H2_ := (Option.bind_some _ _).symm.trans H; with_reducible exact H2_) | with_reducible exact H | (rw [hy101104]; exact H) | exact H
      have Ny101104 := Aside0.mk hy101104
      clear hy101104
      simp only [Option.some.injEq, Prod.mk.injEq] at H
      obtain ⟨rfl, rfl⟩ := H
      go_enter Try.func101, Try.ntmps101
      go_wp2_with (first | ((with_reducible refine gate_callee (f := 66) rfl ?_); refine goesL_ (some 13) rfl rfl Try.func66 (by kernel_rfl) rfl #[.slice A0 l0.length c0, .int .u64 (IntKind.u64.wrap ((a1.size : Int))), .int .i64 1] rfl (by (try simp only [List.map_toArray, List.map_cons, List.map_nil]); first | done | rfl | (simp only [List.length_drop, List.length_take]; rfl)) ?_; (with_reducible refine (pack_Put.calls k _ _ l0 (IntKind.u64.wrap ((a1.size : Int))) 1 t101101 _ ?side1 ?side2 A4.out).mono ?_); (case side1 => repeat (first | exact HR0.out | (with_reducible refine Kd.C_alloc ?_ _) | (with_reducible refine Kd.C_drewN ?_ _) | (with_reducible refine Kd.C_drew ?_))); (case side2 => exact HC0.out); rintro e w6 ⟨v101102, rfl, ho0, hb⟩; refine ⟨_, rfl, ?_⟩; have n0_ := Aside0.mk (Kd.R_lower ho0 (below_size (by repeat (first | (with_reducible first | exact HB.out | apply below_alloc | apply pw_below_drewN | apply below_drew1) | exact HB.out)))); have n1_ := Aside0.mk (below_step (by repeat (first | (with_reducible first | exact HB.out | apply below_alloc | apply pw_below_drewN | apply below_drew1) | exact HB.out)) hb); clear HB; have HO101103 := n0_; have HB := n1_; clear n0_ n1_; (try clear hb); (try clear hb2); (try clear hk); (try clear hi); (try clear ho0)) | (at_builtin; refine print_append_str (w0 := w) w.heap.size rfl (.tmp 13) _ 48 9 5 rfl Try.underlying48 Try.underlying9 info5 v101102 t101101 a1 rfl rfl ?aO ?aB ?aS ?aL ?_; (case aB => exact (by repeat (first | (with_reducible first | exact HB.out | apply below_alloc | apply pw_below_drewN | apply below_drew1) | exact HB.out))); (case aO => exact (Kd.own_of_R (by (with_reducible repeat (first | apply Kd.R_alloc | apply Kd.R_drewN | apply Kd.R_drew)); exact HO101103.out))); (case aS => exact (below_size (by repeat (first | (with_reducible first | exact HB.out | apply below_alloc | apply pw_below_drewN | apply below_drew1) | exact HB.out)))); (case aL => have := LMc5.out; omega); intro v101105 w7 ho0 hb hg; have ho := Kd.R_of_own (h1 := fun _ => rfl) (ok := fun _ => True) ho0 (fun _ _ => trivial); clear ho0; have hat := True.intro; rw [← Ny101104.out] at ho; change Kd.R (Kd.int .u8) 5 w7 w.heap.size (fun _ => True) v101105 y101104 at ho; have n0_ := Aside0.mk (hb); have n1_ := Aside0.mk (ho); clear HB; clear HO101103; have HB := n0_; have HO101106 := n1_; clear n0_ n1_; clear ho hb hg hat))
      go_ret2
      exact ⟨_, by first | rfl | (simp [errW_none, errW_some] <;> rfl) | (simp [*, errW_none, errW_some] <;> rfl), by (with_reducible repeat (first | apply Kd.R_alloc | apply Kd.R_drewN | apply Kd.R_drew)); exact HO101106.out, by repeat (first | (with_reducible first | exact HB.out | apply below_alloc | apply pw_below_drewN | apply below_drew1) | exact HB.out)⟩
    · rw [if_neg c5] at H
      exact absurd H (by simp)
end Go.Proofs.Ytemhalnhbgkbcaa.V
end

-- VFImageText
section
-- PRINTED by print.py (a twelfth state) out of the translation. Not trusted: Lean checks it.
namespace Go.Proofs.Ytemhalnhbgkbcaa.V
open Go.RowKit Go.Proofs.YtemhalnhbgkbcaaW.PrintWords Go.Proofs.YtemhalnhbgkbcaaW.PrintLast Go.Proofs.YtemhalnhbgkbcaaW.PrintMore
attribute [local go_sem] max2_int min2_int max_two min_two max_three min_three max_four min_four   -- for this text's walks alone
set_option linter.unusedVariables false
set_option linter.unusedSimpArgs false

/-! ### image_text: function 67 -/
def image_text.f (k : Nat) (l0 : List Int) (a1 : ByteArray) : Option (List Int) := (pack_Text.f k l0 a1).bind fun bt67101 => (some bt67101.1)
theorem image_text.mono : ∀ a0 a1 k, LeO (image_text.f k a0 a1) (image_text.f (k + 1) a0 a1) := by
  intro a0 a1 k
  unfold image_text.f
  repeat' first
      | (with_reducible exact pack_Text.mono _ _ _)
      | (with_reducible exact LeO.refl _)
      | (with_reducible exact LeO.none _)
      | (with_reducible refine LeO.ite ?_ ?_)
      | (with_reducible refine LeO.bind ?_ (fun _ => ?_))
      | exact pack_Text.mono _ _ _
      | exact LeO.none _
      | refine LeO.ite ?_ ?_
      | refine LeO.bind ?_ (fun _ => ?_)
set_option maxHeartbeats 8000000 in
set_option maxRecDepth 100000 in
theorem image_text.calls (k : Nat) (A0 : Option Addr) (c0 : Nat) (l0 : List Int) (a1 : ByteArray) (r : List Int) (w : World) (hr0 : Kd.C (Kd.int .u8) w A0 l0.length l0) (hc0 : l0.length ≤ c0) (h : image_text.f k l0 a1 = some r) :
    Calls Try.prog 67 #[.slice A0 l0.length c0, .string a1] w fun e w' => ∃ v0_ : Value, e = .returned (v0_) ∧ Kd.R (Kd.int .u8) 5 w' w.heap.size (fun _ => True) v0_ r ∧ Below w.heap.size w w' := by
  have HR0 := Aside0.mk hr0
  have HC0 := Aside0.mk hc0
  clear hr0 hc0
  have HB := Aside0.mk (Below.refl w.heap.size w)
  have H : ((pack_Text.f k l0 a1).bind fun bt67101 => (some bt67101.1)) = some r := h
  clear h
  replace H := Option.bind_eq_some_iff.mp H
  obtain ⟨⟨t67101, t67102⟩, A30, H⟩ := H
  replace H : (some t67101) = some r := H
  have A3 := Aside0.mk A30
  clear A30
  obtain rfl := Option.some.inj H
  go_enter Try.func67, Try.ntmps67
  go_wp2_with (first | ((with_reducible refine gate_callee (f := 101) rfl ?_); refine goesL_ (some 10) rfl rfl Try.func101 (by kernel_rfl) rfl #[.slice A0 l0.length c0, .string a1] rfl (by (try simp only [List.map_toArray, List.map_cons, List.map_nil]); first | done | rfl | (simp only [List.length_drop, List.length_take]; rfl)) ?_; (with_reducible refine (pack_Text.calls k _ _ l0 a1 t67101 t67102 _ ?side1 ?side2 A3.out).mono ?_); (case side1 => repeat (first | exact HR0.out | (with_reducible refine Kd.C_alloc ?_ _) | (with_reducible refine Kd.C_drewN ?_ _) | (with_reducible refine Kd.C_drew ?_))); (case side2 => exact HC0.out); rintro e w4 ⟨v67103, rfl, ho0, hb⟩; refine ⟨_, rfl, ?_⟩; have n0_ := Aside0.mk (Kd.R_lower ho0 (below_size (by repeat (first | (with_reducible first | exact HB.out | apply below_alloc | apply pw_below_drewN | apply below_drew1) | exact HB.out)))); have n1_ := Aside0.mk (below_step (by repeat (first | (with_reducible first | exact HB.out | apply below_alloc | apply pw_below_drewN | apply below_drew1) | exact HB.out)) hb); clear HB; have HO67104 := n0_; have HB := n1_; clear n0_ n1_; (try clear hb); (try clear hb2); (try clear hk); (try clear hi); (try clear ho0)))
  go_ret
  exact ⟨_, by first | rfl | (simp [errW_none, errW_some] <;> rfl) | (simp [*, errW_none, errW_some] <;> rfl), by (with_reducible repeat (first | apply Kd.R_alloc | apply Kd.R_drewN | apply Kd.R_drew)); exact HO67104.out, by repeat (first | (with_reducible first | exact HB.out | apply below_alloc | apply pw_below_drewN | apply below_drew1) | exact HB.out)⟩
end Go.Proofs.Ytemhalnhbgkbcaa.V
end

-- BImgPut
section
/- image.Put: a block's bytes. -/
namespace Go.Proofs.Ytemhalnhbgkbcaa.V
open Go.RowKit Go.Proofs.YtemhalnhbgkbcaaW.PrintWords Go.Proofs.YtemhalnhbgkbcaaW.PrintLast Go.Proofs.YtemhalnhbgkbcaaW.PrintMore
set_option linter.unusedVariables false
set_option linter.unusedSimpArgs false

theorem rightName_size {s : ByteArray} (h : rightName s = true) : 0 < s.size ∧ s.size ≤ 64 := by
  unfold rightName at h
  simp only [Bool.and_eq_true, decide_eq_true_eq] at h
  exact ⟨h.1.2, h.2⟩
/-- What a right block has. -/
structure RightP (b : Bk) : Prop where
  first : firstI b.addr = b.addr
  owner : ownerB b.aff = true
  na : b.attrs.length ≤ 64
  sa : ∀ s ∈ b.slots, s ≤ (b.attrs.length : Int)
  may : ∀ j, j < b.attrs.length → mayAt (atN b.attrs j) = true
  nd : ∀ j, j < b.attrs.length → (b.attrs.take j).any (sameAt (atN b.attrs j)) = false
  used : (listOf (usedN b.slots)).length = b.attrs.length
  fr : ∀ j, j < b.free.length → freeBad b j = false
  zc : b.slots.countP (fun x => x == 0) = b.free.length
theorem right_p {b : Bk} (h : rightB b = true) : RightP b := by
  unfold rightB attrsOk freeOk at h
  simp only [Bool.and_eq_true, decide_eq_true_eq, List.all_eq_true, beq_iff_eq, List.mem_range, Bool.not_eq_true'] at h
  obtain ⟨h1, h2, h3, ⟨h4, h5, h6⟩, h7, h8⟩ := h
  exact ⟨h1, h2, h3, h4, fun j hj => (h5 j hj).1, fun j hj => (h5 j hj).2, h6, h7, h8⟩
theorem RightP.free_len {b : Bk} (h : RightP b) (hl : b.slots.length = 64) : b.free.length ≤ 64 := by
  rw [← h.zc, ← hl]
  exact List.countP_le_length
end Go.Proofs.Ytemhalnhbgkbcaa.V
end

-- BFitsP
section
/- How long a block's bytes are; the example of chapter 16. -/
namespace Go.Proofs.Ytemhalnhbgkbcaa.V
open Go.RowKit Go.Proofs.YtemhalnhbgkbcaaW.PrintWords Go.Proofs.YtemhalnhbgkbcaaW.PrintLast Go.Proofs.YtemhalnhbgkbcaaW.PrintMore
set_option linter.unusedVariables false
set_option linter.unusedSimpArgs false

theorem nodup_le (xs ys : List Int) (h : xs.Nodup) (hs : ∀ x ∈ xs, x ∈ ys) : xs.length ≤ ys.length := h.length_le_of_subset hs
theorem listN_nodup (s n : Nat) : (listN s n).Nodup := by
  unfold listN List.Nodup
  rw [List.pairwise_map]
  exact (List.Pairwise.filter _ List.nodup_range).imp (fun {a b} h e => h (by omega))
theorem used_le (l : List Int) : (listOf (usedN l)).length ≤ (l.filter (fun x => decide (1 ≤ x))).length := by
  have h : (listOf (usedN l)).length ≤ ((l.filter (fun x => decide (1 ≤ x))).map (fun s => s - 1)).length := by
    refine nodup_le _ _ (listN_nodup _ 64) (fun x hx => ?_)
    obtain ⟨i, rfl, hi, ht⟩ := mem_listN_nat _ _ x hx
    unfold usedN at ht
    rw [ofN_testBit _ i hi, decide_eq_true_eq, List.mem_map] at ht
    obtain ⟨s, hs, he⟩ := ht
    exact List.mem_map.2 ⟨s, List.mem_filter.2 ⟨hs, by simp; omega⟩, he⟩
  simpa using h
theorem zero_one (l : List Int) (h : U8s l) : (l.filter (fun x => decide (1 ≤ x))).length + l.countP (fun x => x == 0) = l.length := by
  induction l with
  | nil => rfl
  | cons x l ih =>
    have h1 := ih (fun y hy => h y (by simp [hy]))
    have h2 := h x (by simp)
    by_cases hx : x = 0
    · subst hx
      simp only [List.filter_cons, List.countP_cons, List.length_cons]
      simp
      omega
    · have h3 : 1 ≤ x := by omega
      simp only [List.filter_cons, List.countP_cons, List.length_cons]
      simp [hx, h3]
      omega
theorem RightP.sum_le {b : Bk} (h : RightP b) (hk : BkOk b) (hl : b.slots.length = 64) : b.attrs.length + b.free.length ≤ 64 := by
  have h1 := used_le b.slots
  have h2 := zero_one b.slots hk.s8
  rw [h.used] at h1
  rw [h.zc, hl] at h2
  omega
/-! ### The example -/
end Go.Proofs.Ytemhalnhbgkbcaa.V
end

-- BRelP
section
/- Release, plainly: what stays so while slots are freed. -/
namespace Go.Proofs.Ytemhalnhbgkbcaa.V
open Go.RowKit Go.Proofs.YtemhalnhbgkbcaaW.PrintWords Go.Proofs.YtemhalnhbgkbcaaW.PrintLast Go.Proofs.YtemhalnhbgkbcaaW.PrintMore
set_option linter.unusedVariables false
set_option linter.unusedSimpArgs false

structure RelOk (b : Bk) (s : Bk × List Int) (n : Nat) : Prop where
  addr : s.1.addr = b.addr
  aff : s.1.aff = b.aff
  attrs : s.1.attrs = b.attrs
  l64 : s.1.slots.length = 64
  s8 : U8s s.1.slots
  f8 : U8s s.1.free
  le : ∀ x ∈ s.1.slots, x ≤ (b.attrs.length : Int)
  fl : s.1.free.length ≤ b.free.length + n
  ol : s.2.length ≤ n
theorem hit_range {b : Bk} {x : Int} (h : hitB b x = true) : 0 ≤ x - b.addr ∧ x - b.addr < 64 ∧ firstI x = b.addr ∧ (b.slots.getD (x - b.addr).toNat 0 != 0) = true := by
  unfold hitB at h
  rw [Bool.and_eq_true, decide_eq_true_eq] at h
  obtain ⟨h1, h2⟩ := h
  refine ⟨?_, ?_, h1, h2⟩ <;> (unfold firstI at h1; omega)
theorem mem_set_or {l : List Int} {i : Nat} {x y : Int} (h : y ∈ l.set i x) : y ∈ l ∨ y = x := List.mem_or_eq_of_mem_set h
theorem relF_ok {b : Bk} {s : Bk × List Int} {n : Nat} (h : RelOk b s n) (x : Int) : RelOk b (relF s x) (n + 1) := by
  unfold relF
  by_cases hh : hitB s.1 x = true
  · rw [if_pos hh]
    obtain ⟨h1, h2, _, _⟩ := hit_range hh
    refine ⟨h.addr, h.aff, h.attrs, by simpa using h.l64, fun y hy => ?_, fun y hy => ?_, fun y hy => ?_, ?_, ?_⟩
    · rcases mem_set_or hy with hy | rfl
      · exact h.s8 y hy
      · omega
    · rcases List.mem_append.1 hy with hy | hy
      · exact h.f8 y hy
      · rw [List.mem_singleton] at hy
        subst hy
        omega
    · rcases mem_set_or hy with hy | rfl
      · exact h.le y hy
      · omega
    · show (s.1.free ++ [x - s.1.addr]).length ≤ _
      have := h.fl
      rw [List.length_append, List.length_singleton]
      omega
    · show (s.2 ++ [x]).length ≤ _
      have := h.ol
      rw [List.length_append, List.length_singleton]
      omega
  · rw [if_neg hh]
    exact ⟨h.addr, h.aff, h.attrs, h.l64, h.s8, h.f8, h.le, by have := h.fl; omega, by have := h.ol; omega⟩
theorem relL_ok {b : Bk} (hk : BkOk b) (hp : RightP b) (hl : b.slots.length = 64) (l : List Int) : ∀ k, k ≤ l.length → RelOk b (relL b (l.take k)) k := by
  intro k
  induction k with
  | zero => intro _; exact ⟨rfl, rfl, rfl, hl, hk.s8, hk.f8, hp.sa, Nat.le_refl _, Nat.le_refl _⟩
  | succ k ih =>
    intro h
    rw [List.take_succ_eq_append_getElem (by omega), relL_snoc]
    exact relF_ok (ih (by omega)) _
theorem relL_succ (b : Bk) (l : List Int) (k : Nat) (h : k < l.length) (x : Int) (hx : l[k] = x) : relL b (l.take (k + 1)) = relF (relL b (l.take k)) x := by
  rw [List.take_succ_eq_append_getElem h, relL_snoc, hx]
end Go.Proofs.Ytemhalnhbgkbcaa.V
end

-- BAssignNo
section
/- block.Assign. -/
namespace Go.Proofs.Ytemhalnhbgkbcaa.V
open Go.RowKit Go.Proofs.YtemhalnhbgkbcaaW.PrintWords Go.Proofs.YtemhalnhbgkbcaaW.PrintLast Go.Proofs.YtemhalnhbgkbcaaW.PrintMore
set_option linter.unusedVariables false
set_option linter.unusedSimpArgs false

def asgOk (b : Bk) (n : Int) (a : At) : Bool := rightB b && (mayAt a && decide (0 ≤ n))
theorem atL_one (a : At) : ∀ u ∈ [Value.string a.f0, .string a.f1], u.oneCell' = true := by
  intro u hu
  simp only [List.mem_cons, List.not_mem_nil, or_false] at hu
  rcases hu with rfl | rfl <;> rfl
set_option maxHeartbeats 8000000 in
set_option maxRecDepth 100000 in
theorem assign_no (b : Bk) (hk : BkOk b) (n : Int) (a : At) (hno : asgOk b n a = false) (v : Value) (w : World) (h : BkV w v b) :
    Calls Try.prog 49 #[v, .int .i64 n, atV a] w fun e w' => ∃ v' vo, e = .returned (.tuple #[v', vo, .int .i64 1]) ∧ BkO w' w.heap.size v' zbk ∧ Kd.R (Kd.int .u32) 46 w' w.heap.size (fun _ => True) vo [] ∧ Below w.heap.size w w' := by
  obtain ⟨A, c, A', c', rfl, hr⟩ := h
  have HL := Aside0.mk hr.l64
  have HR := Aside0.mk hr
  have HK := Aside0.mk hk
  clear hr hk
  have HB_0 := Aside0.mk (Below.refl w.heap.size w)
  unfold asgOk at hno
  cases hrt : rightB b with
  | false =>
    have HRT := Aside0.mk hrt
    clear hrt hno
    go_enter Try.func49, Try.ntmps49
    go_wp2_with (first
      | (refine step_box rfl 57 (.tmp 0) rfl _ rfl ?_; intro gX W1 hg_ hx_ hb_; have GE_gX := Aside0.mk (show w.heap.size ≤ gX by have := HB_0.out.size; omega); have HB_1 := Aside0.mk (HB_0.out.trans (hb_.mono HB_0.out.size)); have HX_1 := Aside0.mk (hx_); clear hg_ hx_ hb_ HB_0)
      | (refine step_box rfl 85 (.tmp 2) rfl _ rfl ?_; intro gA W2 hg_ hx_ hb_; have GE_gA := Aside0.mk (show w.heap.size ≤ gA by have := HB_1.out.size; omega); have NE_gX_gA := Aside0.mk (show gX ≠ gA by have := HX_1.out.lt; omega); have HB_2 := Aside0.mk (HB_1.out.trans (hb_.mono HB_1.out.size)); have HX_2 := Aside0.mk (HX_1.out.below hb_); have HA_2 := Aside0.mk (hx_); clear hg_ hx_ hb_ HB_1 HX_1)
      | (refine step_allocN (some 6) rfl rfl 57 rfl zeroL zero57 ?_; intro gZ W3 hg_ hx_ hb_; have GE_gZ := Aside0.mk (show w.heap.size ≤ gZ by have := HB_2.out.size; omega); have NE_gX_gZ := Aside0.mk (show gX ≠ gZ by have := HX_2.out.lt; omega); have NE_gA_gZ := Aside0.mk (show gA ≠ gZ by have := HA_2.out.lt; omega); have HB_3 := Aside0.mk (HB_2.out.trans (hb_.mono HB_2.out.size)); have HX_3 := Aside0.mk (HX_2.out.below hb_); have HA_3 := Aside0.mk (HA_2.out.below hb_); have HZ_3 := Aside0.mk (hx_); clear hg_ hx_ hb_ HB_2 HX_2 HA_2)
      | ((with_reducible refine gate_dst (N := 12) rfl ?_); refine step_load rfl 57 (.tmp 3) rfl gX rfl _ _ _ HX_3.out Try.underlying57 rfl 68 (by kernel_rfl) (bkL_length _ _ _ _ _ HL.out) ?_)
      | (go_at_call 48; refine (right_any' b HK.out _ _ ⟨A, c, A', c', rfl, HR.out.below HB_3.out⟩).mono ?_; rintro e W4 ⟨rfl, hb_⟩; rw [HRT.out]; have HB_4 := Aside0.mk (HB_3.out.trans (hb_.mono HB_3.out.size)); have HX_4 := Aside0.mk (HX_3.out.below hb_); have HA_4 := Aside0.mk (HA_3.out.below hb_); have HZ_4 := Aside0.mk (HZ_3.out.below hb_); clear hb_ HB_3 HX_3 HA_3 HZ_3)
      | (refine step_build rfl 57 #[] rfl zeroL built0 ?_)
      | (refine step_store rfl 57 (.tmp 6) (.tmp 24) rfl gZ zeroL rfl rfl 57 _ HZ_4.out 68 (by kernel_rfl) rfl rfl zeroL_one ?_; intro W5 hx_ hg_; have HB_5 := Aside0.mk (HB_4.out.grown hg_ HB_4.out.size (by intro k hk; cases hk; exact GE_gZ.out)); have HX_5 := Aside0.mk (HX_4.out.grown hg_ (fun e => NE_gX_gZ.out (Option.some.inj e))); have HA_5 := Aside0.mk (HA_4.out.grown hg_ (fun e => (HA_4.out.ne HZ_4.out (by decide)) (Option.some.inj e))); have HZ_5 := Aside0.mk (hx_); clear hx_ hg_ HB_4 HX_4 HA_4 HZ_4))
    exact bodyPost_ret (results_ctt rfl _ _ gZ 57 _ (0, 0) _ rfl HZ_5.out Try.underlying57 rfl (by simp only [List.size_toArray]; exact size57 _ rfl)) rfl ⟨_, _, rfl, zbk_O _ _, Kd.R_nil _ _ _ _ _, HB_5.out⟩
  | true =>
    have HRT := Aside0.mk hrt
    cases hm : mayAt a with
    | false =>
      have HMY := Aside0.mk hm
      clear hrt hno hm
      go_enter Try.func49, Try.ntmps49
      go_wp2_with (first
        | (refine step_box rfl 57 (.tmp 0) rfl _ rfl ?_; intro gX W1 hg_ hx_ hb_; have GE_gX := Aside0.mk (show w.heap.size ≤ gX by have := HB_0.out.size; omega); have HB_1 := Aside0.mk (HB_0.out.trans (hb_.mono HB_0.out.size)); have HX_1 := Aside0.mk (hx_); clear hg_ hx_ hb_ HB_0)
        | (refine step_box rfl 85 (.tmp 2) rfl _ rfl ?_; intro gA W2 hg_ hx_ hb_; have GE_gA := Aside0.mk (show w.heap.size ≤ gA by have := HB_1.out.size; omega); have NE_gX_gA := Aside0.mk (show gX ≠ gA by have := HX_1.out.lt; omega); have HB_2 := Aside0.mk (HB_1.out.trans (hb_.mono HB_1.out.size)); have HX_2 := Aside0.mk (HX_1.out.below hb_); have HA_2 := Aside0.mk (hx_); clear hg_ hx_ hb_ HB_1 HX_1)
        | (refine step_allocN (some 6) rfl rfl 57 rfl zeroL zero57 ?_; intro gZ W3 hg_ hx_ hb_; have GE_gZ := Aside0.mk (show w.heap.size ≤ gZ by have := HB_2.out.size; omega); have NE_gX_gZ := Aside0.mk (show gX ≠ gZ by have := HX_2.out.lt; omega); have NE_gA_gZ := Aside0.mk (show gA ≠ gZ by have := HA_2.out.lt; omega); have HB_3 := Aside0.mk (HB_2.out.trans (hb_.mono HB_2.out.size)); have HX_3 := Aside0.mk (HX_2.out.below hb_); have HA_3 := Aside0.mk (HA_2.out.below hb_); have HZ_3 := Aside0.mk (hx_); clear hg_ hx_ hb_ HB_2 HX_2 HA_2)
        | ((with_reducible refine gate_dst (N := 12) rfl ?_); refine step_load rfl 57 (.tmp 3) rfl gX rfl _ _ _ HX_3.out Try.underlying57 rfl 68 (by kernel_rfl) (bkL_length _ _ _ _ _ HL.out) ?_)
        | (go_at_call 48; refine (right_any' b HK.out _ _ ⟨A, c, A', c', rfl, HR.out.below HB_3.out⟩).mono ?_; rintro e W4 ⟨rfl, hb_⟩; rw [HRT.out]; have HB_4 := Aside0.mk (HB_3.out.trans (hb_.mono HB_3.out.size)); have HX_4 := Aside0.mk (HX_3.out.below hb_); have HA_4 := Aside0.mk (HA_3.out.below hb_); have HZ_4 := Aside0.mk (HZ_3.out.below hb_); clear hb_ HB_3 HX_3 HA_3 HZ_3)
        | ((with_reducible refine gate_dst (N := 16) rfl ?_); refine gate_guard (by rfl) ?_; refine step_load rfl 85 (.tmp 5) rfl gA rfl _ _ _ HA_4.out Try.underlying85 rfl 2 (by kernel_rfl) rfl ?_)
        | (go_at_call 88; refine (bmay_any a _).mono ?_; rintro e W5 ⟨rfl, hb_⟩; rw [HMY.out]; have HB_5 := Aside0.mk (HB_4.out.trans (hb_.mono HB_4.out.size)); have HX_5 := Aside0.mk (HX_4.out.below hb_); have HA_5 := Aside0.mk (HA_4.out.below hb_); have HZ_5 := Aside0.mk (HZ_4.out.below hb_); clear hb_ HB_4 HX_4 HA_4 HZ_4)
        | (refine step_build rfl 57 #[] rfl zeroL built0 ?_)
        | (refine step_store rfl 57 (.tmp 6) (.tmp 24) rfl gZ zeroL rfl rfl 57 _ HZ_5.out 68 (by kernel_rfl) rfl rfl zeroL_one ?_; intro W6 hx_ hg_; have HB_6 := Aside0.mk (HB_5.out.grown hg_ HB_5.out.size (by intro k hk; cases hk; exact GE_gZ.out)); have HX_6 := Aside0.mk (HX_5.out.grown hg_ (fun e => NE_gX_gZ.out (Option.some.inj e))); have HA_6 := Aside0.mk (HA_5.out.grown hg_ (fun e => (HA_5.out.ne HZ_5.out (by decide)) (Option.some.inj e))); have HZ_6 := Aside0.mk (hx_); clear hx_ hg_ HB_5 HX_5 HA_5 HZ_5))
      exact bodyPost_ret (results_ctt rfl _ _ gZ 57 _ (0, 0) _ rfl HZ_6.out Try.underlying57 rfl (by simp only [List.size_toArray]; exact size57 _ rfl)) rfl ⟨_, _, rfl, zbk_O _ _, Kd.R_nil _ _ _ _ _, HB_6.out⟩
    | true =>
      have HMY := Aside0.mk hm
      rw [hrt, hm] at hno
      have hneg : n < 0 := by
        simp at hno
        omega
      have hd : decide (n < 0) = true := decide_eq_true hneg
      clear hrt hno hm
      go_enter Try.func49, Try.ntmps49
      go_wp2_with (first
        | (refine step_box rfl 57 (.tmp 0) rfl _ rfl ?_; intro gX W1 hg_ hx_ hb_; have GE_gX := Aside0.mk (show w.heap.size ≤ gX by have := HB_0.out.size; omega); have HB_1 := Aside0.mk (HB_0.out.trans (hb_.mono HB_0.out.size)); have HX_1 := Aside0.mk (hx_); clear hg_ hx_ hb_ HB_0)
        | (refine step_box rfl 85 (.tmp 2) rfl _ rfl ?_; intro gA W2 hg_ hx_ hb_; have GE_gA := Aside0.mk (show w.heap.size ≤ gA by have := HB_1.out.size; omega); have NE_gX_gA := Aside0.mk (show gX ≠ gA by have := HX_1.out.lt; omega); have HB_2 := Aside0.mk (HB_1.out.trans (hb_.mono HB_1.out.size)); have HX_2 := Aside0.mk (HX_1.out.below hb_); have HA_2 := Aside0.mk (hx_); clear hg_ hx_ hb_ HB_1 HX_1)
        | (refine step_allocN (some 6) rfl rfl 57 rfl zeroL zero57 ?_; intro gZ W3 hg_ hx_ hb_; have GE_gZ := Aside0.mk (show w.heap.size ≤ gZ by have := HB_2.out.size; omega); have NE_gX_gZ := Aside0.mk (show gX ≠ gZ by have := HX_2.out.lt; omega); have NE_gA_gZ := Aside0.mk (show gA ≠ gZ by have := HA_2.out.lt; omega); have HB_3 := Aside0.mk (HB_2.out.trans (hb_.mono HB_2.out.size)); have HX_3 := Aside0.mk (HX_2.out.below hb_); have HA_3 := Aside0.mk (HA_2.out.below hb_); have HZ_3 := Aside0.mk (hx_); clear hg_ hx_ hb_ HB_2 HX_2 HA_2)
        | ((with_reducible refine gate_dst (N := 12) rfl ?_); refine step_load rfl 57 (.tmp 3) rfl gX rfl _ _ _ HX_3.out Try.underlying57 rfl 68 (by kernel_rfl) (bkL_length _ _ _ _ _ HL.out) ?_)
        | (go_at_call 48; refine (right_any' b HK.out _ _ ⟨A, c, A', c', rfl, HR.out.below HB_3.out⟩).mono ?_; rintro e W4 ⟨rfl, hb_⟩; rw [HRT.out]; have HB_4 := Aside0.mk (HB_3.out.trans (hb_.mono HB_3.out.size)); have HX_4 := Aside0.mk (HX_3.out.below hb_); have HA_4 := Aside0.mk (HA_3.out.below hb_); have HZ_4 := Aside0.mk (HZ_3.out.below hb_); clear hb_ HB_3 HX_3 HA_3 HZ_3)
        | ((with_reducible refine gate_dst (N := 16) rfl ?_); refine gate_guard (by rfl) ?_; refine step_load rfl 85 (.tmp 5) rfl gA rfl _ _ _ HA_4.out Try.underlying85 rfl 2 (by kernel_rfl) rfl ?_)
        | (go_at_call 88; refine (bmay_any a _).mono ?_; rintro e W5 ⟨rfl, hb_⟩; rw [HMY.out]; have HB_5 := Aside0.mk (HB_4.out.trans (hb_.mono HB_4.out.size)); have HX_5 := Aside0.mk (HX_4.out.below hb_); have HA_5 := Aside0.mk (HA_4.out.below hb_); have HZ_5 := Aside0.mk (HZ_4.out.below hb_); clear hb_ HB_4 HX_4 HA_4 HZ_4)
        | (refine step_build rfl 57 #[] rfl zeroL built0 ?_)
        | (refine step_store rfl 57 (.tmp 6) (.tmp 24) rfl gZ zeroL rfl rfl 57 _ HZ_5.out 68 (by kernel_rfl) rfl rfl zeroL_one ?_; intro W6 hx_ hg_; have HB_6 := Aside0.mk (HB_5.out.grown hg_ HB_5.out.size (by intro k hk; cases hk; exact GE_gZ.out)); have HX_6 := Aside0.mk (HX_5.out.grown hg_ (fun e => NE_gX_gZ.out (Option.some.inj e))); have HA_6 := Aside0.mk (HA_5.out.grown hg_ (fun e => (HA_5.out.ne HZ_5.out (by decide)) (Option.some.inj e))); have HZ_6 := Aside0.mk (hx_); clear hx_ hg_ HB_5 HX_5 HA_5 HZ_5))
      exact bodyPost_ret (results_ctt rfl _ _ gZ 57 _ (0, 0) _ rfl HZ_6.out Try.underlying57 rfl (by simp only [List.size_toArray]; exact size57 _ rfl)) rfl ⟨_, _, rfl, zbk_O _ _, Kd.R_nil _ _ _ _ _, HB_6.out⟩
end Go.Proofs.Ytemhalnhbgkbcaa.V
end

-- BCompact
section
/- block.compact. -/
namespace Go.Proofs.Ytemhalnhbgkbcaa.V
open Go.RowKit Go.Proofs.YtemhalnhbgkbcaaW.PrintWords Go.Proofs.YtemhalnhbgkbcaaW.PrintLast Go.Proofs.YtemhalnhbgkbcaaW.PrintMore
set_option linter.unusedVariables false
set_option linter.unusedSimpArgs false

def zero65 : List Int := List.replicate 65 0
theorem zero146 (w : World) : (zeroValue 146).run Try.prog w = .ok (.agg (zero65.map (Value.int .u8)).toArray) w := by kernel_rfl
theorem mapCell (l : List Int) (i : Nat) (h : i < l.length) : (l.map (Value.int .u8))[i]? = some (.int .u8 (l.getD i 0)) := by simp [List.getD, h]
set_option maxHeartbeats 16000000 in
set_option maxRecDepth 100000 in
theorem compact_any (b : Bk) (hs : U8s b.slots) (hn : b.attrs.length ≤ 64) (hle : ∀ s ∈ b.slots, s ≤ (b.attrs.length : Int)) (v : Value) (w : World) (base : Nat) (hb0 : base ≤ w.heap.size) (h : BkO w base v b) :
    Calls Try.prog 95 #[v] w fun e w' => ∃ v', e = .returned v' ∧ BkO w' base v' (cmpBk b) ∧ Below w.heap.size w w' := by
  obtain ⟨hl, vf, va, rfl, hrf, hra⟩ := h
  obtain ⟨A, c, rfl⟩ := Kd.R_slice hrf
  obtain ⟨A', c', rfl⟩ := Kd.R_slice hra
  have HC := Aside0.mk (Kd.R_reads' hra).2.2
  have HRF := Aside0.mk hrf
  have HB0 := Aside0.mk hb0
  have HL := Aside0.mk hl
  have HS := Aside0.mk hs
  have HLE := Aside0.mk hle
  have HB_0 := Aside0.mk (Below.refl w.heap.size w)
  have HLN := Aside0.mk (show (Try.prog.info? 47).map (·.size) = some (b.slots.map (Value.int .u8)).length by rw [List.length_map, hl]; kernel_rfl)
  clear hrf hra hb0 hl hs hle
  go_enter Try.func95, Try.ntmps95
  go_wp2_with (first
    | (refine step_box rfl 57 (.tmp 0) rfl _ rfl ?_; intro gX W1 hg_ hx_ hb_; have GE_gX := Aside0.mk (show w.heap.size ≤ gX by have := HB_0.out.size; omega); have HB_1 := Aside0.mk (HB_0.out.trans (hb_.mono HB_0.out.size)); have HX_1 := Aside0.mk (hx_); clear hg_ hx_ hb_ HB_0)
    | (refine step_allocN (some 2) rfl rfl 57 rfl zeroL zero57 ?_; intro gZ W2 hg_ hx_ hb_; have GE_gZ := Aside0.mk (show w.heap.size ≤ gZ by have := HB_1.out.size; omega); have NE_gX_gZ := Aside0.mk (show gX ≠ gZ by have := HX_1.out.lt; omega); have HB_2 := Aside0.mk (HB_1.out.trans (hb_.mono HB_1.out.size)); have HX_2 := Aside0.mk (HX_1.out.below hb_); have HZ_2 := Aside0.mk (hx_); clear hg_ hx_ hb_ HB_1 HX_1)
    | (refine step_allocN (some 3) rfl rfl 146 rfl (zero65.map (Value.int .u8)) zero146 ?_; intro gT W3 hg_ hx_ hb_; have GE_gT := Aside0.mk (show w.heap.size ≤ gT by have := HB_2.out.size; omega); have NE_gX_gT := Aside0.mk (show gX ≠ gT by have := HX_2.out.lt; omega); have NE_gZ_gT := Aside0.mk (show gZ ≠ gT by have := HZ_2.out.lt; omega); have HB_3 := Aside0.mk (HB_2.out.trans (hb_.mono HB_2.out.size)); have HX_3 := Aside0.mk (HX_2.out.below hb_); have HZ_3 := Aside0.mk (HZ_2.out.below hb_); have HT_3 := Aside0.mk (hx_); clear hg_ hx_ hb_ HB_2 HX_2 HZ_2)
    | (refine step_loadPart rfl 47 (.tmp 12) rfl gX 2 rfl 57 _ (b.slots.map (Value.int .u8)) (.array 64 5) HX_3.out (bkL_part _ _ _ _ _ HL.out) Try.underlying47 rfl HLN.out ?_))
  go_loopw [5, 7, 14] (fun u _ i W => ∃ k : Nat, k ≤ 64 ∧ i = .int .i64 k ∧ u = .int .u64 ((usedN (b.slots.take k) : Nat) : Int) ∧ Aside0 (Box W gX (bkL b.addr b.aff b.slots (.slice A b.free.length c) (.slice A' b.attrs.length c')) 57) ∧ Aside0 (Box W gZ zeroL 57) ∧ Aside0 (Box W gT (zero65.map (Value.int .u8)) 146) ∧ Aside0 (Below w.heap.size w W)) (fun _ _ i _ => 64 - (intOf i).toNat)
  case atStart => exact ⟨0, by omega, rfl, rfl, HX_3, HZ_3, HT_3, HB_3⟩
  case round =>
    clear HX_3 HZ_3 HT_3 HB_3
    obtain ⟨k, hk, rfl, rfl, HX_0, HZ_0, HT_0, HB_0⟩ := hrel
    obtain ⟨W, rfl⟩ : ∃ W : World, W = wr := ⟨_, rfl⟩
    by_cases hk2 : k < 64
    · have hkb : decide ((k : Int) < 64) = true := by simp; omega
      have hkl : k < b.slots.length := by have := HL.out; omega
      obtain ⟨m, hm⟩ : ∃ m : Nat, b.slots[k] = (m : Int) := ⟨(b.slots[k]).toNat, by have := (HS.out _ (List.getElem_mem hkl)).1; omega⟩
      have hm2 : m < 256 := by have := (HS.out _ (List.getElem_mem hkl)).2; omega
      have hix := fun w => index47 b.slots HL.out k hk2 w
      rw [show b.slots.getD k 0 = (m : Int) by rw [← hm]; simp [List.getD, hkl]] at hix
      have HU := Aside0.mk (used_step b.slots k hkl m hm)
      clear hm
      go_wp2_with (go_at_call 21; refine (withB (usedN (b.slots.take k)) (ofN_lt _) _ _).mono ?_; rintro e W1 ⟨rfl, hb_⟩; rw [HU.out]; have HX_1 := Aside0.mk (HX_0.out.below hb_); have HZ_1 := Aside0.mk (HZ_0.out.below hb_); have HT_1 := Aside0.mk (HT_0.out.below hb_); have HB_1 := Aside0.mk (HB_0.out.trans (hb_.mono HB_0.out.size)); clear hb_ HX_0 HZ_0 HT_0 HB_0)
      go_roundw
      case rel => exact ⟨k + 1, by omega, by go_num, rfl, HX_1, HZ_1, HT_1, HB_1⟩
      case measure => simp [intOf]; omega
    · obtain rfl : k = 64 := by omega
      rw [show ((64 : Nat) : Int) = (64 : Int) from rfl]
      have hkb : decide ((64 : Int) < 64) = false := by decide
      have HT64 := Aside0.mk (show b.slots.take 64 = b.slots from List.take_of_length_le (by have := HL.out; omega))
      rw [HT64.out]
      have h67 := HX_0.out.cell 67 _ (bkL_67 _ _ _ _ _ HL.out)
      obtain ⟨us, hus⟩ : ∃ us, us = usedN b.slots := ⟨_, rfl⟩
      rw [← hus]
      have HUS := Aside0.mk hus
      have HUL := Aside0.mk (show us < 18446744073709551616 by rw [hus]; exact ofN_lt _)
      rw [show zero65 = turnedL b.slots 0 from (turnedL_zero b.slots).symm] at HT_0
      clear hus
      go_wp2_with fail
      clear h67
      go_loopw [4, 8, 9, 26] (fun q _ _ i W => ∃ k : Nat, k ≤ b.attrs.length ∧ i = .int .i64 k ∧ Aside0 (Box W gX (bkL b.addr b.aff b.slots (.slice A b.free.length c) (.slice A' b.attrs.length c')) 57) ∧ Aside0 (Box W gZ zeroL 57) ∧ Aside0 (Box W gT ((turnedL b.slots k).map (Value.int .u8)) 146) ∧ Aside0 (Kd.R k85 85 W w.heap.size (fun _ => True) q (keptN b k)) ∧ Aside0 (Below w.heap.size w W)) (fun _ _ _ i _ => b.attrs.length - (intOf i).toNat)
      case atStart => exact ⟨0, by omega, rfl, HX_0, HZ_0, HT_0, ⟨Kd.R_nil _ _ _ _ _⟩, HB_0⟩
      case round =>
        clear HX_0 HZ_0 HT_0 HB_0
        obtain ⟨k, hk, rfl, HX_0, HZ_0, HT_0, HK_0, HB_0⟩ := hrel
        obtain ⟨W, rfl⟩ : ∃ W : World, W = wr := ⟨_, rfl⟩
        by_cases hkn : k < b.attrs.length
        · have hkb : decide ((k : Int) < (b.attrs.length : Int)) = true := by simp; omega
          obtain ⟨ad, eA, hx0, hx1⟩ := at_T85 (Kd.C_below HC.out HB_0.out) k (by omega) (by omega)
          cases eA
          rw [Int.toNat_natCast] at hx0 hx1
          have p1 : ((k : Int) < (b.attrs.length : Int)) = True := eq_true (by omega)
          obtain ⟨a, ha⟩ : ∃ a : At, atN b.attrs k = a := ⟨_, rfl⟩
          have ha' : rd_T85 b.attrs (k : Int) = a := ha
          rw [ha'] at hx0 hx1
          have HAT := Aside0.mk ha
          obtain ⟨kn, hkn2⟩ : ∃ kn, kn = keptN b k := ⟨_, rfl⟩
          have HKN := Aside0.mk hkn2
          have HKL := Aside0.mk (show kn.length ≤ k by rw [hkn2, keptN_length]; exact rankN_le _ _)
          rw [← hkn2] at HK_0
          obtain ⟨Ak, ck, rfl⟩ := Kd.R_slice HK_0.out
          have HHS := Aside0.mk (show hasB us (k : Int) = usedK b.slots k by rw [HUS.out]; exact has_used b.slots k (by omega))
          clear ha ha' hkn2
          cases hu : usedK b.slots k with
          | false =>
            rw [hu] at HHS
            have HK1 := Aside0.mk (show kn = keptN b (k + 1) by rw [keptN_succ, hu, HKN.out]; simp)
            have HTU := Aside0.mk (turnedL_not b.slots k hu)
            clear hu
            go_wp2_with (first
              | (refine step_allocN (some 9) rfl rfl 85 rfl [.string ⟨#[]⟩, .string ⟨#[]⟩] (fun _ => by kernel_rfl) ?_; intro gV W1 hg_ hx_ hb_; have GE_gV := Aside0.mk (show w.heap.size ≤ gV by have := HB_0.out.size; omega); have NE_gX_gV := Aside0.mk (show gX ≠ gV by have := HX_0.out.lt; omega); have NE_gZ_gV := Aside0.mk (show gZ ≠ gV by have := HZ_0.out.lt; omega); have NE_gT_gV := Aside0.mk (show gT ≠ gV by have := HT_0.out.lt; omega); have HX_1 := Aside0.mk (HX_0.out.below hb_); have HZ_1 := Aside0.mk (HZ_0.out.below hb_); have HT_1 := Aside0.mk (HT_0.out.below hb_); have HK_1 := Aside0.mk (Kd.R_mono (ok' := fun k_ => k_ ≠ gV) (Kd.R_below (Kd.R_bound HK_0.out) hb_) (fun k_ hk_ e_ => by have h_ := hk_.2.2.1; omega)); have HB_1 := Aside0.mk (HB_0.out.trans (hb_.mono HB_0.out.size)); have HV_1 := Aside0.mk (hx_); clear hg_ hx_ hb_ HX_0 HZ_0 HT_0 HK_0 HB_0)
              | (refine step_store rfl 85 (.tmp 9) (.tmp 30) rfl gV [.string a.f0, .string a.f1] rfl rfl 85 _ HV_1.out 2 (by kernel_rfl) rfl rfl (atL_one a) ?_; intro W2 hx_ hg_; have HX_2 := Aside0.mk (HX_1.out.grown hg_ (fun e => (HX_1.out.ne HV_1.out (by decide)) (Option.some.inj e))); have HZ_2 := Aside0.mk (HZ_1.out.grown hg_ (fun e => (HZ_1.out.ne HV_1.out (by decide)) (Option.some.inj e))); have HT_2 := Aside0.mk (HT_1.out.grown hg_ (fun e => (HT_1.out.ne HV_1.out (by decide)) (Option.some.inj e))); have HK_2 := Aside0.mk (Kd.R_mono (ok' := fun _ => True) (Kd.R_grown HK_1.out hg_ (fun k_ hk_ e_ => hk_ (Option.some.inj e_))) (fun _ _ => trivial)); have HB_2 := Aside0.mk (HB_1.out.grown hg_ HB_1.out.size (by intro k hk; cases hk; exact GE_gV.out)); have HV_2 := Aside0.mk (hx_); clear hx_ hg_ HX_1 HZ_1 HT_1 HK_1 HB_1 HV_1)
              | (go_at_call 20; refine (hasBl us HUL.out (k : Int) _).mono ?_; rintro e W3 ⟨rfl, hb_⟩; rw [HHS.out]; have HX_3 := Aside0.mk (HX_2.out.below hb_); have HZ_3 := Aside0.mk (HZ_2.out.below hb_); have HT_3 := Aside0.mk (HT_2.out.below hb_); have HK_3 := Aside0.mk (Kd.R_below HK_2.out hb_); have HB_3 := Aside0.mk (HB_2.out.trans (hb_.mono HB_2.out.size)); have HV_3 := Aside0.mk (HV_2.out.below hb_); clear hb_ HX_2 HZ_2 HT_2 HK_2 HB_2 HV_2))
            go_roundw
            case rel => exact ⟨k + 1, by omega, by go_num, HX_3, HZ_3, ⟨by rw [HTU.out]; exact HT_3.out⟩, ⟨by rw [← HK1.out]; exact HK_3.out⟩, HB_3⟩
            case measure => simp [intOf]; omega
          | true =>
            rw [hu] at HHS
            obtain ⟨k1, hk1⟩ : ∃ k1, k1 = kn ++ [a] := ⟨_, rfl⟩
            have HK1 := Aside0.mk (show k1 = keptN b (k + 1) by rw [hk1, keptN_succ, hu, if_pos rfl, HKN.out, HAT.out])
            have HK2 := Aside0.mk hk1
            have HTU := Aside0.mk (turnedL_used b.slots k (by omega) hu)
            have HRK := Aside0.mk (show (k1.length : Int) = ((rankN b.slots (k + 1) : Nat) : Int) by rw [HK1.out, keptN_length])
            have hk1l : k1.length ≤ 64 := by rw [hk1, List.length_append, List.length_singleton]; have := HKL.out; omega
            have pt : ((k : Int) + 1 < 65) = True := eq_true (by omega)
            clear hu hk1
            go_wp2_with (first
              | (refine step_allocN (some 9) rfl rfl 85 rfl [.string ⟨#[]⟩, .string ⟨#[]⟩] (fun _ => by kernel_rfl) ?_; intro gV W1 hg_ hx_ hb_; have GE_gV := Aside0.mk (show w.heap.size ≤ gV by have := HB_0.out.size; omega); have NE_gX_gV := Aside0.mk (show gX ≠ gV by have := HX_0.out.lt; omega); have NE_gZ_gV := Aside0.mk (show gZ ≠ gV by have := HZ_0.out.lt; omega); have NE_gT_gV := Aside0.mk (show gT ≠ gV by have := HT_0.out.lt; omega); have HX_1 := Aside0.mk (HX_0.out.below hb_); have HZ_1 := Aside0.mk (HZ_0.out.below hb_); have HT_1 := Aside0.mk (HT_0.out.below hb_); have HK_1 := Aside0.mk (Kd.R_mono (ok' := fun k_ => k_ ≠ gV) (Kd.R_below (Kd.R_bound HK_0.out) hb_) (fun k_ hk_ e_ => by have h_ := hk_.2.2.1; omega)); have HB_1 := Aside0.mk (HB_0.out.trans (hb_.mono HB_0.out.size)); have HV_1 := Aside0.mk (hx_); clear hg_ hx_ hb_ HX_0 HZ_0 HT_0 HK_0 HB_0)
              | (refine step_store rfl 85 (.tmp 9) (.tmp 30) rfl gV [.string a.f0, .string a.f1] rfl rfl 85 _ HV_1.out 2 (by kernel_rfl) rfl rfl (atL_one a) ?_; intro W2 hx_ hg_; have HX_2 := Aside0.mk (HX_1.out.grown hg_ (fun e => (HX_1.out.ne HV_1.out (by decide)) (Option.some.inj e))); have HZ_2 := Aside0.mk (HZ_1.out.grown hg_ (fun e => (HZ_1.out.ne HV_1.out (by decide)) (Option.some.inj e))); have HT_2 := Aside0.mk (HT_1.out.grown hg_ (fun e => (HT_1.out.ne HV_1.out (by decide)) (Option.some.inj e))); have HK_2 := Aside0.mk (Kd.R_mono (ok' := fun _ => True) (Kd.R_grown HK_1.out hg_ (fun k_ hk_ e_ => hk_ (Option.some.inj e_))) (fun _ _ => trivial)); have HB_2 := Aside0.mk (HB_1.out.grown hg_ HB_1.out.size (by intro k hk; cases hk; exact GE_gV.out)); have HV_2 := Aside0.mk (hx_); clear hx_ hg_ HX_1 HZ_1 HT_1 HK_1 HB_1 HV_1)
              | (go_at_call 20; refine (hasBl us HUL.out (k : Int) _).mono ?_; rintro e W3 ⟨rfl, hb_⟩; rw [HHS.out]; have HX_3 := Aside0.mk (HX_2.out.below hb_); have HZ_3 := Aside0.mk (HZ_2.out.below hb_); have HT_3 := Aside0.mk (HT_2.out.below hb_); have HK_3 := Aside0.mk (Kd.R_below HK_2.out hb_); have HB_3 := Aside0.mk (HB_2.out.trans (hb_.mono HB_2.out.size)); have HV_3 := Aside0.mk (HV_2.out.below hb_); have hv0_ := HV_3.out.cell 0 _ rfl; have hv1_ := HV_3.out.cell 1 _ rfl; clear hb_ HX_2 HZ_2 HT_2 HK_2 HB_2 HV_2)
              | ((with_reducible refine gate_builtin (b := .append) (xs := #[.tmp 34, .tmp 36]) rfl ?_); at_builtin; refine Kd.R_append k85 (w0 := w) w.heap.size rfl (.tmp 34) (.tmp 36) 55 85 (.agg #[.string ⟨#[]⟩, .string ⟨#[]⟩]) 32 rfl Try.underlying55 info_at rfl (by decide) (by omega) _ kn a [.string a.f0, .string a.f1] (fun _ => True) (fun _ => False) rfl rfl (k85_mkM _ _ _ _) (fun _ hk => hk.elim) (fun _ _ => trivial) HK_3.out HB_3.out HB_3.out.size (by have := HKL.out; omega) ?_; intro v_ W4 ho_ hb_ hg_ hat_; rw [← HK2.out] at ho_; have HX_4 := Aside0.mk (HX_3.out.grown hg_ (HX_3.out.ne_row HK_3.out (by decide))); have HZ_4 := Aside0.mk (HZ_3.out.grown hg_ (HZ_3.out.ne_row HK_3.out (by decide))); have HT_4 := Aside0.mk (HT_3.out.grown hg_ (HT_3.out.ne_row HK_3.out (by decide))); have HK_4 := Aside0.mk (ho_); have HB_4 := Aside0.mk (hb_); obtain ⟨AK, cK, rfl⟩ := Kd.R_slice ho_; have htc_ := HT_4.out.cell (k + 1) _ (mapCell _ _ (by rw [turnedL_length]; omega)); have htf_ := HT_4.out.frozen (k + 1); clear ho_ hb_ hg_ hat_ HX_3 HZ_3 HT_3 HK_3 HB_3 hv0_ hv1_))
            generalize hw_ : W4.setCell ⟨gT, k + 1, none⟩ (.int .u8 (k1.length : Int)) = W5; have hg_ : W4.grownBy W5 (some gT) := (by rw [← hw_]; exact setCell_grown _ _ _ _); have HX_5 := Aside0.mk (HX_4.out.grown hg_ (fun e => (HX_4.out.ne HT_4.out (by decide)) (Option.some.inj e))); have HZ_5 := Aside0.mk (HZ_4.out.grown hg_ (fun e => (HZ_4.out.ne HT_4.out (by decide)) (Option.some.inj e))); have HT_5 := Aside0.mk (HT_4.out.set (k + 1) (.int .u8 (k1.length : Int))); have HK_5 := Aside0.mk (R_box_grown HK_4.out HT_4.out (by decide) hg_); have HB_5 := Aside0.mk (HB_4.out.grown hg_ HB_4.out.size (by intro k hk; cases hk; exact GE_gT.out)); rw [hw_] at HT_5; clear hw_ hg_ HX_4 HZ_4 HT_4 HK_4 HB_4 htc_ htf_
            have HTT := Aside0.mk (show Box W5 gT ((turnedL b.slots (k + 1)).map (Value.int .u8)) 146 by have h_ := HT_5.out; rw [HRK.out, ← List.map_set, HTU.out] at h_; exact h_)
            go_roundw
            case rel => exact ⟨k + 1, by omega, by go_num, HX_5, HZ_5, HTT, ⟨by rw [← HK1.out]; exact HK_5.out⟩, HB_5⟩
            case measure => simp [intOf]; omega
        · obtain rfl : k = b.attrs.length := by omega
          have hkb : decide ((b.attrs.length : Int) < (b.attrs.length : Int)) = false := by simp
          obtain ⟨Ak, ck, rfl⟩ := Kd.R_slice HK_0.out
          obtain ⟨kn, hkn2⟩ : ∃ kn, kn = keptN b b.attrs.length := ⟨_, rfl⟩
          rw [← hkn2] at HK_0
          have HKN := Aside0.mk hkn2
          rw [show (keptN b b.attrs.length).length = kn.length by rw [hkn2]]
          clear hkn2
          go_wp2_with (refine step_loadPart rfl 47 (.tmp 45) rfl gX 2 rfl 57 _ (b.slots.map (Value.int .u8)) (.array 64 5) HX_0.out (bkL_part _ _ _ _ _ HL.out) Try.underlying47 rfl HLN.out ?_)
          go_loopw [10, 11, 47] (fun _ _ i W => ∃ k : Nat, k ≤ 64 ∧ i = .int .i64 k ∧ Aside0 (Box W gX (bkL b.addr b.aff (midS b.slots k) (.slice A b.free.length c) (.slice A' b.attrs.length c')) 57) ∧ Aside0 (Box W gZ zeroL 57) ∧ Aside0 (Box W gT ((turnedL b.slots b.attrs.length).map (Value.int .u8)) 146) ∧ Aside0 (Kd.R k85 85 W w.heap.size (fun _ => True) (.slice Ak kn.length ck) kn) ∧ Aside0 (Below w.heap.size w W)) (fun _ _ i _ => 64 - (intOf i).toNat)
          case atStart => exact ⟨0, by omega, rfl, HX_0, HZ_0, HT_0, HK_0, HB_0⟩
          case round =>
            clear HX_0 HZ_0 HT_0 HK_0 HB_0
            obtain ⟨k, hk, rfl, HX_0, HZ_0, HT_0, HK_0, HB_0⟩ := hrel
            obtain ⟨W, rfl⟩ : ∃ W : World, W = wr := ⟨_, rfl⟩
            have HLM := Aside0.mk (show (midS b.slots k).length = 64 by rw [midS_length]; exact HL.out)
            by_cases hk2 : k < 64
            · have hkb : decide ((k : Int) < 64) = true := by simp; omega
              have hkl : k < b.slots.length := by have := HL.out; omega
              have hms := HS.out _ (List.getElem_mem hkl)
              have hml := HLE.out _ (List.getElem_mem hkl)
              obtain ⟨m, hm⟩ : ∃ m : Nat, b.slots[k] = (m : Int) := ⟨(b.slots[k]).toNat, by omega⟩
              have hm2 : m < 65 := by omega
              have hix := fun w => index47 b.slots HL.out k hk2 w
              rw [show b.slots.getD k 0 = (m : Int) by rw [← hm]; simp [List.getD, hkl]] at hix
              have hrk := turned_rank b.slots b.attrs.length b.slots[k] (List.getElem_mem hkl) hms.1 hml (by omega)
              have hst := midS_set b.slots k hkl
              rw [hm, Int.toNat_natCast] at hrk hst
              obtain ⟨r, hr⟩ : ∃ r, r = rankN b.slots m := ⟨_, rfl⟩
              rw [← hr] at hrk hst
              have hr2 : r < 256 := by rw [hr]; have := rankN_le b.slots m; omega
              have HST := Aside0.mk hst
              have htc_ := HT_0.out.cell m _ (mapCell _ _ (by rw [turnedL_length]; omega))
              rw [hrk] at htc_
              have hxc_ := HX_0.out.slot HLM.out k hk2
              have hxf_ := HX_0.out.frozen (2 + k)
              have pm : ((m : Int) < 65) = True := eq_true (by omega)
              have pk : ((k : Int) < 64) = True := eq_true (by omega)
              clear hm hrk hst hr hms hml
              go_wp2_with fail
              generalize hw_ : W.setCell ⟨gX, 2 + k, none⟩ (.int .u8 (r : Int)) = W1; have hg_ : W.grownBy W1 (some gX) := (by rw [← hw_]; exact setCell_grown _ _ _ _); have HX_1 := Aside0.mk (HX_0.out.set (2 + k) (.int .u8 (r : Int))); have HZ_1 := Aside0.mk (HZ_0.out.grown hg_ (fun e => (Ne.symm NE_gX_gZ.out) (Option.some.inj e))); have HT_1 := Aside0.mk (HT_0.out.grown hg_ (fun e => (HT_0.out.ne HX_0.out (by decide)) (Option.some.inj e))); have HK_1 := Aside0.mk (R_box_grown HK_0.out HX_0.out (by decide) hg_); have HB_1 := Aside0.mk (HB_0.out.grown hg_ HB_0.out.size (by intro k hk; cases hk; exact GE_gX.out)); rw [hw_] at HX_1; clear hw_ hg_ HX_0 HZ_0 HT_0 HK_0 HB_0 htc_ hxc_ hxf_
              rw [bkL_set_slot _ _ _ _ _ HLM.out k hk2, HST.out] at HX_1
              go_roundw
              case rel => exact ⟨k + 1, by omega, by go_num, HX_1, HZ_1, HT_1, HK_1, HB_1⟩
              case measure => simp [intOf]; omega
            · obtain rfl : k = 64 := by omega
              rw [show ((64 : Nat) : Int) = (64 : Int) from rfl]
              have hkb : decide ((64 : Int) < 64) = false := by decide
              have hms : midS b.slots 64 = (cmpBk b).slots := by
                have h_ := midS_all b.slots
                rwa [HL.out] at h_
              rw [hms] at HX_0 HLM
              have HCB := Aside0.mk (show cmpBk b = ⟨b.addr, b.aff, (cmpBk b).slots, b.free, kn⟩ by rw [HKN.out]; rfl)
              generalize (cmpBk b).slots = sl at HX_0 HLM HCB
              have hxc_ := HX_0.out.cell 67 _ (bkL_67 _ _ _ _ _ HLM.out)
              have hxf_ := HX_0.out.frozen 67
              clear hms
              go_wp2_with (first
                | ((with_reducible refine gate_dst (N := 60) rfl ?_); generalize hw_ : W.setCell ⟨gX, 67, none⟩ (.slice Ak kn.length ck) = W1; have hg_ : W.grownBy W1 (some gX) := (by rw [← hw_]; exact setCell_grown _ _ _ _); have HX_1 := Aside0.mk (HX_0.out.set 67 (.slice Ak kn.length ck)); have HZ_1 := Aside0.mk (HZ_0.out.grown hg_ (fun e => (Ne.symm NE_gX_gZ.out) (Option.some.inj e))); have HK_1 := Aside0.mk (R_box_grown HK_0.out HX_0.out (by decide) hg_); have HB_1 := Aside0.mk (HB_0.out.grown hg_ HB_0.out.size (by intro k hk; cases hk; exact GE_gX.out)); rw [hw_] at HX_1; clear hw_ hg_ HX_0 HZ_0 HK_0 HB_0 hxc_ hxf_; rw [bkL_set_67 _ _ _ _ _ HLM.out] at HX_1; refine step_load rfl 57 (.tmp 1) rfl gX rfl _ _ _ HX_1.out Try.underlying57 rfl 68 (by kernel_rfl) (bkL_length _ _ _ _ _ HLM.out) ?_)
                | (refine step_store rfl 57 (.tmp 2) (.tmp 60) rfl gZ (bkL b.addr b.aff sl (.slice A b.free.length c) (.slice Ak kn.length ck)) rfl rfl 57 _ HZ_1.out 68 (by kernel_rfl) (bkL_length _ _ _ _ _ HLM.out) rfl (bkL_one _ _ _ _ _ rfl rfl) ?_; intro W2 hx_ hg_; have HX_2 := Aside0.mk (HX_1.out.grown hg_ (fun e => NE_gX_gZ.out (Option.some.inj e))); have HZ_2 := Aside0.mk (hx_); have HK_2 := Aside0.mk (R_box_grown HK_1.out HZ_1.out (by decide) hg_); have HB_2 := Aside0.mk (HB_1.out.grown hg_ HB_1.out.size (by intro k hk; cases hk; exact GE_gZ.out)); clear hx_ hg_ HX_1 HZ_1 HK_1 HB_1))
              refine bodyPost_ret (results_cell_row rfl _ _ gZ 57 _ (0, 0) _ rfl HZ_2.out Try.underlying57 rfl (by simp only [List.size_toArray]; exact size57 _ (bkL_length _ _ _ _ _ HLM.out))) rfl ⟨_, rfl, ?_, HB_2.out⟩
              rw [HCB.out]
              exact ⟨HLM.out, _, _, rfl, Kd.R_below HRF.out HB_2.out, Kd.R_lower HK_2.out HB0.out⟩
end Go.Proofs.Ytemhalnhbgkbcaa.V
end

