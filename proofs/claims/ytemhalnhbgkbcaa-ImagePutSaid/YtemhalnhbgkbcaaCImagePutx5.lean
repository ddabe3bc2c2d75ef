/- The law ImagePut for every input: texts of ours, put together (part 6 of 10). No further condition. -/
import Derived.Test.YtemhalnhbgkbcaaCImagePutx4
import Derived.Outline
import Derived.Lib.ConvBytes
import Derived.Lib.AtoiErrMem
import Derived.Laws.CopyRow
import Derived.Laws.IdiomCopy
import Derived.Test.YtemhalnhbgkbcaaCImagePutw1
import Derived.Test.YtemhalnhbgkbcaaCImagePutx2
-- BOurs
section
/- virgatelaw15.Ours: a raw block as the program's. -/
namespace Go.Proofs.Ytemhalnhbgkbcaa.V
open Go.RowKit Go.Proofs.YtemhalnhbgkbcaaW.PrintWords Go.Proofs.YtemhalnhbgkbcaaW.PrintLast Go.Proofs.YtemhalnhbgkbcaaW.PrintMore
set_option linter.unusedVariables false
set_option linter.unusedSimpArgs false

/-- A raw block. -/
structure Rw where
  addr : Int
  aff : ByteArray
  slots : List Int
  free : List Int
  attrs : List S76
structure RwR (W : World) (b : Rw) (A : Option Addr) (c : Nat) (A' : Option Addr) (c' : Nat) : Prop where
  l64 : b.slots.length = 64
  fr : Kd.C (Kd.int .u8) W A b.free.length b.free
  fc : b.free.length ≤ c
  ar : Kd.C k76 W A' b.attrs.length b.attrs
  ac : b.attrs.length ≤ c'
theorem RwR.below {W W1 : World} {b : Rw} {A A' : Option Addr} {c c' : Nat} (h : RwR W b A c A' c') (hb : Below W.heap.size W W1) : RwR W1 b A c A' c' := ⟨h.l64, Kd.C_below h.fr hb, h.fc, Kd.C_below h.ar hb, h.ac⟩
def RwV (W : World) (v : Value) (b : Rw) : Prop := ∃ A c A' c', v = .agg (bkL b.addr b.aff b.slots (.slice A b.free.length c) (.slice A' b.attrs.length c')).toArray ∧ RwR W b A c A' c'
theorem RwV.below {W W1 : World} {v : Value} {b : Rw} (h : RwV W v b) (hb : Below W.heap.size W W1) : RwV W1 v b := by
  obtain ⟨A, c, A', c', e, hr⟩ := h
  exact ⟨A, c, A', c', e, hr.below hb⟩
def cv (a : S76) : At := ⟨a.f0, a.f1⟩
def ours (r : Rw) : Bk := ⟨r.addr, r.aff, r.slots, r.free.take 70, (r.attrs.take 70).map cv⟩
theorem cv_any (a : S76) (w : World) : Calls Try.prog 50 #[.agg #[.string a.f0, .string a.f1]] w fun e w' => e = .returned (atV (cv a)) ∧ Below w.heap.size w w' :=
  virgatelaw15_Attr.calls a.f0 a.f1 a.f0 a.f1 w rfl
/-- A struct put together, its parts told. -/
theorem step_buildV {P : Program} {ops : Array Oper} {rest : List Oper} {o : Oper} {a : Act} {w : World} {Q : Exit → Act → World → Prop} (hgd : o.guard = none) (t : TypeId) (parts : Array (Nat × Operand)) (ho : o.op = .build t parts) (vals : List (Nat × Value)) (hv : (parts.map fun (i, x) => (i, a.eval x)).toList = vals) (cs : List Value)
    (hf : P.built t vals = some cs.toArray) (h : wpList P ops Q rest (a.put o.dst (.agg cs.toArray)) w) : wpList P ops Q (o :: rest) a w := step_build hgd t parts ho cs (by rw [hv]; exact hf) h
theorem built3' (x : Int) (s : ByteArray) (f : Nat → Int) : Try.prog.built 57 [(0, .int .u32 x), (1, .string s), (2, .agg (((List.range 64).map f).map (Value.int .u8)).toArray)] = some (bkL x s ((List.range 64).map f) (.slice none 0 0) (.slice none 0 0)).toArray := by kernel_rfl
theorem built3 (x : Int) (s : ByteArray) (l : List Int) (hl : l.length = 64) : Try.prog.built 57 [(0, .int .u32 x), (1, .string s), (2, .agg (l.map (Value.int .u8)).toArray)] = some (bkL x s l (.slice none 0 0) (.slice none 0 0)).toArray := by
  have e : l = (List.range 64).map (fun i => l.getD i 0) := by
    apply List.ext_getElem?
    intro i
    rcases Nat.lt_or_ge i 64 with h | h
    · simp [List.getElem?_eq_getElem (show i < l.length by omega), h, List.getD]
    · rw [List.getElem?_eq_none (by omega), List.getElem?_eq_none (by simp; omega)]
  rw [e]
  exact built3' x s _
theorem take_70 {α : Type} (l : List α) (k : Nat) (h : k < l.length) (h7 : k < 70) : (l.take (k + 1)).take 70 = (l.take k).take 70 ++ [l[k]] := by
  rw [List.take_take, List.take_take, show min 70 (k + 1) = k + 1 by omega, show min 70 k = k by omega, List.take_add_one, List.getElem?_eq_getElem h]
  rfl
theorem take_71 {α : Type} (l : List α) (k : Nat) (h7 : 70 ≤ k) : (l.take (k + 1)).take 70 = (l.take k).take 70 := by
  rw [List.take_take, List.take_take, show min 70 (k + 1) = 70 by omega, show min 70 k = 70 by omega]
def ours12.T12 : Bool × List (List Nat × List Nat) := (true, [([], []), ([0], [0]), ([], []), ([2], [2]), ([3], [3]), ([1, 4, 3], [1, 4]), ([0, 1, 2, 3, 4, 5], []), ([6, 5, 5, 0, 1, 2, 3, 4, 5], [5, 6])])
def ours12.B12 : List Nat := [0, 1, 0, 4, 12, 31, 63, 127]
theorem ours12.tab12 : rtab .any (opsOf Try.f33 12) = ours12.T12 := by kernel_rfl
theorem ours12.bits12 : waitsOk ours12.T12.2 ours12.B12 = true := by kernel_rfl
set_option maxHeartbeats 8000000 in
set_option maxRecDepth 100000 in
theorem ours_any (r : Rw) (hs : U8s r.slots) (v : Value) (w : World) (h : RwV w v r) :
    Calls Try.prog 33 #[v] w fun e w' => ∃ v', e = .returned v' ∧ BkO w' w.heap.size v' (ours r) ∧ Below w.heap.size w w' := by
  obtain ⟨A, c, A', c', rfl, hr⟩ := h
  have HL := Aside0.mk hr.l64
  have HR := Aside0.mk hr
  have HS := Aside0.mk hs
  have hnf : r.free.length ≤ 9223372036854775807 := hr.fr.2.1
  have hna : r.attrs.length ≤ 9223372036854775807 := hr.ar.2.1
  have HLN := Aside0.mk (show (Try.prog.info? 47).map (·.size) = some (r.slots.map (Value.int .u8)).length by rw [List.length_map, hr.l64]; kernel_rfl)
  have HBT := Aside0.mk (built3 r.addr r.aff r.slots hr.l64)
  clear hr hs
  go_enter Try.func33, Try.ntmps33
  go_wp2_with (first
    | (refine step_box rfl 51 (.tmp 0) rfl _ rfl ?_; intro g W1 hg hbx hb1; have HX1 := Aside0.mk hbx; have HB1 := Aside0.mk hb1; clear hbx hb1 hg)
    | (refine step_allocN (some 2) rfl rfl 57 rfl zeroL zero57 ?_; intro g2 W2 hg2 hbx2 hb2; have HX2 := Aside0.mk (HX1.out.below hb2); have HY2 := Aside0.mk hbx2; have HB2 := Aside0.mk (HB1.out.trans (hb2.mono HB1.out.size)); have HG2 := Aside0.mk (show w.heap.size ≤ g2 by have := HB1.out.size; omega); have HN12 := Aside0.mk (show g ≠ g2 by have := HX1.out.lt; omega); have h0 := HX2.out.cell 0 _ rfl; have h1 := HX2.out.cell 1 _ rfl; clear hbx2 hb2 hg2 HX1 HB1)
    | (refine step_loadPart rfl 47 (.tmp 12) rfl g 2 rfl 51 _ (r.slots.map (Value.int .u8)) (.array 64 5) HX2.out (bkL_part _ _ _ _ _ HL.out) Try.underlying47 rfl HLN.out ?_; simp only [Act.put, List.setIfInBounds_toArray, List.set_cons_zero, List.set_cons_succ])
    | ((with_reducible refine gate_dst (N := 14) rfl ?_); refine step_buildV rfl 57 #[(0, .tmp 9), (1, .tmp 11), (2, .tmp 13)] rfl [(0, .int .u32 r.addr), (1, .string r.aff), (2, .agg (r.slots.map (Value.int .u8)).toArray)] (by simp only [List.map_toArray, List.map_cons, List.map_nil]; rfl) (bkL r.addr r.aff r.slots (.slice none 0 0) (.slice none 0 0)) HBT.out ?_)
    | (refine step_allocN (some 3) rfl rfl 57 rfl zeroL zero57 ?_; intro g3 W3 hg3 hbx3 hb3; have HX3 := Aside0.mk (HX2.out.below hb3); have HY3 := Aside0.mk (HY2.out.below hb3); have HZ3 := Aside0.mk hbx3; have HB3 := Aside0.mk (HB2.out.trans (hb3.mono HB2.out.size)); have HG3 := Aside0.mk (show w.heap.size ≤ g3 by have := HB2.out.size; omega); have HN13 := Aside0.mk (show g ≠ g3 by have := HX2.out.lt; omega); have HN23 := Aside0.mk (show g2 ≠ g3 by have := HY2.out.lt; omega); clear hbx3 hb3 hg3 HX2 HY2 HB2 h0 h1)
    | (refine step_store rfl 57 (.tmp 3) (.tmp 14) rfl g3 (bkL r.addr r.aff r.slots (.slice none 0 0) (.slice none 0 0)) rfl rfl 57 _ HZ3.out 68 (by kernel_rfl) (bkL_length _ _ _ _ _ HL.out) rfl (bkL_one _ _ _ _ _ rfl rfl) ?_; intro W4 hz4 hg4; have HZ4 := Aside0.mk hz4; have HX4 := Aside0.mk (HX3.out.grown hg4 (fun e => HN13.out (Option.some.inj e))); have HY4 := Aside0.mk (HY3.out.grown hg4 (fun e => HN23.out (Option.some.inj e))); have HB4 := Aside0.mk (HB3.out.grown hg4 HB3.out.size (by intro k hk; cases hk; exact HG3.out)); have h66 := HX4.out.cell 66 _ (bkL_66 _ _ _ _ _ HL.out); clear hz4 hg4 HX3 HY3 HZ3 HB3))
  clear h66
  go_loopw [4, 5, 18] (fun _ _ i W => ∃ k : Nat, k ≤ r.free.length ∧ i = .int .i64 k ∧ ∃ vf, Aside0 (Box W g3 (bkL r.addr r.aff r.slots vf (.slice none 0 0)) 57) ∧ Aside0 (Kd.R (Kd.int .u8) 5 W w.heap.size (fun _ => True) vf ((r.free.take k).take 70)) ∧ Aside0 (Box W g2 zeroL 57) ∧ Aside0 (Box W g (bkL r.addr r.aff r.slots (.slice A r.free.length c) (.slice A' r.attrs.length c')) 51) ∧ Aside0 (Below w.heap.size w W)) (fun _ _ i _ => r.free.length - (intOf i).toNat)
  case atStart => exact ⟨0, by omega, rfl, _, HZ4, ⟨Kd.R_nil _ _ _ _ _⟩, HY4, HX4, HB4⟩
  case round =>
    clear HZ4 HY4 HX4 HB4
    obtain ⟨k, hk, rfl, vf, HZ, HF, HY, HX, HB⟩ := hrel
    obtain ⟨W, rfl⟩ : ∃ W : World, W = wr := ⟨_, rfl⟩
    by_cases hkn : k < r.free.length
    · have hkb : decide ((k : Int) < (r.free.length : Int)) = true := by simp; omega
      obtain ⟨ad, eA, hx⟩ := Kd.at_int (HR.out.below HB.out).fr k (by omega) (by omega)
      cases eA
      rw [Int.toNat_natCast] at hx
      have p1 : ((k : Int) < (r.free.length : Int)) = True := eq_true (by omega)
      obtain ⟨x, hx0⟩ : ∃ x : Int, rd r.free k = x := ⟨_, rfl⟩
      rw [hx0] at hx
      have h66 := HZ.out.cell 66 _ (bkL_66 _ _ _ _ _ HL.out)
      by_cases h7 : k < 70
      · have h7b : decide ((k : Int) < 70) = true := by simp; omega
        obtain ⟨L, hL⟩ : ∃ L : List Int, L = (r.free.take (k + 1)).take 70 := ⟨_, rfl⟩
        have HLq := Aside0.mk hL
        have HT := Aside0.mk (show L = (r.free.take k).take 70 ++ [x] by rw [hL, take_70 _ _ hkn h7, ← hx0]; simp [rd, List.getD, hkn])
        clear hL
        have hlen : ((r.free.take k).take 70).length ≤ 70 := by simp; omega
        clear hx0
        go_wp2_with (first | ((with_reducible refine gate_builtin (b := .append) (xs := #[.tmp 26, .tmp 28]) rfl ?_); at_builtin; refine Kd.R_append (Kd.int .u8) (w0 := w) w.heap.size rfl (.tmp 26) (.tmp 28) 48 5 (.int .u8 0) 1 rfl Try.underlying48 info_u8 rfl (by decide) (by omega) vf ((r.free.take k).take 70) x [.int .u8 x] (fun _ => True) (fun _ => False) rfl rfl rfl (fun _ hk => hk.elim) (fun _ _ => trivial) HF.out HB.out HB.out.size (by omega) ?_; intro v1 w1 ho1 hb1 hg1 hat1; have HZ1 := Aside0.mk (HZ.out.grown hg1 (HZ.out.ne_row HF.out (by decide))); have HX1 := Aside0.mk (HX.out.grown hg1 (HX.out.ne_row HF.out (by decide))); have HY1 := Aside0.mk (HY.out.grown hg1 (HY.out.ne_row HF.out (by decide))); rw [← HT.out] at ho1; have HF1 := Aside0.mk ho1; have HB1 := Aside0.mk hb1; obtain ⟨A1, c1, rfl⟩ := Kd.R_slice ho1; have hc1 := HZ1.out.cell 66 _ (bkL_66 _ _ _ _ _ HL.out); have hf1 := HZ1.out.frozen 66; clear ho1 hb1 hg1 hat1 h66 HZ HX HY HF HB hx))
        have HZ2 := Aside0.mk (show Box (w1.setCell ⟨g3, 66, none⟩ (.slice A1 L.length c1)) g3 (bkL r.addr r.aff r.slots (.slice A1 L.length c1) (.slice none 0 0)) 57 by have := HZ1.out.set 66 (.slice A1 L.length c1); rwa [bkL_set_66 _ _ _ _ _ HL.out] at this)
        go_roundw
        case rel => exact ⟨k + 1, by omega, by go_num, _, HZ2, ⟨by rw [← HLq.out]; exact R_box_grown HF1.out HZ1.out (by decide) (setCell_grown _ _ _ _)⟩, ⟨HY1.out.far (p := ⟨g3, 66, none⟩) HN23.out _⟩, ⟨HX1.out.far (p := ⟨g3, 66, none⟩) HN13.out _⟩, ⟨Below.setCell HB1.out (p := ⟨g3, 66, none⟩) HG3.out _⟩⟩
        case measure => simp [intOf]; omega
      · have h7b : decide ((k : Int) < 70) = false := by simp; omega
        have HT := Aside0.mk (take_71 r.free k (by omega))
        clear hx0
        go_wp2
        go_roundw
        case rel => exact ⟨k + 1, by omega, by go_num, _, HZ, ⟨by rw [HT.out]; exact HF.out⟩, HY, HX, HB⟩
        case measure => simp [intOf]; omega
    · obtain rfl : k = r.free.length := by omega
      have hkb : decide ((r.free.length : Int) < (r.free.length : Int)) = false := by simp
      have HT := Aside0.mk (show (r.free.take r.free.length).take 70 = r.free.take 70 by rw [List.take_of_length_le (Nat.le_refl r.free.length)])
      rw [HT.out] at HF
      obtain ⟨LF, hLF⟩ : ∃ LF : List Int, LF = r.free.take 70 := ⟨_, rfl⟩
      have HLF := Aside0.mk hLF
      rw [← hLF] at HF
      clear hLF
      obtain ⟨Af, cf, rfl⟩ := Kd.R_slice HF.out
      have h67 := HX.out.cell 67 _ (bkL_67 _ _ _ _ _ HL.out)
      have HRW := Aside0.mk (HR.out.below HB.out)
      have HBW := HB
      have HFW := HF
      go_wp2_with fail
      clear h67
      go_loopw [6, 7, 35] (fun _ _ i V => ∃ k : Nat, k ≤ r.attrs.length ∧ i = .int .i64 k ∧ ∃ va, Aside0 (Box V g3 (bkL r.addr r.aff r.slots (.slice Af LF.length cf) va) 57) ∧ Aside0 (Kd.R (Kd.int .u8) 5 V w.heap.size (fun _ => True) (.slice Af LF.length cf) LF) ∧ Aside0 (Kd.R k85 85 V w.heap.size (fun _ => True) va (((r.attrs.take k).take 70).map cv)) ∧ Aside0 (Box V g2 zeroL 57) ∧ Aside0 (Below w.heap.size w V)) (fun _ _ i _ => r.attrs.length - (intOf i).toNat)
      case atStart => exact ⟨0, by omega, rfl, _, HZ, HF, ⟨Kd.R_nil _ _ _ _ _⟩, HY, HB⟩
      case round =>
        clear HZ HF HY HX HB HFW HBW HRW
        obtain ⟨k, hk, rfl, va, HZ, HF, HA, HY, HB⟩ := hrel
        obtain ⟨V, rfl⟩ : ∃ V : World, V = wr := ⟨_, rfl⟩
        by_cases hkn : k < r.attrs.length
        · have hkb : decide ((k : Int) < (r.attrs.length : Int)) = true := by simp; omega
          obtain ⟨ad, eA, hx0, hx1⟩ := at_T76 (HR.out.below HB.out).ar k (by omega) (by omega)
          cases eA
          rw [Int.toNat_natCast] at hx0 hx1
          have p1 : ((k : Int) < (r.attrs.length : Int)) = True := eq_true (by omega)
          obtain ⟨a, ha⟩ : ∃ a, rd_T76 r.attrs (k : Int) = a := ⟨_, rfl⟩
          rw [ha] at hx0 hx1
          have ha2 : r.attrs[k] = a := by rw [← ha]; simp [rd_T76, List.getD, hkn]
          by_cases h7 : k < 70
          · have h7b : decide ((k : Int) < 70) = true := by simp; omega
            obtain ⟨L, hL⟩ : ∃ L : List At, L = ((r.attrs.take (k + 1)).take 70).map cv := ⟨_, rfl⟩
            obtain ⟨M, hM⟩ : ∃ M : List At, M = ((r.attrs.take k).take 70).map cv := ⟨_, rfl⟩
            have HLq := Aside0.mk hL
            have HT := Aside0.mk (show L = M ++ [cv a] by rw [hL, hM, take_70 _ _ hkn h7, ha2]; simp)
            have hml : M.length ≤ 70 := by rw [hM]; simp; omega
            rw [← hM] at HA
            clear hL hM ha ha2
            obtain ⟨Am, cm, rfl⟩ := Kd.R_slice HA.out
            go_wp2_with (first
              | (refine step_allocN (some 7) rfl rfl 76 rfl [.string ⟨#[]⟩, .string ⟨#[]⟩] (fun _ => by kernel_rfl) ?_; intro ga W3 hga HB3 hbw3)
              | (refine step_store rfl 76 (.tmp 7) (.tmp 39) rfl ga [.string a.f0, .string a.f1] rfl rfl 76 _ HB3 2 (by kernel_rfl) rfl rfl (by intro u hu; simp at hu; rcases hu with rfl | rfl <;> rfl) ?_; intro W4 HB4 hgw4))
            have HA4 := Aside0.mk (show Box W4.drew ga [.string a.f0, .string a.f1] 76 from HB4)
            have hbW : Below V.heap.size V W4.drew := below_drew (hbw3.grown hgw4 hbw3.size (fun q hq => by cases hq; exact hga))
            have HB5 := Aside0.mk (below_step HB.out hbW)
            have HZ5 := Aside0.mk (HZ.out.below hbW)
            have HF5 := Aside0.mk (Kd.R_below HF.out hbW)
            have HM5 := Aside0.mk (Kd.R_below HA.out hbW)
            have HY5 := Aside0.mk (HY.out.below hbW)
            clear HB3 HB4 hga hbw3 hgw4 hbW hx0 hx1 HA HZ HF HY HB
            refine start_ (n := 8) (S := fun w' => w'.cell? ⟨ga, 0, none⟩ = some (.string a.f0) ∧ w'.cell? ⟨ga, 1, none⟩ = some (.string a.f1) ∧ w'.cell? ⟨g3, 67, none⟩ = some (.slice Am M.length cm)) (ds := [7]) #[false, false, false, false, false, false, false, false] (by kernel_rfl) rfl rfl ⟨HA4.out.cell 0 _ rfl, HA4.out.cell 1 _ rfl, HZ5.out.cell 67 _ (bkL_67 _ _ _ _ _ HL.out)⟩ (fun hHeld => ?_); refine with_tabW ours12.tab12 ours12.bits12 (fun HT_ HW_ => ?_)
            refine pure_ (i := 0) (N := some 42) (v := ?_) (a' := ?_) #[true, false, false, false, false, false, false, false] rfl rfl (any_of HT_.out (by kernel_rfl)) (fun _ _ _ h => h) (Or.inl ⟨by rfl, ?_⟩) ?_ ?_
            rotate_left
            · intro w'
              go_simp
              with_reducible rfl
            rotate_left
            · simp only [Act.put, List.setIfInBounds_toArray, List.set_cons_zero, List.set_cons_succ, i64_w, i32_w]
              rfl
            refine take_ (i := 1) (N := some 43) (v := ?_) (a' := ?_) #[true, true, false, false, false, false, false, false] rfl rfl (take_ofW HT_.out HW_.out (by kernel_rfl)) (fun _ _ _ h => h) (Or.inl ⟨by rfl, ?_⟩) hHeld ?_ ?_
            rotate_left
            · intro w' hS_
              obtain ⟨s0, s1, s2⟩ := hS_
              go_simp
              with_reducible rfl
            rotate_left
            · simp only [Act.put, List.setIfInBounds_toArray, List.set_cons_zero, List.set_cons_succ, i64_w, i32_w]
              rfl
            refine take_ (i := 2) (N := some 44) (v := ?_) (a' := ?_) #[true, true, true, false, false, false, false, false] rfl rfl (take_ofW HT_.out HW_.out (by kernel_rfl)) (fun _ _ _ h => h) (Or.inl ⟨by rfl, ?_⟩) hHeld ?_ ?_
            rotate_left
            · intro w' hS_
              obtain ⟨s0, s1, s2⟩ := hS_
              go_simp
              with_reducible rfl
            rotate_left
            · simp only [Act.put, List.setIfInBounds_toArray, List.set_cons_zero, List.set_cons_succ, i64_w, i32_w]
              rfl
            refine one_ (i := 3) (N := some 45) #[true, true, true, true, false, false, false, false] rfl rfl (one_of HT_.out (by kernel_rfl)) (by decide) (fun K hK => ?_)
            refine goes_ Try.func50 (by kernel_rfl) rfl #[.agg #[.string a.f0, .string a.f1]] (by rfl) rfl rfl (by (try simp only [List.map_toArray, List.map_cons, List.map_nil]); first | done | rfl) ?_
            refine (cv_any a _).mono ?_
            rintro e V3 ⟨rfl, hb3⟩
            refine ⟨_, rfl, ?_⟩
            have HA6 := Aside0.mk (HA4.out.below hb3); have HZ6 := Aside0.mk (HZ5.out.below hb3); have HF6 := Aside0.mk (Kd.R_below HF5.out hb3); have HM6 := Aside0.mk (Kd.R_below HM5.out hb3); have HY6 := Aside0.mk (HY5.out.below hb3); have HB6 := Aside0.mk (below_step HB5.out hb3); clear hb3
            refine hK.out _ _ ⟨HA6.out.cell 0 _ rfl, HA6.out.cell 1 _ rfl, HZ6.out.cell 67 _ (bkL_67 _ _ _ _ _ HL.out)⟩ (fun hHeld => ?_)
            clear hK K
            refine norm_ (a' := ?_) ?_ ?_
            rotate_left
            · show Act.put _ (some 45) _ = _
              simp only [Act.put, List.setIfInBounds_toArray, List.set_cons_zero, List.set_cons_succ, i64_w, i32_w]
              rfl
            refine one_ (i := 4) (N := some 46) #[true, true, true, true, true, false, false, false] rfl rfl (one_of HT_.out (by kernel_rfl)) (by decide) (fun K hK => ?_)
            have HA7 := Aside0.mk (HA6.out.alloc (.cells [Value.string (cv a).f0, .string (cv a).f1].toArray 85)); have HZ7 := Aside0.mk (HZ6.out.alloc (.cells [Value.string (cv a).f0, .string (cv a).f1].toArray 85))
            refine event_step (v := .slice (some ⟨V3.heap.size, 0, none⟩) 1 1) (w1 := V3.alloc (.cells [Value.string (cv a).f0, .string (cv a).f1].toArray 85)) (by rfl) ?_ ?_
            · go_simp
              try rfl
            refine hK.out _ _ ⟨HA7.out.cell 0 _ rfl, HA7.out.cell 1 _ rfl, HZ7.out.cell 67 _ (bkL_67 _ _ _ _ _ HL.out)⟩ (fun hHeld => ?_)
            clear hK K
            refine norm_ (a' := ?_) ?_ ?_
            rotate_left
            · show Act.put _ (some 46) _ = _
              simp only [Act.put, List.setIfInBounds_toArray, List.set_cons_zero, List.set_cons_succ, i64_w, i32_w]
              rfl
            refine one_ (i := 5) (N := some 47) #[true, true, true, true, true, true, false, false] rfl rfl (one_of HT_.out (by kernel_rfl)) (by decide) (fun K hK => ?_)
            refine Kd.R_append_step k85 (w0 := w) w.heap.size (by rfl) (.tmp 43) (.tmp 46) 55 85 (.agg #[.string ⟨#[]⟩, .string ⟨#[]⟩]) 32 rfl Try.underlying55 info_at rfl (by decide) (by omega) _ M (cv a) [.string (cv a).f0, .string (cv a).f1] (fun _ => True) (fun _ => False) rfl rfl (k85_mkM _ _ _ _) (fun _ h => h.elim) (fun _ _ => trivial) HM6.out HB6.out HB6.out.size (by omega) ?_
            intro v8 w8 ho8 hb8 hg8 hat8
            rw [← HT.out] at ho8
            have HZ8 := Aside0.mk (HZ6.out.grown hg8 (HZ6.out.ne_row HM6.out (by decide)))
            have HA8 := Aside0.mk (HA6.out.grown hg8 (HA6.out.ne_row HM6.out (by decide)))
            have HY8 := Aside0.mk (HY6.out.grown hg8 (HY6.out.ne_row HM6.out (by decide)))
            have HF8 := Aside0.mk (Kd.R_over HF6.out HM6.out (by decide) hg8)
            have HM8 := Aside0.mk ho8
            have HB8 := Aside0.mk hb8
            obtain ⟨A8, c8, rfl⟩ := Kd.R_slice ho8
            clear ho8 hb8 hg8 hat8
            refine hK.out _ _ ⟨HA8.out.cell 0 _ rfl, HA8.out.cell 1 _ rfl, HZ8.out.cell 67 _ (bkL_67 _ _ _ _ _ HL.out)⟩ (fun hHeld => ?_)
            clear hK K
            refine norm_ (a' := ?_) ?_ ?_
            rotate_left
            · show Act.put _ (some 47) _ = _
              simp only [Act.put, List.setIfInBounds_toArray, List.set_cons_zero, List.set_cons_succ, i64_w, i32_w]
              rfl
            refine pure_ (i := 6) (N := some 48) (v := ?_) (a' := ?_) #[true, true, true, true, true, true, true, false] rfl rfl (any_of HT_.out (by kernel_rfl)) (fun _ _ _ h => h) (Or.inl ⟨by rfl, ?_⟩) ?_ ?_
            rotate_left
            · intro w'
              go_simp
              with_reducible rfl
            rotate_left
            · simp only [Act.put, List.setIfInBounds_toArray, List.set_cons_zero, List.set_cons_succ, i64_w, i32_w]
              rfl
            refine last_ (i := 7) (N := none) #[true, true, true, true, true, true, true, true] rfl rfl (one_of HT_.out (by kernel_rfl)) (by decide) (fun K hK => ?_)
            have hf67 := HZ8.out.frozen 67; have hc67 := HZ8.out.cell 67 _ (bkL_67 _ _ _ _ _ HL.out)
            refine skip_ (w1 := ?_) (by rfl) rfl ?_ ?_
            rotate_left
            · go_simp
              rfl
            refine hK.out _ _ ?_
            clear hK K
            refine done_ (done_of HT_.out (by kernel_rfl)) ?_
            have HZ9 := Aside0.mk (show Box (w8.setCell ⟨g3, 67, none⟩ (.slice A8 L.length c8)) g3 (bkL r.addr r.aff r.slots (.slice Af LF.length cf) (.slice A8 L.length c8)) 57 by have := HZ8.out.set 67 (.slice A8 L.length c8); rwa [bkL_set_67 _ _ _ _ _ HL.out] at this)
            go_wp2
            go_roundw
            case rel => exact ⟨k + 1, by omega, by go_num, _, HZ9, ⟨R_box_grown HF8.out HZ8.out (by decide) (setCell_grown _ _ _ _)⟩, ⟨by rw [← HLq.out]; exact R_box_grown HM8.out HZ8.out (by decide) (setCell_grown _ _ _ _)⟩, ⟨HY8.out.far (p := ⟨g3, 67, none⟩) HN23.out _⟩, ⟨Below.setCell HB8.out (p := ⟨g3, 67, none⟩) HG3.out _⟩⟩
            case measure => simp [intOf]; omega
          · have h7b : decide ((k : Int) < 70) = false := by simp; omega
            have HT := Aside0.mk (take_71 r.attrs k (by omega))
            clear ha ha2
            go_wp2_with (first
              | (refine step_allocN (some 7) rfl rfl 76 rfl [.string ⟨#[]⟩, .string ⟨#[]⟩] (fun _ => by kernel_rfl) ?_; intro ga W3 hga HB3 hbw3)
              | (refine step_store rfl 76 (.tmp 7) (.tmp 39) rfl ga [.string a.f0, .string a.f1] rfl rfl 76 _ HB3 2 (by kernel_rfl) rfl rfl (by intro u hu; simp at hu; rcases hu with rfl | rfl <;> rfl) ?_; intro W4 HB4 hgw4; have hbW : Below V.heap.size V W4 := hbw3.grown hgw4 hbw3.size (fun q hq => by cases hq; exact hga); have HB5 := Aside0.mk (below_step HB.out hbW); have HZ5 := Aside0.mk (HZ.out.below hbW); have HF5 := Aside0.mk (Kd.R_below HF.out hbW); have HM5 := Aside0.mk (Kd.R_below HA.out hbW); have HY5 := Aside0.mk (HY.out.below hbW); clear HB3 HB4 hga hbw3 hgw4 hbW hx0 hx1 HA HZ HF HY HB))
            go_roundw
            case rel => exact ⟨k + 1, by omega, by go_num, _, HZ5, HF5, ⟨by rw [HT.out]; exact HM5.out⟩, HY5, HB5⟩
            case measure => simp [intOf]; omega
        · obtain rfl : k = r.attrs.length := by omega
          have hkb : decide ((r.attrs.length : Int) < (r.attrs.length : Int)) = false := by simp
          obtain ⟨LA, hLA⟩ : ∃ LA : List At, LA = (r.attrs.take 70).map cv := ⟨_, rfl⟩
          have HT2 := Aside0.mk (show ((r.attrs.take r.attrs.length).take 70).map cv = LA by rw [List.take_of_length_le (Nat.le_refl r.attrs.length), hLA])
          have HLA := Aside0.mk hLA
          rw [HT2.out] at HA
          clear hLA
          obtain ⟨Aa, ca, rfl⟩ := Kd.R_slice HA.out
          have H68 := Aside0.mk (bkL_length r.addr r.aff r.slots (.slice Af LF.length cf) (.slice Aa LA.length ca) HL.out)
          go_wp2_with (first
            | (refine step_load rfl 57 (.tmp 3) rfl g3 rfl _ _ _ HZ.out Try.underlying57 rfl 68 (by kernel_rfl) H68.out ?_)
            | (refine step_store rfl 57 (.tmp 2) (.tmp 50) rfl g2 (bkL r.addr r.aff r.slots (.slice Af LF.length cf) (.slice Aa LA.length ca)) rfl rfl 57 _ HY.out 68 (by kernel_rfl) H68.out rfl (bkL_one _ _ _ _ _ rfl rfl) ?_; intro W6 HB6 hg6))
          refine bodyPost_ret (results_cell_row rfl _ _ g2 57 _ (0, 0) _ rfl HB6 Try.underlying57 rfl (by simp only [List.size_toArray]; exact size57 _ H68.out)) rfl ⟨_, rfl, ⟨HL.out, _, _, rfl, ?_, ?_⟩, HB.out.grown hg6 HB.out.size (by intro k hk; cases hk; exact HG2.out)⟩
          · show Kd.R _ _ _ _ _ _ (r.free.take 70)
            rw [← HLF.out]
            exact R_box_grown HF.out HY.out (by decide) hg6
          · show Kd.R _ _ _ _ _ _ ((r.attrs.take 70).map cv)
            rw [← HLA.out]
            exact R_box_grown HA.out HY.out (by decide) hg6
end Go.Proofs.Ytemhalnhbgkbcaa.V
end

-- BImgAttrs
section
/- image.attrs: attributes that are read. -/
namespace Go.Proofs.Ytemhalnhbgkbcaa.V
open Go.RowKit Go.Proofs.YtemhalnhbgkbcaaW.PrintWords Go.Proofs.YtemhalnhbgkbcaaW.PrintLast Go.Proofs.YtemhalnhbgkbcaaW.PrintMore
set_option linter.unusedVariables false
set_option linter.unusedSimpArgs false

def text2P (l : List Int) : List Int × List Int × Bool := textP (textP l false).2.1 (textP l false).2.2
def attr1 (l : List Int) : At := ⟨strOfNums (textP l false).1, strOfNums (text2P l).1⟩
/-- So many attributes, as long as nothing is bad: they, what is left, whether it is bad. -/
def attrsP : Nat → List Int → Bool → List At × List Int × Bool
  | 0, l, bad => ([], l, bad)
  | n + 1, l, bad => if bad = true then ([], l, true) else (attr1 l :: (attrsP n (text2P l).2.1 (text2P l).2.2).1, (attrsP n (text2P l).2.1 (text2P l).2.2).2)
def readAttrs (l : List Int) (bad : Bool) : List At × List Int × Bool := attrsP (numP (bytesP l bad 1).1) (bytesP l bad 1).2.1 (bytesP l bad 1).2.2
theorem textP_u8 {l : List Int} (hl : U8s l) (bad : Bool) : U8s (textP l bad).2.1 := (bytesP_u8 (bytesP_u8 hl bad 1).2 _ _).2
theorem attrsP_u8 : ∀ (n : Nat) (l : List Int) (bad : Bool), U8s l → U8s (attrsP n l bad).2.1
  | 0, l, bad, h => h
  | n + 1, l, bad, h => by
    unfold attrsP
    split
    · exact h
    · exact attrsP_u8 n _ _ (textP_u8 (textP_u8 h _) _)
theorem builtA (s : ByteArray) : Try.prog.built 85 [(0, .string s)] = some [Value.string s, .string ⟨#[]⟩].toArray := by kernel_rfl
theorem Rd.bound {W : World} {g : Nat} {ok : Nat → Prop} {v : Value} {l : List Int} {bad : Bool} (h : Rd W g ok v l bad) : Rd W g (fun k => ok k ∧ k < W.heap.size) v l bad := ⟨h.box, Kd.V_bound h.vw, fun k hk => h.ng k hk.1⟩
theorem Rd.mono {W : World} {g : Nat} {ok ok' : Nat → Prop} {v : Value} {l : List Int} {bad : Bool} (h : Rd W g ok v l bad) (hm : ∀ k, ok k → ok' k) (hn : ∀ k, ok' k → k ≠ g) : Rd W g ok' v l bad := ⟨h.box, Kd.V_mono h.vw hm, hn⟩
theorem R_keepG {α : Type} {d : Kd α} {e base g : Nat} {W W1 : World} {ok : Nat → Prop} {v : Value} {xs : List α} (h : d.R e W base ok v xs) (hg : W.grownBy W1 (some g)) (hlt : g < base) : d.R e W1 base ok v xs :=
  Kd.R_mono (Kd.R_grown (Kd.R_bound h) hg (fun k hk he => by have := hk.2.1; have := Option.some.inj he; omega)) (fun _ hk => hk.1)
set_option maxHeartbeats 4000000 in
theorem imgattrs_any {g : Nat} {ok : Nat → Prop} {v : Value} {l : List Int} {bad : Bool} (hl : U8s l) (w : World) (h : Rd w g ok v l bad) :
    Calls Try.prog 72 #[.pointer (some ⟨g, 0, none⟩)] w fun e w' => ∃ o v', e = .returned o ∧ Kd.R k85 85 w' w.heap.size (fun _ => True) o (readAttrs l bad).1 ∧ Rd w' g ok v' (readAttrs l bad).2.1 (readAttrs l bad).2.2 ∧ w.grownBy w' (some g) := by
  have hgl := h.box.lt
  have HNG := Aside0.mk h.ng
  have H := Aside0.mk h.bound
  have HU := Aside0.mk (u1_any hl (bad := bad) (g := g) (ok := fun k => ok k ∧ k < w.heap.size) (v := v))
  have hu8 := (bytesP_u8 hl bad 1).2
  have hn := num1_lt hl bad
  have HF : Aside0 (attrsP (numP (bytesP l bad 1).1) (bytesP l bad 1).2.1 (bytesP l bad 1).2.2 = readAttrs l bad) := ⟨rfl⟩
  generalize hfu : readAttrs l bad = full at HF ⊢
  generalize hp : bytesP l bad 1 = p at HU hu8 HF hn
  obtain ⟨L, l1, bad1⟩ := p
  dsimp only at HU hu8 HF hn
  generalize numP L = n at HU HF hn
  clear h hp hfu hl
  go_enter Try.func72, Try.ntmps72
  go_wp2_with (first
    | (go_at_call 70; refine (HU.out _ H.out).mono ?_; rintro e W1 ⟨v1, rfl, hr1, hg1⟩; have H1 := Aside0.mk hr1; have HG1 := Aside0.mk hg1; clear hr1 hg1))
  go_loopw [3, 4, 5] (fun o nv _ W => ∃ (m : Nat) (l2 : List Int) (bad2 : Bool) (acc : List At) (v2 : Value), m + acc.length = n ∧ nv = .int .u64 ((m : Nat) : Int) ∧ Aside0 (Kd.R k85 85 W w.heap.size (fun _ => True) o acc) ∧ Aside0 (Rd W g (fun k => ok k ∧ k < w.heap.size) v2 l2 bad2) ∧ Aside0 (w.grownBy W (some g)) ∧ Aside0 (U8s l2) ∧ Aside0 (full = (acc ++ (attrsP m l2 bad2).1, (attrsP m l2 bad2).2))) (fun _ nv _ _ => (intOf nv).toNat)
  case atStart => exact ⟨n, l1, bad1, [], v1, by simp, rfl, ⟨Kd.R_nil _ _ _ _ _⟩, H1, HG1, ⟨hu8⟩, ⟨by rw [← HF.out, List.nil_append]⟩⟩
  case round =>
    clear H1 HG1 hu8 HF HU
    obtain ⟨m, l2, bad2, acc, v2, hm, rfl, HO, HR, HG, H8, HE⟩ := hrel
    obtain ⟨W, rfl⟩ : ∃ W : World, W = wr := ⟨_, rfl⟩
    cases m with
    | zero =>
      obtain ⟨Ao, co, rfl⟩ := Kd.R_slice HO.out
      go_wp2
      go_ret
      have e : full = (acc, l2, bad2) := by rw [HE.out]; simp [attrsP]
      rw [e]
      exact ⟨_, _, rfl, HO.out, HR.out.mono (fun _ hk => hk.1) HNG.out, HG.out⟩
    | succ m =>
      have hgt : decide ((0 : Int) < ((m + 1 : Nat) : Int)) = true := by rw [decide_eq_true_eq]; omega
      cases bad2 with
      | true =>
        obtain ⟨Ao, co, rfl⟩ := Kd.R_slice HO.out
        have e : full = (acc, l2, true) := by rw [HE.out]; simp [attrsP]
        go_wp2_with (first
          | (go_at_call 103; refine (bad_any _ HR.out).mono ?_; rintro e W1 ⟨rfl, hb1⟩; have HR1 := Aside0.mk (HR.out.below hb1); have HO1 := Aside0.mk (Kd.R_below HO.out hb1); have HG1 := Aside0.mk (HG.out.trans (grown_of_below hb1 _)); clear hb1))
        go_ret
        rw [e]
        exact ⟨_, _, rfl, HO1.out, HR1.out.mono (fun _ hk => hk.1) HNG.out, HG1.out⟩
      | false =>
        have HE2 := Aside0.mk (show full = (acc ++ (attr1 l2 :: (attrsP m (text2P l2).2.1 (text2P l2).2.2).1), (attrsP m (text2P l2).2.1 (text2P l2).2.2).2) from HE.out)
        have HT0 := Aside0.mk (fun (W : World) (v : Value) (h : Rd W g (fun k => ok k ∧ k < w.heap.size) v l2 false) => text_any H8.out W h)
        have hu0 := textP_u8 H8.out false
        have HT1 := Aside0.mk (fun (W : World) (v : Value) (h : Rd W g (fun k => ok k ∧ k < w.heap.size) v (textP l2 false).2.1 (textP l2 false).2.2) => text_any hu0 W h)
        have HU1 := Aside0.mk (textP_u8 hu0 (textP l2 false).2.2)
        have HA : Aside0 (attr1 l2 = ⟨strOfNums (textP l2 false).1, strOfNums (textP (textP l2 false).2.1 (textP l2 false).2.2).1⟩) := ⟨rfl⟩
        have HTE : Aside0 (text2P l2 = textP (textP l2 false).2.1 (textP l2 false).2.2) := ⟨rfl⟩
        generalize text2P l2 = q1 at HE2 HTE
        generalize attr1 l2 = at1 at HE2 HA
        generalize textP l2 false = q0 at HT0 HT1 HU1 HA HTE hu0
        generalize textP q0.2.1 q0.2.2 = q2 at HT1 HU1 HA HTE
        obtain ⟨b0, l3, d3⟩ := q0
        obtain ⟨b1, l4, d4⟩ := q2
        dsimp only at HT0 HT1 HU1 HA HTE
        obtain ⟨s0, hs0⟩ : ∃ s0, s0 = strOfNums b0 := ⟨_, rfl⟩
        obtain ⟨s1, hs1⟩ : ∃ s1, s1 = strOfNums b1 := ⟨_, rfl⟩
        rw [← hs0] at HT0 HA
        rw [← hs1] at HT1 HA
        obtain rfl := HA.out
        obtain ⟨L, hL⟩ : ∃ L : List At, L = acc ++ [⟨s0, s1⟩] := ⟨_, rfl⟩
        have HL := Aside0.mk hL
        have HB1 := Aside0.mk (builtA s0)
        have hac : acc.length ≤ 255 := by omega
        clear hs0 hs1 hu0 H8 HE hL
        obtain ⟨Ao, co, rfl⟩ := Kd.R_slice HO.out
        go_wp2_with (first
          | (go_at_call 103; refine (bad_any _ HR.out).mono ?_; rintro e W1 ⟨rfl, hb1⟩; have HR1 := Aside0.mk (HR.out.below hb1); have HO1 := Aside0.mk (Kd.R_below HO.out hb1); have HG1 := Aside0.mk (HG.out.trans (grown_of_below hb1 _)); clear hb1 HR HO HG)
          | (go_at_call 71; refine (HT0.out _ _ HR1.out).mono ?_; rintro e W2 ⟨v3, rfl, hr2, hg2⟩; have HR2 := Aside0.mk hr2; have HO2 := Aside0.mk (R_keepG HO1.out hg2 hgl); have HG2 := Aside0.mk (HG1.out.trans hg2); clear hr2 hg2 HR1 HO1 HG1)
          | ((with_reducible refine gate_dst (N := 19) rfl ?_); refine step_buildV rfl 85 #[(0, .tmp 18)] rfl [(0, .string s0)] (by simp only [List.map_toArray, List.map_cons, List.map_nil]; rfl) [Value.string s0, .string ⟨#[]⟩] HB1.out ?_)
          | (refine step_allocN (some 5) rfl rfl 85 rfl [.string ⟨#[]⟩, .string ⟨#[]⟩] (fun _ => by kernel_rfl) ?_; intro ga W3 hga hx3 hb3; have HX3 := Aside0.mk hx3; have HR3 := Aside0.mk (HR2.out.below hb3); have HO3 := Aside0.mk (Kd.R_below (Kd.R_mono (ok' := fun k => k ≠ ga) (Kd.R_bound HO2.out) (fun k hk => by have := hk.2.2.1; omega)) hb3); have HG3 := Aside0.mk (HG2.out.trans (grown_of_below hb3 _)); have HGA := Aside0.mk (show w.heap.size ≤ ga from Nat.le_trans HG2.out.size hga); clear hx3 hb3 hga HR2 HO2 HG2)
          | (refine step_store rfl 85 (.tmp 5) (.tmp 19) rfl ga [.string s0, .string ⟨#[]⟩] rfl rfl 85 _ HX3.out 2 (by kernel_rfl) rfl rfl (by intro u hu; simp at hu; rcases hu with rfl | rfl <;> rfl) ?_; intro W4 hx4 hg4; have HX4 := Aside0.mk hx4; have HR4 := Aside0.mk (HR3.out.grown hg4 (fun k hk e => by have := hk.2; have := HGA.out; have := Option.some.inj e; omega) (fun e => by have := HGA.out; have := Option.some.inj e; omega)); have HO4 := Aside0.mk (Kd.R_grown HO3.out hg4 (fun k hk e => hk (Option.some.inj e))); have HG4 := Aside0.mk (HG3.out.andThen hg4 (fun j hj => .inl (by have := HGA.out; cases hj; exact this))); clear hx4 hg4 HX3 HR3 HO3 HG3)
          | (go_at_call 71; refine (HT1.out _ _ HR4.out).mono ?_; rintro e W5 ⟨v4, rfl, hr5, hg5⟩; have HR5 := Aside0.mk hr5; have HO5 := Aside0.mk (R_keepG HO4.out hg5 hgl); have HX5 := Aside0.mk (HX4.out.grown hg5 (fun e => by have := HGA.out; have := Option.some.inj e; omega)); have HG5 := Aside0.mk (HG4.out.trans hg5); have hf5 := HX5.out.frozen 1; have hc5 := HX5.out.cell 1 _ rfl; clear hr5 hg5 HR4 HO4 HG4 HX4)
          | (generalize hW6 : W5.setCell ⟨ga, 1, none⟩ (.string s1) = W6; have hX6 : Box W6 ga [.string s0, .string s1] 85 := (by rw [← hW6]; exact HX5.out.set 1 (.string s1)); have hgS : W5.grownBy W6 (some ga) := (by rw [← hW6]; exact setCell_grown W5 ga 1 (.string s1)); refine step_load rfl 85 (.tmp 5) rfl ga rfl _ _ _ hX6 Try.underlying85 rfl 2 (by kernel_rfl) rfl ?_; have HR6 := Aside0.mk (HR5.out.grown hgS (fun k hk e => by have := hk.2; have := HGA.out; have := Option.some.inj e; omega) (fun e => by have := HGA.out; have := Option.some.inj e; omega)); have HO6 := Aside0.mk (Kd.R_grown HO5.out hgS (fun k hk e => hk (Option.some.inj e))); have HLT := hX6.lt; have HG6 := Aside0.mk (HG5.out.andThen hgS (fun j hj => .inl (by have := HGA.out; cases hj; exact this))); clear hgS hf5 hc5 hW6 hX6)
          | ((with_reducible refine gate_builtin (b := .append) (xs := #[.tmp 23, .tmp 25]) rfl ?_); at_builtin; refine Kd.R_append k85 (w0 := W6) w.heap.size rfl (.tmp 23) (.tmp 25) 55 85 (.agg #[.string ⟨#[]⟩, .string ⟨#[]⟩]) 32 rfl Try.underlying55 info_at rfl (by decide) (by omega) _ acc ⟨s0, s1⟩ [.string s0, .string s1] (fun k => k ≠ ga) (fun _ => False) rfl rfl (k85_mkM _ _ _ _) (fun _ h => h.elim) (fun k hk => by omega) HO6.out (Below.refl _ _) HG6.out.size (by omega) ?_; intro v7 w7 ho7 hb7 hg7 hat7; rw [← HL.out] at ho7; have HO7 := Aside0.mk (Kd.R_mono (ok' := fun _ => True) ho7 (fun _ _ => trivial)); have HR7 := Aside0.mk (HR6.out.grown hg7 (fun k hk e => by have := hk.2; have := Kd.R_base HO6.out k e.symm; omega) (fun e => by have := Kd.R_base HO6.out _ e.symm; omega)); have HG7 := Aside0.mk (HG6.out.andThen hg7 (fun j hj => .inl (Kd.R_base HO6.out j hj))); clear ho7 hb7 hg7 hat7))
        go_roundw
        case rel => exact ⟨m, q1.2.1, q1.2.2, L, v4, by rw [HL.out, List.length_append, List.length_singleton]; omega, by go_num, HO7, by rw [HTE.out]; exact HR7, HG7, by rw [HTE.out]; exact HU1, ⟨by rw [HE2.out, HL.out]; simp⟩⟩
        case measure => simp [intOf]
end Go.Proofs.Ytemhalnhbgkbcaa.V
end

-- BReadP
section
/- image.Read: what is read, step by step; the copy into the slots; a reader of a text's bytes. -/
namespace Go.Proofs.Ytemhalnhbgkbcaa.V
open Go.RowKit Go.Proofs.YtemhalnhbgkbcaaW.PrintWords Go.Proofs.YtemhalnhbgkbcaaW.PrintLast Go.Proofs.YtemhalnhbgkbcaaW.PrintMore
set_option linter.unusedVariables false
set_option linter.unusedSimpArgs false

theorem bytesOf_u8 (s : ByteArray) : U8s (bytesOf s) := by
  intro x hx
  simp only [bytesOf, List.mem_map] at hx
  obtain ⟨b, _, rfl⟩ := hx
  have := b.toNat_lt
  omega
def r0 (s : ByteArray) := bytesP (bytesOf s) false 1
def r1 (s : ByteArray) := bytesP (r0 s).2.1 (r0 s).2.2 4
def r2 (s : ByteArray) := textP (r1 s).2.1 (r1 s).2.2
def r3 (s : ByteArray) := readAttrs (r2 s).2.1 (r2 s).2.2
def r4 (s : ByteArray) := bytesP (r3 s).2.1 (r3 s).2.2 64
def r5 (s : ByteArray) := bytesP (r4 s).2.1 (r4 s).2.2 1
def r6 (s : ByteArray) := bytesP (r5 s).2.1 (r5 s).2.2 (numP (r5 s).1 : Nat)
def copyL (sl L : List Int) : List Int := L ++ sl.drop L.length
def readBk (s : ByteArray) : Bk := ⟨(numP (r1 s).1 : Nat), strOfNums (r2 s).1, copyL (List.replicate 64 0) (r4 s).1, (r6 s).1, (r3 s).1⟩
def readDone (s : ByteArray) : Bool := !(r6 s).2.2 && (((r6 s).2.1.length : Int) == 0)
def readOk (s : ByteArray) : Bool := readDone s && (decide (numP (r0 s).1 = 66) && rightB (readBk s))
theorem u8_r0 (s : ByteArray) : U8s (r0 s).2.1 := (bytesP_u8 (bytesOf_u8 s) _ _).2
theorem u8_r1 (s : ByteArray) : U8s (r1 s).2.1 := (bytesP_u8 (u8_r0 s) _ _).2
theorem u8_r2 (s : ByteArray) : U8s (r2 s).2.1 := textP_u8 (u8_r1 s) _
theorem u8_r3 (s : ByteArray) : U8s (r3 s).2.1 := attrsP_u8 _ _ _ (bytesP_u8 (u8_r2 s) _ 1).2
theorem u8_r4 (s : ByteArray) : U8s (r4 s).2.1 := (bytesP_u8 (u8_r3 s) _ _).2
theorem u8_r5 (s : ByteArray) : U8s (r5 s).2.1 := (bytesP_u8 (u8_r4 s) _ _).2
theorem r4_len (s : ByteArray) : (r4 s).1.length ≤ 64 := bytesP_len _ _ 64
theorem copyL_len {sl L : List Int} (hs : sl.length = 64) (h : L.length ≤ 64) : (copyL sl L).length = 64 := by
  rw [copyL, List.length_append, List.length_drop]
  omega
theorem num4_lt (s : ByteArray) : numP (r1 s).1 < 4294967296 := by
  have h1 := numP_lt (bytesP_u8 (u8_r0 s) (r0 s).2.2 4).1
  have h2 := bytesP_len (r0 s).2.1 (r0 s).2.2 4
  exact Nat.lt_of_lt_of_le h1 (Nat.pow_le_pow_right (by omega) h2)
theorem readBk_ok (s : ByteArray) : BkOk (readBk s) := by
  refine ⟨by show (0 : Int) ≤ ((_ : Nat) : Int); omega, by show (((numP (r1 s).1 : Nat)) : Int) < 4294967296; have := num4_lt s; omega, ?_, (bytesP_u8 (u8_r5 s) _ _).1⟩
  intro x hx
  have hx' : x ∈ (r4 s).1 ++ (List.replicate 64 (0 : Int)).drop (r4 s).1.length := hx
  rcases List.mem_append.1 hx' with h | h
  · exact (bytesP_u8 (u8_r3 s) _ _).1 x h
  · have := List.eq_of_mem_replicate (List.mem_of_mem_drop h)
    omega
section
variable {g : Nat} {ok : Nat → Prop} {v : Value} {W : World}
theorem rd_u0 (s : ByteArray) (h : Rd W g ok v (bytesOf s) false) : Calls Try.prog 70 #[.pointer (some ⟨g, 0, none⟩), .int .i64 1] W fun e W' => ∃ v', e = .returned (.int .u64 (numP (r0 s).1 : Nat)) ∧ Rd W' g ok v' (r0 s).2.1 (r0 s).2.2 ∧ W.grownBy W' (some g) := u1_any (bytesOf_u8 s) W h
theorem rd_u1 (s : ByteArray) (h : Rd W g ok v (r0 s).2.1 (r0 s).2.2) : Calls Try.prog 70 #[.pointer (some ⟨g, 0, none⟩), .int .i64 4] W fun e W' => ∃ v', e = .returned (.int .u64 (numP (r1 s).1 : Nat)) ∧ Rd W' g ok v' (r1 s).2.1 (r1 s).2.2 ∧ W.grownBy W' (some g) := u4_any (u8_r0 s) W h
theorem rd_t2 (s : ByteArray) (h : Rd W g ok v (r1 s).2.1 (r1 s).2.2) : Calls Try.prog 71 #[.pointer (some ⟨g, 0, none⟩)] W fun e W' => ∃ v', e = .returned (.string (strOfNums (r2 s).1)) ∧ Rd W' g ok v' (r2 s).2.1 (r2 s).2.2 ∧ W.grownBy W' (some g) := text_any (u8_r1 s) W h
theorem rd_a3 (s : ByteArray) (h : Rd W g ok v (r2 s).2.1 (r2 s).2.2) : Calls Try.prog 72 #[.pointer (some ⟨g, 0, none⟩)] W fun e W' => ∃ o v', e = .returned o ∧ Kd.R k85 85 W' W.heap.size (fun _ => True) o (r3 s).1 ∧ Rd W' g ok v' (r3 s).2.1 (r3 s).2.2 ∧ W.grownBy W' (some g) := imgattrs_any (u8_r2 s) W h
theorem rd_b4 (s : ByteArray) (h : Rd W g ok v (r3 s).2.1 (r3 s).2.2) : Calls Try.prog 73 #[.pointer (some ⟨g, 0, none⟩), .int .i64 64] W fun e W' => ∃ u v', e = .returned u ∧ Kd.V (Kd.int .u8) 5 W' 0 ok u (r4 s).1 ∧ Rd W' g ok v' (r4 s).2.1 (r4 s).2.2 ∧ W.grownBy W' (some g) := bytes_any 64 (by omega) (by omega) W h
theorem rd_u5 (s : ByteArray) (h : Rd W g ok v (r4 s).2.1 (r4 s).2.2) : Calls Try.prog 70 #[.pointer (some ⟨g, 0, none⟩), .int .i64 1] W fun e W' => ∃ v', e = .returned (.int .u64 (numP (r5 s).1 : Nat)) ∧ Rd W' g ok v' (r5 s).2.1 (r5 s).2.2 ∧ W.grownBy W' (some g) := u1_any (u8_r4 s) W h
theorem num5_lt (s : ByteArray) : numP (r5 s).1 < 256 := num1_lt (u8_r4 s) _
theorem num0_lt (s : ByteArray) : numP (r0 s).1 < 256 := num1_lt (bytesOf_u8 s) _
theorem rd_b6 (s : ByteArray) (h : Rd W g ok v (r5 s).2.1 (r5 s).2.2) : Calls Try.prog 73 #[.pointer (some ⟨g, 0, none⟩), .int .i64 (numP (r5 s).1 : Nat)] W fun e W' => ∃ u v', e = .returned u ∧ Kd.V (Kd.int .u8) 5 W' 0 ok u (r6 s).1 ∧ Rd W' g ok v' (r6 s).2.1 (r6 s).2.2 ∧ W.grownBy W' (some g) := by
  have := num5_lt s
  exact bytes_any (numP (r5 s).1 : Nat) (by omega) (by omega) W h
theorem rd_d7 (s : ByteArray) (h : Rd W g ok v (r6 s).2.1 (r6 s).2.2) : Calls Try.prog 74 #[.pointer (some ⟨g, 0, none⟩)] W fun e W' => e = .returned (.bool (readDone s)) ∧ Below W.heap.size W W' := done_any W h
end
theorem new_reader' (s : ByteArray) (hs : s.size ≤ 1000000) (w : World) :
    Calls Try.prog 69 #[.slice (some ⟨w.heap.size, 0, none⟩) s.size (grownCap w s.size 0 5)] (Lib.bytesWorld w 5 s) fun e w' => ∃ g v, e = .returned (.pointer (some ⟨g, 0, none⟩)) ∧ Rd w' g (fun k => (w.heap.size < k ∧ k ≠ g) ∧ k < w'.heap.size) v (bytesOf s) false ∧ w.heap.size < g ∧ Below w.heap.size w w' := by
  have hC : Kd.C (Kd.int .u8) (Lib.bytesWorld w 5 s) (some ⟨w.heap.size, 0, none⟩) (bytesOf s).length (bytesOf s) := by
    rw [bytesOf_length]
    exact Kd.C_of_reads (bytes_reads w 5 s (by omega))
  have h := new_reader (bytesOf s) (some ⟨w.heap.size, 0, none⟩) (grownCap w s.size 0 5) (Lib.bytesWorld w 5 s) hC (by rw [bytesOf_length]; exact grownCap_ge _ _ _ _) (by rw [bytesOf_length]; omega)
  rw [bytesOf_length, Lib.bytesWorld_size] at h
  refine h.mono ?_
  rintro e w' ⟨g, v, rfl, hr, hg, hb⟩
  have hb0 : Below w.heap.size w w' := (Lib.bytesWorld_below w 5 s).trans (hb.mono (by omega))
  refine ⟨g, v, rfl, (hr.mono (ok' := fun k => w.heap.size < k ∧ k ≠ g) (fun k hk => ⟨by have := hk.1; omega, hk.2⟩) (fun k hk => hk.2)).bound, by omega, hb0⟩
theorem reps_map {ys : List Int} {news : List Value} (h : Reps (fun (x : Int) (cs : List Value) => cs = [Value.int .u8 x]) 1 ys news) : news = ys.map (Value.int .u8) := by
  have hl : news.length = ys.length * 1 := h.1
  apply List.ext_getElem
  · rw [List.length_map]; omega
  · intro q h1 h2
    have e := h.2 q _ (List.getElem?_eq_getElem (show q < ys.length by omega))
    rw [Nat.mul_one, List.drop_eq_getElem_cons h1, List.take_succ_cons, List.take_zero] at e
    injection e with e _
    rw [e, List.getElem_map]
set_option maxRecDepth 100000 in
theorem copy_slots {W : World} {g : Nat} {a : Int} {s : ByteArray} {sl : List Int} {vf va : Value} {ok : Nat → Prop} {u : Value} {L : List Int} (ty : TypeId) (hb : Box W g (bkL a s sl vf va) 57) (hl : sl.length = 64) (hv : Kd.V (Kd.int .u8) 5 W 0 ok u L) (hL : L.length ≤ 64) :
    ∃ v' w', (Builtin.copy_ #[48, 48] ty #[.slice (some ⟨g, 2, none⟩) 64 64, u]).run Try.prog W = .ok v' w' ∧ Box w' g (bkL a s (copyL sl L) vf va) 57 ∧ W.grownBy w' (some g) := by
  have hsz : (Try.prog.info? 5).map (·.size) = some 1 := by kernel_rfl
  obtain ⟨A, c, rfl, hc, hF⟩ := hv
  have hC := hF W (fun _ _ _ => rfl)
  rcases A with _ | ad
  · have h0 : L = [] := by
      rcases Nat.eq_zero_or_pos L.length with h0 | h0
      · exact List.eq_nil_of_length_eq_zero h0
      · obtain ⟨ad, h, _⟩ := hC.2.2 h0
        cases h
    subst h0
    exact ⟨_, W, run_copy_none W 48 48 ty 5 _ _ 64 64 0 c Try.underlying48 hsz rfl, hb, World.grownBy.refl W _⟩
  · obtain ⟨news, hnr, hnc⟩ := ReadsRow.inner_ hC
    obtain rfl := reps_map hnr
    have h68 := bkL_length a s sl vf va hl
    refine ⟨_, _, run_copy_row Try.prog W 48 48 ty 5 g 2 64 64 ad L.length c (bkL a s sl vf va).toArray 57 (L.map (Value.int .u8)) Try.underlying48 hsz hb ?_ hnc ?_ ?_, ?_, ?_⟩
    · rw [List.length_map]; exact (Nat.min_eq_left hL).symm
    · rw [List.length_map, List.size_toArray, h68]; omega
    · intro x hx
      obtain ⟨z, _, rfl⟩ := List.mem_map.1 hx
      rfl
    · have := setRow_heap W g _ (((bkL a s sl vf va).toArray.toList.take 2 ++ L.map (Value.int .u8) ++ (bkL a s sl vf va).toArray.toList.drop (2 + (L.map (Value.int .u8)).length)).toArray) 57 _ hb
      refine this.trans ?_
      congr 2
      rw [List.length_map, ← List.drop_drop]
      simp [bkL, copyL, List.drop_append, List.length_map, hl, show L.length - 64 = 0 by omega]
    · exact setRow_grown _ _ _
theorem step_copyR {ops : Array Oper} {o : Oper} {a : Act} {w : World} {K : Act → World → Prop} {Q : Exit → Act → World → Prop} {E : Prop} (hg : o.guard = none) (d x : Operand) (dT sT : TypeId)
    (hop : o.op = Op.call { callee := Callee.builtin Builtin.copy, args := #[d, x], argTypes := #[dT, sT] }) (v u : Value) (hd : a.eval d = v) (hx : a.eval x = u) {v' : Value} {w' : World}
    (hr : (Builtin.copy_ #[dT, sT] o.type #[v, u]).run Try.prog w = .ok v' w') (hK : K (a.put o.dst v') w') : if Region.wanted o (yielded ops a.tmps) = true then Oper.wp Try.prog o a w K Q else E := by
  rw [if_pos (by simp [Region.wanted, hg])]
  unfold Oper.wp
  simp [execOp, hop, resolve, invoke, builtin, hd, hx, hr, Result.andThen]
  exact hK
theorem builtR (x : Int) : Try.prog.built 57 [(0, .int .u32 x)] = some (bkL x ⟨#[]⟩ (List.replicate 64 0) (.slice none 0 0) (.slice none 0 0)).toArray := by kernel_rfl
end Go.Proofs.Ytemhalnhbgkbcaa.V
end

-- BRead
section
/- image.Read: the walk. -/
namespace Go.Proofs.Ytemhalnhbgkbcaa.V
open Go.RowKit Go.Proofs.YtemhalnhbgkbcaaW.PrintWords Go.Proofs.YtemhalnhbgkbcaaW.PrintLast Go.Proofs.YtemhalnhbgkbcaaW.PrintMore
set_option linter.unusedVariables false
set_option linter.unusedSimpArgs false

def iread6.T6 : Bool × List (List Nat × List Nat) := (true, [([], []), ([0], [0]), ([], []), ([2], [2]), ([1, 3, 3], [1, 3])])
def iread6.B6 : List Nat := [0, 1, 0, 4, 15]
theorem iread6.tab6 : rtab .any (opsOf Try.f38 6) = iread6.T6 := by kernel_rfl
theorem iread6.bits6 : waitsOk iread6.T6.2 iread6.B6 = true := by kernel_rfl
set_option maxHeartbeats 8000000 in
set_option maxRecDepth 100000 in
theorem read_any (s : ByteArray) (hs : s.size ≤ 1000000) (w : World) :
    Calls Try.prog 38 #[.string s] w fun e w' => ∃ v, e = .returned (.tuple #[v, .int .i64 (if readOk s = true then 0 else 3)]) ∧ BkV w' v (if readOk s = true then readBk s else zbk) ∧ Below w.heap.size w w' := by
  have hn0 := num0_lt s
  have hn1 := num4_lt s
  have hn5 := num5_lt s
  have HN := Aside0.mk (new_reader' s hs)
  have H0 := Aside0.mk (@rd_u0 · · · · s)
  have H1 := Aside0.mk (@rd_u1 · · · · s)
  have H2 := Aside0.mk (@rd_t2 · · · · s)
  have H3 := Aside0.mk (@rd_a3 · · · · s)
  have H4 := Aside0.mk (@rd_b4 · · · · s)
  have H5 := Aside0.mk (@rd_u5 · · · · s)
  have H6 := Aside0.mk (@rd_b6 · · · · s)
  have H7 := Aside0.mk (@rd_d7 · · · · s)
  have HL4 := Aside0.mk (r4_len s)
  have HBK : Aside0 (readBk s = ⟨(numP (r1 s).1 : Nat), strOfNums (r2 s).1, copyL (List.replicate 64 0) (r4 s).1, (r6 s).1, (r3 s).1⟩) := ⟨rfl⟩
  have HOK : Aside0 (readOk s = (readDone s && (decide (numP (r0 s).1 = 66) && rightB (readBk s)))) := ⟨rfl⟩
  have HBO := Aside0.mk (readBk_ok s)
  generalize readOk s = rok at HOK ⊢
  generalize readBk s = rbk at HBK HOK HBO ⊢
  generalize readDone s = rdn at H7 HOK
  generalize numP (r0 s).1 = n0 at hn0 H0 HOK
  generalize numP (r1 s).1 = n1 at hn1 H1 HBK
  generalize numP (r5 s).1 = n5 at hn5 H5 H6
  generalize strOfNums (r2 s).1 = aff at H2 HBK
  generalize (r4 s).1 = L4 at H4 HL4 HBK
  generalize (r6 s).1 = L6 at H6 HBK
  generalize (r3 s).1 = L3 at H3 HBK
  have kb := fun (w : World) => Lib.run_convert_string_bytes (P := Try.prog) w 9 48 5 s Try.underlying9 Try.underlying48 Try.underlying5
  have HBR := Aside0.mk (builtR (n1 : Int))
  have HZ64 := Aside0.mk (show (List.replicate 64 (0 : Int)).length = 64 by simp)
  have HSL := Aside0.mk (copyL_len HZ64.out HL4.out)
  obtain ⟨Z, hZ⟩ : ∃ Z : List Int, Z = List.replicate 64 0 := ⟨_, rfl⟩
  obtain ⟨SL, hSL⟩ : ∃ SL : List Int, SL = copyL Z L4 := ⟨_, rfl⟩
  rw [← hZ] at HBR HZ64 HSL HBK
  rw [← hSL] at HSL HBK
  have HSE := Aside0.mk hSL
  clear hZ hSL
  go_enter Try.func38, Try.ntmps38
  go_wp2_with (first
    | (refine step_allocN (some 2) rfl rfl 57 rfl zeroL zero57 ?_; intro g2 W1 hg2 hbx1 hb1; have HX1 := Aside0.mk hbx1; have HB1 := Aside0.mk hb1; have HG2 := Aside0.mk hg2; have HGL := Aside0.mk hbx1.lt; clear hbx1 hb1 hg2)
    | (go_at_call 69; refine (HN.out _).mono ?_; rintro e W2 ⟨gr, v2, rfl, hr2, hgr, hb2⟩; have HX2 := Aside0.mk (HX1.out.below hb2); have HR2 := Aside0.mk hr2; have HGR := Aside0.mk hgr; have HNE := Aside0.mk (show g2 ≠ gr by have := HGL.out; omega); have HGB := Aside0.mk (show w.heap.size ≤ gr by have := HB1.out.size; omega); have HB2 := Aside0.mk (HB1.out.trans (hb2.mono HB1.out.size)); clear hr2 hgr hb2 HX1 HN)
    | (go_at_call 70; refine (H0.out _ _ _ _ HR2.out).mono ?_; rintro e W3 ⟨v3, rfl, hr3, hg3⟩; have HR3 := Aside0.mk hr3; have HX3 := Aside0.mk (HX2.out.grown hg3 (fun e => HNE.out (Option.some.inj e))); have HS3 := Aside0.mk hg3.size; have HB3 := Aside0.mk (HB2.out.grown hg3 HB2.out.size (by intro k hk; cases hk; exact HGB.out)); clear hr3 hg3 HR2 HX2)
    | (go_at_call 70; refine (H1.out _ _ _ _ HR3.out).mono ?_; rintro e W4 ⟨v4, rfl, hr4, hg4⟩; have HR4 := Aside0.mk hr4; have HX4 := Aside0.mk (HX3.out.grown hg4 (fun e => HNE.out (Option.some.inj e))); have HS4 := Aside0.mk (Nat.le_trans HS3.out hg4.size); have HB4 := Aside0.mk (HB3.out.grown hg4 HB3.out.size (by intro k hk; cases hk; exact HGB.out)); clear hr4 hg4 HR3 HX3 HB3 HS3)
    | ((with_reducible refine gate_dst (N := 15) rfl ?_); refine step_buildV rfl 57 #[(0, .tmp 14)] rfl [(0, .int .u32 (n1 : Int))] (by simp only [List.map_toArray, List.map_cons, List.map_nil]; rfl) (bkL (n1 : Int) ⟨#[]⟩ Z (.slice none 0 0) (.slice none 0 0)) HBR.out ?_)
    | (refine step_allocN (some 6) rfl rfl 57 rfl zeroL zero57 ?_; intro g6 W5 hg6 hbx5 hb5; have HY5 := Aside0.mk hbx5; have HX5 := Aside0.mk (HX4.out.below hb5); have HR5 := Aside0.mk (HR4.out.below hb5); have HB5 := Aside0.mk (HB4.out.trans (hb5.mono HB4.out.size)); have HG6 := Aside0.mk (show W2.heap.size ≤ g6 by have := HS4.out; omega); have HGB6 := Aside0.mk (show w.heap.size ≤ g6 by have := HB4.out.size; omega); have HN26 := Aside0.mk (show g2 ≠ g6 by have := HX4.out.lt; omega); have HNR6 := Aside0.mk (show gr ≠ g6 by have := HR4.out.box.lt; omega); clear hbx5 hb5 hg6 HX4 HR4 HB4 HS4)
    | (refine step_store rfl 57 (.tmp 6) (.tmp 15) rfl g6 (bkL (n1 : Int) ⟨#[]⟩ Z (.slice none 0 0) (.slice none 0 0)) rfl rfl 57 _ HY5.out 68 (by kernel_rfl) (bkL_length _ _ _ _ _ HZ64.out) rfl (bkL_one _ _ _ _ _ rfl rfl) ?_; intro W6 hy6 hg6; have HY6 := Aside0.mk hy6; have HX6 := Aside0.mk (HX5.out.grown hg6 (fun e => HN26.out (Option.some.inj e))); have HR6 := Aside0.mk (HR5.out.grown hg6 (fun k hk e => by have := hk.2; have := HG6.out; have := Option.some.inj e; omega) (fun e => HNR6.out (Option.some.inj e))); have HB6 := Aside0.mk (HB5.out.grown hg6 HB5.out.size (by intro k hk; cases hk; exact HGB6.out)); clear hy6 hg6 HY5 HX5 HR5 HB5)
    | (go_at_call 71; refine (H2.out _ _ _ _ HR6.out).mono ?_; rintro e W7 ⟨v7, rfl, hr7, hg7⟩; have HR7 := Aside0.mk hr7; have HX7 := Aside0.mk (HX6.out.grown hg7 (fun e => HNE.out (Option.some.inj e))); have HY7 := Aside0.mk (HY6.out.grown hg7 (fun e => HNR6.out (Option.some.inj e).symm)); have HB7 := Aside0.mk (HB6.out.grown hg7 HB6.out.size (by intro k hk; cases hk; exact HGB.out)); have hf7 := HY7.out.frozen 1; have hc7 := HY7.out.cell 1 _ rfl; clear hr7 hg7 HR6 HX6 HY6 HB6)
    | (generalize hW8 : W7.setCell ⟨g6, 1, none⟩ (.string aff) = W8; go_at_call 72; have hy8 : Box W8 g6 (bkL (n1 : Int) aff Z (.slice none 0 0) (.slice none 0 0)) 57 := (by rw [← hW8]; exact HY7.out.set 1 (.string aff)); have hg8 : W7.grownBy W8 (some g6) := (by rw [← hW8]; exact setCell_grown W7 g6 1 (.string aff)); have HR8 := Aside0.mk (HR7.out.grown hg8 (fun k hk e => by have := hk.2; have := HG6.out; have := Option.some.inj e; omega) (fun e => HNR6.out (Option.some.inj e))); have HX8 := Aside0.mk (HX7.out.grown hg8 (fun e => HN26.out (Option.some.inj e))); have HB8 := Aside0.mk (HB7.out.grown hg8 HB7.out.size (by intro k hk; cases hk; exact HGB6.out)); refine (H3.out _ _ _ _ HR8.out).mono ?_; rintro e W9 ⟨o9, v9, rfl, ho9, hr9, hg9⟩; have HO9 := Aside0.mk (Kd.R_lower ho9 HB8.out.size); have HR9 := Aside0.mk hr9; have HX9 := Aside0.mk (HX8.out.grown hg9 (fun e => HNE.out (Option.some.inj e))); have HY9 := Aside0.mk (hy8.grown hg9 (fun e => HNR6.out (Option.some.inj e).symm)); have HB9 := Aside0.mk (HB8.out.grown hg9 HB8.out.size (by intro k hk; cases hk; exact HGB.out)); obtain ⟨A9, c9, rfl⟩ := Kd.R_slice ho9; have hf9 := HY9.out.frozen 67; have hc9 := HY9.out.cell 67 _ (bkL_67 _ _ _ _ _ HZ64.out); clear ho9 hr9 hg9 hy8 hg8 hW8 hf7 hc7 HR7 HX7 HY7 HB7 HR8 HX8 HB8))
  generalize hW10 : W9.setCell ⟨g6, 67, none⟩ (.slice A9 L3.length c9) = W10
  have hy10 : Box W10 g6 (bkL (n1 : Int) aff Z (.slice none 0 0) (.slice A9 L3.length c9)) 57 := by
    rw [← hW10]
    have := HY9.out.set 67 (.slice A9 L3.length c9)
    rwa [bkL_set_67 _ _ _ _ _ HZ64.out] at this
  have hg10 : W9.grownBy W10 (some g6) := by rw [← hW10]; exact setCell_grown W9 g6 67 _
  have hbd : Below W10.heap.size W10 W10.drew := below_drew (Below.refl _ _)
  have HR10 := Aside0.mk (Rd.below (HR9.out.grown hg10 (fun k hk e => by have := hk.2; have := HG6.out; have := Option.some.inj e; omega) (fun e => HNR6.out (Option.some.inj e))) hbd)
  have HX10 := Aside0.mk ((HX9.out.grown hg10 (fun e => HN26.out (Option.some.inj e))).below hbd)
  have HO10 := Aside0.mk (Kd.R_below (R_box_grown HO9.out HY9.out (by decide) hg10) hbd)
  have HB10 := Aside0.mk (below_drew (HB9.out.grown hg10 HB9.out.size (by intro k hk; cases hk; exact HGB6.out)))
  have HY10 := Aside0.mk (hy10.below hbd)
  clear hW10 hy10 hg10 hbd HR9 HX9 HY9 HB9 HO9 hf9 hc9
  refine start_ (n := 5) (S := fun w' => True) (ds := []) #[false, false, false, false, false] (by kernel_rfl) rfl rfl trivial (fun hHeld => ?_); refine with_tabW iread6.tab6 iread6.bits6 (fun HT_ HW_ => ?_)
  refine pure_ (i := 0) (N := some 22) (v := ?_) (a' := ?_) #[true, false, false, false, false] rfl rfl (any_of HT_.out (by kernel_rfl)) (fun _ _ _ h => h) (Or.inl ⟨by rfl, ?_⟩) ?_ ?_
  rotate_left
  · intro w'
    go_simp
    with_reducible rfl
  rotate_left
  · simp only [Act.put, List.setIfInBounds_toArray, List.set_cons_zero, List.set_cons_succ, i64_w, i32_w]
    rfl
  refine pure_ (i := 1) (N := some 23) (v := ?_) (a' := ?_) #[true, true, false, false, false] rfl rfl (any_of HT_.out (by kernel_rfl)) (fun _ _ _ h => h) (Or.inl ⟨by rfl, ?_⟩) ?_ ?_
  rotate_left
  · intro w'
    go_simp
    with_reducible rfl
  rotate_left
  · simp only [Act.put, List.setIfInBounds_toArray, List.set_cons_zero, List.set_cons_succ, i64_w, i32_w]
    rfl
  refine pure_ (i := 2) (N := some 24) (v := ?_) (a' := ?_) #[true, true, true, false, false] rfl rfl (any_of HT_.out (by kernel_rfl)) (fun _ _ _ h => h) (Or.inl ⟨by rfl, ?_⟩) ?_ ?_
  rotate_left
  · intro w'
    go_simp
    with_reducible rfl
  rotate_left
  · simp only [Act.put, List.setIfInBounds_toArray, List.set_cons_zero, List.set_cons_succ, i64_w, i32_w]
    rfl
  refine one_ (i := 3) (N := some 25) #[true, true, true, true, false] rfl rfl (one_of HT_.out (by kernel_rfl)) (by decide) (fun K hK => ?_)
  refine goes_ Try.func73 (by kernel_rfl) rfl #[.pointer (some ⟨gr, 0, none⟩), .int .i64 64] (by rfl) rfl rfl (by (try simp only [List.map_toArray, List.map_cons, List.map_nil]); first | done | rfl) ?_
  refine (H4.out _ _ _ _ HR10.out).mono ?_
  rintro e W11 ⟨u11, v11, rfl, hu11, hr11, hg11⟩
  refine ⟨_, rfl, ?_⟩
  have HR11 := Aside0.mk hr11; have HX11 := Aside0.mk (HX10.out.grown hg11 (fun e => HNE.out (Option.some.inj e))); have HY11 := Aside0.mk (HY10.out.grown hg11 (fun e => HNR6.out (Option.some.inj e).symm)); have HO11 := Aside0.mk (R_box_grown HO10.out HR10.out.box (by decide) hg11); have HB11 := Aside0.mk (HB10.out.grown hg11 HB10.out.size (by intro k hk; cases hk; exact HGB.out)); have HU11 := Aside0.mk hu11; clear hr11 hg11 hu11 HR10 HX10 HY10 HO10 HB10
  refine hK.out _ _ trivial (fun hHeld => ?_)
  clear hK K
  refine norm_ (a' := ?_) ?_ ?_
  rotate_left
  · show Act.put _ (some 25) _ = _
    simp only [Act.put, List.setIfInBounds_toArray, List.set_cons_zero, List.set_cons_succ, i64_w, i32_w]
    rfl
  refine one_ (i := 4) (N := some 26) #[true, true, true, true, true] rfl rfl (one_of HT_.out (by kernel_rfl)) (by decide) (fun K hK => ?_)
  obtain ⟨v12, W12, hrun, hy12, hg12⟩ := copy_slots 3 HY11.out HZ64.out HU11.out HL4.out
  rw [← HSE.out] at hy12
  have HR12 := Aside0.mk (HR11.out.grown hg12 (fun k hk e => by have := hk.2; have := HG6.out; have := Option.some.inj e; omega) (fun e => HNR6.out (Option.some.inj e)))
  have HX12 := Aside0.mk (HX11.out.grown hg12 (fun e => HN26.out (Option.some.inj e)))
  have HO12 := Aside0.mk (R_box_grown HO11.out HY11.out (by decide) hg12)
  have HB12 := Aside0.mk (HB11.out.grown hg12 HB11.out.size (by intro k hk; cases hk; exact HGB6.out))
  have HY12 := Aside0.mk hy12
  refine step_copyR rfl (.tmp 23) (.tmp 25) 48 48 rfl _ _ rfl rfl hrun ?_
  clear hrun hy12 hg12 HR11 HX11 HY11 HO11 HB11 HU11
  refine hK.out _ _ trivial (fun hHeld => ?_)
  clear hK K
  refine norm_ (a' := ?_) ?_ ?_
  rotate_left
  · show Act.put _ (some 26) _ = _
    simp only [Act.put, List.setIfInBounds_toArray, List.set_cons_zero, List.set_cons_succ, i64_w, i32_w]
    rfl
  refine done_ (done_of HT_.out (by kernel_rfl)) ?_
  go_wp2_with (first
    | (go_at_call 70; refine (H5.out _ _ _ _ HR12.out).mono ?_; rintro e W13 ⟨v13, rfl, hr13, hg13⟩; have HR13 := Aside0.mk hr13; have HX13 := Aside0.mk (HX12.out.grown hg13 (fun e => HNE.out (Option.some.inj e))); have HY13 := Aside0.mk (HY12.out.grown hg13 (fun e => HNR6.out (Option.some.inj e).symm)); have HO13 := Aside0.mk (R_box_grown HO12.out HR12.out.box (by decide) hg13); have HB13 := Aside0.mk (HB12.out.grown hg13 HB12.out.size (by intro k hk; cases hk; exact HGB.out)); clear hr13 hg13 HR12 HX12 HY12 HO12 HB12)
    | (go_at_call 73; refine (H6.out _ _ _ _ HR13.out).mono ?_; rintro e W14 ⟨u14, v14, rfl, hu14, hr14, hg14⟩; have HR14 := Aside0.mk hr14; have HX14 := Aside0.mk (HX13.out.grown hg14 (fun e => HNE.out (Option.some.inj e))); have HY14 := Aside0.mk (HY13.out.grown hg14 (fun e => HNR6.out (Option.some.inj e).symm)); have HO14 := Aside0.mk (R_box_grown HO13.out HR13.out.box (by decide) hg14); have HB14 := Aside0.mk (HB13.out.grown hg14 HB13.out.size (by intro k hk; cases hk; exact HGB.out)); obtain ⟨A14, c14, rfl, hc14, hF14⟩ := hu14; have HC14 := Aside0.mk hc14; have HU14 := Aside0.mk hF14; have hf14 := HY14.out.frozen 66; have hc66 := HY14.out.cell 66 _ (bkL_66 _ _ _ _ _ HSL.out); clear hr14 hg14 hc14 hF14 HR13 HX13 HY13 HO13 HB13))
  generalize hW15 : W14.setCell ⟨g6, 66, none⟩ (.slice A14 L6.length c14) = W15
  have hy15 : Box W15 g6 (bkL (n1 : Int) aff SL (.slice A14 L6.length c14) (.slice A9 L3.length c9)) 57 := by
    rw [← hW15]
    have := HY14.out.set 66 (.slice A14 L6.length c14)
    rwa [bkL_set_66 _ _ _ _ _ HSL.out] at this
  have hg15 : W14.grownBy W15 (some g6) := by rw [← hW15]; exact setCell_grown W14 g6 66 _
  have HR15 := Aside0.mk (HR14.out.grown hg15 (fun k hk e => by have := hk.2; have := HG6.out; have := Option.some.inj e; omega) (fun e => HNR6.out (Option.some.inj e)))
  have HX15 := Aside0.mk (HX14.out.grown hg15 (fun e => HN26.out (Option.some.inj e)))
  have HO15 := Aside0.mk (R_box_grown HO14.out HY14.out (by decide) hg15)
  have HB15 := Aside0.mk (HB14.out.grown hg15 HB14.out.size (by intro k hk; cases hk; exact HGB6.out))
  have HU15 := Aside0.mk (Kd.F_grown HU14.out hg15 (fun k hk e => by have := hk.2; have := HG6.out; have := Option.some.inj e; omega))
  have HY15 := Aside0.mk hy15
  clear hW15 hy15 hg15 HR14 HX14 HY14 HB14 HO14 HU14 hf14 hc66
  go_at_call 74
  refine (H7.out _ _ _ _ HR15.out).mono ?_
  rintro e W16 ⟨rfl, hb16⟩
  have HX16 := Aside0.mk (HX15.out.below hb16)
  have HY16 := Aside0.mk (HY15.out.below hb16)
  have HB16 := Aside0.mk (HB15.out.trans (hb16.mono HB15.out.size))
  have HO16 := Aside0.mk (Kd.R_below HO15.out hb16)
  have HU16 := Aside0.mk (Kd.F_below HU15.out hb16)
  clear hb16 HR15 HX15 HY15 HB15 HO15 HU15 H0 H1 H2 H3 H4 H5 H6 H7
  cases rdn with
  | false =>
    obtain rfl : rok = false := by rw [HOK.out]; rfl
    go_wp2_with (first
      | (refine step_build rfl 57 #[] rfl zeroL built0 ?_)
      | (refine step_store rfl 57 (.tmp 2) (.tmp 45) rfl g2 zeroL rfl rfl 57 _ HX16.out 68 (by kernel_rfl) rfl rfl zeroL_one ?_; intro W18 hx18 hg18))
    exact bodyPost_ret (results_ct rfl _ _ g2 57 _ (0, 0) _ rfl hx18 Try.underlying57 rfl (by simp only [List.size_toArray]; exact size57 _ rfl)) rfl ⟨_, rfl, (zbk_O _ 0).toV, HB16.out.grown hg18 HB16.out.size (by intro k hk; cases hk; exact HG2.out)⟩
  | true =>
    by_cases h66 : n0 = 66
    · subst h66
      cases hrt : rightB rbk with
      | false =>
        have HRT := Aside0.mk hrt
        obtain rfl : rok = false := by rw [HOK.out, hrt]; rfl
        clear hrt
        obtain rfl := HBK.out
        have hv : BkV W16 (.agg (bkL (n1 : Int) aff SL (.slice A14 L6.length c14) (.slice A9 L3.length c9)).toArray) ⟨(n1 : Int), aff, SL, L6, L3⟩ := by
          obtain ⟨A', c', hq, hcc, hC⟩ := Kd.R_reads HO16.out
          cases hq
          exact ⟨A14, c14, A9, c9, rfl, HSL.out, HU16.out W16 (fun _ _ _ => rfl), HC14.out, hC, hcc⟩
        have HV := Aside0.mk hv
        clear hv
        go_wp2_with (first
          | ((with_reducible refine gate_dst (N := 41) rfl ?_); refine gate_guard (by rfl) ?_; refine step_load rfl 57 (.tmp 6) rfl g6 rfl _ _ _ HY16.out Try.underlying57 rfl 68 (by kernel_rfl) (bkL_length _ _ _ _ _ HSL.out) ?_)
          | (go_at_call 48; refine (right_any' _ HBO.out _ _ HV.out).mono ?_; rintro e W17 ⟨rfl, hb17⟩; rw [HRT.out]; have HX17 := Aside0.mk (HX16.out.below hb17); have HB17 := Aside0.mk (HB16.out.trans (hb17.mono HB16.out.size)); clear hb17)
          | (refine step_build rfl 57 #[] rfl zeroL built0 ?_)
          | (refine step_store rfl 57 (.tmp 2) (.tmp 45) rfl g2 zeroL rfl rfl 57 _ HX17.out 68 (by kernel_rfl) rfl rfl zeroL_one ?_; intro W18 hx18 hg18))
        exact bodyPost_ret (results_ct rfl _ _ g2 57 _ (0, 0) _ rfl hx18 Try.underlying57 rfl (by simp only [List.size_toArray]; exact size57 _ rfl)) rfl ⟨_, rfl, (zbk_O _ 0).toV, HB17.out.grown hg18 HB17.out.size (by intro k hk; cases hk; exact HG2.out)⟩
      | true =>
        have HRT := Aside0.mk hrt
        obtain rfl : rok = true := by rw [HOK.out, hrt]; rfl
        clear hrt
        obtain rfl := HBK.out
        have hv : BkV W16 (.agg (bkL (n1 : Int) aff SL (.slice A14 L6.length c14) (.slice A9 L3.length c9)).toArray) ⟨(n1 : Int), aff, SL, L6, L3⟩ := by
          obtain ⟨A', c', hq, hcc, hC⟩ := Kd.R_reads HO16.out
          cases hq
          exact ⟨A14, c14, A9, c9, rfl, HSL.out, HU16.out W16 (fun _ _ _ => rfl), HC14.out, hC, hcc⟩
        have HV := Aside0.mk hv
        clear hv
        go_wp2_with (first
          | ((with_reducible refine gate_dst (N := 41) rfl ?_); refine gate_guard (by rfl) ?_; refine step_load rfl 57 (.tmp 6) rfl g6 rfl _ _ _ HY16.out Try.underlying57 rfl 68 (by kernel_rfl) (bkL_length _ _ _ _ _ HSL.out) ?_)
          | (go_at_call 48; refine (right_any' _ HBO.out _ _ HV.out).mono ?_; rintro e W17 ⟨rfl, hb17⟩; rw [HRT.out]; have HX17 := Aside0.mk (HX16.out.below hb17); have HY17 := Aside0.mk (HY16.out.below hb17); have HO17 := Aside0.mk (Kd.R_below HO16.out hb17); have HU17 := Aside0.mk (Kd.F_below HU16.out hb17); have HB17 := Aside0.mk (HB16.out.trans (hb17.mono HB16.out.size)); clear hb17)
          | (refine step_load rfl 57 (.tmp 6) rfl g6 rfl _ _ _ HY17.out Try.underlying57 rfl 68 (by kernel_rfl) (bkL_length _ _ _ _ _ HSL.out) ?_)
          | (refine step_store rfl 57 (.tmp 2) (.tmp 46) rfl g2 (bkL (n1 : Int) aff SL (.slice A14 L6.length c14) (.slice A9 L3.length c9)) rfl rfl 57 _ HX17.out 68 (by kernel_rfl) (bkL_length _ _ _ _ _ HSL.out) rfl (bkL_one _ _ _ _ _ rfl rfl) ?_; intro W18 hx18 hg18))
        refine bodyPost_ret (results_ct rfl _ _ g2 57 _ (0, 0) _ rfl hx18 Try.underlying57 rfl (by simp only [List.size_toArray]; exact size57 _ (bkL_length _ _ _ _ _ HSL.out))) rfl ⟨_, rfl, ⟨A14, c14, A9, c9, rfl, HSL.out, ?_, HC14.out, ?_, ?_⟩, HB17.out.grown hg18 HB17.out.size (by intro k hk; cases hk; exact HG2.out)⟩
        · exact Kd.F_grown HU17.out hg18 (fun k hk e => by have := hk.1.1; have := HGL.out; have := Option.some.inj e; omega) _ (fun _ _ _ => rfl)
        · obtain ⟨A', c', hq, hcc, hC⟩ := Kd.R_reads (R_box_grown HO17.out HX17.out (by decide) hg18)
          cases hq
          exact hC
        · obtain ⟨A', c', hq, hcc, hC⟩ := Kd.R_reads HO17.out
          cases hq
          exact hcc
    · obtain rfl : rok = false := by rw [HOK.out, decide_eq_false h66]; rfl
      have hb1 : ((n0 : Int) == 66) = false := by rw [beq_eq_false_iff_ne]; omega
      have hb2 : ((n0 : Int) != 66) = true := by rw [bne, hb1]; rfl
      have hb3 : (n0 == 66) = false := by rw [beq_eq_false_iff_ne]; exact h66
      go_wp2_with (first
        | (refine step_build rfl 57 #[] rfl zeroL built0 ?_)
        | (refine step_store rfl 57 (.tmp 2) (.tmp 45) rfl g2 zeroL rfl rfl 57 _ HX16.out 68 (by kernel_rfl) rfl rfl zeroL_one ?_; intro W18 hx18 hg18))
      exact bodyPost_ret (results_ct rfl _ _ g2 57 _ (0, 0) _ rfl hx18 Try.underlying57 rfl (by simp only [List.size_toArray]; exact size57 _ rfl)) rfl ⟨_, rfl, (zbk_O _ 0).toV, HB16.out.grown hg18 HB16.out.size (by intro k hk; cases hk; exact HG2.out)⟩
end Go.Proofs.Ytemhalnhbgkbcaa.V
end

-- VFBlockAttr78
section
-- PRINTED by print.py (a twelfth state) out of the translation. Not trusted: Lean checks it.
namespace Go.Proofs.Ytemhalnhbgkbcaa.V
open Go.RowKit Go.Proofs.YtemhalnhbgkbcaaW.PrintWords Go.Proofs.YtemhalnhbgkbcaaW.PrintLast Go.Proofs.YtemhalnhbgkbcaaW.PrintMore
attribute [local go_sem] max2_int min2_int max_two min_two max_three min_three max_four min_four   -- for this text's walks alone
set_option linter.unusedVariables false
set_option linter.unusedSimpArgs false

attribute [local go_sem high] eqA85
/-! ### block_Attr_78: function 78 -/
def block_Attr_78.l0 : Nat → List (S85) → List (S85) → Int → Int → Option (Bool)
  | 0, _, _, _, _ => none
  | k + 1, x0, x1, x12, x13 => if x13 < x12 then (if 0 ≤ x13 then (if x13 < (x0.length : Int) then (if x13 < (x1.length : Int) then (if (!((((rd_T85 x0 x13).f0).toList) == (((rd_T85 x1 x13).f0).toList)) || (!((((rd_T85 x0 x13).f1).toList) == (((rd_T85 x1 x13).f1).toList)))) = true then (some false) else (block_Attr_78.l0 k x0 x1 x12 (wrap64 (x13 + 1)))) else (none)) else (none)) else (none)) else (some true)
def block_Attr_78.f (k : Nat) (l0 : List (S85)) (l1 : List (S85)) : Option (Bool) := if (l0.length : Int) = (l1.length : Int) then (block_Attr_78.l0 k l0 l1 (l0.length : Int) 0) else (some false)
theorem block_Attr_78.mono_l : ∀ k, (∀ y0 y1 y2 y3, LeO (block_Attr_78.l0 k y0 y1 y2 y3) (block_Attr_78.l0 (k + 1) y0 y1 y2 y3))
  | 0 => fun _ _ _ _ r h => by simp [block_Attr_78.l0] at h
  | k + 1 => by
    have ih0 := block_Attr_78.mono_l k
    · intro y0 y1 y2 y3
      unfold block_Attr_78.l0
      repeat' first
      | (with_reducible exact ih0 _ _ _ _)
      | (with_reducible exact LeO.refl _)
      | (with_reducible exact LeO.none _)
      | (with_reducible refine LeO.ite ?_ ?_)
      | (with_reducible refine LeO.bind ?_ (fun _ => ?_))
      | exact ih0 _ _ _ _
      | exact LeO.none _
      | refine LeO.ite ?_ ?_
      | refine LeO.bind ?_ (fun _ => ?_)
theorem block_Attr_78.mono : ∀ a0 a1 k, LeO (block_Attr_78.f k a0 a1) (block_Attr_78.f (k + 1) a0 a1) := by
  intro a0 a1 k
  have ih0 := block_Attr_78.mono_l k
  unfold block_Attr_78.f
  repeat' first
      | (with_reducible exact ih0 _ _ _ _)
      | (with_reducible exact LeO.refl _)
      | (with_reducible exact LeO.none _)
      | (with_reducible refine LeO.ite ?_ ?_)
      | (with_reducible refine LeO.bind ?_ (fun _ => ?_))
      | exact ih0 _ _ _ _
      | exact LeO.none _
      | refine LeO.ite ?_ ?_
      | refine LeO.bind ?_ (fun _ => ?_)
set_option maxHeartbeats 8000000 in
set_option maxRecDepth 100000 in
theorem block_Attr_78.calls (k : Nat) (A0 : Option Addr) (c0 : Nat) (l0 : List (S85)) (A1 : Option Addr) (c1 : Nat) (l1 : List (S85)) (r : Bool) (w : World) (hr0 : Kd.C k85 w A0 l0.length l0) (hc0 : l0.length ≤ c0) (hr1 : Kd.C k85 w A1 l1.length l1) (hc1 : l1.length ≤ c1) (h : block_Attr_78.f k l0 l1 = some r) :
    Calls Try.prog 78 #[.slice A0 l0.length c0, .slice A1 l1.length c1] w fun e w' => e = .returned (.bool r) ∧ Drawn0 w w' := by
  have hu85 := Try.underlying85
  have HR0 := Aside0.mk hr0
  have HC0 := Aside0.mk hc0
  clear hr0 hc0
  have HR1 := Aside0.mk hr1
  have HC1 := Aside0.mk hc1
  clear hr1 hc1
  have H : (if (l0.length : Int) = (l1.length : Int) then (block_Attr_78.l0 k l0 l1 (l0.length : Int) 0) else (some false)) = some r := h
  clear h
  by_cases c3 : (l0.length : Int) = (l1.length : Int)
  · rw [if_pos c3] at H
    have c3b0 : ((l0.length : Int) == (l1.length : Int)) = true := beq_iff_eq.mpr c3
    have c3b1 : ((l0.length : Int) != (l1.length : Int)) = false := bne_eq_false_iff_eq.mpr c3
    have c3b2 : (l0.length == l1.length) = true := by first | simpa using c3 | (simp at c3 ⊢; omega)
    clear c3
    have H' := Aside0.mk H
    clear H
    go_enter Try.func78, Try.ntmps78
    go_wp2
    repeat (go_quiet (fail); try go_wp2)
    go_loopg [13] k (fun kq v13 w' => ∃ (x13_1 : Int), v13 = .int .i64 x13_1 ∧ Aside0 (block_Attr_78.l0 kq l0 l1 (l0.length : Int) x13_1 = some r) ∧ Aside0 (kq ≤ k) ∧ Drawn0 w w')
    case atStart => exact ⟨(0), (by first | rfl | (simp; done) | (simp [*]; done)), H', ⟨Nat.le_refl _⟩, by repeat (first | exact Drawn0.refl _ | apply Drawn0.step)⟩
    case round =>
      clear H'
      try clear c1
      try clear p2
      try clear c3
      try clear c3b0
      try clear c3b1
      try clear c3b2
      obtain ⟨x13_1, rfl, HA, HK1, ⟨m1, rfl⟩⟩ := hrel
      cases gk with
      | zero => exact absurd HA.out (by simp [block_Attr_78.l0])
      | succ k1 =>
        have H := HA.out
        clear HA
        simp only [block_Attr_78.l0] at H
        by_cases c4 : x13_1 < (l0.length : Int)
        · rw [if_pos c4] at H
          have c4b0 : decide (x13_1 < (l0.length : Int)) = true := decide_eq_true c4
          clear c4
          by_cases c5 : 0 ≤ x13_1
          · rw [if_pos c5] at H
            have c5b0 : decide (0 ≤ x13_1) = true := decide_eq_true c5
            clear c5
            by_cases c6 : x13_1 < (l0.length : Int)
            · rw [if_pos c6] at H
              have c6b0 : decide (x13_1 < (l0.length : Int)) = true := decide_eq_true c6
              clear c6
              by_cases c7 : x13_1 < (l1.length : Int)
              · rw [if_pos c7] at H
                have c7b0 : decide (x13_1 < (l1.length : Int)) = true := decide_eq_true c7
                clear c7
                by_cases c8 : (!((((rd_T85 l0 x13_1).f0).toList) == (((rd_T85 l1 x13_1).f0).toList)) || (!((((rd_T85 l0 x13_1).f1).toList) == (((rd_T85 l1 x13_1).f1).toList)))) = true
                · rw [if_pos c8] at H
                  have c8b0 : (!((((rd_T85 l0 x13_1).f0).toList) == (((rd_T85 l1 x13_1).f0).toList)) || (!((((rd_T85 l0 x13_1).f1).toList) == (((rd_T85 l1 x13_1).f1).toList)))) = true := c8
                  clear c8
                  obtain rfl := Option.some.inj H
                  have p78101 : 0 ≤ (x13_1 : Int) := of_decide_eq_true (by first | (with_reducible assumption) | assumption)
                  have q78101 : x13_1 < (l0.length : Int) := of_decide_eq_true (by first | (with_reducible assumption) | assumption)
                  obtain ⟨ad78101, e78101, hx78101_0, hx78101_1⟩ := at_T85 HR0.out x13_1 p78101 q78101
                  cases e78101
                  replace p78101 := eq_true p78101
                  replace q78101 := eq_true q78101
                  have p78102 : 0 ≤ (x13_1 : Int) := of_decide_eq_true (by first | (with_reducible assumption) | assumption)
                  have q78102 : x13_1 < (l1.length : Int) := of_decide_eq_true (by first | (with_reducible assumption) | assumption)
                  obtain ⟨ad78102, e78102, hx78102_0, hx78102_1⟩ := at_T85 HR1.out x13_1 p78102 q78102
                  cases e78102
                  replace p78102 := eq_true p78102
                  replace q78102 := eq_true q78102
                  go_wp2
                  repeat (go_quiet (fail); try go_wp2)
                  go_ret
                  exact ⟨by first | rfl | (simp; done) | (simp [*]; done), by repeat (first | exact Drawn0.refl _ | apply Drawn0.step)⟩
                · rw [if_neg c8] at H
                  have c8b0 : (!((((rd_T85 l0 x13_1).f0).toList) == (((rd_T85 l1 x13_1).f0).toList)) || (!((((rd_T85 l0 x13_1).f1).toList) == (((rd_T85 l1 x13_1).f1).toList)))) = false := by simpa using c8
                  clear c8
                  have H' := Aside0.mk H
                  clear H
                  have p78101 : 0 ≤ (x13_1 : Int) := of_decide_eq_true (by first | (with_reducible assumption) | assumption)
                  have q78101 : x13_1 < (l0.length : Int) := of_decide_eq_true (by first | (with_reducible assumption) | assumption)
                  obtain ⟨ad78101, e78101, hx78101_0, hx78101_1⟩ := at_T85 HR0.out x13_1 p78101 q78101
                  cases e78101
                  replace p78101 := eq_true p78101
                  replace q78101 := eq_true q78101
                  have p78102 : 0 ≤ (x13_1 : Int) := of_decide_eq_true (by first | (with_reducible assumption) | assumption)
                  have q78102 : x13_1 < (l1.length : Int) := of_decide_eq_true (by first | (with_reducible assumption) | assumption)
                  obtain ⟨ad78102, e78102, hx78102_0, hx78102_1⟩ := at_T85 HR1.out x13_1 p78102 q78102
                  cases e78102
                  replace p78102 := eq_true p78102
                  replace q78102 := eq_true q78102
                  go_wp2
                  repeat (go_quiet (fail); try go_wp2)
                  go_roundg k1
                  case measure => have := HK1.out; omega
                  case rel => exact ⟨(wrap64 (x13_1 + 1)), (by first | rfl | (simp; done) | (simp [*]; done)), H', ⟨by have := HK1.out; omega⟩, by repeat (first | exact Drawn0.refl _ | apply Drawn0.step)⟩
              · rw [if_neg c7] at H
                exact absurd H (by simp)
            · rw [if_neg c6] at H
              exact absurd H (by simp)
          · rw [if_neg c5] at H
            exact absurd H (by simp)
        · rw [if_neg c4] at H
          have c4b0 : decide (x13_1 < (l0.length : Int)) = false := decide_eq_false c4
          clear c4
          obtain rfl := Option.some.inj H
          go_wp2
          repeat (go_quiet (fail); try go_wp2)
          go_ret
          exact ⟨by first | rfl | (simp; done) | (simp [*]; done), by repeat (first | exact Drawn0.refl _ | apply Drawn0.step)⟩
  · rw [if_neg c3] at H
    have c3b0 : ((l0.length : Int) == (l1.length : Int)) = false := beq_eq_false_iff_ne.mpr c3
    have c3b1 : ((l0.length : Int) != (l1.length : Int)) = true := bne_iff_ne.mpr c3
    have c3b2 : (l0.length == l1.length) = false := by first | simpa using c3 | (simp at c3 ⊢; omega)
    obtain rfl := Option.some.inj H
    go_enter Try.func78, Try.ntmps78
    go_wp2
    repeat (go_quiet (fail); try go_wp2)
    go_ret
    exact ⟨by first | rfl | (simp; done) | (simp [*]; done), by repeat (first | exact Drawn0.refl _ | apply Drawn0.step)⟩
end Go.Proofs.Ytemhalnhbgkbcaa.V
end

-- VFSlicesEqualUint8Uint8
section
-- PRINTED by print.py (a twelfth state) out of the translation. Not trusted: Lean checks it.
namespace Go.Proofs.Ytemhalnhbgkbcaa.V
open Go.RowKit Go.Proofs.YtemhalnhbgkbcaaW.PrintWords Go.Proofs.YtemhalnhbgkbcaaW.PrintLast Go.Proofs.YtemhalnhbgkbcaaW.PrintMore
attribute [local go_sem] max2_int min2_int max_two min_two max_three min_three max_four min_four   -- for this text's walks alone
set_option linter.unusedVariables false
set_option linter.unusedSimpArgs false

/-! ### slices_Equal_uint8_uint8: function 77 -/
def slices_Equal_uint8_uint8.l0 : Nat → List Int → List Int → Int → Int → Option (Bool)
  | 0, _, _, _, _ => none
  | k + 1, x0, x1, x12, x13 => if x13 < x12 then (if 0 ≤ x13 then (if x13 < (x0.length : Int) then (if x13 < (x1.length : Int) then (if (rd x0 x13) = (rd x1 x13) then (slices_Equal_uint8_uint8.l0 k x0 x1 x12 (wrap64 (x13 + 1))) else (some false)) else (none)) else (none)) else (none)) else (some true)
def slices_Equal_uint8_uint8.f (k : Nat) (l0 : List Int) (l1 : List Int) : Option (Bool) := if (l0.length : Int) = (l1.length : Int) then (slices_Equal_uint8_uint8.l0 k l0 l1 (l0.length : Int) 0) else (some false)
theorem slices_Equal_uint8_uint8.mono_l : ∀ k, (∀ y0 y1 y2 y3, LeO (slices_Equal_uint8_uint8.l0 k y0 y1 y2 y3) (slices_Equal_uint8_uint8.l0 (k + 1) y0 y1 y2 y3))
  | 0 => fun _ _ _ _ r h => by simp [slices_Equal_uint8_uint8.l0] at h
  | k + 1 => by
    have ih0 := slices_Equal_uint8_uint8.mono_l k
    · intro y0 y1 y2 y3
      unfold slices_Equal_uint8_uint8.l0
      repeat' first
      | (with_reducible exact ih0 _ _ _ _)
      | (with_reducible exact LeO.refl _)
      | (with_reducible exact LeO.none _)
      | (with_reducible refine LeO.ite ?_ ?_)
      | (with_reducible refine LeO.bind ?_ (fun _ => ?_))
      | exact ih0 _ _ _ _
      | exact LeO.none _
      | refine LeO.ite ?_ ?_
      | refine LeO.bind ?_ (fun _ => ?_)
theorem slices_Equal_uint8_uint8.mono : ∀ a0 a1 k, LeO (slices_Equal_uint8_uint8.f k a0 a1) (slices_Equal_uint8_uint8.f (k + 1) a0 a1) := by
  intro a0 a1 k
  have ih0 := slices_Equal_uint8_uint8.mono_l k
  unfold slices_Equal_uint8_uint8.f
  repeat' first
      | (with_reducible exact ih0 _ _ _ _)
      | (with_reducible exact LeO.refl _)
      | (with_reducible exact LeO.none _)
      | (with_reducible refine LeO.ite ?_ ?_)
      | (with_reducible refine LeO.bind ?_ (fun _ => ?_))
      | exact ih0 _ _ _ _
      | exact LeO.none _
      | refine LeO.ite ?_ ?_
      | refine LeO.bind ?_ (fun _ => ?_)
set_option maxHeartbeats 8000000 in
set_option maxRecDepth 100000 in
theorem slices_Equal_uint8_uint8.calls (k : Nat) (A0 : Option Addr) (c0 : Nat) (l0 : List Int) (A1 : Option Addr) (c1 : Nat) (l1 : List Int) (r : Bool) (w : World) (hr0 : Kd.C (Kd.int .u8) w A0 l0.length l0) (hc0 : l0.length ≤ c0) (hr1 : Kd.C (Kd.int .u8) w A1 l1.length l1) (hc1 : l1.length ≤ c1) (h : slices_Equal_uint8_uint8.f k l0 l1 = some r) :
    Calls Try.prog 77 #[.slice A0 l0.length c0, .slice A1 l1.length c1] w fun e w' => e = .returned (.bool r) ∧ Drawn0 w w' := by
  have HR0 := Aside0.mk hr0
  have HC0 := Aside0.mk hc0
  clear hr0 hc0
  have HR1 := Aside0.mk hr1
  have HC1 := Aside0.mk hc1
  clear hr1 hc1
  have H : (if (l0.length : Int) = (l1.length : Int) then (slices_Equal_uint8_uint8.l0 k l0 l1 (l0.length : Int) 0) else (some false)) = some r := h
  clear h
  by_cases c3 : (l0.length : Int) = (l1.length : Int)
  · rw [if_pos c3] at H
    have c3b0 : ((l0.length : Int) == (l1.length : Int)) = true := beq_iff_eq.mpr c3
    have c3b1 : ((l0.length : Int) != (l1.length : Int)) = false := bne_eq_false_iff_eq.mpr c3
    have c3b2 : (l0.length == l1.length) = true := by first | simpa using c3 | (simp at c3 ⊢; omega)
    clear c3
    have H' := Aside0.mk H
    clear H
    go_enter Try.func77, Try.ntmps77
    go_wp2
    repeat (go_quiet (fail); try go_wp2)
    go_loopg [13] k (fun kq v13 w' => ∃ (x13_1 : Int), v13 = .int .i64 x13_1 ∧ Aside0 (slices_Equal_uint8_uint8.l0 kq l0 l1 (l0.length : Int) x13_1 = some r) ∧ Aside0 (kq ≤ k) ∧ Drawn0 w w')
    case atStart => exact ⟨(0), (by first | rfl | (simp; done) | (simp [*]; done)), H', ⟨Nat.le_refl _⟩, by repeat (first | exact Drawn0.refl _ | apply Drawn0.step)⟩
    case round =>
      clear H'
      try clear c1
      try clear p2
      try clear c3
      try clear c3b0
      try clear c3b1
      try clear c3b2
      obtain ⟨x13_1, rfl, HA, HK1, ⟨m1, rfl⟩⟩ := hrel
      cases gk with
      | zero => exact absurd HA.out (by simp [slices_Equal_uint8_uint8.l0])
      | succ k1 =>
        have H := HA.out
        clear HA
        simp only [slices_Equal_uint8_uint8.l0] at H
        by_cases c4 : x13_1 < (l0.length : Int)
        · rw [if_pos c4] at H
          have c4b0 : decide (x13_1 < (l0.length : Int)) = true := decide_eq_true c4
          clear c4
          by_cases c5 : 0 ≤ x13_1
          · rw [if_pos c5] at H
            have c5b0 : decide (0 ≤ x13_1) = true := decide_eq_true c5
            clear c5
            by_cases c6 : x13_1 < (l0.length : Int)
            · rw [if_pos c6] at H
              have c6b0 : decide (x13_1 < (l0.length : Int)) = true := decide_eq_true c6
              clear c6
              by_cases c7 : x13_1 < (l1.length : Int)
              · rw [if_pos c7] at H
                have c7b0 : decide (x13_1 < (l1.length : Int)) = true := decide_eq_true c7
                clear c7
                by_cases c8 : (rd l0 x13_1) = (rd l1 x13_1)
                · rw [if_pos c8] at H
                  have c8b0 : ((rd l0 x13_1) == (rd l1 x13_1)) = true := beq_iff_eq.mpr c8
                  have c8b1 : ((rd l0 x13_1) != (rd l1 x13_1)) = false := bne_eq_false_iff_eq.mpr c8
                  clear c8
                  have H' := Aside0.mk H
                  clear H
                  have p77101 : 0 ≤ (x13_1 : Int) := of_decide_eq_true (by first | (with_reducible assumption) | assumption)
                  have q77101 : x13_1 < (l0.length : Int) := of_decide_eq_true (by first | (with_reducible assumption) | assumption)
                  obtain ⟨ad77101, e77101, hx77101_0⟩ := Kd.at_int HR0.out x13_1 p77101 q77101
                  cases e77101
                  replace p77101 := eq_true p77101
                  replace q77101 := eq_true q77101
                  have p77102 : 0 ≤ (x13_1 : Int) := of_decide_eq_true (by first | (with_reducible assumption) | assumption)
                  have q77102 : x13_1 < (l1.length : Int) := of_decide_eq_true (by first | (with_reducible assumption) | assumption)
                  obtain ⟨ad77102, e77102, hx77102_0⟩ := Kd.at_int HR1.out x13_1 p77102 q77102
                  cases e77102
                  replace p77102 := eq_true p77102
                  replace q77102 := eq_true q77102
                  go_wp2
                  repeat (go_quiet (fail); try go_wp2)
                  go_roundg k1
                  case measure => have := HK1.out; omega
                  case rel => exact ⟨(wrap64 (x13_1 + 1)), (by first | rfl | (simp; done) | (simp [*]; done)), H', ⟨by have := HK1.out; omega⟩, by repeat (first | exact Drawn0.refl _ | apply Drawn0.step)⟩
                · rw [if_neg c8] at H
                  have c8b0 : ((rd l0 x13_1) == (rd l1 x13_1)) = false := beq_eq_false_iff_ne.mpr c8
                  have c8b1 : ((rd l0 x13_1) != (rd l1 x13_1)) = true := bne_iff_ne.mpr c8
                  obtain rfl := Option.some.inj H
                  have p77101 : 0 ≤ (x13_1 : Int) := of_decide_eq_true (by first | (with_reducible assumption) | assumption)
                  have q77101 : x13_1 < (l0.length : Int) := of_decide_eq_true (by first | (with_reducible assumption) | assumption)
                  obtain ⟨ad77101, e77101, hx77101_0⟩ := Kd.at_int HR0.out x13_1 p77101 q77101
                  cases e77101
                  replace p77101 := eq_true p77101
                  replace q77101 := eq_true q77101
                  have p77102 : 0 ≤ (x13_1 : Int) := of_decide_eq_true (by first | (with_reducible assumption) | assumption)
                  have q77102 : x13_1 < (l1.length : Int) := of_decide_eq_true (by first | (with_reducible assumption) | assumption)
                  obtain ⟨ad77102, e77102, hx77102_0⟩ := Kd.at_int HR1.out x13_1 p77102 q77102
                  cases e77102
                  replace p77102 := eq_true p77102
                  replace q77102 := eq_true q77102
                  go_wp2
                  repeat (go_quiet (fail); try go_wp2)
                  go_ret
                  exact ⟨by first | rfl | (simp; done) | (simp [*]; done), by repeat (first | exact Drawn0.refl _ | apply Drawn0.step)⟩
              · rw [if_neg c7] at H
                exact absurd H (by simp)
            · rw [if_neg c6] at H
              exact absurd H (by simp)
          · rw [if_neg c5] at H
            exact absurd H (by simp)
        · rw [if_neg c4] at H
          have c4b0 : decide (x13_1 < (l0.length : Int)) = false := decide_eq_false c4
          clear c4
          obtain rfl := Option.some.inj H
          go_wp2
          repeat (go_quiet (fail); try go_wp2)
          go_ret
          exact ⟨by first | rfl | (simp; done) | (simp [*]; done), by repeat (first | exact Drawn0.refl _ | apply Drawn0.step)⟩
  · rw [if_neg c3] at H
    have c3b0 : ((l0.length : Int) == (l1.length : Int)) = false := beq_eq_false_iff_ne.mpr c3
    have c3b1 : ((l0.length : Int) != (l1.length : Int)) = true := bne_iff_ne.mpr c3
    have c3b2 : (l0.length == l1.length) = false := by first | simpa using c3 | (simp at c3 ⊢; omega)
    obtain rfl := Option.some.inj H
    go_enter Try.func77, Try.ntmps77
    go_wp2
    repeat (go_quiet (fail); try go_wp2)
    go_ret
    exact ⟨by first | rfl | (simp; done) | (simp [*]; done), by repeat (first | exact Drawn0.refl _ | apply Drawn0.step)⟩
end Go.Proofs.Ytemhalnhbgkbcaa.V
end

-- BSame
section
/- block.Same of equal blocks. -/
namespace Go.Proofs.Ytemhalnhbgkbcaa.V
open Go.RowKit Go.Proofs.YtemhalnhbgkbcaaW.PrintWords Go.Proofs.YtemhalnhbgkbcaaW.PrintLast Go.Proofs.YtemhalnhbgkbcaaW.PrintMore
set_option linter.unusedVariables false
set_option linter.unusedSimpArgs false

theorem eq8_f (l : List Int) (hl : l.length ≤ 1000) : slices_Equal_uint8_uint8.f (l.length + 5) l l = some true := by
  have key : ∀ (d i k : Nat), i + d = l.length → d < k → slices_Equal_uint8_uint8.l0 k l l (l.length : Int) (i : Int) = some true := by
    intro d
    induction d with
    | zero =>
      intro i k hi hk
      obtain ⟨k, rfl⟩ : ∃ m, k = m + 1 := ⟨k - 1, by omega⟩
      rw [slices_Equal_uint8_uint8.l0, if_neg (by omega)]
    | succ d ih =>
      intro i k hi hk
      obtain ⟨k, rfl⟩ : ∃ m, k = m + 1 := ⟨k - 1, by omega⟩
      have e := ih (i + 1) k (by omega) (by omega)
      rw [slices_Equal_uint8_uint8.l0]
      simp only [show (i : Int) < (l.length : Int) by omega, show (0 : Int) ≤ (i : Int) by omega, if_true]
      rw [wrap64_id ((i : Int) + 1) (by omega) (by omega), show (i : Int) + 1 = ((i + 1 : Nat) : Int) by omega]
      simpa using e
  unfold slices_Equal_uint8_uint8.f
  rw [if_pos rfl]
  exact key l.length 0 _ (by omega) (by omega)
theorem eqA_f (l : List At) (hl : l.length ≤ 1000) : block_Attr_78.f (l.length + 5) l l = some true := by
  have key : ∀ (d i k : Nat), i + d = l.length → d < k → block_Attr_78.l0 k l l (l.length : Int) (i : Int) = some true := by
    intro d
    induction d with
    | zero =>
      intro i k hi hk
      obtain ⟨k, rfl⟩ : ∃ m, k = m + 1 := ⟨k - 1, by omega⟩
      rw [block_Attr_78.l0, if_neg (by omega)]
    | succ d ih =>
      intro i k hi hk
      obtain ⟨k, rfl⟩ : ∃ m, k = m + 1 := ⟨k - 1, by omega⟩
      have e := ih (i + 1) k (by omega) (by omega)
      rw [block_Attr_78.l0]
      simp only [show (i : Int) < (l.length : Int) by omega, show (0 : Int) ≤ (i : Int) by omega, if_true]
      rw [wrap64_id ((i : Int) + 1) (by omega) (by omega), show (i : Int) + 1 = ((i + 1 : Nat) : Int) by omega]
      simpa using e
  unfold block_Attr_78.f
  rw [if_pos rfl]
  exact key l.length 0 _ (by omega) (by omega)
set_option maxHeartbeats 4000000 in
set_option maxRecDepth 100000 in
theorem same_any (b : Bk) (hfl : b.free.length ≤ 1000) (hal : b.attrs.length ≤ 1000) (v v' : Value) (w : World) (h : BkV w v b) (h' : BkV w v' b) :
    Calls Try.prog 40 #[v, v'] w fun e w' => e = .returned (.bool true) ∧ Below w.heap.size w w' := by
  obtain ⟨A, c, A', c', rfl, hr⟩ := h
  obtain ⟨B, d, B', d', rfl, hq⟩ := h'
  have HL := Aside0.mk hr.l64
  have HR := Aside0.mk hr
  have HQ := Aside0.mk hq
  have HE8 := Aside0.mk (eq8_f b.free hfl)
  have HEA := Aside0.mk (eqA_f b.attrs hal)
  have HLN := Aside0.mk (show (Try.prog.info? 47).map (·.size) = some (b.slots.map (Value.int .u8)).length by rw [List.length_map, hr.l64]; kernel_rfl)
  have hEq := fun (d : Nat) (w : World) => run_equalIn_ints (P := Try.prog) w .u8 d 47 5 64 Try.underlying47 Try.underlying5 size5 b.slots b.slots hr.l64 hr.l64
  simp only [beq_self_eq_true] at hEq
  clear hr hq hfl hal
  go_enter Try.func40, Try.ntmps40
  go_wp2_with (first
    | (refine step_box rfl 57 (.tmp 0) rfl _ rfl ?_; intro g W1 hg hbx hb1; have HX1 := Aside0.mk hbx; have HB1 := Aside0.mk hb1; clear hbx hb1 hg)
    | (refine step_box rfl 57 (.tmp 1) rfl _ rfl ?_; intro g' W2 hg' hbx' hb2; have HX2 := Aside0.mk (HX1.out.below hb2); have HY2 := Aside0.mk hbx'; have HB2 := Aside0.mk (HB1.out.trans (hb2.mono HB1.out.size)); have h0 := HX2.out.cell 0 _ rfl; have h0' := HY2.out.cell 0 _ rfl; have h1 := HX2.out.cell 1 _ rfl; have h1' := HY2.out.cell 1 _ rfl; have h66 := HX2.out.cell 66 _ (bkL_66 _ _ _ _ _ HL.out); have h66' := HY2.out.cell 66 _ (bkL_66 _ _ _ _ _ HL.out); clear hbx' hb2 hg' HX1 HB1)
    | ((with_reducible refine gate_dst (N := 19) rfl ?_); refine gate_guard (by rfl) ?_; refine step_loadPart rfl 47 (.tmp 18) rfl g 2 rfl 57 _ (b.slots.map (Value.int .u8)) (.array 64 5) HX2.out (bkL_part _ _ _ _ _ HL.out) Try.underlying47 rfl HLN.out ?_)
    | ((with_reducible refine gate_dst (N := 21) rfl ?_); refine gate_guard (by rfl) ?_; refine step_loadPart rfl 47 (.tmp 20) rfl g' 2 rfl 57 _ (b.slots.map (Value.int .u8)) (.array 64 5) HY2.out (bkL_part _ _ _ _ _ HL.out) Try.underlying47 rfl HLN.out ?_)
    | (go_at_call 77; refine (slices_Equal_uint8_uint8.calls _ A c b.free B d b.free true _ (HR.out.below HB2.out).fr HR.out.fc (HQ.out.below HB2.out).fr HQ.out.fc HE8.out).mono ?_; rintro e W3 ⟨rfl, ⟨n3, rfl⟩⟩; have h67 := (HX2.out.below (pw_below_drewN (Below.refl _ _) n3)).cell 67 _ (bkL_67 _ _ _ _ _ HL.out); have h67' := (HY2.out.below (pw_below_drewN (Below.refl _ _) n3)).cell 67 _ (bkL_67 _ _ _ _ _ HL.out); have HB3 := Aside0.mk (pw_below_drewN HB2.out n3))
    | (go_at_call 78; refine (block_Attr_78.calls _ A' c' b.attrs B' d' b.attrs true _ (HR.out.below HB3.out).ar HR.out.ac (HQ.out.below HB3.out).ar HQ.out.ac HEA.out).mono ?_; rintro e W4 ⟨rfl, ⟨n4, rfl⟩⟩; have HB4 := Aside0.mk (pw_below_drewN HB3.out n4)))
  go_ret
  exact ⟨rfl, by apply pw_below_drewN; exact HB2.out⟩
end Go.Proofs.Ytemhalnhbgkbcaa.V
end

-- BPlain
section
/- virgatelaw15.Plain: a block as the document's. -/
namespace Go.Proofs.Ytemhalnhbgkbcaa.V
open Go.RowKit Go.Proofs.YtemhalnhbgkbcaaW.PrintWords Go.Proofs.YtemhalnhbgkbcaaW.PrintLast Go.Proofs.YtemhalnhbgkbcaaW.PrintMore
set_option linter.unusedVariables false
set_option linter.unusedSimpArgs false

def vc (a : At) : S76 := ⟨a.f0, a.f1⟩
def zero5 : List Value := [.int .u32 0, .string ⟨#[]⟩, .slice none 0 0, .slice none 0 0, .slice none 0 0]
theorem info_i : (Try.prog.info? 3).map (fun i => (i.zero, i.size, i.bytes)) = some (some (.int .i64 0), 1, 8) := by kernel_rfl
theorem info_rat : (Try.prog.info? 76).map (fun i => (i.zero, i.size, i.bytes)) = some (some (.agg #[.string ⟨#[]⟩, .string ⟨#[]⟩]), 2, 32) := by kernel_rfl
theorem built5 (x : Int) (s : ByteArray) : Try.prog.built 62 [(0, .int .u32 x), (1, .string s)] = some [Value.int .u32 x, .string s, .slice none 0 0, .slice none 0 0, .slice none 0 0].toArray := by kernel_rfl
/-- A row that lies under b1 stays where one from b1 on is written. -/
theorem R_under {α β : Type} {d : Kd α} {d' : Kd β} {e e' b1 base : Nat} {W w1 : World} {ok ok' : Nat → Prop} {u v : Value} {xs : List α} {ys : List β} (h : d.R e W base ok u xs) (ho : ∀ k, ok k → k < b1) (hv : d'.R e' W b1 ok' v ys) (hg : W.grownBy w1 v.ownBlock) : d.R e w1 base ok u xs :=
  Kd.R_grown h hg (fun k hk he => by have := ho k hk; have := Kd.R_base hv k he.symm; omega)
set_option maxHeartbeats 8000000 in
set_option maxRecDepth 100000 in
theorem plain_any (b : Bk) (hk : BkOk b) (hfl : b.free.length ≤ 1000) (hal : b.attrs.length ≤ 1000) (v : Value) (w : World) (h : BkV w v b) :
    Calls Try.prog 36 #[v] w fun e w' => ∃ vs vf va, e = .returned (.agg #[.int .u32 b.addr, .string b.aff, vs, vf, va]) ∧ Kd.R (Kd.int .i64) 3 w' w.heap.size (fun _ => True) vs b.slots ∧ Kd.R (Kd.int .i64) 3 w' w.heap.size (fun _ => True) vf b.free ∧ Kd.R k76 76 w' w.heap.size (fun _ => True) va (b.attrs.map vc) ∧ Below w.heap.size w w' := by
  obtain ⟨A, c, A', c', rfl, hr⟩ := h
  have HL := Aside0.mk hr.l64
  have HR := Aside0.mk hr
  have HK := Aside0.mk hk
  have hnf : b.free.length ≤ 9223372036854775807 := hr.fr.2.1
  have hna : b.attrs.length ≤ 9223372036854775807 := hr.ar.2.1
  have HLN := Aside0.mk (show (Try.prog.info? 47).map (·.size) = some (b.slots.map (Value.int .u8)).length by rw [List.length_map, hr.l64]; kernel_rfl)
  have HBT := Aside0.mk (built5 b.addr b.aff)
  clear hr hk
  go_enter Try.func36, Try.ntmps36
  go_wp2_with (first
    | (refine step_box rfl 57 (.tmp 0) rfl _ rfl ?_; intro g W1 hg hbx hb1; have HX1 := Aside0.mk hbx; have HB1 := Aside0.mk hb1; clear hbx hb1 hg)
    | (refine step_allocN (some 2) rfl rfl 62 rfl zero5 (fun _ => by kernel_rfl) ?_; intro g2 W2 hg2 hbx2 hb2; have HX2 := Aside0.mk (HX1.out.below hb2); have HY2 := Aside0.mk hbx2; have HB2 := Aside0.mk (HB1.out.trans (hb2.mono HB1.out.size)); have HG2 := Aside0.mk (show w.heap.size ≤ g2 by have := HB1.out.size; omega); have HN12 := Aside0.mk (show g ≠ g2 by have := HX1.out.lt; omega); have h0 := HX2.out.cell 0 _ rfl; have h1 := HX2.out.cell 1 _ rfl; clear hbx2 hb2 hg2 HX1 HB1)
    | ((with_reducible refine gate_dst (N := 14) rfl ?_); refine step_buildV rfl 62 #[(0, .tmp 11), (1, .tmp 13)] rfl [(0, .int .u32 b.addr), (1, .string b.aff)] (by simp only [List.map_toArray, List.map_cons, List.map_nil]; rfl) [Value.int .u32 b.addr, .string b.aff, .slice none 0 0, .slice none 0 0, .slice none 0 0] HBT.out ?_)
    | (refine step_allocN (some 3) rfl rfl 62 rfl zero5 (fun _ => by kernel_rfl) ?_; intro g3 W3 hg3 hbx3 hb3; have HX3 := Aside0.mk (HX2.out.below hb3); have HY3 := Aside0.mk (HY2.out.below hb3); have HZ3 := Aside0.mk hbx3; have HB3 := Aside0.mk (HB2.out.trans (hb3.mono HB2.out.size)); have HG3 := Aside0.mk (show w.heap.size ≤ g3 by have := HB2.out.size; omega); have HN13 := Aside0.mk (show g ≠ g3 by have := HX2.out.lt; omega); have HN23 := Aside0.mk (show g2 ≠ g3 by have := HY2.out.lt; omega); clear hbx3 hb3 hg3 HX2 HY2 HB2 h0 h1)
    | (refine step_store rfl 62 (.tmp 3) (.tmp 14) rfl g3 [Value.int .u32 b.addr, .string b.aff, .slice none 0 0, .slice none 0 0, .slice none 0 0] rfl rfl 62 _ HZ3.out 5 (by kernel_rfl) rfl rfl (by intro u hu; simp at hu; rcases hu with rfl | rfl | rfl | rfl | rfl <;> rfl) ?_; intro W4 hz4 hg4; have HZ4 := Aside0.mk hz4; have HX4 := Aside0.mk (HX3.out.grown hg4 (fun e => HN13.out (Option.some.inj e))); have HY4 := Aside0.mk (HY3.out.grown hg4 (fun e => HN23.out (Option.some.inj e))); have HB4 := Aside0.mk (HB3.out.grown hg4 HB3.out.size (by intro k hk; cases hk; exact HG3.out)); clear hz4 hg4 HX3 HY3 HZ3 HB3)
    | (refine step_loadPart rfl 47 (.tmp 15) rfl g 2 rfl 57 _ (b.slots.map (Value.int .u8)) (.array 64 5) HX4.out (bkL_part _ _ _ _ _ HL.out) Try.underlying47 rfl HLN.out ?_))
  go_loopw [5, 17] (fun _ i W => ∃ k : Nat, k ≤ 64 ∧ i = .int .i64 k ∧ ∃ vs, Aside0 (Box W g3 [.int .u32 b.addr, .string b.aff, vs, .slice none 0 0, .slice none 0 0] 62) ∧ Aside0 (Kd.R (Kd.int .i64) 3 W w.heap.size (fun _ => True) vs (b.slots.take k)) ∧ Aside0 (Box W g2 zero5 62) ∧ Aside0 (Box W g (bkL b.addr b.aff b.slots (.slice A b.free.length c) (.slice A' b.attrs.length c')) 57) ∧ Aside0 (Below w.heap.size w W)) (fun _ i _ => 64 - (intOf i).toNat)
  case atStart => exact ⟨0, by omega, rfl, _, HZ4, ⟨Kd.R_nil _ _ _ _ _⟩, HY4, HX4, HB4⟩
  case round =>
    clear HZ4 HY4 HX4 HB4
    obtain ⟨k, hk, rfl, vs, HZ, HS, HY, HX, HB⟩ := hrel
    obtain ⟨W, rfl⟩ : ∃ W : World, W = wr := ⟨_, rfl⟩
    by_cases hk2 : k < 64
    · have hkb : decide ((k : Int) < 64) = true := by simp; omega
      have hkl : k < b.slots.length := by have := HL.out; omega
      obtain ⟨m, hm⟩ : ∃ m : Nat, rd b.slots k = (m : Int) := ⟨(rd b.slots k).toNat, by have := (U8s_rd HK.out.s8 k).1; omega⟩
      have hm2 : m < 256 := by have := (U8s_rd HK.out.s8 k).2; omega
      have hix := fun w => index47 b.slots HL.out k hk2 w
      have hg0 : b.slots.getD k 0 = (m : Int) := by rw [← hm]; simp [rd]
      rw [hg0] at hix
      obtain ⟨L, hL⟩ : ∃ L : List Int, L = b.slots.take (k + 1) := ⟨_, rfl⟩
      have HLq := Aside0.mk hL
      have HT := Aside0.mk (show L = b.slots.take k ++ [(m : Int)] by rw [hL, List.take_add_one, List.getElem?_eq_getElem hkl, ← hg0]; simp [List.getD, hkl])
      clear hL hm hg0
      have hlen : (b.slots.take k).length ≤ 64 := by simp; omega
      have hc2 := HZ.out.cell 2 _ rfl
      go_wp2_with (first | ((with_reducible refine gate_builtin (b := .append) (xs := #[.tmp 21, .tmp 24]) rfl ?_); at_builtin; refine Kd.R_append (Kd.int .i64) (w0 := w) w.heap.size rfl (.tmp 21) (.tmp 24) 31 3 (.int .i64 0) 8 rfl Try.underlying31 info_i rfl (by decide) (by omega) vs (b.slots.take k) (m : Int) [.int .i64 (m : Int)] (fun _ => True) (fun _ => False) rfl rfl rfl (fun _ hk => hk.elim) (fun _ _ => trivial) HS.out HB.out HB.out.size (by omega) ?_; intro v1 w1 ho1 hb1 hg1 hat1; have HZ1 := Aside0.mk (HZ.out.grown hg1 (HZ.out.ne_row HS.out (by decide))); have HX1 := Aside0.mk (HX.out.grown hg1 (HX.out.ne_row HS.out (by decide))); have HY1 := Aside0.mk (HY.out.grown hg1 (HY.out.ne_row HS.out (by decide))); rw [← HT.out] at ho1; have HS1 := Aside0.mk ho1; have HB1 := Aside0.mk hb1; obtain ⟨A1, c1, rfl⟩ := Kd.R_slice ho1; have hc1 := HZ1.out.cell 2 _ rfl; have hf1 := HZ1.out.frozen 2; clear ho1 hb1 hg1 hat1 hc2 HZ HX HY HS HB))
      have HZ2 := Aside0.mk (show Box (w1.setCell ⟨g3, 2, none⟩ (.slice A1 L.length c1)) g3 [.int .u32 b.addr, .string b.aff, .slice A1 L.length c1, .slice none 0 0, .slice none 0 0] 62 from HZ1.out.set 2 (.slice A1 L.length c1))
      go_roundw
      case rel => exact ⟨k + 1, by omega, by go_num, _, HZ2, ⟨by rw [← HLq.out]; exact R_box_grown HS1.out HZ1.out (by decide) (setCell_grown _ _ _ _)⟩, ⟨HY1.out.far (p := ⟨g3, 2, none⟩) HN23.out _⟩, ⟨HX1.out.far (p := ⟨g3, 2, none⟩) HN13.out _⟩, ⟨Below.setCell HB1.out (p := ⟨g3, 2, none⟩) HG3.out _⟩⟩
      case measure => simp [intOf]; omega
    · obtain rfl : k = 64 := by omega
      rw [show ((64 : Nat) : Int) = (64 : Int) from rfl]
      have hkb : decide ((64 : Int) < 64) = false := by decide
      rw [show b.slots.take 64 = b.slots from List.take_of_length_le (by have := HL.out; omega)] at HS
      have h66 := HX.out.cell 66 _ (bkL_66 _ _ _ _ _ HL.out)
      obtain ⟨As, cs, rfl⟩ := Kd.R_slice HS.out
      have HS' := Aside0.mk (Kd.R_mono (ok' := fun k => k < W.heap.size) (Kd.R_bound HS.out) (fun k hk => hk.2.2.1))
      have HSZ := Aside0.mk (Nat.le_refl W.heap.size)
      have HB0 := HB.out.size
      obtain ⟨b1, hb1⟩ : ∃ b1, b1 = W.heap.size := ⟨_, rfl⟩
      rw [← hb1] at HS' HB0
      have HSZ := Aside0.mk (show b1 ≤ W.heap.size by omega)
      have HWB := Aside0.mk HB0
      have HRF := Aside0.mk (HR.out.below HB.out)
      clear HS hb1 HB0
      go_wp2_with fail
      clear h66
      go_loopw [7, 31] (fun _ i V => ∃ k : Nat, k ≤ b.free.length ∧ i = .int .i64 k ∧ ∃ vf, Aside0 (Box V g3 [.int .u32 b.addr, .string b.aff, .slice As b.slots.length cs, vf, .slice none 0 0] 62) ∧ Aside0 (Kd.R (Kd.int .i64) 3 V w.heap.size (fun k => k < b1) (.slice As b.slots.length cs) b.slots) ∧ Aside0 (Kd.R (Kd.int .i64) 3 V b1 (fun _ => True) vf (b.free.take k)) ∧ Aside0 (Box V g2 zero5 62) ∧ Aside0 (Box V g (bkL b.addr b.aff b.slots (.slice A b.free.length c) (.slice A' b.attrs.length c')) 57) ∧ Aside0 (b1 ≤ V.heap.size) ∧ Aside0 (Below w.heap.size w V)) (fun _ i _ => b.free.length - (intOf i).toNat)
      case atStart => exact ⟨0, by omega, rfl, _, HZ, HS', ⟨Kd.R_nil _ _ _ _ _⟩, HY, HX, HSZ, HB⟩
      case round =>
        clear HZ HS' HY HX HSZ HB HRF
        obtain ⟨k, hk, rfl, vf, HZ, HS, HF, HY, HX, HSZ, HB⟩ := hrel
        obtain ⟨V, rfl⟩ : ∃ V : World, V = wr := ⟨_, rfl⟩
        by_cases hkn : k < b.free.length
        · have hkb : decide ((k : Int) < (b.free.length : Int)) = true := by simp; omega
          obtain ⟨ad, eA, hx⟩ := Kd.at_int (HR.out.below HB.out).fr k (by omega) (by omega)
          cases eA
          rw [Int.toNat_natCast] at hx
          have p1 : ((k : Int) < (b.free.length : Int)) = True := eq_true (by omega)
          obtain ⟨m, hm⟩ : ∃ m : Nat, rd b.free k = (m : Int) := ⟨(rd b.free k).toNat, by have := (U8s_rd HK.out.f8 k).1; omega⟩
          have hm2 : m < 256 := by have := (U8s_rd HK.out.f8 k).2; omega
          rw [hm] at hx
          obtain ⟨L, hL⟩ : ∃ L : List Int, L = b.free.take (k + 1) := ⟨_, rfl⟩
          have HLq := Aside0.mk hL
          have HT := Aside0.mk (show L = b.free.take k ++ [(m : Int)] by rw [hL, List.take_add_one, List.getElem?_eq_getElem hkn, ← hm]; simp [rd, List.getD, hkn])
          clear hL hm
          have hlen : (b.free.take k).length ≤ k := by simp; omega
          have hc3 := HZ.out.cell 3 _ rfl
          go_wp2_with (first | ((with_reducible refine gate_builtin (b := .append) (xs := #[.tmp 36, .tmp 39]) rfl ?_); at_builtin; refine Kd.R_append (Kd.int .i64) (w0 := V) b1 rfl (.tmp 36) (.tmp 39) 31 3 (.int .i64 0) 8 rfl Try.underlying31 info_i rfl (by decide) (by omega) vf (b.free.take k) (m : Int) [.int .i64 (m : Int)] (fun _ => True) (fun _ => False) rfl rfl rfl (fun _ hk => hk.elim) (fun _ _ => trivial) HF.out (Below.refl _ _) HSZ.out (by omega) ?_; intro v1 w1 ho1 hb1 hg1 hat1; have HZ1 := Aside0.mk (HZ.out.grown hg1 (HZ.out.ne_row HF.out (by decide))); have HX1 := Aside0.mk (HX.out.grown hg1 (HX.out.ne_row HF.out (by decide))); have HY1 := Aside0.mk (HY.out.grown hg1 (HY.out.ne_row HF.out (by decide))); have HS1 := Aside0.mk (R_under HS.out (fun _ h => h) HF.out hg1); rw [← HT.out] at ho1; have HF1 := Aside0.mk ho1; have HB1 := Aside0.mk (HB.out.trans (hb1.mono HWB.out)); have HSZ1 := Aside0.mk (Nat.le_trans HSZ.out hb1.size); obtain ⟨A1, c1, rfl⟩ := Kd.R_slice ho1; have hc1 := HZ1.out.cell 3 _ rfl; have hf1 := HZ1.out.frozen 3; clear ho1 hb1 hg1 hat1 hc3 HZ HX HY HS HF HB HSZ hx))
          have HZ2 := Aside0.mk (show Box (w1.setCell ⟨g3, 3, none⟩ (.slice A1 L.length c1)) g3 [.int .u32 b.addr, .string b.aff, .slice As b.slots.length cs, .slice A1 L.length c1, .slice none 0 0] 62 from HZ1.out.set 3 (.slice A1 L.length c1))
          have HBS := Aside0.mk (Below.setCell HB1.out (p := ⟨g3, 3, none⟩) HG3.out (.slice A1 L.length c1))
          have hgS := setCell_grown w1 g3 3 (.slice A1 L.length c1)
          have HSZ2 := Aside0.mk (Nat.le_trans HSZ1.out hgS.size)
          have HS2 := Aside0.mk (R_box_grown HS1.out HZ1.out (by decide) hgS)
          have HF2 := Aside0.mk (R_box_grown HF1.out HZ1.out (by decide) hgS)
          clear hgS
          go_roundw
          case rel => exact ⟨k + 1, by omega, by go_num, _, HZ2, HS2, ⟨by rw [← HLq.out]; exact HF2.out⟩, ⟨HY1.out.far (p := ⟨g3, 3, none⟩) HN23.out _⟩, ⟨HX1.out.far (p := ⟨g3, 3, none⟩) HN13.out _⟩, HSZ2, HBS⟩
          case measure => simp [intOf]; omega
        · obtain rfl : k = b.free.length := by omega
          have hkb : decide ((b.free.length : Int) < (b.free.length : Int)) = false := by simp
          rw [List.take_of_length_le (Nat.le_refl b.free.length)] at HF
          have h67 := HX.out.cell 67 _ (bkL_67 _ _ _ _ _ HL.out)
          obtain ⟨Af, cf, rfl⟩ := Kd.R_slice HF.out
          have HF' := Aside0.mk (Kd.R_lower HF.out HWB.out)
          have HS' := Aside0.mk (Kd.R_mono (ok' := fun _ => True) HS.out (fun _ _ => trivial))
          clear HF HS HSZ
          go_wp2_with fail
          clear h67
          go_loopw [9, 46] (fun _ i U => ∃ k : Nat, k ≤ b.attrs.length ∧ i = .int .i64 k ∧ ∃ va, Aside0 (Box U g3 [.int .u32 b.addr, .string b.aff, .slice As b.slots.length cs, .slice Af b.free.length cf, va] 62) ∧ Aside0 (Kd.R (Kd.int .i64) 3 U w.heap.size (fun _ => True) (.slice As b.slots.length cs) b.slots) ∧ Aside0 (Kd.R (Kd.int .i64) 3 U w.heap.size (fun _ => True) (.slice Af b.free.length cf) b.free) ∧ Aside0 (Kd.R k76 76 U w.heap.size (fun _ => True) va ((b.attrs.take k).map vc)) ∧ Aside0 (Box U g2 zero5 62) ∧ Aside0 (Below w.heap.size w U)) (fun _ i _ => b.attrs.length - (intOf i).toNat)
          case atStart => exact ⟨0, by omega, rfl, _, HZ, HS', HF', ⟨Kd.R_nil _ _ _ _ _⟩, HY, HB⟩
          case round =>
            clear HZ HS' HF' HY HX HB
            obtain ⟨k, hk, rfl, va, HZ, HS, HF, HA, HY, HB⟩ := hrel
            obtain ⟨U, rfl⟩ : ∃ U : World, U = wr := ⟨_, rfl⟩
            by_cases hkn : k < b.attrs.length
            · have hkb : decide ((k : Int) < (b.attrs.length : Int)) = true := by simp; omega
              obtain ⟨ad, eA, hx0, hx1⟩ := at_T85 (HR.out.below HB.out).ar k (by omega) (by omega)
              cases eA
              rw [Int.toNat_natCast] at hx0 hx1
              have p1 : ((k : Int) < (b.attrs.length : Int)) = True := eq_true (by omega)
              obtain ⟨a, ha⟩ : ∃ a, rd_T85 b.attrs (k : Int) = a := ⟨_, rfl⟩
              rw [ha] at hx0 hx1
              have ha2 : b.attrs[k] = a := by rw [← ha]; simp [rd_T85, List.getD, hkn]
              obtain ⟨L, hL⟩ : ∃ L : List S76, L = (b.attrs.take (k + 1)).map vc := ⟨_, rfl⟩
              obtain ⟨M, hM⟩ : ∃ M : List S76, M = (b.attrs.take k).map vc := ⟨_, rfl⟩
              have HLq := Aside0.mk hL
              have HT := Aside0.mk (show L = M ++ [vc a] by rw [hL, hM, List.take_add_one, List.getElem?_eq_getElem hkn, ha2]; simp)
              have hml : M.length ≤ k := by rw [hM]; simp; omega
              rw [← hM] at HA
              clear hL hM ha ha2
              obtain ⟨Am, cm, rfl⟩ := Kd.R_slice HA.out
              go_wp2_with (first
                | (refine step_allocN (some 9) rfl rfl 85 rfl [.string ⟨#[]⟩, .string ⟨#[]⟩] (fun _ => by kernel_rfl) ?_; intro ga W3 hga HB3 hbw3)
                | (refine step_store rfl 85 (.tmp 9) (.tmp 49) rfl ga [.string a.f0, .string a.f1] rfl rfl 85 _ HB3 2 (by kernel_rfl) rfl rfl (by intro u hu; simp at hu; rcases hu with rfl | rfl <;> rfl) ?_; intro W4 HB4 hgw4; have HA4 := Aside0.mk HB4; have hbW : Below U.heap.size U W4 := hbw3.grown hgw4 hbw3.size (fun q hq => by cases hq; exact hga); have HB5 := Aside0.mk (below_step HB.out hbW); have HZ5 := Aside0.mk (HZ.out.below hbW); have HS5 := Aside0.mk (Kd.R_below HS.out hbW); have HF5 := Aside0.mk (Kd.R_below HF.out hbW); have HM5 := Aside0.mk (Kd.R_below HA.out hbW); have HY5 := Aside0.mk (HY.out.below hbW); have hc4 := HZ5.out.cell 4 _ rfl; have hy0 := HA4.out.cell 0 _ rfl; have hy1 := HA4.out.cell 1 _ rfl; clear HB3 HB4 hga hbw3 hgw4 hbW hx0 hx1 HA HZ HS HF HY HB)
                | ((with_reducible refine gate_builtin (b := .append) (xs := #[.tmp 51, .tmp 57]) rfl ?_); at_builtin; refine Kd.R_append k76 (w0 := w) w.heap.size rfl (.tmp 51) (.tmp 57) 49 76 (.agg #[.string ⟨#[]⟩, .string ⟨#[]⟩]) 32 rfl Try.underlying49 info_rat rfl (by decide) (by omega) _ M (vc a) [.string a.f0, .string a.f1] (fun _ => True) (fun _ => False) rfl rfl (k76_mkM _ _ _ _) (fun _ h => h.elim) (fun _ _ => trivial) HM5.out HB5.out HB5.out.size (by omega) ?_; intro v8 w8 ho8 hb8 hg8 hat8; rw [← HT.out] at ho8; have HZ8 := Aside0.mk (HZ5.out.grown hg8 (HZ5.out.ne_row HM5.out (by decide))); have HY8 := Aside0.mk (HY5.out.grown hg8 (HY5.out.ne_row HM5.out (by decide))); have HS8 := Aside0.mk (Kd.R_over HS5.out HM5.out (by decide) hg8); have HF8 := Aside0.mk (Kd.R_over HF5.out HM5.out (by decide) hg8); have HM8 := Aside0.mk ho8; have HB8 := Aside0.mk hb8; obtain ⟨A8, c8, rfl⟩ := Kd.R_slice ho8; have hc8 := HZ8.out.cell 4 _ rfl; have hf8 := HZ8.out.frozen 4; clear ho8 hb8 hg8 hat8 hc4 HZ5 HS5 HF5 HM5 HY5 HB5 hy0 hy1))
              have HZ9 := Aside0.mk (show Box (w8.setCell ⟨g3, 4, none⟩ (.slice A8 L.length c8)) g3 [.int .u32 b.addr, .string b.aff, .slice As b.slots.length cs, .slice Af b.free.length cf, .slice A8 L.length c8] 62 from HZ8.out.set 4 (.slice A8 L.length c8))
              go_roundw
              case rel => exact ⟨k + 1, by omega, by go_num, _, HZ9, ⟨R_box_grown HS8.out HZ8.out (by decide) (setCell_grown _ _ _ _)⟩, ⟨R_box_grown HF8.out HZ8.out (by decide) (setCell_grown _ _ _ _)⟩, ⟨by rw [← HLq.out]; exact R_box_grown HM8.out HZ8.out (by decide) (setCell_grown _ _ _ _)⟩, ⟨HY8.out.far (p := ⟨g3, 4, none⟩) HN23.out _⟩, ⟨Below.setCell HB8.out (p := ⟨g3, 4, none⟩) HG3.out _⟩⟩
              case measure => simp [intOf]; omega
            · obtain rfl : k = b.attrs.length := by omega
              have hkb : decide ((b.attrs.length : Int) < (b.attrs.length : Int)) = false := by simp
              rw [List.take_of_length_le (Nat.le_refl b.attrs.length)] at HA
              obtain ⟨LA, hLA⟩ : ∃ LA, LA = b.attrs.map vc := ⟨_, rfl⟩
              have HLA := Aside0.mk hLA
              rw [← hLA] at HA
              clear hLA
              obtain ⟨Aa, ca, rfl⟩ := Kd.R_slice HA.out
              go_wp2_with (first
                | (refine step_load rfl 62 (.tmp 3) rfl g3 rfl _ _ _ HZ.out Try.underlying62 rfl 5 (by kernel_rfl) rfl ?_)
                | (refine step_store rfl 62 (.tmp 2) (.tmp 61) rfl g2 [.int .u32 b.addr, .string b.aff, .slice As b.slots.length cs, .slice Af b.free.length cf, .slice Aa LA.length ca] rfl rfl 62 _ HY.out 5 (by kernel_rfl) rfl rfl (by intro u hu; simp at hu; rcases hu with rfl | rfl | rfl | rfl | rfl <;> rfl) ?_; intro W6 HB6 hg6))
              refine bodyPost_ret (results_cell_row rfl _ _ g2 62 _ (0, 0) _ rfl HB6 Try.underlying62 rfl (by kernel_rfl)) rfl ⟨_, _, _, rfl, R_box_grown HS.out HY.out (by decide) hg6, R_box_grown HF.out HY.out (by decide) hg6, ?_, HB.out.grown hg6 HB.out.size (by intro k hk; cases hk; exact HG2.out)⟩
              rw [← HLA.out]
              exact R_box_grown HA.out HY.out (by decide) hg6
end Go.Proofs.Ytemhalnhbgkbcaa.V
end

-- VFPackPut
section
-- PRINTED by print.py (a twelfth state) out of the translation. Not trusted: Lean checks it.
namespace Go.Proofs.Ytemhalnhbgkbcaa.V
open Go.RowKit Go.Proofs.YtemhalnhbgkbcaaW.PrintWords Go.Proofs.YtemhalnhbgkbcaaW.PrintLast Go.Proofs.YtemhalnhbgkbcaaW.PrintMore
attribute [local go_sem] max2_int min2_int max_two min_two max_three min_three max_four min_four   -- for this text's walks alone
set_option linter.unusedVariables false
set_option linter.unusedSimpArgs false

/-! ### pack_Put: function 66 -/
mutual
def pack_Put.j0 : Nat → Int → Int → List Int → Bool → Option (List Int)
  | 0, _, _, _, _ => none
  | k + 1, x1, x2, x7, x16 => if x16 = true then (some x7) else (pack_Put.l0 k x1 x7 (wrap64 (x2 - 1)))
def pack_Put.l0 : Nat → Int → List Int → Int → Option (List Int)
  | 0, _, _, _ => none
  | k + 1, x1, x7, x8 => if x8 ≥ 0 then (if 0 ≤ (wrap64 (8 * x8)) then (if x7.length < 140737488355328 then (pack_Put.l0 k x1 (x7 ++ [(shr .u64 x1 (wrap64 (8 * x8))) % 256]) (wrap64 (x8 - 1))) else (none)) else (none)) else (some x7)
end
def pack_Put.f (k : Nat) (l0 : List Int) (a1 : Int) (a2 : Int) : Option (List Int) := (slices_Clone_uint8_uint8.f l0).bind fun t66101 => (if a2 < 1 then (pack_Put.j0 k a1 a2 t66101 true) else (pack_Put.j0 k a1 a2 t66101 (decide (a2 > 8))))
theorem pack_Put.mono_l : ∀ k, (∀ y0 y1 y2 y3, LeO (pack_Put.j0 k y0 y1 y2 y3) (pack_Put.j0 (k + 1) y0 y1 y2 y3)) ∧ (∀ y0 y1 y2, LeO (pack_Put.l0 k y0 y1 y2) (pack_Put.l0 (k + 1) y0 y1 y2))
  | 0 => ⟨fun _ _ _ _ r h => by simp [pack_Put.j0] at h, fun _ _ _ r h => by simp [pack_Put.l0] at h⟩
  | k + 1 => by
    obtain ⟨ih0, ih1⟩ := pack_Put.mono_l k
    refine ⟨?_, ?_⟩
    · intro y0 y1 y2 y3
      unfold pack_Put.j0
      repeat' first
      | (with_reducible exact ih0 _ _ _ _)
      | (with_reducible exact ih1 _ _ _)
      | (with_reducible exact LeO.refl _)
      | (with_reducible exact LeO.none _)
      | (with_reducible refine LeO.ite ?_ ?_)
      | (with_reducible refine LeO.bind ?_ (fun _ => ?_))
      | exact ih0 _ _ _ _
      | exact ih1 _ _ _
      | exact LeO.none _
      | refine LeO.ite ?_ ?_
      | refine LeO.bind ?_ (fun _ => ?_)
    · intro y0 y1 y2
      unfold pack_Put.l0
      repeat' first
      | (with_reducible exact ih0 _ _ _ _)
      | (with_reducible exact ih1 _ _ _)
      | (with_reducible exact LeO.refl _)
      | (with_reducible exact LeO.none _)
      | (with_reducible refine LeO.ite ?_ ?_)
      | (with_reducible refine LeO.bind ?_ (fun _ => ?_))
      | exact ih0 _ _ _ _
      | exact ih1 _ _ _
      | exact LeO.none _
      | refine LeO.ite ?_ ?_
      | refine LeO.bind ?_ (fun _ => ?_)
theorem pack_Put.mono : ∀ a0 a1 a2 k, LeO (pack_Put.f k a0 a1 a2) (pack_Put.f (k + 1) a0 a1 a2) := by
  intro a0 a1 a2 k
  obtain ⟨ih0, ih1⟩ := pack_Put.mono_l k
  unfold pack_Put.f
  repeat' first
      | (with_reducible exact ih0 _ _ _ _)
      | (with_reducible exact ih1 _ _ _)
      | (with_reducible exact LeO.refl _)
      | (with_reducible exact LeO.none _)
      | (with_reducible refine LeO.ite ?_ ?_)
      | (with_reducible refine LeO.bind ?_ (fun _ => ?_))
      | exact ih0 _ _ _ _
      | exact ih1 _ _ _
      | exact LeO.none _
      | refine LeO.ite ?_ ?_
      | refine LeO.bind ?_ (fun _ => ?_)
set_option maxHeartbeats 8000000 in
set_option maxRecDepth 100000 in
theorem pack_Put.calls (k : Nat) (A0 : Option Addr) (c0 : Nat) (l0 : List Int) (a1 : Int) (a2 : Int) (r : List Int) (w : World) (hr0 : Kd.C (Kd.int .u8) w A0 l0.length l0) (hc0 : l0.length ≤ c0) (h : pack_Put.f k l0 a1 a2 = some r) :
    Calls Try.prog 66 #[.slice A0 l0.length c0, .int .u64 a1, .int .i64 a2] w fun e w' => ∃ v0_ : Value, e = .returned (v0_) ∧ Kd.R (Kd.int .u8) 5 w' w.heap.size (fun _ => True) v0_ r ∧ Below w.heap.size w w' := by
  have HR0 := Aside0.mk hr0
  have HC0 := Aside0.mk hc0
  clear hr0 hc0
  have HB := Aside0.mk (Below.refl w.heap.size w)
  have H : ((slices_Clone_uint8_uint8.f l0).bind fun t66101 => (if a2 < 1 then (pack_Put.j0 k a1 a2 t66101 true) else (pack_Put.j0 k a1 a2 t66101 (decide (a2 > 8))))) = some r := h
  clear h
  replace H := Option.bind_eq_some_iff.mp H
  obtain ⟨t66101, A40, H⟩ := H
  replace H : (if a2 < 1 then (pack_Put.j0 k a1 a2 t66101 true) else (pack_Put.j0 k a1 a2 t66101 (decide (a2 > 8)))) = some r := H
  have A4 := Aside0.mk A40
  clear A40
  have HC5 := Aside0.mk H
  clear H
  go_enter Try.func66, Try.ntmps66
  go_upto_region 2 with (first | ((with_reducible refine gate_callee (f := 91) rfl ?_); refine goesL_ (some 10) rfl rfl Try.func91 (by kernel_rfl) rfl #[.slice A0 l0.length c0] rfl (by (try simp only [List.map_toArray, List.map_cons, List.map_nil]); first | done | rfl | (simp only [List.length_drop, List.length_take]; rfl)) ?_; (with_reducible refine (slices_Clone_uint8_uint8.calls _ _ l0 t66101 _ ?side1 ?side2 A4.out).mono ?_); (case side1 => repeat (first | exact HR0.out | (with_reducible refine Kd.C_alloc ?_ _) | (with_reducible refine Kd.C_drewN ?_ _) | (with_reducible refine Kd.C_drew ?_))); (case side2 => exact HC0.out); rintro e w6 ⟨v66102, rfl, ho0, hb⟩; refine ⟨_, rfl, ?_⟩; have n0_ := Aside0.mk (Kd.R_lower ho0 (below_size (by repeat (first | (with_reducible first | exact HB.out | apply below_alloc | apply pw_below_drewN | apply below_drew1) | exact HB.out)))); have n1_ := Aside0.mk (below_step (by repeat (first | (with_reducible first | exact HB.out | apply below_alloc | apply pw_below_drewN | apply below_drew1) | exact HB.out)) hb); clear HB; have HO66103 := n0_; have HB := n1_; clear n0_ n1_; (try clear hb); (try clear hb2); (try clear hk); (try clear hi); (try clear ho0)))
  (try simp only [Act.put, List.setIfInBounds_toArray, List.set_cons_zero, List.set_cons_succ])
  go_cut [16] (fun v16 wc => ∃ (kq : Nat) (x16_4 : Bool), v16 = .bool x16_4 ∧ Aside0 (pack_Put.j0 kq a1 a2 t66101 x16_4 = some r) ∧ Aside0 (kq ≤ k) ∧ Aside0 (Kd.R (Kd.int .u8) 5 wc w.heap.size (fun _ => True) v66102 t66101) ∧ Aside0 (Below w.heap.size w wc))
  case first =>
    have H := HC5.out
    clear HC5
    by_cases c7 : a2 < 1
    · rw [if_pos c7] at H
      have c7b0 : decide (a2 < 1) = true := decide_eq_true c7
      clear c7
      (first | rw [c7b0] | (simp only [i64_w, i32_w]; rw [c7b0]) | skip)
      have H' := Aside0.mk H
      clear H
      go_wp2
      go_meet
      case rel => exact ⟨_, (true), (by first | rfl | (simp; done) | (simp [*]; done)), H', ⟨by first | omega | exact Nat.le_refl _⟩, ⟨by (with_reducible repeat (first | apply Kd.R_alloc | apply Kd.R_drewN | apply Kd.R_drew)); exact HO66103.out⟩, ⟨by repeat (first | (with_reducible first | exact HB.out | apply below_alloc | apply pw_below_drewN | apply below_drew1) | exact HB.out)⟩⟩
    · rw [if_neg c7] at H
      have c7b0 : decide (a2 < 1) = false := decide_eq_false c7
      clear c7
      (first | rw [c7b0] | (simp only [i64_w, i32_w]; rw [c7b0]) | skip)
      have H' := Aside0.mk H
      clear H
      go_wp2
      go_meet
      case rel => exact ⟨_, (decide (a2 > 8)), (by first | rfl | (simp; done) | (simp [*]; done)), H', ⟨by first | omega | exact Nat.le_refl _⟩, ⟨by (with_reducible repeat (first | apply Kd.R_alloc | apply Kd.R_drewN | apply Kd.R_drew)); exact HO66103.out⟩, ⟨by repeat (first | (with_reducible first | exact HB.out | apply below_alloc | apply pw_below_drewN | apply below_drew1) | exact HB.out)⟩⟩
  case rest =>
    clear HC5
    try clear p2
    try clear c6
    try clear c7
    try clear c7b0
    obtain ⟨kq, x16_4, rfl, HA, HJ4, HO_7, HB⟩ := hcut
    cases kq with
    | zero => exact absurd HA.out (by simp [pack_Put.j0])
    | succ kj4 =>
      have H := HA.out
      clear HA
      simp only [pack_Put.j0] at H
      by_cases c8 : x16_4 = true
      · subst c8
        have H1 : (some t66101) = some r := by rw [if_pos rfl] at H; exact H
        clear H
        have H := H1
        clear H1
        obtain rfl := Option.some.inj H
        go_wp2
        go_ret
        exact ⟨_, by first | rfl | (simp [errW_none, errW_some] <;> rfl) | (simp [*, errW_none, errW_some] <;> rfl), by (with_reducible repeat (first | apply Kd.R_alloc | apply Kd.R_drewN | apply Kd.R_drew)); exact HO_7.out, by repeat (first | (with_reducible first | exact HB.out | apply below_alloc | apply pw_below_drewN | apply below_drew1) | exact HB.out)⟩
      · replace c8 := Bool.eq_false_iff.mpr c8
        subst c8
        have H1 : (pack_Put.l0 kj4 a1 t66101 (wrap64 (a2 - 1))) = some r := by rw [if_neg (show ¬ (false = true) by decide)] at H; exact H
        clear H
        have H := H1
        clear H1
        have H' := Aside0.mk H
        clear H
        go_wp2
        go_loopg [7, 8] kj4 (fun kq v7 v8 w' => ∃ (x7_2 : List Int) (x8_2 : Int), v8 = .int .i64 x8_2 ∧ Aside0 (pack_Put.l0 kq a1 x7_2 x8_2 = some r) ∧ Aside0 (kq ≤ kj4) ∧ Aside0 (Kd.R (Kd.int .u8) 5 w' w.heap.size (fun _ => True) v7 x7_2) ∧ Aside0 (Below w.heap.size w w'))
        case atStart => exact ⟨(t66101), (wrap64 (a2 - 1)), (by first | rfl | (simp; done) | (simp [*]; done)), H', ⟨Nat.le_refl _⟩, ⟨by (with_reducible repeat (first | apply Kd.R_alloc | apply Kd.R_drewN | apply Kd.R_drew)); exact HO_7.out⟩, ⟨by repeat (first | (with_reducible first | exact HB.out | apply below_alloc | apply pw_below_drewN | apply below_drew1) | exact HB.out)⟩⟩
        case round =>
          clear H'
          try clear p2
          try clear c6
          try clear p6
          try clear c7
          try clear c7b0
          try clear c8
          try clear p2
          obtain ⟨x7_2, x8_2, rfl, HA, HK2, HO_7, HB⟩ := hrel
          cases gk with
          | zero => exact absurd HA.out (by simp [pack_Put.l0])
          | succ k2 =>
            have H := HA.out
            clear HA
            simp only [pack_Put.l0] at H
            by_cases c9 : x8_2 ≥ 0
            · rw [if_pos c9] at H
              have c9b0 : decide (0 ≤ x8_2) = true := decide_eq_true c9
              clear c9
              obtain ⟨ji10, hji10⟩ : ∃ j_ : Int, (wrap64 (8 * x8_2)) = j_ := ⟨_, rfl⟩
              replace H : (if 0 ≤ (ji10) then (if x7_2.length < 140737488355328 then (pack_Put.l0 k2 a1 (x7_2 ++ [(shr .u64 a1 (ji10)) % 256]) (wrap64 (x8_2 - 1))) else (none)) else (none)) = some r := by first | (rw [hji10] at H; exact H) | (simp only [hji10] at H ⊢; exact H)
              have hji10w : (IntKind.i64.wrap (8 * x8_2)) = ji10 := (i64_w _).trans hji10
              by_cases c11 : 0 ≤ (ji10)
              · rw [if_pos c11] at H
                have c11b0 := eq_true c11
                have c11b1 : decide (0 ≤ (ji10)) = true := decide_eq_true c11
                clear c11
                obtain ⟨ji12, hji12⟩ : ∃ j_ : Int, (shr .u64 a1 (ji10)) = j_ := ⟨_, rfl⟩
                replace H : (if x7_2.length < 140737488355328 then (pack_Put.l0 k2 a1 (x7_2 ++ [(ji12) % 256]) (wrap64 (x8_2 - 1))) else (none)) = some r := by first | (rw [hji12] at H; exact H) | (simp only [hji12] at H ⊢; exact H)
                have hji12_ : (a1 / 2 ^ min (ji10).toNat 64) = ji12 := hji12
                have hji12z : (ji10) ≤ 64 → (a1 / 2 ^ (ji10).toNat) = ji12 := shr_small hji12
                by_cases c13 : x7_2.length < 140737488355328
                · rw [if_pos c13] at H
                  have LMc13 := Aside0.mk c13
                  clear c13
                  obtain ⟨y66104, hy66104⟩ : ∃ y_ : List Int, y_ = (x7_2 ++ [(ji12) % 256]) := ⟨_, rfl⟩
                  replace H : (pack_Put.l0 k2 a1 y66104 (wrap64 (x8_2 - 1))) = some r := by first | (rw [hy66104]; with_reducible exact H) | (have H2_ := (Option.bind_some _ _).symm.trans H; rw [hy66104]; with_reducible exact H2_) | (have H2_ := (Option.bind_some _ _).symm.trans H; with_reducible exact H2_) | with_reducible exact H | (rw [hy66104]; exact H) | exact H
                  have Ny66104 := Aside0.mk hy66104
                  clear hy66104
                  have H' := Aside0.mk H
                  clear H
                  go_wp2_with (first | ((with_reducible refine gate_builtin (b := .append) (xs := #[.tmp 24, .tmp 30]) rfl ?_); at_builtin; refine Kd.R_append (Kd.int .u8) (w0 := w) w.heap.size rfl (.tmp 24) (.tmp 30) 48 5 (.int .u8 0) 1 rfl Try.underlying48 info5 rfl (by decide) (by omega) u7 x7_2 ((ji12) % 256) [.int .u8 ((ji12) % 256)] (fun _ => True) (fun _ => False) rfl rfl ?aP (fun _ hk => hk.elim) ?aF ?aO ?aB ?aS ?aL ?_; (case aP => exact rfl); (case aB => exact (by repeat (first | (with_reducible first | exact HB.out | apply below_alloc | apply pw_below_drewN | apply below_drew1) | exact HB.out))); (case aF => exact (fun _ _ => trivial)); (case aO => exact (by (with_reducible repeat (first | apply Kd.R_alloc | apply Kd.R_drewN | apply Kd.R_drew)); exact HO_7.out)); (case aS => exact (below_size (by repeat (first | (with_reducible first | exact HB.out | apply below_alloc | apply pw_below_drewN | apply below_drew1) | exact HB.out)))); (case aL => have := LMc13.out; omega); intro v66105 w14 ho hb hg hat; rw [← Ny66104.out] at ho; have n0_ := Aside0.mk (hb); have n1_ := Aside0.mk (ho); clear HB; clear HO_7; have HB := n0_; have HO66106 := n1_; clear n0_ n1_; clear ho hb hg hat))
                  go_roundg k2
                  case measure => have := HJ4.out; have := HK2.out; omega
                  case rel => exact ⟨(y66104), (wrap64 (x8_2 - 1)), (by first | rfl | (simp; done) | (simp [*]; done)), H', ⟨by have := HJ4.out; have := HK2.out; omega⟩, ⟨by (with_reducible repeat (first | apply Kd.R_alloc | apply Kd.R_drewN | apply Kd.R_drew)); exact HO66106.out⟩, ⟨by repeat (first | (with_reducible first | exact HB.out | apply below_alloc | apply pw_below_drewN | apply below_drew1) | exact HB.out)⟩⟩
                · rw [if_neg c13] at H
                  exact absurd H (by simp)
              · rw [if_neg c11] at H
                exact absurd H (by simp)
            · rw [if_neg c9] at H
              have c9b0 : decide (0 ≤ x8_2) = false := decide_eq_false c9
              clear c9
              obtain rfl := Option.some.inj H
              go_wp2
              go_ret
              exact ⟨_, by first | rfl | (simp [errW_none, errW_some] <;> rfl) | (simp [*, errW_none, errW_some] <;> rfl), by (with_reducible repeat (first | apply Kd.R_alloc | apply Kd.R_drewN | apply Kd.R_drew)); exact HO_7.out, by repeat (first | (with_reducible first | exact HB.out | apply below_alloc | apply pw_below_drewN | apply below_drew1) | exact HB.out)⟩
end Go.Proofs.Ytemhalnhbgkbcaa.V
end

-- VFPackText
section
-- PRINTED by print.py (a twelfth state) out of the translation. Not trusted: Lean checks it.
namespace Go.Proofs.Ytemhalnhbgkbcaa.V
open Go.RowKit Go.Proofs.YtemhalnhbgkbcaaW.PrintWords Go.Proofs.YtemhalnhbgkbcaaW.PrintLast Go.Proofs.YtemhalnhbgkbcaaW.PrintMore
attribute [local go_sem] max2_int min2_int max_two min_two max_three min_three max_four min_four   -- for this text's walks alone
set_option linter.unusedVariables false
set_option linter.unusedSimpArgs false

/-! ### pack_Text: function 101 -/
def pack_Text.f (k : Nat) (l0 : List Int) (a1 : ByteArray) : Option (List Int × Int) := if (a1.size : Int) > 64 then (some (([] : List Int), 1)) else ((pack_Put.f k l0 (IntKind.u64.wrap ((a1.size : Int))) 1).bind fun t101101 => (if t101101.length + a1.size < 140737488355328 then (some ((t101101 ++ bytesOf a1), 0)) else (none)))
theorem pack_Text.mono : ∀ a0 a1 k, LeO (pack_Text.f k a0 a1) (pack_Text.f (k + 1) a0 a1) := by
  intro a0 a1 k
  unfold pack_Text.f
  repeat' first
      | (with_reducible exact pack_Put.mono _ _ _ _)
      | (with_reducible exact LeO.refl _)
      | (with_reducible exact LeO.none _)
      | (with_reducible refine LeO.ite ?_ ?_)
      | (with_reducible refine LeO.bind ?_ (fun _ => ?_))
      | exact pack_Put.mono _ _ _ _
      | exact LeO.none _
      | refine LeO.ite ?_ ?_
      | refine LeO.bind ?_ (fun _ => ?_)
set_option maxHeartbeats 8000000 in
set_option maxRecDepth 100000 in
theorem pack_Text.calls (k : Nat) (A0 : Option Addr) (c0 : Nat) (l0 : List Int) (a1 : ByteArray) (r1 : List Int) (r2 : Int) (w : World) (hr0 : Kd.C (Kd.int .u8) w A0 l0.length l0) (hc0 : l0.length ≤ c0) (h : pack_Text.f k l0 a1 = some (r1, r2)) :
    Calls Try.prog 101 #[.slice A0 l0.length c0, .string a1] w fun e w' => ∃ v0_ : Value, e = .returned (.tuple #[v0_, .int .i64 r2]) ∧ Kd.R (Kd.int .u8) 5 w' w.heap.size (fun _ => True) v0_ r1 ∧ Below w.heap.size w w' := by
  have HR0 := Aside0.mk hr0
  have HC0 := Aside0.mk hc0
  clear hr0 hc0
  have HB := Aside0.mk (Below.refl w.heap.size w)
  have H : (if (a1.size : Int) > 64 then (some (([] : List Int), 1)) else ((pack_Put.f k l0 (IntKind.u64.wrap ((a1.size : Int))) 1).bind fun t101101 => (if t101101.length + a1.size < 140737488355328 then (some ((t101101 ++ bytesOf a1), 0)) else (none)))) = some (r1, r2) := h
  clear h
  by_cases c3 : (a1.size : Int) > 64
  · rw [if_pos c3] at H
    have c3b0 : decide (64 < (a1.size : Int)) = true := decide_eq_true c3
    have c3b1 : decide (64 < a1.size) = true := decide_eq_true (by omega)
    clear c3
    simp only [Option.some.injEq, Prod.mk.injEq] at H
    obtain ⟨rfl, rfl⟩ := H
    go_enter Try.func101, Try.ntmps101
    go_wp2
    go_ret2
    exact ⟨_, by first | rfl | (simp [errW_none, errW_some] <;> rfl) | (simp [*, errW_none, errW_some] <;> rfl), by first | exact Kd.R_nil _ _ _ _ _ | exact Kd.N_nil _ _ _ _ _ | exact Kd.V_nil _ _ _ _ _ | exact Kd.Q_nil _ _ _ _ _ | exact Kd.S_nil _ _ _ _ _, by repeat (first | (with_reducible first | exact HB.out | apply below_alloc | apply pw_below_drewN | apply below_drew1) | exact HB.out)⟩
  · rw [if_neg c3] at H
    have c3b0 : decide (64 < (a1.size : Int)) = false := decide_eq_false c3
    have c3b1 : decide (64 < a1.size) = false := decide_eq_false (by omega)
    clear c3
    replace H := Option.bind_eq_some_iff.mp H
    obtain ⟨t101101, A40, H⟩ := H
    replace H : (if t101101.length + a1.size < 140737488355328 then (some ((t101101 ++ bytesOf a1), 0)) else (none)) = some (r1, r2) := H
    have A4 := Aside0.mk A40
    clear A40
    by_cases c5 : t101101.length + a1.size < 140737488355328
    · rw [if_pos c5] at H
      have LMc5 := Aside0.mk c5
      clear c5
      obtain ⟨y101104, hy101104⟩ : ∃ y_ : List Int, y_ = (t101101 ++ bytesOf a1) := ⟨_, rfl⟩
      replace H : (some (y101104, 0)) = some (r1, r2) := by first | (rw [hy101104]; with_reducible exact H) | (have H2_ := (Option.bind_some _ _).symm.trans H; rw [hy101104]; with_reducible exact H2_) | (have H2_ := (Option.bind_some _ _).symm.trans H; with_reducible exact H2_) | with_reducible exact H | (rw [hy101104]; exact H) | exact H
      have Ny101104 := Aside0.mk hy101104
      clear hy101104
      simp only [Option.some.injEq, Prod.mk.injEq] at H
      obtain ⟨rfl, rfl⟩ := H
      go_enter Try.func101, Try.ntmps101
      go_wp2_with (first | ((with_reducible refine gate_callee (f := 66) rfl ?_); refine goesL_ (some 13) rfl rfl Try.func66 (by kernel_rfl) rfl #[.slice A0 l0.length c0, .int .u64 (IntKind.u64.wrap ((a1.size : Int))), .int .i64 1] rfl (by (try simp only [List.map_toArray, List.map_cons, List.map_nil]); first | done | rfl | (simp only [List.length_drop, List.length_take]; rfl)) ?_; (with_reducible refine (pack_Put.calls k _ _ l0 (IntKind.u64.wrap ((a1.size : Int))) 1 t101101 _ ?side1 ?side2 A4.out).mono ?_); (case side1 => repeat (first | exact HR0.out | (with_reducible refine Kd.C_alloc ?_ _) | (with_reducible refine Kd.C_drewN ?_ _) | (with_reducible refine Kd.C_drew ?_))); (case side2 => exact HC0.out); rintro e w6 ⟨v101102, rfl, ho0, hb⟩; refine ⟨_, rfl, ?_⟩; have n0_ := Aside0.mk (Kd.R_lower ho0 (below_size (by repeat (first | (with_reducible first | exact HB.out | apply below_alloc | apply pw_below_drewN | apply below_drew1) | exact HB.out)))); have n1_ := Aside0.mk (below_step (by repeat (first | (with_reducible first | exact HB.out | apply below_alloc | apply pw_below_drewN | apply below_drew1) | exact HB.out)) hb); clear HB; have HO101103 := n0_; have HB := n1_; clear n0_ n1_; (try clear hb); (try clear hb2); (try clear hk); (try clear hi); (try clear ho0)) | (at_builtin; refine print_append_str (w0 := w) w.heap.size rfl (.tmp 13) _ 48 9 5 rfl Try.underlying48 Try.underlying9 info5 v101102 t101101 a1 rfl rfl ?aO ?aB ?aS ?aL ?_; (case aB => exact (by repeat (first | (with_reducible first | exact HB.out | apply below_alloc | apply pw_below_drewN | apply below_drew1) | exact HB.out))); (case aO => exact (Kd.own_of_R (by (with_reducible repeat (first | apply Kd.R_alloc | apply Kd.R_drewN | apply Kd.R_drew)); exact HO101103.out))); (case aS => exact (below_size (by repeat (first | (with_reducible first | exact HB.out | apply below_alloc | apply pw_below_drewN | apply below_drew1) | exact HB.out)))); (case aL => have := LMc5.out; omega); intro v101105 w7 ho0 hb hg; have ho := Kd.R_of_own (h1 := fun _ => rfl) (ok := fun _ => True) ho0 (fun _ _ => trivial); clear ho0; have hat := True.intro; rw [← Ny101104.out] at ho; change Kd.R (Kd.int .u8) 5 w7 w.heap.size (fun _ => True) v101105 y101104 at ho; have n0_ := Aside0.mk (hb); have n1_ := Aside0.mk (ho); clear HB; clear HO101103; have HB := n0_; have HO101106 := n1_; clear n0_ n1_; clear ho hb hg hat))
      go_ret2
      exact ⟨_, by first | rfl | (simp [errW_none, errW_some] <;> rfl) | (simp [*, errW_none, errW_some] <;> rfl), by (with_reducible repeat (first | apply Kd.R_alloc | apply Kd.R_drewN | apply Kd.R_drew)); exact HO101106.out, by repeat (first | (with_reducible first | exact HB.out | apply below_alloc | apply pw_below_drewN | apply below_drew1) | exact HB.out)⟩
    · rw [if_neg c5] at H
      exact absurd H (by simp)
end Go.Proofs.Ytemhalnhbgkbcaa.V
end

-- VFImageText
section
-- PRINTED by print.py (a twelfth state) out of the translation. Not trusted: Lean checks it.
namespace Go.Proofs.Ytemhalnhbgkbcaa.V
open Go.RowKit Go.Proofs.YtemhalnhbgkbcaaW.PrintWords Go.Proofs.YtemhalnhbgkbcaaW.PrintLast Go.Proofs.YtemhalnhbgkbcaaW.PrintMore
attribute [local go_sem] max2_int min2_int max_two min_two max_three min_three max_four min_four   -- for this text's walks alone
set_option linter.unusedVariables false
set_option linter.unusedSimpArgs false

/-! ### image_text: function 67 -/
def image_text.f (k : Nat) (l0 : List Int) (a1 : ByteArray) : Option (List Int) := (pack_Text.f k l0 a1).bind fun bt67101 => (some bt67101.1)
theorem image_text.mono : ∀ a0 a1 k, LeO (image_text.f k a0 a1) (image_text.f (k + 1) a0 a1) := by
  intro a0 a1 k
  unfold image_text.f
  repeat' first
      | (with_reducible exact pack_Text.mono _ _ _)
      | (with_reducible exact LeO.refl _)
      | (with_reducible exact LeO.none _)
      | (with_reducible refine LeO.ite ?_ ?_)
      | (with_reducible refine LeO.bind ?_ (fun _ => ?_))
      | exact pack_Text.mono _ _ _
      | exact LeO.none _
      | refine LeO.ite ?_ ?_
      | refine LeO.bind ?_ (fun _ => ?_)
set_option maxHeartbeats 8000000 in
set_option maxRecDepth 100000 in
theorem image_text.calls (k : Nat) (A0 : Option Addr) (c0 : Nat) (l0 : List Int) (a1 : ByteArray) (r : List Int) (w : World) (hr0 : Kd.C (Kd.int .u8) w A0 l0.length l0) (hc0 : l0.length ≤ c0) (h : image_text.f k l0 a1 = some r) :
    Calls Try.prog 67 #[.slice A0 l0.length c0, .string a1] w fun e w' => ∃ v0_ : Value, e = .returned (v0_) ∧ Kd.R (Kd.int .u8) 5 w' w.heap.size (fun _ => True) v0_ r ∧ Below w.heap.size w w' := by
  have HR0 := Aside0.mk hr0
  have HC0 := Aside0.mk hc0
  clear hr0 hc0
  have HB := Aside0.mk (Below.refl w.heap.size w)
  have H : ((pack_Text.f k l0 a1).bind fun bt67101 => (some bt67101.1)) = some r := h
  clear h
  replace H := Option.bind_eq_some_iff.mp H
  obtain ⟨⟨t67101, t67102⟩, A30, H⟩ := H
  replace H : (some t67101) = some r := H
  have A3 := Aside0.mk A30
  clear A30
  obtain rfl := Option.some.inj H
  go_enter Try.func67, Try.ntmps67
  go_wp2_with (first | ((with_reducible refine gate_callee (f := 101) rfl ?_); refine goesL_ (some 10) rfl rfl Try.func101 (by kernel_rfl) rfl #[.slice A0 l0.length c0, .string a1] rfl (by (try simp only [List.map_toArray, List.map_cons, List.map_nil]); first | done | rfl | (simp only [List.length_drop, List.length_take]; rfl)) ?_; (with_reducible refine (pack_Text.calls k _ _ l0 a1 t67101 t67102 _ ?side1 ?side2 A3.out).mono ?_); (case side1 => repeat (first | exact HR0.out | (with_reducible refine Kd.C_alloc ?_ _) | (with_reducible refine Kd.C_drewN ?_ _) | (with_reducible refine Kd.C_drew ?_))); (case side2 => exact HC0.out); rintro e w4 ⟨v67103, rfl, ho0, hb⟩; refine ⟨_, rfl, ?_⟩; have n0_ := Aside0.mk (Kd.R_lower ho0 (below_size (by repeat (first | (with_reducible first | exact HB.out | apply below_alloc | apply pw_below_drewN | apply below_drew1) | exact HB.out)))); have n1_ := Aside0.mk (below_step (by repeat (first | (with_reducible first | exact HB.out | apply below_alloc | apply pw_below_drewN | apply below_drew1) | exact HB.out)) hb); clear HB; have HO67104 := n0_; have HB := n1_; clear n0_ n1_; (try clear hb); (try clear hb2); (try clear hk); (try clear hi); (try clear ho0)))
  go_ret
  exact ⟨_, by first | rfl | (simp [errW_none, errW_some] <;> rfl) | (simp [*, errW_none, errW_some] <;> rfl), by (with_reducible repeat (first | apply Kd.R_alloc | apply Kd.R_drewN | apply Kd.R_drew)); exact HO67104.out, by repeat (first | (with_reducible first | exact HB.out | apply below_alloc | apply pw_below_drewN | apply below_drew1) | exact HB.out)⟩
end Go.Proofs.Ytemhalnhbgkbcaa.V
end

-- BPackP
section
/- Bytes of numbers, of texts: plain. -/
namespace Go.Proofs.Ytemhalnhbgkbcaa.V
open Go.RowKit Go.Proofs.YtemhalnhbgkbcaaW.PrintWords Go.Proofs.YtemhalnhbgkbcaaW.PrintLast Go.Proofs.YtemhalnhbgkbcaaW.PrintMore
set_option linter.unusedVariables false
set_option linter.unusedSimpArgs false

def be4 (n : Nat) : List Int := [((n / 16777216 % 256 : Nat) : Int), ((n / 65536 % 256 : Nat) : Int), ((n / 256 % 256 : Nat) : Int), ((n % 256 : Nat) : Int)]
theorem shr_nat (n i : Nat) (hi : i < 64) : shr .u64 (n : Int) (i : Int) = ((n / 2 ^ i : Nat) : Int) := by
  unfold shr
  rw [Int.toNat_natCast, show min i IntKind.u64.bits = i from Nat.min_eq_left (by simp [IntKind.bits]; omega)]
  have : (2 : Int) ^ i = ((2 ^ i : Nat) : Int) := by simp
  rw [this]
  exact (Int.natCast_ediv _ _).symm
theorem put_l0 (n : Nat) (hn : n < 18446744073709551616) : ∀ (i k : Nat) (xs : List Int), i ≤ 7 → i + 1 < k → xs.length < 1000000 →
    pack_Put.l0 (k + 1) (n : Int) xs (i : Int) = pack_Put.l0 k (n : Int) (xs ++ [((n / 2 ^ (8 * i) % 256 : Nat) : Int)]) ((i : Int) - 1) := by
  intro i k xs hi hk hx
  rw [pack_Put.l0, if_pos (by omega), wrap64_id (8 * (i : Int)) (by omega) (by omega), if_pos (by omega), if_pos (by omega), show (8 : Int) * (i : Int) = ((8 * i : Nat) : Int) by omega, shr_nat n (8 * i) (by omega), wrap64_id ((i : Int) - 1) (by omega) (by omega)]
  congr 3
theorem put_end (n : Int) (xs : List Int) (k : Nat) : pack_Put.l0 (k + 1) n xs (-1) = some xs := by
  rw [pack_Put.l0, if_neg (by decide)]
theorem put1 (xs : List Int) (hx : xs.length < 1000000) (n : Nat) (hn : n < 18446744073709551616) : pack_Put.f 20 xs (n : Int) 1 = some (xs ++ [((n % 256 : Nat) : Int)]) := by
  unfold pack_Put.f slices_Clone_uint8_uint8.f
  rw [if_pos (by omega), Option.bind_some, if_neg (by decide), show decide ((1 : Int) > 8) = false from rfl, pack_Put.j0, if_neg (by decide), show wrap64 ((1 : Int) - 1) = ((0 : Nat) : Int) by unfold wrap64; omega]
  rw [put_l0 n hn 0 18 xs (by omega) (by omega) hx]
  rw [show ((0 : Nat) : Int) - 1 = -1 by omega, put_end]
  simp
theorem put4 (xs : List Int) (hx : xs.length < 100000) (n : Nat) (hn : n < 18446744073709551616) : pack_Put.f 20 xs (n : Int) 4 = some (xs ++ be4 n) := by
  unfold pack_Put.f slices_Clone_uint8_uint8.f
  rw [if_pos (by omega), Option.bind_some, if_neg (by decide), show decide ((4 : Int) > 8) = false from rfl, pack_Put.j0, if_neg (by decide), show wrap64 ((4 : Int) - 1) = ((3 : Nat) : Int) by unfold wrap64; omega]
  rw [put_l0 n hn 3 18 xs (by omega) (by omega) (by omega), show ((3 : Nat) : Int) - 1 = ((2 : Nat) : Int) by omega]
  rw [put_l0 n hn 2 17 _ (by omega) (by omega) (by simp; omega), show ((2 : Nat) : Int) - 1 = ((1 : Nat) : Int) by omega]
  rw [put_l0 n hn 1 16 _ (by omega) (by omega) (by simp; omega), show ((1 : Nat) : Int) - 1 = ((0 : Nat) : Int) by omega]
  rw [put_l0 n hn 0 15 _ (by omega) (by omega) (by simp; omega), show ((0 : Nat) : Int) - 1 = -1 by omega, put_end]
  simp [be4]
def textB (s : ByteArray) : List Int := (s.size : Int) :: bytesOf s
theorem textB_length (s : ByteArray) : (textB s).length = s.size + 1 := by simp [textB, bytesOf_length]
theorem text_f (xs : List Int) (hx : xs.length < 1000000) (s : ByteArray) (hs : s.size ≤ 64) : image_text.f 20 xs s = some (xs ++ textB s) := by
  unfold image_text.f pack_Text.f
  rw [if_neg (by omega), wrap_u64_nat s.size (by omega), put1 xs hx s.size (by omega), Option.bind_some, if_pos (by simp; omega), Option.bind_some, show s.size % 256 = s.size by omega]
  simp [textB]
end Go.Proofs.Ytemhalnhbgkbcaa.V
end

