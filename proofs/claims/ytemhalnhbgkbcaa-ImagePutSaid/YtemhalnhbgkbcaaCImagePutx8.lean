/- The law ImagePut for every input: texts of ours, put together (part 9 of 10). No further condition. -/
import Derived.Test.YtemhalnhbgkbcaaCImagePutx7
import Derived.Test.YtemhalnhbgkbcaaCImagePutw1
import Derived.Outline
import Derived.Test.YtemhalnhbgkbcaaCImagePutx5
import Derived.ChangeSame
import Derived.WideShapes
import Derived.OpenShut
import Derived.Deep.SlicePairs
-- BRightRef
section
/- The document's Right of a block that the program takes for right. -/
namespace Go.Proofs.Ytemhalnhbgkbcaa.V
open Go.RowKit Go.Proofs.YtemhalnhbgkbcaaW.PrintWords Go.Proofs.YtemhalnhbgkbcaaW.PrintLast Go.Proofs.YtemhalnhbgkbcaaW.PrintMore
set_option linter.unusedVariables false
set_option linter.unusedSimpArgs false

theorem rd_get (l : List Int) (i : Nat) (h : i < l.length) : rd l (i : Int) = l[i] := by simp [rd, List.getD, h]
theorem count_f (l : List Int) (hl : l.length ≤ 1000) (x : Int) (k : Nat) (hk : l.length < k) : virgateref15_count.f k l x = some ((l.count x : Nat) : Int) := by
  have key : ∀ (d k i c : Nat), i + d = l.length → d < k → c ≤ i → virgateref15_count.l0 k x (c : Int) l (l.length : Int) (i : Int) = some ((c + (l.drop i).count x : Nat) : Int) := by
    intro d
    induction d with
    | zero =>
      intro k i c hi hk hc
      obtain ⟨k, rfl⟩ : ∃ m, k = m + 1 := ⟨k - 1, by omega⟩
      rw [virgateref15_count.l0, if_neg (by omega), List.drop_of_length_le (by omega)]
      simp
    | succ d ih =>
      intro k i c hi hk hc
      obtain ⟨k, rfl⟩ : ∃ m, k = m + 1 := ⟨k - 1, by omega⟩
      have hil : i < l.length := by omega
      rw [virgateref15_count.l0, if_pos (by omega), if_pos (by omega), if_pos (by omega), rd_get l i hil, wrap64_id ((i : Int) + 1) (by omega) (by omega), wrap64_id ((c : Int) + 1) (by omega) (by omega), List.drop_eq_getElem_cons hil, List.count_cons]
      by_cases h : l[i] = x
      · rw [if_pos h, show (c : Int) + 1 = ((c + 1 : Nat) : Int) by omega, show (i : Int) + 1 = ((i + 1 : Nat) : Int) by omega, ih k (i + 1) (c + 1) (by omega) (by omega) (by omega)]
        simp [h]
        omega
      · rw [if_neg h, show (i : Int) + 1 = ((i + 1 : Nat) : Int) by omega, ih k (i + 1) c (by omega) (by omega) (by omega)]
        simp [h]
  unfold virgateref15_count.f
  rw [show (0 : Int) = ((0 : Nat) : Int) from rfl, key l.length k 0 0 (by omega) hk (by omega)]
  simp
theorem may15_f (a : At) (h : mayAt a = true) (k : Nat) (hk : 65 ≤ k) : virgateref15_May.f k a.f0 a.f1 = some true := by
  unfold mayAt at h
  rw [Bool.and_eq_true] at h
  have h0 := rightName_size h.1
  have h1 := rightName_size h.2
  unfold virgateref15_May.f
  rw [r12_f a.f0 (by omega) k (by omega), Option.bind_some, if_pos h.1, r12_f a.f1 (by omega) k (by omega), Option.bind_some, h.2]
theorem owner15_f (s : ByteArray) (h : ownerB s = true) (k : Nat) (hk : 65 ≤ k) : virgateref15_Owner.f k s = some true := by
  unfold virgateref15_Owner.f
  by_cases h0 : s.toList = []
  · rw [if_pos h0]
  · unfold ownerB at h
    simp only [h0, decide_false, Bool.false_or] at h
    have h1 := rightName_size h
    rw [if_neg h0, r12_f s (by omega) k (by omega), Option.bind_some, h]
section
variable (addr : Int) (aff : ByteArray) (sl fr : List Int) (M : List S76)
theorem right_l3 (hf : ∀ x ∈ fr, 0 ≤ x ∧ x ≤ 63) (hl : fr.length ≤ 1000) : ∀ (d k i : Nat), i + d = fr.length → d < k → virgateref15_Right.l3 k fr (fr.length : Int) (i : Int) = some true := by
  intro d
  induction d with
  | zero =>
    intro k i hi hk
    obtain ⟨k, rfl⟩ : ∃ m, k = m + 1 := ⟨k - 1, by omega⟩
    rw [virgateref15_Right.l3, if_neg (by omega)]
  | succ d ih =>
    intro k i hi hk
    obtain ⟨k, rfl⟩ : ∃ m, k = m + 1 := ⟨k - 1, by omega⟩
    have hil : i < fr.length := by omega
    have hx := hf _ (List.getElem_mem hil)
    rw [virgateref15_Right.l3, if_pos (by omega), if_pos (by omega), if_pos (by omega), rd_get fr i hil, if_neg (by omega), if_neg (by omega), wrap64_id ((i : Int) + 1) (by omega) (by omega), show (i : Int) + 1 = ((i + 1 : Nat) : Int) by omega]
    exact ih k (i + 1) (by omega) (by omega)
theorem right_l2 (hf : ∀ x ∈ fr, 0 ≤ x ∧ x ≤ 63) (hl : fr.length ≤ 1000) (hsl : sl.length ≤ 1000) (hs : ∀ x ∈ sl, 0 ≤ x ∧ x ≤ (M.length : Int))
    (hc : ∀ (i : Nat) (h : i < sl.length), fr.count (i : Int) = if sl[i] = 0 then 1 else 0) : ∀ (d k i : Nat), i + d = sl.length → 2 * d + fr.length + 10 < k → virgateref15_Right.l2 k sl (sl.length : Int) (i : Int) addr aff sl fr M = some true := by
  intro d
  induction d with
  | zero =>
    intro k i hi hk
    obtain ⟨k, rfl⟩ : ∃ m, k = m + 1 := ⟨k - 1, by omega⟩
    rw [virgateref15_Right.l2, if_neg (by omega)]
    exact right_l3 fr hf hl fr.length k 0 (by omega) (by omega)
  | succ d ih =>
    intro k i hi hk
    obtain ⟨k, rfl⟩ : ∃ m, k = m + 2 := ⟨k - 2, by omega⟩
    have hil : i < sl.length := by omega
    have hx := hs _ (List.getElem_mem hil)
    have hci := hc i hil
    rw [virgateref15_Right.l2, if_pos (by omega), if_pos (by omega), if_pos (by omega), rd_get sl i hil, if_neg (by omega), virgateref15_Right.j5, if_neg (by rw [decide_eq_true_eq]; omega), count_f fr hl _ k (by omega), wrap64_id ((i : Int) + 1) (by omega) (by omega), show (i : Int) + 1 = ((i + 1 : Nat) : Int) by omega, hci]
    have e := ih k (i + 1) (by omega) (by omega)
    by_cases h0 : sl[i] = 0
    · rw [if_pos h0, if_pos h0, Option.bind_some, if_pos (by rfl)]
      exact e
    · rw [if_neg h0, if_neg h0, Option.bind_some, if_pos (by rfl)]
      exact e
theorem right_l1 (i : Nat) (hi : i ≤ M.length) (hM : M.length ≤ 64) (f0 f1 : ByteArray) (hn : ∀ a ∈ M.take i, (a.f0.toList == f0.toList && a.f1.toList == f1.toList) = false) : ∀ (d k q : Nat), q + d = i →
    virgateref15_Right.l1 (k + d + 1) M (M.length : Int) (i : Int) (M.take i) ((M.take i).length : Int) (q : Int) addr aff sl fr M f0 f1 = virgateref15_Right.l0 k M (M.length : Int) ((i + 1 : Nat) : Int) addr aff sl fr M := by
  have hlen : (M.take i).length = i := by rw [List.length_take]; omega
  intro d
  induction d with
  | zero =>
    intro k q hq
    rw [virgateref15_Right.l1, if_neg (by omega), wrap64_id ((i : Int) + 1) (by omega) (by omega), show (i : Int) + 1 = ((i + 1 : Nat) : Int) by omega]
  | succ d ih =>
    intro k q hq
    have hqi : q < (M.take i).length := by omega
    have hx := hn _ (List.getElem_mem hqi)
    have e : rd_T76 (M.take i) (q : Int) = (M.take i)[q] := by
      unfold rd_T76
      rw [Int.toNat_natCast, List.getD, List.getElem?_eq_getElem hqi]
      rfl
    rw [show k + (d + 1) + 1 = (k + d + 1) + 1 by omega, virgateref15_Right.l1, if_pos (by omega), if_pos (by omega), if_pos (by omega), e, hx, if_neg (by decide), wrap64_id ((q : Int) + 1) (by omega) (by omega), show (q : Int) + 1 = ((q + 1 : Nat) : Int) by omega]
    exact ih k (q + 1) (by omega)
theorem right_l0 (hf : ∀ x ∈ fr, 0 ≤ x ∧ x ≤ 63) (hl : fr.length ≤ 100) (hsl : sl.length ≤ 100) (hs : ∀ x ∈ sl, 0 ≤ x ∧ x ≤ (M.length : Int))
    (hc : ∀ (i : Nat) (h : i < sl.length), fr.count (i : Int) = if sl[i] = 0 then 1 else 0) (hM : M.length ≤ 64)
    (hm : ∀ (i : Nat) (h : i < M.length), mayAt ⟨M[i].f0, M[i].f1⟩ = true) (hu : ∀ i, i < M.length → sl.count ((i + 1 : Nat) : Int) ≠ 0)
    (hn : ∀ (i : Nat) (h : i < M.length), ∀ a ∈ M.take i, (a.f0.toList == M[i].f0.toList && a.f1.toList == M[i].f1.toList) = false) : ∀ (d k i : Nat), i + d = M.length → 70 * d + 500 < k → virgateref15_Right.l0 k M (M.length : Int) (i : Int) addr aff sl fr M = some true := by
  intro d
  induction d with
  | zero =>
    intro k i hi hk
    obtain ⟨k, rfl⟩ : ∃ m, k = m + 1 := ⟨k - 1, by omega⟩
    rw [virgateref15_Right.l0, if_neg (by omega)]
    exact right_l2 addr aff sl fr M hf (by omega) (by omega) hs hc sl.length k 0 (by omega) (by omega)
  | succ d ih =>
    intro k i hi hk
    have hil : i < M.length := by omega
    obtain ⟨k, rfl⟩ : ∃ m, k = (m + i + 1) + 2 := ⟨k - i - 3, by omega⟩
    have e : rd_T76 M (i : Int) = M[i] := by simp [rd_T76, List.getD, hil]
    have hmay := may15_f ⟨M[i].f0, M[i].f1⟩ (hm i hil) (k + i + 1 + 1) (by omega)
    have hcz : (((sl.count ((i + 1 : Nat) : Int) : Nat) : Int) == 0) = false := by
      rw [beq_eq_false_iff_ne]
      have := hu i hil
      omega
    rw [virgateref15_Right.l0, if_pos (by omega), if_pos (by omega), if_pos (by omega), e, hmay, Option.bind_some, if_pos rfl, wrap64_id ((i : Int) + 1) (by omega) (by omega), show (i : Int) + 1 = ((i + 1 : Nat) : Int) by omega, count_f sl (by omega) _ _ (by omega), Option.bind_some, hcz, virgateref15_Right.j2, if_neg (by decide), if_pos (by omega), if_pos (by omega), Option.bind_some, Int.toNat_natCast]
    have e1 := right_l1 addr aff sl fr M i (by omega) hM M[i].f0 M[i].f1 (hn i hil) i k 0 (by omega)
    rw [show ((0 : Nat) : Int) = 0 from rfl] at e1
    rw [e1]
    exact ih k (i + 1) (by omega) (by omega)
end
theorem mem_of_count {l : List Int} {x : Int} (h : x ∈ l) : l.count x ≠ 0 := by
  have := List.count_pos_iff.2 h
  omega
theorem ref_right {b : Bk} (hk : BkOk b) (hp : RightP b) (hl : b.slots.length = 64) : RefRight b true := by
  have hfl := hp.free_len hl
  have hal := hp.na
  have hfree : ∀ (j : Nat) (h : j < b.free.length), (0 ≤ b.free[j] ∧ b.free[j] < 64) ∧ b.free[j] ∉ b.free.take j ∧ b.slots.getD (b.free[j]).toNat 0 = 0 := by
    intro j h
    have hb := hp.fr j h
    unfold freeBad at hb
    rw [rd_get b.free j h] at hb
    simp only [Bool.or_eq_false_iff, decide_eq_false_iff_not, bne_eq_false_iff_eq] at hb
    have := hk.f8 _ (List.getElem_mem h)
    exact ⟨⟨by omega, by omega⟩, hb.2.1, hb.2.2⟩
  have hnd : b.free.Nodup := by
    rw [List.Nodup, List.pairwise_iff_getElem]
    intro i j hi hj hij e
    exact (hfree j hj).2.1 (by rw [← e, List.mem_take_iff_getElem]; exact ⟨i, by omega, rfl⟩)
  have hf63 : ∀ x ∈ b.free, 0 ≤ x ∧ x ≤ 63 := by
    intro x hx
    obtain ⟨j, hj, rfl⟩ := List.getElem_of_mem hx
    have := (hfree j hj).1
    omega
  have hcount : ∀ (i : Nat) (h : i < b.slots.length), b.free.count (i : Int) = if b.slots[i] = 0 then 1 else 0 := by
    intro i h
    have h01 : b.free.count (i : Int) ≤ 1 := List.nodup_iff_count.1 hnd _
    by_cases h0 : b.slots[i] = 0
    · rw [if_pos h0]
      by_cases hm : (i : Int) ∈ b.free
      · have := mem_of_count hm
        omega
      · exfalso
        have hz : (((List.range b.slots.length).filter (fun j => b.slots.getD j 0 == 0)).map (fun j : Nat => (j : Int))).length = b.free.length := by
          rw [List.length_map, ← hp.zc, ← List.countP_eq_length_filter]
          have e : b.slots = (List.range b.slots.length).map (fun j => b.slots.getD j 0) := by
            apply List.ext_getElem
            · simp
            · intro q h1 h2
              simp [List.getD, h1]
          conv => rhs; rw [e]
          rw [List.countP_map]
          rfl
        have h2 : ((i : Int) :: b.free).length ≤ (((List.range b.slots.length).filter (fun j => b.slots.getD j 0 == 0)).map (fun j : Nat => (j : Int))).length := by
          refine nodup_le _ _ (List.nodup_cons.2 ⟨hm, hnd⟩) (fun x hx => ?_)
          rcases List.mem_cons.1 hx with rfl | hx
          · exact List.mem_map.2 ⟨i, List.mem_filter.2 ⟨List.mem_range.2 h, by simp [List.getD, h, h0]⟩, rfl⟩
          · obtain ⟨j, hj, rfl⟩ := List.getElem_of_mem hx
            have hq := hfree j hj
            exact List.mem_map.2 ⟨(b.free[j]).toNat, List.mem_filter.2 ⟨List.mem_range.2 (by omega), by rw [hq.2.2]; rfl⟩, by omega⟩
        rw [hz, List.length_cons] at h2
        omega
    · rw [if_neg h0]
      refine List.count_eq_zero.2 (fun hm => h0 ?_)
      obtain ⟨j, hj, e⟩ := List.getElem_of_mem hm
      have hq := (hfree j hj).2.2
      rw [e, Int.toNat_natCast] at hq
      simpa [List.getD, h] using hq
  have hused : ∀ i, i < b.attrs.length → b.slots.count ((i + 1 : Nat) : Int) ≠ 0 := by
    intro i hi
    by_cases hm : ((i + 1 : Nat) : Int) ∈ b.slots
    · exact mem_of_count hm
    · exfalso
      have h2 : ((i : Int) :: listOf (usedN b.slots)).length ≤ ((List.range b.attrs.length).map (fun j : Nat => (j : Int))).length := by
        refine nodup_le _ _ (List.nodup_cons.2 ⟨fun hx => hm ?_, listN_nodup _ 64⟩) (fun x hx => ?_)
        · obtain ⟨q, hq, h64, ht⟩ := mem_listN_nat _ _ _ hx
          unfold usedN at ht
          rw [ofN_testBit _ q h64, decide_eq_true_eq, List.mem_map] at ht
          obtain ⟨s, hs, he⟩ := ht
          have : s = ((i + 1 : Nat) : Int) := by omega
          exact this ▸ hs
        · rcases List.mem_cons.1 hx with rfl | hx
          · exact List.mem_map.2 ⟨i, List.mem_range.2 hi, rfl⟩
          · obtain ⟨q, rfl, h64, ht⟩ := mem_listN_nat _ _ _ hx
            unfold usedN at ht
            rw [ofN_testBit _ q h64, decide_eq_true_eq, List.mem_map] at ht
            obtain ⟨s, hs, he⟩ := ht
            have := hp.sa s hs
            exact List.mem_map.2 ⟨q, List.mem_range.2 (by omega), rfl⟩
      rw [List.length_cons, hp.used, List.length_map, List.length_range] at h2
      omega
  have hML : (b.attrs.map vc).length = b.attrs.length := List.length_map ..
  have hat : ∀ (i : Nat) (h : i < b.attrs.length), atN b.attrs i = b.attrs[i] := by
    intro i h
    simp [atN, rd_T85, List.getD, h]
  refine ⟨6000, ?_⟩
  have h0 := hp.first
  unfold firstI at h0
  have hmod : Int.tmod b.addr 64 = 0 := by
    rw [Int.tmod_eq_emod_of_nonneg hk.a0]
    omega
  unfold virgateref15_Right.f
  rw [if_pos hmod, owner15_f b.aff hp.owner 6000 (by omega), Option.bind_some, if_pos rfl, if_neg (by rw [hML]; omega), hl, show (((64 : Nat) : Int) != 64) = false from rfl, virgateref15_Right.j0, if_neg (by decide)]
  refine right_l0 b.addr b.aff b.slots b.free (b.attrs.map vc) hf63 (by omega) (by omega) (fun x hx => ⟨(hk.s8 x hx).1, by rw [hML]; exact hp.sa x hx⟩) hcount (by omega) ?_ ?_ ?_ b.attrs.length 5999 0 (by omega) (by omega)
  · intro i h
    have h' : i < b.attrs.length := by omega
    have := hp.may i h'
    rw [hat i h'] at this
    simpa [vc] using this
  · intro i h
    exact hused i (by omega)
  · intro i h a ha
    have h' : i < b.attrs.length := by omega
    have h3 := hp.nd i h'
    rw [hat i h', List.any_eq_false] at h3
    rw [← List.map_take] at ha
    obtain ⟨c, hc, rfl⟩ := List.mem_map.1 ha
    have h4 := h3 c hc
    rw [Bool.eq_false_iff]
    intro he
    apply h4
    unfold sameAt
    simp only [List.getElem_map, vc, Bool.and_eq_true, beq_iff_eq] at he ⊢
    exact ⟨he.1.symm, he.2.symm⟩
end Go.Proofs.Ytemhalnhbgkbcaa.V
end

-- BRightAll
section
/- The document's Right of any block is the program's. -/
namespace Go.Proofs.Ytemhalnhbgkbcaa.V
open Go.RowKit Go.Proofs.YtemhalnhbgkbcaaW.PrintWords Go.Proofs.YtemhalnhbgkbcaaW.PrintLast Go.Proofs.YtemhalnhbgkbcaaW.PrintMore
set_option linter.unusedVariables false
set_option linter.unusedSimpArgs false

theorem may15_any (f0 f1 : ByteArray) (h0 : f0.size ≤ 9223372036854775807) (h1 : f1.size ≤ 9223372036854775807) (k : Nat) (hk : 9223372036854775808 ≤ k) : virgateref15_May.f k f0 f1 = some (mayAt ⟨f0, f1⟩) := by
  unfold virgateref15_May.f mayAt
  rw [r12_f f0 h0 k (by omega), Option.bind_some]
  cases hr : rightName f0 with
  | true => rw [if_pos rfl, r12_f f1 h1 k (by omega), Option.bind_some, Bool.true_and]
  | false => rw [if_neg (by decide), Bool.false_and]
theorem owner15_any (s : ByteArray) (hs : s.size ≤ 9223372036854775807) (k : Nat) (hk : 9223372036854775808 ≤ k) : virgateref15_Owner.f k s = some (ownerB s) := by
  unfold virgateref15_Owner.f ownerB
  by_cases h0 : s.toList = []
  · rw [if_pos h0]; simp [h0]
  · rw [if_neg h0, r12_f s hs k (by omega), Option.bind_some]; simp [h0]
section
variable (addr : Int) (aff : ByteArray) (sl fr : List Int) (M : List S76)
theorem all_l3 (hl : fr.length ≤ 1000) : ∀ (d k i : Nat), i + d = fr.length → d < k → ∃ r, virgateref15_Right.l3 k fr (fr.length : Int) (i : Int) = some r ∧ (r = true → ∀ (j : Nat) (h : j < fr.length), i ≤ j → 0 ≤ fr[j] ∧ fr[j] ≤ 63) := by
  intro d
  induction d with
  | zero =>
    intro k i hi hk
    obtain ⟨k, rfl⟩ : ∃ m, k = m + 1 := ⟨k - 1, by omega⟩
    refine ⟨true, ?_, fun _ j h hj => by omega⟩
    rw [virgateref15_Right.l3, if_neg (by omega)]
  | succ d ih =>
    intro k i hi hk
    obtain ⟨k, rfl⟩ : ∃ m, k = m + 1 := ⟨k - 1, by omega⟩
    have hil : i < fr.length := by omega
    rw [virgateref15_Right.l3, if_pos (by omega), if_pos (by omega), if_pos (by omega), rd_get fr i hil, wrap64_id ((i : Int) + 1) (by omega) (by omega), show (i : Int) + 1 = ((i + 1 : Nat) : Int) by omega]
    by_cases h1 : fr[i] < 0
    · exact ⟨false, by rw [if_pos h1], fun h => by cases h⟩
    · by_cases h2 : fr[i] > 63
      · exact ⟨false, by rw [if_neg h1, if_pos h2], fun h => by cases h⟩
      · obtain ⟨r, hr, hc⟩ := ih k (i + 1) (by omega) (by omega)
        refine ⟨r, by rw [if_neg h1, if_neg h2, hr], fun h j hj hij => ?_⟩
        rcases Nat.eq_or_lt_of_le hij with rfl | hlt
        · exact ⟨by omega, by omega⟩
        · exact hc h j hj (by omega)
theorem all_l2 (hl : fr.length ≤ 1000) (hsl : sl.length ≤ 1000) (hM : M.length ≤ 1000) : ∀ (d k i : Nat), i + d = sl.length → 2 * d + fr.length + 10 < k → ∃ r, virgateref15_Right.l2 k sl (sl.length : Int) (i : Int) addr aff sl fr M = some r ∧
    (r = true → (∀ (j : Nat) (h : j < sl.length), i ≤ j → (0 ≤ sl[j] ∧ sl[j] ≤ (M.length : Int)) ∧ fr.count (j : Int) = if sl[j] = 0 then 1 else 0) ∧ ∀ (j : Nat) (h : j < fr.length), 0 ≤ fr[j] ∧ fr[j] ≤ 63) := by
  intro d
  induction d with
  | zero =>
    intro k i hi hk
    obtain ⟨k, rfl⟩ : ∃ m, k = m + 1 := ⟨k - 1, by omega⟩
    rw [virgateref15_Right.l2, if_neg (by omega)]
    obtain ⟨r, hr, hc⟩ := all_l3 fr hl fr.length k 0 (by omega) (by omega)
    exact ⟨r, hr, fun h => ⟨fun j hj hij => by omega, fun j hj => hc h j hj (by omega)⟩⟩
  | succ d ih =>
    intro k i hi hk
    obtain ⟨k, rfl⟩ : ∃ m, k = m + 2 := ⟨k - 2, by omega⟩
    have hil : i < sl.length := by omega
    rw [virgateref15_Right.l2, if_pos (by omega), if_pos (by omega), if_pos (by omega), rd_get sl i hil]
    by_cases h1 : sl[i] < 0
    · refine ⟨false, ?_, fun h => by cases h⟩
      rw [if_pos h1, virgateref15_Right.j5, if_pos rfl]
    · rw [if_neg h1, virgateref15_Right.j5, count_f fr hl _ k (by omega), wrap64_id ((i : Int) + 1) (by omega) (by omega), show (i : Int) + 1 = ((i + 1 : Nat) : Int) by omega]
      by_cases h2 : sl[i] > (M.length : Int)
      · exact ⟨false, by rw [if_pos (by rw [decide_eq_true_eq]; exact h2)], fun h => by cases h⟩
      · rw [if_neg (by rw [decide_eq_true_eq]; exact h2)]
        obtain ⟨r, hr, hc⟩ := ih k (i + 1) (by omega) (by omega)
        have step : (fr.count (i : Int) = if sl[i] = 0 then 1 else 0) → (r = true → (∀ (j : Nat) (h : j < sl.length), i ≤ j → (0 ≤ sl[j] ∧ sl[j] ≤ (M.length : Int)) ∧ fr.count (j : Int) = if sl[j] = 0 then 1 else 0) ∧ ∀ (j : Nat) (h : j < fr.length), 0 ≤ fr[j] ∧ fr[j] ≤ 63) := by
          intro he h
          obtain ⟨c1, c2⟩ := hc h
          refine ⟨fun j hj hij => ?_, c2⟩
          rcases Nat.eq_or_lt_of_le hij with rfl | hlt
          · exact ⟨⟨by omega, by omega⟩, he⟩
          · exact c1 j hj (by omega)
        by_cases h0 : sl[i] = 0
        · rw [if_pos h0, Option.bind_some]
          by_cases h3 : fr.count (i : Int) = 1
          · exact ⟨r, by rw [if_pos (by rw [h3]; rfl), hr], step (by rw [if_pos h0]; exact h3)⟩
          · exact ⟨false, by rw [if_neg (by omega)], fun h => by cases h⟩
        · rw [if_neg h0, Option.bind_some]
          by_cases h3 : fr.count (i : Int) = 0
          · exact ⟨r, by rw [if_pos (by rw [h3]; rfl), hr], step (by rw [if_neg h0]; exact h3)⟩
          · exact ⟨false, by rw [if_neg (by omega)], fun h => by cases h⟩
theorem all_l1 (i : Nat) (hi : i ≤ M.length) (hM : M.length ≤ 64) (f0 f1 : ByteArray) : ∀ (d k q : Nat), q + d = i →
    virgateref15_Right.l1 (k + d + 1) M (M.length : Int) (i : Int) (M.take i) ((M.take i).length : Int) (q : Int) addr aff sl fr M f0 f1 = some false ∨
    (virgateref15_Right.l1 (k + d + 1) M (M.length : Int) (i : Int) (M.take i) ((M.take i).length : Int) (q : Int) addr aff sl fr M f0 f1 = virgateref15_Right.l0 k M (M.length : Int) ((i + 1 : Nat) : Int) addr aff sl fr M ∧
      ∀ (j : Nat) (h : j < (M.take i).length), q ≤ j → ((M.take i)[j].f0.toList == f0.toList && (M.take i)[j].f1.toList == f1.toList) = false) := by
  have hlen : (M.take i).length = i := by rw [List.length_take]; omega
  intro d
  induction d with
  | zero =>
    intro k q hq
    right
    refine ⟨?_, fun j hj hqj => by omega⟩
    rw [virgateref15_Right.l1, if_neg (by omega), wrap64_id ((i : Int) + 1) (by omega) (by omega), show (i : Int) + 1 = ((i + 1 : Nat) : Int) by omega]
  | succ d ih =>
    intro k q hq
    have hqi : q < (M.take i).length := by omega
    have e : rd_T76 (M.take i) (q : Int) = (M.take i)[q] := by
      unfold rd_T76
      rw [Int.toNat_natCast, List.getD, List.getElem?_eq_getElem hqi]
      rfl
    rw [show k + (d + 1) + 1 = (k + d + 1) + 1 by omega, virgateref15_Right.l1, if_pos (by omega), if_pos (by omega), if_pos (by omega), e, wrap64_id ((q : Int) + 1) (by omega) (by omega), show (q : Int) + 1 = ((q + 1 : Nat) : Int) by omega]
    cases hx : ((M.take i)[q].f0.toList == f0.toList && (M.take i)[q].f1.toList == f1.toList) with
    | true => left; rw [if_pos rfl]
    | false =>
      rw [if_neg (by decide)]
      rcases ih k (q + 1) (by omega) with h | ⟨h, hc⟩
      · exact .inl h
      · refine .inr ⟨h, fun j hj hqj => ?_⟩
        rcases Nat.eq_or_lt_of_le hqj with rfl | hlt
        · exact hx
        · exact hc j hj (by omega)
theorem all_l0 (hl : fr.length ≤ 100) (hsl : sl.length ≤ 100) (hM : M.length ≤ 64) (hz : ∀ a ∈ M, a.f0.size ≤ 9223372036854775807 ∧ a.f1.size ≤ 9223372036854775807) : ∀ (d k i : Nat), i + d = M.length → 70 * d + 9223372036854777000 < k →
    ∃ r, virgateref15_Right.l0 k M (M.length : Int) (i : Int) addr aff sl fr M = some r ∧
    (r = true → ((∀ (j : Nat) (h : j < sl.length), (0 ≤ sl[j] ∧ sl[j] ≤ (M.length : Int)) ∧ fr.count (j : Int) = if sl[j] = 0 then 1 else 0) ∧ ∀ (j : Nat) (h : j < fr.length), 0 ≤ fr[j] ∧ fr[j] ≤ 63) ∧
      ∀ (j : Nat) (h : j < M.length), i ≤ j → mayAt ⟨M[j].f0, M[j].f1⟩ = true ∧ sl.count ((j + 1 : Nat) : Int) ≠ 0 ∧ ∀ (q : Nat) (hq : q < (M.take j).length), ((M.take j)[q].f0.toList == M[j].f0.toList && (M.take j)[q].f1.toList == M[j].f1.toList) = false) := by
  intro d
  induction d with
  | zero =>
    intro k i hi hk
    obtain ⟨k, rfl⟩ : ∃ m, k = m + 1 := ⟨k - 1, by omega⟩
    rw [virgateref15_Right.l0, if_neg (by omega)]
    obtain ⟨r, hr, hc⟩ := all_l2 addr aff sl fr M (by omega) (by omega) (by omega) sl.length k 0 (by omega) (by omega)
    exact ⟨r, hr, fun h => ⟨⟨fun j hj => (hc h).1 j hj (by omega), (hc h).2⟩, fun j hj hij => by omega⟩⟩
  | succ d ih =>
    intro k i hi hk
    have hil : i < M.length := by omega
    obtain ⟨k, rfl⟩ : ∃ m, k = (m + i + 1) + 2 := ⟨k - i - 3, by omega⟩
    have e : rd_T76 M (i : Int) = M[i] := by simp [rd_T76, List.getD, hil]
    have hz' := hz M[i] (List.getElem_mem hil)
    have hmay := may15_any M[i].f0 M[i].f1 hz'.1 hz'.2 (k + i + 1 + 1) (by omega)
    rw [virgateref15_Right.l0, if_pos (by omega), if_pos (by omega), if_pos (by omega), e, hmay, Option.bind_some]
    cases hm : mayAt ⟨M[i].f0, M[i].f1⟩ with
    | false => exact ⟨false, by rw [if_neg (by decide), virgateref15_Right.j2, if_pos rfl], fun h => by cases h⟩
    | true =>
      rw [if_pos rfl, wrap64_id ((i : Int) + 1) (by omega) (by omega), show (i : Int) + 1 = ((i + 1 : Nat) : Int) by omega, count_f sl (by omega) _ _ (by omega), Option.bind_some, virgateref15_Right.j2]
      by_cases h0 : sl.count ((i + 1 : Nat) : Int) = 0
      · exact ⟨false, by rw [h0, if_pos (by rfl)], fun h => by cases h⟩
      · have hcz : (((sl.count ((i + 1 : Nat) : Int) : Nat) : Int) == 0) = false := by rw [beq_eq_false_iff_ne]; omega
        rw [hcz, if_neg (by decide), if_pos (by omega), if_pos (by omega), Option.bind_some, Int.toNat_natCast]
        have e1 := all_l1 addr aff sl fr M i (by omega) hM M[i].f0 M[i].f1 i k 0 (by omega)
        rw [show ((0 : Nat) : Int) = 0 from rfl] at e1
        rcases e1 with e1 | ⟨e1, hd⟩
        · exact ⟨false, e1, fun h => by cases h⟩
        · obtain ⟨r, hr, hc⟩ := ih k (i + 1) (by omega) (by omega)
          refine ⟨r, by rw [e1, hr], fun h => ⟨(hc h).1, fun j hj hij => ?_⟩⟩
          rcases Nat.eq_or_lt_of_le hij with rfl | hlt
          · exact ⟨hm, h0, fun q hq => hd q hq (by omega)⟩
          · exact (hc h).2 j hj (by omega)
end
theorem ref_right_any {b : Bk} (hk : BkOk b) (hl : b.slots.length = 64) (hfl : b.free.length ≤ 100) (hz0 : b.aff.size ≤ 9223372036854775807) (hz : ∀ a ∈ b.attrs, a.f0.size ≤ 9223372036854775807 ∧ a.f1.size ≤ 9223372036854775807) : RefRight b (rightB b) := by
  cases hrt : rightB b with
  | true => exact ref_right hk (right_p hrt) hl
  | false =>
    have hML : (b.attrs.map vc).length = b.attrs.length := List.length_map ..
    suffices h : ∃ r, virgateref15_Right.f 9223372036854790000 b.addr b.aff b.slots b.free (b.attrs.map vc) = some r ∧ (r = true → rightB b = true) by
      obtain ⟨r, hr, hc⟩ := h
      cases r with
      | false => exact ⟨_, hr⟩
      | true => rw [hc rfl] at hrt; cases hrt
    unfold virgateref15_Right.f
    by_cases hmod : Int.tmod b.addr 64 = 0
    · rw [if_pos hmod, owner15_any b.aff hz0 _ (by omega), Option.bind_some]
      cases ho : ownerB b.aff with
      | false => exact ⟨false, by rw [if_neg (by decide), virgateref15_Right.j0, if_pos rfl], fun h => by cases h⟩
      | true =>
        rw [if_pos rfl]
        by_cases hna : ((b.attrs.map vc).length : Int) > 64
        · exact ⟨false, by rw [if_pos hna, virgateref15_Right.j0, if_pos rfl], fun h => by cases h⟩
        · rw [if_neg hna, hl, show (((64 : Nat) : Int) != 64) = false from rfl, virgateref15_Right.j0, if_neg (by decide)]
          obtain ⟨r, hr, hc⟩ := all_l0 b.addr b.aff b.slots b.free (b.attrs.map vc) hfl (by omega) (by omega) (by
            intro a ha
            obtain ⟨x, hx, rfl⟩ := List.mem_map.1 ha
            exact hz x hx) b.attrs.length 9223372036854789999 0 (by omega) (by omega)
          refine ⟨r, hr, fun h => ?_⟩
          obtain ⟨⟨c1, c2⟩, c3⟩ := hc h
          have hat : ∀ (i : Nat) (h : i < b.attrs.length), atN b.attrs i = b.attrs[i] := by
            intro i h
            simp [atN, rd_T85, List.getD, h]
          have hnd : b.free.Nodup := by
            rw [List.nodup_iff_count]
            intro x
            by_cases hx : x ∈ b.free
            · obtain ⟨j, hj, rfl⟩ := List.getElem_of_mem hx
              have hb := c2 j hj
              have hc := (c1 (b.free[j]).toNat (by omega)).2
              rw [Int.toNat_of_nonneg hb.1] at hc
              rw [hc]
              split <;> omega
            · rw [List.count_eq_zero.2 hx]
              omega
          have hmem : ∀ (j : Nat) (h : j < b.free.length), b.slots.getD (b.free[j]).toNat 0 = 0 := by
            intro j hj
            have hb := c2 j hj
            have hlt : (b.free[j]).toNat < b.slots.length := by omega
            have hc := (c1 (b.free[j]).toNat hlt).2
            rw [Int.toNat_of_nonneg hb.1] at hc
            by_cases h0 : b.slots[(b.free[j]).toNat] = 0
            · simp [List.getD, hlt, h0]
            · rw [if_neg h0] at hc
              exact absurd (List.getElem_mem hj) (List.count_eq_zero.1 hc)
          have hzs : (((List.range b.slots.length).filter (fun j => b.slots.getD j 0 == 0)).map (fun j : Nat => (j : Int))).length = b.slots.countP (fun x => x == 0) := by
            rw [List.length_map, ← List.countP_eq_length_filter]
            have e : b.slots = (List.range b.slots.length).map (fun j => b.slots.getD j 0) := by
              apply List.ext_getElem
              · simp
              · intro q h1 h2
                simp [List.getD, h1]
            conv => rhs; rw [e]
            rw [List.countP_map]
            rfl
          have hznd : (((List.range b.slots.length).filter (fun j => b.slots.getD j 0 == 0)).map (fun j : Nat => (j : Int))).Nodup := by
            unfold List.Nodup
            rw [List.pairwise_map]
            exact (List.Pairwise.filter _ List.nodup_range).imp (fun {a b} h e => h (by omega))
          have hzc : b.slots.countP (fun x => x == 0) = b.free.length := by
            apply Nat.le_antisymm
            · rw [← hzs]
              refine nodup_le _ _ hznd (fun x hx => ?_)
              obtain ⟨j, hj, rfl⟩ := List.mem_map.1 hx
              obtain ⟨hj1, hj2⟩ := List.mem_filter.1 hj
              rw [List.mem_range] at hj1
              have hc := (c1 j hj1).2
              have h0 : b.slots[j] = 0 := by simpa [List.getD, hj1] using hj2
              rw [if_pos h0] at hc
              exact List.count_pos_iff.1 (by omega)
            · rw [← hzs]
              refine nodup_le _ _ hnd (fun x hx => ?_)
              obtain ⟨j, hj, rfl⟩ := List.getElem_of_mem hx
              have hb := c2 j hj
              exact List.mem_map.2 ⟨(b.free[j]).toNat, List.mem_filter.2 ⟨List.mem_range.2 (by omega), by rw [hmem j hj]; rfl⟩, by omega⟩
          have hused : (listOf (usedN b.slots)).length = b.attrs.length := by
            apply Nat.le_antisymm
            · have h2 : (listOf (usedN b.slots)).length ≤ ((List.range b.attrs.length).map (fun j : Nat => (j : Int))).length := by
                refine nodup_le _ _ (listN_nodup _ 64) (fun x hx => ?_)
                obtain ⟨q, rfl, h64, ht⟩ := mem_listN_nat _ _ _ hx
                unfold usedN at ht
                rw [ofN_testBit _ q h64, decide_eq_true_eq, List.mem_map] at ht
                obtain ⟨s, hs, he⟩ := ht
                obtain ⟨j, hj, rfl⟩ := List.getElem_of_mem hs
                have := (c1 j hj).1
                exact List.mem_map.2 ⟨q, List.mem_range.2 (by omega), rfl⟩
              simpa using h2
            · have h2 : ((List.range b.attrs.length).map (fun j : Nat => (j : Int))).length ≤ (listOf (usedN b.slots)).length := by
                refine nodup_le _ _ ?_ (fun x hx => ?_)
                · unfold List.Nodup
                  rw [List.pairwise_map]
                  exact List.nodup_range.imp (fun {a b} h e => h (by omega))
                · obtain ⟨q, hq, rfl⟩ := List.mem_map.1 hx
                  rw [List.mem_range] at hq
                  refine (mem_listN _ _ _).2 ⟨by omega, ?_⟩
                  unfold usedN
                  rw [ofN_testBit _ q (by omega), decide_eq_true_eq, List.mem_map]
                  have hcq := (c3 q (by omega) (by omega)).2.1
                  exact ⟨((q + 1 : Nat) : Int), List.count_pos_iff.1 (by omega), by omega⟩
              simpa using h2
          unfold rightB attrsOk freeOk
          simp only [Bool.and_eq_true, decide_eq_true_eq, List.all_eq_true, beq_iff_eq, List.mem_range, Bool.not_eq_true']
          refine ⟨?_, ho, by omega, ⟨?_, ?_, hused⟩, ?_, hzc⟩
          · unfold firstI
            have := hk.a0
            rw [Int.tmod_eq_emod_of_nonneg hk.a0] at hmod
            omega
          · intro x hx
            obtain ⟨j, hj, rfl⟩ := List.getElem_of_mem hx
            have := (c1 j hj).1
            omega
          · intro j hj
            have h3 := c3 j (by omega) (by omega)
            rw [hat j hj]
            refine ⟨by simpa [vc] using h3.1, ?_⟩
            rw [List.any_eq_false]
            intro x hx
            obtain ⟨q, hq, rfl⟩ := List.getElem_of_mem hx
            have h4 := h3.2.2 q (by rw [List.length_take] at hq ⊢; omega)
            intro he
            unfold sameAt at he
            simp only [List.getElem_take, List.getElem_map, vc] at h4 he
            rw [Bool.and_eq_true, beq_iff_eq, beq_iff_eq] at he
            rw [he.1, he.2] at h4
            simp at h4
          · intro j hj
            unfold freeBad
            rw [rd_get b.free j hj]
            have hb := c2 j hj
            simp only [Bool.or_eq_false_iff, decide_eq_false_iff_not, bne_eq_false_iff_eq]
            refine ⟨by omega, fun hm => ?_, hmem j hj⟩
            rw [List.mem_take_iff_getElem] at hm
            obtain ⟨q, hq, e⟩ := hm
            exact (List.pairwise_iff_getElem.1 hnd) q j (by omega) hj (by omega) e
    · exact ⟨false, by rw [if_neg hmod, virgateref15_Right.j0, if_pos rfl], fun h => by cases h⟩
end Go.Proofs.Ytemhalnhbgkbcaa.V
end

-- BReadLaw
section
/- Bytes that are read as a block are that block's. -/
namespace Go.Proofs.Ytemhalnhbgkbcaa.V
open Go.RowKit Go.Proofs.YtemhalnhbgkbcaaW.PrintWords Go.Proofs.YtemhalnhbgkbcaaW.PrintLast Go.Proofs.YtemhalnhbgkbcaaW.PrintMore
set_option linter.unusedVariables false
set_option linter.unusedSimpArgs false

theorem bytesOf_str {l : List Int} (h : U8s l) : bytesOf (strOfNums l) = l := by
  unfold bytesOf
  rw [strOfNums_data, List.map_map]
  conv => rhs; rw [← List.map_id l]
  apply List.map_congr_left
  intro x hx
  have := h x hx
  simp only [Function.comp, id]
  rw [show (UInt8.ofNat x.toNat).toNat = x.toNat % 256 from rfl]
  omega
theorem str_bytesOf (s : ByteArray) : strOfNums (bytesOf s) = s := by
  apply ByteArray.ext
  apply Array.ext'
  rw [strOfNums_data]
  unfold bytesOf
  rw [List.map_map]
  conv => rhs; rw [← List.map_id s.data.toList]
  apply List.map_congr_left
  intro b _
  simp
end Go.Proofs.Ytemhalnhbgkbcaa.V
end

-- BPutLaw
section
/- A right block's bytes are read as it. -/
namespace Go.Proofs.Ytemhalnhbgkbcaa.V
open Go.RowKit Go.Proofs.YtemhalnhbgkbcaaW.PrintWords Go.Proofs.YtemhalnhbgkbcaaW.PrintLast Go.Proofs.YtemhalnhbgkbcaaW.PrintMore
set_option linter.unusedVariables false
set_option linter.unusedSimpArgs false

theorem bytesP_app (x y : List Int) (n : Int) (h : (x.length : Int) = n) : bytesP (x ++ y) false n = (x, y, false) := by
  unfold bytesP
  have e : n.toNat = x.length := by omega
  rw [if_pos ⟨rfl, by omega, by rw [List.length_append]; omega⟩, e, List.take_left, List.drop_left]
theorem textB_eq (s : ByteArray) : textB s = [(s.size : Int)] ++ bytesOf s := rfl
theorem textP_app (s : ByteArray) (hs : s.size ≤ 64) (y : List Int) : textP (textB s ++ y) false = (bytesOf s, y, false) := by
  have e : bytesP (textB s ++ y) false 1 = ([(s.size : Int)], bytesOf s ++ y, false) := by
    rw [textB_eq, List.append_assoc]
    exact bytesP_app _ _ 1 rfl
  unfold textP
  rw [e]
  have en : numP [(s.size : Int)] = s.size := by simp [numP]
  dsimp only
  rw [en, show decide (64 < s.size) = false by simp; omega, Bool.or_false]
  exact bytesP_app _ _ _ (by rw [bytesOf_length])
theorem attrsP_app : ∀ (l : List At) (y : List Int), (∀ a ∈ l, a.f0.size ≤ 64 ∧ a.f1.size ≤ 64) → attrsP l.length (l.flatMap attB ++ y) false = (l, y, false)
  | [], y, _ => rfl
  | a :: l, y, h => by
    obtain ⟨h0, h1⟩ := h a (by simp)
    have ih := attrsP_app l y (fun b hb => h b (by simp [hb]))
    have e : (a :: l).flatMap attB ++ y = textB a.f0 ++ (textB a.f1 ++ (l.flatMap attB ++ y)) := by
      rw [List.flatMap_cons]
      show (textB a.f0 ++ textB a.f1) ++ l.flatMap attB ++ y = _
      simp only [List.append_assoc]
    have t0 := textP_app a.f0 h0 (textB a.f1 ++ (l.flatMap attB ++ y))
    have t1 := textP_app a.f1 h1 (l.flatMap attB ++ y)
    rw [e, List.length_cons]
    unfold attrsP
    have e2 : text2P (textB a.f0 ++ (textB a.f1 ++ (l.flatMap attB ++ y))) = (bytesOf a.f1, l.flatMap attB ++ y, false) := by
      unfold text2P
      rw [t0]
      exact t1
    have e3 : attr1 (textB a.f0 ++ (textB a.f1 ++ (l.flatMap attB ++ y))) = a := by
      unfold attr1
      rw [t0, e2]
      dsimp only
      rw [str_bytesOf, str_bytesOf]
    rw [if_neg (by decide), e2, e3, ih]
theorem be4_u8 (n : Nat) : U8s (be4 n) := by
  intro x hx
  simp only [be4, List.mem_cons, List.not_mem_nil, or_false] at hx
  rcases hx with rfl | rfl | rfl | rfl <;> omega
theorem be4_back (n : Nat) (h : n < 4294967296) : numP (be4 n) = n := by
  simp only [be4, numP, List.foldl_cons, List.foldl_nil, Int.toNat_natCast]
  omega
theorem textB_u8 (s : ByteArray) (hs : s.size ≤ 64) : U8s (textB s) := by
  intro x hx
  rw [textB_eq] at hx
  rcases List.mem_append.1 hx with h | h
  · rw [List.mem_singleton] at h
    omega
  · exact bytesOf_u8 s x h
theorem U8s_app {x y : List Int} (hx : U8s x) (hy : U8s y) : U8s (x ++ y) := by
  intro z hz
  rcases List.mem_append.1 hz with h | h
  · exact hx z h
  · exact hy z h
theorem may_sizes {b : Bk} (hp : RightP b) : ∀ a ∈ b.attrs, a.f0.size ≤ 64 ∧ a.f1.size ≤ 64 := by
  intro a ha
  obtain ⟨j, hj, rfl⟩ := List.getElem_of_mem ha
  have := hp.may j hj
  rw [show atN b.attrs j = b.attrs[j] by simp [atN, rd_T85, List.getD, hj]] at this
  unfold mayAt at this
  rw [Bool.and_eq_true] at this
  exact ⟨(rightName_size this.1).2, (rightName_size this.2).2⟩
theorem imgOf_parts (b : Bk) : imgOf b = [66] ++ (be4 b.addr.toNat ++ (textB b.aff ++ ([(b.attrs.length : Int)] ++ (b.attrs.flatMap attB ++ (b.slots ++ ([(b.free.length : Int)] ++ (b.free ++ []))))))) := by
  unfold imgOf imgPre
  rw [List.take_of_length_le (Nat.le_refl _)]
  simp
theorem imgOf_u8 {b : Bk} (hk : BkOk b) (hp : RightP b) (hl : b.slots.length = 64) : U8s (imgOf b) := by
  have hfl := hp.free_len hl
  have hal := hp.na
  rw [imgOf_parts]
  refine U8s_app (by intro x hx; simp at hx; omega) (U8s_app (be4_u8 _) (U8s_app (textB_u8 _ (owner_size hp.owner)) (U8s_app (by intro x hx; simp at hx; omega) (U8s_app ?_ (U8s_app hk.s8 (U8s_app (by intro x hx; simp at hx; omega) (U8s_app hk.f8 (by intro x hx; simp at hx))))))))
  intro x hx
  obtain ⟨a, ha, hxa⟩ := List.mem_flatMap.1 hx
  have h := may_sizes hp a ha
  exact U8s_app (textB_u8 _ h.1) (textB_u8 _ h.2) x hxa
theorem img_read {b : Bk} (hk : BkOk b) (hp : RightP b) (hrt : rightB b = true) (hl : b.slots.length = 64) : readOk (strOfNums (imgOf b)) = true ∧ readBk (strOfNums (imgOf b)) = b := by
  have hfl := hp.free_len hl
  have hal := hp.na
  have hB : bytesOf (strOfNums (imgOf b)) = imgOf b := bytesOf_str (imgOf_u8 hk hp hl)
  obtain ⟨s, hs⟩ : ∃ s, s = strOfNums (imgOf b) := ⟨_, rfl⟩
  rw [← hs] at hB ⊢
  rw [imgOf_parts] at hB
  have R0 : r0 s = ([66], be4 b.addr.toNat ++ (textB b.aff ++ ([(b.attrs.length : Int)] ++ (b.attrs.flatMap attB ++ (b.slots ++ ([(b.free.length : Int)] ++ (b.free ++ [])))))), false) := by
    unfold r0
    rw [hB]
    exact bytesP_app _ _ 1 rfl
  have R1 : r1 s = (be4 b.addr.toNat, textB b.aff ++ ([(b.attrs.length : Int)] ++ (b.attrs.flatMap attB ++ (b.slots ++ ([(b.free.length : Int)] ++ (b.free ++ []))))), false) := by
    unfold r1
    rw [R0]
    exact bytesP_app _ _ 4 rfl
  have R2 : r2 s = (bytesOf b.aff, [(b.attrs.length : Int)] ++ (b.attrs.flatMap attB ++ (b.slots ++ ([(b.free.length : Int)] ++ (b.free ++ [])))), false) := by
    unfold r2
    rw [R1]
    exact textP_app _ (owner_size hp.owner) _
  have R3 : r3 s = (b.attrs, b.slots ++ ([(b.free.length : Int)] ++ (b.free ++ [])), false) := by
    unfold r3 readAttrs
    rw [R2]
    dsimp only
    rw [bytesP_app [(b.attrs.length : Int)] _ 1 rfl]
    dsimp only
    rw [show numP [(b.attrs.length : Int)] = b.attrs.length by simp [numP]]
    exact attrsP_app _ _ (may_sizes hp)
  have R4 : r4 s = (b.slots, [(b.free.length : Int)] ++ (b.free ++ []), false) := by
    unfold r4
    rw [R3]
    exact bytesP_app _ _ 64 (by rw [hl]; rfl)
  have R5 : r5 s = ([(b.free.length : Int)], b.free ++ [], false) := by
    unfold r5
    rw [R4]
    exact bytesP_app _ _ 1 rfl
  have R6 : r6 s = (b.free, [], false) := by
    unfold r6
    rw [R5]
    dsimp only
    rw [show numP [(b.free.length : Int)] = b.free.length by simp [numP]]
    exact bytesP_app _ _ _ rfl
  have hBk : readBk s = b := by
    unfold readBk
    rw [R1, R2, R4, R6, R3]
    dsimp only
    have h1 := hk.a0
    have h2 := hk.a1
    rw [be4_back _ (by omega), str_bytesOf, Int.toNat_of_nonneg h1]
    unfold copyL
    rw [List.drop_of_length_le (by rw [hl]; simp), List.append_nil]
  refine ⟨?_, hBk⟩
  unfold readOk readDone
  rw [hBk, hrt, R6, R0]
  simp [numP]
end Go.Proofs.Ytemhalnhbgkbcaa.V
end

-- BImgPutW
section
/- ImagePut: the walk. -/
namespace Go.Proofs.Ytemhalnhbgkbcaa.V
open Go.RowKit Go.Proofs.YtemhalnhbgkbcaaW.PrintWords Go.Proofs.YtemhalnhbgkbcaaW.PrintLast Go.Proofs.YtemhalnhbgkbcaaW.PrintMore
set_option linter.unusedVariables false
set_option linter.unusedSimpArgs false

set_option maxHeartbeats 8000000 in
set_option maxRecDepth 100000 in
theorem imagePut_any (r : Rw) (ha0 : 0 ≤ r.addr) (ha1 : r.addr < 4294967296) (hs : U8s r.slots) (hf : U8s r.free) (hz0 : r.aff.size ≤ 9223372036854775807) (hz : ∀ a ∈ r.attrs, a.f0.size ≤ 9223372036854775807 ∧ a.f1.size ≤ 9223372036854775807) (v : Value) (w : World) (h : RwV w v r) :
    Calls Try.prog 8 #[v] w fun e w' => e = .returned (.bool true) ∧ Below w.heap.size w w' := by
  obtain ⟨A, c, A', c', rfl, hr⟩ := h
  have hok : BkOk (ours r) := ⟨ha0, ha1, hs, fun x hx => hf x (List.mem_of_mem_take hx)⟩
  have hl : (ours r).slots.length = 64 := hr.l64
  have hfl : (ours r).free.length ≤ 70 := by show (r.free.take 70).length ≤ 70; rw [List.length_take]; omega
  have hal : (ours r).attrs.length ≤ 70 := by show ((r.attrs.take 70).map cv).length ≤ 70; rw [List.length_map, List.length_take]; omega
  have hrr : RefRight (ours r) (rightB (ours r)) := ref_right_any hok hl (by omega) hz0 (by
    intro a ha
    obtain ⟨x, hx, rfl⟩ := List.mem_map.1 ha
    exact hz x (List.mem_of_mem_take hx))
  have hou : ∀ (v : Value) (w : World), RwV w v r → Calls Try.prog 33 #[v] w fun e w' => ∃ v', e = .returned v' ∧ BkV w' v' (ours r) ∧ Below w.heap.size w w' := fun v w h => (ours_any r hs v w h).mono (by
    rintro e w' ⟨v', rfl, ho, hb⟩
    exact ⟨v', rfl, ho.toV, hb⟩)
  have H68 := Aside0.mk (bkL_length r.addr r.aff r.slots (.slice A r.free.length c) (.slice A' r.attrs.length c') hr.l64)
  have HR := Aside0.mk hr
  clear hr ha0 ha1 hs hf hz0 hz
  generalize ours r = b at hok hl hfl hal hrr hou
  obtain ⟨M, hM⟩ : ∃ M, M = b.attrs.map vc := ⟨_, rfl⟩
  have HOU := Aside0.mk hou
  have HL := Aside0.mk hl
  have HPL := Aside0.mk (plain_m b hok (by omega) (by omega) M hM)
  cases hrt : rightB b with
  | false =>
    rw [hrt] at hrr
    have HRR := Aside0.mk (refright_m b false hrr M hM)
    have hpu := iput_any b hok
    have hsz := isize_any b hok
    rw [hrt] at hpu hsz
    simp only [Bool.false_eq_true, if_false] at hpu hsz
    have HPU := Aside0.mk hpu
    have HSZ := Aside0.mk hsz
    clear hok hl hfl hal hrr hou hpu hsz hrt hM
    go_enter Try.func8, Try.ntmps8
    go_wp2_with (first
      | (refine step_box rfl 51 (.tmp 0) rfl _ rfl ?_; intro g W1 hg hbx hb1; have HX1 := Aside0.mk hbx; have HB1 := Aside0.mk hb1; clear hbx hb1 hg)
      | (refine step_load rfl 51 (.tmp 1) rfl g rfl _ _ _ HX1.out Try.underlying51 rfl 68 (by kernel_rfl) H68.out ?_)
      | (go_at_call 33; refine (HOU.out _ _ ⟨A, c, A', c', rfl, HR.out.below HB1.out⟩).mono ?_; rintro e W2 ⟨v2, rfl, hv2, hb2⟩; obtain ⟨A2, c2, A3, c3, rfl, hr2⟩ := hv2; have HR2 := Aside0.mk hr2; have HB2 := Aside0.mk (HB1.out.trans (hb2.mono HB1.out.size)); clear hr2 hb2 HX1 HB1)
      | (refine step_allocN (some 3) rfl rfl 57 rfl zeroL zero57 ?_; intro g3 W3 hg3 hx3 hb3; have HX3 := Aside0.mk hx3; have HB23 := Aside0.mk hb3; have HG3 := Aside0.mk hg3; clear hx3 hb3 hg3)
      | (refine step_store rfl 57 (.tmp 3) (.tmp 9) rfl g3 (bkL b.addr b.aff b.slots (.slice A2 b.free.length c2) (.slice A3 b.attrs.length c3)) rfl rfl 57 _ HX3.out 68 (by kernel_rfl) (bkL_length _ _ _ _ _ HL.out) rfl (bkL_one _ _ _ _ _ rfl rfl) ?_; intro W4 hx4 hg4; have HX4 := Aside0.mk hx4; have hb24 : Below W2.heap.size W2 W4 := HB23.out.grown hg4 HB23.out.size (by intro k hk; cases hk; exact HG3.out); have HR4 := Aside0.mk (HR2.out.below hb24); have HB4 := Aside0.mk (HB2.out.trans (hb24.mono HB2.out.size)); clear hx4 hg4 hb24 HX3 HB23 HR2 HB2)
      | ((with_reducible refine gate_dst (N := 11) rfl ?_); refine step_load rfl 57 (.tmp 3) rfl g3 rfl _ _ _ HX4.out Try.underlying57 rfl 68 (by kernel_rfl) (bkL_length _ _ _ _ _ HL.out) ?_)
      | (go_at_call 32; refine (HPU.out _ _ (BkV.R HR4.out)).mono ?_; rintro e W5 ⟨rfl, hb5⟩; have HX5 := Aside0.mk (HX4.out.below hb5); have HR5 := Aside0.mk (HR4.out.below hb5); have HB5 := Aside0.mk (HB4.out.trans (hb5.mono HB4.out.size)); clear hb5 HX4 HR4 HB4)
      | ((with_reducible refine gate_dst (N := 15) rfl ?_); refine step_load rfl 57 (.tmp 3) rfl g3 rfl _ _ _ HX5.out Try.underlying57 rfl 68 (by kernel_rfl) (bkL_length _ _ _ _ _ HL.out) ?_)
      | (go_at_call 36; refine (HPL.out _ _ (BkV.R HR5.out)).mono ?_; rintro e W6 ⟨Bs, ds, Bf, df, Ba, da, rfl, p1, p2, p3, hb6⟩; have HX6 := Aside0.mk (HX5.out.below hb6); have HR6 := Aside0.mk (HR5.out.below hb6); have HB6 := Aside0.mk (HB5.out.trans (hb6.mono HB5.out.size)); have P1 := Aside0.mk p1; have P2 := Aside0.mk p2; have P3 := Aside0.mk p3; clear p1 p2 p3; clear hb6 HX5 HR5 HB5)
      | (go_at_call 35; refine (HRR.out Bs Bf Ba ds df da _ P1.out P2.out P3.out).mono ?_; rintro e W7 ⟨rfl, hb7⟩; have HX7 := Aside0.mk (HX6.out.below hb7); have HR7 := Aside0.mk (HR6.out.below hb7); have HB7 := Aside0.mk (HB6.out.trans (hb7.mono HB6.out.size)); clear hb7 HX6 HR6 HB6)
      | ((with_reducible refine gate_dst (N := 26) rfl ?_); refine gate_guard (by rfl) ?_; refine step_load rfl 57 (.tmp 3) rfl g3 rfl _ _ _ HX7.out Try.underlying57 rfl 68 (by kernel_rfl) (bkL_length _ _ _ _ _ HL.out) ?_)
      | (go_at_call 37; refine (HSZ.out _ _ (BkV.R HR7.out)).mono ?_; rintro e W8 ⟨rfl, hb8⟩; have HX8 := Aside0.mk (HX7.out.below hb8); have HR8 := Aside0.mk (HR7.out.below hb8); have HB8 := Aside0.mk (HB7.out.trans (hb8.mono HB7.out.size)); clear hb8 HX7 HR7 HB7)
      | (go_at_call 34; refine (awake16_any _).mono ?_; rintro e W9 ⟨rfl, hb9⟩; have HB9 := Aside0.mk (HB8.out.trans (hb9.mono HB8.out.size)); clear hb9))
    go_ret
    exact ⟨rfl, HB9.out⟩
  | true =>
    rw [hrt] at hrr
    have hp := right_p hrt
    obtain ⟨ir1, ir2⟩ := img_read hok hp hrt hl
    have HRR := Aside0.mk (refright_m b true hrr M hM)
    have hpu := iput_any b hok
    have hsz := isize_any b hok
    rw [hrt] at hpu hsz
    simp only [if_true] at hpu hsz
    have hfit := (img_fits hp hok hl).2
    have hst := strOfNums_size (imgOf b)
    rw [← hst] at hsz hfit
    have hrd := fun w => read_any (strOfNums (imgOf b)) (by omega) w
    rw [ir1, ir2] at hrd
    simp only [if_true] at hrd
    have HPT := Aside0.mk (rput_m b hok hp hl (strOfNums (imgOf b)) rfl M hM)
    have HSM := Aside0.mk (same_any b (by omega) (by omega))
    generalize strOfNums (imgOf b) = s at hpu hsz hrd HPT hfit
    have HPU := Aside0.mk hpu
    have HSZ := Aside0.mk hsz
    have HRD := Aside0.mk hrd
    clear hok hl hfl hal hrr hou hpu hsz hrt hM hp ir1 ir2 hst hrd
    go_enter Try.func8, Try.ntmps8
    go_wp2_with (first
      | (refine step_box rfl 51 (.tmp 0) rfl _ rfl ?_; intro g W1 hg hbx hb1; have HX1 := Aside0.mk hbx; have HB1 := Aside0.mk hb1; clear hbx hb1 hg)
      | (refine step_load rfl 51 (.tmp 1) rfl g rfl _ _ _ HX1.out Try.underlying51 rfl 68 (by kernel_rfl) H68.out ?_)
      | (go_at_call 33; refine (HOU.out _ _ ⟨A, c, A', c', rfl, HR.out.below HB1.out⟩).mono ?_; rintro e W2 ⟨v2, rfl, hv2, hb2⟩; obtain ⟨A2, c2, A3, c3, rfl, hr2⟩ := hv2; have HR2 := Aside0.mk hr2; have HB2 := Aside0.mk (HB1.out.trans (hb2.mono HB1.out.size)); clear hr2 hb2 HX1 HB1)
      | (refine step_allocN (some 3) rfl rfl 57 rfl zeroL zero57 ?_; intro g3 W3 hg3 hx3 hb3; have HX3 := Aside0.mk hx3; have HB23 := Aside0.mk hb3; have HG3 := Aside0.mk hg3; clear hx3 hb3 hg3)
      | (refine step_store rfl 57 (.tmp 3) (.tmp 9) rfl g3 (bkL b.addr b.aff b.slots (.slice A2 b.free.length c2) (.slice A3 b.attrs.length c3)) rfl rfl 57 _ HX3.out 68 (by kernel_rfl) (bkL_length _ _ _ _ _ HL.out) rfl (bkL_one _ _ _ _ _ rfl rfl) ?_; intro W4 hx4 hg4; have HX4 := Aside0.mk hx4; have hb24 : Below W2.heap.size W2 W4 := HB23.out.grown hg4 HB23.out.size (by intro k hk; cases hk; exact HG3.out); have HR4 := Aside0.mk (HR2.out.below hb24); have HB4 := Aside0.mk (HB2.out.trans (hb24.mono HB2.out.size)); clear hx4 hg4 hb24 HX3 HB23 HR2 HB2)
      | ((with_reducible refine gate_dst (N := 11) rfl ?_); refine step_load rfl 57 (.tmp 3) rfl g3 rfl _ _ _ HX4.out Try.underlying57 rfl 68 (by kernel_rfl) (bkL_length _ _ _ _ _ HL.out) ?_)
      | (go_at_call 32; refine (HPU.out _ _ (BkV.R HR4.out)).mono ?_; rintro e W5 ⟨rfl, hb5⟩; have HX5 := Aside0.mk (HX4.out.below hb5); have HR5 := Aside0.mk (HR4.out.below hb5); have HB5 := Aside0.mk (HB4.out.trans (hb5.mono HB4.out.size)); clear hb5 HX4 HR4 HB4)
      | ((with_reducible refine gate_dst (N := 15) rfl ?_); refine step_load rfl 57 (.tmp 3) rfl g3 rfl _ _ _ HX5.out Try.underlying57 rfl 68 (by kernel_rfl) (bkL_length _ _ _ _ _ HL.out) ?_)
      | (go_at_call 36; refine (HPL.out _ _ (BkV.R HR5.out)).mono ?_; rintro e W6 ⟨Bs, ds, Bf, df, Ba, da, rfl, p1, p2, p3, hb6⟩; have HX6 := Aside0.mk (HX5.out.below hb6); have HR6 := Aside0.mk (HR5.out.below hb6); have HB6 := Aside0.mk (HB5.out.trans (hb6.mono HB5.out.size)); have P1 := Aside0.mk p1; have P2 := Aside0.mk p2; have P3 := Aside0.mk p3; clear p1 p2 p3; clear hb6 HX5 HR5 HB5)
      | (go_at_call 35; refine (HRR.out Bs Bf Ba ds df da _ P1.out P2.out P3.out).mono ?_; rintro e W7 ⟨rfl, hb7⟩; have HX7 := Aside0.mk (HX6.out.below hb7); have HR7 := Aside0.mk (HR6.out.below hb7); have HB7 := Aside0.mk (HB6.out.trans (hb7.mono HB6.out.size)); clear hb7 HX6 HR6 HB6)
      | (go_at_call 38; refine (HRD.out _).mono ?_; rintro e W8 ⟨v8, rfl, hv8, hb8⟩; obtain ⟨A8, c8, A9, c9, rfl, hr8⟩ := hv8; have HQ8 := Aside0.mk hr8; have HX8 := Aside0.mk (HX7.out.below hb8); have HR8 := Aside0.mk (HR7.out.below hb8); have HB8 := Aside0.mk (HB7.out.trans (hb8.mono HB7.out.size)); clear hb8 HX7 HR7 HB7; clear hr8)
      | (refine step_allocN (some 6) rfl rfl 57 rfl zeroL zero57 ?_; intro g6 W9 hg6 hy9 hb9; have HY9 := Aside0.mk hy9; have HB89 := Aside0.mk hb9; have HG6 := Aside0.mk hg6; clear hy9 hb9 hg6)
      | (refine step_store rfl 57 (.tmp 6) (.tmp 36) rfl g6 (bkL b.addr b.aff b.slots (.slice A8 b.free.length c8) (.slice A9 b.attrs.length c9)) rfl rfl 57 _ HY9.out 68 (by kernel_rfl) (bkL_length _ _ _ _ _ HL.out) rfl (bkL_one _ _ _ _ _ rfl rfl) ?_; intro W10 hy10 hg10; have HY10 := Aside0.mk hy10; have hb10 : Below W8.heap.size W8 W10 := HB89.out.grown hg10 HB89.out.size (by intro k hk; cases hk; exact HG6.out); have HQ10 := Aside0.mk (HQ8.out.below hb10); have HX10 := Aside0.mk (HX8.out.below hb10); have HR10 := Aside0.mk (HR8.out.below hb10); have HB10 := Aside0.mk (HB8.out.trans (hb10.mono HB8.out.size)); clear hb10 HX8 HR8 HB8; clear hy10 hg10 HY9 HB89 HQ8)
      | ((with_reducible refine gate_dst (N := 42) rfl ?_); refine gate_guard (by rfl) ?_; refine step_load rfl 57 (.tmp 3) rfl g3 rfl _ _ _ HX10.out Try.underlying57 rfl 68 (by kernel_rfl) (bkL_length _ _ _ _ _ HL.out) ?_)
      | (go_at_call 36; refine (HPL.out _ _ (BkV.R HR10.out)).mono ?_; rintro e W11 ⟨Cs, es, Cf, ef, Ca, ea, rfl, p1, p2, p3, hb11⟩; have HX11 := Aside0.mk (HX10.out.below hb11); have HR11 := Aside0.mk (HR10.out.below hb11); have HB11 := Aside0.mk (HB10.out.trans (hb11.mono HB10.out.size)); have HY11 := Aside0.mk (HY10.out.below hb11); have HQ11 := Aside0.mk (HQ10.out.below hb11); have S1 := Aside0.mk p1; have S2 := Aside0.mk p2; have S3 := Aside0.mk p3; clear p1 p2 p3; clear hb11 HX10 HR10 HB10 HY10 HQ10)
      | (go_at_call 39; refine (HPT.out Cs Cf Ca es ef ea _ S1.out S2.out S3.out).mono ?_; rintro e W12 ⟨rfl, hb12⟩; have HX12 := Aside0.mk (HX11.out.below hb12); have HR12 := Aside0.mk (HR11.out.below hb12); have HB12 := Aside0.mk (HB11.out.trans (hb12.mono HB11.out.size)); have HY12 := Aside0.mk (HY11.out.below hb12); have HQ12 := Aside0.mk (HQ11.out.below hb12); clear hb12 HX11 HR11 HB11 HY11 HQ11)
      | ((with_reducible refine gate_dst (N := 48) rfl ?_); refine gate_guard (by rfl) ?_; refine step_load rfl 57 (.tmp 3) rfl g3 rfl _ _ _ HX12.out Try.underlying57 rfl 68 (by kernel_rfl) (bkL_length _ _ _ _ _ HL.out) ?_)
      | (go_at_call 37; refine (HSZ.out _ _ (BkV.R HR12.out)).mono ?_; rintro e W13 ⟨rfl, hb13⟩; have HX13 := Aside0.mk (HX12.out.below hb13); have HR13 := Aside0.mk (HR12.out.below hb13); have HB13 := Aside0.mk (HB12.out.trans (hb13.mono HB12.out.size)); have HY13 := Aside0.mk (HY12.out.below hb13); have HQ13 := Aside0.mk (HQ12.out.below hb13); clear hb13 HX12 HR12 HB12 HY12 HQ12)
      | ((with_reducible refine gate_dst (N := 59) rfl ?_); refine gate_guard (by rfl) ?_; refine step_load rfl 57 (.tmp 3) rfl g3 rfl _ _ _ HX13.out Try.underlying57 rfl 68 (by kernel_rfl) (bkL_length _ _ _ _ _ HL.out) ?_)
      | ((with_reducible refine gate_dst (N := 60) rfl ?_); refine gate_guard (by rfl) ?_; refine step_load rfl 57 (.tmp 6) rfl g6 rfl _ _ _ HY13.out Try.underlying57 rfl 68 (by kernel_rfl) (bkL_length _ _ _ _ _ HL.out) ?_)
      | (go_at_call 40; refine (HSM.out _ _ _ (BkV.R HR13.out) (BkV.R HQ13.out)).mono ?_; rintro e W14 ⟨rfl, hb14⟩; have HX14 := Aside0.mk (HX13.out.below hb14); have HR14 := Aside0.mk (HR13.out.below hb14); have HB14 := Aside0.mk (HB13.out.trans (hb14.mono HB13.out.size)); have HY14 := Aside0.mk (HY13.out.below hb14); have HQ14 := Aside0.mk (HQ13.out.below hb14); clear hb14 HX13 HR13 HB13 HY13 HQ13)
      | (go_at_call 34; refine (awake16_any _).mono ?_; rintro e W15 ⟨rfl, hb15⟩; have HB15 := Aside0.mk (HB14.out.trans (hb15.mono HB14.out.size)); clear hb15))
    go_ret
    exact ⟨rfl, HB15.out⟩
end Go.Proofs.Ytemhalnhbgkbcaa.V
end

-- BOpen
section
/- A raw block as it comes in. -/
namespace Go.Proofs.Ytemhalnhbgkbcaa.V
open Go.RowKit Go.Proofs.YtemhalnhbgkbcaaW.PrintWords Go.Proofs.YtemhalnhbgkbcaaW.PrintLast Go.Proofs.YtemhalnhbgkbcaaW.PrintMore
open Go.ChangeShapes Go.WideShapes
set_option linter.unusedVariables false
set_option maxRecDepth 100000
theorem u8_wf {z : Int} (h : (Lit.int .u8 z).wf = true) : 0 ≤ z ∧ z < 256 := by
  have : 0 ≤ z ∧ z ≤ 255 := by simpa [Lit.wf, IntKind.min, IntKind.max, IntKind.signed, IntKind.bits] using h
  omega
theorem u32_wf {z : Int} (h : (Lit.int .u32 z).wf = true) : 0 ≤ z ∧ z < 4294967296 := by
  have : 0 ≤ z ∧ z ≤ 4294967295 := by simpa [Lit.wf, IntKind.min, IntKind.max, IntKind.signed, IntKind.bits] using h
  omega
theorem list_nums (l : List Value) (P : Int → Prop) (h : ∀ i, i < l.length → ∃ z, P z ∧ (l.drop i).take 1 = [Value.int .u8 z]) : ∃ zs : List Int, l = zs.map (Value.int .u8) ∧ ∀ z ∈ zs, P z := by
  induction l with
  | nil => exact ⟨[], rfl, by simp⟩
  | cons x l ih =>
    obtain ⟨z, hz, e⟩ := h 0 (by simp)
    obtain ⟨zs, h1, h2⟩ := ih (fun i hi => by
      obtain ⟨z, hz, e⟩ := h (i + 1) (by simpa using hi)
      exact ⟨z, hz, by simpa using e⟩)
    have e' : x = Value.int .u8 z := by simpa using e
    exact ⟨z :: zs, by rw [e', h1]; rfl, by intro y hy; rcases List.mem_cons.1 hy with rfl | hy; exact hz; exact h2 y hy⟩
theorem list_of {α : Type} (P : Nat → α → Prop) : ∀ n, (∀ i, i < n → ∃ a, P i a) → ∃ xs : List α, xs.length = n ∧ ∀ i a, xs[i]? = some a → P i a
  | 0, _ => ⟨[], rfl, by simp⟩
  | n + 1, h => by
    obtain ⟨xs, h1, h2⟩ := list_of P n (fun i hi => h i (by omega))
    obtain ⟨a, ha⟩ := h n (by omega)
    refine ⟨xs ++ [a], by simp [h1], fun i b hb => ?_⟩
    rcases Nat.lt_trichotomy i n with hi | hi | hi
    · rw [List.getElem?_append_left (by omega)] at hb
      exact h2 i b hb
    · subst hi
      rw [← h1, List.getElem?_concat_length] at hb
      obtain rfl := Option.some.inj hb
      exact ha
    · rw [List.getElem?_eq_none (by simp; omega)] at hb
      cases hb
theorem split68 (l : List Value) (h : l.length = 68) : l = (l.drop 0).take 1 ++ ((l.drop 1).take 1 ++ ((l.drop 2).take 64 ++ ((l.drop 66).take 1 ++ (l.drop 67).take 1))) := by
  have e : ∀ (n m : Nat), l.drop n = (l.drop n).take m ++ l.drop (n + m) := fun n m => by
    rw [← List.drop_drop]
    exact (List.take_append_drop m (l.drop n)).symm
  have e0 := e 0 1
  have e1 := e 1 1
  have e2 := e 2 64
  have e3 := e 66 1
  have e4 : (l.drop 67).take 1 = l.drop 67 := List.take_of_length_le (by simp; omega)
  rw [e4, ← e3, ← e2, ← e1, ← e0]
  rfl
section
variable {H : Type} {enc : TypeId × Value → H} {w : World} {base b0 : Nat} {held : Bool}
structure RwIs (w : World) (v : Value) (r : Rw) : Prop where
  v : RwV w v r
  a0 : 0 ≤ r.addr
  a1 : r.addr < 4294967296
  s8 : U8s r.slots
  f8 : U8s r.free
  z0 : r.aff.size ≤ 9223372036854775807
  za : ∀ a ∈ r.attrs, a.f0.size ≤ 9223372036854775807 ∧ a.f1.size ≤ 9223372036854775807
theorem open_raw {v : Value} {d : DataW H} {ps : List MemPlace} (hval : Value.okWide Try.prog w .any b0 51 v) (hd : DataW.Trod enc Try.prog w base (fun _ => true) held 51 v d ps) : ∃ r : Rw, RwIs w v r := by
  obtain ⟨cs, rfl, hz⟩ := okWide_struct Try.underlying51 hval
  obtain ⟨fuel, hf⟩ := hd
  obtain ⟨xs, k, hk, hxy, hl, hxl, hfd⟩ := DataW.trod_struct Try.underlying51 hf
  have hsz : cs.toList.length = 68 := hl.trans (by kernel_rfl)
  have g0 := hfd 0 _ rfl
  have g1 := hfd 1 _ rfl
  have g2 := hfd 2 _ rfl
  have g3 := hfd 3 _ rfl
  have g4 := hfd 4 _ rfl
  have hx5 : xs.length = 5 := hxl
  have y0 : ∃ y, xs[0]? = some y := ⟨_, List.getElem?_eq_getElem (by omega)⟩
  have y1 : ∃ y, xs[1]? = some y := ⟨_, List.getElem?_eq_getElem (by omega)⟩
  have y2 : ∃ y, xs[2]? = some y := ⟨_, List.getElem?_eq_getElem (by omega)⟩
  have y3 : ∃ y, xs[3]? = some y := ⟨_, List.getElem?_eq_getElem (by omega)⟩
  have y4 : ∃ y, xs[4]? = some y := ⟨_, List.getElem?_eq_getElem (by omega)⟩
  obtain ⟨q0, y0⟩ := y0; obtain ⟨q1, y1⟩ := y1; obtain ⟨q2, y2⟩ := y2; obtain ⟨q3, y3⟩ := y3; obtain ⟨q4, y4⟩ := y4
  rw [y0] at g0; rw [y1] at g1; rw [y2] at g2; rw [y3] at g3; rw [y4] at g4
  have c46 : Try.prog.cellsOf 46 = 1 := by kernel_rfl
  have c9 : Try.prog.cellsOf 9 = 1 := by kernel_rfl
  have c47 : Try.prog.cellsOf 47 = 64 := by kernel_rfl
  have c48 : Try.prog.cellsOf 48 = 1 := by kernel_rfl
  have c49 : Try.prog.cellsOf 49 = 1 := by kernel_rfl
  have c5 : Try.prog.cellsOf 5 = 1 := by kernel_rfl
  have c76 : Try.prog.cellsOf 76 = 2 := by kernel_rfl
  obtain ⟨z0, e0, _, w0⟩ := DataW.trod_int Try.underlying46 g0
  obtain ⟨s1, e1, _, w1⟩ := DataW.trod_string Try.underlying9 g1
  obtain ⟨ax, am, _, _, al, alen, ael⟩ := DataW.trod_array Try.underlying47 g2
  have e0' : (cs.toList.drop 0).take (Try.prog.cellsOf 46) = [Value.int .u32 z0] := e0
  have e1' : (cs.toList.drop 1).take (Try.prog.cellsOf 9) = [Value.string s1] := e1
  rw [c46] at e0'
  rw [c9] at e1'
  obtain ⟨L, hL⟩ : ∃ L, L = (cs.toList.drop 2).take (Try.prog.cellsOf 47) := ⟨_, rfl⟩
  have hLl : L.length = 64 := by rw [hL, c47, List.length_take, List.length_drop, hsz]; rfl
  have ael' : ∀ i, i < 64 → DataW.trod enc Try.prog w base (fun _ => true) held am 5 ((L.drop (i * 1)).take 1) = ax[i]? := by
    intro i hi
    have := ael i hi
    rw [c5] at this
    rw [hL]
    exact this
  obtain ⟨zs, hzs, hz8⟩ := list_nums L (fun z => 0 ≤ z ∧ z < 256) (fun i hi => by
    have h := ael' i (by omega)
    rw [Nat.mul_one, List.getElem?_eq_getElem (by omega)] at h
    obtain ⟨z, e, _, wz⟩ := DataW.trod_int Try.underlying5 h
    exact ⟨z, u8_wf wz, e⟩)
  have hzl : zs.length = 64 := by rw [hzs] at hLl; simpa using hLl
  obtain ⟨A, c, fr, e3, hfc, hfC, hf8⟩ : ∃ (A : Option Addr) (c : Nat) (fr : List Int), (cs.toList.drop 66).take 1 = [Value.slice A fr.length c] ∧ fr.length ≤ c ∧ Kd.C (Kd.int .u8) w A fr.length fr ∧ U8s fr := by
    rcases open_ints Try.underlying48 Try.underlying5 c5 g3 with ⟨hcs, _⟩ | ⟨x, l, c, ys, hcs, _, hl, hm, hy, _, hcell, hwy⟩
    · have hcs' : (cs.toList.drop 66).take (Try.prog.cellsOf 48) = [.slice none 0 0] := hcs
      rw [c48] at hcs'
      exact ⟨none, 0, [], hcs', Nat.le_refl _, Kd.C_nil _ _, by intro x hx; cases hx⟩
    · have hcs' : (cs.toList.drop 66).take (Try.prog.cellsOf 48) = [.slice (some x) l c] := hcs
      rw [c48] at hcs'
      rw [if_pos rfl] at hy
      have hlen : (ys.take l).length = l := by rw [List.length_take]; omega
      refine ⟨some x, c, ys.take l, by rw [hlen]; exact hcs', by omega, ?_, fun n hn => u8_wf (hwy n (List.mem_of_mem_take hn))⟩
      refine Kd.C_of_reads (enc := Value.int .u8) (d := 0) (h1 := fun _ => rfl) ⟨rfl, by unfold maxLen at hm; omega, fun _ => ⟨x, rfl, fun j hj => ?_⟩⟩
      rw [hlen] at hj
      rw [hcell j (by omega)]
      congr 2
      simp only [List.getD_eq_getElem?_getD, List.getElem?_take, hj, if_true]
  obtain ⟨A', c', at', e4, hac, haC, haZ⟩ : ∃ (A : Option Addr) (c : Nat) (l : List S76), (cs.toList.drop 67).take 1 = [Value.slice A l.length c] ∧ l.length ≤ c ∧ Kd.C k76 w A l.length l ∧ ∀ a ∈ l, a.f0.size ≤ 9223372036854775807 ∧ a.f1.size ≤ 9223372036854775807 := by
    rcases Go.Deep.open_slice_pairs Try.underlying49 Try.underlying76 c76 rfl rfl c9 c9 g4 with ⟨hcs, _⟩ | ⟨x, l, c, m, n, V0, V1, D0, D1, P0, P1, hcs, _, hl, hm, hmm, _, hel⟩
    · have hcs' : (cs.toList.drop 67).take (Try.prog.cellsOf 49) = [.slice none 0 0] := hcs
      rw [c49] at hcs'
      exact ⟨none, 0, [], hcs', Nat.le_refl _, Kd.C_nil _ _, by intro a ha; cases ha⟩
    · have hcs' : (cs.toList.drop 67).take (Try.prog.cellsOf 49) = [.slice (some x) l c] := hcs
      rw [c49] at hcs'
      have hmc : m = c := by rw [hmm]; rfl
      obtain ⟨ys, hy1, hy2⟩ := list_of (fun i (a : S76) => w.cell? (x.add (i * 2)) = some (.string a.f0) ∧ w.cell? (x.add (i * 2 + 1)) = some (.string a.f1) ∧ (a.f0.size ≤ 9223372036854775807 ∧ a.f1.size ≤ 9223372036854775807)) l (fun i hi => by
        obtain ⟨h0, h1, t0, t1⟩ := hel i (by omega)
        obtain ⟨s0, u0, _, z0⟩ := DataW.trod_string Try.underlying9 t0
        obtain ⟨s1, u1, _, z1⟩ := DataW.trod_string Try.underlying9 t1
        exact ⟨⟨s0, s1⟩, by rw [h0]; simpa using u0, by rw [h1]; simpa using u1, by unfold maxLen at z0; exact z0, by unfold maxLen at z1; exact z1⟩)
      refine ⟨some x, c, ys, by rw [hy1]; exact hcs', by omega, ⟨rfl, by unfold maxLen at hm; omega, fun _ => ⟨x, rfl, fun j p hj => ⟨_, rfl, k76_mk w p, fun i u hu => ?_⟩⟩⟩, fun a ha => ?_⟩
      rotate_left
      · obtain ⟨j, hj, rfl⟩ := List.getElem_of_mem ha
        exact (hy2 j _ (List.getElem?_eq_getElem hj)).2.2
      obtain ⟨h0, h1, _⟩ := hy2 j p hj
      match i, hu with
      | 0, hu => obtain rfl := Option.some.inj hu; exact h0
      | 1, hu => obtain rfl := Option.some.inj hu; exact h1
  refine ⟨⟨z0, s1, zs, fr, at'⟩, ⟨A, c, A', c', ?_, hzl, hfC, hfc, haC, hac⟩, (u32_wf w0).1, (u32_wf w0).2, hz8, hf8, by unfold maxLen at w1; exact w1, haZ⟩
  have e2 : (cs.toList.drop 2).take 64 = zs.map (Value.int .u8) := by rw [← hzs, hL, c47]
  have hs := split68 cs.toList hsz
  rw [e0', e1', e2, e3, e4] at hs
  rw [show cs = cs.toList.toArray from (Array.toArray_toList (xs := cs)).symm, hs]
  rfl
end
end Go.Proofs.Ytemhalnhbgkbcaa.V
end

-- BWalks2
section
/- ImagePut's walk, over what comes in. -/
namespace Go.Proofs.Ytemhalnhbgkbcaa.V
open Go.RowKit Go.Proofs.YtemhalnhbgkbcaaW.PrintWords Go.Proofs.YtemhalnhbgkbcaaW.PrintLast Go.Proofs.YtemhalnhbgkbcaaW.PrintMore
theorem imagePut_walk (v : Value) (r : Rw) (w : World) (h : RwIs w v r) : Calls Try.prog 8 #[v] w fun e w' => e = .returned (.bool true) ∧ Below w.heap.size w w' :=
  imagePut_any r h.a0 h.a1 h.s8 h.f8 h.z0 h.za v w h.v
end Go.Proofs.Ytemhalnhbgkbcaa.V
end

