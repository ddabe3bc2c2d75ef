/- The law BlockRight for every input: texts of ours, put together (part 11 of 12). No further condition. -/
import Derived.Test.YtemhalnhbgkbcaaCBlockRightx9
import Derived.Test.YtemhalnhbgkbcaaCBlockRightx7
import Derived.Test.YtemhalnhbgkbcaaCBlockRightw1
import Derived.Outline
import Derived.Test.YtemhalnhbgkbcaaCBlockRightx4
import Derived.Test.YtemhalnhbgkbcaaCBlockRightx6
import Derived.ChangeSame
import Derived.WideShapes
import Derived.OpenShut
import Derived.Deep.SlicePairs
-- BRightRef
section
/- The document's Right of a block that the program takes for right. -/
namespace Go.Proofs.Ytemhalnhbgkbcaa.V
open Go.RowKit Go.Proofs.YtemhalnhbgkbcaaW.PrintWords Go.Proofs.YtemhalnhbgkbcaaW.PrintLast Go.Proofs.YtemhalnhbgkbcaaW.PrintMore
set_option linter.unusedVariables false
set_option linter.unusedSimpArgs false

theorem rd_get (l : List Int) (i : Nat) (h : i < l.length) : rd l (i : Int) = l[i] := by simp [rd, List.getD, h]
theorem count_f (l : List Int) (hl : l.length ≤ 1000) (x : Int) (k : Nat) (hk : l.length < k) : virgateref15_count.f k l x = some ((l.count x : Nat) : Int) := by
  have key : ∀ (d k i c : Nat), i + d = l.length → d < k → c ≤ i → virgateref15_count.l0 k x (c : Int) l (l.length : Int) (i : Int) = some ((c + (l.drop i).count x : Nat) : Int) := by
    intro d
    induction d with
    | zero =>
      intro k i c hi hk hc
      obtain ⟨k, rfl⟩ : ∃ m, k = m + 1 := ⟨k - 1, by omega⟩
      rw [virgateref15_count.l0, if_neg (by omega), List.drop_of_length_le (by omega)]
      simp
    | succ d ih =>
      intro k i c hi hk hc
      obtain ⟨k, rfl⟩ : ∃ m, k = m + 1 := ⟨k - 1, by omega⟩
      have hil : i < l.length := by omega
      rw [virgateref15_count.l0, if_pos (by omega), if_pos (by omega), if_pos (by omega), rd_get l i hil, wrap64_id ((i : Int) + 1) (by omega) (by omega), wrap64_id ((c : Int) + 1) (by omega) (by omega), List.drop_eq_getElem_cons hil, List.count_cons]
      by_cases h : l[i] = x
      · rw [if_pos h, show (c : Int) + 1 = ((c + 1 : Nat) : Int) by omega, show (i : Int) + 1 = ((i + 1 : Nat) : Int) by omega, ih k (i + 1) (c + 1) (by omega) (by omega) (by omega)]
        simp [h]
        omega
      · rw [if_neg h, show (i : Int) + 1 = ((i + 1 : Nat) : Int) by omega, ih k (i + 1) c (by omega) (by omega) (by omega)]
        simp [h]
  unfold virgateref15_count.f
  rw [show (0 : Int) = ((0 : Nat) : Int) from rfl, key l.length k 0 0 (by omega) hk (by omega)]
  simp
theorem may15_f (a : At) (h : mayAt a = true) (k : Nat) (hk : 65 ≤ k) : virgateref15_May.f k a.f0 a.f1 = some true := by
  unfold mayAt at h
  rw [Bool.and_eq_true] at h
  have h0 := rightName_size h.1
  have h1 := rightName_size h.2
  unfold virgateref15_May.f
  rw [r12_f a.f0 (by omega) k (by omega), Option.bind_some, if_pos h.1, r12_f a.f1 (by omega) k (by omega), Option.bind_some, h.2]
theorem owner15_f (s : ByteArray) (h : ownerB s = true) (k : Nat) (hk : 65 ≤ k) : virgateref15_Owner.f k s = some true := by
  unfold virgateref15_Owner.f
  by_cases h0 : s.toList = []
  · rw [if_pos h0]
  · unfold ownerB at h
    simp only [h0, decide_false, Bool.false_or] at h
    have h1 := rightName_size h
    rw [if_neg h0, r12_f s (by omega) k (by omega), Option.bind_some, h]
section
variable (addr : Int) (aff : ByteArray) (sl fr : List Int) (M : List S76)
theorem right_l3 (hf : ∀ x ∈ fr, 0 ≤ x ∧ x ≤ 63) (hl : fr.length ≤ 1000) : ∀ (d k i : Nat), i + d = fr.length → d < k → virgateref15_Right.l3 k fr (fr.length : Int) (i : Int) = some true := by
  intro d
  induction d with
  | zero =>
    intro k i hi hk
    obtain ⟨k, rfl⟩ : ∃ m, k = m + 1 := ⟨k - 1, by omega⟩
    rw [virgateref15_Right.l3, if_neg (by omega)]
  | succ d ih =>
    intro k i hi hk
    obtain ⟨k, rfl⟩ : ∃ m, k = m + 1 := ⟨k - 1, by omega⟩
    have hil : i < fr.length := by omega
    have hx := hf _ (List.getElem_mem hil)
    rw [virgateref15_Right.l3, if_pos (by omega), if_pos (by omega), if_pos (by omega), rd_get fr i hil, if_neg (by omega), if_neg (by omega), wrap64_id ((i : Int) + 1) (by omega) (by omega), show (i : Int) + 1 = ((i + 1 : Nat) : Int) by omega]
    exact ih k (i + 1) (by omega) (by omega)
theorem right_l2 (hf : ∀ x ∈ fr, 0 ≤ x ∧ x ≤ 63) (hl : fr.length ≤ 1000) (hsl : sl.length ≤ 1000) (hs : ∀ x ∈ sl, 0 ≤ x ∧ x ≤ (M.length : Int))
    (hc : ∀ (i : Nat) (h : i < sl.length), fr.count (i : Int) = if sl[i] = 0 then 1 else 0) : ∀ (d k i : Nat), i + d = sl.length → 2 * d + fr.length + 10 < k → virgateref15_Right.l2 k sl (sl.length : Int) (i : Int) addr aff sl fr M = some true := by
  intro d
  induction d with
  | zero =>
    intro k i hi hk
    obtain ⟨k, rfl⟩ : ∃ m, k = m + 1 := ⟨k - 1, by omega⟩
    rw [virgateref15_Right.l2, if_neg (by omega)]
    exact right_l3 fr hf hl fr.length k 0 (by omega) (by omega)
  | succ d ih =>
    intro k i hi hk
    obtain ⟨k, rfl⟩ : ∃ m, k = m + 2 := ⟨k - 2, by omega⟩
    have hil : i < sl.length := by omega
    have hx := hs _ (List.getElem_mem hil)
    have hci := hc i hil
    rw [virgateref15_Right.l2, if_pos (by omega), if_pos (by omega), if_pos (by omega), rd_get sl i hil, if_neg (by omega), virgateref15_Right.j5, if_neg (by rw [decide_eq_true_eq]; omega), count_f fr hl _ k (by omega), wrap64_id ((i : Int) + 1) (by omega) (by omega), show (i : Int) + 1 = ((i + 1 : Nat) : Int) by omega, hci]
    have e := ih k (i + 1) (by omega) (by omega)
    by_cases h0 : sl[i] = 0
    · rw [if_pos h0, if_pos h0, Option.bind_some, if_pos (by rfl)]
      exact e
    · rw [if_neg h0, if_neg h0, Option.bind_some, if_pos (by rfl)]
      exact e
theorem right_l1 (i : Nat) (hi : i ≤ M.length) (hM : M.length ≤ 64) (f0 f1 : ByteArray) (hn : ∀ a ∈ M.take i, (a.f0.toList == f0.toList && a.f1.toList == f1.toList) = false) : ∀ (d k q : Nat), q + d = i →
    virgateref15_Right.l1 (k + d + 1) M (M.length : Int) (i : Int) (M.take i) ((M.take i).length : Int) (q : Int) addr aff sl fr M f0 f1 = virgateref15_Right.l0 k M (M.length : Int) ((i + 1 : Nat) : Int) addr aff sl fr M := by
  have hlen : (M.take i).length = i := by rw [List.length_take]; omega
  intro d
  induction d with
  | zero =>
    intro k q hq
    rw [virgateref15_Right.l1, if_neg (by omega), wrap64_id ((i : Int) + 1) (by omega) (by omega), show (i : Int) + 1 = ((i + 1 : Nat) : Int) by omega]
  | succ d ih =>
    intro k q hq
    have hqi : q < (M.take i).length := by omega
    have hx := hn _ (List.getElem_mem hqi)
    have e : rd_T76 (M.take i) (q : Int) = (M.take i)[q] := by
      unfold rd_T76
      rw [Int.toNat_natCast, List.getD, List.getElem?_eq_getElem hqi]
      rfl
    rw [show k + (d + 1) + 1 = (k + d + 1) + 1 by omega, virgateref15_Right.l1, if_pos (by omega), if_pos (by omega), if_pos (by omega), e, hx, if_neg (by decide), wrap64_id ((q : Int) + 1) (by omega) (by omega), show (q : Int) + 1 = ((q + 1 : Nat) : Int) by omega]
    exact ih k (q + 1) (by omega)
theorem right_l0 (hf : ∀ x ∈ fr, 0 ≤ x ∧ x ≤ 63) (hl : fr.length ≤ 100) (hsl : sl.length ≤ 100) (hs : ∀ x ∈ sl, 0 ≤ x ∧ x ≤ (M.length : Int))
    (hc : ∀ (i : Nat) (h : i < sl.length), fr.count (i : Int) = if sl[i] = 0 then 1 else 0) (hM : M.length ≤ 64)
    (hm : ∀ (i : Nat) (h : i < M.length), mayAt ⟨M[i].f0, M[i].f1⟩ = true) (hu : ∀ i, i < M.length → sl.count ((i + 1 : Nat) : Int) ≠ 0)
    (hn : ∀ (i : Nat) (h : i < M.length), ∀ a ∈ M.take i, (a.f0.toList == M[i].f0.toList && a.f1.toList == M[i].f1.toList) = false) : ∀ (d k i : Nat), i + d = M.length → 70 * d + 500 < k → virgateref15_Right.l0 k M (M.length : Int) (i : Int) addr aff sl fr M = some true := by
  intro d
  induction d with
  | zero =>
    intro k i hi hk
    obtain ⟨k, rfl⟩ : ∃ m, k = m + 1 := ⟨k - 1, by omega⟩
    rw [virgateref15_Right.l0, if_neg (by omega)]
    exact right_l2 addr aff sl fr M hf (by omega) (by omega) hs hc sl.length k 0 (by omega) (by omega)
  | succ d ih =>
    intro k i hi hk
    have hil : i < M.length := by omega
    obtain ⟨k, rfl⟩ : ∃ m, k = (m + i + 1) + 2 := ⟨k - i - 3, by omega⟩
    have e : rd_T76 M (i : Int) = M[i] := by simp [rd_T76, List.getD, hil]
    have hmay := may15_f ⟨M[i].f0, M[i].f1⟩ (hm i hil) (k + i + 1 + 1) (by omega)
    have hcz : (((sl.count ((i + 1 : Nat) : Int) : Nat) : Int) == 0) = false := by
      rw [beq_eq_false_iff_ne]
      have := hu i hil
      omega
    rw [virgateref15_Right.l0, if_pos (by omega), if_pos (by omega), if_pos (by omega), e, hmay, Option.bind_some, if_pos rfl, wrap64_id ((i : Int) + 1) (by omega) (by omega), show (i : Int) + 1 = ((i + 1 : Nat) : Int) by omega, count_f sl (by omega) _ _ (by omega), Option.bind_some, hcz, virgateref15_Right.j2, if_neg (by decide), if_pos (by omega), if_pos (by omega), Option.bind_some, Int.toNat_natCast]
    have e1 := right_l1 addr aff sl fr M i (by omega) hM M[i].f0 M[i].f1 (hn i hil) i k 0 (by omega)
    rw [show ((0 : Nat) : Int) = 0 from rfl] at e1
    rw [e1]
    exact ih k (i + 1) (by omega) (by omega)
end
theorem mem_of_count {l : List Int} {x : Int} (h : x ∈ l) : l.count x ≠ 0 := by
  have := List.count_pos_iff.2 h
  omega
theorem ref_right {b : Bk} (hk : BkOk b) (hp : RightP b) (hl : b.slots.length = 64) : RefRight b true := by
  have hfl := hp.free_len hl
  have hal := hp.na
  have hfree : ∀ (j : Nat) (h : j < b.free.length), (0 ≤ b.free[j] ∧ b.free[j] < 64) ∧ b.free[j] ∉ b.free.take j ∧ b.slots.getD (b.free[j]).toNat 0 = 0 := by
    intro j h
    have hb := hp.fr j h
    unfold freeBad at hb
    rw [rd_get b.free j h] at hb
    simp only [Bool.or_eq_false_iff, decide_eq_false_iff_not, bne_eq_false_iff_eq] at hb
    have := hk.f8 _ (List.getElem_mem h)
    exact ⟨⟨by omega, by omega⟩, hb.2.1, hb.2.2⟩
  have hnd : b.free.Nodup := by
    rw [List.Nodup, List.pairwise_iff_getElem]
    intro i j hi hj hij e
    exact (hfree j hj).2.1 (by rw [← e, List.mem_take_iff_getElem]; exact ⟨i, by omega, rfl⟩)
  have hf63 : ∀ x ∈ b.free, 0 ≤ x ∧ x ≤ 63 := by
    intro x hx
    obtain ⟨j, hj, rfl⟩ := List.getElem_of_mem hx
    have := (hfree j hj).1
    omega
  have hcount : ∀ (i : Nat) (h : i < b.slots.length), b.free.count (i : Int) = if b.slots[i] = 0 then 1 else 0 := by
    intro i h
    have h01 : b.free.count (i : Int) ≤ 1 := List.nodup_iff_count.1 hnd _
    by_cases h0 : b.slots[i] = 0
    · rw [if_pos h0]
      by_cases hm : (i : Int) ∈ b.free
      · have := mem_of_count hm
        omega
      · exfalso
        have hz : (((List.range b.slots.length).filter (fun j => b.slots.getD j 0 == 0)).map (fun j : Nat => (j : Int))).length = b.free.length := by
          rw [List.length_map, ← hp.zc, ← List.countP_eq_length_filter]
          have e : b.slots = (List.range b.slots.length).map (fun j => b.slots.getD j 0) := by
            apply List.ext_getElem
            · simp
            · intro q h1 h2
              simp [List.getD, h1]
          conv => rhs; rw [e]
          rw [List.countP_map]
          rfl
        have h2 : ((i : Int) :: b.free).length ≤ (((List.range b.slots.length).filter (fun j => b.slots.getD j 0 == 0)).map (fun j : Nat => (j : Int))).length := by
          refine nodup_le _ _ (List.nodup_cons.2 ⟨hm, hnd⟩) (fun x hx => ?_)
          rcases List.mem_cons.1 hx with rfl | hx
          · exact List.mem_map.2 ⟨i, List.mem_filter.2 ⟨List.mem_range.2 h, by simp [List.getD, h, h0]⟩, rfl⟩
          · obtain ⟨j, hj, rfl⟩ := List.getElem_of_mem hx
            have hq := hfree j hj
            exact List.mem_map.2 ⟨(b.free[j]).toNat, List.mem_filter.2 ⟨List.mem_range.2 (by omega), by rw [hq.2.2]; rfl⟩, by omega⟩
        rw [hz, List.length_cons] at h2
        omega
    · rw [if_neg h0]
      refine List.count_eq_zero.2 (fun hm => h0 ?_)
      obtain ⟨j, hj, e⟩ := List.getElem_of_mem hm
      have hq := (hfree j hj).2.2
      rw [e, Int.toNat_natCast] at hq
      simpa [List.getD, h] using hq
  have hused : ∀ i, i < b.attrs.length → b.slots.count ((i + 1 : Nat) : Int) ≠ 0 := by
    intro i hi
    by_cases hm : ((i + 1 : Nat) : Int) ∈ b.slots
    · exact mem_of_count hm
    · exfalso
      have h2 : ((i : Int) :: listOf (usedN b.slots)).length ≤ ((List.range b.attrs.length).map (fun j : Nat => (j : Int))).length := by
        refine nodup_le _ _ (List.nodup_cons.2 ⟨fun hx => hm ?_, listN_nodup _ 64⟩) (fun x hx => ?_)
        · obtain ⟨q, hq, h64, ht⟩ := mem_listN_nat _ _ _ hx
          unfold usedN at ht
          rw [ofN_testBit _ q h64, decide_eq_true_eq, List.mem_map] at ht
          obtain ⟨s, hs, he⟩ := ht
          have : s = ((i + 1 : Nat) : Int) := by omega
          exact this ▸ hs
        · rcases List.mem_cons.1 hx with rfl | hx
          · exact List.mem_map.2 ⟨i, List.mem_range.2 hi, rfl⟩
          · obtain ⟨q, rfl, h64, ht⟩ := mem_listN_nat _ _ _ hx
            unfold usedN at ht
            rw [ofN_testBit _ q h64, decide_eq_true_eq, List.mem_map] at ht
            obtain ⟨s, hs, he⟩ := ht
            have := hp.sa s hs
            exact List.mem_map.2 ⟨q, List.mem_range.2 (by omega), rfl⟩
      rw [List.length_cons, hp.used, List.length_map, List.length_range] at h2
      omega
  have hML : (b.attrs.map vc).length = b.attrs.length := List.length_map ..
  have hat : ∀ (i : Nat) (h : i < b.attrs.length), atN b.attrs i = b.attrs[i] := by
    intro i h
    simp [atN, rd_T85, List.getD, h]
  refine ⟨6000, ?_⟩
  have h0 := hp.first
  unfold firstI at h0
  have hmod : Int.tmod b.addr 64 = 0 := by
    rw [Int.tmod_eq_emod_of_nonneg hk.a0]
    omega
  unfold virgateref15_Right.f
  rw [if_pos hmod, owner15_f b.aff hp.owner 6000 (by omega), Option.bind_some, if_pos rfl, if_neg (by rw [hML]; omega), hl, show (((64 : Nat) : Int) != 64) = false from rfl, virgateref15_Right.j0, if_neg (by decide)]
  refine right_l0 b.addr b.aff b.slots b.free (b.attrs.map vc) hf63 (by omega) (by omega) (fun x hx => ⟨(hk.s8 x hx).1, by rw [hML]; exact hp.sa x hx⟩) hcount (by omega) ?_ ?_ ?_ b.attrs.length 5999 0 (by omega) (by omega)
  · intro i h
    have h' : i < b.attrs.length := by omega
    have := hp.may i h'
    rw [hat i h'] at this
    simpa [vc] using this
  · intro i h
    exact hused i (by omega)
  · intro i h a ha
    have h' : i < b.attrs.length := by omega
    have h3 := hp.nd i h'
    rw [hat i h', List.any_eq_false] at h3
    rw [← List.map_take] at ha
    obtain ⟨c, hc, rfl⟩ := List.mem_map.1 ha
    have h4 := h3 c hc
    rw [Bool.eq_false_iff]
    intro he
    apply h4
    unfold sameAt
    simp only [List.getElem_map, vc, Bool.and_eq_true, beq_iff_eq] at he ⊢
    exact ⟨he.1.symm, he.2.symm⟩
end Go.Proofs.Ytemhalnhbgkbcaa.V
end

-- BRightAll
section
/- The document's Right of any block is the program's. -/
namespace Go.Proofs.Ytemhalnhbgkbcaa.V
open Go.RowKit Go.Proofs.YtemhalnhbgkbcaaW.PrintWords Go.Proofs.YtemhalnhbgkbcaaW.PrintLast Go.Proofs.YtemhalnhbgkbcaaW.PrintMore
set_option linter.unusedVariables false
set_option linter.unusedSimpArgs false

theorem may15_any (f0 f1 : ByteArray) (h0 : f0.size ≤ 9223372036854775807) (h1 : f1.size ≤ 9223372036854775807) (k : Nat) (hk : 9223372036854775808 ≤ k) : virgateref15_May.f k f0 f1 = some (mayAt ⟨f0, f1⟩) := by
  unfold virgateref15_May.f mayAt
  rw [r12_f f0 h0 k (by omega), Option.bind_some]
  cases hr : rightName f0 with
  | true => rw [if_pos rfl, r12_f f1 h1 k (by omega), Option.bind_some, Bool.true_and]
  | false => rw [if_neg (by decide), Bool.false_and]
theorem owner15_any (s : ByteArray) (hs : s.size ≤ 9223372036854775807) (k : Nat) (hk : 9223372036854775808 ≤ k) : virgateref15_Owner.f k s = some (ownerB s) := by
  unfold virgateref15_Owner.f ownerB
  by_cases h0 : s.toList = []
  · rw [if_pos h0]; simp [h0]
  · rw [if_neg h0, r12_f s hs k (by omega), Option.bind_some]; simp [h0]
section
variable (addr : Int) (aff : ByteArray) (sl fr : List Int) (M : List S76)
theorem all_l3 (hl : fr.length ≤ 1000) : ∀ (d k i : Nat), i + d = fr.length → d < k → ∃ r, virgateref15_Right.l3 k fr (fr.length : Int) (i : Int) = some r ∧ (r = true → ∀ (j : Nat) (h : j < fr.length), i ≤ j → 0 ≤ fr[j] ∧ fr[j] ≤ 63) := by
  intro d
  induction d with
  | zero =>
    intro k i hi hk
    obtain ⟨k, rfl⟩ : ∃ m, k = m + 1 := ⟨k - 1, by omega⟩
    refine ⟨true, ?_, fun _ j h hj => by omega⟩
    rw [virgateref15_Right.l3, if_neg (by omega)]
  | succ d ih =>
    intro k i hi hk
    obtain ⟨k, rfl⟩ : ∃ m, k = m + 1 := ⟨k - 1, by omega⟩
    have hil : i < fr.length := by omega
    rw [virgateref15_Right.l3, if_pos (by omega), if_pos (by omega), if_pos (by omega), rd_get fr i hil, wrap64_id ((i : Int) + 1) (by omega) (by omega), show (i : Int) + 1 = ((i + 1 : Nat) : Int) by omega]
    by_cases h1 : fr[i] < 0
    · exact ⟨false, by rw [if_pos h1], fun h => by cases h⟩
    · by_cases h2 : fr[i] > 63
      · exact ⟨false, by rw [if_neg h1, if_pos h2], fun h => by cases h⟩
      · obtain ⟨r, hr, hc⟩ := ih k (i + 1) (by omega) (by omega)
        refine ⟨r, by rw [if_neg h1, if_neg h2, hr], fun h j hj hij => ?_⟩
        rcases Nat.eq_or_lt_of_le hij with rfl | hlt
        · exact ⟨by omega, by omega⟩
        · exact hc h j hj (by omega)
theorem all_l2 (hl : fr.length ≤ 1000) (hsl : sl.length ≤ 1000) (hM : M.length ≤ 1000) : ∀ (d k i : Nat), i + d = sl.length → 2 * d + fr.length + 10 < k → ∃ r, virgateref15_Right.l2 k sl (sl.length : Int) (i : Int) addr aff sl fr M = some r ∧
    (r = true → (∀ (j : Nat) (h : j < sl.length), i ≤ j → (0 ≤ sl[j] ∧ sl[j] ≤ (M.length : Int)) ∧ fr.count (j : Int) = if sl[j] = 0 then 1 else 0) ∧ ∀ (j : Nat) (h : j < fr.length), 0 ≤ fr[j] ∧ fr[j] ≤ 63) := by
  intro d
  induction d with
  | zero =>
    intro k i hi hk
    obtain ⟨k, rfl⟩ : ∃ m, k = m + 1 := ⟨k - 1, by omega⟩
    rw [virgateref15_Right.l2, if_neg (by omega)]
    obtain ⟨r, hr, hc⟩ := all_l3 fr hl fr.length k 0 (by omega) (by omega)
    exact ⟨r, hr, fun h => ⟨fun j hj hij => by omega, fun j hj => hc h j hj (by omega)⟩⟩
  | succ d ih =>
    intro k i hi hk
    obtain ⟨k, rfl⟩ : ∃ m, k = m + 2 := ⟨k - 2, by omega⟩
    have hil : i < sl.length := by omega
    rw [virgateref15_Right.l2, if_pos (by omega), if_pos (by omega), if_pos (by omega), rd_get sl i hil]
    by_cases h1 : sl[i] < 0
    · refine ⟨false, ?_, fun h => by cases h⟩
      rw [if_pos h1, virgateref15_Right.j5, if_pos rfl]
    · rw [if_neg h1, virgateref15_Right.j5, count_f fr hl _ k (by omega), wrap64_id ((i : Int) + 1) (by omega) (by omega), show (i : Int) + 1 = ((i + 1 : Nat) : Int) by omega]
      by_cases h2 : sl[i] > (M.length : Int)
      · exact ⟨false, by rw [if_pos (by rw [decide_eq_true_eq]; exact h2)], fun h => by cases h⟩
      · rw [if_neg (by rw [decide_eq_true_eq]; exact h2)]
        obtain ⟨r, hr, hc⟩ := ih k (i + 1) (by omega) (by omega)
        have step : (fr.count (i : Int) = if sl[i] = 0 then 1 else 0) → (r = true → (∀ (j : Nat) (h : j < sl.length), i ≤ j → (0 ≤ sl[j] ∧ sl[j] ≤ (M.length : Int)) ∧ fr.count (j : Int) = if sl[j] = 0 then 1 else 0) ∧ ∀ (j : Nat) (h : j < fr.length), 0 ≤ fr[j] ∧ fr[j] ≤ 63) := by
          intro he h
          obtain ⟨c1, c2⟩ := hc h
          refine ⟨fun j hj hij => ?_, c2⟩
          rcases Nat.eq_or_lt_of_le hij with rfl | hlt
          · exact ⟨⟨by omega, by omega⟩, he⟩
          · exact c1 j hj (by omega)
        by_cases h0 : sl[i] = 0
        · rw [if_pos h0, Option.bind_some]
          by_cases h3 : fr.count (i : Int) = 1
          · exact ⟨r, by rw [if_pos (by rw [h3]; rfl), hr], step (by rw [if_pos h0]; exact h3)⟩
          · exact ⟨false, by rw [if_neg (by omega)], fun h => by cases h⟩
        · rw [if_neg h0, Option.bind_some]
          by_cases h3 : fr.count (i : Int) = 0
          · exact ⟨r, by rw [if_pos (by rw [h3]; rfl), hr], step (by rw [if_neg h0]; exact h3)⟩
          · exact ⟨false, by rw [if_neg (by omega)], fun h => by cases h⟩
theorem all_l1 (i : Nat) (hi : i ≤ M.length) (hM : M.length ≤ 64) (f0 f1 : ByteArray) : ∀ (d k q : Nat), q + d = i →
    virgateref15_Right.l1 (k + d + 1) M (M.length : Int) (i : Int) (M.take i) ((M.take i).length : Int) (q : Int) addr aff sl fr M f0 f1 = some false ∨
    (virgateref15_Right.l1 (k + d + 1) M (M.length : Int) (i : Int) (M.take i) ((M.take i).length : Int) (q : Int) addr aff sl fr M f0 f1 = virgateref15_Right.l0 k M (M.length : Int) ((i + 1 : Nat) : Int) addr aff sl fr M ∧
      ∀ (j : Nat) (h : j < (M.take i).length), q ≤ j → ((M.take i)[j].f0.toList == f0.toList && (M.take i)[j].f1.toList == f1.toList) = false) := by
  have hlen : (M.take i).length = i := by rw [List.length_take]; omega
  intro d
  induction d with
  | zero =>
    intro k q hq
    right
    refine ⟨?_, fun j hj hqj => by omega⟩
    rw [virgateref15_Right.l1, if_neg (by omega), wrap64_id ((i : Int) + 1) (by omega) (by omega), show (i : Int) + 1 = ((i + 1 : Nat) : Int) by omega]
  | succ d ih =>
    intro k q hq
    have hqi : q < (M.take i).length := by omega
    have e : rd_T76 (M.take i) (q : Int) = (M.take i)[q] := by
      unfold rd_T76
      rw [Int.toNat_natCast, List.getD, List.getElem?_eq_getElem hqi]
      rfl
    rw [show k + (d + 1) + 1 = (k + d + 1) + 1 by omega, virgateref15_Right.l1, if_pos (by omega), if_pos (by omega), if_pos (by omega), e, wrap64_id ((q : Int) + 1) (by omega) (by omega), show (q : Int) + 1 = ((q + 1 : Nat) : Int) by omega]
    cases hx : ((M.take i)[q].f0.toList == f0.toList && (M.take i)[q].f1.toList == f1.toList) with
    | true => left; rw [if_pos rfl]
    | false =>
      rw [if_neg (by decide)]
      rcases ih k (q + 1) (by omega) with h | ⟨h, hc⟩
      · exact .inl h
      · refine .inr ⟨h, fun j hj hqj => ?_⟩
        rcases Nat.eq_or_lt_of_le hqj with rfl | hlt
        · exact hx
        · exact hc j hj (by omega)
theorem all_l0 (hl : fr.length ≤ 100) (hsl : sl.length ≤ 100) (hM : M.length ≤ 64) (hz : ∀ a ∈ M, a.f0.size ≤ 9223372036854775807 ∧ a.f1.size ≤ 9223372036854775807) : ∀ (d k i : Nat), i + d = M.length → 70 * d + 9223372036854777000 < k →
    ∃ r, virgateref15_Right.l0 k M (M.length : Int) (i : Int) addr aff sl fr M = some r ∧
    (r = true → ((∀ (j : Nat) (h : j < sl.length), (0 ≤ sl[j] ∧ sl[j] ≤ (M.length : Int)) ∧ fr.count (j : Int) = if sl[j] = 0 then 1 else 0) ∧ ∀ (j : Nat) (h : j < fr.length), 0 ≤ fr[j] ∧ fr[j] ≤ 63) ∧
      ∀ (j : Nat) (h : j < M.length), i ≤ j → mayAt ⟨M[j].f0, M[j].f1⟩ = true ∧ sl.count ((j + 1 : Nat) : Int) ≠ 0 ∧ ∀ (q : Nat) (hq : q < (M.take j).length), ((M.take j)[q].f0.toList == M[j].f0.toList && (M.take j)[q].f1.toList == M[j].f1.toList) = false) := by
  intro d
  induction d with
  | zero =>
    intro k i hi hk
    obtain ⟨k, rfl⟩ : ∃ m, k = m + 1 := ⟨k - 1, by omega⟩
    rw [virgateref15_Right.l0, if_neg (by omega)]
    obtain ⟨r, hr, hc⟩ := all_l2 addr aff sl fr M (by omega) (by omega) (by omega) sl.length k 0 (by omega) (by omega)
    exact ⟨r, hr, fun h => ⟨⟨fun j hj => (hc h).1 j hj (by omega), (hc h).2⟩, fun j hj hij => by omega⟩⟩
  | succ d ih =>
    intro k i hi hk
    have hil : i < M.length := by omega
    obtain ⟨k, rfl⟩ : ∃ m, k = (m + i + 1) + 2 := ⟨k - i - 3, by omega⟩
    have e : rd_T76 M (i : Int) = M[i] := by simp [rd_T76, List.getD, hil]
    have hz' := hz M[i] (List.getElem_mem hil)
    have hmay := may15_any M[i].f0 M[i].f1 hz'.1 hz'.2 (k + i + 1 + 1) (by omega)
    rw [virgateref15_Right.l0, if_pos (by omega), if_pos (by omega), if_pos (by omega), e, hmay, Option.bind_some]
    cases hm : mayAt ⟨M[i].f0, M[i].f1⟩ with
    | false => exact ⟨false, by rw [if_neg (by decide), virgateref15_Right.j2, if_pos rfl], fun h => by cases h⟩
    | true =>
      rw [if_pos rfl, wrap64_id ((i : Int) + 1) (by omega) (by omega), show (i : Int) + 1 = ((i + 1 : Nat) : Int) by omega, count_f sl (by omega) _ _ (by omega), Option.bind_some, virgateref15_Right.j2]
      by_cases h0 : sl.count ((i + 1 : Nat) : Int) = 0
      · exact ⟨false, by rw [h0, if_pos (by rfl)], fun h => by cases h⟩
      · have hcz : (((sl.count ((i + 1 : Nat) : Int) : Nat) : Int) == 0) = false := by rw [beq_eq_false_iff_ne]; omega
        rw [hcz, if_neg (by decide), if_pos (by omega), if_pos (by omega), Option.bind_some, Int.toNat_natCast]
        have e1 := all_l1 addr aff sl fr M i (by omega) hM M[i].f0 M[i].f1 i k 0 (by omega)
        rw [show ((0 : Nat) : Int) = 0 from rfl] at e1
        rcases e1 with e1 | ⟨e1, hd⟩
        · exact ⟨false, e1, fun h => by cases h⟩
        · obtain ⟨r, hr, hc⟩ := ih k (i + 1) (by omega) (by omega)
          refine ⟨r, by rw [e1, hr], fun h => ⟨(hc h).1, fun j hj hij => ?_⟩⟩
          rcases Nat.eq_or_lt_of_le hij with rfl | hlt
          · exact ⟨hm, h0, fun q hq => hd q hq (by omega)⟩
          · exact (hc h).2 j hj (by omega)
end
theorem ref_right_any {b : Bk} (hk : BkOk b) (hl : b.slots.length = 64) (hfl : b.free.length ≤ 100) (hz0 : b.aff.size ≤ 9223372036854775807) (hz : ∀ a ∈ b.attrs, a.f0.size ≤ 9223372036854775807 ∧ a.f1.size ≤ 9223372036854775807) : RefRight b (rightB b) := by
  cases hrt : rightB b with
  | true => exact ref_right hk (right_p hrt) hl
  | false =>
    have hML : (b.attrs.map vc).length = b.attrs.length := List.length_map ..
    suffices h : ∃ r, virgateref15_Right.f 9223372036854790000 b.addr b.aff b.slots b.free (b.attrs.map vc) = some r ∧ (r = true → rightB b = true) by
      obtain ⟨r, hr, hc⟩ := h
      cases r with
      | false => exact ⟨_, hr⟩
      | true => rw [hc rfl] at hrt; cases hrt
    unfold virgateref15_Right.f
    by_cases hmod : Int.tmod b.addr 64 = 0
    · rw [if_pos hmod, owner15_any b.aff hz0 _ (by omega), Option.bind_some]
      cases ho : ownerB b.aff with
      | false => exact ⟨false, by rw [if_neg (by decide), virgateref15_Right.j0, if_pos rfl], fun h => by cases h⟩
      | true =>
        rw [if_pos rfl]
        by_cases hna : ((b.attrs.map vc).length : Int) > 64
        · exact ⟨false, by rw [if_pos hna, virgateref15_Right.j0, if_pos rfl], fun h => by cases h⟩
        · rw [if_neg hna, hl, show (((64 : Nat) : Int) != 64) = false from rfl, virgateref15_Right.j0, if_neg (by decide)]
          obtain ⟨r, hr, hc⟩ := all_l0 b.addr b.aff b.slots b.free (b.attrs.map vc) hfl (by omega) (by omega) (by
            intro a ha
            obtain ⟨x, hx, rfl⟩ := List.mem_map.1 ha
            exact hz x hx) b.attrs.length 9223372036854789999 0 (by omega) (by omega)
          refine ⟨r, hr, fun h => ?_⟩
          obtain ⟨⟨c1, c2⟩, c3⟩ := hc h
          have hat : ∀ (i : Nat) (h : i < b.attrs.length), atN b.attrs i = b.attrs[i] := by
            intro i h
            simp [atN, rd_T85, List.getD, h]
          have hnd : b.free.Nodup := by
            rw [List.nodup_iff_count]
            intro x
            by_cases hx : x ∈ b.free
            · obtain ⟨j, hj, rfl⟩ := List.getElem_of_mem hx
              have hb := c2 j hj
              have hc := (c1 (b.free[j]).toNat (by omega)).2
              rw [Int.toNat_of_nonneg hb.1] at hc
              rw [hc]
              split <;> omega
            · rw [List.count_eq_zero.2 hx]
              omega
          have hmem : ∀ (j : Nat) (h : j < b.free.length), b.slots.getD (b.free[j]).toNat 0 = 0 := by
            intro j hj
            have hb := c2 j hj
            have hlt : (b.free[j]).toNat < b.slots.length := by omega
            have hc := (c1 (b.free[j]).toNat hlt).2
            rw [Int.toNat_of_nonneg hb.1] at hc
            by_cases h0 : b.slots[(b.free[j]).toNat] = 0
            · simp [List.getD, hlt, h0]
            · rw [if_neg h0] at hc
              exact absurd (List.getElem_mem hj) (List.count_eq_zero.1 hc)
          have hzs : (((List.range b.slots.length).filter (fun j => b.slots.getD j 0 == 0)).map (fun j : Nat => (j : Int))).length = b.slots.countP (fun x => x == 0) := by
            rw [List.length_map, ← List.countP_eq_length_filter]
            have e : b.slots = (List.range b.slots.length).map (fun j => b.slots.getD j 0) := by
              apply List.ext_getElem
              · simp
              · intro q h1 h2
                simp [List.getD, h1]
            conv => rhs; rw [e]
            rw [List.countP_map]
            rfl
          have hznd : (((List.range b.slots.length).filter (fun j => b.slots.getD j 0 == 0)).map (fun j : Nat => (j : Int))).Nodup := by
            unfold List.Nodup
            rw [List.pairwise_map]
            exact (List.Pairwise.filter _ List.nodup_range).imp (fun {a b} h e => h (by omega))
          have hzc : b.slots.countP (fun x => x == 0) = b.free.length := by
            apply Nat.le_antisymm
            · rw [← hzs]
              refine nodup_le _ _ hznd (fun x hx => ?_)
              obtain ⟨j, hj, rfl⟩ := List.mem_map.1 hx
              obtain ⟨hj1, hj2⟩ := List.mem_filter.1 hj
              rw [List.mem_range] at hj1
              have hc := (c1 j hj1).2
              have h0 : b.slots[j] = 0 := by simpa [List.getD, hj1] using hj2
              rw [if_pos h0] at hc
              exact List.count_pos_iff.1 (by omega)
            · rw [← hzs]
              refine nodup_le _ _ hnd (fun x hx => ?_)
              obtain ⟨j, hj, rfl⟩ := List.getElem_of_mem hx
              have hb := c2 j hj
              exact List.mem_map.2 ⟨(b.free[j]).toNat, List.mem_filter.2 ⟨List.mem_range.2 (by omega), by rw [hmem j hj]; rfl⟩, by omega⟩
          have hused : (listOf (usedN b.slots)).length = b.attrs.length := by
            apply Nat.le_antisymm
            · have h2 : (listOf (usedN b.slots)).length ≤ ((List.range b.attrs.length).map (fun j : Nat => (j : Int))).length := by
                refine nodup_le _ _ (listN_nodup _ 64) (fun x hx => ?_)
                obtain ⟨q, rfl, h64, ht⟩ := mem_listN_nat _ _ _ hx
                unfold usedN at ht
                rw [ofN_testBit _ q h64, decide_eq_true_eq, List.mem_map] at ht
                obtain ⟨s, hs, he⟩ := ht
                obtain ⟨j, hj, rfl⟩ := List.getElem_of_mem hs
                have := (c1 j hj).1
                exact List.mem_map.2 ⟨q, List.mem_range.2 (by omega), rfl⟩
              simpa using h2
            · have h2 : ((List.range b.attrs.length).map (fun j : Nat => (j : Int))).length ≤ (listOf (usedN b.slots)).length := by
                refine nodup_le _ _ ?_ (fun x hx => ?_)
                · unfold List.Nodup
                  rw [List.pairwise_map]
                  exact List.nodup_range.imp (fun {a b} h e => h (by omega))
                · obtain ⟨q, hq, rfl⟩ := List.mem_map.1 hx
                  rw [List.mem_range] at hq
                  refine (mem_listN _ _ _).2 ⟨by omega, ?_⟩
                  unfold usedN
                  rw [ofN_testBit _ q (by omega), decide_eq_true_eq, List.mem_map]
                  have hcq := (c3 q (by omega) (by omega)).2.1
                  exact ⟨((q + 1 : Nat) : Int), List.count_pos_iff.1 (by omega), by omega⟩
              simpa using h2
          unfold rightB attrsOk freeOk
          simp only [Bool.and_eq_true, decide_eq_true_eq, List.all_eq_true, beq_iff_eq, List.mem_range, Bool.not_eq_true']
          refine ⟨?_, ho, by omega, ⟨?_, ?_, hused⟩, ?_, hzc⟩
          · unfold firstI
            have := hk.a0
            rw [Int.tmod_eq_emod_of_nonneg hk.a0] at hmod
            omega
          · intro x hx
            obtain ⟨j, hj, rfl⟩ := List.getElem_of_mem hx
            have := (c1 j hj).1
            omega
          · intro j hj
            have h3 := c3 j (by omega) (by omega)
            rw [hat j hj]
            refine ⟨by simpa [vc] using h3.1, ?_⟩
            rw [List.any_eq_false]
            intro x hx
            obtain ⟨q, hq, rfl⟩ := List.getElem_of_mem hx
            have h4 := h3.2.2 q (by rw [List.length_take] at hq ⊢; omega)
            intro he
            unfold sameAt at he
            simp only [List.getElem_take, List.getElem_map, vc] at h4 he
            rw [Bool.and_eq_true, beq_iff_eq, beq_iff_eq] at he
            rw [he.1, he.2] at h4
            simp at h4
          · intro j hj
            unfold freeBad
            rw [rd_get b.free j hj]
            have hb := c2 j hj
            simp only [Bool.or_eq_false_iff, decide_eq_false_iff_not, bne_eq_false_iff_eq]
            refine ⟨by omega, fun hm => ?_, hmem j hj⟩
            rw [List.mem_take_iff_getElem] at hm
            obtain ⟨q, hq, e⟩ := hm
            exact (List.pairwise_iff_getElem.1 hnd) q j (by omega) hj (by omega) e
    · exact ⟨false, by rw [if_neg hmod, virgateref15_Right.j0, if_pos rfl], fun h => by cases h⟩
end Go.Proofs.Ytemhalnhbgkbcaa.V
end

-- BBRight
section
/- BlockRight. -/
namespace Go.Proofs.Ytemhalnhbgkbcaa.V
open Go.RowKit Go.Proofs.YtemhalnhbgkbcaaW.PrintWords Go.Proofs.YtemhalnhbgkbcaaW.PrintLast Go.Proofs.YtemhalnhbgkbcaaW.PrintMore
set_option linter.unusedVariables false
set_option linter.unusedSimpArgs false

set_option maxHeartbeats 16000000 in
set_option maxRecDepth 100000 in
theorem blockRight_yes (r : Rw) (ha0 : 0 ≤ r.addr) (ha1 : r.addr < 4294967296) (hs : U8s r.slots) (hf : U8s r.free) (hz0 : r.aff.size ≤ 9223372036854775807) (hz : ∀ a ∈ r.attrs, a.f0.size ≤ 9223372036854775807 ∧ a.f1.size ≤ 9223372036854775807) (a : RAt) (x : Int) (hx0 : 0 ≤ x) (hx1 : x < 4294967296) (hrt : rightB (ours r) = true) (v : Value) (w : World) (h : RwV w v r) :
    Calls Try.prog 11 #[v, .agg #[.string a.f0, .string a.f1], .int .u32 x] w fun e w' => e = .returned (.bool true) ∧ Below w.heap.size w w' := by
  obtain ⟨A, c, A', c', rfl, hr⟩ := h
  have hok : BkOk (ours r) := ⟨ha0, ha1, hs, fun x hx => hf x (List.mem_of_mem_take hx)⟩
  have hl : (ours r).slots.length = 64 := hr.l64
  have hfl : (ours r).free.length ≤ 70 := by show (r.free.take 70).length ≤ 70; rw [List.length_take]; omega
  have hal : (ours r).attrs.length ≤ 70 := by show ((r.attrs.take 70).map cv).length ≤ 70; rw [List.length_map, List.length_take]; omega
  have hrr : RefRight (ours r) (rightB (ours r)) := ref_right_any hok hl (by omega) hz0 (by
    intro a ha
    obtain ⟨x, hx, rfl⟩ := List.mem_map.1 ha
    exact hz x (List.mem_of_mem_take hx))
  have hou := fun v w h => ours_any r hs v w h
  have H68 := Aside0.mk (bkL_length r.addr r.aff r.slots (.slice A r.free.length c) (.slice A' r.attrs.length c') hr.l64)
  have HR := Aside0.mk hr
  clear hr ha0 ha1 hs hf hz0 hz
  generalize ours r = b at hok hl hfl hal hrr hou hrt
  obtain ⟨M, hM⟩ : ∃ M, M = b.attrs.map vc := ⟨_, rfl⟩
  have HOU := Aside0.mk hou
  have HL := Aside0.mk hl
  have HPL := Aside0.mk (plain_m b hok (by omega) (by omega) M hM)
  rw [hrt] at hrr
  have HRR := Aside0.mk (refright_m b true hrr M hM)
  have hrb := fun v w h => right_any' b hok v w h
  rw [hrt] at hrb
  have HRB := Aside0.mk hrb
  have HB_0 := Aside0.mk (Below.refl w.heap.size w)
  clear hok hl hfl hal hrr hou hrt hM hrb
  go_enter Try.func11, Try.ntmps11
  go_wp2_with (first
    | (refine step_box rfl 51 (.tmp 0) rfl _ rfl ?_; intro gR W1 hg_ hx_ hb_; have GE_gR := Aside0.mk (show w.heap.size ≤ gR by have := HB_0.out.size; omega); have HB_1 := Aside0.mk (HB_0.out.trans (hb_.mono HB_0.out.size)); have HR_1 := Aside0.mk (hx_); clear hg_ hx_ hb_ HB_0)
    | (refine step_box rfl 76 (.tmp 1) rfl _ rfl ?_; intro gA W2 hg_ hx_ hb_; have GE_gA := Aside0.mk (show w.heap.size ≤ gA by have := HB_1.out.size; omega); have NE_gR_gA := Aside0.mk (show gR ≠ gA by have := HR_1.out.lt; omega); have HB_2 := Aside0.mk (HB_1.out.trans (hb_.mono HB_1.out.size)); have HR_2 := Aside0.mk (HR_1.out.below hb_); have HA_2 := Aside0.mk (hx_); clear hg_ hx_ hb_ HB_1 HR_1)
    | ((with_reducible refine gate_dst (N := 27) rfl ?_); refine step_load rfl 51 (.tmp 3) rfl gR rfl _ _ _ HR_2.out Try.underlying51 rfl 68 (by kernel_rfl) H68.out ?_)
    | (go_at_call 33; refine (HOU.out _ _ ⟨A, c, A', c', rfl, HR.out.below HB_2.out⟩).mono ?_; rintro e W3 ⟨v_, rfl, ho_, hb_⟩; obtain ⟨hl_, vf_, va_, rfl, hf_, ha_⟩ := ho_; obtain ⟨Af, cf, rfl⟩ := Kd.R_slice hf_; obtain ⟨Aa, ca, rfl⟩ := Kd.R_slice ha_; have HB_3 := Aside0.mk (HB_2.out.trans (hb_.mono HB_2.out.size)); have HR_3 := Aside0.mk (HR_2.out.below hb_); have HA_3 := Aside0.mk (HA_2.out.below hb_); have HF_3 := Aside0.mk (Kd.R_lower hf_ HB_2.out.size); have HG_3 := Aside0.mk (Kd.R_lower ha_ HB_2.out.size); clear hl_ hf_ ha_ hb_ HB_2 HR_2 HA_2)
    | (refine step_allocN (some 7) rfl rfl 57 rfl zeroL zero57 ?_; intro gX W4 hg_ hx_ hb_; have GE_gX := Aside0.mk (show w.heap.size ≤ gX by have := HB_3.out.size; omega); have NE_gA_gX := Aside0.mk (show gA ≠ gX by have := HA_3.out.lt; omega); have HB_4 := Aside0.mk (HB_3.out.trans (hb_.mono HB_3.out.size)); have HA_4 := Aside0.mk (HA_3.out.below hb_); have HF_4 := Aside0.mk (Kd.R_below HF_3.out hb_); have HG_4 := Aside0.mk (Kd.R_below HG_3.out hb_); have HX_4 := Aside0.mk (hx_); clear hg_ hx_ hb_ HB_3 HA_3 HF_3 HG_3)
    | (refine step_store rfl 57 (.tmp 7) (.tmp 28) rfl gX (bkL b.addr b.aff b.slots (.slice Af b.free.length cf) (.slice Aa b.attrs.length ca)) rfl rfl 57 _ HX_4.out 68 (by kernel_rfl) (bkL_length _ _ _ _ _ HL.out) rfl (bkL_one _ _ _ _ _ rfl rfl) ?_; intro W5 hx_ hg_; have HB_5 := Aside0.mk (HB_4.out.grown hg_ HB_4.out.size (by intro k hk; cases hk; exact GE_gX.out)); have HA_5 := Aside0.mk (HA_4.out.grown hg_ (fun e => (HA_4.out.ne HX_4.out (by decide)) (Option.some.inj e))); have HF_5 := Aside0.mk (R_box_grown HF_4.out HX_4.out (by decide) hg_); have HG_5 := Aside0.mk (R_box_grown HG_4.out HX_4.out (by decide) hg_); have HX_5 := Aside0.mk (hx_); clear hx_ hg_ HB_4 HA_4 HF_4 HG_4 HX_4)
    | ((with_reducible refine gate_dst (N := 29) rfl ?_); refine step_load rfl 57 (.tmp 7) rfl gX rfl _ _ _ HX_5.out Try.underlying57 rfl 68 (by kernel_rfl) (bkL_length _ _ _ _ _ HL.out) ?_)
    | (go_at_call 36; refine (HPL.out _ _ ⟨_, _, _, _, rfl, ⟨HL.out, (Kd.R_reads' HF_5.out).2.2, (Kd.R_reads' HF_5.out).2.1, (Kd.R_reads' HG_5.out).2.2, (Kd.R_reads' HG_5.out).2.1⟩⟩).mono ?_; rintro e W6 ⟨Bs, ds, Bf, df, Ba, da, rfl, p1, p2, p3, hb_⟩; have P1 := Aside0.mk p1; have P2 := Aside0.mk p2; have P3 := Aside0.mk p3; have HB_6 := Aside0.mk (HB_5.out.trans (hb_.mono HB_5.out.size)); have HA_6 := Aside0.mk (HA_5.out.below hb_); have HF_6 := Aside0.mk (Kd.R_below HF_5.out hb_); have HG_6 := Aside0.mk (Kd.R_below HG_5.out hb_); have HX_6 := Aside0.mk (HX_5.out.below hb_); clear p1 p2 p3 hb_ HB_5 HA_5 HF_5 HG_5 HX_5)
    | (go_at_call 35; refine (HRR.out Bs Bf Ba ds df da _ P1.out P2.out P3.out).mono ?_; rintro e W7 ⟨rfl, hb_⟩; have HB_7 := Aside0.mk (HB_6.out.trans (hb_.mono HB_6.out.size)); have HA_7 := Aside0.mk (HA_6.out.below hb_); have HF_7 := Aside0.mk (Kd.R_below HF_6.out hb_); have HG_7 := Aside0.mk (Kd.R_below HG_6.out hb_); have HX_7 := Aside0.mk (HX_6.out.below hb_); clear hb_ HB_6 HA_6 HF_6 HG_6 HX_6)
    | ((with_reducible refine gate_dst (N := 32) rfl ?_); refine step_load rfl 57 (.tmp 7) rfl gX rfl _ _ _ HX_7.out Try.underlying57 rfl 68 (by kernel_rfl) (bkL_length _ _ _ _ _ HL.out) ?_)
    | (go_at_call 48; refine (HRB.out _ _ ⟨_, _, _, _, rfl, ⟨HL.out, (Kd.R_reads' HF_7.out).2.2, (Kd.R_reads' HF_7.out).2.1, (Kd.R_reads' HG_7.out).2.2, (Kd.R_reads' HG_7.out).2.1⟩⟩).mono ?_; rintro e W8 ⟨rfl, hb_⟩; have HB_8 := Aside0.mk (HB_7.out.trans (hb_.mono HB_7.out.size)); have HA_8 := Aside0.mk (HA_7.out.below hb_); have HF_8 := Aside0.mk (Kd.R_below HF_7.out hb_); have HG_8 := Aside0.mk (Kd.R_below HG_7.out hb_); have HX_8 := Aside0.mk (HX_7.out.below hb_); clear hb_ HB_7 HA_7 HF_7 HG_7 HX_7)
    | (go_at_call 44; refine (awake15_any _).mono ?_; rintro e W9 ⟨rfl, hb_⟩; have HB_9 := Aside0.mk (HB_8.out.trans (hb_.mono HB_8.out.size)); have HA_9 := Aside0.mk (HA_8.out.below hb_); have HF_9 := Aside0.mk (Kd.R_below HF_8.out hb_); have HG_9 := Aside0.mk (Kd.R_below HG_8.out hb_); have HX_9 := Aside0.mk (HX_8.out.below hb_); clear hb_ HB_8 HA_8 HF_8 HG_8 HX_8))
  go_ret
  exact ⟨rfl, HB_9.out⟩
def bri7.T7 : Bool × List (List Nat × List Nat) := (true, [([], []), ([], []), ([1], [1]), ([0, 2, 2], [0, 2]), ([3], [3]), ([4], [4]), ([4], [4]), ([4], [4]), ([], []), ([8, 5, 3, 0, 1, 2, 3, 4, 5, 8], [5, 8]), ([6, 9, 0, 1, 2, 3, 4, 5, 6, 8, 9], [6]), ([7, 10, 0, 1, 2, 3, 4, 5, 6, 7, 8, 9, 10], [7])])
def bri7.B7 : List Nat := [0, 0, 2, 7, 15, 31, 31, 31, 0, 319, 895, 2047]
theorem bri7.tab7 : rtab .any (opsOf Try.f11 7) = bri7.T7 := by kernel_rfl
theorem bri7.bits7 : waitsOk bri7.T7.2 bri7.B7 = true := by kernel_rfl
def bri8.T8 : Bool × List (List Nat × List Nat) := (true, [([], []), ([], []), ([], []), ([2], [2]), ([0, 1, 3, 3], [0, 1, 3]), ([4], [4]), ([5], [5]), ([5], [5]), ([], []), ([8, 6, 4, 0, 1, 2, 3, 4, 5, 6, 8], [6, 8]), ([7, 9, 0, 1, 2, 3, 4, 5, 6, 7, 8, 9], [7])])
def bri8.B8 : List Nat := [0, 0, 0, 4, 15, 31, 63, 63, 0, 383, 1023]
theorem bri8.tab8 : rtab .any (opsOf Try.f11 8) = bri8.T8 := by kernel_rfl
theorem bri8.bits8 : waitsOk bri8.T8.2 bri8.B8 = true := by kernel_rfl
set_option maxHeartbeats 16000000 in
set_option maxRecDepth 100000 in
theorem blockRight_no (r : Rw) (ha0 : 0 ≤ r.addr) (ha1 : r.addr < 4294967296) (hs : U8s r.slots) (hf : U8s r.free) (hz0 : r.aff.size ≤ 9223372036854775807) (hz : ∀ a ∈ r.attrs, a.f0.size ≤ 9223372036854775807 ∧ a.f1.size ≤ 9223372036854775807) (a : RAt) (x : Int) (hx0 : 0 ≤ x) (hx1 : x < 4294967296) (hrt : rightB (ours r) = false) (v : Value) (w : World) (h : RwV w v r) :
    Calls Try.prog 11 #[v, .agg #[.string a.f0, .string a.f1], .int .u32 x] w fun e w' => e = .returned (.bool true) ∧ Below w.heap.size w w' := by
  obtain ⟨A, c, A', c', rfl, hr⟩ := h
  have hok : BkOk (ours r) := ⟨ha0, ha1, hs, fun x hx => hf x (List.mem_of_mem_take hx)⟩
  have hl : (ours r).slots.length = 64 := hr.l64
  have hfl : (ours r).free.length ≤ 70 := by show (r.free.take 70).length ≤ 70; rw [List.length_take]; omega
  have hal : (ours r).attrs.length ≤ 70 := by show ((r.attrs.take 70).map cv).length ≤ 70; rw [List.length_map, List.length_take]; omega
  have hrr : RefRight (ours r) (rightB (ours r)) := ref_right_any hok hl (by omega) hz0 (by
    intro a ha
    obtain ⟨x, hx, rfl⟩ := List.mem_map.1 ha
    exact hz x (List.mem_of_mem_take hx))
  have hou := fun v w h => ours_any r hs v w h
  have H68 := Aside0.mk (bkL_length r.addr r.aff r.slots (.slice A r.free.length c) (.slice A' r.attrs.length c') hr.l64)
  have HR := Aside0.mk hr
  clear hr ha0 ha1 hs hf hz0 hz
  generalize ours r = b at hok hl hfl hal hrr hou hrt
  obtain ⟨M, hM⟩ : ∃ M, M = b.attrs.map vc := ⟨_, rfl⟩
  have HOU := Aside0.mk hou
  have HL := Aside0.mk hl
  have HPL := Aside0.mk (plain_m b hok (by omega) (by omega) M hM)
  rw [hrt] at hrr
  have HRR := Aside0.mk (refright_m b false hrr M hM)
  have hrb := fun v w h => right_any' b hok v w h
  rw [hrt] at hrb
  have HRB := Aside0.mk hrb
  have HB_0 := Aside0.mk (Below.refl w.heap.size w)
  have hpl := fun v w h => place_any b hok x hx0 hx1 v w h
  have has := fun v w h => assign_no b hok 1 (cv a) (by unfold asgOk; rw [hrt]; rfl) v w h
  have hat := fun v w h => assignAt_x b hok x _ _ (cv a) hpl (by rw [hrt]; rfl) v w h
  have hrl := fun A c v w h hC => release_no b hok [x] (by intro y hy; rw [List.mem_singleton] at hy; subst hy; exact ⟨hx0, hx1⟩) (by simp) A c hrt v w h hC
  have hrh := fun v w h => relHandle_no b hok a.f0 hrt v w h
  have hrn := fun v w h => relNode_no b hok a.f1 hrt v w h
  have hon := fun v w h => own_any b hok (by omega) (by omega) ⟨#[]⟩ v w h
  rw [hrt] at hon
  simp only [Bool.false_and, Bool.false_eq_true, if_false] at hon
  have hof := fun v w h => of_no b hok hrt x hx0 hx1 v w h
  have hem := fun v w h => empty_any b hok v w h
  rw [hrt] at hem
  simp only [Bool.false_and] at hem
  have hco := fun v w h => count_no b hok hrt v w h
  have hgi := fun v w h => given_any b hok v w h
  rw [hrt] at hgi
  simp only [Bool.false_eq_true, if_false] at hgi
  have hzl : zbk.slots.length = 64 := rfl
  generalize zbk = z at has hat hrl hrh hrn hon hzl
  have HAS := Aside0.mk has
  have HAT := Aside0.mk hat
  have HRL := Aside0.mk hrl
  have HRH := Aside0.mk hrh
  have HRN := Aside0.mk hrn
  have HON := Aside0.mk hon
  have HOF := Aside0.mk hof
  have HEM := Aside0.mk hem
  have HCO := Aside0.mk hco
  have HGI := Aside0.mk hgi
  have HZL := Aside0.mk hzl
  clear hok hl hfl hal hrr hou hrt hM hrb has hat hrl hrh hrn hon hof hem hco hgi hpl hzl
  go_enter Try.func11, Try.ntmps11
  go_wp2_with (first
    | (refine step_box rfl 51 (.tmp 0) rfl _ rfl ?_; intro gR W1 hg_ hx_ hb_; have GE_gR := Aside0.mk (show w.heap.size ≤ gR by have := HB_0.out.size; omega); have HB_1 := Aside0.mk (HB_0.out.trans (hb_.mono HB_0.out.size)); have HR_1 := Aside0.mk (hx_); clear hg_ hx_ hb_ HB_0)
    | (refine step_box rfl 76 (.tmp 1) rfl _ rfl ?_; intro gA W2 hg_ hx_ hb_; have GE_gA := Aside0.mk (show w.heap.size ≤ gA by have := HB_1.out.size; omega); have NE_gR_gA := Aside0.mk (show gR ≠ gA by have := HR_1.out.lt; omega); have HB_2 := Aside0.mk (HB_1.out.trans (hb_.mono HB_1.out.size)); have HR_2 := Aside0.mk (HR_1.out.below hb_); have HA_2 := Aside0.mk (hx_); clear hg_ hx_ hb_ HB_1 HR_1)
    | ((with_reducible refine gate_dst (N := 27) rfl ?_); refine step_load rfl 51 (.tmp 3) rfl gR rfl _ _ _ HR_2.out Try.underlying51 rfl 68 (by kernel_rfl) H68.out ?_)
    | (go_at_call 33; refine (HOU.out _ _ ⟨A, c, A', c', rfl, HR.out.below HB_2.out⟩).mono ?_; rintro e W3 ⟨v_, rfl, ho_, hb_⟩; obtain ⟨hl_, vf_, va_, rfl, hf_, ha_⟩ := ho_; obtain ⟨Af, cf, rfl⟩ := Kd.R_slice hf_; obtain ⟨Aa, ca, rfl⟩ := Kd.R_slice ha_; have HB_3 := Aside0.mk (HB_2.out.trans (hb_.mono HB_2.out.size)); have HR_3 := Aside0.mk (HR_2.out.below hb_); have HA_3 := Aside0.mk (HA_2.out.below hb_); have HF_3 := Aside0.mk (Kd.R_lower hf_ HB_2.out.size); have HG_3 := Aside0.mk (Kd.R_lower ha_ HB_2.out.size); clear hl_ hf_ ha_ hb_ HB_2 HR_2 HA_2)
    | (refine step_allocN (some 7) rfl rfl 57 rfl zeroL zero57 ?_; intro gX W4 hg_ hx_ hb_; have GE_gX := Aside0.mk (show w.heap.size ≤ gX by have := HB_3.out.size; omega); have NE_gA_gX := Aside0.mk (show gA ≠ gX by have := HA_3.out.lt; omega); have HB_4 := Aside0.mk (HB_3.out.trans (hb_.mono HB_3.out.size)); have HA_4 := Aside0.mk (HA_3.out.below hb_); have HF_4 := Aside0.mk (Kd.R_below HF_3.out hb_); have HG_4 := Aside0.mk (Kd.R_below HG_3.out hb_); have HX_4 := Aside0.mk (hx_); clear hg_ hx_ hb_ HB_3 HA_3 HF_3 HG_3)
    | (refine step_store rfl 57 (.tmp 7) (.tmp 28) rfl gX (bkL b.addr b.aff b.slots (.slice Af b.free.length cf) (.slice Aa b.attrs.length ca)) rfl rfl 57 _ HX_4.out 68 (by kernel_rfl) (bkL_length _ _ _ _ _ HL.out) rfl (bkL_one _ _ _ _ _ rfl rfl) ?_; intro W5 hx_ hg_; have HB_5 := Aside0.mk (HB_4.out.grown hg_ HB_4.out.size (by intro k hk; cases hk; exact GE_gX.out)); have HA_5 := Aside0.mk (HA_4.out.grown hg_ (fun e => (HA_4.out.ne HX_4.out (by decide)) (Option.some.inj e))); have HF_5 := Aside0.mk (R_box_grown HF_4.out HX_4.out (by decide) hg_); have HG_5 := Aside0.mk (R_box_grown HG_4.out HX_4.out (by decide) hg_); have HX_5 := Aside0.mk (hx_); clear hx_ hg_ HB_4 HA_4 HF_4 HG_4 HX_4)
    | ((with_reducible refine gate_dst (N := 29) rfl ?_); refine step_load rfl 57 (.tmp 7) rfl gX rfl _ _ _ HX_5.out Try.underlying57 rfl 68 (by kernel_rfl) (bkL_length _ _ _ _ _ HL.out) ?_)
    | (go_at_call 36; refine (HPL.out _ _ ⟨_, _, _, _, rfl, ⟨HL.out, (Kd.R_reads' HF_5.out).2.2, (Kd.R_reads' HF_5.out).2.1, (Kd.R_reads' HG_5.out).2.2, (Kd.R_reads' HG_5.out).2.1⟩⟩).mono ?_; rintro e W6 ⟨Bs, ds, Bf, df, Ba, da, rfl, p1, p2, p3, hb_⟩; have P1 := Aside0.mk p1; have P2 := Aside0.mk p2; have P3 := Aside0.mk p3; have HB_6 := Aside0.mk (HB_5.out.trans (hb_.mono HB_5.out.size)); have HA_6 := Aside0.mk (HA_5.out.below hb_); have HF_6 := Aside0.mk (Kd.R_below HF_5.out hb_); have HG_6 := Aside0.mk (Kd.R_below HG_5.out hb_); have HX_6 := Aside0.mk (HX_5.out.below hb_); clear p1 p2 p3 hb_ HB_5 HA_5 HF_5 HG_5 HX_5)
    | (go_at_call 35; refine (HRR.out Bs Bf Ba ds df da _ P1.out P2.out P3.out).mono ?_; rintro e W7 ⟨rfl, hb_⟩; have HB_7 := Aside0.mk (HB_6.out.trans (hb_.mono HB_6.out.size)); have HA_7 := Aside0.mk (HA_6.out.below hb_); have HF_7 := Aside0.mk (Kd.R_below HF_6.out hb_); have HG_7 := Aside0.mk (Kd.R_below HG_6.out hb_); have HX_7 := Aside0.mk (HX_6.out.below hb_); clear hb_ HB_6 HA_6 HF_6 HG_6 HX_6)
    | ((with_reducible refine gate_dst (N := 32) rfl ?_); refine step_load rfl 57 (.tmp 7) rfl gX rfl _ _ _ HX_7.out Try.underlying57 rfl 68 (by kernel_rfl) (bkL_length _ _ _ _ _ HL.out) ?_)
    | (go_at_call 48; refine (HRB.out _ _ ⟨_, _, _, _, rfl, ⟨HL.out, (Kd.R_reads' HF_7.out).2.2, (Kd.R_reads' HF_7.out).2.1, (Kd.R_reads' HG_7.out).2.2, (Kd.R_reads' HG_7.out).2.1⟩⟩).mono ?_; rintro e W8 ⟨rfl, hb_⟩; have HB_8 := Aside0.mk (HB_7.out.trans (hb_.mono HB_7.out.size)); have HA_8 := Aside0.mk (HA_7.out.below hb_); have HF_8 := Aside0.mk (Kd.R_below HF_7.out hb_); have HG_8 := Aside0.mk (Kd.R_below HG_7.out hb_); have HX_8 := Aside0.mk (HX_7.out.below hb_); clear hb_ HB_7 HA_7 HF_7 HG_7 HX_7))
  have HLL := Aside0.mk (size57 (bkL b.addr b.aff b.slots (.slice Af b.free.length cf) (.slice Aa b.attrs.length ca)) (bkL_length _ _ _ _ _ HL.out))
  have hd0 : Below W8.heap.size W8 W8.drew := below_drew (Below.refl _ _)
  have HB_9 := Aside0.mk (HB_8.out.trans (hd0.mono HB_8.out.size)); have HA_9 := Aside0.mk (HA_8.out.below hd0); have HF_9 := Aside0.mk (Kd.R_below HF_8.out hd0); have HG_9 := Aside0.mk (Kd.R_below HG_8.out hd0); have HX_9 := Aside0.mk (HX_8.out.below hd0)
  clear hd0 HB_8 HA_8 HF_8 HG_8 HX_8
  have hX := HX_9
  have hA := HA_9
  have hF := HF_9
  have hG := HG_9
  have hB := HB_9
  clear HX_9 HA_9 HF_9 HG_9 HB_9
  refine start_ (n := 12) (S := fun w' => Box w' gX (bkL b.addr b.aff b.slots (.slice Af b.free.length cf) (.slice Aa b.attrs.length ca)) 57 ∧ Box w' gA [.string a.f0, .string a.f1] 76) (ds := []) #[false, false, false, false, false, false, false, false, false, false, false, false] (by kernel_rfl) rfl rfl ⟨hX.out, hA.out⟩ (fun hHeld => ?_); refine with_tabW bri7.tab7 bri7.bits7 (fun HT_ HW_ => ?_)
  refine take_ (i := 0) (N := some 39) (v := ?_) (a' := ?_) #[true, false, false, false, false, false, false, false, false, false, false, false] rfl rfl (take_ofW HT_.out HW_.out (by kernel_rfl)) (fun _ _ _ h => h) (Or.inl ⟨by rfl, ?_⟩) hHeld ?_ ?_
  rotate_left
  · intro w' hS_
    refine run_load_box 57 (.tmp 7) ?_ gX ?_ _ _ _ hS_.1 Try.underlying57 rfl HLL.out
    rfl
    rfl
  rotate_left
  · simp only [Act.put, List.setIfInBounds_toArray, List.set_cons_zero, List.set_cons_succ, i64_w, i32_w]
    rfl
  refine take_ (i := 1) (N := some 40) (v := ?_) (a' := ?_) #[true, true, false, false, false, false, false, false, false, false, false, false] rfl rfl (take_ofW HT_.out HW_.out (by kernel_rfl)) (fun _ _ _ h => h) (Or.inl ⟨by rfl, ?_⟩) hHeld ?_ ?_
  rotate_left
  · intro w' hS_
    refine run_load_box 76 (.tmp 4) ?_ gA ?_ _ _ _ hS_.2 Try.underlying76 rfl (by kernel_rfl)
    rfl
    rfl
  rotate_left
  · simp only [Act.put, List.setIfInBounds_toArray, List.set_cons_zero, List.set_cons_succ, i64_w, i32_w]
    rfl
  refine join_ (σ := Nat × Value × Value) 3 #[true, true, true, true, true, true, true, true, true, false, false, false] (fun s => [(41, atV (cv a)), (42, .tuple #[s.2.1, s.2.2, .int .i64 1]), (38, .tuple #[s.2.1, s.2.2, .int .i64 1]), (43, s.2.1), (44, s.2.2), (45, .int .i64 1), (9, .pointer (some ⟨s.1, 0, none⟩))]) (fun s w' => Aside0 (Box w' gX (bkL b.addr b.aff b.slots (.slice Af b.free.length cf) (.slice Aa b.attrs.length ca)) 57) ∧ Aside0 (Box w' gA [.string a.f0, .string a.f1] 76) ∧ Aside0 (Kd.R (Kd.int .u8) 5 w' w.heap.size (fun _ => True) (.slice Af b.free.length cf) b.free) ∧ Aside0 (Kd.R k85 85 w' w.heap.size (fun _ => True) (.slice Aa b.attrs.length ca) b.attrs) ∧ Aside0 (Below w.heap.size w w') ∧ Aside0 (Box w' s.1 zeroL 57) ∧ Aside0 (w.heap.size ≤ s.1) ∧ Aside0 (gX ≠ s.1) ∧ Aside0 (BkO w' w.heap.size s.2.1 z)) ?_ ?_
  rotate_left
  · intro hCont_
    refine two_ (i := 2) (j := 8) (Ni := some 41) (Nj := some 9) #[true, true, true, false, false, false, false, false, false, false, false, false] #[true, true, false, false, false, false, false, false, true, false, false, false] rfl rfl rfl rfl (two_of HT_.out (by kernel_rfl)) (by decide) (by decide) (fun K hK => ?_) (fun K hK => ?_)
    · skip
      refine goes_ Try.func50 (by kernel_rfl) rfl #[.agg #[.string a.f0, .string a.f1]] (by rfl) rfl rfl (by (try simp only [List.map_toArray, List.map_cons, List.map_nil]); first | done | rfl) ?_
      refine (cv_any a _).mono ?_
      rintro e V1 ⟨rfl, hb_⟩
      refine ⟨_, rfl, ?_⟩
      (try replace hV := Aside0.mk (hV.out.below hb_)); (try replace hQ := Aside0.mk (hQ.out.below hb_)); replace hX := Aside0.mk (hX.out.below hb_); replace hA := Aside0.mk (hA.out.below hb_); replace hF := Aside0.mk (Kd.R_below hF.out hb_); replace hG := Aside0.mk (Kd.R_below hG.out hb_); replace hB := Aside0.mk (hB.out.trans (hb_.mono hB.out.size)); clear hb_
      refine hK.out _ _ ⟨hX.out, hA.out⟩ (fun hHeld => ?_)
      clear hK K
      refine norm_ (a' := ?_) ?_ ?_
      rotate_left
      · show Act.put _ (some 41) _ = _
        simp only [Act.put, List.setIfInBounds_toArray, List.set_cons_zero, List.set_cons_succ, i64_w, i32_w]
        rfl
      refine two_ (i := 3) (j := 8) (Ni := some 42) (Nj := some 9) #[true, true, true, true, false, false, false, false, false, false, false, false] #[true, true, true, false, false, false, false, false, true, false, false, false] rfl rfl rfl rfl (two_of HT_.out (by kernel_rfl)) (by decide) (by decide) (fun K hK => ?_) (fun K hK => ?_)
      · skip
        refine goes_ Try.func49 (by kernel_rfl) rfl #[.agg (bkL b.addr b.aff b.slots (.slice Af b.free.length cf) (.slice Aa b.attrs.length ca)).toArray, .int .i64 1, atV (cv a)] (by rfl) rfl rfl (by (try simp only [List.map_toArray, List.map_cons, List.map_nil]); first | done | rfl) ?_
        refine (HAS.out _ _ ⟨_, _, _, _, rfl, ⟨HL.out, (Kd.R_reads' hF.out).2.2, (Kd.R_reads' hF.out).2.1, (Kd.R_reads' hG.out).2.2, (Kd.R_reads' hG.out).2.1⟩⟩).mono ?_
        rintro e V2 ⟨v_, vq_, rfl, ho_, hq_, hb_⟩
        refine ⟨_, rfl, ?_⟩
        have hV := Aside0.mk (ho_.lower hB.out.size); (try replace hQ := Aside0.mk (hQ.out.below hb_)); replace hX := Aside0.mk (hX.out.below hb_); replace hA := Aside0.mk (hA.out.below hb_); replace hF := Aside0.mk (Kd.R_below hF.out hb_); replace hG := Aside0.mk (Kd.R_below hG.out hb_); replace hB := Aside0.mk (hB.out.trans (hb_.mono hB.out.size)); clear ho_ hb_ hq_
        refine hK.out _ _ ⟨hX.out, hA.out⟩ (fun hHeld => ?_)
        clear hK K
        refine norm_ (a' := ?_) ?_ ?_
        rotate_left
        · show Act.put _ (some 42) _ = _
          simp only [Act.put, List.setIfInBounds_toArray, List.set_cons_zero, List.set_cons_succ, i64_w, i32_w]
          rfl
        refine pure_ (i := 4) (N := some 38) (v := ?_) (a' := ?_) #[true, true, true, true, true, false, false, false, false, false, false, false] rfl rfl (any_of HT_.out (by kernel_rfl)) (fun _ _ _ h => h) (Or.inl ⟨by rfl, ?_⟩) ?_ ?_
        rotate_left
        · intro w'
          go_simp
          with_reducible rfl
        rotate_left
        · simp only [Act.put, List.setIfInBounds_toArray, List.set_cons_zero, List.set_cons_succ, i64_w, i32_w]
          rfl
        refine pure_ (i := 5) (N := some 43) (v := ?_) (a' := ?_) #[true, true, true, true, true, true, false, false, false, false, false, false] rfl rfl (any_of HT_.out (by kernel_rfl)) (fun _ _ _ h => h) (Or.inl ⟨by rfl, ?_⟩) ?_ ?_
        rotate_left
        · intro w'
          go_simp
          with_reducible rfl
        rotate_left
        · simp only [Act.put, List.setIfInBounds_toArray, List.set_cons_zero, List.set_cons_succ, i64_w, i32_w]
          rfl
        refine pure_ (i := 6) (N := some 44) (v := ?_) (a' := ?_) #[true, true, true, true, true, true, true, false, false, false, false, false] rfl rfl (any_of HT_.out (by kernel_rfl)) (fun _ _ _ h => h) (Or.inl ⟨by rfl, ?_⟩) ?_ ?_
        rotate_left
        · intro w'
          go_simp
          with_reducible rfl
        rotate_left
        · simp only [Act.put, List.setIfInBounds_toArray, List.set_cons_zero, List.set_cons_succ, i64_w, i32_w]
          rfl
        refine pure_ (i := 7) (N := some 45) (v := ?_) (a' := ?_) #[true, true, true, true, true, true, true, true, false, false, false, false] rfl rfl (any_of HT_.out (by kernel_rfl)) (fun _ _ _ h => h) (Or.inl ⟨by rfl, ?_⟩) ?_ ?_
        rotate_left
        · intro w'
          go_simp
          with_reducible rfl
        rotate_left
        · simp only [Act.put, List.setIfInBounds_toArray, List.set_cons_zero, List.set_cons_succ, i64_w, i32_w]
          rfl
        refine one_ (i := 8) (N := some 9) #[true, true, true, true, true, true, true, true, true, false, false, false] rfl rfl (one_of HT_.out (by kernel_rfl)) (by decide) (fun K hK => ?_)
        refine raw_alloc (by rfl) 57 rfl zeroL zero57 ?_
        intro gQ V3 hg_ hx_ hb_
        have hGE := Aside0.mk (show w.heap.size ≤ gQ by have := hB.out.size; omega)
        have hNX := Aside0.mk (show gX ≠ gQ by have := hX.out.lt; omega)
        (try replace hV := Aside0.mk (hV.out.below hb_))
        replace hX := Aside0.mk (hX.out.below hb_)
        replace hA := Aside0.mk (hA.out.below hb_)
        replace hF := Aside0.mk (Kd.R_below hF.out hb_)
        replace hG := Aside0.mk (Kd.R_below hG.out hb_)
        replace hB := Aside0.mk (hB.out.trans (hb_.mono hB.out.size))
        have hQ := Aside0.mk hx_
        clear hg_ hx_ hb_
        refine hK.out _ _ ⟨hX.out, hA.out⟩ (fun hHeld => ?_)
        clear hK K
        refine norm_ (a' := ?_) ?_ ?_
        rotate_left
        · show Act.put _ (some 9) _ = _
          simp only [Act.put, List.setIfInBounds_toArray, List.set_cons_zero, List.set_cons_succ, i64_w, i32_w]
          rfl
        exact norm_ (by first | (simp only [putAll, Act.put, List.setIfInBounds_toArray, List.set_cons_zero, List.set_cons_succ]; done) | (simp only [putAll, Act.put, List.setIfInBounds_toArray, List.set_cons_zero, List.set_cons_succ]; rfl)) (hCont_ ⟨gQ, v_, vq_⟩ _ ⟨hX, hA, hF, hG, hB, hQ, hGE, hNX, hV⟩)
      · skip
        refine raw_alloc (by rfl) 57 rfl zeroL zero57 ?_
        intro gQ V3 hg_ hx_ hb_
        have hGE := Aside0.mk (show w.heap.size ≤ gQ by have := hB.out.size; omega)
        have hNX := Aside0.mk (show gX ≠ gQ by have := hX.out.lt; omega)
        (try replace hV := Aside0.mk (hV.out.below hb_))
        replace hX := Aside0.mk (hX.out.below hb_)
        replace hA := Aside0.mk (hA.out.below hb_)
        replace hF := Aside0.mk (Kd.R_below hF.out hb_)
        replace hG := Aside0.mk (Kd.R_below hG.out hb_)
        replace hB := Aside0.mk (hB.out.trans (hb_.mono hB.out.size))
        have hQ := Aside0.mk hx_
        clear hg_ hx_ hb_
        refine hK.out _ _ ⟨hX.out, hA.out⟩ (fun hHeld => ?_)
        clear hK K
        refine norm_ (a' := ?_) ?_ ?_
        rotate_left
        · show Act.put _ (some 9) _ = _
          simp only [Act.put, List.setIfInBounds_toArray, List.set_cons_zero, List.set_cons_succ, i64_w, i32_w]
          rfl
        refine one_ (i := 3) (N := some 42) #[true, true, true, true, false, false, false, false, true, false, false, false] rfl rfl (one_of HT_.out (by kernel_rfl)) (by decide) (fun K hK => ?_)
        refine goes_ Try.func49 (by kernel_rfl) rfl #[.agg (bkL b.addr b.aff b.slots (.slice Af b.free.length cf) (.slice Aa b.attrs.length ca)).toArray, .int .i64 1, atV (cv a)] (by rfl) rfl rfl (by (try simp only [List.map_toArray, List.map_cons, List.map_nil]); first | done | rfl) ?_
        refine (HAS.out _ _ ⟨_, _, _, _, rfl, ⟨HL.out, (Kd.R_reads' hF.out).2.2, (Kd.R_reads' hF.out).2.1, (Kd.R_reads' hG.out).2.2, (Kd.R_reads' hG.out).2.1⟩⟩).mono ?_
        rintro e V2 ⟨v_, vq_, rfl, ho_, hq_, hb_⟩
        refine ⟨_, rfl, ?_⟩
        have hV := Aside0.mk (ho_.lower hB.out.size); (try replace hQ := Aside0.mk (hQ.out.below hb_)); replace hX := Aside0.mk (hX.out.below hb_); replace hA := Aside0.mk (hA.out.below hb_); replace hF := Aside0.mk (Kd.R_below hF.out hb_); replace hG := Aside0.mk (Kd.R_below hG.out hb_); replace hB := Aside0.mk (hB.out.trans (hb_.mono hB.out.size)); clear ho_ hb_ hq_
        refine hK.out _ _ ⟨hX.out, hA.out⟩ (fun hHeld => ?_)
        clear hK K
        refine norm_ (a' := ?_) ?_ ?_
        rotate_left
        · show Act.put _ (some 42) _ = _
          simp only [Act.put, List.setIfInBounds_toArray, List.set_cons_zero, List.set_cons_succ, i64_w, i32_w]
          rfl
        refine pure_ (i := 4) (N := some 38) (v := ?_) (a' := ?_) #[true, true, true, true, true, false, false, false, true, false, false, false] rfl rfl (any_of HT_.out (by kernel_rfl)) (fun _ _ _ h => h) (Or.inl ⟨by rfl, ?_⟩) ?_ ?_
        rotate_left
        · intro w'
          go_simp
          with_reducible rfl
        rotate_left
        · simp only [Act.put, List.setIfInBounds_toArray, List.set_cons_zero, List.set_cons_succ, i64_w, i32_w]
          rfl
        refine pure_ (i := 5) (N := some 43) (v := ?_) (a' := ?_) #[true, true, true, true, true, true, false, false, true, false, false, false] rfl rfl (any_of HT_.out (by kernel_rfl)) (fun _ _ _ h => h) (Or.inl ⟨by rfl, ?_⟩) ?_ ?_
        rotate_left
        · intro w'
          go_simp
          with_reducible rfl
        rotate_left
        · simp only [Act.put, List.setIfInBounds_toArray, List.set_cons_zero, List.set_cons_succ, i64_w, i32_w]
          rfl
        refine pure_ (i := 6) (N := some 44) (v := ?_) (a' := ?_) #[true, true, true, true, true, true, true, false, true, false, false, false] rfl rfl (any_of HT_.out (by kernel_rfl)) (fun _ _ _ h => h) (Or.inl ⟨by rfl, ?_⟩) ?_ ?_
        rotate_left
        · intro w'
          go_simp
          with_reducible rfl
        rotate_left
        · simp only [Act.put, List.setIfInBounds_toArray, List.set_cons_zero, List.set_cons_succ, i64_w, i32_w]
          rfl
        refine pure_ (i := 7) (N := some 45) (v := ?_) (a' := ?_) #[true, true, true, true, true, true, true, true, true, false, false, false] rfl rfl (any_of HT_.out (by kernel_rfl)) (fun _ _ _ h => h) (Or.inl ⟨by rfl, ?_⟩) ?_ ?_
        rotate_left
        · intro w'
          go_simp
          with_reducible rfl
        rotate_left
        · simp only [Act.put, List.setIfInBounds_toArray, List.set_cons_zero, List.set_cons_succ, i64_w, i32_w]
          rfl
        exact norm_ (by first | (simp only [putAll, Act.put, List.setIfInBounds_toArray, List.set_cons_zero, List.set_cons_succ]; done) | (simp only [putAll, Act.put, List.setIfInBounds_toArray, List.set_cons_zero, List.set_cons_succ]; rfl)) (hCont_ ⟨gQ, v_, vq_⟩ _ ⟨hX, hA, hF, hG, hB, hQ, hGE, hNX, hV⟩)
    · skip
      refine raw_alloc (by rfl) 57 rfl zeroL zero57 ?_
      intro gQ V3 hg_ hx_ hb_
      have hGE := Aside0.mk (show w.heap.size ≤ gQ by have := hB.out.size; omega)
      have hNX := Aside0.mk (show gX ≠ gQ by have := hX.out.lt; omega)
      (try replace hV := Aside0.mk (hV.out.below hb_))
      replace hX := Aside0.mk (hX.out.below hb_)
      replace hA := Aside0.mk (hA.out.below hb_)
      replace hF := Aside0.mk (Kd.R_below hF.out hb_)
      replace hG := Aside0.mk (Kd.R_below hG.out hb_)
      replace hB := Aside0.mk (hB.out.trans (hb_.mono hB.out.size))
      have hQ := Aside0.mk hx_
      clear hg_ hx_ hb_
      refine hK.out _ _ ⟨hX.out, hA.out⟩ (fun hHeld => ?_)
      clear hK K
      refine norm_ (a' := ?_) ?_ ?_
      rotate_left
      · show Act.put _ (some 9) _ = _
        simp only [Act.put, List.setIfInBounds_toArray, List.set_cons_zero, List.set_cons_succ, i64_w, i32_w]
        rfl
      refine one_ (i := 2) (N := some 41) #[true, true, true, false, false, false, false, false, true, false, false, false] rfl rfl (one_of HT_.out (by kernel_rfl)) (by decide) (fun K hK => ?_)
      refine goes_ Try.func50 (by kernel_rfl) rfl #[.agg #[.string a.f0, .string a.f1]] (by rfl) rfl rfl (by (try simp only [List.map_toArray, List.map_cons, List.map_nil]); first | done | rfl) ?_
      refine (cv_any a _).mono ?_
      rintro e V1 ⟨rfl, hb_⟩
      refine ⟨_, rfl, ?_⟩
      (try replace hV := Aside0.mk (hV.out.below hb_)); (try replace hQ := Aside0.mk (hQ.out.below hb_)); replace hX := Aside0.mk (hX.out.below hb_); replace hA := Aside0.mk (hA.out.below hb_); replace hF := Aside0.mk (Kd.R_below hF.out hb_); replace hG := Aside0.mk (Kd.R_below hG.out hb_); replace hB := Aside0.mk (hB.out.trans (hb_.mono hB.out.size)); clear hb_
      refine hK.out _ _ ⟨hX.out, hA.out⟩ (fun hHeld => ?_)
      clear hK K
      refine norm_ (a' := ?_) ?_ ?_
      rotate_left
      · show Act.put _ (some 41) _ = _
        simp only [Act.put, List.setIfInBounds_toArray, List.set_cons_zero, List.set_cons_succ, i64_w, i32_w]
        rfl
      refine one_ (i := 3) (N := some 42) #[true, true, true, true, false, false, false, false, true, false, false, false] rfl rfl (one_of HT_.out (by kernel_rfl)) (by decide) (fun K hK => ?_)
      refine goes_ Try.func49 (by kernel_rfl) rfl #[.agg (bkL b.addr b.aff b.slots (.slice Af b.free.length cf) (.slice Aa b.attrs.length ca)).toArray, .int .i64 1, atV (cv a)] (by rfl) rfl rfl (by (try simp only [List.map_toArray, List.map_cons, List.map_nil]); first | done | rfl) ?_
      refine (HAS.out _ _ ⟨_, _, _, _, rfl, ⟨HL.out, (Kd.R_reads' hF.out).2.2, (Kd.R_reads' hF.out).2.1, (Kd.R_reads' hG.out).2.2, (Kd.R_reads' hG.out).2.1⟩⟩).mono ?_
      rintro e V2 ⟨v_, vq_, rfl, ho_, hq_, hb_⟩
      refine ⟨_, rfl, ?_⟩
      have hV := Aside0.mk (ho_.lower hB.out.size); (try replace hQ := Aside0.mk (hQ.out.below hb_)); replace hX := Aside0.mk (hX.out.below hb_); replace hA := Aside0.mk (hA.out.below hb_); replace hF := Aside0.mk (Kd.R_below hF.out hb_); replace hG := Aside0.mk (Kd.R_below hG.out hb_); replace hB := Aside0.mk (hB.out.trans (hb_.mono hB.out.size)); clear ho_ hb_ hq_
      refine hK.out _ _ ⟨hX.out, hA.out⟩ (fun hHeld => ?_)
      clear hK K
      refine norm_ (a' := ?_) ?_ ?_
      rotate_left
      · show Act.put _ (some 42) _ = _
        simp only [Act.put, List.setIfInBounds_toArray, List.set_cons_zero, List.set_cons_succ, i64_w, i32_w]
        rfl
      refine pure_ (i := 4) (N := some 38) (v := ?_) (a' := ?_) #[true, true, true, true, true, false, false, false, true, false, false, false] rfl rfl (any_of HT_.out (by kernel_rfl)) (fun _ _ _ h => h) (Or.inl ⟨by rfl, ?_⟩) ?_ ?_
      rotate_left
      · intro w'
        go_simp
        with_reducible rfl
      rotate_left
      · simp only [Act.put, List.setIfInBounds_toArray, List.set_cons_zero, List.set_cons_succ, i64_w, i32_w]
        rfl
      refine pure_ (i := 5) (N := some 43) (v := ?_) (a' := ?_) #[true, true, true, true, true, true, false, false, true, false, false, false] rfl rfl (any_of HT_.out (by kernel_rfl)) (fun _ _ _ h => h) (Or.inl ⟨by rfl, ?_⟩) ?_ ?_
      rotate_left
      · intro w'
        go_simp
        with_reducible rfl
      rotate_left
      · simp only [Act.put, List.setIfInBounds_toArray, List.set_cons_zero, List.set_cons_succ, i64_w, i32_w]
        rfl
      refine pure_ (i := 6) (N := some 44) (v := ?_) (a' := ?_) #[true, true, true, true, true, true, true, false, true, false, false, false] rfl rfl (any_of HT_.out (by kernel_rfl)) (fun _ _ _ h => h) (Or.inl ⟨by rfl, ?_⟩) ?_ ?_
      rotate_left
      · intro w'
        go_simp
        with_reducible rfl
      rotate_left
      · simp only [Act.put, List.setIfInBounds_toArray, List.set_cons_zero, List.set_cons_succ, i64_w, i32_w]
        rfl
      refine pure_ (i := 7) (N := some 45) (v := ?_) (a' := ?_) #[true, true, true, true, true, true, true, true, true, false, false, false] rfl rfl (any_of HT_.out (by kernel_rfl)) (fun _ _ _ h => h) (Or.inl ⟨by rfl, ?_⟩) ?_ ?_
      rotate_left
      · intro w'
        go_simp
        with_reducible rfl
      rotate_left
      · simp only [Act.put, List.setIfInBounds_toArray, List.set_cons_zero, List.set_cons_succ, i64_w, i32_w]
        rfl
      exact norm_ (by first | (simp only [putAll, Act.put, List.setIfInBounds_toArray, List.set_cons_zero, List.set_cons_succ]; done) | (simp only [putAll, Act.put, List.setIfInBounds_toArray, List.set_cons_zero, List.set_cons_succ]; rfl)) (hCont_ ⟨gQ, v_, vq_⟩ _ ⟨hX, hA, hF, hG, hB, hQ, hGE, hNX, hV⟩)
  intro s w' hFF; obtain ⟨gQ, v_, vq_⟩ := s; simp only at hFF; obtain ⟨hX, hA, hF, hG, hB, hQ, hGE, hNX, hV⟩ := hFF; have ho_ := hV.out; obtain ⟨hl_, vf_, va_, rfl, hf_, ha_⟩ := ho_; obtain ⟨A8, c8, rfl⟩ := Kd.R_slice hf_; obtain ⟨A9, c9, rfl⟩ := Kd.R_slice ha_; have hC := Aside0.mk hf_; have hD := Aside0.mk ha_; clear hV hl_ hf_ ha_
  refine norm_ (a' := ?_) ?_ ?_
  rotate_left
  · simp only [putAll, Act.put, List.setIfInBounds_toArray, List.set_cons_zero, List.set_cons_succ]
    rfl
  refine one_ (i := 9) (N := none) #[true, true, true, true, true, true, true, true, true, true, false, false] rfl rfl (one_of HT_.out (by kernel_rfl)) (by decide) (fun K hK => ?_)
  refine skip_store (by rfl) rfl 57 (.tmp 9) (.tmp 43) rfl gQ (bkL z.addr z.aff z.slots (.slice A8 z.free.length c8) (.slice A9 z.attrs.length c9)) rfl rfl 57 _ hQ.out 68 (by kernel_rfl) (bkL_length _ _ _ _ _ HZL.out) rfl (bkL_one _ _ _ _ _ rfl rfl) ?_
  intro V9 hx_ hg_; have hX' := Aside0.mk (hX.out.grown hg_ (fun e => hNX.out (Option.some.inj e))); have hA' := Aside0.mk (hA.out.grown hg_ (fun e => (hA.out.ne hQ.out (by decide)) (Option.some.inj e))); have hF' := Aside0.mk (R_box_grown hF.out hQ.out (by decide) hg_); have hG' := Aside0.mk (R_box_grown hG.out hQ.out (by decide) hg_); have hB' := Aside0.mk (hB.out.grown hg_ hB.out.size (by intro k hk; cases hk; exact hGE.out)); clear hX hA hF hG hB hQ; have hX := hX'; have hA := hA'; have hF := hF'; have hG := hG'; have hB := hB'; clear hX' hA' hF' hG' hB'; clear hx_ hg_
  refine hK.out _ _ ⟨hX.out, hA.out⟩ (fun hHeld => ?_)
  clear hK K
  refine pure_ (i := 10) (N := some 10) (v := ?_) (a' := ?_) #[true, true, true, true, true, true, true, true, true, true, true, false] rfl rfl (any_of HT_.out (by kernel_rfl)) (fun _ _ _ h => h) (Or.inl ⟨by rfl, ?_⟩) ?_ ?_
  rotate_left
  · intro w'
    go_simp
    with_reducible rfl
  rotate_left
  · simp only [Act.put, List.setIfInBounds_toArray, List.set_cons_zero, List.set_cons_succ, i64_w, i32_w]
    rfl
  refine pure_ (i := 11) (N := some 11) (v := ?_) (a' := ?_) #[true, true, true, true, true, true, true, true, true, true, true, true] rfl rfl (any_of HT_.out (by kernel_rfl)) (fun _ _ _ h => h) (Or.inl ⟨by rfl, ?_⟩) ?_ ?_
  rotate_left
  · intro w'
    go_simp
    with_reducible rfl
  rotate_left
  · simp only [Act.put, List.setIfInBounds_toArray, List.set_cons_zero, List.set_cons_succ, i64_w, i32_w]
    rfl
  refine done_ (done_of HT_.out (by kernel_rfl)) ?_
  clear hHeld hC hD hGE hNX
  go_wp2_with fail
  have hd0 : Below V9.heap.size V9 V9.drew := below_drew (Below.refl _ _)
  have HB_11 := Aside0.mk (hB.out.trans (hd0.mono hB.out.size)); have HA_11 := Aside0.mk (hA.out.below hd0); have HF_11 := Aside0.mk (Kd.R_below hF.out hd0); have HG_11 := Aside0.mk (Kd.R_below hG.out hd0); have HX_11 := Aside0.mk (hX.out.below hd0)
  clear hd0 hB hA hF hG hX
  have hX := HX_11
  have hA := HA_11
  have hF := HF_11
  have hG := HG_11
  have hB := HB_11
  clear HX_11 HA_11 HF_11 HG_11 HB_11
  refine start_ (n := 11) (S := fun w' => Box w' gX (bkL b.addr b.aff b.slots (.slice Af b.free.length cf) (.slice Aa b.attrs.length ca)) 57 ∧ Box w' gA [.string a.f0, .string a.f1] 76) (ds := []) #[false, false, false, false, false, false, false, false, false, false, false] (by kernel_rfl) rfl rfl ⟨hX.out, hA.out⟩ (fun hHeld => ?_); refine with_tabW bri8.tab8 bri8.bits8 (fun HT_ HW_ => ?_)
  refine take_ (i := 0) (N := some 47) (v := ?_) (a' := ?_) #[true, false, false, false, false, false, false, false, false, false, false] rfl rfl (take_ofW HT_.out HW_.out (by kernel_rfl)) (fun _ _ _ h => h) (Or.inl ⟨by rfl, ?_⟩) hHeld ?_ ?_
  rotate_left
  · intro w' hS_
    refine run_load_box 57 (.tmp 7) ?_ gX ?_ _ _ _ hS_.1 Try.underlying57 rfl HLL.out
    rfl
    rfl
  rotate_left
  · simp only [Act.put, List.setIfInBounds_toArray, List.set_cons_zero, List.set_cons_succ, i64_w, i32_w]
    rfl
  refine pure_ (i := 1) (N := some 48) (v := ?_) (a' := ?_) #[true, true, false, false, false, false, false, false, false, false, false] rfl rfl (any_of HT_.out (by kernel_rfl)) (fun _ _ _ h => h) (Or.inl ⟨by rfl, ?_⟩) ?_ ?_
  rotate_left
  · intro w'
    go_simp
    with_reducible rfl
  rotate_left
  · simp only [Act.put, List.setIfInBounds_toArray, List.set_cons_zero, List.set_cons_succ, i64_w, i32_w]
    rfl
  refine take_ (i := 2) (N := some 49) (v := ?_) (a' := ?_) #[true, true, true, false, false, false, false, false, false, false, false] rfl rfl (take_ofW HT_.out HW_.out (by kernel_rfl)) (fun _ _ _ h => h) (Or.inl ⟨by rfl, ?_⟩) hHeld ?_ ?_
  rotate_left
  · intro w' hS_
    refine run_load_box 76 (.tmp 4) ?_ gA ?_ _ _ _ hS_.2 Try.underlying76 rfl (by kernel_rfl)
    rfl
    rfl
  rotate_left
  · simp only [Act.put, List.setIfInBounds_toArray, List.set_cons_zero, List.set_cons_succ, i64_w, i32_w]
    rfl
  refine join_ (σ := Nat × Value) 2 #[true, true, true, true, true, true, true, true, true, false, false] (fun s => [(50, atV (cv a)), (51, .tuple #[s.2, .int .i64 1]), (46, .tuple #[s.2, .int .i64 1]), (52, s.2), (53, .int .i64 1), (12, .pointer (some ⟨s.1, 0, none⟩))]) (fun s w' => Aside0 (Box w' gX (bkL b.addr b.aff b.slots (.slice Af b.free.length cf) (.slice Aa b.attrs.length ca)) 57) ∧ Aside0 (Box w' gA [.string a.f0, .string a.f1] 76) ∧ Aside0 (Kd.R (Kd.int .u8) 5 w' w.heap.size (fun _ => True) (.slice Af b.free.length cf) b.free) ∧ Aside0 (Kd.R k85 85 w' w.heap.size (fun _ => True) (.slice Aa b.attrs.length ca) b.attrs) ∧ Aside0 (Below w.heap.size w w') ∧ Aside0 (Box w' s.1 zeroL 57) ∧ Aside0 (w.heap.size ≤ s.1) ∧ Aside0 (gX ≠ s.1) ∧ Aside0 (BkO w' w.heap.size s.2 z)) ?_ ?_
  rotate_left
  · intro hCont_
    refine two_ (i := 3) (j := 8) (Ni := some 50) (Nj := some 12) #[true, true, true, true, false, false, false, false, false, false, false] #[true, true, true, false, false, false, false, false, true, false, false] rfl rfl rfl rfl (two_of HT_.out (by kernel_rfl)) (by decide) (by decide) (fun K hK => ?_) (fun K hK => ?_)
    · skip
      refine goes_ Try.func50 (by kernel_rfl) rfl #[.agg #[.string a.f0, .string a.f1]] (by rfl) rfl rfl (by (try simp only [List.map_toArray, List.map_cons, List.map_nil]); first | done | rfl) ?_
      refine (cv_any a _).mono ?_
      rintro e V1 ⟨rfl, hb_⟩
      refine ⟨_, rfl, ?_⟩
      (try replace hV := Aside0.mk (hV.out.below hb_)); (try replace hQ := Aside0.mk (hQ.out.below hb_)); replace hX := Aside0.mk (hX.out.below hb_); replace hA := Aside0.mk (hA.out.below hb_); replace hF := Aside0.mk (Kd.R_below hF.out hb_); replace hG := Aside0.mk (Kd.R_below hG.out hb_); replace hB := Aside0.mk (hB.out.trans (hb_.mono hB.out.size)); clear hb_
      refine hK.out _ _ ⟨hX.out, hA.out⟩ (fun hHeld => ?_)
      clear hK K
      refine norm_ (a' := ?_) ?_ ?_
      rotate_left
      · show Act.put _ (some 50) _ = _
        simp only [Act.put, List.setIfInBounds_toArray, List.set_cons_zero, List.set_cons_succ, i64_w, i32_w]
        rfl
      refine two_ (i := 4) (j := 8) (Ni := some 51) (Nj := some 12) #[true, true, true, true, true, false, false, false, false, false, false] #[true, true, true, true, false, false, false, false, true, false, false] rfl rfl rfl rfl (two_of HT_.out (by kernel_rfl)) (by decide) (by decide) (fun K hK => ?_) (fun K hK => ?_)
      · skip
        refine goes_ Try.func51 (by kernel_rfl) rfl #[.agg (bkL b.addr b.aff b.slots (.slice Af b.free.length cf) (.slice Aa b.attrs.length ca)).toArray, .int .u32 x, atV (cv a)] (by rfl) rfl rfl (by (try simp only [List.map_toArray, List.map_cons, List.map_nil]); first | done | rfl) ?_
        refine (HAT.out _ _ ⟨_, _, _, _, rfl, ⟨HL.out, (Kd.R_reads' hF.out).2.2, (Kd.R_reads' hF.out).2.1, (Kd.R_reads' hG.out).2.2, (Kd.R_reads' hG.out).2.1⟩⟩).mono ?_
        rintro e V2 ⟨v_, rfl, ho_, hb_⟩
        refine ⟨_, rfl, ?_⟩
        have hV := Aside0.mk (ho_.lower hB.out.size); (try replace hQ := Aside0.mk (hQ.out.below hb_)); replace hX := Aside0.mk (hX.out.below hb_); replace hA := Aside0.mk (hA.out.below hb_); replace hF := Aside0.mk (Kd.R_below hF.out hb_); replace hG := Aside0.mk (Kd.R_below hG.out hb_); replace hB := Aside0.mk (hB.out.trans (hb_.mono hB.out.size)); clear ho_ hb_
        refine hK.out _ _ ⟨hX.out, hA.out⟩ (fun hHeld => ?_)
        clear hK K
        refine norm_ (a' := ?_) ?_ ?_
        rotate_left
        · show Act.put _ (some 51) _ = _
          simp only [Act.put, List.setIfInBounds_toArray, List.set_cons_zero, List.set_cons_succ, i64_w, i32_w]
          rfl
        refine pure_ (i := 5) (N := some 46) (v := ?_) (a' := ?_) #[true, true, true, true, true, true, false, false, false, false, false] rfl rfl (any_of HT_.out (by kernel_rfl)) (fun _ _ _ h => h) (Or.inl ⟨by rfl, ?_⟩) ?_ ?_
        rotate_left
        · intro w'
          go_simp
          with_reducible rfl
        rotate_left
        · simp only [Act.put, List.setIfInBounds_toArray, List.set_cons_zero, List.set_cons_succ, i64_w, i32_w]
          rfl
        refine pure_ (i := 6) (N := some 52) (v := ?_) (a' := ?_) #[true, true, true, true, true, true, true, false, false, false, false] rfl rfl (any_of HT_.out (by kernel_rfl)) (fun _ _ _ h => h) (Or.inl ⟨by rfl, ?_⟩) ?_ ?_
        rotate_left
        · intro w'
          go_simp
          with_reducible rfl
        rotate_left
        · simp only [Act.put, List.setIfInBounds_toArray, List.set_cons_zero, List.set_cons_succ, i64_w, i32_w]
          rfl
        refine pure_ (i := 7) (N := some 53) (v := ?_) (a' := ?_) #[true, true, true, true, true, true, true, true, false, false, false] rfl rfl (any_of HT_.out (by kernel_rfl)) (fun _ _ _ h => h) (Or.inl ⟨by rfl, ?_⟩) ?_ ?_
        rotate_left
        · intro w'
          go_simp
          with_reducible rfl
        rotate_left
        · simp only [Act.put, List.setIfInBounds_toArray, List.set_cons_zero, List.set_cons_succ, i64_w, i32_w]
          rfl
        refine one_ (i := 8) (N := some 12) #[true, true, true, true, true, true, true, true, true, false, false] rfl rfl (one_of HT_.out (by kernel_rfl)) (by decide) (fun K hK => ?_)
        refine raw_alloc (by rfl) 57 rfl zeroL zero57 ?_
        intro gQ V3 hg_ hx_ hb_
        have hGE := Aside0.mk (show w.heap.size ≤ gQ by have := hB.out.size; omega)
        have hNX := Aside0.mk (show gX ≠ gQ by have := hX.out.lt; omega)
        (try replace hV := Aside0.mk (hV.out.below hb_))
        replace hX := Aside0.mk (hX.out.below hb_)
        replace hA := Aside0.mk (hA.out.below hb_)
        replace hF := Aside0.mk (Kd.R_below hF.out hb_)
        replace hG := Aside0.mk (Kd.R_below hG.out hb_)
        replace hB := Aside0.mk (hB.out.trans (hb_.mono hB.out.size))
        have hQ := Aside0.mk hx_
        clear hg_ hx_ hb_
        refine hK.out _ _ ⟨hX.out, hA.out⟩ (fun hHeld => ?_)
        clear hK K
        refine norm_ (a' := ?_) ?_ ?_
        rotate_left
        · show Act.put _ (some 12) _ = _
          simp only [Act.put, List.setIfInBounds_toArray, List.set_cons_zero, List.set_cons_succ, i64_w, i32_w]
          rfl
        exact norm_ (by first | (simp only [putAll, Act.put, List.setIfInBounds_toArray, List.set_cons_zero, List.set_cons_succ]; done) | (simp only [putAll, Act.put, List.setIfInBounds_toArray, List.set_cons_zero, List.set_cons_succ]; rfl)) (hCont_ ⟨gQ, v_⟩ _ ⟨hX, hA, hF, hG, hB, hQ, hGE, hNX, hV⟩)
      · skip
        refine raw_alloc (by rfl) 57 rfl zeroL zero57 ?_
        intro gQ V3 hg_ hx_ hb_
        have hGE := Aside0.mk (show w.heap.size ≤ gQ by have := hB.out.size; omega)
        have hNX := Aside0.mk (show gX ≠ gQ by have := hX.out.lt; omega)
        (try replace hV := Aside0.mk (hV.out.below hb_))
        replace hX := Aside0.mk (hX.out.below hb_)
        replace hA := Aside0.mk (hA.out.below hb_)
        replace hF := Aside0.mk (Kd.R_below hF.out hb_)
        replace hG := Aside0.mk (Kd.R_below hG.out hb_)
        replace hB := Aside0.mk (hB.out.trans (hb_.mono hB.out.size))
        have hQ := Aside0.mk hx_
        clear hg_ hx_ hb_
        refine hK.out _ _ ⟨hX.out, hA.out⟩ (fun hHeld => ?_)
        clear hK K
        refine norm_ (a' := ?_) ?_ ?_
        rotate_left
        · show Act.put _ (some 12) _ = _
          simp only [Act.put, List.setIfInBounds_toArray, List.set_cons_zero, List.set_cons_succ, i64_w, i32_w]
          rfl
        refine one_ (i := 4) (N := some 51) #[true, true, true, true, true, false, false, false, true, false, false] rfl rfl (one_of HT_.out (by kernel_rfl)) (by decide) (fun K hK => ?_)
        refine goes_ Try.func51 (by kernel_rfl) rfl #[.agg (bkL b.addr b.aff b.slots (.slice Af b.free.length cf) (.slice Aa b.attrs.length ca)).toArray, .int .u32 x, atV (cv a)] (by rfl) rfl rfl (by (try simp only [List.map_toArray, List.map_cons, List.map_nil]); first | done | rfl) ?_
        refine (HAT.out _ _ ⟨_, _, _, _, rfl, ⟨HL.out, (Kd.R_reads' hF.out).2.2, (Kd.R_reads' hF.out).2.1, (Kd.R_reads' hG.out).2.2, (Kd.R_reads' hG.out).2.1⟩⟩).mono ?_
        rintro e V2 ⟨v_, rfl, ho_, hb_⟩
        refine ⟨_, rfl, ?_⟩
        have hV := Aside0.mk (ho_.lower hB.out.size); (try replace hQ := Aside0.mk (hQ.out.below hb_)); replace hX := Aside0.mk (hX.out.below hb_); replace hA := Aside0.mk (hA.out.below hb_); replace hF := Aside0.mk (Kd.R_below hF.out hb_); replace hG := Aside0.mk (Kd.R_below hG.out hb_); replace hB := Aside0.mk (hB.out.trans (hb_.mono hB.out.size)); clear ho_ hb_
        refine hK.out _ _ ⟨hX.out, hA.out⟩ (fun hHeld => ?_)
        clear hK K
        refine norm_ (a' := ?_) ?_ ?_
        rotate_left
        · show Act.put _ (some 51) _ = _
          simp only [Act.put, List.setIfInBounds_toArray, List.set_cons_zero, List.set_cons_succ, i64_w, i32_w]
          rfl
        refine pure_ (i := 5) (N := some 46) (v := ?_) (a' := ?_) #[true, true, true, true, true, true, false, false, true, false, false] rfl rfl (any_of HT_.out (by kernel_rfl)) (fun _ _ _ h => h) (Or.inl ⟨by rfl, ?_⟩) ?_ ?_
        rotate_left
        · intro w'
          go_simp
          with_reducible rfl
        rotate_left
        · simp only [Act.put, List.setIfInBounds_toArray, List.set_cons_zero, List.set_cons_succ, i64_w, i32_w]
          rfl
        refine pure_ (i := 6) (N := some 52) (v := ?_) (a' := ?_) #[true, true, true, true, true, true, true, false, true, false, false] rfl rfl (any_of HT_.out (by kernel_rfl)) (fun _ _ _ h => h) (Or.inl ⟨by rfl, ?_⟩) ?_ ?_
        rotate_left
        · intro w'
          go_simp
          with_reducible rfl
        rotate_left
        · simp only [Act.put, List.setIfInBounds_toArray, List.set_cons_zero, List.set_cons_succ, i64_w, i32_w]
          rfl
        refine pure_ (i := 7) (N := some 53) (v := ?_) (a' := ?_) #[true, true, true, true, true, true, true, true, true, false, false] rfl rfl (any_of HT_.out (by kernel_rfl)) (fun _ _ _ h => h) (Or.inl ⟨by rfl, ?_⟩) ?_ ?_
        rotate_left
        · intro w'
          go_simp
          with_reducible rfl
        rotate_left
        · simp only [Act.put, List.setIfInBounds_toArray, List.set_cons_zero, List.set_cons_succ, i64_w, i32_w]
          rfl
        exact norm_ (by first | (simp only [putAll, Act.put, List.setIfInBounds_toArray, List.set_cons_zero, List.set_cons_succ]; done) | (simp only [putAll, Act.put, List.setIfInBounds_toArray, List.set_cons_zero, List.set_cons_succ]; rfl)) (hCont_ ⟨gQ, v_⟩ _ ⟨hX, hA, hF, hG, hB, hQ, hGE, hNX, hV⟩)
    · skip
      refine raw_alloc (by rfl) 57 rfl zeroL zero57 ?_
      intro gQ V3 hg_ hx_ hb_
      have hGE := Aside0.mk (show w.heap.size ≤ gQ by have := hB.out.size; omega)
      have hNX := Aside0.mk (show gX ≠ gQ by have := hX.out.lt; omega)
      (try replace hV := Aside0.mk (hV.out.below hb_))
      replace hX := Aside0.mk (hX.out.below hb_)
      replace hA := Aside0.mk (hA.out.below hb_)
      replace hF := Aside0.mk (Kd.R_below hF.out hb_)
      replace hG := Aside0.mk (Kd.R_below hG.out hb_)
      replace hB := Aside0.mk (hB.out.trans (hb_.mono hB.out.size))
      have hQ := Aside0.mk hx_
      clear hg_ hx_ hb_
      refine hK.out _ _ ⟨hX.out, hA.out⟩ (fun hHeld => ?_)
      clear hK K
      refine norm_ (a' := ?_) ?_ ?_
      rotate_left
      · show Act.put _ (some 12) _ = _
        simp only [Act.put, List.setIfInBounds_toArray, List.set_cons_zero, List.set_cons_succ, i64_w, i32_w]
        rfl
      refine one_ (i := 3) (N := some 50) #[true, true, true, true, false, false, false, false, true, false, false] rfl rfl (one_of HT_.out (by kernel_rfl)) (by decide) (fun K hK => ?_)
      refine goes_ Try.func50 (by kernel_rfl) rfl #[.agg #[.string a.f0, .string a.f1]] (by rfl) rfl rfl (by (try simp only [List.map_toArray, List.map_cons, List.map_nil]); first | done | rfl) ?_
      refine (cv_any a _).mono ?_
      rintro e V1 ⟨rfl, hb_⟩
      refine ⟨_, rfl, ?_⟩
      (try replace hV := Aside0.mk (hV.out.below hb_)); (try replace hQ := Aside0.mk (hQ.out.below hb_)); replace hX := Aside0.mk (hX.out.below hb_); replace hA := Aside0.mk (hA.out.below hb_); replace hF := Aside0.mk (Kd.R_below hF.out hb_); replace hG := Aside0.mk (Kd.R_below hG.out hb_); replace hB := Aside0.mk (hB.out.trans (hb_.mono hB.out.size)); clear hb_
      refine hK.out _ _ ⟨hX.out, hA.out⟩ (fun hHeld => ?_)
      clear hK K
      refine norm_ (a' := ?_) ?_ ?_
      rotate_left
      · show Act.put _ (some 50) _ = _
        simp only [Act.put, List.setIfInBounds_toArray, List.set_cons_zero, List.set_cons_succ, i64_w, i32_w]
        rfl
      refine one_ (i := 4) (N := some 51) #[true, true, true, true, true, false, false, false, true, false, false] rfl rfl (one_of HT_.out (by kernel_rfl)) (by decide) (fun K hK => ?_)
      refine goes_ Try.func51 (by kernel_rfl) rfl #[.agg (bkL b.addr b.aff b.slots (.slice Af b.free.length cf) (.slice Aa b.attrs.length ca)).toArray, .int .u32 x, atV (cv a)] (by rfl) rfl rfl (by (try simp only [List.map_toArray, List.map_cons, List.map_nil]); first | done | rfl) ?_
      refine (HAT.out _ _ ⟨_, _, _, _, rfl, ⟨HL.out, (Kd.R_reads' hF.out).2.2, (Kd.R_reads' hF.out).2.1, (Kd.R_reads' hG.out).2.2, (Kd.R_reads' hG.out).2.1⟩⟩).mono ?_
      rintro e V2 ⟨v_, rfl, ho_, hb_⟩
      refine ⟨_, rfl, ?_⟩
      have hV := Aside0.mk (ho_.lower hB.out.size); (try replace hQ := Aside0.mk (hQ.out.below hb_)); replace hX := Aside0.mk (hX.out.below hb_); replace hA := Aside0.mk (hA.out.below hb_); replace hF := Aside0.mk (Kd.R_below hF.out hb_); replace hG := Aside0.mk (Kd.R_below hG.out hb_); replace hB := Aside0.mk (hB.out.trans (hb_.mono hB.out.size)); clear ho_ hb_
      refine hK.out _ _ ⟨hX.out, hA.out⟩ (fun hHeld => ?_)
      clear hK K
      refine norm_ (a' := ?_) ?_ ?_
      rotate_left
      · show Act.put _ (some 51) _ = _
        simp only [Act.put, List.setIfInBounds_toArray, List.set_cons_zero, List.set_cons_succ, i64_w, i32_w]
        rfl
      refine pure_ (i := 5) (N := some 46) (v := ?_) (a' := ?_) #[true, true, true, true, true, true, false, false, true, false, false] rfl rfl (any_of HT_.out (by kernel_rfl)) (fun _ _ _ h => h) (Or.inl ⟨by rfl, ?_⟩) ?_ ?_
      rotate_left
      · intro w'
        go_simp
        with_reducible rfl
      rotate_left
      · simp only [Act.put, List.setIfInBounds_toArray, List.set_cons_zero, List.set_cons_succ, i64_w, i32_w]
        rfl
      refine pure_ (i := 6) (N := some 52) (v := ?_) (a' := ?_) #[true, true, true, true, true, true, true, false, true, false, false] rfl rfl (any_of HT_.out (by kernel_rfl)) (fun _ _ _ h => h) (Or.inl ⟨by rfl, ?_⟩) ?_ ?_
      rotate_left
      · intro w'
        go_simp
        with_reducible rfl
      rotate_left
      · simp only [Act.put, List.setIfInBounds_toArray, List.set_cons_zero, List.set_cons_succ, i64_w, i32_w]
        rfl
      refine pure_ (i := 7) (N := some 53) (v := ?_) (a' := ?_) #[true, true, true, true, true, true, true, true, true, false, false] rfl rfl (any_of HT_.out (by kernel_rfl)) (fun _ _ _ h => h) (Or.inl ⟨by rfl, ?_⟩) ?_ ?_
      rotate_left
      · intro w'
        go_simp
        with_reducible rfl
      rotate_left
      · simp only [Act.put, List.setIfInBounds_toArray, List.set_cons_zero, List.set_cons_succ, i64_w, i32_w]
        rfl
      exact norm_ (by first | (simp only [putAll, Act.put, List.setIfInBounds_toArray, List.set_cons_zero, List.set_cons_succ]; done) | (simp only [putAll, Act.put, List.setIfInBounds_toArray, List.set_cons_zero, List.set_cons_succ]; rfl)) (hCont_ ⟨gQ, v_⟩ _ ⟨hX, hA, hF, hG, hB, hQ, hGE, hNX, hV⟩)
  intro s w' hFF; obtain ⟨gQ, v_⟩ := s; simp only at hFF; obtain ⟨hX, hA, hF, hG, hB, hQ, hGE, hNX, hV⟩ := hFF; have ho_ := hV.out; obtain ⟨hl_, vf_, va_, rfl, hf_, ha_⟩ := ho_; obtain ⟨A8, c8, rfl⟩ := Kd.R_slice hf_; obtain ⟨A9, c9, rfl⟩ := Kd.R_slice ha_; have hC := Aside0.mk hf_; have hD := Aside0.mk ha_; clear hV hl_ hf_ ha_
  refine norm_ (a' := ?_) ?_ ?_
  rotate_left
  · simp only [putAll, Act.put, List.setIfInBounds_toArray, List.set_cons_zero, List.set_cons_succ]
    rfl
  refine one_ (i := 9) (N := none) #[true, true, true, true, true, true, true, true, true, true, false] rfl rfl (one_of HT_.out (by kernel_rfl)) (by decide) (fun K hK => ?_)
  refine skip_store (by rfl) rfl 57 (.tmp 12) (.tmp 52) rfl gQ (bkL z.addr z.aff z.slots (.slice A8 z.free.length c8) (.slice A9 z.attrs.length c9)) rfl rfl 57 _ hQ.out 68 (by kernel_rfl) (bkL_length _ _ _ _ _ HZL.out) rfl (bkL_one _ _ _ _ _ rfl rfl) ?_
  intro V9 hx_ hg_; have hX' := Aside0.mk (hX.out.grown hg_ (fun e => hNX.out (Option.some.inj e))); have hA' := Aside0.mk (hA.out.grown hg_ (fun e => (hA.out.ne hQ.out (by decide)) (Option.some.inj e))); have hF' := Aside0.mk (R_box_grown hF.out hQ.out (by decide) hg_); have hG' := Aside0.mk (R_box_grown hG.out hQ.out (by decide) hg_); have hB' := Aside0.mk (hB.out.grown hg_ hB.out.size (by intro k hk; cases hk; exact hGE.out)); clear hX hA hF hG hB hQ; have hX := hX'; have hA := hA'; have hF := hF'; have hG := hG'; have hB := hB'; clear hX' hA' hF' hG' hB'; clear hx_ hg_
  refine hK.out _ _ ⟨hX.out, hA.out⟩ (fun hHeld => ?_)
  clear hK K
  refine pure_ (i := 10) (N := some 13) (v := ?_) (a' := ?_) #[true, true, true, true, true, true, true, true, true, true, true] rfl rfl (any_of HT_.out (by kernel_rfl)) (fun _ _ _ h => h) (Or.inl ⟨by rfl, ?_⟩) ?_ ?_
  rotate_left
  · intro w'
    go_simp
    with_reducible rfl
  rotate_left
  · simp only [Act.put, List.setIfInBounds_toArray, List.set_cons_zero, List.set_cons_succ, i64_w, i32_w]
    rfl
  refine done_ (done_of HT_.out (by kernel_rfl)) ?_
  clear hHeld hC hD hGE hNX
  go_wp2_with (first
    | ((with_reducible refine gate_dst (N := 55) rfl ?_); refine step_load rfl 57 (.tmp 7) rfl gX rfl _ _ _ hX.out Try.underlying57 rfl 68 (by kernel_rfl) (bkL_length _ _ _ _ _ HL.out) ?_)
    | (go_at_call 52; obtain ⟨gL, hg_⟩ : ∃ g_, g_ = V9.heap.size := ⟨_, rfl⟩; rw [← hg_]; generalize hw_ : V9.alloc (.cells #[.int .u32 x] 46) = W21; have hb_ : Below V9.heap.size V9 W21 := (by rw [← hw_]; exact below_alloc (Below.refl _ _) _); have hx_ : Box W21 gL [.int .u32 x] 46 := (by rw [← hw_, hg_]; exact heap_alloc_new V9 _); have hge_ : V9.heap.size ≤ gL := Nat.le_of_eq hg_.symm; have GE_gL := Aside0.mk (show w.heap.size ≤ gL by have := hB.out.size; omega); have NE_gA_gL := Aside0.mk (show gA ≠ gL by have := hA.out.lt; omega); have NE_gX_gL := Aside0.mk (show gX ≠ gL by have := hX.out.lt; omega); have HB_21 := Aside0.mk (hB.out.trans (hb_.mono hB.out.size)); have HA_21 := Aside0.mk (hA.out.below hb_); have HF_21 := Aside0.mk (Kd.R_below hF.out hb_); have HG_21 := Aside0.mk (Kd.R_below hG.out hb_); have HX_21 := Aside0.mk (hX.out.below hb_); have HL_21 := Aside0.mk (hx_); have HCL := Aside0.mk (show Kd.C (Kd.int .u32) W21 (some ⟨gL, 0, none⟩) [x].length [x] by rw [← hw_, hg_]; exact C_new_int .u32 V9 46 [x] (by simp)); clear hw_ hb_ hx_ hge_ hg_ hB hA hF hG hX; refine (HRL.out _ 1 _ _ ⟨_, _, _, _, rfl, ⟨HL.out, (Kd.R_reads' HF_21.out).2.2, (Kd.R_reads' HF_21.out).2.1, (Kd.R_reads' HG_21.out).2.2, (Kd.R_reads' HG_21.out).2.1⟩⟩ HCL.out).mono ?_; rintro e W22 ⟨v_, vq_, rfl, ho_, hq_, hb_⟩; obtain ⟨hl_, vf_, va_, rfl, hf_, ha_⟩ := ho_; obtain ⟨A8, c8, rfl⟩ := Kd.R_slice hf_; obtain ⟨A9, c9, rfl⟩ := Kd.R_slice ha_; have HB_22 := Aside0.mk (HB_21.out.trans (hb_.mono HB_21.out.size)); have HA_22 := Aside0.mk (HA_21.out.below hb_); have HF_22 := Aside0.mk (Kd.R_below HF_21.out hb_); have HG_22 := Aside0.mk (Kd.R_below HG_21.out hb_); have HX_22 := Aside0.mk (HX_21.out.below hb_); clear hl_ hf_ ha_ hq_ hb_ HB_21 HA_21 HF_21 HG_21 HX_21)
    | (refine step_allocN (some 14) rfl rfl 57 rfl zeroL zero57 ?_; intro gK W23 hg_ hx_ hb_; have GE_gK := Aside0.mk (show w.heap.size ≤ gK by have := HB_22.out.size; omega); have NE_gA_gK := Aside0.mk (show gA ≠ gK by have := HA_22.out.lt; omega); have NE_gX_gK := Aside0.mk (show gX ≠ gK by have := HX_22.out.lt; omega); have HB_23 := Aside0.mk (HB_22.out.trans (hb_.mono HB_22.out.size)); have HA_23 := Aside0.mk (HA_22.out.below hb_); have HF_23 := Aside0.mk (Kd.R_below HF_22.out hb_); have HG_23 := Aside0.mk (Kd.R_below HG_22.out hb_); have HX_23 := Aside0.mk (HX_22.out.below hb_); have HK_23 := Aside0.mk (hx_); clear hg_ hx_ hb_ HB_22 HA_22 HF_22 HG_22 HX_22)
    | (refine step_store rfl 57 (.tmp 14) (.tmp 59) rfl gK (bkL z.addr z.aff z.slots (.slice A8 z.free.length c8) (.slice A9 z.attrs.length c9)) rfl rfl 57 _ HK_23.out 68 (by kernel_rfl) (bkL_length _ _ _ _ _ HZL.out) rfl (bkL_one _ _ _ _ _ rfl rfl) ?_; intro W24 hx_ hg_; have HB_24 := Aside0.mk (HB_23.out.grown hg_ HB_23.out.size (by intro k hk; cases hk; exact GE_gK.out)); have HA_24 := Aside0.mk (HA_23.out.grown hg_ (fun e => (HA_23.out.ne HK_23.out (by decide)) (Option.some.inj e))); have HF_24 := Aside0.mk (R_box_grown HF_23.out HK_23.out (by decide) hg_); have HG_24 := Aside0.mk (R_box_grown HG_23.out HK_23.out (by decide) hg_); have HX_24 := Aside0.mk (HX_23.out.grown hg_ (fun e => NE_gX_gK.out (Option.some.inj e))); have HK_24 := Aside0.mk (hx_); have ha0_ := HA_24.out.cell 0 _ rfl; have ha1_ := HA_24.out.cell 1 _ rfl; clear hx_ hg_ HB_23 HA_23 HF_23 HG_23 HX_23 HK_23)
    | ((with_reducible refine gate_dst (N := 63) rfl ?_); refine step_load rfl 57 (.tmp 7) rfl gX rfl _ _ _ HX_24.out Try.underlying57 rfl 68 (by kernel_rfl) (bkL_length _ _ _ _ _ HL.out) ?_)
    | (go_at_call 53; refine (HRH.out _ _ ⟨_, _, _, _, rfl, ⟨HL.out, (Kd.R_reads' HF_24.out).2.2, (Kd.R_reads' HF_24.out).2.1, (Kd.R_reads' HG_24.out).2.2, (Kd.R_reads' HG_24.out).2.1⟩⟩).mono ?_; rintro e W25 ⟨v_, vq_, rfl, ho_, hq_, hb_⟩; obtain ⟨hl_, vf_, va_, rfl, hf_, ha_⟩ := ho_; obtain ⟨A8, c8, rfl⟩ := Kd.R_slice hf_; obtain ⟨A9, c9, rfl⟩ := Kd.R_slice ha_; have HB_25 := Aside0.mk (HB_24.out.trans (hb_.mono HB_24.out.size)); have HA_25 := Aside0.mk (HA_24.out.below hb_); have HF_25 := Aside0.mk (Kd.R_below HF_24.out hb_); have HG_25 := Aside0.mk (Kd.R_below HG_24.out hb_); have HX_25 := Aside0.mk (HX_24.out.below hb_); clear hl_ hf_ ha_ hq_ hb_ HB_24 HA_24 HF_24 HG_24 HX_24 ha0_ ha1_)
    | (refine step_allocN (some 17) rfl rfl 57 rfl zeroL zero57 ?_; intro gK W26 hg_ hx_ hb_; have GE_gK := Aside0.mk (show w.heap.size ≤ gK by have := HB_25.out.size; omega); have NE_gA_gK := Aside0.mk (show gA ≠ gK by have := HA_25.out.lt; omega); have NE_gX_gK := Aside0.mk (show gX ≠ gK by have := HX_25.out.lt; omega); have HB_26 := Aside0.mk (HB_25.out.trans (hb_.mono HB_25.out.size)); have HA_26 := Aside0.mk (HA_25.out.below hb_); have HF_26 := Aside0.mk (Kd.R_below HF_25.out hb_); have HG_26 := Aside0.mk (Kd.R_below HG_25.out hb_); have HX_26 := Aside0.mk (HX_25.out.below hb_); have HK_26 := Aside0.mk (hx_); clear hg_ hx_ hb_ HB_25 HA_25 HF_25 HG_25 HX_25)
    | (refine step_store rfl 57 (.tmp 17) (.tmp 67) rfl gK (bkL z.addr z.aff z.slots (.slice A8 z.free.length c8) (.slice A9 z.attrs.length c9)) rfl rfl 57 _ HK_26.out 68 (by kernel_rfl) (bkL_length _ _ _ _ _ HZL.out) rfl (bkL_one _ _ _ _ _ rfl rfl) ?_; intro W27 hx_ hg_; have HB_27 := Aside0.mk (HB_26.out.grown hg_ HB_26.out.size (by intro k hk; cases hk; exact GE_gK.out)); have HA_27 := Aside0.mk (HA_26.out.grown hg_ (fun e => (HA_26.out.ne HK_26.out (by decide)) (Option.some.inj e))); have HF_27 := Aside0.mk (R_box_grown HF_26.out HK_26.out (by decide) hg_); have HG_27 := Aside0.mk (R_box_grown HG_26.out HK_26.out (by decide) hg_); have HX_27 := Aside0.mk (HX_26.out.grown hg_ (fun e => NE_gX_gK.out (Option.some.inj e))); have HK_27 := Aside0.mk (hx_); have ha0_ := HA_27.out.cell 0 _ rfl; have ha1_ := HA_27.out.cell 1 _ rfl; clear hx_ hg_ HB_26 HA_26 HF_26 HG_26 HX_26 HK_26)
    | ((with_reducible refine gate_dst (N := 71) rfl ?_); refine step_load rfl 57 (.tmp 7) rfl gX rfl _ _ _ HX_27.out Try.underlying57 rfl 68 (by kernel_rfl) (bkL_length _ _ _ _ _ HL.out) ?_)
    | (go_at_call 54; refine (HRN.out _ _ ⟨_, _, _, _, rfl, ⟨HL.out, (Kd.R_reads' HF_27.out).2.2, (Kd.R_reads' HF_27.out).2.1, (Kd.R_reads' HG_27.out).2.2, (Kd.R_reads' HG_27.out).2.1⟩⟩).mono ?_; rintro e W28 ⟨v_, vq_, rfl, ho_, hq_, hb_⟩; obtain ⟨hl_, vf_, va_, rfl, hf_, ha_⟩ := ho_; obtain ⟨A8, c8, rfl⟩ := Kd.R_slice hf_; obtain ⟨A9, c9, rfl⟩ := Kd.R_slice ha_; have HB_28 := Aside0.mk (HB_27.out.trans (hb_.mono HB_27.out.size)); have HA_28 := Aside0.mk (HA_27.out.below hb_); have HF_28 := Aside0.mk (Kd.R_below HF_27.out hb_); have HG_28 := Aside0.mk (Kd.R_below HG_27.out hb_); have HX_28 := Aside0.mk (HX_27.out.below hb_); clear hl_ hf_ ha_ hq_ hb_ HB_27 HA_27 HF_27 HG_27 HX_27 ha0_ ha1_)
    | (refine step_allocN (some 20) rfl rfl 57 rfl zeroL zero57 ?_; intro gK W29 hg_ hx_ hb_; have GE_gK := Aside0.mk (show w.heap.size ≤ gK by have := HB_28.out.size; omega); have NE_gA_gK := Aside0.mk (show gA ≠ gK by have := HA_28.out.lt; omega); have NE_gX_gK := Aside0.mk (show gX ≠ gK by have := HX_28.out.lt; omega); have HB_29 := Aside0.mk (HB_28.out.trans (hb_.mono HB_28.out.size)); have HA_29 := Aside0.mk (HA_28.out.below hb_); have HF_29 := Aside0.mk (Kd.R_below HF_28.out hb_); have HG_29 := Aside0.mk (Kd.R_below HG_28.out hb_); have HX_29 := Aside0.mk (HX_28.out.below hb_); have HK_29 := Aside0.mk (hx_); clear hg_ hx_ hb_ HB_28 HA_28 HF_28 HG_28 HX_28)
    | (refine step_store rfl 57 (.tmp 20) (.tmp 75) rfl gK (bkL z.addr z.aff z.slots (.slice A8 z.free.length c8) (.slice A9 z.attrs.length c9)) rfl rfl 57 _ HK_29.out 68 (by kernel_rfl) (bkL_length _ _ _ _ _ HZL.out) rfl (bkL_one _ _ _ _ _ rfl rfl) ?_; intro W30 hx_ hg_; have HB_30 := Aside0.mk (HB_29.out.grown hg_ HB_29.out.size (by intro k hk; cases hk; exact GE_gK.out)); have HA_30 := Aside0.mk (HA_29.out.grown hg_ (fun e => (HA_29.out.ne HK_29.out (by decide)) (Option.some.inj e))); have HF_30 := Aside0.mk (R_box_grown HF_29.out HK_29.out (by decide) hg_); have HG_30 := Aside0.mk (R_box_grown HG_29.out HK_29.out (by decide) hg_); have HX_30 := Aside0.mk (HX_29.out.grown hg_ (fun e => NE_gX_gK.out (Option.some.inj e))); have HK_30 := Aside0.mk (hx_); clear hx_ hg_ HB_29 HA_29 HF_29 HG_29 HX_29 HK_29)
    | ((with_reducible refine gate_dst (N := 79) rfl ?_); refine step_load rfl 57 (.tmp 7) rfl gX rfl _ _ _ HX_30.out Try.underlying57 rfl 68 (by kernel_rfl) (bkL_length _ _ _ _ _ HL.out) ?_)
    | (go_at_call 55; refine (HON.out _ _ ⟨_, _, _, _, rfl, ⟨HL.out, (Kd.R_reads' HF_30.out).2.2, (Kd.R_reads' HF_30.out).2.1, (Kd.R_reads' HG_30.out).2.2, (Kd.R_reads' HG_30.out).2.1⟩⟩).mono ?_; rintro e W31 ⟨v_, rfl, ho_, hb_⟩; obtain ⟨hl_, vf_, va_, rfl, hf_, ha_⟩ := ho_; obtain ⟨A8, c8, rfl⟩ := Kd.R_slice hf_; obtain ⟨A9, c9, rfl⟩ := Kd.R_slice ha_; have HB_31 := Aside0.mk (HB_30.out.trans (hb_.mono HB_30.out.size)); have HA_31 := Aside0.mk (HA_30.out.below hb_); have HF_31 := Aside0.mk (Kd.R_below HF_30.out hb_); have HG_31 := Aside0.mk (Kd.R_below HG_30.out hb_); have HX_31 := Aside0.mk (HX_30.out.below hb_); clear hl_ hf_ ha_ hb_ HB_30 HA_30 HF_30 HG_30 HX_30)
    | (refine step_allocN (some 23) rfl rfl 57 rfl zeroL zero57 ?_; intro gK W32 hg_ hx_ hb_; have GE_gK := Aside0.mk (show w.heap.size ≤ gK by have := HB_31.out.size; omega); have NE_gA_gK := Aside0.mk (show gA ≠ gK by have := HA_31.out.lt; omega); have NE_gX_gK := Aside0.mk (show gX ≠ gK by have := HX_31.out.lt; omega); have HB_32 := Aside0.mk (HB_31.out.trans (hb_.mono HB_31.out.size)); have HA_32 := Aside0.mk (HA_31.out.below hb_); have HF_32 := Aside0.mk (Kd.R_below HF_31.out hb_); have HG_32 := Aside0.mk (Kd.R_below HG_31.out hb_); have HX_32 := Aside0.mk (HX_31.out.below hb_); have HK_32 := Aside0.mk (hx_); clear hg_ hx_ hb_ HB_31 HA_31 HF_31 HG_31 HX_31)
    | (refine step_store rfl 57 (.tmp 23) (.tmp 81) rfl gK (bkL z.addr z.aff z.slots (.slice A8 z.free.length c8) (.slice A9 z.attrs.length c9)) rfl rfl 57 _ HK_32.out 68 (by kernel_rfl) (bkL_length _ _ _ _ _ HZL.out) rfl (bkL_one _ _ _ _ _ rfl rfl) ?_; intro W33 hx_ hg_; have HB_33 := Aside0.mk (HB_32.out.grown hg_ HB_32.out.size (by intro k hk; cases hk; exact GE_gK.out)); have HA_33 := Aside0.mk (HA_32.out.grown hg_ (fun e => (HA_32.out.ne HK_32.out (by decide)) (Option.some.inj e))); have HF_33 := Aside0.mk (R_box_grown HF_32.out HK_32.out (by decide) hg_); have HG_33 := Aside0.mk (R_box_grown HG_32.out HK_32.out (by decide) hg_); have HX_33 := Aside0.mk (HX_32.out.grown hg_ (fun e => NE_gX_gK.out (Option.some.inj e))); have HK_33 := Aside0.mk (hx_); clear hx_ hg_ HB_32 HA_32 HF_32 HG_32 HX_32 HK_32)
    | ((with_reducible refine gate_dst (N := 84) rfl ?_); refine step_load rfl 57 (.tmp 7) rfl gX rfl _ _ _ HX_33.out Try.underlying57 rfl 68 (by kernel_rfl) (bkL_length _ _ _ _ _ HL.out) ?_)
    | (go_at_call 56; refine (HOF.out _ _ ⟨_, _, _, _, rfl, ⟨HL.out, (Kd.R_reads' HF_33.out).2.2, (Kd.R_reads' HF_33.out).2.1, (Kd.R_reads' HG_33.out).2.2, (Kd.R_reads' HG_33.out).2.1⟩⟩).mono ?_; rintro e W34 ⟨rfl, hb_⟩; have HB_34 := Aside0.mk (HB_33.out.trans (hb_.mono HB_33.out.size)); have HA_34 := Aside0.mk (HA_33.out.below hb_); have HF_34 := Aside0.mk (Kd.R_below HF_33.out hb_); have HG_34 := Aside0.mk (Kd.R_below HG_33.out hb_); have HX_34 := Aside0.mk (HX_33.out.below hb_); clear hb_ HB_33 HA_33 HF_33 HG_33 HX_33)
    | (refine step_allocN (some 25) rfl rfl 85 rfl [.string ⟨#[]⟩, .string ⟨#[]⟩] (fun _ => by kernel_rfl) ?_; intro gK W35 hg_ hx_ hb_; have GE_gK := Aside0.mk (show w.heap.size ≤ gK by have := HB_34.out.size; omega); have NE_gA_gK := Aside0.mk (show gA ≠ gK by have := HA_34.out.lt; omega); have NE_gX_gK := Aside0.mk (show gX ≠ gK by have := HX_34.out.lt; omega); have HB_35 := Aside0.mk (HB_34.out.trans (hb_.mono HB_34.out.size)); have HA_35 := Aside0.mk (HA_34.out.below hb_); have HF_35 := Aside0.mk (Kd.R_below HF_34.out hb_); have HG_35 := Aside0.mk (Kd.R_mono (ok' := fun k_ => k_ ≠ gK) (Kd.R_below (Kd.R_bound HG_34.out) hb_) (fun k_ hk_ e_ => by have h_ := hk_.2.2.1; omega)); have HX_35 := Aside0.mk (HX_34.out.below hb_); have HK_35 := Aside0.mk (hx_); clear hg_ hx_ hb_ HB_34 HA_34 HF_34 HG_34 HX_34)
    | (refine step_store rfl 85 (.tmp 25) (.tmp 87) rfl gK [.string ⟨#[]⟩, .string ⟨#[]⟩] rfl rfl 85 _ HK_35.out 2 (by kernel_rfl) rfl rfl (atL_one ⟨⟨#[]⟩, ⟨#[]⟩⟩) ?_; intro W36 hx_ hg_; have HB_36 := Aside0.mk (HB_35.out.grown hg_ HB_35.out.size (by intro k hk; cases hk; exact GE_gK.out)); have HA_36 := Aside0.mk (HA_35.out.grown hg_ (fun e => (HA_35.out.ne HK_35.out (by decide)) (Option.some.inj e))); have HF_36 := Aside0.mk (R_box_grown HF_35.out HK_35.out (by decide) hg_); have HG_36 := Aside0.mk (Kd.R_mono (ok' := fun _ => True) (Kd.R_grown HG_35.out hg_ (fun k_ hk_ e_ => hk_ (Option.some.inj e_))) (fun _ _ => trivial)); have HX_36 := Aside0.mk (HX_35.out.grown hg_ (fun e => (HX_35.out.ne HK_35.out (by decide)) (Option.some.inj e))); have HK_36 := Aside0.mk (hx_); clear hx_ hg_ HB_35 HA_35 HF_35 HG_35 HX_35 HK_35)
    | ((with_reducible refine gate_dst (N := 116) rfl ?_); refine gate_guard (by rfl) ?_; refine step_load rfl 57 (.tmp 7) rfl gX rfl _ _ _ HX_36.out Try.underlying57 rfl 68 (by kernel_rfl) (bkL_length _ _ _ _ _ HL.out) ?_)
    | (go_at_call 57; refine (HEM.out _ _ ⟨_, _, _, _, rfl, ⟨HL.out, (Kd.R_reads' HF_36.out).2.2, (Kd.R_reads' HF_36.out).2.1, (Kd.R_reads' HG_36.out).2.2, (Kd.R_reads' HG_36.out).2.1⟩⟩).mono ?_; rintro e W37 ⟨rfl, hb_⟩; have HB_37 := Aside0.mk (HB_36.out.trans (hb_.mono HB_36.out.size)); have HA_37 := Aside0.mk (HA_36.out.below hb_); have HF_37 := Aside0.mk (Kd.R_below HF_36.out hb_); have HG_37 := Aside0.mk (Kd.R_below HG_36.out hb_); have HX_37 := Aside0.mk (HX_36.out.below hb_); clear hb_ HB_36 HA_36 HF_36 HG_36 HX_36)
    | ((with_reducible refine gate_dst (N := 121) rfl ?_); refine gate_guard (by rfl) ?_; refine step_load rfl 57 (.tmp 7) rfl gX rfl _ _ _ HX_37.out Try.underlying57 rfl 68 (by kernel_rfl) (bkL_length _ _ _ _ _ HL.out) ?_)
    | (go_at_call 58; refine (HCO.out _ _ ⟨_, _, _, _, rfl, ⟨HL.out, (Kd.R_reads' HF_37.out).2.2, (Kd.R_reads' HF_37.out).2.1, (Kd.R_reads' HG_37.out).2.2, (Kd.R_reads' HG_37.out).2.1⟩⟩).mono ?_; rintro e W38 ⟨gm, rfl, hm_, hb_⟩; have hlen_ := fun ty => run_len_map (P := Try.prog) (w := W38) 93 ty gm #[] 0 (by kernel_rfl) hm_; have HB_38 := Aside0.mk (HB_37.out.trans (hb_.mono HB_37.out.size)); have HA_38 := Aside0.mk (HA_37.out.below hb_); have HF_38 := Aside0.mk (Kd.R_below HF_37.out hb_); have HG_38 := Aside0.mk (Kd.R_below HG_37.out hb_); have HX_38 := Aside0.mk (HX_37.out.below hb_); clear hm_ hb_ HB_37 HA_37 HF_37 HG_37 HX_37)
    | ((with_reducible refine gate_dst (N := 127) rfl ?_); refine gate_guard (by rfl) ?_; refine step_load rfl 57 (.tmp 7) rfl gX rfl _ _ _ HX_38.out Try.underlying57 rfl 68 (by kernel_rfl) (bkL_length _ _ _ _ _ HL.out) ?_)
    | (go_at_call 59; refine (HGI.out _ _ ⟨_, _, _, _, rfl, ⟨HL.out, (Kd.R_reads' HF_38.out).2.2, (Kd.R_reads' HF_38.out).2.1, (Kd.R_reads' HG_38.out).2.2, (Kd.R_reads' HG_38.out).2.1⟩⟩).mono ?_; rintro e W39 ⟨vo_, rfl, ho_, hb_⟩; obtain ⟨Ao_, co_, rfl⟩ := Kd.R_slice ho_; have HB_39 := Aside0.mk (HB_38.out.trans (hb_.mono HB_38.out.size)); have HA_39 := Aside0.mk (HA_38.out.below hb_); have HF_39 := Aside0.mk (Kd.R_below HF_38.out hb_); have HG_39 := Aside0.mk (Kd.R_below HG_38.out hb_); have HX_39 := Aside0.mk (HX_38.out.below hb_); clear ho_ hb_ HB_38 HA_38 HF_38 HG_38 HX_38)
    | (go_at_call 44; refine (awake15_any _).mono ?_; rintro e W40 ⟨rfl, hb_⟩; have HB_40 := Aside0.mk (HB_39.out.trans (hb_.mono HB_39.out.size)); have HA_40 := Aside0.mk (HA_39.out.below hb_); have HF_40 := Aside0.mk (Kd.R_below HF_39.out hb_); have HG_40 := Aside0.mk (Kd.R_below HG_39.out hb_); have HX_40 := Aside0.mk (HX_39.out.below hb_); clear hb_ HB_39 HA_39 HF_39 HG_39 HX_39))
  go_ret
  exact ⟨rfl, HB_40.out⟩
end Go.Proofs.Ytemhalnhbgkbcaa.V
end

-- BOpen
section
/- A raw block as it comes in. -/
namespace Go.Proofs.Ytemhalnhbgkbcaa.V
open Go.RowKit Go.Proofs.YtemhalnhbgkbcaaW.PrintWords Go.Proofs.YtemhalnhbgkbcaaW.PrintLast Go.Proofs.YtemhalnhbgkbcaaW.PrintMore
open Go.ChangeShapes Go.WideShapes
set_option linter.unusedVariables false
set_option maxRecDepth 100000
theorem u8_wf {z : Int} (h : (Lit.int .u8 z).wf = true) : 0 ≤ z ∧ z < 256 := by
  have : 0 ≤ z ∧ z ≤ 255 := by simpa [Lit.wf, IntKind.min, IntKind.max, IntKind.signed, IntKind.bits] using h
  omega
theorem u32_wf {z : Int} (h : (Lit.int .u32 z).wf = true) : 0 ≤ z ∧ z < 4294967296 := by
  have : 0 ≤ z ∧ z ≤ 4294967295 := by simpa [Lit.wf, IntKind.min, IntKind.max, IntKind.signed, IntKind.bits] using h
  omega
theorem list_nums (l : List Value) (P : Int → Prop) (h : ∀ i, i < l.length → ∃ z, P z ∧ (l.drop i).take 1 = [Value.int .u8 z]) : ∃ zs : List Int, l = zs.map (Value.int .u8) ∧ ∀ z ∈ zs, P z := by
  induction l with
  | nil => exact ⟨[], rfl, by simp⟩
  | cons x l ih =>
    obtain ⟨z, hz, e⟩ := h 0 (by simp)
    obtain ⟨zs, h1, h2⟩ := ih (fun i hi => by
      obtain ⟨z, hz, e⟩ := h (i + 1) (by simpa using hi)
      exact ⟨z, hz, by simpa using e⟩)
    have e' : x = Value.int .u8 z := by simpa using e
    exact ⟨z :: zs, by rw [e', h1]; rfl, by intro y hy; rcases List.mem_cons.1 hy with rfl | hy; exact hz; exact h2 y hy⟩
theorem list_of {α : Type} (P : Nat → α → Prop) : ∀ n, (∀ i, i < n → ∃ a, P i a) → ∃ xs : List α, xs.length = n ∧ ∀ i a, xs[i]? = some a → P i a
  | 0, _ => ⟨[], rfl, by simp⟩
  | n + 1, h => by
    obtain ⟨xs, h1, h2⟩ := list_of P n (fun i hi => h i (by omega))
    obtain ⟨a, ha⟩ := h n (by omega)
    refine ⟨xs ++ [a], by simp [h1], fun i b hb => ?_⟩
    rcases Nat.lt_trichotomy i n with hi | hi | hi
    · rw [List.getElem?_append_left (by omega)] at hb
      exact h2 i b hb
    · subst hi
      rw [← h1, List.getElem?_concat_length] at hb
      obtain rfl := Option.some.inj hb
      exact ha
    · rw [List.getElem?_eq_none (by simp; omega)] at hb
      cases hb
theorem split68 (l : List Value) (h : l.length = 68) : l = (l.drop 0).take 1 ++ ((l.drop 1).take 1 ++ ((l.drop 2).take 64 ++ ((l.drop 66).take 1 ++ (l.drop 67).take 1))) := by
  have e : ∀ (n m : Nat), l.drop n = (l.drop n).take m ++ l.drop (n + m) := fun n m => by
    rw [← List.drop_drop]
    exact (List.take_append_drop m (l.drop n)).symm
  have e0 := e 0 1
  have e1 := e 1 1
  have e2 := e 2 64
  have e3 := e 66 1
  have e4 : (l.drop 67).take 1 = l.drop 67 := List.take_of_length_le (by simp; omega)
  rw [e4, ← e3, ← e2, ← e1, ← e0]
  rfl
section
variable {H : Type} {enc : TypeId × Value → H} {w : World} {base b0 : Nat} {held : Bool}
structure RwIs (w : World) (v : Value) (r : Rw) : Prop where
  v : RwV w v r
  a0 : 0 ≤ r.addr
  a1 : r.addr < 4294967296
  s8 : U8s r.slots
  f8 : U8s r.free
  z0 : r.aff.size ≤ 9223372036854775807
  za : ∀ a ∈ r.attrs, a.f0.size ≤ 9223372036854775807 ∧ a.f1.size ≤ 9223372036854775807
theorem open_raw {v : Value} {d : DataW H} {ps : List MemPlace} (hval : Value.okWide Try.prog w .any b0 51 v) (hd : DataW.Trod enc Try.prog w base (fun _ => true) held 51 v d ps) : ∃ r : Rw, RwIs w v r := by
  obtain ⟨cs, rfl, hz⟩ := okWide_struct Try.underlying51 hval
  obtain ⟨fuel, hf⟩ := hd
  obtain ⟨xs, k, hk, hxy, hl, hxl, hfd⟩ := DataW.trod_struct Try.underlying51 hf
  have hsz : cs.toList.length = 68 := hl.trans (by kernel_rfl)
  have g0 := hfd 0 _ rfl
  have g1 := hfd 1 _ rfl
  have g2 := hfd 2 _ rfl
  have g3 := hfd 3 _ rfl
  have g4 := hfd 4 _ rfl
  have hx5 : xs.length = 5 := hxl
  have y0 : ∃ y, xs[0]? = some y := ⟨_, List.getElem?_eq_getElem (by omega)⟩
  have y1 : ∃ y, xs[1]? = some y := ⟨_, List.getElem?_eq_getElem (by omega)⟩
  have y2 : ∃ y, xs[2]? = some y := ⟨_, List.getElem?_eq_getElem (by omega)⟩
  have y3 : ∃ y, xs[3]? = some y := ⟨_, List.getElem?_eq_getElem (by omega)⟩
  have y4 : ∃ y, xs[4]? = some y := ⟨_, List.getElem?_eq_getElem (by omega)⟩
  obtain ⟨q0, y0⟩ := y0; obtain ⟨q1, y1⟩ := y1; obtain ⟨q2, y2⟩ := y2; obtain ⟨q3, y3⟩ := y3; obtain ⟨q4, y4⟩ := y4
  rw [y0] at g0; rw [y1] at g1; rw [y2] at g2; rw [y3] at g3; rw [y4] at g4
  have c46 : Try.prog.cellsOf 46 = 1 := by kernel_rfl
  have c9 : Try.prog.cellsOf 9 = 1 := by kernel_rfl
  have c47 : Try.prog.cellsOf 47 = 64 := by kernel_rfl
  have c48 : Try.prog.cellsOf 48 = 1 := by kernel_rfl
  have c49 : Try.prog.cellsOf 49 = 1 := by kernel_rfl
  have c5 : Try.prog.cellsOf 5 = 1 := by kernel_rfl
  have c76 : Try.prog.cellsOf 76 = 2 := by kernel_rfl
  obtain ⟨z0, e0, _, w0⟩ := DataW.trod_int Try.underlying46 g0
  obtain ⟨s1, e1, _, w1⟩ := DataW.trod_string Try.underlying9 g1
  obtain ⟨ax, am, _, _, al, alen, ael⟩ := DataW.trod_array Try.underlying47 g2
  have e0' : (cs.toList.drop 0).take (Try.prog.cellsOf 46) = [Value.int .u32 z0] := e0
  have e1' : (cs.toList.drop 1).take (Try.prog.cellsOf 9) = [Value.string s1] := e1
  rw [c46] at e0'
  rw [c9] at e1'
  obtain ⟨L, hL⟩ : ∃ L, L = (cs.toList.drop 2).take (Try.prog.cellsOf 47) := ⟨_, rfl⟩
  have hLl : L.length = 64 := by rw [hL, c47, List.length_take, List.length_drop, hsz]; rfl
  have ael' : ∀ i, i < 64 → DataW.trod enc Try.prog w base (fun _ => true) held am 5 ((L.drop (i * 1)).take 1) = ax[i]? := by
    intro i hi
    have := ael i hi
    rw [c5] at this
    rw [hL]
    exact this
  obtain ⟨zs, hzs, hz8⟩ := list_nums L (fun z => 0 ≤ z ∧ z < 256) (fun i hi => by
    have h := ael' i (by omega)
    rw [Nat.mul_one, List.getElem?_eq_getElem (by omega)] at h
    obtain ⟨z, e, _, wz⟩ := DataW.trod_int Try.underlying5 h
    exact ⟨z, u8_wf wz, e⟩)
  have hzl : zs.length = 64 := by rw [hzs] at hLl; simpa using hLl
  obtain ⟨A, c, fr, e3, hfc, hfC, hf8⟩ : ∃ (A : Option Addr) (c : Nat) (fr : List Int), (cs.toList.drop 66).take 1 = [Value.slice A fr.length c] ∧ fr.length ≤ c ∧ Kd.C (Kd.int .u8) w A fr.length fr ∧ U8s fr := by
    rcases open_ints Try.underlying48 Try.underlying5 c5 g3 with ⟨hcs, _⟩ | ⟨x, l, c, ys, hcs, _, hl, hm, hy, _, hcell, hwy⟩
    · have hcs' : (cs.toList.drop 66).take (Try.prog.cellsOf 48) = [.slice none 0 0] := hcs
      rw [c48] at hcs'
      exact ⟨none, 0, [], hcs', Nat.le_refl _, Kd.C_nil _ _, by intro x hx; cases hx⟩
    · have hcs' : (cs.toList.drop 66).take (Try.prog.cellsOf 48) = [.slice (some x) l c] := hcs
      rw [c48] at hcs'
      rw [if_pos rfl] at hy
      have hlen : (ys.take l).length = l := by rw [List.length_take]; omega
      refine ⟨some x, c, ys.take l, by rw [hlen]; exact hcs', by omega, ?_, fun n hn => u8_wf (hwy n (List.mem_of_mem_take hn))⟩
      refine Kd.C_of_reads (enc := Value.int .u8) (d := 0) (h1 := fun _ => rfl) ⟨rfl, by unfold maxLen at hm; omega, fun _ => ⟨x, rfl, fun j hj => ?_⟩⟩
      rw [hlen] at hj
      rw [hcell j (by omega)]
      congr 2
      simp only [List.getD_eq_getElem?_getD, List.getElem?_take, hj, if_true]
  obtain ⟨A', c', at', e4, hac, haC, haZ⟩ : ∃ (A : Option Addr) (c : Nat) (l : List S76), (cs.toList.drop 67).take 1 = [Value.slice A l.length c] ∧ l.length ≤ c ∧ Kd.C k76 w A l.length l ∧ ∀ a ∈ l, a.f0.size ≤ 9223372036854775807 ∧ a.f1.size ≤ 9223372036854775807 := by
    rcases Go.Deep.open_slice_pairs Try.underlying49 Try.underlying76 c76 rfl rfl c9 c9 g4 with ⟨hcs, _⟩ | ⟨x, l, c, m, n, V0, V1, D0, D1, P0, P1, hcs, _, hl, hm, hmm, _, hel⟩
    · have hcs' : (cs.toList.drop 67).take (Try.prog.cellsOf 49) = [.slice none 0 0] := hcs
      rw [c49] at hcs'
      exact ⟨none, 0, [], hcs', Nat.le_refl _, Kd.C_nil _ _, by intro a ha; cases ha⟩
    · have hcs' : (cs.toList.drop 67).take (Try.prog.cellsOf 49) = [.slice (some x) l c] := hcs
      rw [c49] at hcs'
      have hmc : m = c := by rw [hmm]; rfl
      obtain ⟨ys, hy1, hy2⟩ := list_of (fun i (a : S76) => w.cell? (x.add (i * 2)) = some (.string a.f0) ∧ w.cell? (x.add (i * 2 + 1)) = some (.string a.f1) ∧ (a.f0.size ≤ 9223372036854775807 ∧ a.f1.size ≤ 9223372036854775807)) l (fun i hi => by
        obtain ⟨h0, h1, t0, t1⟩ := hel i (by omega)
        obtain ⟨s0, u0, _, z0⟩ := DataW.trod_string Try.underlying9 t0
        obtain ⟨s1, u1, _, z1⟩ := DataW.trod_string Try.underlying9 t1
        exact ⟨⟨s0, s1⟩, by rw [h0]; simpa using u0, by rw [h1]; simpa using u1, by unfold maxLen at z0; exact z0, by unfold maxLen at z1; exact z1⟩)
      refine ⟨some x, c, ys, by rw [hy1]; exact hcs', by omega, ⟨rfl, by unfold maxLen at hm; omega, fun _ => ⟨x, rfl, fun j p hj => ⟨_, rfl, k76_mk w p, fun i u hu => ?_⟩⟩⟩, fun a ha => ?_⟩
      rotate_left
      · obtain ⟨j, hj, rfl⟩ := List.getElem_of_mem ha
        exact (hy2 j _ (List.getElem?_eq_getElem hj)).2.2
      obtain ⟨h0, h1, _⟩ := hy2 j p hj
      match i, hu with
      | 0, hu => obtain rfl := Option.some.inj hu; exact h0
      | 1, hu => obtain rfl := Option.some.inj hu; exact h1
  refine ⟨⟨z0, s1, zs, fr, at'⟩, ⟨A, c, A', c', ?_, hzl, hfC, hfc, haC, hac⟩, (u32_wf w0).1, (u32_wf w0).2, hz8, hf8, by unfold maxLen at w1; exact w1, haZ⟩
  have e2 : (cs.toList.drop 2).take 64 = zs.map (Value.int .u8) := by rw [← hzs, hL, c47]
  have hs := split68 cs.toList hsz
  rw [e0', e1', e2, e3, e4] at hs
  rw [show cs = cs.toList.toArray from (Array.toArray_toList (xs := cs)).symm, hs]
  rfl
end
end Go.Proofs.Ytemhalnhbgkbcaa.V
end

-- BWalks3
section
/- BlockRight's walk, over what comes in. -/
namespace Go.Proofs.Ytemhalnhbgkbcaa.V
open Go.RowKit Go.Proofs.YtemhalnhbgkbcaaW.PrintWords Go.Proofs.YtemhalnhbgkbcaaW.PrintLast Go.Proofs.YtemhalnhbgkbcaaW.PrintMore
open Go.ChangeShapes Go.WideShapes
set_option linter.unusedVariables false
set_option maxRecDepth 100000
section
variable {H : Type} {enc : TypeId × Value → H} {w : World} {base b0 : Nat} {held : Bool}
/-- An attribute of the document's as it comes in. -/
def RAtIs (v : Value) (x : S76) : Prop := v = .agg #[.string x.f0, .string x.f1]
theorem open_rattr {v : Value} {d : DataW H} {ps : List MemPlace} (hval : Value.okWide Try.prog w .any b0 76 v) (hd : DataW.Trod enc Try.prog w base (fun _ => true) held 76 v d ps) : ∃ x : S76, RAtIs v x := by
  obtain ⟨cs, rfl, hz⟩ := okWide_struct Try.underlying76 hval
  obtain ⟨fuel, hf⟩ := hd
  obtain ⟨y0, y1, n, _, hl, h0, h1⟩ := trod_struct2 Try.underlying76 hf
  have hsz : cs.toList.length = 2 := hl.trans (by kernel_rfl)
  obtain ⟨z0, e0, _, w0⟩ := DataW.trod_string Try.underlying9 h0
  obtain ⟨z1, e1, _, w1⟩ := DataW.trod_string Try.underlying9 h1
  match hc : cs.toList, hsz with
  | [p, q], _ =>
    have c0 : Try.prog.cellsOf 9 = 1 := by kernel_rfl
    have e0' : (cs.toList.drop 0).take (Try.prog.cellsOf 9) = [Value.string z0] := e0
    have e1' : (cs.toList.drop 1).take (Try.prog.cellsOf 9) = [Value.string z1] := e1
    rw [c0, hc] at e0' e1'
    simp at e0' e1'
    refine ⟨⟨z0, z1⟩, ?_⟩
    show Value.agg cs = _
    rw [show cs = #[p, q] by rw [← Array.toArray_toList (xs := cs), hc], e0', e1']
end
theorem blockRight_walk (v : Value) (r : Rw) (u : Value) (a : S76) (x : Int) (w : World) (h : RwIs w v r) (ha : RAtIs u a) (hx : (Lit.int .u32 x).wf = true) : Calls Try.prog 11 #[v, u, .int .u32 x] w fun e w' => e = .returned (.bool true) ∧ Below w.heap.size w w' := by
  obtain rfl : u = .agg #[.string a.f0, .string a.f1] := ha
  have hx2 := u32_wf hx
  cases hr : rightB (ours r) with
  | true => exact blockRight_yes r h.a0 h.a1 h.s8 h.f8 h.z0 h.za a x hx2.1 hx2.2 hr v w h.v
  | false => exact blockRight_no r h.a0 h.a1 h.s8 h.f8 h.z0 h.za a x hx2.1 hx2.2 hr v w h.v
end Go.Proofs.Ytemhalnhbgkbcaa.V
end

