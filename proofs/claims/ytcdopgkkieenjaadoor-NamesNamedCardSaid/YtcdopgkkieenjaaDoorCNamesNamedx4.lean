/- Texts of ours that the claims of this seat share, put together (part 5). No further condition. -/
import Derived.Test.YtcdopgkkieenjaaDoorCNamesNamedx3
import Derived.Handy
import Derived.Test.YtcdopgkkieenjaaDoorCNamesNamedx1
-- ICidrR
section
/- Which net a text is: the program's way and the document's are one. -/
namespace Go.Proofs.YtcdopgkkieenjaaDoor.V
open Go.RowKit Go.Proofs.YtcdopgkkieenjaaDoorW.PrintWords Go.Proofs.YtcdopgkkieenjaaDoorW.PrintLast Go.Proofs.YtcdopgkkieenjaaDoorW.PrintMore
set_option linter.unusedVariables false
set_option linter.unusedSimpArgs false

/-! ### Cut at the first c -/
theorem index_app (c : UInt8) (y : List UInt8) : ∀ x : List UInt8, c ∉ x → Lib.indexByte (x ++ c :: y) c = (x.length : Int)
  | [], _ => by simp [Lib.indexByte]
  | b :: x, h => by
    have h1 : ¬ b = c := fun e => h (by simp [e])
    have ih := index_app c y x (fun e => h (by simp [e]))
    rw [List.cons_append, Lib.indexByte, ih]
    have n1 : ¬ ((x.length : Int) = -1) := by omega
    simp [h1, n1]
theorem index_split (c : UInt8) : ∀ (l : List UInt8) (i : Nat), Lib.indexByte l c = (i : Int) → l = l.take i ++ c :: l.drop (i + 1) ∧ c ∉ l.take i ∧ i < l.length
  | [], i, h => by simp [Lib.indexByte] at h
  | b :: l, i, h => by
    rw [Lib.indexByte] at h
    by_cases hb : b = c
    · subst hb
      simp at h
      obtain rfl : i = 0 := by omega
      simp
    · have hb' : (b == c) = false := by simpa using hb
      rw [hb'] at h
      simp only [Bool.false_eq_true, if_false] at h
      by_cases hm : Lib.indexByte l c = -1
      · simp [hm] at h
      · have hg := Lib.indexByte_ge l c
        have hm' : (Lib.indexByte l c == -1) = false := by simpa using hm
        rw [hm'] at h
        simp only [Bool.false_eq_true, if_false] at h
        obtain ⟨j, rfl⟩ : ∃ j, i = j + 1 := ⟨i - 1, by omega⟩
        obtain ⟨h1, h2, h3⟩ := index_split c l j (by omega)
        refine ⟨by rw [List.take_succ_cons, List.drop_succ_cons, List.cons_append, ← h1], ?_, by simp; omega⟩
        rw [List.take_succ_cons]
        intro hc
        rcases List.mem_cons.1 hc with h | h
        · exact hb h.symm
        · exact h2 h
theorem cut_true (c : UInt8) (s : ByteArray) (h : (cutB c s).2.2 = true) : s.data.toList = (cutB c s).1.data.toList ++ c :: (cutB c s).2.1.data.toList ∧ c ∉ (cutB c s).1.data.toList := by
  unfold cutB at h ⊢
  by_cases hm : Lib.indexByte s.data.toList c = -1
  · rw [if_pos hm] at h; cases h
  · rw [if_neg hm]
    have hg := Lib.indexByte_ge s.data.toList c
    obtain ⟨i, hi⟩ : ∃ i : Nat, Lib.indexByte s.data.toList c = i := ⟨(Lib.indexByte s.data.toList c).toNat, by omega⟩
    obtain ⟨h1, h2, h3⟩ := index_split c _ i hi
    rw [hi]
    simp only [Int.toNat_natCast, Lib.extract_from_zero, Lib.extract_to_end]
    exact ⟨h1, h2⟩
theorem cut_of (c : UInt8) (s : ByteArray) (x y : List UInt8) (h : s.data.toList = x ++ c :: y) (hx : c ∉ x) : (cutB c s).1.data.toList = x ∧ (cutB c s).2.1.data.toList = y ∧ (cutB c s).2.2 = true := by
  have hi := index_app c y x hx
  rw [← h] at hi
  unfold cutB
  rw [if_neg (by omega), hi]
  simp only [Int.toNat_natCast, Lib.extract_from_zero, Lib.extract_to_end, h]
  refine ⟨by simp, ?_, trivial⟩
  rw [List.drop_append]
  simp
theorem cutAt_join (c : UInt8) : ∀ l : List UInt8, [c].intercalate (cutAt c l) = l
  | [] => rfl
  | b :: l => by
    have ih := cutAt_join c l
    unfold cutAt
    by_cases h : b = c
    · subst h
      rw [if_pos rfl]
      cases hc : cutAt b l with
      | nil => exact absurd hc (cutAt_ne b l)
      | cons p r =>
        rw [hc] at ih
        simp [List.intercalate] at ih ⊢
        exact ih
    · rw [if_neg h]
      cases hc : cutAt c l with
      | nil => exact absurd hc (cutAt_ne c l)
      | cons p r =>
        rw [hc] at ih
        cases r with
        | nil => simp [List.intercalate] at ih ⊢; exact ih
        | cons q r => simp [List.intercalate] at ih ⊢; exact ih
theorem byteAt_of (a b c d : Nat) (ha : a < 256) (hb : b < 256) (hc : c < 256) (hd : d < 256) :
    byteAt (((a * 256 + b) * 256 + c) * 256 + d) 0 = a ∧ byteAt (((a * 256 + b) * 256 + c) * 256 + d) 1 = b ∧ byteAt (((a * 256 + b) * 256 + c) * 256 + d) 2 = c ∧ byteAt (((a * 256 + b) * 256 + c) * 256 + d) 3 = d := by
  unfold byteAt
  simp only [Nat.sub_zero, Nat.sub_self]
  omega
theorem ipOf_inv {l : List UInt8} {v : Nat} (h : ipOf l = some v) : l = ipL v ∧ v < 4294967296 := by
  unfold ipOf at h
  have hj := cutAt_join 46 l
  generalize cutAt 46 l = ps at h hj
  match ps, h with
  | [p, q, r, t], h =>
    simp only [ipOfP] at h
    obtain ⟨x, hx, h2⟩ := Option.bind_eq_some_iff.1 h
    obtain ⟨y, hy, h3⟩ := Option.bind_eq_some_iff.1 h2
    obtain ⟨z, hz, h4⟩ := Option.bind_eq_some_iff.1 h3
    obtain ⟨u, hu, h5⟩ := Option.bind_eq_some_iff.1 h4
    have hv := Option.some.inj h5
    clear h h2 h3 h4 h5
    obtain ⟨x1, rfl⟩ := byteOf_some hx
    obtain ⟨y1, rfl⟩ := byteOf_some hy
    obtain ⟨z1, rfl⟩ := byteOf_some hz
    obtain ⟨u1, rfl⟩ := byteOf_some hu
    have hb := byteAt_of x y z u x1 y1 z1 u1
    rw [hv] at hb
    refine ⟨?_, by omega⟩
    rw [← hj]
    unfold ipL
    rw [hb.1, hb.2.1, hb.2.2.1, hb.2.2.2]
    simp [List.intercalate]
theorem ipL_no (v : Nat) (c : UInt8) (hc : c < 46 ∨ 57 < c ∨ c = 47) : c ∉ ipL v := by
  have hn := fun i => decL_no (byteAt v i) (byteAt_lt v i) c (by
    rcases hc with h | h | h
    · exact .inl (by simp only [UInt8.lt_iff_toNat_lt] at h ⊢; have : (46 : UInt8).toNat = 46 := rfl; have : (48 : UInt8).toNat = 48 := rfl; omega)
    · exact .inr h
    · subst h; exact .inl (by decide))
  have h46 : c ≠ 46 := by
    rintro rfl
    rcases hc with h | h | h
    · exact absurd h (by decide)
    · exact absurd h (by decide)
    · exact absurd h (by decide)
  unfold ipL
  simp only [List.mem_append, List.mem_cons, not_or]
  exact ⟨hn 0, h46, hn 1, h46, hn 2, h46, hn 3⟩
/-- Which net a text is. -/
def netR (s : ByteArray) : Option (Nat × Nat) := if (cutB 47 s).2.2 = true then (ipOf (cutB 47 s).1.data.toList).bind fun v => (byteOf (cutB 47 s).2.1.data.toList).bind fun n => if n ≤ 32 ∧ v % sz n = 0 then some (v, n) else none else none
theorem may_mk {v n : Nat} (hn : n ≤ 32) (hd : v % sz n = 0) : mayN v (n : Int) = true := by
  simp [mayN, hd]
  omega
theorem netText_data {v n : Nat} (hn : n ≤ 32) (hd : v % sz n = 0) : (netText v (n : Int)).data.toList = ipL v ++ 47 :: decL n := by
  unfold netText
  rw [if_pos (may_mk hn hd), Int.toNat_natCast]
  simp [ipText_data, decB_data]
theorem numB_all : ((List.range 33).all fun n => decide (numB (decB n) (decB n).size = (n : Int)) && decide (1 ≤ (decB n).size) && decide ((decB n).size ≤ 2)) = true := by kernel_rfl
theorem data_ext {s t : ByteArray} (h : s.data.toList = t.data.toList) : s = t := ByteArray.ext (Array.ext' h)
theorem netR_inv {s : ByteArray} {v n : Nat} (h : netR s = some (v, n)) : v < 4294967296 ∧ n ≤ 32 ∧ v % sz n = 0 ∧ s = netText v (n : Int) ∧ (cutB 47 s).2.2 = true ∧ (cutB 47 s).1 = ipText v ∧ (cutB 47 s).2.1 = decB n := by
  unfold netR at h
  by_cases hc : (cutB 47 s).2.2 = true
  · rw [if_pos hc] at h
    obtain ⟨v', hv, h⟩ := Option.bind_eq_some_iff.1 h
    obtain ⟨n', hn, h⟩ := Option.bind_eq_some_iff.1 h
    split at h
    · rename_i hg
      have e := Option.some.inj h
      obtain ⟨rfl, rfl⟩ := Prod.mk.inj e
      obtain ⟨g1, g2⟩ := ipOf_inv hv
      obtain ⟨g3, g4⟩ := byteOf_some hn
      obtain ⟨g5, g6⟩ := cut_true 47 s hc
      refine ⟨g2, hg.1, hg.2, data_ext ?_, hc, data_ext ?_, eq_decB g4⟩
      · rw [netText_data hg.1 hg.2, g5, g1, g4]
      · rw [g1, ipText_data]
    · cases h
  · rw [if_neg hc] at h; cases h
theorem netR_text {v n : Nat} (hv : v < 4294967296) (hn : n ≤ 32) (hd : v % sz n = 0) : netR (netText v (n : Int)) = some (v, n) := by
  obtain ⟨h1, h2, h3⟩ := cut_of 47 (netText v (n : Int)) (ipL v) (decL n) (netText_data hn hd) (ipL_no v 47 (.inr (.inr rfl)))
  unfold netR
  rw [if_pos h3, h1, h2, ipOf_text v hv, Option.bind_some, byteOf_decL n (by omega), Option.bind_some, if_pos ⟨hn, hd⟩]
theorem cidrR_eq (s : ByteArray) : cidrR s = match netR s with | some (v, n) => ((v : Int), (n : Int), 0) | none => (0, 0, 3) := by
  cases h : netR s with
  | some q =>
    obtain ⟨v, n⟩ := q
    obtain ⟨h1, h2, h3, h4, h5, h6, h7⟩ := netR_inv h
    have hall := List.all_eq_true.1 numB_all n (List.mem_range.2 (by omega))
    simp only [Bool.and_eq_true, decide_eq_true_eq] at hall
    unfold cidrR
    rw [h5, h6, h7, parseR_text v h1, hall.1.1, Int.toNat_natCast, if_pos ⟨rfl, rfl, hall.1.2, hall.2, h4.symm⟩]
  | none =>
    unfold cidrR
    rw [if_neg]
    rintro ⟨h1, h2, h3, h4, h5⟩
    have hp : ∃ v : Nat, ipOf (cutB 47 s).1.data.toList = some v ∧ (parseR (cutB 47 s).1).1 = (v : Int) := by
      unfold parseR at h2 ⊢
      cases hi : ipOf (cutB 47 s).1.data.toList with
      | some v => exact ⟨v, rfl, rfl⟩
      | none => rw [hi] at h2; simp at h2
    obtain ⟨v, hv, e⟩ := hp
    rw [e, Int.toNat_natCast] at h5
    obtain ⟨g1, g2⟩ := ipOf_inv hv
    cases hm : mayN v (numB (cutB 47 s).2.1 (cutB 47 s).2.1.size) with
    | false =>
      unfold netText at h5
      rw [hm] at h5
      obtain ⟨g5, _⟩ := cut_true 47 s h1
      rw [← h5] at g5
      simp at g5
    | true =>
      obtain ⟨m, hm1, hm2, hm3⟩ := may_nat hm
      rw [hm1] at h5
      have := netR_text g2 hm2 hm3
      rw [h5, h] at this
      cases this
/-! ### The document's Parse -/
end Go.Proofs.YtcdopgkkieenjaaDoor.V
end

-- INetsP
section
/- A net in a key: its text with a dash, and which net such a text is. -/
namespace Go.Proofs.YtcdopgkkieenjaaDoor.V
open Go.RowKit Go.Proofs.YtcdopgkkieenjaaDoorW.PrintWords Go.Proofs.YtcdopgkkieenjaaDoorW.PrintLast Go.Proofs.YtcdopgkkieenjaaDoorW.PrintMore
set_option linter.unusedVariables false
set_option linter.unusedSimpArgs false

/-- A net's text in a key. -/
def dashL (v n : Nat) : List UInt8 := ipL v ++ 45 :: decL n
def dashT (v n : Nat) : ByteArray := ⟨(dashL v n).toArray⟩
theorem dashT_data (v n : Nat) : (dashT v n).data.toList = dashL v n := by simp [dashT]
theorem ipL_no45 (v : Nat) : (45 : UInt8) ∉ ipL v := ipL_no v 45 (.inl (by decide))
theorem dash_cut (v n : Nat) : (cutB 45 (dashT v n)).1.data.toList = ipL v ∧ (cutB 45 (dashT v n)).2.1.data.toList = decL n ∧ (cutB 45 (dashT v n)).2.2 = true :=
  cut_of 45 (dashT v n) (ipL v) (decL n) (dashT_data v n) (ipL_no45 v)
/-- Which net a text in a key is. -/
def ofDash (s : ByteArray) : Option (Nat × Nat) := (netR ((cutB 45 s).1 ++ (⟨#[47]⟩ : ByteArray) ++ (cutB 45 s).2.1)).bind fun q => if dashT q.1 q.2 = s then some q else none
theorem ofDash_mk {v n : Nat} (hv : v < 4294967296) (hn : n ≤ 32) (hd : v % sz n = 0) : ofDash (dashT v n) = some (v, n) := by
  obtain ⟨h1, h2, h3⟩ := dash_cut v n
  have e : (cutB 45 (dashT v n)).1 ++ (⟨#[47]⟩ : ByteArray) ++ (cutB 45 (dashT v n)).2.1 = netText v (n : Int) := by
    apply data_ext
    rw [netText_data hn hd]
    simp [h1, h2]
  unfold ofDash
  rw [e, netR_text hv hn hd, Option.bind_some, if_pos rfl]
theorem dashT_size (v n : Nat) : (dashT v n).size ≤ 19 := by
  have h := ipText_size v; have h2 := decL_length n
  have e : (ipL v).length = (ipText v).size := by rw [← ipText_data, data_length]
  have : (dashT v n).size = (dashL v n).length := by rw [← dashT_data, data_length]
  rw [this]
  unfold dashL
  simp
  omega
/-- The net's own text, its stroke turned. -/
theorem turn_dash {v n : Nat} (hn : n ≤ 32) (hd : v % sz n = 0) : Lib.indexByte (netText v (n : Int)).data.toList 47 = ((ipL v).length : Int) ∧
    (netText v (n : Int)).data.toList.take (ipL v).length ++ 45 :: (netText v (n : Int)).data.toList.drop ((ipL v).length + 1) = dashL v n := by
  rw [netText_data hn hd]
  refine ⟨index_app 47 (decL n) (ipL v) (ipL_no v 47 (.inr (.inr rfl))), ?_⟩
  unfold dashL
  rw [List.take_left]
  congr 2
  rw [List.drop_append]
  simp
end Go.Proofs.YtcdopgkkieenjaaDoor.V
end

-- IReplace
section
/- strings.Replace of the first stroke by a dash, strings.Cut at a text of one byte: in the print's own form. -/
namespace Go.Proofs.YtcdopgkkieenjaaDoor.V
open Go.RowKit Go.Proofs.YtcdopgkkieenjaaDoorW.PrintWords Go.Proofs.YtcdopgkkieenjaaDoorW.PrintLast Go.Proofs.YtcdopgkkieenjaaDoorW.PrintMore
set_option linter.unusedVariables false
set_option linter.unusedSimpArgs false

/-- A text with its first stroke turned to a dash, which stands at place i. -/
def dashAt (s : ByteArray) (i : Nat) : ByteArray := ⟨(s.data.toList.take i ++ 45 :: s.data.toList.drop (i + 1)).toArray⟩
set_option maxHeartbeats 4000000 in
set_option maxRecDepth 100000 in
theorem replace_any (s : ByteArray) (i : Nat) (hs : s.size < 1000000) (hi : Lib.indexByte s.data.toList 47 = i) (w : World) :
    Calls Tryd.prog 97 #[.string s, .string ⟨#[47]⟩, .string ⟨#[45]⟩, .int .i64 1] w fun e w' => e = .returned (.string (dashAt s i)) ∧ Below w.heap.size w w' := by
  obtain ⟨hsp, hno, hil⟩ := index_split 47 s.data.toList i hi
  rw [data_length] at hil
  obtain ⟨n, hn, hn1⟩ : ∃ n : Nat, Lib.countByte s.data.toList 47 = n ∧ 1 ≤ n := by
    refine ⟨_, rfl, ?_⟩
    show 1 ≤ List.count 47 s.data.toList
    rw [hsp]
    simp
    omega
  have hcz : ((n : Int) == 0) = false := beq_eq_false_iff_ne.2 (by omega)
  have hcl : decide ((n : Int) < 1) = false := by simp; omega
  have c1 : (0 : Int) ≤ (i : Int) := by omega
  have c2 : (i : Int) ≤ (s.size : Int) := by omega
  have c3 : (0 : Int) ≤ (i : Int) + 1 := by omega
  have c4 : (i : Int) + 1 ≤ (s.size : Int) := by omega
  have HI := Aside0.mk hi
  have HN := Aside0.mk hn
  have HX := Aside0.mk hsp
  have HL := Aside0.mk hil
  clear hi hn hsp hno
  go_enter Tryd.func97, Tryd.ntmps97
  go_wp2_with (first | (go_at_call 102; refine (Tryd.strings_Count_one s 47 _).mono ?_; rintro e w' ⟨rfl, hw⟩; rw [hw, HN.out]))
  refine (Any.Builder_Grow_fresh { Tryd.lays154 with } Tryd.Builder_Extra_154 w.heap.size w.heap.size _ _ (Nat.le_refl _) (heap_alloc_new w _) (by simp) (by omega)).mono ?_
  rintro e w1 ⟨rfl, hb0, hb1⟩
  have H1 := Aside0.mk (Or.inr hb0 : Lib.IsBuilder 105 5 w.heap.size w.heap.size (Lib.byteCells []) w1)
  have Hb1 := Aside0.mk (((Below.refl w.heap.size w).alloc (Nat.le_refl _) _).trans hb1)
  clear hb0 hb1
  go_wp2_with fail
  go_loopg [11, 53] 1 (fun g s11 s53 wx => ∃ (i0 start : Nat) (acc : List UInt8), s53 = .int .i64 i0 ∧ s11 = .int .i64 start ∧ i0 + g = 1 ∧ start ≤ s.size ∧ acc.length + (s.size - start) ≤ 140737488355328 ∧ Aside0 (Lib.IsBuilder 105 5 w.heap.size w.heap.size (Lib.byteCells acc) wx) ∧ Aside0 (Below w.heap.size w wx) ∧ Aside0 ((i0 = 0 ∧ start = 0 ∧ acc = []) ∨ (i0 = 1 ∧ start = i + 1 ∧ acc = s.data.toList.take i ++ [45])))
  case atStart => exact ⟨0, 0, [], rfl, rfl, by omega, Nat.zero_le _, by simp; omega, H1, Hb1, ⟨.inl ⟨rfl, rfl, rfl⟩⟩⟩
  case round =>
    obtain ⟨i0, start, acc, rfl, rfl, hig, hst, hal, HB, HW, HR⟩ := hrel
    have hBw : w.heap.size ≤ wr.heap.size := HW.out.size
    have b1 : (0 : Int) ≤ (start : Int) := by omega
    have b2 : (start : Int) ≤ (s.size : Int) := by omega
    cases gk with
    | zero =>
      have hiK : ¬ ((i0 : Int) < 1) := by omega
      have HA := Aside0.mk (show acc ++ s.data.toList.drop start = s.data.toList.take i ++ 45 :: s.data.toList.drop (i + 1) by
        rcases HR.out with ⟨h, _, _⟩ | ⟨_, h1, h2⟩
        · omega
        · rw [h1, h2]; simp)
      go_wp2_with fail
      refine (Any.Builder_WriteString { Tryd.lays154 with } Tryd.Builder_Extra_154 w.heap.size w.heap.size _ _ wr HB.out (by rw [Lib.byteCells_length, ByteArray.size_extract]; omega) hBw).mono ?_
      rintro e w3 ⟨rfl, h3, hb3⟩
      rw [Lib.strCells_eq, Lib.extract_to_end, ← Lib.byteCells_append] at h3
      rw [HA.out] at h3
      have H3 := Aside0.mk (Or.inr h3 : Lib.IsBuilder 105 5 w.heap.size w.heap.size _ w3)
      have Hb3 := Aside0.mk (HW.out.trans hb3)
      have hBw3 : w.heap.size ≤ w3.heap.size := Hb3.out.size
      clear h3 hb3
      go_wp2_with fail
      refine (Any.Builder_String_any { Tryd.lays154 with } Tryd.Builder_Extra_154 w.heap.size w.heap.size _ w3 H3.out hBw3).mono ?_
      rintro e w5 ⟨rfl, hb5⟩
      have Hb5 := Aside0.mk (Hb3.out.trans hb5)
      clear hb5
      go_wp2
      go_ret
      exact ⟨rfl, Hb5.out⟩
    | succ g =>
      have hiK : (i0 : Int) < 1 := by omega
      have HE := Aside0.mk (show i0 = 0 ∧ start = 0 ∧ acc = [] by
        rcases HR.out with h | ⟨h, _, _⟩
        · exact h
        · omega)
      have HJ := Aside0.mk (show Lib.indexByte (s.extract start s.size).data.toList 47 = i by rw [Lib.extract_to_end, HE.out.2.1, List.drop_zero]; exact HI.out)
      have b3 : (start : Int) ≤ (start : Int) + (i : Int) := by omega
      have b4 : (start : Int) + (i : Int) ≤ (s.size : Int) := by have := HE.out.2.1; omega
      have HZ := Aside0.mk (show acc.length = 0 by rw [HE.out.2.2]; rfl)
      go_wp2_with (first | (go_at_call 103; refine (Tryd.strings_Index_one _ 47 _).mono ?_; rintro e w' ⟨rfl, hw⟩; rw [hw, HJ.out]))
      refine (Any.Builder_WriteString { Tryd.lays154 with } Tryd.Builder_Extra_154 w.heap.size w.heap.size _ (s.extract start (start + i)) wr HB.out (by rw [Lib.byteCells_length, ByteArray.size_extract]; have := HE.out.2.1; have := HZ.out; omega) hBw).mono ?_
      rintro e w3 ⟨rfl, h3, hb3⟩
      have hBw3 : w.heap.size ≤ w3.heap.size := Nat.le_trans hBw hb3.size
      have H3 := Aside0.mk h3
      have Hb3 := Aside0.mk hb3
      clear h3 hb3
      go_wp2_with fail
      refine (Any.Builder_WriteString { Tryd.lays154 with } Tryd.Builder_Extra_154 w.heap.size w.heap.size _ ⟨#[45]⟩ w3 (Or.inr H3.out) (by rw [List.length_append, Lib.byteCells_length, Lib.strCells_length, ByteArray.size_extract, show (⟨#[45]⟩ : ByteArray).size = 1 from rfl]; have := HE.out.2.1; have := HZ.out; omega) hBw3).mono ?_
      rintro e w4 ⟨rfl, h4, hb4⟩
      rw [Lib.strCells_eq, Lib.strCells_eq, Lib.extract_data, Nat.add_sub_cancel_left, ← Lib.byteCells_append, ← Lib.byteCells_append] at h4
      rw [show acc ++ (s.data.toList.drop start).take i ++ (⟨#[45]⟩ : ByteArray).data.toList = s.data.toList.take i ++ [45] by rw [HE.out.2.1, HE.out.2.2]; simp] at h4
      have H4 := Aside0.mk (Or.inr h4 : Lib.IsBuilder 105 5 w.heap.size w.heap.size _ w4)
      have Hb4 := Aside0.mk ((HW.out.trans Hb3.out).trans hb4)
      clear h4 hb4
      go_wp2
      go_roundg g
      case measure => omega
      case rel => exact ⟨i0 + 1, start + i + 1, _, by first | rfl | (simp; unfold wrap64; omega), by first | rfl | simp | (simp; unfold wrap64; omega), by omega, by have := HE.out.2.1; omega, by have := HE.out.2.1; simp; omega, H4, Hb4, ⟨.inr ⟨by have := HE.out.1; omega, by have := HE.out.2.1; omega, rfl⟩⟩⟩
def strings_Replace.f (a0 a1 a2 : ByteArray) (a3 : Int) : Option ByteArray := if a0.size < 1000000 ∧ a1 = ⟨#[47]⟩ ∧ a2 = ⟨#[45]⟩ ∧ a3 = 1 ∧ 0 ≤ Lib.indexByte a0.data.toList 47 then some (dashAt a0 (Lib.indexByte a0.data.toList 47).toNat) else none
theorem strings_Replace.calls (a0 a1 a2 : ByteArray) (a3 : Int) (r : ByteArray) (w : World) (h : strings_Replace.f a0 a1 a2 a3 = some r) :
    Calls Tryd.prog 97 #[.string a0, .string a1, .string a2, .int .i64 a3] w fun e w' => e = .returned (.string r) ∧ Below w.heap.size w w' := by
  unfold strings_Replace.f at h
  split at h
  · rename_i hg
    obtain ⟨g1, rfl, rfl, rfl, g5⟩ := hg
    obtain rfl := Option.some.inj h
    exact replace_any a0 _ g1 (by omega) w
  · cases h
def strings_Cut.f (a0 a1 : ByteArray) : Option (ByteArray × ByteArray × Bool) := if a0.size < 4294967281 then match a1.data.toList with | [c] => some (cutB c a0) | _ => none else none
theorem strings_Cut.calls (a0 a1 r1 r2 : ByteArray) (r3 : Bool) (w : World) (h : strings_Cut.f a0 a1 = some (r1, r2, r3)) :
    Calls Tryd.prog 82 #[.string a0, .string a1] w fun e w' => e = .returned (.tuple #[.string r1, .string r2, .bool r3]) ∧ Below w.heap.size w w' := by
  unfold strings_Cut.f at h
  split at h
  · rename_i hz
    split at h
    · rename_i c hc
      have e := Option.some.inj h
      have ha : a1 = ⟨#[c]⟩ := data_ext (by rw [hc])
      subst ha
      refine (cut_one a0 c w hz).mono fun e' w' ⟨h1, ⟨m, h2⟩⟩ => ⟨?_, ?_⟩
      · rw [h1, e]
      · rw [h2]; exact pw_below_drewN (Below.refl _ _) _
    · cases h
  · cases h
end Go.Proofs.YtcdopgkkieenjaaDoor.V
end

-- ICidrW
section
/- (cidr.Net).Last by hand, in the print's own form. -/
namespace Go.Proofs.YtcdopgkkieenjaaDoor.V
open Go.RowKit Go.Proofs.YtcdopgkkieenjaaDoorW.PrintWords Go.Proofs.YtcdopgkkieenjaaDoorW.PrintLast Go.Proofs.YtcdopgkkieenjaaDoorW.PrintMore
set_option linter.unusedVariables false
set_option linter.unusedSimpArgs false

def netC (a b : Int) : List Value := [.int .u32 a, .int .i64 b]
def netLast.T3 : Bool × List (List Nat × List Nat) := (true, [([], []), ([0], [0]), ([], []), ([2], [2]), ([3], [3]), ([4], [4]), ([1, 5], [1, 5]), ([6, 4, 0, 1, 2, 3, 4, 5, 6], [6])])
def netLast.B3 : List Nat := [0, 1, 0, 4, 12, 28, 63, 127]
theorem netLast.tab3 : rtab .any (opsOf Tryd.f49 3) = netLast.T3 := by kernel_rfl
theorem netLast.bits3 : waitsOk netLast.T3.2 netLast.B3 = true := by kernel_rfl
def cidr_Net_Last.f (a0_0 a0_1 : Int) : Option Int := (cidr_May.f a0_0 a0_1).bind fun t => if t = true then (cidr_Mask.f a0_1).bind fun m => some (Go.bits .or .u32 a0_0 (Go.bits .xor .u32 IntKind.u32.max m)) else some 0
set_option maxHeartbeats 2000000 in
set_option maxRecDepth 100000 in
theorem cidr_Net_Last.calls (a0_0 a0_1 r : Int) (w : World) (h : cidr_Net_Last.f a0_0 a0_1 = some r) :
    Calls Tryd.prog 49 #[.agg #[.int .u32 a0_0, .int .i64 a0_1]] w fun e w' => e = .returned (.int .u32 r) ∧ Below w.heap.size w w' := by
  unfold cidr_Net_Last.f at h
  obtain ⟨t, h1, h⟩ := Option.bind_eq_some_iff.1 h
  have H1 := Aside0.mk h1
  clear h1
  cases t with
  | false =>
    have hr : (0 : Int) = r := by simpa using h
    subst hr
    clear h
    go_enter Tryd.func49, Tryd.ntmps49
    go_wp2_with (first
      | (refine step_box rfl 46 (.tmp 0) rfl (netC a0_0 a0_1) rfl ?_; intro g3 W3 hg3 HB3 hb3)
      | (refine step_load rfl _ (.tmp 1) rfl g3 rfl _ _ _ HB3 Tryd.underlying46 rfl 2 (by kernel_rfl) rfl ?_)
      | (go_at_call 34; refine (cidr_May.calls _ _ _ _ H1.out).mono ?_; rintro e W4 ⟨rfl, hb4⟩))
    go_ret
    exact ⟨rfl, hb3.trans (hb4.mono hb3.size)⟩
  | true =>
    rw [if_pos rfl] at h
    obtain ⟨m, h2, h⟩ := Option.bind_eq_some_iff.1 h
    have hr := Option.some.inj h
    have HM := Aside0.mk h2
    have HR := Aside0.mk hr
    clear h h2 hr
    go_enter Tryd.func49, Tryd.ntmps49
    go_wp2_with (first
      | (refine step_box rfl 46 (.tmp 0) rfl (netC a0_0 a0_1) rfl ?_; intro g3 W3 hg3 HB3 hb3)
      | (refine step_load rfl _ (.tmp 1) rfl g3 rfl _ _ _ HB3 Tryd.underlying46 rfl 2 (by kernel_rfl) rfl ?_)
      | (go_at_call 34; refine (cidr_May.calls _ _ _ _ H1.out).mono ?_; rintro e W4 ⟨rfl, hb4⟩; have HB4 := Aside0.mk (HB3.below hb4); have HBB := Aside0.mk (hb3.trans (hb4.mono hb3.size)); clear HB3 hb3 hb4))
    refine start_ (n := 8) (S := fun w' => w'.cell? ⟨g3, 0, none⟩ = some (.int .u32 a0_0) ∧ w'.cell? ⟨g3, 1, none⟩ = some (.int .i64 a0_1)) (ds := []) #[false, false, false, false, false, false, false, false] (by kernel_rfl) rfl rfl ⟨HB4.out.cell 0 _ rfl, HB4.out.cell 1 _ rfl⟩ (fun hHeld => ?_); refine with_tabW netLast.tab3 netLast.bits3 (fun HT_ HW_ => ?_)
    refine pure_ (i := 0) (N := some 6) (v := ?_) (a' := ?_) #[true, false, false, false, false, false, false, false] rfl rfl (any_of HT_.out (by kernel_rfl)) (fun _ _ _ h => h) (Or.inl ⟨by rfl, ?_⟩) ?_ ?_
    rotate_left
    · intro w'
      go_simp
      with_reducible rfl
    rotate_left
    · simp only [Act.put, List.setIfInBounds_toArray, List.set_cons_zero, List.set_cons_succ, i64_w, i32_w]
      rfl
    refine take_ (i := 1) (N := some 7) (v := ?_) (a' := ?_) #[true, true, false, false, false, false, false, false] rfl rfl (take_ofW HT_.out HW_.out (by kernel_rfl)) (fun _ _ _ h => h) (Or.inl ⟨by rfl, ?_⟩) hHeld ?_ ?_
    rotate_left
    · intro w' hS_
      obtain ⟨s0, s1⟩ := hS_
      go_simp
      with_reducible rfl
    rotate_left
    · simp only [Act.put, List.setIfInBounds_toArray, List.set_cons_zero, List.set_cons_succ, i64_w, i32_w]
      rfl
    refine pure_ (i := 2) (N := some 8) (v := ?_) (a' := ?_) #[true, true, true, false, false, false, false, false] rfl rfl (any_of HT_.out (by kernel_rfl)) (fun _ _ _ h => h) (Or.inl ⟨by rfl, ?_⟩) ?_ ?_
    rotate_left
    · intro w'
      go_simp
      with_reducible rfl
    rotate_left
    · simp only [Act.put, List.setIfInBounds_toArray, List.set_cons_zero, List.set_cons_succ, i64_w, i32_w]
      rfl
    refine take_ (i := 3) (N := some 9) (v := ?_) (a' := ?_) #[true, true, true, true, false, false, false, false] rfl rfl (take_ofW HT_.out HW_.out (by kernel_rfl)) (fun _ _ _ h => h) (Or.inl ⟨by rfl, ?_⟩) hHeld ?_ ?_
    rotate_left
    · intro w' hS_
      obtain ⟨s0, s1⟩ := hS_
      go_simp
      with_reducible rfl
    rotate_left
    · simp only [Act.put, List.setIfInBounds_toArray, List.set_cons_zero, List.set_cons_succ, i64_w, i32_w]
      rfl
    refine one_ (i := 4) (N := some 10) #[true, true, true, true, true, false, false, false] rfl rfl (one_of HT_.out (by kernel_rfl)) (by decide) (fun K hK => ?_)
    refine goes_ Tryd.func54 (by kernel_rfl) rfl #[.int .i64 a0_1] (by rfl) rfl rfl (by (try simp only [List.map_toArray, List.map_cons, List.map_nil]); first | done | rfl) ?_
    refine (cidr_Mask.calls a0_1 m _ HM.out).mono ?_
    rintro e W5 ⟨rfl, hb5⟩
    refine ⟨_, rfl, ?_⟩
    have HB5 := Aside0.mk ((show Box W4.drew g3 (netC a0_0 a0_1) _ from HB4.out).below hb5); have HBC := Aside0.mk (below_step (below_drew1 HBB.out) hb5); clear hb5
    refine hK.out _ _ ⟨HB5.out.cell 0 _ rfl, HB5.out.cell 1 _ rfl⟩ (fun hHeld => ?_)
    clear hK K
    refine norm_ (a' := ?_) ?_ ?_
    rotate_left
    · show Act.put _ (some 10) _ = _
      simp only [Act.put, List.setIfInBounds_toArray, List.set_cons_zero, List.set_cons_succ, i64_w, i32_w]
      rfl
    refine pure_ (i := 5) (N := some 11) (v := ?_) (a' := ?_) #[true, true, true, true, true, true, false, false] rfl rfl (any_of HT_.out (by kernel_rfl)) (fun _ _ _ h => h) (Or.inl ⟨by rfl, ?_⟩) ?_ ?_
    rotate_left
    · intro w'
      go_simp
      with_reducible rfl
    rotate_left
    · simp only [Act.put, List.setIfInBounds_toArray, List.set_cons_zero, List.set_cons_succ, i64_w, i32_w]
      rfl
    refine pure_ (i := 6) (N := some 12) (v := ?_) (a' := ?_) #[true, true, true, true, true, true, true, false] rfl rfl (any_of HT_.out (by kernel_rfl)) (fun _ _ _ h => h) (Or.inl ⟨by rfl, ?_⟩) ?_ ?_
    rotate_left
    · intro w'
      go_simp
      with_reducible rfl
    rotate_left
    · simp only [Act.put, List.setIfInBounds_toArray, List.set_cons_zero, List.set_cons_succ, i64_w, i32_w]
      rfl
    refine pure_ (i := 7) (N := some 2) (v := ?_) (a' := ?_) #[true, true, true, true, true, true, true, true] rfl rfl (any_of HT_.out (by kernel_rfl)) (fun _ _ _ h => h) (Or.inl ⟨by rfl, ?_⟩) ?_ ?_
    rotate_left
    · intro w'
      go_simp
      with_reducible rfl
    rotate_left
    · simp only [Act.put, List.setIfInBounds_toArray, List.set_cons_zero, List.set_cons_succ, i64_w, i32_w]
      rfl
    refine done_ (done_of HT_.out (by kernel_rfl)) ?_
    try go_wp2
    go_ret
    refine ⟨?_, HBC.out⟩
    rw [← HR.out]
    rfl
end Go.Proofs.YtcdopgkkieenjaaDoor.V
end

-- ICidrX
section
/- cidr.Parse by hand. -/
namespace Go.Proofs.YtcdopgkkieenjaaDoor.V
open Go.RowKit Go.Proofs.YtcdopgkkieenjaaDoorW.PrintWords Go.Proofs.YtcdopgkkieenjaaDoorW.PrintLast Go.Proofs.YtcdopgkkieenjaaDoorW.PrintMore
set_option linter.unusedVariables false
set_option linter.unusedSimpArgs false

theorem ipOfP_lt {ps : List (List UInt8)} {v : Nat} (h : ipOfP ps = some v) : v < 4294967296 := by
  have lt : ∀ p x, byteOf p = some x → x < 256 := fun p x h => (byteOf_some h).1
  match ps, h with
  | [a, b, c, d], h =>
    simp only [ipOfP] at h
    obtain ⟨x, hx, h⟩ := Option.bind_eq_some_iff.1 h
    obtain ⟨y, hy, h⟩ := Option.bind_eq_some_iff.1 h
    obtain ⟨z, hz, h⟩ := Option.bind_eq_some_iff.1 h
    obtain ⟨u, hu, h⟩ := Option.bind_eq_some_iff.1 h
    have := lt _ _ hx; have := lt _ _ hy; have := lt _ _ hz; have := lt _ _ hu
    have := Option.some.inj h
    omega
theorem parseR_cases (s : ByteArray) : (∃ v : Nat, v < 4294967296 ∧ ipOf s.data.toList = some v ∧ parseR s = ((v : Int), 0)) ∨ (ipOf s.data.toList = none ∧ parseR s = (0, 3)) := by
  unfold parseR
  cases h : ipOf s.data.toList with
  | some v => exact .inl ⟨v, ipOfP_lt h, rfl, rfl⟩
  | none => exact .inr ⟨rfl, rfl⟩
theorem cutB_size (c : UInt8) (s : ByteArray) : (cutB c s).1.size ≤ s.size ∧ (cutB c s).2.1.size ≤ s.size := by
  unfold cutB
  split
  · exact ⟨Nat.le_refl _, Nat.zero_le _⟩
  · simp only [ByteArray.size_extract]
    omega
def cidrParse.T9 : Bool × List (List Nat × List Nat) := (true, [([], []), ([0], [0]), ([1], [1]), ([], []), ([], []), ([3, 4], [3, 4]), ([5], [5]), ([2, 6], [2, 6]), ([7], [7]), ([0, 1, 2, 3, 4, 5, 6, 7, 8], []), ([9, 8, 0, 1, 2, 3, 4, 5, 6, 7, 8], [8, 9])])
def cidrParse.B9 : List Nat := [0, 1, 3, 0, 0, 24, 56, 127, 255, 511, 1023]
theorem cidrParse.tab9 : rtab .any (opsOf Tryd.f37 9) = cidrParse.T9 := by kernel_rfl
theorem cidrParse.bits9 : waitsOk cidrParse.T9.2 cidrParse.B9 = true := by kernel_rfl
set_option maxHeartbeats 4000000 in
set_option maxRecDepth 100000 in
theorem cparse_any (s : ByteArray) (hs : s.size < 4294967281) (w : World) :
    Calls Tryd.prog 37 #[.string s] w fun e w' => e = .returned (.tuple #[.agg #[.int .u32 (cidrR s).1, .int .i64 (cidrR s).2.1], .int .i64 (cidrR s).2.2]) ∧ Below w.heap.size w w' := by
  have hcut := fun w => cut_one s 47 w hs
  have hsz := cutB_size 47 s
  have hR : cidrR s = cidrR s := rfl
  conv at hR => rhs; unfold cidrR
  generalize cutB 47 s = q at hcut hsz hR
  obtain ⟨a, b, ok⟩ := q
  have hpar := fun w => parse_any a (by simp at hsz; omega) w
  have hpc := parseR_cases a
  generalize parseR a = pr at hpar hpc hR
  obtain ⟨ad, er⟩ := pr
  simp only at hcut hpar hR
  by_cases hgood : ok = true ∧ er = 0 ∧ 1 ≤ b.size ∧ b.size ≤ 2
  · obtain ⟨rfl, rfl, hb1, hb2⟩ := hgood
    obtain ⟨v, hv, rfl⟩ : ∃ v : Nat, v < 4294967296 ∧ ad = v := by
      rcases hpc with ⟨v, hv, _, e⟩ | ⟨_, e⟩
      · exact ⟨v, hv, by simpa using (Prod.mk.inj e).1⟩
      · simp at e
    have HP := Aside0.mk (print_f v hv (numB b b.size) 8 (by omega))
    have HV := Aside0.mk hv
    have hb0 : (b.toList == ([] : List UInt8)) = false := by
      rw [Lib.toList_data]
      cases hd : b.data.toList with
      | nil => have := data_length b; rw [hd] at this; simp at this; omega
      | cons x l => rfl
    have hb2' : decide ((b.size : Int) > 2) = false := by simp; omega
    go_enter Tryd.func37, Tryd.ntmps37
    go_wp2_with (first
      | (refine step_allocN (some 2) rfl rfl 46 rfl [.int .u32 0, .int .i64 0] (fun _ => by kernel_rfl) ?_; intro g2 W2 hg2 HB2 hbw2)
      | (refine step_allocN (some 9) rfl rfl 46 rfl [.int .u32 0, .int .i64 0] (fun _ => by kernel_rfl) ?_; intro g9 W5 hg9 HB9 hbw5)
      | (refine step_store rfl 46 (.tmp 9) (.tmp 39) rfl g9 [.int .u32 (v : Int), .int .i64 0] rfl rfl _ _ HB9 2 (by kernel_rfl) rfl rfl (by intro x hx; simp at hx; rcases hx with rfl | rfl <;> rfl) ?_; intro W6 HB6 hg6)
      | (go_at_call 82; refine (hcut _).mono ?_; rintro e W3 ⟨rfl, ⟨nd, rfl⟩⟩)
      | (go_at_call 19; refine (hpar _).mono ?_; rintro e W4 ⟨rfl, hb4⟩))
    have hlt2 := HB2.lt
    have hne : g2 ≠ g9 := by have := hb4.size; have : W2.heap.size ≤ W4.heap.size := hb4.size; omega
    have HB2' := Aside0.mk ((((HB2.drewN nd).below hb4).below hbw5).grown hg6 (by intro h; cases h; exact hne rfl))
    have hsz4 : w.heap.size ≤ W4.heap.size := Nat.le_trans hbw2.size hb4.size
    have HBB := Aside0.mk ((below_step (below_step (pw_below_drewN hbw2 nd) hb4) hbw5).grown hg6 (Nat.le_trans hsz4 hbw5.size) (by intro k hk; cases hk; omega))
    have H9 := Aside0.mk HB6
    have G9 := Aside0.mk (show w.heap.size ≤ g9 by omega)
    have G2 := Aside0.mk hg2
    have NE := Aside0.mk hne
    have HR := Aside0.mk hR
    have HZ := Aside0.mk (And.intro hb1 hb2)
    clear hlt2 hne hsz4 HB2 hbw2 hb4 hbw5 hg6 HB6 HB9 hg9 hg2 hR hcut hpar hpc hb1 hb2
    go_loopw [42] (fun i W => ∃ j : Nat, j ≤ b.size ∧ i = .int .i64 j ∧ Aside0 (Box W g9 [.int .u32 (v : Int), .int .i64 (numB b j)] 46) ∧ Aside0 (Box W g2 [.int .u32 0, .int .i64 0] 46) ∧ Aside0 (Below w.heap.size w W)) (fun i _ => b.size - (intOf i).toNat)
    case atStart => exact ⟨0, by omega, rfl, H9, HB2', HBB⟩
    case round =>
      clear H9 HB2' HBB
      obtain ⟨j, hj, rfl, H9, H2, HBB⟩ := hrel
      obtain ⟨W, rfl⟩ : ∃ W : World, W = wr := ⟨_, rfl⟩
      by_cases hj2 : j < b.size
      · have hjb : decide ((j : Int) < (b.size : Int)) = true := by simp; omega
        have hx := bt_at b (j : Int)
        have hy := bt_range b (j : Int)
        have hn : -48 ≤ numB b j ∧ numB b j ≤ 207 := by
          have h2 := HZ.out.2
          have hy0 := bt_range b ((0 : Nat) : Int)
          match j, hj2 with
          | 0, _ => simp [numB]
          | 1, _ => simp only [numB]; omega
          | j + 2, h => omega
        have HS := Aside0.mk (show numB b (j + 1) = 10 * numB b j + bt b (j : Int) - 48 from rfl)
        have HC := Aside0.mk (And.intro (H9.out.cell 1 _ rfl) (H9.out.frozen 1))
        obtain ⟨x, hxe⟩ : ∃ x, numB b j = x := ⟨_, rfl⟩
        obtain ⟨y, hye⟩ : ∃ y, bt b (j : Int) = y := ⟨_, rfl⟩
        rw [hxe] at hn HC H9 HS
        rw [hye] at hx hy HS
        have HW := Aside0.mk (show wrap64 (wrap64 (wrap64 (10 * x) + wrap64 ((b[j]'hj2).toNat : Int)) - 48) = 10 * x + y - 48 by
          rw [show ((b[j]'hj2).toNat : Int) = y from hx hj2, wrap64_id y (by omega) (by omega), wrap64_id (10 * x) (by omega) (by omega), wrap64_id (10 * x + y) (by omega) (by omega), wrap64_id (10 * x + y - 48) (by omega) (by omega)])
        go_wp2
        refine start_ (n := 11) (S := fun w' => w'.cell? ⟨g9, 1, none⟩ = some (.int .i64 x) ∧ w'.frozen? ⟨g9, 1, none⟩ = false) (ds := [10]) #[false, false, false, false, false, false, false, false, false, false, false] (by kernel_rfl) rfl rfl HC.out (fun hHeld => ?_); refine with_tabW cidrParse.tab9 cidrParse.bits9 (fun HT_ HW_ => ?_)
        refine pure_ (i := 0) (N := some 45) (v := ?_) (a' := ?_) #[true, false, false, false, false, false, false, false, false, false, false] rfl rfl (any_of HT_.out (by kernel_rfl)) (fun _ _ _ h => h) (Or.inl ⟨by rfl, ?_⟩) ?_ ?_
        rotate_left
        · intro w'
          go_simp
          with_reducible rfl
        rotate_left
        · simp only [Act.put, List.setIfInBounds_toArray, List.set_cons_zero, List.set_cons_succ, i64_w, i32_w]
          rfl
        refine take_ (i := 1) (N := some 46) (v := ?_) (a' := ?_) #[true, true, false, false, false, false, false, false, false, false, false] rfl rfl (take_ofW HT_.out HW_.out (by kernel_rfl)) (fun _ _ _ h => h) (Or.inl ⟨by rfl, ?_⟩) hHeld ?_ ?_
        rotate_left
        · intro w' hS_
          obtain ⟨s0, s1⟩ := hS_
          go_simp
          with_reducible rfl
        rotate_left
        · simp only [Act.put, List.setIfInBounds_toArray, List.set_cons_zero, List.set_cons_succ, i64_w, i32_w]
          rfl
        refine pure_ (i := 2) (N := some 47) (v := ?_) (a' := ?_) #[true, true, true, false, false, false, false, false, false, false, false] rfl rfl (any_of HT_.out (by kernel_rfl)) (fun _ _ _ h => h) (Or.inl ⟨by rfl, ?_⟩) ?_ ?_
        rotate_left
        · intro w'
          go_simp
          with_reducible rfl
        rotate_left
        · simp only [Act.put, List.setIfInBounds_toArray, List.set_cons_zero, List.set_cons_succ, i64_w, i32_w]
          rfl
        refine pure_ (i := 3) (N := some 48) (v := ?_) (a' := ?_) #[true, true, true, true, false, false, false, false, false, false, false] rfl rfl (any_of HT_.out (by kernel_rfl)) (fun _ _ _ h => h) (Or.inl ⟨by rfl, ?_⟩) ?_ ?_
        rotate_left
        · intro w'
          go_simp
          with_reducible rfl
        rotate_left
        · simp only [Act.put, List.setIfInBounds_toArray, List.set_cons_zero, List.set_cons_succ, i64_w, i32_w]
          rfl
        refine pure_ (i := 4) (N := some 49) (v := ?_) (a' := ?_) #[true, true, true, true, true, false, false, false, false, false, false] rfl rfl (any_of HT_.out (by kernel_rfl)) (fun _ _ _ h => h) (Or.inl ⟨by rfl, ?_⟩) ?_ ?_
        rotate_left
        · intro w'
          go_simp
          with_reducible rfl
        rotate_left
        · simp only [Act.put, List.setIfInBounds_toArray, List.set_cons_zero, List.set_cons_succ, i64_w, i32_w]
          rfl
        refine pure_ (i := 5) (N := some 50) (v := ?_) (a' := ?_) #[true, true, true, true, true, true, false, false, false, false, false] rfl rfl (any_of HT_.out (by kernel_rfl)) (fun _ _ _ h => h) (Or.inl ⟨by rfl, ?_⟩) ?_ ?_
        rotate_left
        · intro w'
          go_simp
          with_reducible rfl
        rotate_left
        · simp only [Act.put, List.setIfInBounds_toArray, List.set_cons_zero, List.set_cons_succ, i64_w, i32_w]
          rfl
        refine pure_ (i := 6) (N := some 51) (v := ?_) (a' := ?_) #[true, true, true, true, true, true, true, false, false, false, false] rfl rfl (any_of HT_.out (by kernel_rfl)) (fun _ _ _ h => h) (Or.inl ⟨by rfl, ?_⟩) ?_ ?_
        rotate_left
        · intro w'
          go_simp
          with_reducible rfl
        rotate_left
        · simp only [Act.put, List.setIfInBounds_toArray, List.set_cons_zero, List.set_cons_succ, i64_w, i32_w]
          rfl
        refine pure_ (i := 7) (N := some 52) (v := ?_) (a' := ?_) #[true, true, true, true, true, true, true, true, false, false, false] rfl rfl (any_of HT_.out (by kernel_rfl)) (fun _ _ _ h => h) (Or.inl ⟨by rfl, ?_⟩) ?_ ?_
        rotate_left
        · intro w'
          go_simp
          with_reducible rfl
        rotate_left
        · simp only [Act.put, List.setIfInBounds_toArray, List.set_cons_zero, List.set_cons_succ, i64_w, i32_w]
          rfl
        refine pure_ (i := 8) (N := some 53) (v := ?_) (a' := ?_) #[true, true, true, true, true, true, true, true, true, false, false] rfl rfl (any_of HT_.out (by kernel_rfl)) (fun _ _ _ h => h) (Or.inl ⟨by rfl, ?_⟩) ?_ ?_
        rotate_left
        · intro w'
          go_simp
          with_reducible rfl
        rotate_left
        · simp only [Act.put, List.setIfInBounds_toArray, List.set_cons_zero, List.set_cons_succ, i64_w, i32_w]
          rfl
        refine pure_ (i := 9) (N := some 54) (v := ?_) (a' := ?_) #[true, true, true, true, true, true, true, true, true, true, false] rfl rfl (any_of HT_.out (by kernel_rfl)) (fun _ _ _ h => h) (Or.inl ⟨by rfl, ?_⟩) ?_ ?_
        rotate_left
        · intro w'
          go_simp
          with_reducible rfl
        rotate_left
        · simp only [Act.put, List.setIfInBounds_toArray, List.set_cons_zero, List.set_cons_succ, i64_w, i32_w]
          rfl
        refine last_ (i := 10) (N := none) #[true, true, true, true, true, true, true, true, true, true, true] rfl rfl (one_of HT_.out (by kernel_rfl)) (by decide) (fun K hK => ?_)
        obtain ⟨s0_, s1_⟩ := hHeld
        refine skip_ (w1 := ?_) (by rfl) rfl ?_ ?_
        rotate_left
        · go_simp
          rfl
        refine hK.out _ _ ?_
        clear hK K
        refine done_ (done_of HT_.out (by kernel_rfl)) ?_
        rw [HW.out]
        go_wp2
        refine ⟨⟨j + 1, by omega, by go_num, ⟨?_⟩, ⟨(H2.out.far (by simpa using NE.out) _)⟩, ⟨below_drew1 (HBB.out.setCell (by simpa using G9.out) _)⟩⟩, by simp [intOf]; omega⟩
        rw [HS.out]
        exact H9.out.set 1 _
      · have hjb : decide ((j : Int) < (b.size : Int)) = false := by simp; omega
        obtain rfl : j = b.size := by omega
        have hlz := HZ.out
        by_cases hq : netText v (numB b b.size) = s
        · have HE := Aside0.mk (show cidrR s = ((v : Int), numB b b.size, 0) by rw [HR.out]; simp [hq, hlz.1, hlz.2])
          have hqb : ((netText v (numB b b.size)).toList == s.toList) = true := by rw [hq]; simp
          go_wp2_with (first
            | (refine step_load rfl _ (.tmp 9) rfl g9 rfl _ _ _ H9.out Tryd.underlying46 rfl 2 (by kernel_rfl) rfl ?_)
            | (go_at_call 32; refine (cidr_Print.calls 8 _ _ _ _ HP.out).mono ?_; rintro e W7 ⟨rfl, hb7⟩; have H97 := Aside0.mk (H9.out.below hb7); have H27 := Aside0.mk (H2.out.below hb7); have HB7 := Aside0.mk (below_step HBB.out hb7); clear hb7)
            | (refine step_load rfl _ (.tmp 9) rfl g9 rfl _ _ _ H97.out Tryd.underlying46 rfl 2 (by kernel_rfl) rfl ?_)
            | (refine step_store rfl 46 (.tmp 2) (.tmp 61) rfl g2 _ rfl rfl _ _ H27.out 2 (by kernel_rfl) rfl rfl (by intro x hx; simp at hx; rcases hx with rfl | rfl <;> rfl) ?_; intro W8 HB8 hg8))
          exact bodyPost_ret (results_ct rfl _ _ g2 46 _ (0, 0) _ rfl HB8 Tryd.underlying46 rfl (by kernel_rfl)) rfl ⟨by rw [HE.out]; rfl, HB7.out.grown hg8 HB7.out.size (by intro k hk; cases hk; exact G2.out)⟩
        · have HE := Aside0.mk (show cidrR s = (0, 0, 3) by rw [HR.out]; simp [hq])
          have hqb : ((netText v (numB b b.size)).toList == s.toList) = false := by
            simp only [beq_eq_false_iff_ne, ne_eq]
            intro h
            exact hq (data_ext (of_toList h))
          go_wp2_with (first
            | (refine step_load rfl _ (.tmp 9) rfl g9 rfl _ _ _ H9.out Tryd.underlying46 rfl 2 (by kernel_rfl) rfl ?_)
            | (go_at_call 32; refine (cidr_Print.calls 8 _ _ _ _ HP.out).mono ?_; rintro e W7 ⟨rfl, hb7⟩; have H97 := Aside0.mk (H9.out.below hb7); have H27 := Aside0.mk (H2.out.below hb7); have HB7 := Aside0.mk (below_step HBB.out hb7); clear hb7)
            | (refine step_store rfl 46 (.tmp 2) (.tmp 60) rfl g2 [.int .u32 0, .int .i64 0] rfl rfl _ _ H27.out 2 (by kernel_rfl) rfl rfl (by intro x hx; simp at hx; rcases hx with rfl | rfl <;> rfl) ?_; intro W8 HB8 hg8))
          exact bodyPost_ret (results_ct rfl _ _ g2 46 _ (0, 0) _ rfl HB8 Tryd.underlying46 rfl (by kernel_rfl)) rfl ⟨by rw [HE.out]; rfl, HB7.out.grown hg8 HB7.out.size (by intro k hk; cases hk; exact G2.out)⟩
  · have HE := Aside0.mk (show cidrR s = (0, 0, 3) by rw [hR, if_neg (by rintro ⟨h1, h2, h3, h4, _⟩; exact hgood ⟨h1, h2, h3, h4⟩)])
    clear hR
    cases ok with
    | false =>
      go_enter Tryd.func37, Tryd.ntmps37
      go_wp2_with (first
        | (refine step_allocN (some 2) rfl rfl 46 rfl [.int .u32 0, .int .i64 0] (fun _ => by kernel_rfl) ?_; intro g2 W2 hg2 HB2 hbw2)
        | (go_at_call 82; refine (hcut _).mono ?_; rintro e W3 ⟨rfl, ⟨nd, rfl⟩⟩)
        | (go_at_call 19; refine (hpar _).mono ?_; rintro e W4 ⟨rfl, hb4⟩)
        | (refine step_store rfl 46 (.tmp 2) (.tmp 37) rfl g2 [.int .u32 0, .int .i64 0] rfl rfl _ _ ((HB2.drewN nd).below hb4) 2 (by kernel_rfl) rfl rfl (by intro x hx; simp at hx; rcases hx with rfl | rfl <;> rfl) ?_; intro W8 HB8 hg8))
      exact bodyPost_ret (results_ct rfl _ _ g2 46 _ (0, 0) _ rfl HB8 Tryd.underlying46 rfl (by kernel_rfl)) rfl ⟨by rw [HE.out]; rfl, (below_step (pw_below_drewN hbw2 nd) hb4).grown hg8 (Nat.le_trans hbw2.size hb4.size) (by intro k hk; cases hk; exact hg2)⟩
    | true =>
      rcases hpc with ⟨v, hv, _, e⟩ | ⟨_, e⟩
      · obtain ⟨rfl, rfl⟩ := Prod.mk.inj e
        by_cases h0 : b.size = 0
        · have hb0 : (b.toList == ([] : List UInt8)) = true := by
            rw [Lib.toList_data]
            cases hd : b.data.toList with
            | nil => rfl
            | cons x l => have := data_length b; rw [hd] at this; simp at this; omega
          go_enter Tryd.func37, Tryd.ntmps37
          go_wp2_with (first
            | (refine step_allocN (some 2) rfl rfl 46 rfl [.int .u32 0, .int .i64 0] (fun _ => by kernel_rfl) ?_; intro g2 W2 hg2 HB2 hbw2)
            | (go_at_call 82; refine (hcut _).mono ?_; rintro e W3 ⟨rfl, ⟨nd, rfl⟩⟩)
            | (go_at_call 19; refine (hpar _).mono ?_; rintro e W4 ⟨rfl, hb4⟩)
            | (refine step_store rfl 46 (.tmp 2) (.tmp 37) rfl g2 [.int .u32 0, .int .i64 0] rfl rfl _ _ ((HB2.drewN nd).below hb4) 2 (by kernel_rfl) rfl rfl (by intro x hx; simp at hx; rcases hx with rfl | rfl <;> rfl) ?_; intro W8 HB8 hg8))
          exact bodyPost_ret (results_ct rfl _ _ g2 46 _ (0, 0) _ rfl HB8 Tryd.underlying46 rfl (by kernel_rfl)) rfl ⟨by rw [HE.out]; rfl, (below_step (pw_below_drewN hbw2 nd) hb4).grown hg8 (Nat.le_trans hbw2.size hb4.size) (by intro k hk; cases hk; exact hg2)⟩
        · have hb0 : (b.toList == ([] : List UInt8)) = false := by
            rw [Lib.toList_data]
            cases hd : b.data.toList with
            | nil => have := data_length b; rw [hd] at this; simp at this; omega
            | cons x l => rfl
          have hb2' : decide ((b.size : Int) > 2) = true := by
            simp
            by_cases h3 : b.size ≤ 2
            · exact absurd ⟨rfl, rfl, by omega, h3⟩ hgood
            · omega
          go_enter Tryd.func37, Tryd.ntmps37
          go_wp2_with (first
            | (refine step_allocN (some 2) rfl rfl 46 rfl [.int .u32 0, .int .i64 0] (fun _ => by kernel_rfl) ?_; intro g2 W2 hg2 HB2 hbw2)
            | (go_at_call 82; refine (hcut _).mono ?_; rintro e W3 ⟨rfl, ⟨nd, rfl⟩⟩)
            | (go_at_call 19; refine (hpar _).mono ?_; rintro e W4 ⟨rfl, hb4⟩)
            | (refine step_store rfl 46 (.tmp 2) (.tmp 37) rfl g2 [.int .u32 0, .int .i64 0] rfl rfl _ _ ((HB2.drewN nd).below hb4) 2 (by kernel_rfl) rfl rfl (by intro x hx; simp at hx; rcases hx with rfl | rfl <;> rfl) ?_; intro W8 HB8 hg8))
          exact bodyPost_ret (results_ct rfl _ _ g2 46 _ (0, 0) _ rfl HB8 Tryd.underlying46 rfl (by kernel_rfl)) rfl ⟨by rw [HE.out]; rfl, (below_step (pw_below_drewN hbw2 nd) hb4).grown hg8 (Nat.le_trans hbw2.size hb4.size) (by intro k hk; cases hk; exact hg2)⟩
      · obtain ⟨rfl, rfl⟩ := Prod.mk.inj e
        go_enter Tryd.func37, Tryd.ntmps37
        go_wp2_with (first
          | (refine step_allocN (some 2) rfl rfl 46 rfl [.int .u32 0, .int .i64 0] (fun _ => by kernel_rfl) ?_; intro g2 W2 hg2 HB2 hbw2)
          | (go_at_call 82; refine (hcut _).mono ?_; rintro e W3 ⟨rfl, ⟨nd, rfl⟩⟩)
          | (go_at_call 19; refine (hpar _).mono ?_; rintro e W4 ⟨rfl, hb4⟩)
          | (refine step_store rfl 46 (.tmp 2) (.tmp 37) rfl g2 [.int .u32 0, .int .i64 0] rfl rfl _ _ ((HB2.drewN nd).below hb4) 2 (by kernel_rfl) rfl rfl (by intro x hx; simp at hx; rcases hx with rfl | rfl <;> rfl) ?_; intro W8 HB8 hg8))
        exact bodyPost_ret (results_ct rfl _ _ g2 46 _ (0, 0) _ rfl HB8 Tryd.underlying46 rfl (by kernel_rfl)) rfl ⟨by rw [HE.out]; rfl, (below_step (pw_below_drewN hbw2 nd) hb4).grown hg8 (Nat.le_trans hbw2.size hb4.size) (by intro k hk; cases hk; exact hg2)⟩
end Go.Proofs.YtcdopgkkieenjaaDoor.V
end

-- ICidrMan
section
/- cidr.Parse in the print's own form. -/
namespace Go.Proofs.YtcdopgkkieenjaaDoor.V
open Go.RowKit Go.Proofs.YtcdopgkkieenjaaDoorW.PrintWords Go.Proofs.YtcdopgkkieenjaaDoorW.PrintLast Go.Proofs.YtcdopgkkieenjaaDoorW.PrintMore
set_option linter.unusedVariables false

def cidr_Parse.f (a0 : ByteArray) : Option (Int × Int × Int) := if a0.size < 4294967281 then some (cidrR a0) else none
theorem cidr_Parse.calls (a0 : ByteArray) (r1 r2 r3 : Int) (w : World) (h : cidr_Parse.f a0 = some (r1, r2, r3)) :
    Calls Tryd.prog 37 #[.string a0] w fun e w' => e = .returned (.tuple #[.agg #[.int .u32 r1, .int .i64 r2], .int .i64 r3]) ∧ Below w.heap.size w w' := by
  unfold cidr_Parse.f at h
  split at h
  · rename_i hr
    have e := Option.some.inj h
    refine (cparse_any a0 hr w).mono fun e' w' ⟨h1, h2⟩ => ⟨?_, h2⟩
    rw [h1, e]
  · cases h
end Go.Proofs.YtcdopgkkieenjaaDoor.V
end

-- VFCidrNetCount
section
-- PRINTED by print.py (a twelfth state) out of the translation. Not trusted: Lean checks it.
namespace Go.Proofs.YtcdopgkkieenjaaDoor.V
open Go.RowKit Go.Proofs.YtcdopgkkieenjaaDoorW.PrintWords Go.Proofs.YtcdopgkkieenjaaDoorW.PrintLast Go.Proofs.YtcdopgkkieenjaaDoorW.PrintMore
attribute [local go_sem] max2_int min2_int max_two min_two max_three min_three max_four min_four   -- for this text's walks alone
set_option linter.unusedVariables false
set_option linter.unusedSimpArgs false

/-! ### cidr_Net_Count: function 48 -/
def cidr_Net_Count.f (a0_0 : Int) (a0_1 : Int) (a1 : Int) : Option (Int) := (cidr_May.f a0_0 a0_1).bind fun t48102 => (if t48102 = true then (if a1 < a0_1 then (some 0) else (if a1 > 32 then (some 0) else (if 0 ≤ (wrap64 (a1 - a0_1)) then (some (shl .i64 1 (wrap64 (a1 - a0_1)))) else (none)))) else (some 0))
set_option maxHeartbeats 8000000 in
set_option maxRecDepth 100000 in
theorem cidr_Net_Count.calls (a0_0 : Int) (a0_1 : Int) (a1 : Int) (r : Int) (w : World) (h : cidr_Net_Count.f a0_0 a0_1 a1 = some r) :
    Calls Tryd.prog 48 #[.agg #[.int .u32 a0_0, .int .i64 a0_1], .int .i64 a1] w fun e w' => e = .returned (.int .i64 r) ∧ Below w.heap.size w w' := by
  have hu46 := Tryd.underlying46
  have HB := Aside0.mk (Below.refl w.heap.size w)
  have H : ((cidr_May.f a0_0 a0_1).bind fun t48102 => (if t48102 = true then (if a1 < a0_1 then (some 0) else (if a1 > 32 then (some 0) else (if 0 ≤ (wrap64 (a1 - a0_1)) then (some (shl .i64 1 (wrap64 (a1 - a0_1)))) else (none)))) else (some 0))) = some r := h
  clear h
  replace H := Option.bind_eq_some_iff.mp H
  obtain ⟨t48102, A30, H⟩ := H
  replace H : (if t48102 = true then (if a1 < a0_1 then (some 0) else (if a1 > 32 then (some 0) else (if 0 ≤ (wrap64 (a1 - a0_1)) then (some (shl .i64 1 (wrap64 (a1 - a0_1)))) else (none)))) else (some 0)) = some r := H
  have A3 := Aside0.mk A30
  clear A30
  by_cases c4 : t48102 = true
  · subst c4
    have H1 : (if a1 < a0_1 then (some 0) else (if a1 > 32 then (some 0) else (if 0 ≤ (wrap64 (a1 - a0_1)) then (some (shl .i64 1 (wrap64 (a1 - a0_1)))) else (none)))) = some r := by rw [if_pos rfl] at H; exact H
    clear H
    have H := H1
    clear H1
    by_cases c5 : a1 < a0_1
    · rw [if_pos c5] at H
      have c5b0 : decide (a1 < a0_1) = true := decide_eq_true c5
      clear c5
      obtain rfl := Option.some.inj H
      go_enter Tryd.func48, Tryd.ntmps48
      go_wp2_with (first | ((with_reducible refine gate_dst (N := 2) rfl ?_); refine box_event ?hg (N := 2) ?hd (cs := #[.int .u32 a0_0, .int .i64 a0_1]) (t := 46) ?hr ?_; (case hd => rfl); (case hg => rfl); (case hr => first | (go_simp; done) | (go_simp; rfl)); intro gb48101 hg w6 hbox hb; have n0_ := Aside0.mk (below_step (by repeat (first | (with_reducible first | exact HB.out | apply below_alloc | apply pw_below_drewN | apply below_drew1) | exact HB.out)) hb); have n1_ := Aside0.mk (hbox); have n2_ := Aside0.mk ((by rw [hg]; exact (below_size (by repeat (first | (with_reducible first | exact HB.out | apply below_alloc | apply pw_below_drewN | apply below_drew1) | exact HB.out))) : w.heap.size ≤ gb48101)); have n3_ := Aside0.mk ((by rw [hg]; exact (below_size (by repeat (first | (with_reducible first | exact HB.out | apply below_alloc | apply pw_below_drewN | apply below_drew1) | exact HB.out))) : w.heap.size ≤ gb48101)); clear HB; have HB := n0_; have BK48101 := n1_; have GW48101 := n2_; have GE48101 := n3_; clear n0_ n1_ n2_ n3_; clear hb hbox hg; have hcz7_0 : w6.cell? ⟨gb48101, 0, none⟩ = some (.int .u32 a0_0) := (blk_cell BK48101.out 0).trans rfl; have hcz7_1 : w6.cell? ⟨gb48101, 1, none⟩ = some (.int .i64 a0_1) := (blk_cell BK48101.out 1).trans rfl; have hfz7_0 := blk_frozen BK48101.out 0; have hfz7_1 := blk_frozen BK48101.out 1) | ((with_reducible refine gate_callee (f := 34) rfl ?_); refine goesL_ (some 6) rfl rfl Tryd.func34 (by kernel_rfl) rfl #[.agg #[.int .u32 a0_0, .int .i64 a0_1]] rfl (by (try simp only [List.map_toArray, List.map_cons, List.map_nil]); first | done | rfl | (simp only [List.length_drop, List.length_take]; rfl)) ?_; (with_reducible refine (cidr_May.calls a0_0 a0_1 true _ A3.out).mono ?_); rintro e w8 ⟨rfl, hb⟩; refine ⟨_, rfl, ?_⟩; have n0_ := Aside0.mk (blk_below (g := gb48101) (o := .cells #[.int .u32 a0_0, .int .i64 a0_1] 46 (0, 0)) (by (with_reducible repeat (first | refine blk_drewN ?_ _ | refine blk_drew ?_ | refine blk_alloc ?_ _)); exact BK48101.out) hb); have n1_ := Aside0.mk (below_step (by repeat (first | (with_reducible first | exact HB.out | apply below_alloc | apply pw_below_drewN | apply below_drew1 | refine below_set ?_ GE48101.out) | exact HB.out)) hb); clear BK48101; clear HB; have BK48101 := n0_; have HB := n1_; clear n0_ n1_; (try clear hb); (try clear hb2); (try clear hk); (try clear hi); have hcz9_0 : w8.cell? ⟨gb48101, 0, none⟩ = some (.int .u32 a0_0) := (blk_cell BK48101.out 0).trans rfl; have hcz9_1 : w8.cell? ⟨gb48101, 1, none⟩ = some (.int .i64 a0_1) := (blk_cell BK48101.out 1).trans rfl; have hfz9_0 := blk_frozen BK48101.out 0; have hfz9_1 := blk_frozen BK48101.out 1))
      go_ret
      exact ⟨by first | rfl | (simp [errW_none, errW_some] <;> rfl) | (simp [*, errW_none, errW_some] <;> rfl), by repeat (first | (with_reducible first | exact HB.out | apply below_alloc | apply pw_below_drewN | apply below_drew1 | refine below_set ?_ GE48101.out) | exact HB.out)⟩
    · rw [if_neg c5] at H
      have c5b0 : decide (a1 < a0_1) = false := decide_eq_false c5
      clear c5
      by_cases c10 : a1 > 32
      · rw [if_pos c10] at H
        have c10b0 : decide (32 < a1) = true := decide_eq_true c10
        clear c10
        obtain rfl := Option.some.inj H
        go_enter Tryd.func48, Tryd.ntmps48
        go_wp2_with (first | ((with_reducible refine gate_dst (N := 2) rfl ?_); refine box_event ?hg (N := 2) ?hd (cs := #[.int .u32 a0_0, .int .i64 a0_1]) (t := 46) ?hr ?_; (case hd => rfl); (case hg => rfl); (case hr => first | (go_simp; done) | (go_simp; rfl)); intro gb48101 hg w11 hbox hb; have n0_ := Aside0.mk (below_step (by repeat (first | (with_reducible first | exact HB.out | apply below_alloc | apply pw_below_drewN | apply below_drew1) | exact HB.out)) hb); have n1_ := Aside0.mk (hbox); have n2_ := Aside0.mk ((by rw [hg]; exact (below_size (by repeat (first | (with_reducible first | exact HB.out | apply below_alloc | apply pw_below_drewN | apply below_drew1) | exact HB.out))) : w.heap.size ≤ gb48101)); have n3_ := Aside0.mk ((by rw [hg]; exact (below_size (by repeat (first | (with_reducible first | exact HB.out | apply below_alloc | apply pw_below_drewN | apply below_drew1) | exact HB.out))) : w.heap.size ≤ gb48101)); clear HB; have HB := n0_; have BK48101 := n1_; have GW48101 := n2_; have GE48101 := n3_; clear n0_ n1_ n2_ n3_; clear hb hbox hg; have hcz12_0 : w11.cell? ⟨gb48101, 0, none⟩ = some (.int .u32 a0_0) := (blk_cell BK48101.out 0).trans rfl; have hcz12_1 : w11.cell? ⟨gb48101, 1, none⟩ = some (.int .i64 a0_1) := (blk_cell BK48101.out 1).trans rfl; have hfz12_0 := blk_frozen BK48101.out 0; have hfz12_1 := blk_frozen BK48101.out 1) | ((with_reducible refine gate_callee (f := 34) rfl ?_); refine goesL_ (some 6) rfl rfl Tryd.func34 (by kernel_rfl) rfl #[.agg #[.int .u32 a0_0, .int .i64 a0_1]] rfl (by (try simp only [List.map_toArray, List.map_cons, List.map_nil]); first | done | rfl | (simp only [List.length_drop, List.length_take]; rfl)) ?_; (with_reducible refine (cidr_May.calls a0_0 a0_1 true _ A3.out).mono ?_); rintro e w13 ⟨rfl, hb⟩; refine ⟨_, rfl, ?_⟩; have n0_ := Aside0.mk (blk_below (g := gb48101) (o := .cells #[.int .u32 a0_0, .int .i64 a0_1] 46 (0, 0)) (by (with_reducible repeat (first | refine blk_drewN ?_ _ | refine blk_drew ?_ | refine blk_alloc ?_ _)); exact BK48101.out) hb); have n1_ := Aside0.mk (below_step (by repeat (first | (with_reducible first | exact HB.out | apply below_alloc | apply pw_below_drewN | apply below_drew1 | refine below_set ?_ GE48101.out) | exact HB.out)) hb); clear BK48101; clear HB; have BK48101 := n0_; have HB := n1_; clear n0_ n1_; (try clear hb); (try clear hb2); (try clear hk); (try clear hi); have hcz14_0 : w13.cell? ⟨gb48101, 0, none⟩ = some (.int .u32 a0_0) := (blk_cell BK48101.out 0).trans rfl; have hcz14_1 : w13.cell? ⟨gb48101, 1, none⟩ = some (.int .i64 a0_1) := (blk_cell BK48101.out 1).trans rfl; have hfz14_0 := blk_frozen BK48101.out 0; have hfz14_1 := blk_frozen BK48101.out 1))
        go_ret
        exact ⟨by first | rfl | (simp [errW_none, errW_some] <;> rfl) | (simp [*, errW_none, errW_some] <;> rfl), by repeat (first | (with_reducible first | exact HB.out | apply below_alloc | apply pw_below_drewN | apply below_drew1 | refine below_set ?_ GE48101.out) | exact HB.out)⟩
      · rw [if_neg c10] at H
        have c10b0 : decide (32 < a1) = false := decide_eq_false c10
        clear c10
        obtain ⟨ji15, hji15⟩ : ∃ j_ : Int, (wrap64 (a1 - a0_1)) = j_ := ⟨_, rfl⟩
        replace H : (if 0 ≤ (ji15) then (some (shl .i64 1 (ji15))) else (none)) = some r := by first | (rw [hji15] at H; exact H) | (simp only [hji15] at H ⊢; exact H)
        (try rw [hji15] at A3)
        have hji15w : (IntKind.i64.wrap (a1 - a0_1)) = ji15 := (i64_w _).trans hji15
        by_cases c16 : 0 ≤ (ji15)
        · rw [if_pos c16] at H
          have c16b0 := eq_true c16
          have c16b1 : decide (0 ≤ (ji15)) = true := decide_eq_true c16
          clear c16
          obtain ⟨ji17, hji17⟩ : ∃ j_ : Int, (shl .i64 1 (ji15)) = j_ := ⟨_, rfl⟩
          replace H : (some ji17) = some r := by first | (rw [hji17] at H; exact H) | (simp only [hji17] at H ⊢; exact H)
          (try rw [hji17] at A3)
          have hji17_ : (IntKind.i64.wrap (1 * 2 ^ min (ji15).toNat 64)) = ji17 := hji17
          have hji17z : (ji15) ≤ 64 → (IntKind.i64.wrap (1 * 2 ^ (ji15).toNat)) = ji17 := shl_small hji17
          have hji17u : (IntKind.i64.wrap (2 ^ min (ji15).toNat 64)) = ji17 := by have h_ := hji17_; rw [Int.one_mul] at h_; exact h_
          have hji17v : (ji15) ≤ 64 → (IntKind.i64.wrap (2 ^ (ji15).toNat)) = ji17 := fun hle_ => by have h_ := hji17z hle_; rw [Int.one_mul] at h_; exact h_
          have hji17y : (wrap64 (1 * 2 ^ min (ji15).toNat 64)) = ji17 := (i64_w _).symm.trans hji17_
          have hji17x : (ji15) ≤ 64 → (wrap64 (1 * 2 ^ (ji15).toNat)) = ji17 := fun h_ => (i64_w _).symm.trans (hji17z h_)
          obtain rfl := Option.some.inj H
          go_enter Tryd.func48, Tryd.ntmps48
          go_wp2_with (first | ((with_reducible refine gate_dst (N := 2) rfl ?_); refine box_event ?hg (N := 2) ?hd (cs := #[.int .u32 a0_0, .int .i64 a0_1]) (t := 46) ?hr ?_; (case hd => rfl); (case hg => rfl); (case hr => first | (go_simp; done) | (go_simp; rfl)); intro gb48101 hg w18 hbox hb; have n0_ := Aside0.mk (below_step (by repeat (first | (with_reducible first | exact HB.out | apply below_alloc | apply pw_below_drewN | apply below_drew1) | exact HB.out)) hb); have n1_ := Aside0.mk (hbox); have n2_ := Aside0.mk ((by rw [hg]; exact (below_size (by repeat (first | (with_reducible first | exact HB.out | apply below_alloc | apply pw_below_drewN | apply below_drew1) | exact HB.out))) : w.heap.size ≤ gb48101)); have n3_ := Aside0.mk ((by rw [hg]; exact (below_size (by repeat (first | (with_reducible first | exact HB.out | apply below_alloc | apply pw_below_drewN | apply below_drew1) | exact HB.out))) : w.heap.size ≤ gb48101)); clear HB; have HB := n0_; have BK48101 := n1_; have GW48101 := n2_; have GE48101 := n3_; clear n0_ n1_ n2_ n3_; clear hb hbox hg; have hcz19_0 : w18.cell? ⟨gb48101, 0, none⟩ = some (.int .u32 a0_0) := (blk_cell BK48101.out 0).trans rfl; have hcz19_1 : w18.cell? ⟨gb48101, 1, none⟩ = some (.int .i64 a0_1) := (blk_cell BK48101.out 1).trans rfl; have hfz19_0 := blk_frozen BK48101.out 0; have hfz19_1 := blk_frozen BK48101.out 1) | ((with_reducible refine gate_callee (f := 34) rfl ?_); refine goesL_ (some 6) rfl rfl Tryd.func34 (by kernel_rfl) rfl #[.agg #[.int .u32 a0_0, .int .i64 a0_1]] rfl (by (try simp only [List.map_toArray, List.map_cons, List.map_nil]); first | done | rfl | (simp only [List.length_drop, List.length_take]; rfl)) ?_; (with_reducible refine (cidr_May.calls a0_0 a0_1 true _ A3.out).mono ?_); rintro e w20 ⟨rfl, hb⟩; refine ⟨_, rfl, ?_⟩; have n0_ := Aside0.mk (blk_below (g := gb48101) (o := .cells #[.int .u32 a0_0, .int .i64 a0_1] 46 (0, 0)) (by (with_reducible repeat (first | refine blk_drewN ?_ _ | refine blk_drew ?_ | refine blk_alloc ?_ _)); exact BK48101.out) hb); have n1_ := Aside0.mk (below_step (by repeat (first | (with_reducible first | exact HB.out | apply below_alloc | apply pw_below_drewN | apply below_drew1 | refine below_set ?_ GE48101.out) | exact HB.out)) hb); clear BK48101; clear HB; have BK48101 := n0_; have HB := n1_; clear n0_ n1_; (try clear hb); (try clear hb2); (try clear hk); (try clear hi); have hcz21_0 : w20.cell? ⟨gb48101, 0, none⟩ = some (.int .u32 a0_0) := (blk_cell BK48101.out 0).trans rfl; have hcz21_1 : w20.cell? ⟨gb48101, 1, none⟩ = some (.int .i64 a0_1) := (blk_cell BK48101.out 1).trans rfl; have hfz21_0 := blk_frozen BK48101.out 0; have hfz21_1 := blk_frozen BK48101.out 1))
          go_ret
          exact ⟨by first | rfl | (simp [errW_none, errW_some] <;> rfl) | (simp only [← hji15, ← hji17]; first | rfl | (simp [errW_none, errW_some] <;> rfl)) | (simp [*, errW_none, errW_some] <;> rfl), by repeat (first | (with_reducible first | exact HB.out | apply below_alloc | apply pw_below_drewN | apply below_drew1 | refine below_set ?_ GE48101.out) | exact HB.out)⟩
        · rw [if_neg c16] at H
          exact absurd H (by simp)
  · replace c4 := Bool.eq_false_iff.mpr c4
    subst c4
    have H1 : (some 0) = some r := by rw [if_neg (show ¬ (false = true) by decide)] at H; exact H
    clear H
    have H := H1
    clear H1
    obtain rfl := Option.some.inj H
    go_enter Tryd.func48, Tryd.ntmps48
    go_wp2_with (first | ((with_reducible refine gate_dst (N := 2) rfl ?_); refine box_event ?hg (N := 2) ?hd (cs := #[.int .u32 a0_0, .int .i64 a0_1]) (t := 46) ?hr ?_; (case hd => rfl); (case hg => rfl); (case hr => first | (go_simp; done) | (go_simp; rfl)); intro gb48101 hg w22 hbox hb; have n0_ := Aside0.mk (below_step (by repeat (first | (with_reducible first | exact HB.out | apply below_alloc | apply pw_below_drewN | apply below_drew1) | exact HB.out)) hb); have n1_ := Aside0.mk (hbox); have n2_ := Aside0.mk ((by rw [hg]; exact (below_size (by repeat (first | (with_reducible first | exact HB.out | apply below_alloc | apply pw_below_drewN | apply below_drew1) | exact HB.out))) : w.heap.size ≤ gb48101)); have n3_ := Aside0.mk ((by rw [hg]; exact (below_size (by repeat (first | (with_reducible first | exact HB.out | apply below_alloc | apply pw_below_drewN | apply below_drew1) | exact HB.out))) : w.heap.size ≤ gb48101)); clear HB; have HB := n0_; have BK48101 := n1_; have GW48101 := n2_; have GE48101 := n3_; clear n0_ n1_ n2_ n3_; clear hb hbox hg; have hcz23_0 : w22.cell? ⟨gb48101, 0, none⟩ = some (.int .u32 a0_0) := (blk_cell BK48101.out 0).trans rfl; have hcz23_1 : w22.cell? ⟨gb48101, 1, none⟩ = some (.int .i64 a0_1) := (blk_cell BK48101.out 1).trans rfl; have hfz23_0 := blk_frozen BK48101.out 0; have hfz23_1 := blk_frozen BK48101.out 1) | ((with_reducible refine gate_callee (f := 34) rfl ?_); refine goesL_ (some 6) rfl rfl Tryd.func34 (by kernel_rfl) rfl #[.agg #[.int .u32 a0_0, .int .i64 a0_1]] rfl (by (try simp only [List.map_toArray, List.map_cons, List.map_nil]); first | done | rfl | (simp only [List.length_drop, List.length_take]; rfl)) ?_; (with_reducible refine (cidr_May.calls a0_0 a0_1 false _ A3.out).mono ?_); rintro e w24 ⟨rfl, hb⟩; refine ⟨_, rfl, ?_⟩; have n0_ := Aside0.mk (blk_below (g := gb48101) (o := .cells #[.int .u32 a0_0, .int .i64 a0_1] 46 (0, 0)) (by (with_reducible repeat (first | refine blk_drewN ?_ _ | refine blk_drew ?_ | refine blk_alloc ?_ _)); exact BK48101.out) hb); have n1_ := Aside0.mk (below_step (by repeat (first | (with_reducible first | exact HB.out | apply below_alloc | apply pw_below_drewN | apply below_drew1 | refine below_set ?_ GE48101.out) | exact HB.out)) hb); clear BK48101; clear HB; have BK48101 := n0_; have HB := n1_; clear n0_ n1_; (try clear hb); (try clear hb2); (try clear hk); (try clear hi)))
    go_ret
    exact ⟨by first | rfl | (simp [errW_none, errW_some] <;> rfl) | (simp [*, errW_none, errW_some] <;> rfl), by repeat (first | (with_reducible first | exact HB.out | apply below_alloc | apply pw_below_drewN | apply below_drew1 | refine below_set ?_ GE48101.out) | exact HB.out)⟩
end Go.Proofs.YtcdopgkkieenjaaDoor.V
end

-- VFCidrNetNth
section
-- PRINTED by print.py (a twelfth state) out of the translation. Not trusted: Lean checks it.
namespace Go.Proofs.YtcdopgkkieenjaaDoor.V
open Go.RowKit Go.Proofs.YtcdopgkkieenjaaDoorW.PrintWords Go.Proofs.YtcdopgkkieenjaaDoorW.PrintLast Go.Proofs.YtcdopgkkieenjaaDoorW.PrintMore
attribute [local go_sem] max2_int min2_int max_two min_two max_three min_three max_four min_four   -- for this text's walks alone
set_option linter.unusedVariables false
set_option linter.unusedSimpArgs false

/-! ### cidr_Net_Nth: function 47 -/
def cidr_Net_Nth.f (a0_0 : Int) (a0_1 : Int) (a1 : Int) (a2 : Int) : Option (Int × Int × Int) := if a2 < 0 then (some (0, 0, 1)) else ((cidr_Net_Count.f a0_0 a0_1 a1).bind fun t47103 => (if a2 ≥ t47103 then (some (0, 0, 1)) else (if 0 ≤ (wrap64 (32 - a1)) then (some ((a0_0 + ((shl .u64 (IntKind.u64.wrap (a2)) (wrap64 (32 - a1))) % 4294967296)) % 4294967296, a1, 0)) else (none))))
def cidr_Net_Nth.T3 : Bool × List (List Nat × List Nat) := (true, [([], []), ([0], [0]), ([], []), ([2], [2]), ([], []), ([4], [4]), ([3, 5], [3, 5]), ([6], [6]), ([1, 7], [1, 7]), ([], []), ([8, 9], [8, 9]), ([10, 0, 1, 2, 3, 4, 5, 6, 7, 8, 9, 10], [10]), ([11, 0, 1, 2, 3, 4, 5, 6, 7, 8, 9, 10, 11], [])])
def cidr_Net_Nth.B3 : List Nat := [0, 1, 0, 4, 0, 16, 60, 124, 255, 0, 1023, 2047, 4095]
theorem cidr_Net_Nth.tab3 : rtab .any (opsOf Tryd.f47 3) = cidr_Net_Nth.T3 := by kernel_rfl
theorem cidr_Net_Nth.bits3 : waitsOk cidr_Net_Nth.T3.2 cidr_Net_Nth.B3 = true := by kernel_rfl
set_option maxHeartbeats 8000000 in
set_option maxRecDepth 100000 in
theorem cidr_Net_Nth.calls (a0_0 : Int) (a0_1 : Int) (a1 : Int) (a2 : Int) (r1 : Int) (r2 : Int) (r3 : Int) (w : World) (h : cidr_Net_Nth.f a0_0 a0_1 a1 a2 = some (r1, r2, r3)) :
    Calls Tryd.prog 47 #[.agg #[.int .u32 a0_0, .int .i64 a0_1], .int .i64 a1, .int .i64 a2] w fun e w' => e = .returned (.tuple #[.agg #[.int .u32 r1, .int .i64 r2], .int .i64 r3]) ∧ Below w.heap.size w w' := by
  have hu46 := Tryd.underlying46
  have HB := Aside0.mk (Below.refl w.heap.size w)
  have H : (if a2 < 0 then (some (0, 0, 1)) else ((cidr_Net_Count.f a0_0 a0_1 a1).bind fun t47103 => (if a2 ≥ t47103 then (some (0, 0, 1)) else (if 0 ≤ (wrap64 (32 - a1)) then (some ((a0_0 + ((shl .u64 (IntKind.u64.wrap (a2)) (wrap64 (32 - a1))) % 4294967296)) % 4294967296, a1, 0)) else (none))))) = some (r1, r2, r3) := h
  clear h
  by_cases c4 : a2 < 0
  · rw [if_pos c4] at H
    have c4b0 : decide (a2 < 0) = true := decide_eq_true c4
    clear c4
    simp only [Option.some.injEq, Prod.mk.injEq] at H
    obtain ⟨rfl, rfl, rfl⟩ := H
    go_enter Tryd.func47, Tryd.ntmps47
    go_wp2_with (first | ((with_reducible refine gate_dst (N := 3) rfl ?_); refine box_event ?hg (N := 3) ?hd (cs := #[.int .u32 a0_0, .int .i64 a0_1]) (t := 46) ?hr ?_; (case hd => rfl); (case hg => rfl); (case hr => first | (go_simp; done) | (go_simp; rfl)); intro gb47101 hg w5 hbox hb; have n0_ := Aside0.mk (below_step (by repeat (first | (with_reducible first | exact HB.out | apply below_alloc | apply pw_below_drewN | apply below_drew1) | exact HB.out)) hb); have n1_ := Aside0.mk (hbox); have n2_ := Aside0.mk ((by rw [hg]; exact (below_size (by repeat (first | (with_reducible first | exact HB.out | apply below_alloc | apply pw_below_drewN | apply below_drew1) | exact HB.out))) : w.heap.size ≤ gb47101)); have n3_ := Aside0.mk ((by rw [hg]; exact (below_size (by repeat (first | (with_reducible first | exact HB.out | apply below_alloc | apply pw_below_drewN | apply below_drew1) | exact HB.out))) : w.heap.size ≤ gb47101)); clear HB; have HB := n0_; have BK47101 := n1_; have GW47101 := n2_; have GE47101 := n3_; clear n0_ n1_ n2_ n3_; clear hb hbox hg) | ((with_reducible refine gate_dst (N := 6) rfl ?_); refine box_event ?hg (N := 6) ?hd (cs := #[.int .u32 0, .int .i64 0]) (t := 46) ?hr ?_; (case hd => rfl); (case hg => rfl); (case hr => first | (go_simp; done) | (go_simp; rfl)); intro gb47102 hg w6 hbox hb; have n0_ := Aside0.mk (blk_below (g := gb47101) (o := .cells #[.int .u32 a0_0, .int .i64 a0_1] 46 (0, 0)) (by (with_reducible repeat (first | refine blk_drewN ?_ _ | refine blk_drew ?_ | refine blk_alloc ?_ _)); exact BK47101.out) hb); have n1_ := Aside0.mk (below_step (by repeat (first | (with_reducible first | exact HB.out | apply below_alloc | apply pw_below_drewN | apply below_drew1 | refine below_set ?_ GE47101.out) | exact HB.out)) hb); have n2_ := Aside0.mk (hbox); have n3_ := Aside0.mk ((by rw [hg]; exact (below_size (by repeat (first | (with_reducible first | exact HB.out | apply below_alloc | apply pw_below_drewN | apply below_drew1 | refine below_set ?_ GE47101.out) | exact HB.out))) : w.heap.size ≤ gb47102)); have n4_ := Aside0.mk ((by rw [hg]; exact (below_size (by repeat (first | (with_reducible first | exact HB.out | apply below_alloc | apply pw_below_drewN | apply below_drew1 | refine below_set ?_ GE47101.out) | exact HB.out))) : w.heap.size ≤ gb47102)); have n5_ := Aside0.mk ((by rw [hg]; exact Nat.ne_of_lt (blk_lt (g := gb47101) (o := .cells #[.int .u32 a0_0, .int .i64 a0_1] 46 (0, 0)) (by (with_reducible repeat (first | refine blk_drewN ?_ _ | refine blk_drew ?_ | refine blk_alloc ?_ _)); exact BK47101.out)) : gb47101 ≠ gb47102)); have n6_ := Aside0.mk ((by rw [hg]; exact Nat.ne_of_gt (blk_lt (g := gb47101) (o := .cells #[.int .u32 a0_0, .int .i64 a0_1] 46 (0, 0)) (by (with_reducible repeat (first | refine blk_drewN ?_ _ | refine blk_drew ?_ | refine blk_alloc ?_ _)); exact BK47101.out)) : gb47102 ≠ gb47101)); clear BK47101; clear HB; have BK47101 := n0_; have HB := n1_; have BK47102 := n2_; have GW47102 := n3_; have GE47102 := n4_; have NB47101_47102 := n5_; have NB47102_47101 := n6_; clear n0_ n1_ n2_ n3_ n4_ n5_ n6_; clear hb hbox hg; have hnb7 := NB47102_47101.out; have hnc7 := NB47101_47102.out; have hcz8_0 : w6.cell? ⟨gb47102, 0, none⟩ = some (.int .u32 0) := (blk_cell BK47102.out 0).trans rfl; have hcz8_1 : w6.cell? ⟨gb47102, 1, none⟩ = some (.int .i64 0) := (blk_cell BK47102.out 1).trans rfl; have hfz8_0 := blk_frozen BK47102.out 0; have hfz8_1 := blk_frozen BK47102.out 1))
    refine bodyPost_ret (results_ct rfl _ _ gb47102 46 #[.int .u32 0, .int .i64 0] (0, 0) _ rfl (by (with_reducible repeat (first | refine blk_drewN ?_ _ | refine blk_drew ?_ | refine blk_alloc ?_ _)); refine blk_put (cs := #[.int .u32 0, .int .i64 0]) ?_ 1 _ rfl; (with_reducible repeat (first | refine blk_drewN ?_ _ | refine blk_drew ?_ | refine blk_alloc ?_ _)); refine blk_put (cs := #[.int .u32 0, .int .i64 0]) ?_ 0 _ rfl; (with_reducible repeat (first | refine blk_drewN ?_ _ | refine blk_drew ?_ | refine blk_alloc ?_ _)); exact BK47102.out) Tryd.underlying46 rfl (by kernel_rfl)) rfl ?_
    exact ⟨by first | rfl | (simp [errW_none, errW_some] <;> rfl) | (simp [*, errW_none, errW_some] <;> rfl), by repeat (first | (with_reducible first | exact HB.out | apply below_alloc | apply pw_below_drewN | apply below_drew1 | refine below_set ?_ GE47101.out | refine below_set ?_ GE47102.out) | exact HB.out)⟩
  · rw [if_neg c4] at H
    have c4b0 : decide (a2 < 0) = false := decide_eq_false c4
    clear c4
    replace H := Option.bind_eq_some_iff.mp H
    obtain ⟨t47103, A90, H⟩ := H
    replace H : (if a2 ≥ t47103 then (some (0, 0, 1)) else (if 0 ≤ (wrap64 (32 - a1)) then (some ((a0_0 + ((shl .u64 (IntKind.u64.wrap (a2)) (wrap64 (32 - a1))) % 4294967296)) % 4294967296, a1, 0)) else (none))) = some (r1, r2, r3) := H
    have A9 := Aside0.mk A90
    clear A90
    by_cases c10 : a2 ≥ t47103
    · rw [if_pos c10] at H
      have c10b0 : decide (t47103 ≤ a2) = true := decide_eq_true c10
      clear c10
      simp only [Option.some.injEq, Prod.mk.injEq] at H
      obtain ⟨rfl, rfl, rfl⟩ := H
      go_enter Tryd.func47, Tryd.ntmps47
      go_wp2_with (first | ((with_reducible refine gate_dst (N := 3) rfl ?_); refine box_event ?hg (N := 3) ?hd (cs := #[.int .u32 a0_0, .int .i64 a0_1]) (t := 46) ?hr ?_; (case hd => rfl); (case hg => rfl); (case hr => first | (go_simp; done) | (go_simp; rfl)); intro gb47101 hg w11 hbox hb; have n0_ := Aside0.mk (below_step (by repeat (first | (with_reducible first | exact HB.out | apply below_alloc | apply pw_below_drewN | apply below_drew1) | exact HB.out)) hb); have n1_ := Aside0.mk (hbox); have n2_ := Aside0.mk ((by rw [hg]; exact (below_size (by repeat (first | (with_reducible first | exact HB.out | apply below_alloc | apply pw_below_drewN | apply below_drew1) | exact HB.out))) : w.heap.size ≤ gb47101)); have n3_ := Aside0.mk ((by rw [hg]; exact (below_size (by repeat (first | (with_reducible first | exact HB.out | apply below_alloc | apply pw_below_drewN | apply below_drew1) | exact HB.out))) : w.heap.size ≤ gb47101)); clear HB; have HB := n0_; have BK47101 := n1_; have GW47101 := n2_; have GE47101 := n3_; clear n0_ n1_ n2_ n3_; clear hb hbox hg) | ((with_reducible refine gate_dst (N := 6) rfl ?_); refine box_event ?hg (N := 6) ?hd (cs := #[.int .u32 0, .int .i64 0]) (t := 46) ?hr ?_; (case hd => rfl); (case hg => rfl); (case hr => first | (go_simp; done) | (go_simp; rfl)); intro gb47102 hg w12 hbox hb; have n0_ := Aside0.mk (blk_below (g := gb47101) (o := .cells #[.int .u32 a0_0, .int .i64 a0_1] 46 (0, 0)) (by (with_reducible repeat (first | refine blk_drewN ?_ _ | refine blk_drew ?_ | refine blk_alloc ?_ _)); exact BK47101.out) hb); have n1_ := Aside0.mk (below_step (by repeat (first | (with_reducible first | exact HB.out | apply below_alloc | apply pw_below_drewN | apply below_drew1 | refine below_set ?_ GE47101.out) | exact HB.out)) hb); have n2_ := Aside0.mk (hbox); have n3_ := Aside0.mk ((by rw [hg]; exact (below_size (by repeat (first | (with_reducible first | exact HB.out | apply below_alloc | apply pw_below_drewN | apply below_drew1 | refine below_set ?_ GE47101.out) | exact HB.out))) : w.heap.size ≤ gb47102)); have n4_ := Aside0.mk ((by rw [hg]; exact (below_size (by repeat (first | (with_reducible first | exact HB.out | apply below_alloc | apply pw_below_drewN | apply below_drew1 | refine below_set ?_ GE47101.out) | exact HB.out))) : w.heap.size ≤ gb47102)); have n5_ := Aside0.mk ((by rw [hg]; exact Nat.ne_of_lt (blk_lt (g := gb47101) (o := .cells #[.int .u32 a0_0, .int .i64 a0_1] 46 (0, 0)) (by (with_reducible repeat (first | refine blk_drewN ?_ _ | refine blk_drew ?_ | refine blk_alloc ?_ _)); exact BK47101.out)) : gb47101 ≠ gb47102)); have n6_ := Aside0.mk ((by rw [hg]; exact Nat.ne_of_gt (blk_lt (g := gb47101) (o := .cells #[.int .u32 a0_0, .int .i64 a0_1] 46 (0, 0)) (by (with_reducible repeat (first | refine blk_drewN ?_ _ | refine blk_drew ?_ | refine blk_alloc ?_ _)); exact BK47101.out)) : gb47102 ≠ gb47101)); clear BK47101; clear HB; have BK47101 := n0_; have HB := n1_; have BK47102 := n2_; have GW47102 := n3_; have GE47102 := n4_; have NB47101_47102 := n5_; have NB47102_47101 := n6_; clear n0_ n1_ n2_ n3_ n4_ n5_ n6_; clear hb hbox hg; have hnb13 := NB47101_47102.out; have hnc13 := NB47102_47101.out; have hcz14_0 : w12.cell? ⟨gb47101, 0, none⟩ = some (.int .u32 a0_0) := (blk_cell BK47101.out 0).trans rfl; have hcz14_1 : w12.cell? ⟨gb47101, 1, none⟩ = some (.int .i64 a0_1) := (blk_cell BK47101.out 1).trans rfl; have hfz14_0 := blk_frozen BK47101.out 0; have hfz14_1 := blk_frozen BK47101.out 1) | (go_at_call 48; (with_reducible refine (cidr_Net_Count.calls a0_0 a0_1 a1 t47103 _ A9.out).mono ?_); rintro e w15 ⟨rfl, hb⟩; have n0_ := Aside0.mk (blk_below (g := gb47101) (o := .cells #[.int .u32 a0_0, .int .i64 a0_1] 46 (0, 0)) (by (with_reducible repeat (first | refine blk_drewN ?_ _ | refine blk_drew ?_ | refine blk_alloc ?_ _)); exact BK47101.out) hb); have n1_ := Aside0.mk (blk_below (g := gb47102) (o := .cells #[.int .u32 0, .int .i64 0] 46 (0, 0)) (by (with_reducible repeat (first | refine blk_drewN ?_ _ | refine blk_drew ?_ | refine blk_alloc ?_ _)); exact BK47102.out) hb); have n2_ := Aside0.mk (below_step (by repeat (first | (with_reducible first | exact HB.out | apply below_alloc | apply pw_below_drewN | apply below_drew1 | refine below_set ?_ GE47101.out | refine below_set ?_ GE47102.out) | exact HB.out)) hb); clear BK47101; clear BK47102; clear HB; have BK47101 := n0_; have BK47102 := n1_; have HB := n2_; clear n0_ n1_ n2_; (try clear hb); (try clear hb2); (try clear hk); (try clear hi); have hcz16_0 : w15.cell? ⟨gb47102, 0, none⟩ = some (.int .u32 0) := (blk_cell BK47102.out 0).trans rfl; have hcz16_1 : w15.cell? ⟨gb47102, 1, none⟩ = some (.int .i64 0) := (blk_cell BK47102.out 1).trans rfl; have hfz16_0 := blk_frozen BK47102.out 0; have hfz16_1 := blk_frozen BK47102.out 1))
      refine bodyPost_ret (results_ct rfl _ _ gb47102 46 #[.int .u32 0, .int .i64 0] (0, 0) _ rfl (by (with_reducible repeat (first | refine blk_drewN ?_ _ | refine blk_drew ?_ | refine blk_alloc ?_ _)); refine blk_put (cs := #[.int .u32 0, .int .i64 0]) ?_ 1 _ rfl; (with_reducible repeat (first | refine blk_drewN ?_ _ | refine blk_drew ?_ | refine blk_alloc ?_ _)); refine blk_put (cs := #[.int .u32 0, .int .i64 0]) ?_ 0 _ rfl; (with_reducible repeat (first | refine blk_drewN ?_ _ | refine blk_drew ?_ | refine blk_alloc ?_ _)); exact BK47102.out) Tryd.underlying46 rfl (by kernel_rfl)) rfl ?_
      exact ⟨by first | rfl | (simp [errW_none, errW_some] <;> rfl) | (simp [*, errW_none, errW_some] <;> rfl), by repeat (first | (with_reducible first | exact HB.out | apply below_alloc | apply pw_below_drewN | apply below_drew1 | refine below_set ?_ GE47101.out | refine below_set ?_ GE47102.out) | exact HB.out)⟩
    · rw [if_neg c10] at H
      have c10b0 : decide (t47103 ≤ a2) = false := decide_eq_false c10
      clear c10
      obtain ⟨ji17, hji17⟩ : ∃ j_ : Int, (wrap64 (32 - a1)) = j_ := ⟨_, rfl⟩
      replace H : (if 0 ≤ (ji17) then (some ((a0_0 + ((shl .u64 (IntKind.u64.wrap (a2)) (ji17)) % 4294967296)) % 4294967296, a1, 0)) else (none)) = some (r1, r2, r3) := by first | (rw [hji17] at H; exact H) | (simp only [hji17] at H ⊢; exact H)
      (try rw [hji17] at A9)
      have hji17w : (IntKind.i64.wrap (32 - a1)) = ji17 := (i64_w _).trans hji17
      by_cases c18 : 0 ≤ (ji17)
      · rw [if_pos c18] at H
        have c18b0 := eq_true c18
        have c18b1 : decide (0 ≤ (ji17)) = true := decide_eq_true c18
        clear c18
        obtain ⟨ji19, hji19⟩ : ∃ j_ : Int, (shl .u64 (IntKind.u64.wrap (a2)) (ji17)) = j_ := ⟨_, rfl⟩
        replace H : (some ((a0_0 + ((ji19) % 4294967296)) % 4294967296, a1, 0)) = some (r1, r2, r3) := by first | (rw [hji19] at H; exact H) | (simp only [hji19] at H ⊢; exact H)
        (try rw [hji19] at A9)
        have hji19_ : (IntKind.u64.wrap ((IntKind.u64.wrap (a2)) * 2 ^ min (ji17).toNat 64)) = ji19 := hji19
        have hji19z : (ji17) ≤ 64 → (IntKind.u64.wrap ((IntKind.u64.wrap (a2)) * 2 ^ (ji17).toNat)) = ji19 := shl_small hji19
        simp only [Option.some.injEq, Prod.mk.injEq] at H
        obtain ⟨rfl, rfl, rfl⟩ := H
        go_enter Tryd.func47, Tryd.ntmps47
        try go_wp2_with (first | ((with_reducible refine gate_dst (N := 3) rfl ?_); refine box_event ?hg (N := 3) ?hd (cs := #[.int .u32 a0_0, .int .i64 a0_1]) (t := 46) ?hr ?_; (case hd => rfl); (case hg => rfl); (case hr => first | (go_simp; done) | (go_simp; rfl)); intro gb47101 hg w20 hbox hb; have n0_ := Aside0.mk (below_step (by repeat (first | (with_reducible first | exact HB.out | apply below_alloc | apply pw_below_drewN | apply below_drew1) | exact HB.out)) hb); have n1_ := Aside0.mk (hbox); have n2_ := Aside0.mk ((by rw [hg]; exact (below_size (by repeat (first | (with_reducible first | exact HB.out | apply below_alloc | apply pw_below_drewN | apply below_drew1) | exact HB.out))) : w.heap.size ≤ gb47101)); have n3_ := Aside0.mk ((by rw [hg]; exact (below_size (by repeat (first | (with_reducible first | exact HB.out | apply below_alloc | apply pw_below_drewN | apply below_drew1) | exact HB.out))) : w.heap.size ≤ gb47101)); clear HB; have HB := n0_; have BK47101 := n1_; have GW47101 := n2_; have GE47101 := n3_; clear n0_ n1_ n2_ n3_; clear hb hbox hg) | ((with_reducible refine gate_dst (N := 6) rfl ?_); refine box_event ?hg (N := 6) ?hd (cs := #[.int .u32 0, .int .i64 0]) (t := 46) ?hr ?_; (case hd => rfl); (case hg => rfl); (case hr => first | (go_simp; done) | (go_simp; rfl)); intro gb47102 hg w21 hbox hb; have n0_ := Aside0.mk (blk_below (g := gb47101) (o := .cells #[.int .u32 a0_0, .int .i64 a0_1] 46 (0, 0)) (by (with_reducible repeat (first | refine blk_drewN ?_ _ | refine blk_drew ?_ | refine blk_alloc ?_ _)); exact BK47101.out) hb); have n1_ := Aside0.mk (below_step (by repeat (first | (with_reducible first | exact HB.out | apply below_alloc | apply pw_below_drewN | apply below_drew1 | refine below_set ?_ GE47101.out) | exact HB.out)) hb); have n2_ := Aside0.mk (hbox); have n3_ := Aside0.mk ((by rw [hg]; exact (below_size (by repeat (first | (with_reducible first | exact HB.out | apply below_alloc | apply pw_below_drewN | apply below_drew1 | refine below_set ?_ GE47101.out) | exact HB.out))) : w.heap.size ≤ gb47102)); have n4_ := Aside0.mk ((by rw [hg]; exact (below_size (by repeat (first | (with_reducible first | exact HB.out | apply below_alloc | apply pw_below_drewN | apply below_drew1 | refine below_set ?_ GE47101.out) | exact HB.out))) : w.heap.size ≤ gb47102)); have n5_ := Aside0.mk ((by rw [hg]; exact Nat.ne_of_lt (blk_lt (g := gb47101) (o := .cells #[.int .u32 a0_0, .int .i64 a0_1] 46 (0, 0)) (by (with_reducible repeat (first | refine blk_drewN ?_ _ | refine blk_drew ?_ | refine blk_alloc ?_ _)); exact BK47101.out)) : gb47101 ≠ gb47102)); have n6_ := Aside0.mk ((by rw [hg]; exact Nat.ne_of_gt (blk_lt (g := gb47101) (o := .cells #[.int .u32 a0_0, .int .i64 a0_1] 46 (0, 0)) (by (with_reducible repeat (first | refine blk_drewN ?_ _ | refine blk_drew ?_ | refine blk_alloc ?_ _)); exact BK47101.out)) : gb47102 ≠ gb47101)); clear BK47101; clear HB; have BK47101 := n0_; have HB := n1_; have BK47102 := n2_; have GW47102 := n3_; have GE47102 := n4_; have NB47101_47102 := n5_; have NB47102_47101 := n6_; clear n0_ n1_ n2_ n3_ n4_ n5_ n6_; clear hb hbox hg; have hnb22 := NB47101_47102.out; have hnc22 := NB47102_47101.out; have hcz23_0 : w21.cell? ⟨gb47101, 0, none⟩ = some (.int .u32 a0_0) := (blk_cell BK47101.out 0).trans rfl; have hcz23_1 : w21.cell? ⟨gb47101, 1, none⟩ = some (.int .i64 a0_1) := (blk_cell BK47101.out 1).trans rfl; have hfz23_0 := blk_frozen BK47101.out 0; have hfz23_1 := blk_frozen BK47101.out 1) | (go_at_call 48; (with_reducible refine (cidr_Net_Count.calls a0_0 a0_1 a1 t47103 _ A9.out).mono ?_); rintro e w24 ⟨rfl, hb⟩; have n0_ := Aside0.mk (blk_below (g := gb47101) (o := .cells #[.int .u32 a0_0, .int .i64 a0_1] 46 (0, 0)) (by (with_reducible repeat (first | refine blk_drewN ?_ _ | refine blk_drew ?_ | refine blk_alloc ?_ _)); exact BK47101.out) hb); have n1_ := Aside0.mk (blk_below (g := gb47102) (o := .cells #[.int .u32 0, .int .i64 0] 46 (0, 0)) (by (with_reducible repeat (first | refine blk_drewN ?_ _ | refine blk_drew ?_ | refine blk_alloc ?_ _)); exact BK47102.out) hb); have n2_ := Aside0.mk (below_step (by repeat (first | (with_reducible first | exact HB.out | apply below_alloc | apply pw_below_drewN | apply below_drew1 | refine below_set ?_ GE47101.out | refine below_set ?_ GE47102.out) | exact HB.out)) hb); clear BK47101; clear BK47102; clear HB; have BK47101 := n0_; have BK47102 := n1_; have HB := n2_; clear n0_ n1_ n2_; (try clear hb); (try clear hb2); (try clear hk); (try clear hi)))
        have n0_ := Aside0.mk (blk_drew BK47101.out)
        have n1_ := Aside0.mk (blk_drew BK47102.out)
        have n2_ := Aside0.mk (below_drew1 HB.out)
        clear BK47101
        clear BK47102
        clear HB
        have BK47101 := n0_
        have BK47102 := n1_
        have HB := n2_
        clear n0_ n1_ n2_
        refine start_ (n := 13) (S := fun w' => w'.cell? ⟨gb47101, 0, none⟩ = some (.int .u32 a0_0) ∧ w'.cell? ⟨gb47101, 1, none⟩ = some (.int .i64 a0_1)) (ds := []) #[false, false, false, false, false, false, false, false, false, false, false, false, false] (by kernel_rfl) rfl rfl ⟨(blk_cell BK47101.out 0).trans rfl, (blk_cell BK47101.out 1).trans rfl⟩ (fun hHeld => ?_); refine with_tabW cidr_Net_Nth.tab3 cidr_Net_Nth.bits3 (fun HT_ HW_ => ?_)
        generalize w24.drew = w25 at BK47101 BK47102 HB hHeld ⊢
        refine pure_ (i := 0) (N := some 18) (v := ?_) (a' := ?_) #[true, false, false, false, false, false, false, false, false, false, false, false, false] rfl rfl (any_of HT_.out (by kernel_rfl)) (fun _ _ _ h => h) (Or.inl ⟨by rfl, ?_⟩) ?_ ?_
        rotate_left
        · intro w'
          go_simp
          with_reducible rfl
        rotate_left
        · simp only [Act.put, List.setIfInBounds_toArray, List.set_cons_zero, List.set_cons_succ, i64_w, i32_w]
          rfl
        refine pure_ (i := 2) (N := some 20) (v := ?_) (a' := ?_) #[true, false, true, false, false, false, false, false, false, false, false, false, false] rfl rfl (any_of HT_.out (by kernel_rfl)) (fun _ _ _ h => h) (Or.inl ⟨by rfl, ?_⟩) ?_ ?_
        rotate_left
        · intro w'
          go_simp
          with_reducible rfl
        rotate_left
        · simp only [Act.put, List.setIfInBounds_toArray, List.set_cons_zero, List.set_cons_succ, i64_w, i32_w]
          rfl
        refine pure_ (i := 3) (N := some 21) (v := ?_) (a' := ?_) #[true, false, true, true, false, false, false, false, false, false, false, false, false] rfl rfl (any_of HT_.out (by kernel_rfl)) (fun _ _ _ h => h) (Or.inl ⟨by rfl, ?_⟩) ?_ ?_
        rotate_left
        · intro w'
          go_simp
          with_reducible rfl
        rotate_left
        · simp only [Act.put, List.setIfInBounds_toArray, List.set_cons_zero, List.set_cons_succ, i64_w, i32_w]
          rfl
        refine pure_ (i := 4) (N := some 22) (v := ?_) (a' := ?_) #[true, false, true, true, true, false, false, false, false, false, false, false, false] rfl rfl (any_of HT_.out (by kernel_rfl)) (fun _ _ _ h => h) (Or.inl ⟨by rfl, ?_⟩) ?_ ?_
        rotate_left
        · intro w'
          go_simp
          with_reducible rfl
        rotate_left
        · simp only [Act.put, List.setIfInBounds_toArray, List.set_cons_zero, List.set_cons_succ, i64_w, i32_w]
          rfl
        refine pure_ (i := 5) (N := some 23) (v := ?_) (a' := ?_) #[true, false, true, true, true, true, false, false, false, false, false, false, false] rfl rfl (any_of HT_.out (by kernel_rfl)) (fun _ _ _ h => h) (Or.inl ⟨by rfl, ?_⟩) ?_ ?_
        rotate_left
        · intro w'
          go_simp
          with_reducible rfl
        rotate_left
        · simp only [Act.put, List.setIfInBounds_toArray, List.set_cons_zero, List.set_cons_succ, i64_w, i32_w]
          rfl
        refine pure_ (i := 6) (N := some 24) (v := ?_) (a' := ?_) #[true, false, true, true, true, true, true, false, false, false, false, false, false] rfl rfl (any_of HT_.out (by kernel_rfl)) (fun _ _ _ h => h) (Or.inl ⟨by rfl, ?_⟩) ?_ ?_
        rotate_left
        · intro w'
          go_simp
          with_reducible rfl
        rotate_left
        · simp only [Act.put, List.setIfInBounds_toArray, List.set_cons_zero, List.set_cons_succ, i64_w, i32_w]
          rfl
        refine pure_ (i := 7) (N := some 25) (v := ?_) (a' := ?_) #[true, false, true, true, true, true, true, true, false, false, false, false, false] rfl rfl (any_of HT_.out (by kernel_rfl)) (fun _ _ _ h => h) (Or.inl ⟨by rfl, ?_⟩) ?_ ?_
        rotate_left
        · intro w'
          go_simp
          with_reducible rfl
        rotate_left
        · simp only [Act.put, List.setIfInBounds_toArray, List.set_cons_zero, List.set_cons_succ, i64_w, i32_w]
          rfl
        refine pure_ (i := 9) (N := some 27) (v := ?_) (a' := ?_) #[true, false, true, true, true, true, true, true, false, true, false, false, false] rfl rfl (any_of HT_.out (by kernel_rfl)) (fun _ _ _ h => h) (Or.inl ⟨by rfl, ?_⟩) ?_ ?_
        rotate_left
        · intro w'
          go_simp
          with_reducible rfl
        rotate_left
        · simp only [Act.put, List.setIfInBounds_toArray, List.set_cons_zero, List.set_cons_succ, i64_w, i32_w]
          rfl
        refine take_ (i := 1) (N := some 19) (v := ?_) (a' := ?_) #[true, true, true, true, true, true, true, true, false, true, false, false, false] rfl rfl (take_ofW HT_.out HW_.out (by kernel_rfl)) (fun _ _ _ h => h) (Or.inl ⟨by rfl, ?_⟩) hHeld ?_ ?_
        rotate_left
        · rintro w' ⟨s0, s1⟩
          go_simp
          with_reducible rfl
        rotate_left
        · simp only [Act.put, List.setIfInBounds_toArray, List.set_cons_zero, List.set_cons_succ, i64_w, i32_w]
          rfl
        refine pure_ (i := 8) (N := some 26) (v := ?_) (a' := ?_) #[true, true, true, true, true, true, true, true, true, true, false, false, false] rfl rfl (any_of HT_.out (by kernel_rfl)) (fun _ _ _ h => h) (Or.inl ⟨by rfl, ?_⟩) ?_ ?_
        rotate_left
        · intro w'
          go_simp
          with_reducible rfl
        rotate_left
        · simp only [Act.put, List.setIfInBounds_toArray, List.set_cons_zero, List.set_cons_succ, i64_w, i32_w]
          rfl
        refine pure_ (i := 10) (N := some 28) (v := ?_) (a' := ?_) #[true, true, true, true, true, true, true, true, true, true, true, false, false] rfl rfl (any_of HT_.out (by kernel_rfl)) (fun _ _ _ h => h) (Or.inl ⟨by rfl, ?_⟩) ?_ ?_
        rotate_left
        · intro w'
          go_simp
          with_reducible rfl
        rotate_left
        · simp only [Act.put, List.setIfInBounds_toArray, List.set_cons_zero, List.set_cons_succ, i64_w, i32_w]
          rfl
        refine one_ (i := 11) (N := none) #[true, true, true, true, true, true, true, true, true, true, true, true, false] rfl rfl (one_of HT_.out (by kernel_rfl)) (by decide) (fun K hK => ?_)
        have hs26 : w25.cell? ⟨gb47102, 0, none⟩ = some (.int .u32 0) := (blk_cell BK47102.out 0).trans rfl
        have hfs26 := blk_frozen BK47102.out 0
        have hns26_0 := NB47101_47102.out
        have hms26_0 := NB47102_47101.out
        have hs27 : w25.cell? ⟨gb47102, 1, none⟩ = some (.int .i64 0) := (blk_cell BK47102.out 1).trans rfl
        have hfs27 := blk_frozen BK47102.out 1
        have hns27_0 := NB47101_47102.out
        have hms27_0 := NB47102_47101.out
        refine skip_ (w1 := ?_) (by rfl) rfl ?_ ?_
        rotate_left
        · go_simp
          rfl
        refine hK.out _ _ ⟨((cell_far (p := ⟨gb47102, _, none⟩) NB47101_47102.out _).trans (((cell_far (p := ⟨gb47102, _, none⟩) NB47101_47102.out _).trans (hHeld.1)))), ((cell_far (p := ⟨gb47102, _, none⟩) NB47101_47102.out _).trans (((cell_far (p := ⟨gb47102, _, none⟩) NB47101_47102.out _).trans (hHeld.2))))⟩ (fun hHeld => ?_)
        clear hK K
        refine pure_ (i := 12) (N := some 7) (v := ?_) (a' := ?_) #[true, true, true, true, true, true, true, true, true, true, true, true, true] rfl rfl (any_of HT_.out (by kernel_rfl)) (fun _ _ _ h => h) (Or.inl ⟨by rfl, ?_⟩) ?_ ?_
        rotate_left
        · intro w'
          go_simp
          with_reducible rfl
        rotate_left
        · simp only [Act.put, List.setIfInBounds_toArray, List.set_cons_zero, List.set_cons_succ, i64_w, i32_w]
          rfl
        refine done_ (done_of HT_.out (by kernel_rfl)) ?_
        try go_wp2
        refine bodyPost_ret (results_ct rfl _ _ gb47102 46 #[.int .u32 ((a0_0 + ((ji19) % 4294967296)) % 4294967296), .int .i64 a1] (0, 0) _ rfl (by (with_reducible repeat (first | refine blk_drewN ?_ _ | refine blk_drew ?_ | refine blk_alloc ?_ _)); refine blk_put (cs := #[.int .u32 ((a0_0 + ((ji19) % 4294967296)) % 4294967296), .int .i64 0]) ?_ 1 _ rfl; (with_reducible repeat (first | refine blk_drewN ?_ _ | refine blk_drew ?_ | refine blk_alloc ?_ _)); refine blk_put (cs := #[.int .u32 0, .int .i64 0]) ?_ 0 _ rfl; (with_reducible repeat (first | refine blk_drewN ?_ _ | refine blk_drew ?_ | refine blk_alloc ?_ _)); exact BK47102.out) Tryd.underlying46 rfl (by kernel_rfl)) rfl ?_
        exact ⟨by first | rfl | (simp [errW_none, errW_some] <;> rfl) | (simp only [← hji17, ← hji19]; first | rfl | (simp [errW_none, errW_some] <;> rfl)) | (simp [*, errW_none, errW_some] <;> rfl), by repeat (first | (with_reducible first | exact HB.out | apply below_alloc | apply pw_below_drewN | apply below_drew1 | refine below_set ?_ GE47101.out | refine below_set ?_ GE47102.out) | exact HB.out)⟩
      · rw [if_neg c18] at H
        exact absurd H (by simp)
end Go.Proofs.YtcdopgkkieenjaaDoor.V
end

-- VFVirgatelaw02Awake
section
-- PRINTED by print.py (a twelfth state) out of the translation. Not trusted: Lean checks it.
namespace Go.Proofs.YtcdopgkkieenjaaDoor.V
open Go.RowKit Go.Proofs.YtcdopgkkieenjaaDoorW.PrintWords Go.Proofs.YtcdopgkkieenjaaDoorW.PrintLast Go.Proofs.YtcdopgkkieenjaaDoorW.PrintMore
attribute [local go_sem] max2_int min2_int max_two min_two max_three min_three max_four min_four   -- for this text's walks alone
set_option linter.unusedVariables false
set_option linter.unusedSimpArgs false

/-! ### virgatelaw02_awake: function 38 -/
def virgatelaw02_awake.f (k : Nat)  : Option (Bool) := (cidr_Parse.f (⟨#[49, 48, 46, 48, 46, 48, 46, 48, 47, 50, 52]⟩ : ByteArray)).bind fun bt38101 => ((cidr_Net_Nth.f bt38101.1 bt38101.2.1 26 3).bind fun bt38105 => (if bt38101.2.2 = 0 then (if bt38105.2.2 = 0 then ((cidr_Net_Count.f bt38101.1 bt38101.2.1 26).bind fun t38109 => (if t38109 = 4 then ((cidr_Print.f k bt38105.1 bt38105.2.1).bind fun t38110 => (some (t38110.toList == ([49, 48, 46, 48, 46, 48, 46, 49, 57, 50, 47, 50, 54] : List UInt8)))) else (some false))) else (some false)) else (some false)))
theorem virgatelaw02_awake.mono : ∀ k, LeO (virgatelaw02_awake.f k ) (virgatelaw02_awake.f (k + 1) ) := by
  intro  k
  unfold virgatelaw02_awake.f
  repeat' first
      | (with_reducible exact cidr_Print.mono _ _ _)
      | (with_reducible exact LeO.refl _)
      | (with_reducible exact LeO.none _)
      | (with_reducible refine LeO.ite ?_ ?_)
      | (with_reducible refine LeO.bind ?_ (fun _ => ?_))
      | exact cidr_Print.mono _ _ _
      | exact LeO.none _
      | refine LeO.ite ?_ ?_
      | refine LeO.bind ?_ (fun _ => ?_)
set_option maxHeartbeats 8000000 in
set_option maxRecDepth 100000 in
theorem virgatelaw02_awake.calls (k : Nat)  (r : Bool) (w : World) (h : virgatelaw02_awake.f k  = some r) :
    Calls Tryd.prog 38 #[] w fun e w' => e = .returned (.bool r) ∧ Below w.heap.size w w' := by
  have hu46 := Tryd.underlying46
  have HB := Aside0.mk (Below.refl w.heap.size w)
  have H : ((cidr_Parse.f (⟨#[49, 48, 46, 48, 46, 48, 46, 48, 47, 50, 52]⟩ : ByteArray)).bind fun bt38101 => ((cidr_Net_Nth.f bt38101.1 bt38101.2.1 26 3).bind fun bt38105 => (if bt38101.2.2 = 0 then (if bt38105.2.2 = 0 then ((cidr_Net_Count.f bt38101.1 bt38101.2.1 26).bind fun t38109 => (if t38109 = 4 then ((cidr_Print.f k bt38105.1 bt38105.2.1).bind fun t38110 => (some (t38110.toList == ([49, 48, 46, 48, 46, 48, 46, 49, 57, 50, 47, 50, 54] : List UInt8)))) else (some false))) else (some false)) else (some false)))) = some r := h
  clear h
  replace H := Option.bind_eq_some_iff.mp H
  obtain ⟨⟨t38101, t38102, t38103⟩, A10, H⟩ := H
  replace H : ((cidr_Net_Nth.f t38101 t38102 26 3).bind fun bt38105 => (if t38103 = 0 then (if bt38105.2.2 = 0 then ((cidr_Net_Count.f t38101 t38102 26).bind fun t38109 => (if t38109 = 4 then ((cidr_Print.f k bt38105.1 bt38105.2.1).bind fun t38110 => (some (t38110.toList == ([49, 48, 46, 48, 46, 48, 46, 49, 57, 50, 47, 50, 54] : List UInt8)))) else (some false))) else (some false)) else (some false))) = some r := H
  have A1 := Aside0.mk A10
  clear A10
  replace H := Option.bind_eq_some_iff.mp H
  obtain ⟨⟨t38105, t38106, t38107⟩, A20, H⟩ := H
  replace H : (if t38103 = 0 then (if t38107 = 0 then ((cidr_Net_Count.f t38101 t38102 26).bind fun t38109 => (if t38109 = 4 then ((cidr_Print.f k t38105 t38106).bind fun t38110 => (some (t38110.toList == ([49, 48, 46, 48, 46, 48, 46, 49, 57, 50, 47, 50, 54] : List UInt8)))) else (some false))) else (some false)) else (some false)) = some r := H
  have A2 := Aside0.mk A20
  clear A20
  by_cases c3 : t38103 = 0
  · rw [if_pos c3] at H
    have c3b0 : (t38103 == 0) = true := beq_iff_eq.mpr c3
    have c3b1 : (t38103 != 0) = false := bne_eq_false_iff_eq.mpr c3
    clear c3
    by_cases c4 : t38107 = 0
    · rw [if_pos c4] at H
      have c4b0 : (t38107 == 0) = true := beq_iff_eq.mpr c4
      have c4b1 : (t38107 != 0) = false := bne_eq_false_iff_eq.mpr c4
      clear c4
      replace H := Option.bind_eq_some_iff.mp H
      obtain ⟨t38109, A50, H⟩ := H
      replace H : (if t38109 = 4 then ((cidr_Print.f k t38105 t38106).bind fun t38110 => (some (t38110.toList == ([49, 48, 46, 48, 46, 48, 46, 49, 57, 50, 47, 50, 54] : List UInt8)))) else (some false)) = some r := H
      have A5 := Aside0.mk A50
      clear A50
      by_cases c6 : t38109 = 4
      · rw [if_pos c6] at H
        have c6b0 : (t38109 == 4) = true := beq_iff_eq.mpr c6
        have c6b1 : (t38109 != 4) = false := bne_eq_false_iff_eq.mpr c6
        clear c6
        replace H := Option.bind_eq_some_iff.mp H
        obtain ⟨t38110, A70, H⟩ := H
        replace H : (some (t38110.toList == ([49, 48, 46, 48, 46, 48, 46, 49, 57, 50, 47, 50, 54] : List UInt8))) = some r := H
        have A7 := Aside0.mk A70
        clear A70
        obtain rfl := Option.some.inj H
        go_enter Tryd.func38, Tryd.ntmps38
        go_wp2_with (first | ((with_reducible refine gate_callee (f := 37) rfl ?_); refine goesL_ (some 6) rfl rfl Tryd.func37 (by kernel_rfl) rfl #[.string (⟨#[49, 48, 46, 48, 46, 48, 46, 48, 47, 50, 52]⟩ : ByteArray)] rfl (by (try simp only [List.map_toArray, List.map_cons, List.map_nil]); first | done | rfl | (simp only [List.length_drop, List.length_take]; rfl)) ?_; (with_reducible refine (cidr_Parse.calls (⟨#[49, 48, 46, 48, 46, 48, 46, 48, 47, 50, 52]⟩ : ByteArray) t38101 t38102 t38103 _ A1.out).mono ?_); rintro e w8 ⟨rfl, hb⟩; refine ⟨_, rfl, ?_⟩; have n0_ := Aside0.mk (below_step (by repeat (first | (with_reducible first | exact HB.out | apply below_alloc | apply pw_below_drewN | apply below_drew1) | exact HB.out)) hb); clear HB; have HB := n0_; clear n0_; (try clear hb); (try clear hb2); (try clear hk); (try clear hi)) | ((with_reducible refine gate_dst (N := 1) rfl ?_); refine box_event ?hg (N := 1) ?hd (cs := #[.int .u32 0, .int .i64 0]) (t := 46) ?hr ?_; (case hd => rfl); (case hg => rfl); (case hr => first | (go_simp; done) | (go_simp; rfl)); intro gb38104 hg w9 hbox hb; have n0_ := Aside0.mk (below_step (by repeat (first | (with_reducible first | exact HB.out | apply below_alloc | apply pw_below_drewN | apply below_drew1) | exact HB.out)) hb); have n1_ := Aside0.mk (hbox); have n2_ := Aside0.mk ((by rw [hg]; exact (below_size (by repeat (first | (with_reducible first | exact HB.out | apply below_alloc | apply pw_below_drewN | apply below_drew1) | exact HB.out))) : w.heap.size ≤ gb38104)); have n3_ := Aside0.mk ((by rw [hg]; exact (below_size (by repeat (first | (with_reducible first | exact HB.out | apply below_alloc | apply pw_below_drewN | apply below_drew1) | exact HB.out))) : w.heap.size ≤ gb38104)); clear HB; have HB := n0_; have BK38104 := n1_; have GW38104 := n2_; have GE38104 := n3_; clear n0_ n1_ n2_ n3_; clear hb hbox hg; have hcz10_0 : w9.cell? ⟨gb38104, 0, none⟩ = some (.int .u32 0) := (blk_cell BK38104.out 0).trans rfl; have hcz10_1 : w9.cell? ⟨gb38104, 1, none⟩ = some (.int .i64 0) := (blk_cell BK38104.out 1).trans rfl; have hfz10_0 := blk_frozen BK38104.out 0; have hfz10_1 := blk_frozen BK38104.out 1) | ((with_reducible refine gate_callee (f := 47) rfl ?_); refine goesL_ (some 11) rfl rfl Tryd.func47 (by kernel_rfl) rfl #[.agg #[.int .u32 t38101, .int .i64 t38102], .int .i64 26, .int .i64 3] rfl (by (try simp only [List.map_toArray, List.map_cons, List.map_nil]); first | done | rfl | (simp only [List.length_drop, List.length_take]; rfl)) ?_; (with_reducible refine (cidr_Net_Nth.calls t38101 t38102 26 3 t38105 t38106 t38107 _ A2.out).mono ?_); rintro e w11 ⟨rfl, hb⟩; refine ⟨_, rfl, ?_⟩; have n0_ := Aside0.mk (blk_below (g := gb38104) (o := .cells #[.int .u32 t38101, .int .i64 t38102] 46 (0, 0)) (by (with_reducible repeat (first | refine blk_drewN ?_ _ | refine blk_drew ?_ | refine blk_alloc ?_ _)); refine blk_put (cs := #[.int .u32 t38101, .int .i64 0]) ?_ 1 _ rfl; (with_reducible repeat (first | refine blk_drewN ?_ _ | refine blk_drew ?_ | refine blk_alloc ?_ _)); refine blk_put (cs := #[.int .u32 0, .int .i64 0]) ?_ 0 _ rfl; (with_reducible repeat (first | refine blk_drewN ?_ _ | refine blk_drew ?_ | refine blk_alloc ?_ _)); exact BK38104.out) hb); have n1_ := Aside0.mk (below_step (by repeat (first | (with_reducible first | exact HB.out | apply below_alloc | apply pw_below_drewN | apply below_drew1 | refine below_set ?_ GE38104.out) | exact HB.out)) hb); clear BK38104; clear HB; have BK38104 := n0_; have HB := n1_; clear n0_ n1_; (try clear hb); (try clear hb2); (try clear hk); (try clear hi)) | ((with_reducible refine gate_dst (N := 3) rfl ?_); refine box_event ?hg (N := 3) ?hd (cs := #[.int .u32 0, .int .i64 0]) (t := 46) ?hr ?_; (case hd => rfl); (case hg => rfl); (case hr => first | (go_simp; done) | (go_simp; rfl)); intro gb38108 hg w12 hbox hb; have n0_ := Aside0.mk (blk_below (g := gb38104) (o := .cells #[.int .u32 t38101, .int .i64 t38102] 46 (0, 0)) (by (with_reducible repeat (first | refine blk_drewN ?_ _ | refine blk_drew ?_ | refine blk_alloc ?_ _)); exact BK38104.out) hb); have n1_ := Aside0.mk (below_step (by repeat (first | (with_reducible first | exact HB.out | apply below_alloc | apply pw_below_drewN | apply below_drew1 | refine below_set ?_ GE38104.out) | exact HB.out)) hb); have n2_ := Aside0.mk (hbox); have n3_ := Aside0.mk ((by rw [hg]; exact (below_size (by repeat (first | (with_reducible first | exact HB.out | apply below_alloc | apply pw_below_drewN | apply below_drew1 | refine below_set ?_ GE38104.out) | exact HB.out))) : w.heap.size ≤ gb38108)); have n4_ := Aside0.mk ((by rw [hg]; exact (below_size (by repeat (first | (with_reducible first | exact HB.out | apply below_alloc | apply pw_below_drewN | apply below_drew1 | refine below_set ?_ GE38104.out) | exact HB.out))) : w.heap.size ≤ gb38108)); have n5_ := Aside0.mk ((by rw [hg]; exact Nat.ne_of_lt (blk_lt (g := gb38104) (o := .cells #[.int .u32 t38101, .int .i64 t38102] 46 (0, 0)) (by (with_reducible repeat (first | refine blk_drewN ?_ _ | refine blk_drew ?_ | refine blk_alloc ?_ _)); exact BK38104.out)) : gb38104 ≠ gb38108)); have n6_ := Aside0.mk ((by rw [hg]; exact Nat.ne_of_gt (blk_lt (g := gb38104) (o := .cells #[.int .u32 t38101, .int .i64 t38102] 46 (0, 0)) (by (with_reducible repeat (first | refine blk_drewN ?_ _ | refine blk_drew ?_ | refine blk_alloc ?_ _)); exact BK38104.out)) : gb38108 ≠ gb38104)); clear BK38104; clear HB; have BK38104 := n0_; have HB := n1_; have BK38108 := n2_; have GW38108 := n3_; have GE38108 := n4_; have NB38104_38108 := n5_; have NB38108_38104 := n6_; clear n0_ n1_ n2_ n3_ n4_ n5_ n6_; clear hb hbox hg; have hnb13 := NB38108_38104.out; have hnc13 := NB38104_38108.out; have hcz14_0 : w12.cell? ⟨gb38108, 0, none⟩ = some (.int .u32 0) := (blk_cell BK38108.out 0).trans rfl; have hcz14_1 : w12.cell? ⟨gb38108, 1, none⟩ = some (.int .i64 0) := (blk_cell BK38108.out 1).trans rfl; have hfz14_0 := blk_frozen BK38108.out 0; have hfz14_1 := blk_frozen BK38108.out 1; have hcz15_0 : w12.cell? ⟨gb38104, 0, none⟩ = some (.int .u32 t38101) := (blk_cell BK38104.out 0).trans rfl; have hcz15_1 : w12.cell? ⟨gb38104, 1, none⟩ = some (.int .i64 t38102) := (blk_cell BK38104.out 1).trans rfl; have hfz15_0 := blk_frozen BK38104.out 0; have hfz15_1 := blk_frozen BK38104.out 1) | (go_at_call 48; (with_reducible refine (cidr_Net_Count.calls t38101 t38102 26 t38109 _ A5.out).mono ?_); rintro e w16 ⟨rfl, hb⟩; have n0_ := Aside0.mk (blk_below (g := gb38104) (o := .cells #[.int .u32 t38101, .int .i64 t38102] 46 (0, 0)) (by (with_reducible repeat (first | refine blk_drewN ?_ _ | refine blk_drew ?_ | refine blk_alloc ?_ _)); refine blk_far ?_ NB38104_38108.out _; (with_reducible repeat (first | refine blk_drewN ?_ _ | refine blk_drew ?_ | refine blk_alloc ?_ _)); refine blk_far ?_ NB38104_38108.out _; (with_reducible repeat (first | refine blk_drewN ?_ _ | refine blk_drew ?_ | refine blk_alloc ?_ _)); exact BK38104.out) hb); have n1_ := Aside0.mk (blk_below (g := gb38108) (o := .cells #[.int .u32 t38105, .int .i64 t38106] 46 (0, 0)) (by (with_reducible repeat (first | refine blk_drewN ?_ _ | refine blk_drew ?_ | refine blk_alloc ?_ _)); refine blk_put (cs := #[.int .u32 t38105, .int .i64 0]) ?_ 1 _ rfl; (with_reducible repeat (first | refine blk_drewN ?_ _ | refine blk_drew ?_ | refine blk_alloc ?_ _)); refine blk_put (cs := #[.int .u32 0, .int .i64 0]) ?_ 0 _ rfl; (with_reducible repeat (first | refine blk_drewN ?_ _ | refine blk_drew ?_ | refine blk_alloc ?_ _)); exact BK38108.out) hb); have n2_ := Aside0.mk (below_step (by repeat (first | (with_reducible first | exact HB.out | apply below_alloc | apply pw_below_drewN | apply below_drew1 | refine below_set ?_ GE38104.out | refine below_set ?_ GE38108.out) | exact HB.out)) hb); clear BK38104; clear BK38108; clear HB; have BK38104 := n0_; have BK38108 := n1_; have HB := n2_; clear n0_ n1_ n2_; (try clear hb); (try clear hb2); (try clear hk); (try clear hi); have hcz17_0 : w16.cell? ⟨gb38108, 0, none⟩ = some (.int .u32 t38105) := (blk_cell BK38108.out 0).trans rfl; have hcz17_1 : w16.cell? ⟨gb38108, 1, none⟩ = some (.int .i64 t38106) := (blk_cell BK38108.out 1).trans rfl; have hfz17_0 := blk_frozen BK38108.out 0; have hfz17_1 := blk_frozen BK38108.out 1) | (go_at_call 32; (with_reducible refine (cidr_Print.calls k t38105 t38106 t38110 _ A7.out).mono ?_); rintro e w18 ⟨rfl, hb⟩; have n0_ := Aside0.mk (blk_below (g := gb38104) (o := .cells #[.int .u32 t38101, .int .i64 t38102] 46 (0, 0)) (by (with_reducible repeat (first | refine blk_drewN ?_ _ | refine blk_drew ?_ | refine blk_alloc ?_ _)); exact BK38104.out) hb); have n1_ := Aside0.mk (blk_below (g := gb38108) (o := .cells #[.int .u32 t38105, .int .i64 t38106] 46 (0, 0)) (by (with_reducible repeat (first | refine blk_drewN ?_ _ | refine blk_drew ?_ | refine blk_alloc ?_ _)); exact BK38108.out) hb); have n2_ := Aside0.mk (below_step (by repeat (first | (with_reducible first | exact HB.out | apply below_alloc | apply pw_below_drewN | apply below_drew1 | refine below_set ?_ GE38104.out | refine below_set ?_ GE38108.out) | exact HB.out)) hb); clear BK38104; clear BK38108; clear HB; have BK38104 := n0_; have BK38108 := n1_; have HB := n2_; clear n0_ n1_ n2_; (try clear hb); (try clear hb2); (try clear hk); (try clear hi)))
        go_ret
        exact ⟨by first | rfl | (simp [errW_none, errW_some] <;> rfl) | (simp [*, errW_none, errW_some] <;> rfl), by repeat (first | (with_reducible first | exact HB.out | apply below_alloc | apply pw_below_drewN | apply below_drew1 | refine below_set ?_ GE38104.out | refine below_set ?_ GE38108.out) | exact HB.out)⟩
      · rw [if_neg c6] at H
        have c6b0 : (t38109 == 4) = false := beq_eq_false_iff_ne.mpr c6
        have c6b1 : (t38109 != 4) = true := bne_iff_ne.mpr c6
        obtain rfl := Option.some.inj H
        go_enter Tryd.func38, Tryd.ntmps38
        go_wp2_with (first | ((with_reducible refine gate_callee (f := 37) rfl ?_); refine goesL_ (some 6) rfl rfl Tryd.func37 (by kernel_rfl) rfl #[.string (⟨#[49, 48, 46, 48, 46, 48, 46, 48, 47, 50, 52]⟩ : ByteArray)] rfl (by (try simp only [List.map_toArray, List.map_cons, List.map_nil]); first | done | rfl | (simp only [List.length_drop, List.length_take]; rfl)) ?_; (with_reducible refine (cidr_Parse.calls (⟨#[49, 48, 46, 48, 46, 48, 46, 48, 47, 50, 52]⟩ : ByteArray) t38101 t38102 t38103 _ A1.out).mono ?_); rintro e w19 ⟨rfl, hb⟩; refine ⟨_, rfl, ?_⟩; have n0_ := Aside0.mk (below_step (by repeat (first | (with_reducible first | exact HB.out | apply below_alloc | apply pw_below_drewN | apply below_drew1) | exact HB.out)) hb); clear HB; have HB := n0_; clear n0_; (try clear hb); (try clear hb2); (try clear hk); (try clear hi)) | ((with_reducible refine gate_dst (N := 1) rfl ?_); refine box_event ?hg (N := 1) ?hd (cs := #[.int .u32 0, .int .i64 0]) (t := 46) ?hr ?_; (case hd => rfl); (case hg => rfl); (case hr => first | (go_simp; done) | (go_simp; rfl)); intro gb38104 hg w20 hbox hb; have n0_ := Aside0.mk (below_step (by repeat (first | (with_reducible first | exact HB.out | apply below_alloc | apply pw_below_drewN | apply below_drew1) | exact HB.out)) hb); have n1_ := Aside0.mk (hbox); have n2_ := Aside0.mk ((by rw [hg]; exact (below_size (by repeat (first | (with_reducible first | exact HB.out | apply below_alloc | apply pw_below_drewN | apply below_drew1) | exact HB.out))) : w.heap.size ≤ gb38104)); have n3_ := Aside0.mk ((by rw [hg]; exact (below_size (by repeat (first | (with_reducible first | exact HB.out | apply below_alloc | apply pw_below_drewN | apply below_drew1) | exact HB.out))) : w.heap.size ≤ gb38104)); clear HB; have HB := n0_; have BK38104 := n1_; have GW38104 := n2_; have GE38104 := n3_; clear n0_ n1_ n2_ n3_; clear hb hbox hg; have hcz21_0 : w20.cell? ⟨gb38104, 0, none⟩ = some (.int .u32 0) := (blk_cell BK38104.out 0).trans rfl; have hcz21_1 : w20.cell? ⟨gb38104, 1, none⟩ = some (.int .i64 0) := (blk_cell BK38104.out 1).trans rfl; have hfz21_0 := blk_frozen BK38104.out 0; have hfz21_1 := blk_frozen BK38104.out 1) | ((with_reducible refine gate_callee (f := 47) rfl ?_); refine goesL_ (some 11) rfl rfl Tryd.func47 (by kernel_rfl) rfl #[.agg #[.int .u32 t38101, .int .i64 t38102], .int .i64 26, .int .i64 3] rfl (by (try simp only [List.map_toArray, List.map_cons, List.map_nil]); first | done | rfl | (simp only [List.length_drop, List.length_take]; rfl)) ?_; (with_reducible refine (cidr_Net_Nth.calls t38101 t38102 26 3 t38105 t38106 t38107 _ A2.out).mono ?_); rintro e w22 ⟨rfl, hb⟩; refine ⟨_, rfl, ?_⟩; have n0_ := Aside0.mk (blk_below (g := gb38104) (o := .cells #[.int .u32 t38101, .int .i64 t38102] 46 (0, 0)) (by (with_reducible repeat (first | refine blk_drewN ?_ _ | refine blk_drew ?_ | refine blk_alloc ?_ _)); refine blk_put (cs := #[.int .u32 t38101, .int .i64 0]) ?_ 1 _ rfl; (with_reducible repeat (first | refine blk_drewN ?_ _ | refine blk_drew ?_ | refine blk_alloc ?_ _)); refine blk_put (cs := #[.int .u32 0, .int .i64 0]) ?_ 0 _ rfl; (with_reducible repeat (first | refine blk_drewN ?_ _ | refine blk_drew ?_ | refine blk_alloc ?_ _)); exact BK38104.out) hb); have n1_ := Aside0.mk (below_step (by repeat (first | (with_reducible first | exact HB.out | apply below_alloc | apply pw_below_drewN | apply below_drew1 | refine below_set ?_ GE38104.out) | exact HB.out)) hb); clear BK38104; clear HB; have BK38104 := n0_; have HB := n1_; clear n0_ n1_; (try clear hb); (try clear hb2); (try clear hk); (try clear hi)) | ((with_reducible refine gate_dst (N := 3) rfl ?_); refine box_event ?hg (N := 3) ?hd (cs := #[.int .u32 0, .int .i64 0]) (t := 46) ?hr ?_; (case hd => rfl); (case hg => rfl); (case hr => first | (go_simp; done) | (go_simp; rfl)); intro gb38108 hg w23 hbox hb; have n0_ := Aside0.mk (blk_below (g := gb38104) (o := .cells #[.int .u32 t38101, .int .i64 t38102] 46 (0, 0)) (by (with_reducible repeat (first | refine blk_drewN ?_ _ | refine blk_drew ?_ | refine blk_alloc ?_ _)); exact BK38104.out) hb); have n1_ := Aside0.mk (below_step (by repeat (first | (with_reducible first | exact HB.out | apply below_alloc | apply pw_below_drewN | apply below_drew1 | refine below_set ?_ GE38104.out) | exact HB.out)) hb); have n2_ := Aside0.mk (hbox); have n3_ := Aside0.mk ((by rw [hg]; exact (below_size (by repeat (first | (with_reducible first | exact HB.out | apply below_alloc | apply pw_below_drewN | apply below_drew1 | refine below_set ?_ GE38104.out) | exact HB.out))) : w.heap.size ≤ gb38108)); have n4_ := Aside0.mk ((by rw [hg]; exact (below_size (by repeat (first | (with_reducible first | exact HB.out | apply below_alloc | apply pw_below_drewN | apply below_drew1 | refine below_set ?_ GE38104.out) | exact HB.out))) : w.heap.size ≤ gb38108)); have n5_ := Aside0.mk ((by rw [hg]; exact Nat.ne_of_lt (blk_lt (g := gb38104) (o := .cells #[.int .u32 t38101, .int .i64 t38102] 46 (0, 0)) (by (with_reducible repeat (first | refine blk_drewN ?_ _ | refine blk_drew ?_ | refine blk_alloc ?_ _)); exact BK38104.out)) : gb38104 ≠ gb38108)); have n6_ := Aside0.mk ((by rw [hg]; exact Nat.ne_of_gt (blk_lt (g := gb38104) (o := .cells #[.int .u32 t38101, .int .i64 t38102] 46 (0, 0)) (by (with_reducible repeat (first | refine blk_drewN ?_ _ | refine blk_drew ?_ | refine blk_alloc ?_ _)); exact BK38104.out)) : gb38108 ≠ gb38104)); clear BK38104; clear HB; have BK38104 := n0_; have HB := n1_; have BK38108 := n2_; have GW38108 := n3_; have GE38108 := n4_; have NB38104_38108 := n5_; have NB38108_38104 := n6_; clear n0_ n1_ n2_ n3_ n4_ n5_ n6_; clear hb hbox hg; have hnb24 := NB38108_38104.out; have hnc24 := NB38104_38108.out; have hcz25_0 : w23.cell? ⟨gb38108, 0, none⟩ = some (.int .u32 0) := (blk_cell BK38108.out 0).trans rfl; have hcz25_1 : w23.cell? ⟨gb38108, 1, none⟩ = some (.int .i64 0) := (blk_cell BK38108.out 1).trans rfl; have hfz25_0 := blk_frozen BK38108.out 0; have hfz25_1 := blk_frozen BK38108.out 1; have hcz26_0 : w23.cell? ⟨gb38104, 0, none⟩ = some (.int .u32 t38101) := (blk_cell BK38104.out 0).trans rfl; have hcz26_1 : w23.cell? ⟨gb38104, 1, none⟩ = some (.int .i64 t38102) := (blk_cell BK38104.out 1).trans rfl; have hfz26_0 := blk_frozen BK38104.out 0; have hfz26_1 := blk_frozen BK38104.out 1) | (go_at_call 48; (with_reducible refine (cidr_Net_Count.calls t38101 t38102 26 t38109 _ A5.out).mono ?_); rintro e w27 ⟨rfl, hb⟩; have n0_ := Aside0.mk (blk_below (g := gb38104) (o := .cells #[.int .u32 t38101, .int .i64 t38102] 46 (0, 0)) (by (with_reducible repeat (first | refine blk_drewN ?_ _ | refine blk_drew ?_ | refine blk_alloc ?_ _)); refine blk_far ?_ NB38104_38108.out _; (with_reducible repeat (first | refine blk_drewN ?_ _ | refine blk_drew ?_ | refine blk_alloc ?_ _)); refine blk_far ?_ NB38104_38108.out _; (with_reducible repeat (first | refine blk_drewN ?_ _ | refine blk_drew ?_ | refine blk_alloc ?_ _)); exact BK38104.out) hb); have n1_ := Aside0.mk (blk_below (g := gb38108) (o := .cells #[.int .u32 t38105, .int .i64 t38106] 46 (0, 0)) (by (with_reducible repeat (first | refine blk_drewN ?_ _ | refine blk_drew ?_ | refine blk_alloc ?_ _)); refine blk_put (cs := #[.int .u32 t38105, .int .i64 0]) ?_ 1 _ rfl; (with_reducible repeat (first | refine blk_drewN ?_ _ | refine blk_drew ?_ | refine blk_alloc ?_ _)); refine blk_put (cs := #[.int .u32 0, .int .i64 0]) ?_ 0 _ rfl; (with_reducible repeat (first | refine blk_drewN ?_ _ | refine blk_drew ?_ | refine blk_alloc ?_ _)); exact BK38108.out) hb); have n2_ := Aside0.mk (below_step (by repeat (first | (with_reducible first | exact HB.out | apply below_alloc | apply pw_below_drewN | apply below_drew1 | refine below_set ?_ GE38104.out | refine below_set ?_ GE38108.out) | exact HB.out)) hb); clear BK38104; clear BK38108; clear HB; have BK38104 := n0_; have BK38108 := n1_; have HB := n2_; clear n0_ n1_ n2_; (try clear hb); (try clear hb2); (try clear hk); (try clear hi)))
        go_ret
        exact ⟨by first | rfl | (simp [errW_none, errW_some] <;> rfl) | (simp [*, errW_none, errW_some] <;> rfl), by repeat (first | (with_reducible first | exact HB.out | apply below_alloc | apply pw_below_drewN | apply below_drew1 | refine below_set ?_ GE38104.out | refine below_set ?_ GE38108.out) | exact HB.out)⟩
    · rw [if_neg c4] at H
      have c4b0 : (t38107 == 0) = false := beq_eq_false_iff_ne.mpr c4
      have c4b1 : (t38107 != 0) = true := bne_iff_ne.mpr c4
      obtain rfl := Option.some.inj H
      go_enter Tryd.func38, Tryd.ntmps38
      go_wp2_with (first | ((with_reducible refine gate_callee (f := 37) rfl ?_); refine goesL_ (some 6) rfl rfl Tryd.func37 (by kernel_rfl) rfl #[.string (⟨#[49, 48, 46, 48, 46, 48, 46, 48, 47, 50, 52]⟩ : ByteArray)] rfl (by (try simp only [List.map_toArray, List.map_cons, List.map_nil]); first | done | rfl | (simp only [List.length_drop, List.length_take]; rfl)) ?_; (with_reducible refine (cidr_Parse.calls (⟨#[49, 48, 46, 48, 46, 48, 46, 48, 47, 50, 52]⟩ : ByteArray) t38101 t38102 t38103 _ A1.out).mono ?_); rintro e w28 ⟨rfl, hb⟩; refine ⟨_, rfl, ?_⟩; have n0_ := Aside0.mk (below_step (by repeat (first | (with_reducible first | exact HB.out | apply below_alloc | apply pw_below_drewN | apply below_drew1) | exact HB.out)) hb); clear HB; have HB := n0_; clear n0_; (try clear hb); (try clear hb2); (try clear hk); (try clear hi)) | ((with_reducible refine gate_dst (N := 1) rfl ?_); refine box_event ?hg (N := 1) ?hd (cs := #[.int .u32 0, .int .i64 0]) (t := 46) ?hr ?_; (case hd => rfl); (case hg => rfl); (case hr => first | (go_simp; done) | (go_simp; rfl)); intro gb38104 hg w29 hbox hb; have n0_ := Aside0.mk (below_step (by repeat (first | (with_reducible first | exact HB.out | apply below_alloc | apply pw_below_drewN | apply below_drew1) | exact HB.out)) hb); have n1_ := Aside0.mk (hbox); have n2_ := Aside0.mk ((by rw [hg]; exact (below_size (by repeat (first | (with_reducible first | exact HB.out | apply below_alloc | apply pw_below_drewN | apply below_drew1) | exact HB.out))) : w.heap.size ≤ gb38104)); have n3_ := Aside0.mk ((by rw [hg]; exact (below_size (by repeat (first | (with_reducible first | exact HB.out | apply below_alloc | apply pw_below_drewN | apply below_drew1) | exact HB.out))) : w.heap.size ≤ gb38104)); clear HB; have HB := n0_; have BK38104 := n1_; have GW38104 := n2_; have GE38104 := n3_; clear n0_ n1_ n2_ n3_; clear hb hbox hg; have hcz30_0 : w29.cell? ⟨gb38104, 0, none⟩ = some (.int .u32 0) := (blk_cell BK38104.out 0).trans rfl; have hcz30_1 : w29.cell? ⟨gb38104, 1, none⟩ = some (.int .i64 0) := (blk_cell BK38104.out 1).trans rfl; have hfz30_0 := blk_frozen BK38104.out 0; have hfz30_1 := blk_frozen BK38104.out 1) | ((with_reducible refine gate_callee (f := 47) rfl ?_); refine goesL_ (some 11) rfl rfl Tryd.func47 (by kernel_rfl) rfl #[.agg #[.int .u32 t38101, .int .i64 t38102], .int .i64 26, .int .i64 3] rfl (by (try simp only [List.map_toArray, List.map_cons, List.map_nil]); first | done | rfl | (simp only [List.length_drop, List.length_take]; rfl)) ?_; (with_reducible refine (cidr_Net_Nth.calls t38101 t38102 26 3 t38105 t38106 t38107 _ A2.out).mono ?_); rintro e w31 ⟨rfl, hb⟩; refine ⟨_, rfl, ?_⟩; have n0_ := Aside0.mk (blk_below (g := gb38104) (o := .cells #[.int .u32 t38101, .int .i64 t38102] 46 (0, 0)) (by (with_reducible repeat (first | refine blk_drewN ?_ _ | refine blk_drew ?_ | refine blk_alloc ?_ _)); refine blk_put (cs := #[.int .u32 t38101, .int .i64 0]) ?_ 1 _ rfl; (with_reducible repeat (first | refine blk_drewN ?_ _ | refine blk_drew ?_ | refine blk_alloc ?_ _)); refine blk_put (cs := #[.int .u32 0, .int .i64 0]) ?_ 0 _ rfl; (with_reducible repeat (first | refine blk_drewN ?_ _ | refine blk_drew ?_ | refine blk_alloc ?_ _)); exact BK38104.out) hb); have n1_ := Aside0.mk (below_step (by repeat (first | (with_reducible first | exact HB.out | apply below_alloc | apply pw_below_drewN | apply below_drew1 | refine below_set ?_ GE38104.out) | exact HB.out)) hb); clear BK38104; clear HB; have BK38104 := n0_; have HB := n1_; clear n0_ n1_; (try clear hb); (try clear hb2); (try clear hk); (try clear hi)) | ((with_reducible refine gate_dst (N := 3) rfl ?_); refine box_event ?hg (N := 3) ?hd (cs := #[.int .u32 0, .int .i64 0]) (t := 46) ?hr ?_; (case hd => rfl); (case hg => rfl); (case hr => first | (go_simp; done) | (go_simp; rfl)); intro gb38108 hg w32 hbox hb; have n0_ := Aside0.mk (blk_below (g := gb38104) (o := .cells #[.int .u32 t38101, .int .i64 t38102] 46 (0, 0)) (by (with_reducible repeat (first | refine blk_drewN ?_ _ | refine blk_drew ?_ | refine blk_alloc ?_ _)); exact BK38104.out) hb); have n1_ := Aside0.mk (below_step (by repeat (first | (with_reducible first | exact HB.out | apply below_alloc | apply pw_below_drewN | apply below_drew1 | refine below_set ?_ GE38104.out) | exact HB.out)) hb); have n2_ := Aside0.mk (hbox); have n3_ := Aside0.mk ((by rw [hg]; exact (below_size (by repeat (first | (with_reducible first | exact HB.out | apply below_alloc | apply pw_below_drewN | apply below_drew1 | refine below_set ?_ GE38104.out) | exact HB.out))) : w.heap.size ≤ gb38108)); have n4_ := Aside0.mk ((by rw [hg]; exact (below_size (by repeat (first | (with_reducible first | exact HB.out | apply below_alloc | apply pw_below_drewN | apply below_drew1 | refine below_set ?_ GE38104.out) | exact HB.out))) : w.heap.size ≤ gb38108)); have n5_ := Aside0.mk ((by rw [hg]; exact Nat.ne_of_lt (blk_lt (g := gb38104) (o := .cells #[.int .u32 t38101, .int .i64 t38102] 46 (0, 0)) (by (with_reducible repeat (first | refine blk_drewN ?_ _ | refine blk_drew ?_ | refine blk_alloc ?_ _)); exact BK38104.out)) : gb38104 ≠ gb38108)); have n6_ := Aside0.mk ((by rw [hg]; exact Nat.ne_of_gt (blk_lt (g := gb38104) (o := .cells #[.int .u32 t38101, .int .i64 t38102] 46 (0, 0)) (by (with_reducible repeat (first | refine blk_drewN ?_ _ | refine blk_drew ?_ | refine blk_alloc ?_ _)); exact BK38104.out)) : gb38108 ≠ gb38104)); clear BK38104; clear HB; have BK38104 := n0_; have HB := n1_; have BK38108 := n2_; have GW38108 := n3_; have GE38108 := n4_; have NB38104_38108 := n5_; have NB38108_38104 := n6_; clear n0_ n1_ n2_ n3_ n4_ n5_ n6_; clear hb hbox hg; have hnb33 := NB38108_38104.out; have hnc33 := NB38104_38108.out; have hcz34_0 : w32.cell? ⟨gb38108, 0, none⟩ = some (.int .u32 0) := (blk_cell BK38108.out 0).trans rfl; have hcz34_1 : w32.cell? ⟨gb38108, 1, none⟩ = some (.int .i64 0) := (blk_cell BK38108.out 1).trans rfl; have hfz34_0 := blk_frozen BK38108.out 0; have hfz34_1 := blk_frozen BK38108.out 1))
      go_ret
      exact ⟨by first | rfl | (simp [errW_none, errW_some] <;> rfl) | (simp [*, errW_none, errW_some] <;> rfl), by repeat (first | (with_reducible first | exact HB.out | apply below_alloc | apply pw_below_drewN | apply below_drew1 | refine below_set ?_ GE38104.out | refine below_set ?_ GE38108.out) | exact HB.out)⟩
  · rw [if_neg c3] at H
    have c3b0 : (t38103 == 0) = false := beq_eq_false_iff_ne.mpr c3
    have c3b1 : (t38103 != 0) = true := bne_iff_ne.mpr c3
    obtain rfl := Option.some.inj H
    go_enter Tryd.func38, Tryd.ntmps38
    go_wp2_with (first | ((with_reducible refine gate_callee (f := 37) rfl ?_); refine goesL_ (some 6) rfl rfl Tryd.func37 (by kernel_rfl) rfl #[.string (⟨#[49, 48, 46, 48, 46, 48, 46, 48, 47, 50, 52]⟩ : ByteArray)] rfl (by (try simp only [List.map_toArray, List.map_cons, List.map_nil]); first | done | rfl | (simp only [List.length_drop, List.length_take]; rfl)) ?_; (with_reducible refine (cidr_Parse.calls (⟨#[49, 48, 46, 48, 46, 48, 46, 48, 47, 50, 52]⟩ : ByteArray) t38101 t38102 t38103 _ A1.out).mono ?_); rintro e w35 ⟨rfl, hb⟩; refine ⟨_, rfl, ?_⟩; have n0_ := Aside0.mk (below_step (by repeat (first | (with_reducible first | exact HB.out | apply below_alloc | apply pw_below_drewN | apply below_drew1) | exact HB.out)) hb); clear HB; have HB := n0_; clear n0_; (try clear hb); (try clear hb2); (try clear hk); (try clear hi)) | ((with_reducible refine gate_dst (N := 1) rfl ?_); refine box_event ?hg (N := 1) ?hd (cs := #[.int .u32 0, .int .i64 0]) (t := 46) ?hr ?_; (case hd => rfl); (case hg => rfl); (case hr => first | (go_simp; done) | (go_simp; rfl)); intro gb38104 hg w36 hbox hb; have n0_ := Aside0.mk (below_step (by repeat (first | (with_reducible first | exact HB.out | apply below_alloc | apply pw_below_drewN | apply below_drew1) | exact HB.out)) hb); have n1_ := Aside0.mk (hbox); have n2_ := Aside0.mk ((by rw [hg]; exact (below_size (by repeat (first | (with_reducible first | exact HB.out | apply below_alloc | apply pw_below_drewN | apply below_drew1) | exact HB.out))) : w.heap.size ≤ gb38104)); have n3_ := Aside0.mk ((by rw [hg]; exact (below_size (by repeat (first | (with_reducible first | exact HB.out | apply below_alloc | apply pw_below_drewN | apply below_drew1) | exact HB.out))) : w.heap.size ≤ gb38104)); clear HB; have HB := n0_; have BK38104 := n1_; have GW38104 := n2_; have GE38104 := n3_; clear n0_ n1_ n2_ n3_; clear hb hbox hg; have hcz37_0 : w36.cell? ⟨gb38104, 0, none⟩ = some (.int .u32 0) := (blk_cell BK38104.out 0).trans rfl; have hcz37_1 : w36.cell? ⟨gb38104, 1, none⟩ = some (.int .i64 0) := (blk_cell BK38104.out 1).trans rfl; have hfz37_0 := blk_frozen BK38104.out 0; have hfz37_1 := blk_frozen BK38104.out 1) | ((with_reducible refine gate_callee (f := 47) rfl ?_); refine goesL_ (some 11) rfl rfl Tryd.func47 (by kernel_rfl) rfl #[.agg #[.int .u32 t38101, .int .i64 t38102], .int .i64 26, .int .i64 3] rfl (by (try simp only [List.map_toArray, List.map_cons, List.map_nil]); first | done | rfl | (simp only [List.length_drop, List.length_take]; rfl)) ?_; (with_reducible refine (cidr_Net_Nth.calls t38101 t38102 26 3 t38105 t38106 t38107 _ A2.out).mono ?_); rintro e w38 ⟨rfl, hb⟩; refine ⟨_, rfl, ?_⟩; have n0_ := Aside0.mk (blk_below (g := gb38104) (o := .cells #[.int .u32 t38101, .int .i64 t38102] 46 (0, 0)) (by (with_reducible repeat (first | refine blk_drewN ?_ _ | refine blk_drew ?_ | refine blk_alloc ?_ _)); refine blk_put (cs := #[.int .u32 t38101, .int .i64 0]) ?_ 1 _ rfl; (with_reducible repeat (first | refine blk_drewN ?_ _ | refine blk_drew ?_ | refine blk_alloc ?_ _)); refine blk_put (cs := #[.int .u32 0, .int .i64 0]) ?_ 0 _ rfl; (with_reducible repeat (first | refine blk_drewN ?_ _ | refine blk_drew ?_ | refine blk_alloc ?_ _)); exact BK38104.out) hb); have n1_ := Aside0.mk (below_step (by repeat (first | (with_reducible first | exact HB.out | apply below_alloc | apply pw_below_drewN | apply below_drew1 | refine below_set ?_ GE38104.out) | exact HB.out)) hb); clear BK38104; clear HB; have BK38104 := n0_; have HB := n1_; clear n0_ n1_; (try clear hb); (try clear hb2); (try clear hk); (try clear hi)) | ((with_reducible refine gate_dst (N := 3) rfl ?_); refine box_event ?hg (N := 3) ?hd (cs := #[.int .u32 0, .int .i64 0]) (t := 46) ?hr ?_; (case hd => rfl); (case hg => rfl); (case hr => first | (go_simp; done) | (go_simp; rfl)); intro gb38108 hg w39 hbox hb; have n0_ := Aside0.mk (blk_below (g := gb38104) (o := .cells #[.int .u32 t38101, .int .i64 t38102] 46 (0, 0)) (by (with_reducible repeat (first | refine blk_drewN ?_ _ | refine blk_drew ?_ | refine blk_alloc ?_ _)); exact BK38104.out) hb); have n1_ := Aside0.mk (below_step (by repeat (first | (with_reducible first | exact HB.out | apply below_alloc | apply pw_below_drewN | apply below_drew1 | refine below_set ?_ GE38104.out) | exact HB.out)) hb); have n2_ := Aside0.mk (hbox); have n3_ := Aside0.mk ((by rw [hg]; exact (below_size (by repeat (first | (with_reducible first | exact HB.out | apply below_alloc | apply pw_below_drewN | apply below_drew1 | refine below_set ?_ GE38104.out) | exact HB.out))) : w.heap.size ≤ gb38108)); have n4_ := Aside0.mk ((by rw [hg]; exact (below_size (by repeat (first | (with_reducible first | exact HB.out | apply below_alloc | apply pw_below_drewN | apply below_drew1 | refine below_set ?_ GE38104.out) | exact HB.out))) : w.heap.size ≤ gb38108)); have n5_ := Aside0.mk ((by rw [hg]; exact Nat.ne_of_lt (blk_lt (g := gb38104) (o := .cells #[.int .u32 t38101, .int .i64 t38102] 46 (0, 0)) (by (with_reducible repeat (first | refine blk_drewN ?_ _ | refine blk_drew ?_ | refine blk_alloc ?_ _)); exact BK38104.out)) : gb38104 ≠ gb38108)); have n6_ := Aside0.mk ((by rw [hg]; exact Nat.ne_of_gt (blk_lt (g := gb38104) (o := .cells #[.int .u32 t38101, .int .i64 t38102] 46 (0, 0)) (by (with_reducible repeat (first | refine blk_drewN ?_ _ | refine blk_drew ?_ | refine blk_alloc ?_ _)); exact BK38104.out)) : gb38108 ≠ gb38104)); clear BK38104; clear HB; have BK38104 := n0_; have HB := n1_; have BK38108 := n2_; have GW38108 := n3_; have GE38108 := n4_; have NB38104_38108 := n5_; have NB38108_38104 := n6_; clear n0_ n1_ n2_ n3_ n4_ n5_ n6_; clear hb hbox hg; have hnb40 := NB38108_38104.out; have hnc40 := NB38104_38108.out; have hcz41_0 : w39.cell? ⟨gb38108, 0, none⟩ = some (.int .u32 0) := (blk_cell BK38108.out 0).trans rfl; have hcz41_1 : w39.cell? ⟨gb38108, 1, none⟩ = some (.int .i64 0) := (blk_cell BK38108.out 1).trans rfl; have hfz41_0 := blk_frozen BK38108.out 0; have hfz41_1 := blk_frozen BK38108.out 1))
    go_ret
    exact ⟨by first | rfl | (simp [errW_none, errW_some] <;> rfl) | (simp [*, errW_none, errW_some] <;> rfl), by repeat (first | (with_reducible first | exact HB.out | apply below_alloc | apply pw_below_drewN | apply below_drew1 | refine below_set ?_ GE38104.out | refine below_set ?_ GE38108.out) | exact HB.out)⟩
end Go.Proofs.YtcdopgkkieenjaaDoor.V
end

-- VFVirgatelaw02Ours
section
-- PRINTED by print.py (a twelfth state) out of the translation. Not trusted: Lean checks it.
namespace Go.Proofs.YtcdopgkkieenjaaDoor.V
open Go.RowKit Go.Proofs.YtcdopgkkieenjaaDoorW.PrintWords Go.Proofs.YtcdopgkkieenjaaDoorW.PrintLast Go.Proofs.YtcdopgkkieenjaaDoorW.PrintMore
attribute [local go_sem] max2_int min2_int max_two min_two max_three min_three max_four min_four   -- for this text's walks alone
set_option linter.unusedVariables false
set_option linter.unusedSimpArgs false

/-! ### virgatelaw02_Ours: function 33 -/
def virgatelaw02_Ours.f (a0_0 : Int) (a0_1 : Int) : Option (Int × Int) := some (a0_0, a0_1)
set_option maxHeartbeats 8000000 in
set_option maxRecDepth 100000 in
theorem virgatelaw02_Ours.calls (a0_0 : Int) (a0_1 : Int) (r1 : Int) (r2 : Int) (w : World) (h : virgatelaw02_Ours.f a0_0 a0_1 = some (r1, r2)) :
    Calls Tryd.prog 33 #[.agg #[.int .u32 a0_0, .int .i64 a0_1]] w fun e w' => e = .returned (.agg #[.int .u32 r1, .int .i64 r2]) ∧ Below w.heap.size w w' := by
  have hu44 := Tryd.underlying44
  have hu46 := Tryd.underlying46
  have HB := Aside0.mk (Below.refl w.heap.size w)
  have H : (some (a0_0, a0_1)) = some (r1, r2) := h
  clear h
  simp only [Option.some.injEq, Prod.mk.injEq] at H
  obtain ⟨rfl, rfl⟩ := H
  go_enter Tryd.func33, Tryd.ntmps33
  go_wp2_with (first | ((with_reducible refine gate_dst (N := 1) rfl ?_); refine box_event ?hg (N := 1) ?hd (cs := #[.int .u32 a0_0, .int .i64 a0_1]) (t := 44) ?hr ?_; (case hd => rfl); (case hg => rfl); (case hr => first | (go_simp; done) | (go_simp; rfl)); intro gb33101 hg w2 hbox hb; have n0_ := Aside0.mk (below_step (by repeat (first | (with_reducible first | exact HB.out | apply below_alloc | apply pw_below_drewN | apply below_drew1) | exact HB.out)) hb); have n1_ := Aside0.mk (hbox); have n2_ := Aside0.mk ((by rw [hg]; exact (below_size (by repeat (first | (with_reducible first | exact HB.out | apply below_alloc | apply pw_below_drewN | apply below_drew1) | exact HB.out))) : w.heap.size ≤ gb33101)); have n3_ := Aside0.mk ((by rw [hg]; exact (below_size (by repeat (first | (with_reducible first | exact HB.out | apply below_alloc | apply pw_below_drewN | apply below_drew1) | exact HB.out))) : w.heap.size ≤ gb33101)); clear HB; have HB := n0_; have BK33101 := n1_; have GW33101 := n2_; have GE33101 := n3_; clear n0_ n1_ n2_ n3_; clear hb hbox hg) | ((with_reducible refine gate_dst (N := 2) rfl ?_); refine box_event ?hg (N := 2) ?hd (cs := #[.int .u32 0, .int .i64 0]) (t := 46) ?hr ?_; (case hd => rfl); (case hg => rfl); (case hr => first | (go_simp; done) | (go_simp; rfl)); intro gb33102 hg w3 hbox hb; have n0_ := Aside0.mk (blk_below (g := gb33101) (o := .cells #[.int .u32 a0_0, .int .i64 a0_1] 44 (0, 0)) (by (with_reducible repeat (first | refine blk_drewN ?_ _ | refine blk_drew ?_ | refine blk_alloc ?_ _)); exact BK33101.out) hb); have n1_ := Aside0.mk (below_step (by repeat (first | (with_reducible first | exact HB.out | apply below_alloc | apply pw_below_drewN | apply below_drew1 | refine below_set ?_ GE33101.out) | exact HB.out)) hb); have n2_ := Aside0.mk (hbox); have n3_ := Aside0.mk ((by rw [hg]; exact (below_size (by repeat (first | (with_reducible first | exact HB.out | apply below_alloc | apply pw_below_drewN | apply below_drew1 | refine below_set ?_ GE33101.out) | exact HB.out))) : w.heap.size ≤ gb33102)); have n4_ := Aside0.mk ((by rw [hg]; exact (below_size (by repeat (first | (with_reducible first | exact HB.out | apply below_alloc | apply pw_below_drewN | apply below_drew1 | refine below_set ?_ GE33101.out) | exact HB.out))) : w.heap.size ≤ gb33102)); have n5_ := Aside0.mk ((by rw [hg]; exact Nat.ne_of_lt (blk_lt (g := gb33101) (o := .cells #[.int .u32 a0_0, .int .i64 a0_1] 44 (0, 0)) (by (with_reducible repeat (first | refine blk_drewN ?_ _ | refine blk_drew ?_ | refine blk_alloc ?_ _)); exact BK33101.out)) : gb33101 ≠ gb33102)); have n6_ := Aside0.mk ((by rw [hg]; exact Nat.ne_of_gt (blk_lt (g := gb33101) (o := .cells #[.int .u32 a0_0, .int .i64 a0_1] 44 (0, 0)) (by (with_reducible repeat (first | refine blk_drewN ?_ _ | refine blk_drew ?_ | refine blk_alloc ?_ _)); exact BK33101.out)) : gb33102 ≠ gb33101)); clear BK33101; clear HB; have BK33101 := n0_; have HB := n1_; have BK33102 := n2_; have GW33102 := n3_; have GE33102 := n4_; have NB33101_33102 := n5_; have NB33102_33101 := n6_; clear n0_ n1_ n2_ n3_ n4_ n5_ n6_; clear hb hbox hg; have hnb4 := NB33101_33102.out; have hnc4 := NB33102_33101.out; have hcz5_0 : w3.cell? ⟨gb33101, 0, none⟩ = some (.int .u32 a0_0) := (blk_cell BK33101.out 0).trans rfl; have hcz5_1 : w3.cell? ⟨gb33101, 1, none⟩ = some (.int .i64 a0_1) := (blk_cell BK33101.out 1).trans rfl; have hfz5_0 := blk_frozen BK33101.out 0; have hfz5_1 := blk_frozen BK33101.out 1; have hcz6_0 : w3.cell? ⟨gb33102, 0, none⟩ = some (.int .u32 0) := (blk_cell BK33102.out 0).trans rfl; have hcz6_1 : w3.cell? ⟨gb33102, 1, none⟩ = some (.int .i64 0) := (blk_cell BK33102.out 1).trans rfl; have hfz6_0 := blk_frozen BK33102.out 0; have hfz6_1 := blk_frozen BK33102.out 1))
  refine bodyPost_ret (results_cell_row rfl _ _ gb33102 46 #[.int .u32 a0_0, .int .i64 a0_1] (0, 0) _ rfl (by (with_reducible repeat (first | refine blk_drewN ?_ _ | refine blk_drew ?_ | refine blk_alloc ?_ _)); refine blk_put (cs := #[.int .u32 a0_0, .int .i64 0]) ?_ 1 _ rfl; (with_reducible repeat (first | refine blk_drewN ?_ _ | refine blk_drew ?_ | refine blk_alloc ?_ _)); refine blk_put (cs := #[.int .u32 0, .int .i64 0]) ?_ 0 _ rfl; (with_reducible repeat (first | refine blk_drewN ?_ _ | refine blk_drew ?_ | refine blk_alloc ?_ _)); exact BK33102.out) Tryd.underlying46 rfl (by kernel_rfl)) rfl ?_
  exact ⟨by first | rfl | (simp [errW_none, errW_some] <;> rfl) | (simp [*, errW_none, errW_some] <;> rfl), by repeat (first | (with_reducible first | exact HB.out | apply below_alloc | apply pw_below_drewN | apply below_drew1 | refine below_set ?_ GE33101.out | refine below_set ?_ GE33102.out) | exact HB.out)⟩
end Go.Proofs.YtcdopgkkieenjaaDoor.V
end

-- VFCidrNetSize
section
-- PRINTED by print.py (a twelfth state) out of the translation. Not trusted: Lean checks it.
namespace Go.Proofs.YtcdopgkkieenjaaDoor.V
open Go.RowKit Go.Proofs.YtcdopgkkieenjaaDoorW.PrintWords Go.Proofs.YtcdopgkkieenjaaDoorW.PrintLast Go.Proofs.YtcdopgkkieenjaaDoorW.PrintMore
attribute [local go_sem] max2_int min2_int max_two min_two max_three min_three max_four min_four   -- for this text's walks alone
set_option linter.unusedVariables false
set_option linter.unusedSimpArgs false

/-! ### cidr_Net_Size: function 51 -/
def cidr_Net_Size.f (a0_0 : Int) (a0_1 : Int) : Option (Int) := (cidr_May.f a0_0 a0_1).bind fun t51102 => (if t51102 = true then (if 0 ≤ (wrap64 (32 - a0_1)) then (some (shl .i64 1 (wrap64 (32 - a0_1)))) else (none)) else (some 0))
set_option maxHeartbeats 8000000 in
set_option maxRecDepth 100000 in
theorem cidr_Net_Size.calls (a0_0 : Int) (a0_1 : Int) (r : Int) (w : World) (h : cidr_Net_Size.f a0_0 a0_1 = some r) :
    Calls Tryd.prog 51 #[.agg #[.int .u32 a0_0, .int .i64 a0_1]] w fun e w' => e = .returned (.int .i64 r) ∧ Below w.heap.size w w' := by
  have hu46 := Tryd.underlying46
  have HB := Aside0.mk (Below.refl w.heap.size w)
  have H : ((cidr_May.f a0_0 a0_1).bind fun t51102 => (if t51102 = true then (if 0 ≤ (wrap64 (32 - a0_1)) then (some (shl .i64 1 (wrap64 (32 - a0_1)))) else (none)) else (some 0))) = some r := h
  clear h
  replace H := Option.bind_eq_some_iff.mp H
  obtain ⟨t51102, A20, H⟩ := H
  replace H : (if t51102 = true then (if 0 ≤ (wrap64 (32 - a0_1)) then (some (shl .i64 1 (wrap64 (32 - a0_1)))) else (none)) else (some 0)) = some r := H
  have A2 := Aside0.mk A20
  clear A20
  by_cases c3 : t51102 = true
  · subst c3
    have H1 : (if 0 ≤ (wrap64 (32 - a0_1)) then (some (shl .i64 1 (wrap64 (32 - a0_1)))) else (none)) = some r := by rw [if_pos rfl] at H; exact H
    clear H
    have H := H1
    clear H1
    obtain ⟨ji4, hji4⟩ : ∃ j_ : Int, (wrap64 (32 - a0_1)) = j_ := ⟨_, rfl⟩
    replace H : (if 0 ≤ (ji4) then (some (shl .i64 1 (ji4))) else (none)) = some r := by first | (rw [hji4] at H; exact H) | (simp only [hji4] at H ⊢; exact H)
    (try rw [hji4] at A2)
    have hji4w : (IntKind.i64.wrap (32 - a0_1)) = ji4 := (i64_w _).trans hji4
    by_cases c5 : 0 ≤ (ji4)
    · rw [if_pos c5] at H
      have c5b0 := eq_true c5
      have c5b1 : decide (0 ≤ (ji4)) = true := decide_eq_true c5
      clear c5
      obtain ⟨ji6, hji6⟩ : ∃ j_ : Int, (shl .i64 1 (ji4)) = j_ := ⟨_, rfl⟩
      replace H : (some ji6) = some r := by first | (rw [hji6] at H; exact H) | (simp only [hji6] at H ⊢; exact H)
      (try rw [hji6] at A2)
      have hji6_ : (IntKind.i64.wrap (1 * 2 ^ min (ji4).toNat 64)) = ji6 := hji6
      have hji6z : (ji4) ≤ 64 → (IntKind.i64.wrap (1 * 2 ^ (ji4).toNat)) = ji6 := shl_small hji6
      have hji6u : (IntKind.i64.wrap (2 ^ min (ji4).toNat 64)) = ji6 := by have h_ := hji6_; rw [Int.one_mul] at h_; exact h_
      have hji6v : (ji4) ≤ 64 → (IntKind.i64.wrap (2 ^ (ji4).toNat)) = ji6 := fun hle_ => by have h_ := hji6z hle_; rw [Int.one_mul] at h_; exact h_
      have hji6y : (wrap64 (1 * 2 ^ min (ji4).toNat 64)) = ji6 := (i64_w _).symm.trans hji6_
      have hji6x : (ji4) ≤ 64 → (wrap64 (1 * 2 ^ (ji4).toNat)) = ji6 := fun h_ => (i64_w _).symm.trans (hji6z h_)
      obtain rfl := Option.some.inj H
      go_enter Tryd.func51, Tryd.ntmps51
      go_wp2_with (first | ((with_reducible refine gate_dst (N := 1) rfl ?_); refine box_event ?hg (N := 1) ?hd (cs := #[.int .u32 a0_0, .int .i64 a0_1]) (t := 46) ?hr ?_; (case hd => rfl); (case hg => rfl); (case hr => first | (go_simp; done) | (go_simp; rfl)); intro gb51101 hg w7 hbox hb; have n0_ := Aside0.mk (below_step (by repeat (first | (with_reducible first | exact HB.out | apply below_alloc | apply pw_below_drewN | apply below_drew1) | exact HB.out)) hb); have n1_ := Aside0.mk (hbox); have n2_ := Aside0.mk ((by rw [hg]; exact (below_size (by repeat (first | (with_reducible first | exact HB.out | apply below_alloc | apply pw_below_drewN | apply below_drew1) | exact HB.out))) : w.heap.size ≤ gb51101)); have n3_ := Aside0.mk ((by rw [hg]; exact (below_size (by repeat (first | (with_reducible first | exact HB.out | apply below_alloc | apply pw_below_drewN | apply below_drew1) | exact HB.out))) : w.heap.size ≤ gb51101)); clear HB; have HB := n0_; have BK51101 := n1_; have GW51101 := n2_; have GE51101 := n3_; clear n0_ n1_ n2_ n3_; clear hb hbox hg; have hcz8_0 : w7.cell? ⟨gb51101, 0, none⟩ = some (.int .u32 a0_0) := (blk_cell BK51101.out 0).trans rfl; have hcz8_1 : w7.cell? ⟨gb51101, 1, none⟩ = some (.int .i64 a0_1) := (blk_cell BK51101.out 1).trans rfl; have hfz8_0 := blk_frozen BK51101.out 0; have hfz8_1 := blk_frozen BK51101.out 1) | ((with_reducible refine gate_callee (f := 34) rfl ?_); refine goesL_ (some 4) rfl rfl Tryd.func34 (by kernel_rfl) rfl #[.agg #[.int .u32 a0_0, .int .i64 a0_1]] rfl (by (try simp only [List.map_toArray, List.map_cons, List.map_nil]); first | done | rfl | (simp only [List.length_drop, List.length_take]; rfl)) ?_; (with_reducible refine (cidr_May.calls a0_0 a0_1 true _ A2.out).mono ?_); rintro e w9 ⟨rfl, hb⟩; refine ⟨_, rfl, ?_⟩; have n0_ := Aside0.mk (blk_below (g := gb51101) (o := .cells #[.int .u32 a0_0, .int .i64 a0_1] 46 (0, 0)) (by (with_reducible repeat (first | refine blk_drewN ?_ _ | refine blk_drew ?_ | refine blk_alloc ?_ _)); exact BK51101.out) hb); have n1_ := Aside0.mk (below_step (by repeat (first | (with_reducible first | exact HB.out | apply below_alloc | apply pw_below_drewN | apply below_drew1 | refine below_set ?_ GE51101.out) | exact HB.out)) hb); clear BK51101; clear HB; have BK51101 := n0_; have HB := n1_; clear n0_ n1_; (try clear hb); (try clear hb2); (try clear hk); (try clear hi); have hcz10_0 : w9.cell? ⟨gb51101, 0, none⟩ = some (.int .u32 a0_0) := (blk_cell BK51101.out 0).trans rfl; have hcz10_1 : w9.cell? ⟨gb51101, 1, none⟩ = some (.int .i64 a0_1) := (blk_cell BK51101.out 1).trans rfl; have hfz10_0 := blk_frozen BK51101.out 0; have hfz10_1 := blk_frozen BK51101.out 1))
      go_ret
      exact ⟨by first | rfl | (simp [errW_none, errW_some] <;> rfl) | (simp only [← hji4, ← hji6]; first | rfl | (simp [errW_none, errW_some] <;> rfl)) | (simp [*, errW_none, errW_some] <;> rfl), by repeat (first | (with_reducible first | exact HB.out | apply below_alloc | apply pw_below_drewN | apply below_drew1 | refine below_set ?_ GE51101.out) | exact HB.out)⟩
    · rw [if_neg c5] at H
      exact absurd H (by simp)
  · replace c3 := Bool.eq_false_iff.mpr c3
    subst c3
    have H1 : (some 0) = some r := by rw [if_neg (show ¬ (false = true) by decide)] at H; exact H
    clear H
    have H := H1
    clear H1
    obtain rfl := Option.some.inj H
    go_enter Tryd.func51, Tryd.ntmps51
    go_wp2_with (first | ((with_reducible refine gate_dst (N := 1) rfl ?_); refine box_event ?hg (N := 1) ?hd (cs := #[.int .u32 a0_0, .int .i64 a0_1]) (t := 46) ?hr ?_; (case hd => rfl); (case hg => rfl); (case hr => first | (go_simp; done) | (go_simp; rfl)); intro gb51101 hg w11 hbox hb; have n0_ := Aside0.mk (below_step (by repeat (first | (with_reducible first | exact HB.out | apply below_alloc | apply pw_below_drewN | apply below_drew1) | exact HB.out)) hb); have n1_ := Aside0.mk (hbox); have n2_ := Aside0.mk ((by rw [hg]; exact (below_size (by repeat (first | (with_reducible first | exact HB.out | apply below_alloc | apply pw_below_drewN | apply below_drew1) | exact HB.out))) : w.heap.size ≤ gb51101)); have n3_ := Aside0.mk ((by rw [hg]; exact (below_size (by repeat (first | (with_reducible first | exact HB.out | apply below_alloc | apply pw_below_drewN | apply below_drew1) | exact HB.out))) : w.heap.size ≤ gb51101)); clear HB; have HB := n0_; have BK51101 := n1_; have GW51101 := n2_; have GE51101 := n3_; clear n0_ n1_ n2_ n3_; clear hb hbox hg; have hcz12_0 : w11.cell? ⟨gb51101, 0, none⟩ = some (.int .u32 a0_0) := (blk_cell BK51101.out 0).trans rfl; have hcz12_1 : w11.cell? ⟨gb51101, 1, none⟩ = some (.int .i64 a0_1) := (blk_cell BK51101.out 1).trans rfl; have hfz12_0 := blk_frozen BK51101.out 0; have hfz12_1 := blk_frozen BK51101.out 1) | ((with_reducible refine gate_callee (f := 34) rfl ?_); refine goesL_ (some 4) rfl rfl Tryd.func34 (by kernel_rfl) rfl #[.agg #[.int .u32 a0_0, .int .i64 a0_1]] rfl (by (try simp only [List.map_toArray, List.map_cons, List.map_nil]); first | done | rfl | (simp only [List.length_drop, List.length_take]; rfl)) ?_; (with_reducible refine (cidr_May.calls a0_0 a0_1 false _ A2.out).mono ?_); rintro e w13 ⟨rfl, hb⟩; refine ⟨_, rfl, ?_⟩; have n0_ := Aside0.mk (blk_below (g := gb51101) (o := .cells #[.int .u32 a0_0, .int .i64 a0_1] 46 (0, 0)) (by (with_reducible repeat (first | refine blk_drewN ?_ _ | refine blk_drew ?_ | refine blk_alloc ?_ _)); exact BK51101.out) hb); have n1_ := Aside0.mk (below_step (by repeat (first | (with_reducible first | exact HB.out | apply below_alloc | apply pw_below_drewN | apply below_drew1 | refine below_set ?_ GE51101.out) | exact HB.out)) hb); clear BK51101; clear HB; have BK51101 := n0_; have HB := n1_; clear n0_ n1_; (try clear hb); (try clear hb2); (try clear hk); (try clear hi)))
    go_ret
    exact ⟨by first | rfl | (simp [errW_none, errW_some] <;> rfl) | (simp [*, errW_none, errW_some] <;> rfl), by repeat (first | (with_reducible first | exact HB.out | apply below_alloc | apply pw_below_drewN | apply below_drew1 | refine below_set ?_ GE51101.out) | exact HB.out)⟩
end Go.Proofs.YtcdopgkkieenjaaDoor.V
end

