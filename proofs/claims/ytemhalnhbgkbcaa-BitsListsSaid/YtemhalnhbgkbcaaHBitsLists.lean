/- The law BitsLists: the walk. -/
import Derived.Test.YtemhalnhbgkbcaaHBits2
import Derived.Test.YtemhalnhbgkbcaaHMan14
import Derived.Test.YtemhalnhbgkbcaaVFVirgatelaw14Same
import Derived.Test.YtemhalnhbgkbcaaHBitsOneP
namespace Go.Proofs.Ytemhalnhbgkbcaa.V
open Go.RowKit Go.Proofs.YtemhalnhbgkbcaaW.PrintWords Go.Proofs.YtemhalnhbgkbcaaW.PrintLast Go.Proofs.YtemhalnhbgkbcaaW.PrintMore
set_option linter.unusedVariables false
set_option linter.unusedSimpArgs false

/-- What is told of a slice of whole numbers that came in: it is nil; or it leads to cells, the first of which are its elements. -/
def RowOf (k : IntKind) (w : World) (a : Option Addr) (len cap : Nat) (zs : List Int) : Prop :=
  zs.length = len ∧ len ≤ cap ∧ Kd.C (Kd.int k) w a len zs ∧ ∀ n ∈ zs, (Lit.int k n).wf = true
theorem rowOf_nil (k : IntKind) (w : World) : RowOf k w none 0 0 [] := ⟨rfl, Nat.le_refl _, Kd.C_nil _ _, fun _ h => by cases h⟩
theorem rowOf_some {k : IntKind} {w : World} {x : Addr} {len cap : Nat} (zs : List Int) (hl : len ≤ cap) (hm : cap ≤ maxLen) (hz : zs.length = cap)
    (hc : ∀ i, i < zs.length → w.cell? (x.add i) = some (.int k (zs.getD i 0))) (hw : ∀ n ∈ zs, (Lit.int k n).wf = true) : RowOf k w (some x) len cap (zs.take len) := by
  have hlen : (zs.take len).length = len := by rw [List.length_take]; omega
  refine ⟨hlen, hl, Kd.C_of_reads (enc := Value.int k) (d := 0) (h1 := fun _ => rfl) ⟨hlen, by unfold maxLen at hm; omega, fun _ => ⟨x, rfl, fun j hj => ?_⟩⟩, fun n hn => hw n (List.mem_of_mem_take hn)⟩
  rw [hc j (by omega)]
  congr 2
  simp only [List.getD_eq_getElem?_getD, List.getElem?_take, hj, if_true]

theorem same14_l0 (l : List Int) (hm : l.length ≤ 9223372036854775807) : ∀ (d k i : Nat), i + d = l.length → d < k → virgatelaw14_same.l0 k l l (l.length : Int) (i : Int) = some true := by
  intro d
  induction d with
  | zero =>
    intro k i hi hk
    obtain ⟨k, rfl⟩ : ∃ m, k = m + 1 := ⟨k - 1, by omega⟩
    unfold virgatelaw14_same.l0
    rw [if_neg (by omega)]
  | succ d ih =>
    intro k i hi hk
    obtain ⟨k, rfl⟩ : ∃ m, k = m + 1 := ⟨k - 1, by omega⟩
    unfold virgatelaw14_same.l0
    rw [if_pos (by omega), if_pos (by omega), if_pos (by omega), if_pos (by omega), if_pos rfl, wrap64_succ i (by omega)]
    exact ih k (i + 1) (by omega) (by omega)
theorem same14_any (l : List Int) (A A' : Option Addr) (c c' : Nat) (hc : l.length ≤ c) (hc' : l.length ≤ c') (w : World) (hr : Kd.C (Kd.int .i64) w A l.length l) (hr' : Kd.C (Kd.int .i64) w A' l.length l) :
    Calls Try.prog 25 #[.slice A l.length c, .slice A' l.length c'] w fun e w' => e = .returned (.bool true) ∧ Drawn0 w w' := by
  refine virgatelaw14_same.calls (l.length + 1) A c l A' c' l true w hr hc hr' hc' ?_
  unfold virgatelaw14_same.f
  rw [if_pos rfl]
  exact same14_l0 l (Kd.C_max hr) l.length (l.length + 1) 0 (by omega) (by omega)
theorem ofN_eq_ofL (l : List Int) : ofN l = ofL l := eq_setNat _ _ 64 (ofN_lt l) fun j hj => by rw [ofN_testBit l j hj]; rfl
theorem ofN_listOf (s : Nat) (hs : s < 18446744073709551616) : ofN (listOf s) = s := by
  apply Nat.eq_of_testBit_eq
  intro j
  by_cases hj : j < 64
  · rw [ofN_testBit _ j hj, Bool.eq_iff_iff]
    simp only [decide_eq_true_eq, listOf, mem_listN]
    exact ⟨fun h => h.2, fun h => ⟨hj, h⟩⟩
  · have h2 : 2 ^ 64 ≤ 2 ^ j := Nat.pow_le_pow_right (by omega) (by omega)
    rw [Nat.testBit_lt_two_pow (Nat.lt_of_lt_of_le (ofN_lt _) h2), Nat.testBit_lt_two_pow (Nat.lt_of_lt_of_le hs h2)]

theorem r14_Of_n (l : List Int) (n : Nat) (hn : l.length = n) (A : Option Addr) (c : Nat) (hc : n ≤ c) (w : World) (hr : Kd.C (Kd.int .i64) w A n l) :
    Calls Try.prog 22 #[.slice A n c] w fun e w' => e = .returned (.int .u64 ((ofL l : Nat) : Int)) ∧ Drawn0 w w' := by
  subst hn
  exact r14_Of_any l A c hc w hr
set_option maxHeartbeats 4000000 in
set_option maxRecDepth 100000 in
theorem bitsLists_short (s : Nat) (HS : Aside0 (s < 18446744073709551616)) (A : Option Addr) (n cap : Nat) (zs : List Int) (w : World) (HN : Aside0 (zs.length = n)) (hcap : n ≤ cap) (HC : Aside0 (Kd.C (Kd.int .i64) w A n zs)) (h20 : n ≤ 20) :
    Calls Try.prog 5 #[.int .u64 (s : Int), .slice A n cap] w fun e w' => e = .returned (.bool true) ∧ Below w.heap.size w w' := by
  have hb : decide ((20 : Int) < (n : Int)) = false := by simp; omega
  have HE := Aside0.mk (ofN_eq_ofL zs)
  have HO := Aside0.mk (ofN_listOf s HS.out)
  go_enter Try.func5, Try.ntmps5
  go_wp2_with fail
  refine (list_any s HS.out _).mono ?_
  rintro e W1 ⟨v, rfl, hR, hb⟩
  obtain ⟨A1, c1, rfl, hc1, hC1⟩ := Kd.R_reads hR
  have HC1 := Aside0.mk hC1
  have HB1 := Aside0.mk hb
  clear hR hb hC1
  go_wp2_with fail
  refine (r14_List_any s HS.out _).mono ?_
  rintro e W2 ⟨v, rfl, hR, hb⟩
  obtain ⟨A2, c2, rfl, hc2, hC2⟩ := Kd.R_reads hR
  have HC2 := Aside0.mk hC2
  have HC1' := Aside0.mk (Kd.C_below HC1.out hb)
  have HB2 := Aside0.mk (below_step HB1.out hb)
  clear hR hb hC2
  go_wp2_with fail
  refine (same14_any (listOf s) A1 A2 c1 c2 hc1 hc2 _ HC1'.out HC2.out).mono ?_
  rintro e w' ⟨rfl, ⟨nd1, rfl⟩⟩
  go_wp2_with fail
  refine (len_any s HS.out _).mono ?_
  rintro e w' ⟨rfl, ⟨nd2, rfl⟩⟩
  go_wp2_with fail
  refine (r14_List_any s HS.out _).mono ?_
  rintro e W3 ⟨v, rfl, hR, hb⟩
  obtain ⟨A3, c3, rfl, hc3, hC3⟩ := Kd.R_reads hR
  have HB3 := Aside0.mk (below_step (pw_below_drewN HB2.out _) hb)
  clear hR hb hC3
  go_wp2_with fail
  refine (of_any zs _ HN.out A cap hcap _ (Kd.C_below HC.out HB3.out)).mono ?_
  rintro e w' ⟨rfl, ⟨nd3, rfl⟩⟩
  rw [HE.out]
  go_wp2_with fail
  refine (r14_Of_n zs _ HN.out A cap hcap _ (Kd.C_drewN (Kd.C_below HC.out HB3.out) _)).mono ?_
  rintro e w' ⟨rfl, ⟨nd4, rfl⟩⟩
  go_wp2_with fail
  refine (list_any s HS.out _).mono ?_
  rintro e W4 ⟨v, rfl, hR, hb⟩
  obtain ⟨A4, c4, rfl, hc4, hC4⟩ := Kd.R_reads hR
  have HC4 := Aside0.mk hC4
  have HB4 := Aside0.mk (below_step (pw_below_drewN HB3.out _) hb)
  clear hR hb hC4
  go_wp2_with fail
  refine (of_any (listOf s) _ rfl A4 c4 hc4 _ HC4.out).mono ?_
  rintro e w' ⟨rfl, ⟨nd5, rfl⟩⟩
  rw [HO.out]
  go_wp2_with fail
  refine (awake14_any _).mono ?_
  rintro e W5 ⟨rfl, hb⟩
  have HB5 := Aside0.mk (below_step (pw_below_drewN HB4.out _) hb)
  clear hb
  go_wp2
  go_ret
  exact ⟨rfl, HB5.out⟩
set_option maxHeartbeats 4000000 in
set_option maxRecDepth 100000 in
theorem bitsLists_long (s : Nat) (HS : Aside0 (s < 18446744073709551616)) (A : Option Addr) (n cap : Nat) (zs : List Int) (w : World) (HN0 : Aside0 (zs.length = n)) (hcap0 : n ≤ cap) (HC0 : Aside0 (Kd.C (Kd.int .i64) w A n zs)) (h20 : 20 < n) :
    Calls Try.prog 5 #[.int .u64 (s : Int), .slice A n cap] w fun e w' => e = .returned (.bool true) ∧ Below w.heap.size w w' := by
  have hb : decide ((20 : Int) < (n : Int)) = true := by simp; omega
  have hm := Kd.C_max HC0.out
  obtain ⟨i0, hi0, _, hsz, _⟩ := info_parts info3
  have hn0 := HN0.out
  obtain ⟨hcut, hA, _⟩ := print_take_of (P := Try.prog) (Value.int .i64) 0 31 3 .i64 Try.underlying31 hi0 hsz A cap zs (20 : Int) (by omega) (by omega) (by omega)
  have hl2 : (zs.take (20 : Int).toNat).length = 20 := by rw [List.length_take]; show min 20 zs.length = 20; omega
  have hC2 := Kd.C_of_reads (h1 := fun _ => rfl) (hA w (Kd.reads_of_C (by rw [hn0]; exact HC0.out)))
  rw [hl2] at hC2 hcut
  rw [hn0] at hcut
  have HC := Aside0.mk hC2
  have HN := Aside0.mk hl2
  generalize zs.take (20 : Int).toNat = ys at HC HN
  clear hA hC2 hl2 hi0 hsz hn0
  have hcap : 20 ≤ cap := by omega
  have HE := Aside0.mk (ofN_eq_ofL ys)
  have HO := Aside0.mk (ofN_listOf s HS.out)
  go_enter Try.func5, Try.ntmps5
  go_wp2_with fail
  refine (list_any s HS.out _).mono ?_
  rintro e W1 ⟨v, rfl, hR, hb⟩
  obtain ⟨A1, c1, rfl, hc1, hC1⟩ := Kd.R_reads hR
  have HC1 := Aside0.mk hC1
  have HB1 := Aside0.mk hb
  clear hR hb hC1
  go_wp2_with fail
  refine (r14_List_any s HS.out _).mono ?_
  rintro e W2 ⟨v, rfl, hR, hb⟩
  obtain ⟨A2, c2, rfl, hc2, hC2⟩ := Kd.R_reads hR
  have HC2 := Aside0.mk hC2
  have HC1' := Aside0.mk (Kd.C_below HC1.out hb)
  have HB2 := Aside0.mk (below_step HB1.out hb)
  clear hR hb hC2
  go_wp2_with fail
  refine (same14_any (listOf s) A1 A2 c1 c2 hc1 hc2 _ HC1'.out HC2.out).mono ?_
  rintro e w' ⟨rfl, ⟨nd1, rfl⟩⟩
  go_wp2_with fail
  refine (len_any s HS.out _).mono ?_
  rintro e w' ⟨rfl, ⟨nd2, rfl⟩⟩
  go_wp2_with fail
  refine (r14_List_any s HS.out _).mono ?_
  rintro e W3 ⟨v, rfl, hR, hb⟩
  obtain ⟨A3, c3, rfl, hc3, hC3⟩ := Kd.R_reads hR
  have HB3 := Aside0.mk (below_step (pw_below_drewN HB2.out _) hb)
  clear hR hb hC3
  go_wp2_with fail
  refine (of_any ys _ HN.out A cap hcap _ (Kd.C_below HC.out HB3.out)).mono ?_
  rintro e w' ⟨rfl, ⟨nd3, rfl⟩⟩
  rw [HE.out]
  go_wp2_with fail
  refine (r14_Of_n ys _ HN.out A cap hcap _ (Kd.C_drewN (Kd.C_below HC.out HB3.out) _)).mono ?_
  rintro e w' ⟨rfl, ⟨nd4, rfl⟩⟩
  go_wp2_with fail
  refine (list_any s HS.out _).mono ?_
  rintro e W4 ⟨v, rfl, hR, hb⟩
  obtain ⟨A4, c4, rfl, hc4, hC4⟩ := Kd.R_reads hR
  have HC4 := Aside0.mk hC4
  have HB4 := Aside0.mk (below_step (pw_below_drewN HB3.out _) hb)
  clear hR hb hC4
  go_wp2_with fail
  refine (of_any (listOf s) _ rfl A4 c4 hc4 _ HC4.out).mono ?_
  rintro e w' ⟨rfl, ⟨nd5, rfl⟩⟩
  rw [HO.out]
  go_wp2_with fail
  refine (awake14_any _).mono ?_
  rintro e W5 ⟨rfl, hb⟩
  have HB5 := Aside0.mk (below_step (pw_below_drewN HB4.out _) hb)
  clear hb
  go_wp2
  go_ret
  exact ⟨rfl, HB5.out⟩
theorem bitsLists_walk (a0 : Int) (A : Option Addr) (len cap : Nat) (zs : List Int) (w : World) (w0 : (Lit.int .u64 a0).wf = true) (hz : RowOf .i64 w A len cap zs) :
    Calls Try.prog 5 #[.int .u64 a0, .slice A len cap] w fun e w' => e = .returned (.bool true) ∧ Below w.heap.size w w' := by
  obtain ⟨n, rfl, hn⟩ := u64_nat' w0
  obtain ⟨hl, hlc, hC, _⟩ := hz
  by_cases h20 : 20 < len
  · exact bitsLists_long n ⟨hn⟩ A len cap zs w ⟨hl⟩ hlc ⟨hC⟩ h20
  · exact bitsLists_short n ⟨hn⟩ A len cap zs w ⟨hl⟩ hlc ⟨hC⟩ (by omega)
end Go.Proofs.Ytemhalnhbgkbcaa.V
