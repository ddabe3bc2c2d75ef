/- The law CidrCovers for every input: texts of ours, put together (part 6 of 10). No further condition. -/
import Derived.Test.YtcdopgkkieenjaaDoorCCidrCoversx2
import Derived.Test.YtcdopgkkieenjaaDoorCCidrCoversx1
import Derived.Test.YtcdopgkkieenjaaDoorCCidrCoversx4
-- ICidrM
section
/- Nets that cover and meet each other, as plain numbers. -/
namespace Go.Proofs.YtcdopgkkieenjaaDoor.V
open Go.RowKit Go.Proofs.YtcdopgkkieenjaaDoorW.PrintWords Go.Proofs.YtcdopgkkieenjaaDoorW.PrintLast Go.Proofs.YtcdopgkkieenjaaDoorW.PrintMore
set_option linter.unusedVariables false
set_option linter.unusedSimpArgs false

theorem step_le {s x y : Nat} (hs : 0 < s) (hx : s ∣ x) (hy : s ∣ y) (h : x < y) : x + s ≤ y := by
  obtain ⟨p, rfl⟩ := hx
  obtain ⟨q, rfl⟩ := hy
  have : p < q := Nat.lt_of_mul_lt_mul_left h
  have : s * (p + 1) ≤ s * q := Nat.mul_le_mul_left s this
  rw [Nat.mul_add, Nat.mul_one] at this
  exact this
theorem cover_iff (n x b c : Nat) (hb : b ≤ 32) (hc : c ≤ 32) (hn : n % sz b = 0) (hx : x % sz c = 0) : (n ≤ x ∧ x < n + sz b ∧ b ≤ c) ↔ (n ≤ x ∧ x + sz c ≤ n + sz b) := by
  have pb := sz_pos b; have pc := sz_pos c
  constructor
  · rintro ⟨h1, h2, h3⟩
    refine ⟨h1, step_le pc (Nat.dvd_of_mod_eq_zero hx) ?_ h2⟩
    exact Nat.dvd_add (Nat.dvd_trans (sz_dvd h3) (Nat.dvd_of_mod_eq_zero hn)) (sz_dvd h3)
  · rintro ⟨h1, h2⟩
    refine ⟨h1, by omega, ?_⟩
    by_cases h : b ≤ c
    · exact h
    · have := sz_lt_of (show c < b by omega) hb
      omega
theorem meet_iff (n x b c : Nat) (hb : b ≤ 32) (hc : c ≤ 32) (hn : n % sz b = 0) (hx : x % sz c = 0) :
    ((n ≤ x ∧ x < n + sz b ∧ b ≤ c) ∨ (x ≤ n ∧ n < x + sz c ∧ c ≤ b)) ↔ (x < n + sz b ∧ n < x + sz c) := by
  have pb := sz_pos b; have pc := sz_pos c
  constructor
  · rintro (⟨h1, h2, h3⟩ | ⟨h1, h2, h3⟩)
    · exact ⟨h2, by omega⟩
    · exact ⟨by omega, h2⟩
  · rintro ⟨h1, h2⟩
    rcases Nat.le_total b c with h | h
    · refine .inl ⟨?_, h1, h⟩
      by_cases g : n ≤ x
      · exact g
      · have := step_le pc (Nat.dvd_of_mod_eq_zero hx) (Nat.dvd_trans (sz_dvd h) (Nat.dvd_of_mod_eq_zero hn)) (show x < n by omega)
        omega
    · refine .inr ⟨?_, h2, h⟩
      by_cases g : x ≤ n
      · exact g
      · have := step_le pb (Nat.dvd_of_mod_eq_zero hn) (Nat.dvd_trans (sz_dvd h) (Nat.dvd_of_mod_eq_zero hx)) (show n < x by omega)
        omega
/-- Does one cover another? -/
def coversN (a : Nat) (b : Int) (x : Nat) (c : Int) : Bool := mayN x c && hasN a b x && decide (b ≤ c)
def covR (a : Nat) (b : Int) (x : Nat) (c : Int) : Bool := mayN a b && mayN x c && decide (a ≤ x) && decide (x + sz c.toNat ≤ a + sz b.toNat)
def meetR (a : Nat) (b : Int) (x : Nat) (c : Int) : Bool := mayN a b && mayN x c && decide (x < a + sz b.toNat) && decide (a < x + sz c.toNat)
theorem may_parts {a : Nat} {b : Int} (h : mayN a b = true) : ∃ n : Nat, b = n ∧ n ≤ 32 ∧ a % sz n = 0 := by
  simp only [mayN, Bool.and_eq_true, decide_eq_true_eq] at h
  exact ⟨b.toNat, by omega, by omega, h.2⟩
theorem covers_eq (a : Nat) (b : Int) (x : Nat) (c : Int) : coversN a b x c = covR a b x c := by
  unfold coversN covR hasN
  cases h1 : mayN a b with
  | false => cases mayN x c <;> simp
  | true =>
    cases h2 : mayN x c with
    | false => simp
    | true =>
      obtain ⟨n, rfl, hn, gn⟩ := may_parts h1
      obtain ⟨m, rfl, hm, gm⟩ := may_parts h2
      have := cover_iff a x n m hn hm gn gm
      rw [Bool.eq_iff_iff]
      simp only [Bool.and_eq_true, decide_eq_true_eq, Int.toNat_natCast, true_and, Bool.true_and]
      constructor
      · rintro ⟨⟨g1, g2⟩, g3⟩; exact this.1 ⟨g1, g2, by omega⟩
      · intro g; have := this.2 g; exact ⟨⟨this.1, this.2.1⟩, by omega⟩
theorem meets_eq (a : Nat) (b : Int) (x : Nat) (c : Int) : (coversN a b x c || coversN x c a b) = meetR a b x c := by
  unfold coversN meetR hasN
  cases h1 : mayN a b with
  | false => cases mayN x c <;> simp
  | true =>
    cases h2 : mayN x c with
    | false => simp
    | true =>
      obtain ⟨n, rfl, hn, gn⟩ := may_parts h1
      obtain ⟨m, rfl, hm, gm⟩ := may_parts h2
      have := meet_iff a x n m hn hm gn gm
      rw [Bool.eq_iff_iff]
      simp only [Bool.and_eq_true, Bool.or_eq_true, decide_eq_true_eq, Int.toNat_natCast, true_and, Bool.true_and]
      constructor
      · rintro (⟨⟨g1, g2⟩, g3⟩ | ⟨⟨g1, g2⟩, g3⟩)
        · exact this.1 (.inl ⟨g1, g2, by omega⟩)
        · exact this.1 (.inr ⟨g1, g2, by omega⟩)
      · intro g
        rcases this.2 g with ⟨g1, g2, g3⟩ | ⟨g1, g2, g3⟩
        · exact .inl ⟨⟨g1, g2⟩, by omega⟩
        · exact .inr ⟨⟨g1, g2⟩, by omega⟩
end Go.Proofs.YtcdopgkkieenjaaDoor.V
end

-- VFCidrNetCovers
section
-- PRINTED by print.py (a twelfth state) out of the translation. Not trusted: Lean checks it.
namespace Go.Proofs.YtcdopgkkieenjaaDoor.V
open Go.RowKit Go.Proofs.YtcdopgkkieenjaaDoorW.PrintWords Go.Proofs.YtcdopgkkieenjaaDoorW.PrintLast Go.Proofs.YtcdopgkkieenjaaDoorW.PrintMore
attribute [local go_sem] max2_int min2_int max_two min_two max_three min_three max_four min_four   -- for this text's walks alone
set_option linter.unusedVariables false
set_option linter.unusedSimpArgs false

/-! ### cidr_Net_Covers: function 40 -/
def cidr_Net_Covers.f (a0_0 : Int) (a0_1 : Int) (a1_0 : Int) (a1_1 : Int) : Option (Bool) := (cidr_May.f a1_0 a1_1).bind fun t40103 => (if t40103 = true then ((cidr_Net_Has.f a0_0 a0_1 a1_0).bind fun t40104 => (if t40104 = true then (some (decide (a1_1 ≥ a0_1))) else (some false))) else (some false))
set_option maxHeartbeats 8000000 in
set_option maxRecDepth 100000 in
theorem cidr_Net_Covers.calls (a0_0 : Int) (a0_1 : Int) (a1_0 : Int) (a1_1 : Int) (r : Bool) (w : World) (h : cidr_Net_Covers.f a0_0 a0_1 a1_0 a1_1 = some r) :
    Calls Tryd.prog 40 #[.agg #[.int .u32 a0_0, .int .i64 a0_1], .agg #[.int .u32 a1_0, .int .i64 a1_1]] w fun e w' => e = .returned (.bool r) ∧ Below w.heap.size w w' := by
  have hu46 := Tryd.underlying46
  have HB := Aside0.mk (Below.refl w.heap.size w)
  have H : ((cidr_May.f a1_0 a1_1).bind fun t40103 => (if t40103 = true then ((cidr_Net_Has.f a0_0 a0_1 a1_0).bind fun t40104 => (if t40104 = true then (some (decide (a1_1 ≥ a0_1))) else (some false))) else (some false))) = some r := h
  clear h
  replace H := Option.bind_eq_some_iff.mp H
  obtain ⟨t40103, A30, H⟩ := H
  replace H : (if t40103 = true then ((cidr_Net_Has.f a0_0 a0_1 a1_0).bind fun t40104 => (if t40104 = true then (some (decide (a1_1 ≥ a0_1))) else (some false))) else (some false)) = some r := H
  have A3 := Aside0.mk A30
  clear A30
  by_cases c4 : t40103 = true
  · subst c4
    have H1 : ((cidr_Net_Has.f a0_0 a0_1 a1_0).bind fun t40104 => (if t40104 = true then (some (decide (a1_1 ≥ a0_1))) else (some false))) = some r := by rw [if_pos rfl] at H; exact H
    clear H
    have H := H1
    clear H1
    replace H := Option.bind_eq_some_iff.mp H
    obtain ⟨t40104, A50, H⟩ := H
    replace H : (if t40104 = true then (some (decide (a1_1 ≥ a0_1))) else (some false)) = some r := H
    have A5 := Aside0.mk A50
    clear A50
    by_cases c6 : t40104 = true
    · subst c6
      have H1 : (some (decide (a1_1 ≥ a0_1))) = some r := by rw [if_pos rfl] at H; exact H
      clear H
      have H := H1
      clear H1
      obtain rfl := Option.some.inj H
      go_enter Tryd.func40, Tryd.ntmps40
      go_wp2_with (first | ((with_reducible refine gate_dst (N := 2) rfl ?_); refine box_event ?hg (N := 2) ?hd (cs := #[.int .u32 a0_0, .int .i64 a0_1]) (t := 46) ?hr ?_; (case hd => rfl); (case hg => rfl); (case hr => first | (go_simp; done) | (go_simp; rfl)); intro gb40101 hg w7 hbox hb; have n0_ := Aside0.mk (below_step (by repeat (first | (with_reducible first | exact HB.out | apply below_alloc | apply pw_below_drewN | apply below_drew1) | exact HB.out)) hb); have n1_ := Aside0.mk (hbox); have n2_ := Aside0.mk ((by rw [hg]; exact (below_size (by repeat (first | (with_reducible first | exact HB.out | apply below_alloc | apply pw_below_drewN | apply below_drew1) | exact HB.out))) : w.heap.size ≤ gb40101)); have n3_ := Aside0.mk ((by rw [hg]; exact (below_size (by repeat (first | (with_reducible first | exact HB.out | apply below_alloc | apply pw_below_drewN | apply below_drew1) | exact HB.out))) : w.heap.size ≤ gb40101)); clear HB; have HB := n0_; have BK40101 := n1_; have GW40101 := n2_; have GE40101 := n3_; clear n0_ n1_ n2_ n3_; clear hb hbox hg) | ((with_reducible refine gate_dst (N := 3) rfl ?_); refine box_event ?hg (N := 3) ?hd (cs := #[.int .u32 a1_0, .int .i64 a1_1]) (t := 46) ?hr ?_; (case hd => rfl); (case hg => rfl); (case hr => first | (go_simp; done) | (go_simp; rfl)); intro gb40102 hg w8 hbox hb; have n0_ := Aside0.mk (blk_below (g := gb40101) (o := .cells #[.int .u32 a0_0, .int .i64 a0_1] 46 (0, 0)) (by (with_reducible repeat (first | refine blk_drewN ?_ _ | refine blk_drew ?_ | refine blk_alloc ?_ _)); exact BK40101.out) hb); have n1_ := Aside0.mk (below_step (by repeat (first | (with_reducible first | exact HB.out | apply below_alloc | apply pw_below_drewN | apply below_drew1 | refine below_set ?_ GE40101.out) | exact HB.out)) hb); have n2_ := Aside0.mk (hbox); have n3_ := Aside0.mk ((by rw [hg]; exact (below_size (by repeat (first | (with_reducible first | exact HB.out | apply below_alloc | apply pw_below_drewN | apply below_drew1 | refine below_set ?_ GE40101.out) | exact HB.out))) : w.heap.size ≤ gb40102)); have n4_ := Aside0.mk ((by rw [hg]; exact (below_size (by repeat (first | (with_reducible first | exact HB.out | apply below_alloc | apply pw_below_drewN | apply below_drew1 | refine below_set ?_ GE40101.out) | exact HB.out))) : w.heap.size ≤ gb40102)); have n5_ := Aside0.mk ((by rw [hg]; exact Nat.ne_of_lt (blk_lt (g := gb40101) (o := .cells #[.int .u32 a0_0, .int .i64 a0_1] 46 (0, 0)) (by (with_reducible repeat (first | refine blk_drewN ?_ _ | refine blk_drew ?_ | refine blk_alloc ?_ _)); exact BK40101.out)) : gb40101 ≠ gb40102)); have n6_ := Aside0.mk ((by rw [hg]; exact Nat.ne_of_gt (blk_lt (g := gb40101) (o := .cells #[.int .u32 a0_0, .int .i64 a0_1] 46 (0, 0)) (by (with_reducible repeat (first | refine blk_drewN ?_ _ | refine blk_drew ?_ | refine blk_alloc ?_ _)); exact BK40101.out)) : gb40102 ≠ gb40101)); clear BK40101; clear HB; have BK40101 := n0_; have HB := n1_; have BK40102 := n2_; have GW40102 := n3_; have GE40102 := n4_; have NB40101_40102 := n5_; have NB40102_40101 := n6_; clear n0_ n1_ n2_ n3_ n4_ n5_ n6_; clear hb hbox hg; have hnb9 := NB40102_40101.out; have hnc9 := NB40101_40102.out; have hcz10_0 : w8.cell? ⟨gb40102, 0, none⟩ = some (.int .u32 a1_0) := (blk_cell BK40102.out 0).trans rfl; have hcz10_1 : w8.cell? ⟨gb40102, 1, none⟩ = some (.int .i64 a1_1) := (blk_cell BK40102.out 1).trans rfl; have hfz10_0 := blk_frozen BK40102.out 0; have hfz10_1 := blk_frozen BK40102.out 1) | ((with_reducible refine gate_callee (f := 34) rfl ?_); refine goesL_ (some 6) rfl rfl Tryd.func34 (by kernel_rfl) rfl #[.agg #[.int .u32 a1_0, .int .i64 a1_1]] rfl (by (try simp only [List.map_toArray, List.map_cons, List.map_nil]); first | done | rfl | (simp only [List.length_drop, List.length_take]; rfl)) ?_; (with_reducible refine (cidr_May.calls a1_0 a1_1 true _ A3.out).mono ?_); rintro e w11 ⟨rfl, hb⟩; refine ⟨_, rfl, ?_⟩; have n0_ := Aside0.mk (blk_below (g := gb40101) (o := .cells #[.int .u32 a0_0, .int .i64 a0_1] 46 (0, 0)) (by (with_reducible repeat (first | refine blk_drewN ?_ _ | refine blk_drew ?_ | refine blk_alloc ?_ _)); exact BK40101.out) hb); have n1_ := Aside0.mk (blk_below (g := gb40102) (o := .cells #[.int .u32 a1_0, .int .i64 a1_1] 46 (0, 0)) (by (with_reducible repeat (first | refine blk_drewN ?_ _ | refine blk_drew ?_ | refine blk_alloc ?_ _)); exact BK40102.out) hb); have n2_ := Aside0.mk (below_step (by repeat (first | (with_reducible first | exact HB.out | apply below_alloc | apply pw_below_drewN | apply below_drew1 | refine below_set ?_ GE40101.out | refine below_set ?_ GE40102.out) | exact HB.out)) hb); clear BK40101; clear BK40102; clear HB; have BK40101 := n0_; have BK40102 := n1_; have HB := n2_; clear n0_ n1_ n2_; (try clear hb); (try clear hb2); (try clear hk); (try clear hi); have hcz12_0 : w11.cell? ⟨gb40101, 0, none⟩ = some (.int .u32 a0_0) := (blk_cell BK40101.out 0).trans rfl; have hcz12_1 : w11.cell? ⟨gb40101, 1, none⟩ = some (.int .i64 a0_1) := (blk_cell BK40101.out 1).trans rfl; have hfz12_0 := blk_frozen BK40101.out 0; have hfz12_1 := blk_frozen BK40101.out 1; have hcz13_0 : w11.cell? ⟨gb40102, 0, none⟩ = some (.int .u32 a1_0) := (blk_cell BK40102.out 0).trans rfl; have hcz13_1 : w11.cell? ⟨gb40102, 1, none⟩ = some (.int .i64 a1_1) := (blk_cell BK40102.out 1).trans rfl; have hfz13_0 := blk_frozen BK40102.out 0; have hfz13_1 := blk_frozen BK40102.out 1) | (go_at_call 53; (with_reducible refine (cidr_Net_Has.calls a0_0 a0_1 a1_0 true _ A5.out).mono ?_); rintro e w14 ⟨rfl, hb⟩; have n0_ := Aside0.mk (blk_below (g := gb40101) (o := .cells #[.int .u32 a0_0, .int .i64 a0_1] 46 (0, 0)) (by (with_reducible repeat (first | refine blk_drewN ?_ _ | refine blk_drew ?_ | refine blk_alloc ?_ _)); exact BK40101.out) hb); have n1_ := Aside0.mk (blk_below (g := gb40102) (o := .cells #[.int .u32 a1_0, .int .i64 a1_1] 46 (0, 0)) (by (with_reducible repeat (first | refine blk_drewN ?_ _ | refine blk_drew ?_ | refine blk_alloc ?_ _)); exact BK40102.out) hb); have n2_ := Aside0.mk (below_step (by repeat (first | (with_reducible first | exact HB.out | apply below_alloc | apply pw_below_drewN | apply below_drew1 | refine below_set ?_ GE40101.out | refine below_set ?_ GE40102.out) | exact HB.out)) hb); clear BK40101; clear BK40102; clear HB; have BK40101 := n0_; have BK40102 := n1_; have HB := n2_; clear n0_ n1_ n2_; (try clear hb); (try clear hb2); (try clear hk); (try clear hi); have hcz15_0 : w14.cell? ⟨gb40102, 0, none⟩ = some (.int .u32 a1_0) := (blk_cell BK40102.out 0).trans rfl; have hcz15_1 : w14.cell? ⟨gb40102, 1, none⟩ = some (.int .i64 a1_1) := (blk_cell BK40102.out 1).trans rfl; have hfz15_0 := blk_frozen BK40102.out 0; have hfz15_1 := blk_frozen BK40102.out 1; have hcz16_0 : w14.cell? ⟨gb40101, 0, none⟩ = some (.int .u32 a0_0) := (blk_cell BK40101.out 0).trans rfl; have hcz16_1 : w14.cell? ⟨gb40101, 1, none⟩ = some (.int .i64 a0_1) := (blk_cell BK40101.out 1).trans rfl; have hfz16_0 := blk_frozen BK40101.out 0; have hfz16_1 := blk_frozen BK40101.out 1))
      go_ret
      exact ⟨by first | rfl | (simp [errW_none, errW_some] <;> rfl) | (simp [*, errW_none, errW_some] <;> rfl), by repeat (first | (with_reducible first | exact HB.out | apply below_alloc | apply pw_below_drewN | apply below_drew1 | refine below_set ?_ GE40101.out | refine below_set ?_ GE40102.out) | exact HB.out)⟩
    · replace c6 := Bool.eq_false_iff.mpr c6
      subst c6
      have H1 : (some false) = some r := by rw [if_neg (show ¬ (false = true) by decide)] at H; exact H
      clear H
      have H := H1
      clear H1
      obtain rfl := Option.some.inj H
      go_enter Tryd.func40, Tryd.ntmps40
      go_wp2_with (first | ((with_reducible refine gate_dst (N := 2) rfl ?_); refine box_event ?hg (N := 2) ?hd (cs := #[.int .u32 a0_0, .int .i64 a0_1]) (t := 46) ?hr ?_; (case hd => rfl); (case hg => rfl); (case hr => first | (go_simp; done) | (go_simp; rfl)); intro gb40101 hg w17 hbox hb; have n0_ := Aside0.mk (below_step (by repeat (first | (with_reducible first | exact HB.out | apply below_alloc | apply pw_below_drewN | apply below_drew1) | exact HB.out)) hb); have n1_ := Aside0.mk (hbox); have n2_ := Aside0.mk ((by rw [hg]; exact (below_size (by repeat (first | (with_reducible first | exact HB.out | apply below_alloc | apply pw_below_drewN | apply below_drew1) | exact HB.out))) : w.heap.size ≤ gb40101)); have n3_ := Aside0.mk ((by rw [hg]; exact (below_size (by repeat (first | (with_reducible first | exact HB.out | apply below_alloc | apply pw_below_drewN | apply below_drew1) | exact HB.out))) : w.heap.size ≤ gb40101)); clear HB; have HB := n0_; have BK40101 := n1_; have GW40101 := n2_; have GE40101 := n3_; clear n0_ n1_ n2_ n3_; clear hb hbox hg) | ((with_reducible refine gate_dst (N := 3) rfl ?_); refine box_event ?hg (N := 3) ?hd (cs := #[.int .u32 a1_0, .int .i64 a1_1]) (t := 46) ?hr ?_; (case hd => rfl); (case hg => rfl); (case hr => first | (go_simp; done) | (go_simp; rfl)); intro gb40102 hg w18 hbox hb; have n0_ := Aside0.mk (blk_below (g := gb40101) (o := .cells #[.int .u32 a0_0, .int .i64 a0_1] 46 (0, 0)) (by (with_reducible repeat (first | refine blk_drewN ?_ _ | refine blk_drew ?_ | refine blk_alloc ?_ _)); exact BK40101.out) hb); have n1_ := Aside0.mk (below_step (by repeat (first | (with_reducible first | exact HB.out | apply below_alloc | apply pw_below_drewN | apply below_drew1 | refine below_set ?_ GE40101.out) | exact HB.out)) hb); have n2_ := Aside0.mk (hbox); have n3_ := Aside0.mk ((by rw [hg]; exact (below_size (by repeat (first | (with_reducible first | exact HB.out | apply below_alloc | apply pw_below_drewN | apply below_drew1 | refine below_set ?_ GE40101.out) | exact HB.out))) : w.heap.size ≤ gb40102)); have n4_ := Aside0.mk ((by rw [hg]; exact (below_size (by repeat (first | (with_reducible first | exact HB.out | apply below_alloc | apply pw_below_drewN | apply below_drew1 | refine below_set ?_ GE40101.out) | exact HB.out))) : w.heap.size ≤ gb40102)); have n5_ := Aside0.mk ((by rw [hg]; exact Nat.ne_of_lt (blk_lt (g := gb40101) (o := .cells #[.int .u32 a0_0, .int .i64 a0_1] 46 (0, 0)) (by (with_reducible repeat (first | refine blk_drewN ?_ _ | refine blk_drew ?_ | refine blk_alloc ?_ _)); exact BK40101.out)) : gb40101 ≠ gb40102)); have n6_ := Aside0.mk ((by rw [hg]; exact Nat.ne_of_gt (blk_lt (g := gb40101) (o := .cells #[.int .u32 a0_0, .int .i64 a0_1] 46 (0, 0)) (by (with_reducible repeat (first | refine blk_drewN ?_ _ | refine blk_drew ?_ | refine blk_alloc ?_ _)); exact BK40101.out)) : gb40102 ≠ gb40101)); clear BK40101; clear HB; have BK40101 := n0_; have HB := n1_; have BK40102 := n2_; have GW40102 := n3_; have GE40102 := n4_; have NB40101_40102 := n5_; have NB40102_40101 := n6_; clear n0_ n1_ n2_ n3_ n4_ n5_ n6_; clear hb hbox hg; have hnb19 := NB40102_40101.out; have hnc19 := NB40101_40102.out; have hcz20_0 : w18.cell? ⟨gb40102, 0, none⟩ = some (.int .u32 a1_0) := (blk_cell BK40102.out 0).trans rfl; have hcz20_1 : w18.cell? ⟨gb40102, 1, none⟩ = some (.int .i64 a1_1) := (blk_cell BK40102.out 1).trans rfl; have hfz20_0 := blk_frozen BK40102.out 0; have hfz20_1 := blk_frozen BK40102.out 1) | ((with_reducible refine gate_callee (f := 34) rfl ?_); refine goesL_ (some 6) rfl rfl Tryd.func34 (by kernel_rfl) rfl #[.agg #[.int .u32 a1_0, .int .i64 a1_1]] rfl (by (try simp only [List.map_toArray, List.map_cons, List.map_nil]); first | done | rfl | (simp only [List.length_drop, List.length_take]; rfl)) ?_; (with_reducible refine (cidr_May.calls a1_0 a1_1 true _ A3.out).mono ?_); rintro e w21 ⟨rfl, hb⟩; refine ⟨_, rfl, ?_⟩; have n0_ := Aside0.mk (blk_below (g := gb40101) (o := .cells #[.int .u32 a0_0, .int .i64 a0_1] 46 (0, 0)) (by (with_reducible repeat (first | refine blk_drewN ?_ _ | refine blk_drew ?_ | refine blk_alloc ?_ _)); exact BK40101.out) hb); have n1_ := Aside0.mk (blk_below (g := gb40102) (o := .cells #[.int .u32 a1_0, .int .i64 a1_1] 46 (0, 0)) (by (with_reducible repeat (first | refine blk_drewN ?_ _ | refine blk_drew ?_ | refine blk_alloc ?_ _)); exact BK40102.out) hb); have n2_ := Aside0.mk (below_step (by repeat (first | (with_reducible first | exact HB.out | apply below_alloc | apply pw_below_drewN | apply below_drew1 | refine below_set ?_ GE40101.out | refine below_set ?_ GE40102.out) | exact HB.out)) hb); clear BK40101; clear BK40102; clear HB; have BK40101 := n0_; have BK40102 := n1_; have HB := n2_; clear n0_ n1_ n2_; (try clear hb); (try clear hb2); (try clear hk); (try clear hi); have hcz22_0 : w21.cell? ⟨gb40101, 0, none⟩ = some (.int .u32 a0_0) := (blk_cell BK40101.out 0).trans rfl; have hcz22_1 : w21.cell? ⟨gb40101, 1, none⟩ = some (.int .i64 a0_1) := (blk_cell BK40101.out 1).trans rfl; have hfz22_0 := blk_frozen BK40101.out 0; have hfz22_1 := blk_frozen BK40101.out 1; have hcz23_0 : w21.cell? ⟨gb40102, 0, none⟩ = some (.int .u32 a1_0) := (blk_cell BK40102.out 0).trans rfl; have hcz23_1 : w21.cell? ⟨gb40102, 1, none⟩ = some (.int .i64 a1_1) := (blk_cell BK40102.out 1).trans rfl; have hfz23_0 := blk_frozen BK40102.out 0; have hfz23_1 := blk_frozen BK40102.out 1) | (go_at_call 53; (with_reducible refine (cidr_Net_Has.calls a0_0 a0_1 a1_0 false _ A5.out).mono ?_); rintro e w24 ⟨rfl, hb⟩; have n0_ := Aside0.mk (blk_below (g := gb40101) (o := .cells #[.int .u32 a0_0, .int .i64 a0_1] 46 (0, 0)) (by (with_reducible repeat (first | refine blk_drewN ?_ _ | refine blk_drew ?_ | refine blk_alloc ?_ _)); exact BK40101.out) hb); have n1_ := Aside0.mk (blk_below (g := gb40102) (o := .cells #[.int .u32 a1_0, .int .i64 a1_1] 46 (0, 0)) (by (with_reducible repeat (first | refine blk_drewN ?_ _ | refine blk_drew ?_ | refine blk_alloc ?_ _)); exact BK40102.out) hb); have n2_ := Aside0.mk (below_step (by repeat (first | (with_reducible first | exact HB.out | apply below_alloc | apply pw_below_drewN | apply below_drew1 | refine below_set ?_ GE40101.out | refine below_set ?_ GE40102.out) | exact HB.out)) hb); clear BK40101; clear BK40102; clear HB; have BK40101 := n0_; have BK40102 := n1_; have HB := n2_; clear n0_ n1_ n2_; (try clear hb); (try clear hb2); (try clear hk); (try clear hi)))
      go_ret
      exact ⟨by first | rfl | (simp [errW_none, errW_some] <;> rfl) | (simp [*, errW_none, errW_some] <;> rfl), by repeat (first | (with_reducible first | exact HB.out | apply below_alloc | apply pw_below_drewN | apply below_drew1 | refine below_set ?_ GE40101.out | refine below_set ?_ GE40102.out) | exact HB.out)⟩
  · replace c4 := Bool.eq_false_iff.mpr c4
    subst c4
    have H1 : (some false) = some r := by rw [if_neg (show ¬ (false = true) by decide)] at H; exact H
    clear H
    have H := H1
    clear H1
    obtain rfl := Option.some.inj H
    go_enter Tryd.func40, Tryd.ntmps40
    go_wp2_with (first | ((with_reducible refine gate_dst (N := 2) rfl ?_); refine box_event ?hg (N := 2) ?hd (cs := #[.int .u32 a0_0, .int .i64 a0_1]) (t := 46) ?hr ?_; (case hd => rfl); (case hg => rfl); (case hr => first | (go_simp; done) | (go_simp; rfl)); intro gb40101 hg w25 hbox hb; have n0_ := Aside0.mk (below_step (by repeat (first | (with_reducible first | exact HB.out | apply below_alloc | apply pw_below_drewN | apply below_drew1) | exact HB.out)) hb); have n1_ := Aside0.mk (hbox); have n2_ := Aside0.mk ((by rw [hg]; exact (below_size (by repeat (first | (with_reducible first | exact HB.out | apply below_alloc | apply pw_below_drewN | apply below_drew1) | exact HB.out))) : w.heap.size ≤ gb40101)); have n3_ := Aside0.mk ((by rw [hg]; exact (below_size (by repeat (first | (with_reducible first | exact HB.out | apply below_alloc | apply pw_below_drewN | apply below_drew1) | exact HB.out))) : w.heap.size ≤ gb40101)); clear HB; have HB := n0_; have BK40101 := n1_; have GW40101 := n2_; have GE40101 := n3_; clear n0_ n1_ n2_ n3_; clear hb hbox hg) | ((with_reducible refine gate_dst (N := 3) rfl ?_); refine box_event ?hg (N := 3) ?hd (cs := #[.int .u32 a1_0, .int .i64 a1_1]) (t := 46) ?hr ?_; (case hd => rfl); (case hg => rfl); (case hr => first | (go_simp; done) | (go_simp; rfl)); intro gb40102 hg w26 hbox hb; have n0_ := Aside0.mk (blk_below (g := gb40101) (o := .cells #[.int .u32 a0_0, .int .i64 a0_1] 46 (0, 0)) (by (with_reducible repeat (first | refine blk_drewN ?_ _ | refine blk_drew ?_ | refine blk_alloc ?_ _)); exact BK40101.out) hb); have n1_ := Aside0.mk (below_step (by repeat (first | (with_reducible first | exact HB.out | apply below_alloc | apply pw_below_drewN | apply below_drew1 | refine below_set ?_ GE40101.out) | exact HB.out)) hb); have n2_ := Aside0.mk (hbox); have n3_ := Aside0.mk ((by rw [hg]; exact (below_size (by repeat (first | (with_reducible first | exact HB.out | apply below_alloc | apply pw_below_drewN | apply below_drew1 | refine below_set ?_ GE40101.out) | exact HB.out))) : w.heap.size ≤ gb40102)); have n4_ := Aside0.mk ((by rw [hg]; exact (below_size (by repeat (first | (with_reducible first | exact HB.out | apply below_alloc | apply pw_below_drewN | apply below_drew1 | refine below_set ?_ GE40101.out) | exact HB.out))) : w.heap.size ≤ gb40102)); have n5_ := Aside0.mk ((by rw [hg]; exact Nat.ne_of_lt (blk_lt (g := gb40101) (o := .cells #[.int .u32 a0_0, .int .i64 a0_1] 46 (0, 0)) (by (with_reducible repeat (first | refine blk_drewN ?_ _ | refine blk_drew ?_ | refine blk_alloc ?_ _)); exact BK40101.out)) : gb40101 ≠ gb40102)); have n6_ := Aside0.mk ((by rw [hg]; exact Nat.ne_of_gt (blk_lt (g := gb40101) (o := .cells #[.int .u32 a0_0, .int .i64 a0_1] 46 (0, 0)) (by (with_reducible repeat (first | refine blk_drewN ?_ _ | refine blk_drew ?_ | refine blk_alloc ?_ _)); exact BK40101.out)) : gb40102 ≠ gb40101)); clear BK40101; clear HB; have BK40101 := n0_; have HB := n1_; have BK40102 := n2_; have GW40102 := n3_; have GE40102 := n4_; have NB40101_40102 := n5_; have NB40102_40101 := n6_; clear n0_ n1_ n2_ n3_ n4_ n5_ n6_; clear hb hbox hg; have hnb27 := NB40102_40101.out; have hnc27 := NB40101_40102.out; have hcz28_0 : w26.cell? ⟨gb40102, 0, none⟩ = some (.int .u32 a1_0) := (blk_cell BK40102.out 0).trans rfl; have hcz28_1 : w26.cell? ⟨gb40102, 1, none⟩ = some (.int .i64 a1_1) := (blk_cell BK40102.out 1).trans rfl; have hfz28_0 := blk_frozen BK40102.out 0; have hfz28_1 := blk_frozen BK40102.out 1) | ((with_reducible refine gate_callee (f := 34) rfl ?_); refine goesL_ (some 6) rfl rfl Tryd.func34 (by kernel_rfl) rfl #[.agg #[.int .u32 a1_0, .int .i64 a1_1]] rfl (by (try simp only [List.map_toArray, List.map_cons, List.map_nil]); first | done | rfl | (simp only [List.length_drop, List.length_take]; rfl)) ?_; (with_reducible refine (cidr_May.calls a1_0 a1_1 false _ A3.out).mono ?_); rintro e w29 ⟨rfl, hb⟩; refine ⟨_, rfl, ?_⟩; have n0_ := Aside0.mk (blk_below (g := gb40101) (o := .cells #[.int .u32 a0_0, .int .i64 a0_1] 46 (0, 0)) (by (with_reducible repeat (first | refine blk_drewN ?_ _ | refine blk_drew ?_ | refine blk_alloc ?_ _)); exact BK40101.out) hb); have n1_ := Aside0.mk (blk_below (g := gb40102) (o := .cells #[.int .u32 a1_0, .int .i64 a1_1] 46 (0, 0)) (by (with_reducible repeat (first | refine blk_drewN ?_ _ | refine blk_drew ?_ | refine blk_alloc ?_ _)); exact BK40102.out) hb); have n2_ := Aside0.mk (below_step (by repeat (first | (with_reducible first | exact HB.out | apply below_alloc | apply pw_below_drewN | apply below_drew1 | refine below_set ?_ GE40101.out | refine below_set ?_ GE40102.out) | exact HB.out)) hb); clear BK40101; clear BK40102; clear HB; have BK40101 := n0_; have BK40102 := n1_; have HB := n2_; clear n0_ n1_ n2_; (try clear hb); (try clear hb2); (try clear hk); (try clear hi)))
    go_ret
    exact ⟨by first | rfl | (simp [errW_none, errW_some] <;> rfl) | (simp [*, errW_none, errW_some] <;> rfl), by repeat (first | (with_reducible first | exact HB.out | apply below_alloc | apply pw_below_drewN | apply below_drew1 | refine below_set ?_ GE40101.out | refine below_set ?_ GE40102.out) | exact HB.out)⟩
end Go.Proofs.YtcdopgkkieenjaaDoor.V
end

-- L2c
section
/- Layer 2: whether a net covers another one. -/
namespace Go.Proofs.YtcdopgkkieenjaaDoor.V
open Go.RowKit Go.Proofs.YtcdopgkkieenjaaDoorW.PrintWords Go.Proofs.YtcdopgkkieenjaaDoorW.PrintLast Go.Proofs.YtcdopgkkieenjaaDoorW.PrintMore
set_option linter.unusedVariables false
set_option linter.unusedSimpArgs false
theorem covers_f (a : Nat) (ha : a < 4294967296) (b : Int) (x : Nat) (hx : x < 4294967296) (c : Int) : cidr_Net_Covers.f (a : Int) b (x : Int) c = some (coversN a b x c) := by
  unfold cidr_Net_Covers.f coversN
  rw [may_f x hx, Option.bind_some, has_f a ha b x hx]
  cases mayN x c <;> cases hasN a b x <;> simp
end Go.Proofs.YtcdopgkkieenjaaDoor.V
end

-- VFCidrNetMeets
section
-- PRINTED by print.py (a twelfth state) out of the translation. Not trusted: Lean checks it.
namespace Go.Proofs.YtcdopgkkieenjaaDoor.V
open Go.RowKit Go.Proofs.YtcdopgkkieenjaaDoorW.PrintWords Go.Proofs.YtcdopgkkieenjaaDoorW.PrintLast Go.Proofs.YtcdopgkkieenjaaDoorW.PrintMore
attribute [local go_sem] max2_int min2_int max_two min_two max_three min_three max_four min_four   -- for this text's walks alone
set_option linter.unusedVariables false
set_option linter.unusedSimpArgs false

/-! ### cidr_Net_Meets: function 42 -/
def cidr_Net_Meets.f (a0_0 : Int) (a0_1 : Int) (a1_0 : Int) (a1_1 : Int) : Option (Bool) := (cidr_Net_Covers.f a0_0 a0_1 a1_0 a1_1).bind fun t42103 => (if t42103 = true then (some true) else ((cidr_Net_Covers.f a1_0 a1_1 a0_0 a0_1).bind fun t42104 => (some t42104)))
set_option maxHeartbeats 8000000 in
set_option maxRecDepth 100000 in
theorem cidr_Net_Meets.calls (a0_0 : Int) (a0_1 : Int) (a1_0 : Int) (a1_1 : Int) (r : Bool) (w : World) (h : cidr_Net_Meets.f a0_0 a0_1 a1_0 a1_1 = some r) :
    Calls Tryd.prog 42 #[.agg #[.int .u32 a0_0, .int .i64 a0_1], .agg #[.int .u32 a1_0, .int .i64 a1_1]] w fun e w' => e = .returned (.bool r) ∧ Below w.heap.size w w' := by
  have hu46 := Tryd.underlying46
  have HB := Aside0.mk (Below.refl w.heap.size w)
  have H : ((cidr_Net_Covers.f a0_0 a0_1 a1_0 a1_1).bind fun t42103 => (if t42103 = true then (some true) else ((cidr_Net_Covers.f a1_0 a1_1 a0_0 a0_1).bind fun t42104 => (some t42104)))) = some r := h
  clear h
  replace H := Option.bind_eq_some_iff.mp H
  obtain ⟨t42103, A30, H⟩ := H
  replace H : (if t42103 = true then (some true) else ((cidr_Net_Covers.f a1_0 a1_1 a0_0 a0_1).bind fun t42104 => (some t42104))) = some r := H
  have A3 := Aside0.mk A30
  clear A30
  by_cases c4 : t42103 = true
  · subst c4
    have H1 : (some true) = some r := by rw [if_pos rfl] at H; exact H
    clear H
    have H := H1
    clear H1
    obtain rfl := Option.some.inj H
    go_enter Tryd.func42, Tryd.ntmps42
    go_wp2_with (first | ((with_reducible refine gate_dst (N := 2) rfl ?_); refine box_event ?hg (N := 2) ?hd (cs := #[.int .u32 a0_0, .int .i64 a0_1]) (t := 46) ?hr ?_; (case hd => rfl); (case hg => rfl); (case hr => first | (go_simp; done) | (go_simp; rfl)); intro gb42101 hg w5 hbox hb; have n0_ := Aside0.mk (below_step (by repeat (first | (with_reducible first | exact HB.out | apply below_alloc | apply pw_below_drewN | apply below_drew1) | exact HB.out)) hb); have n1_ := Aside0.mk (hbox); have n2_ := Aside0.mk ((by rw [hg]; exact (below_size (by repeat (first | (with_reducible first | exact HB.out | apply below_alloc | apply pw_below_drewN | apply below_drew1) | exact HB.out))) : w.heap.size ≤ gb42101)); have n3_ := Aside0.mk ((by rw [hg]; exact (below_size (by repeat (first | (with_reducible first | exact HB.out | apply below_alloc | apply pw_below_drewN | apply below_drew1) | exact HB.out))) : w.heap.size ≤ gb42101)); clear HB; have HB := n0_; have BK42101 := n1_; have GW42101 := n2_; have GE42101 := n3_; clear n0_ n1_ n2_ n3_; clear hb hbox hg) | ((with_reducible refine gate_dst (N := 3) rfl ?_); refine box_event ?hg (N := 3) ?hd (cs := #[.int .u32 a1_0, .int .i64 a1_1]) (t := 46) ?hr ?_; (case hd => rfl); (case hg => rfl); (case hr => first | (go_simp; done) | (go_simp; rfl)); intro gb42102 hg w6 hbox hb; have n0_ := Aside0.mk (blk_below (g := gb42101) (o := .cells #[.int .u32 a0_0, .int .i64 a0_1] 46 (0, 0)) (by (with_reducible repeat (first | refine blk_drewN ?_ _ | refine blk_drew ?_ | refine blk_alloc ?_ _)); exact BK42101.out) hb); have n1_ := Aside0.mk (below_step (by repeat (first | (with_reducible first | exact HB.out | apply below_alloc | apply pw_below_drewN | apply below_drew1 | refine below_set ?_ GE42101.out) | exact HB.out)) hb); have n2_ := Aside0.mk (hbox); have n3_ := Aside0.mk ((by rw [hg]; exact (below_size (by repeat (first | (with_reducible first | exact HB.out | apply below_alloc | apply pw_below_drewN | apply below_drew1 | refine below_set ?_ GE42101.out) | exact HB.out))) : w.heap.size ≤ gb42102)); have n4_ := Aside0.mk ((by rw [hg]; exact (below_size (by repeat (first | (with_reducible first | exact HB.out | apply below_alloc | apply pw_below_drewN | apply below_drew1 | refine below_set ?_ GE42101.out) | exact HB.out))) : w.heap.size ≤ gb42102)); have n5_ := Aside0.mk ((by rw [hg]; exact Nat.ne_of_lt (blk_lt (g := gb42101) (o := .cells #[.int .u32 a0_0, .int .i64 a0_1] 46 (0, 0)) (by (with_reducible repeat (first | refine blk_drewN ?_ _ | refine blk_drew ?_ | refine blk_alloc ?_ _)); exact BK42101.out)) : gb42101 ≠ gb42102)); have n6_ := Aside0.mk ((by rw [hg]; exact Nat.ne_of_gt (blk_lt (g := gb42101) (o := .cells #[.int .u32 a0_0, .int .i64 a0_1] 46 (0, 0)) (by (with_reducible repeat (first | refine blk_drewN ?_ _ | refine blk_drew ?_ | refine blk_alloc ?_ _)); exact BK42101.out)) : gb42102 ≠ gb42101)); clear BK42101; clear HB; have BK42101 := n0_; have HB := n1_; have BK42102 := n2_; have GW42102 := n3_; have GE42102 := n4_; have NB42101_42102 := n5_; have NB42102_42101 := n6_; clear n0_ n1_ n2_ n3_ n4_ n5_ n6_; clear hb hbox hg; have hnb7 := NB42101_42102.out; have hnc7 := NB42102_42101.out; have hcz8_0 : w6.cell? ⟨gb42101, 0, none⟩ = some (.int .u32 a0_0) := (blk_cell BK42101.out 0).trans rfl; have hcz8_1 : w6.cell? ⟨gb42101, 1, none⟩ = some (.int .i64 a0_1) := (blk_cell BK42101.out 1).trans rfl; have hfz8_0 := blk_frozen BK42101.out 0; have hfz8_1 := blk_frozen BK42101.out 1; have hcz9_0 : w6.cell? ⟨gb42102, 0, none⟩ = some (.int .u32 a1_0) := (blk_cell BK42102.out 0).trans rfl; have hcz9_1 : w6.cell? ⟨gb42102, 1, none⟩ = some (.int .i64 a1_1) := (blk_cell BK42102.out 1).trans rfl; have hfz9_0 := blk_frozen BK42102.out 0; have hfz9_1 := blk_frozen BK42102.out 1) | ((with_reducible refine gate_callee (f := 40) rfl ?_); refine goesL_ (some 7) rfl rfl Tryd.func40 (by kernel_rfl) rfl #[.agg #[.int .u32 a0_0, .int .i64 a0_1], .agg #[.int .u32 a1_0, .int .i64 a1_1]] rfl (by (try simp only [List.map_toArray, List.map_cons, List.map_nil]); first | done | rfl | (simp only [List.length_drop, List.length_take]; rfl)) ?_; (with_reducible refine (cidr_Net_Covers.calls a0_0 a0_1 a1_0 a1_1 true _ A3.out).mono ?_); rintro e w10 ⟨rfl, hb⟩; refine ⟨_, rfl, ?_⟩; have n0_ := Aside0.mk (blk_below (g := gb42101) (o := .cells #[.int .u32 a0_0, .int .i64 a0_1] 46 (0, 0)) (by (with_reducible repeat (first | refine blk_drewN ?_ _ | refine blk_drew ?_ | refine blk_alloc ?_ _)); exact BK42101.out) hb); have n1_ := Aside0.mk (blk_below (g := gb42102) (o := .cells #[.int .u32 a1_0, .int .i64 a1_1] 46 (0, 0)) (by (with_reducible repeat (first | refine blk_drewN ?_ _ | refine blk_drew ?_ | refine blk_alloc ?_ _)); exact BK42102.out) hb); have n2_ := Aside0.mk (below_step (by repeat (first | (with_reducible first | exact HB.out | apply below_alloc | apply pw_below_drewN | apply below_drew1 | refine below_set ?_ GE42101.out | refine below_set ?_ GE42102.out) | exact HB.out)) hb); clear BK42101; clear BK42102; clear HB; have BK42101 := n0_; have BK42102 := n1_; have HB := n2_; clear n0_ n1_ n2_; (try clear hb); (try clear hb2); (try clear hk); (try clear hi)))
    go_ret
    exact ⟨by first | rfl | (simp [errW_none, errW_some] <;> rfl) | (simp [*, errW_none, errW_some] <;> rfl), by repeat (first | (with_reducible first | exact HB.out | apply below_alloc | apply pw_below_drewN | apply below_drew1 | refine below_set ?_ GE42101.out | refine below_set ?_ GE42102.out) | exact HB.out)⟩
  · replace c4 := Bool.eq_false_iff.mpr c4
    subst c4
    have H1 : ((cidr_Net_Covers.f a1_0 a1_1 a0_0 a0_1).bind fun t42104 => (some t42104)) = some r := by rw [if_neg (show ¬ (false = true) by decide)] at H; exact H
    clear H
    have H := H1
    clear H1
    replace H := Option.bind_eq_some_iff.mp H
    obtain ⟨t42104, A110, H⟩ := H
    replace H : (some t42104) = some r := H
    have A11 := Aside0.mk A110
    clear A110
    obtain rfl := Option.some.inj H
    go_enter Tryd.func42, Tryd.ntmps42
    go_wp2_with (first | ((with_reducible refine gate_dst (N := 2) rfl ?_); refine box_event ?hg (N := 2) ?hd (cs := #[.int .u32 a0_0, .int .i64 a0_1]) (t := 46) ?hr ?_; (case hd => rfl); (case hg => rfl); (case hr => first | (go_simp; done) | (go_simp; rfl)); intro gb42101 hg w12 hbox hb; have n0_ := Aside0.mk (below_step (by repeat (first | (with_reducible first | exact HB.out | apply below_alloc | apply pw_below_drewN | apply below_drew1) | exact HB.out)) hb); have n1_ := Aside0.mk (hbox); have n2_ := Aside0.mk ((by rw [hg]; exact (below_size (by repeat (first | (with_reducible first | exact HB.out | apply below_alloc | apply pw_below_drewN | apply below_drew1) | exact HB.out))) : w.heap.size ≤ gb42101)); have n3_ := Aside0.mk ((by rw [hg]; exact (below_size (by repeat (first | (with_reducible first | exact HB.out | apply below_alloc | apply pw_below_drewN | apply below_drew1) | exact HB.out))) : w.heap.size ≤ gb42101)); clear HB; have HB := n0_; have BK42101 := n1_; have GW42101 := n2_; have GE42101 := n3_; clear n0_ n1_ n2_ n3_; clear hb hbox hg) | ((with_reducible refine gate_dst (N := 3) rfl ?_); refine box_event ?hg (N := 3) ?hd (cs := #[.int .u32 a1_0, .int .i64 a1_1]) (t := 46) ?hr ?_; (case hd => rfl); (case hg => rfl); (case hr => first | (go_simp; done) | (go_simp; rfl)); intro gb42102 hg w13 hbox hb; have n0_ := Aside0.mk (blk_below (g := gb42101) (o := .cells #[.int .u32 a0_0, .int .i64 a0_1] 46 (0, 0)) (by (with_reducible repeat (first | refine blk_drewN ?_ _ | refine blk_drew ?_ | refine blk_alloc ?_ _)); exact BK42101.out) hb); have n1_ := Aside0.mk (below_step (by repeat (first | (with_reducible first | exact HB.out | apply below_alloc | apply pw_below_drewN | apply below_drew1 | refine below_set ?_ GE42101.out) | exact HB.out)) hb); have n2_ := Aside0.mk (hbox); have n3_ := Aside0.mk ((by rw [hg]; exact (below_size (by repeat (first | (with_reducible first | exact HB.out | apply below_alloc | apply pw_below_drewN | apply below_drew1 | refine below_set ?_ GE42101.out) | exact HB.out))) : w.heap.size ≤ gb42102)); have n4_ := Aside0.mk ((by rw [hg]; exact (below_size (by repeat (first | (with_reducible first | exact HB.out | apply below_alloc | apply pw_below_drewN | apply below_drew1 | refine below_set ?_ GE42101.out) | exact HB.out))) : w.heap.size ≤ gb42102)); have n5_ := Aside0.mk ((by rw [hg]; exact Nat.ne_of_lt (blk_lt (g := gb42101) (o := .cells #[.int .u32 a0_0, .int .i64 a0_1] 46 (0, 0)) (by (with_reducible repeat (first | refine blk_drewN ?_ _ | refine blk_drew ?_ | refine blk_alloc ?_ _)); exact BK42101.out)) : gb42101 ≠ gb42102)); have n6_ := Aside0.mk ((by rw [hg]; exact Nat.ne_of_gt (blk_lt (g := gb42101) (o := .cells #[.int .u32 a0_0, .int .i64 a0_1] 46 (0, 0)) (by (with_reducible repeat (first | refine blk_drewN ?_ _ | refine blk_drew ?_ | refine blk_alloc ?_ _)); exact BK42101.out)) : gb42102 ≠ gb42101)); clear BK42101; clear HB; have BK42101 := n0_; have HB := n1_; have BK42102 := n2_; have GW42102 := n3_; have GE42102 := n4_; have NB42101_42102 := n5_; have NB42102_42101 := n6_; clear n0_ n1_ n2_ n3_ n4_ n5_ n6_; clear hb hbox hg; have hnb14 := NB42101_42102.out; have hnc14 := NB42102_42101.out; have hcz15_0 : w13.cell? ⟨gb42101, 0, none⟩ = some (.int .u32 a0_0) := (blk_cell BK42101.out 0).trans rfl; have hcz15_1 : w13.cell? ⟨gb42101, 1, none⟩ = some (.int .i64 a0_1) := (blk_cell BK42101.out 1).trans rfl; have hfz15_0 := blk_frozen BK42101.out 0; have hfz15_1 := blk_frozen BK42101.out 1; have hcz16_0 : w13.cell? ⟨gb42102, 0, none⟩ = some (.int .u32 a1_0) := (blk_cell BK42102.out 0).trans rfl; have hcz16_1 : w13.cell? ⟨gb42102, 1, none⟩ = some (.int .i64 a1_1) := (blk_cell BK42102.out 1).trans rfl; have hfz16_0 := blk_frozen BK42102.out 0; have hfz16_1 := blk_frozen BK42102.out 1) | ((with_reducible refine gate_callee (f := 40) rfl ?_); refine goesL_ (some 7) rfl rfl Tryd.func40 (by kernel_rfl) rfl #[.agg #[.int .u32 a0_0, .int .i64 a0_1], .agg #[.int .u32 a1_0, .int .i64 a1_1]] rfl (by (try simp only [List.map_toArray, List.map_cons, List.map_nil]); first | done | rfl | (simp only [List.length_drop, List.length_take]; rfl)) ?_; (with_reducible refine (cidr_Net_Covers.calls a0_0 a0_1 a1_0 a1_1 false _ A3.out).mono ?_); rintro e w17 ⟨rfl, hb⟩; refine ⟨_, rfl, ?_⟩; have n0_ := Aside0.mk (blk_below (g := gb42101) (o := .cells #[.int .u32 a0_0, .int .i64 a0_1] 46 (0, 0)) (by (with_reducible repeat (first | refine blk_drewN ?_ _ | refine blk_drew ?_ | refine blk_alloc ?_ _)); exact BK42101.out) hb); have n1_ := Aside0.mk (blk_below (g := gb42102) (o := .cells #[.int .u32 a1_0, .int .i64 a1_1] 46 (0, 0)) (by (with_reducible repeat (first | refine blk_drewN ?_ _ | refine blk_drew ?_ | refine blk_alloc ?_ _)); exact BK42102.out) hb); have n2_ := Aside0.mk (below_step (by repeat (first | (with_reducible first | exact HB.out | apply below_alloc | apply pw_below_drewN | apply below_drew1 | refine below_set ?_ GE42101.out | refine below_set ?_ GE42102.out) | exact HB.out)) hb); clear BK42101; clear BK42102; clear HB; have BK42101 := n0_; have BK42102 := n1_; have HB := n2_; clear n0_ n1_ n2_; (try clear hb); (try clear hb2); (try clear hk); (try clear hi); have hcz18_0 : w17.cell? ⟨gb42102, 0, none⟩ = some (.int .u32 a1_0) := (blk_cell BK42102.out 0).trans rfl; have hcz18_1 : w17.cell? ⟨gb42102, 1, none⟩ = some (.int .i64 a1_1) := (blk_cell BK42102.out 1).trans rfl; have hfz18_0 := blk_frozen BK42102.out 0; have hfz18_1 := blk_frozen BK42102.out 1; have hcz19_0 : w17.cell? ⟨gb42101, 0, none⟩ = some (.int .u32 a0_0) := (blk_cell BK42101.out 0).trans rfl; have hcz19_1 : w17.cell? ⟨gb42101, 1, none⟩ = some (.int .i64 a0_1) := (blk_cell BK42101.out 1).trans rfl; have hfz19_0 := blk_frozen BK42101.out 0; have hfz19_1 := blk_frozen BK42101.out 1) | (go_at_call 40; (with_reducible refine (cidr_Net_Covers.calls a1_0 a1_1 a0_0 a0_1 t42104 _ A11.out).mono ?_); rintro e w20 ⟨rfl, hb⟩; have n0_ := Aside0.mk (blk_below (g := gb42101) (o := .cells #[.int .u32 a0_0, .int .i64 a0_1] 46 (0, 0)) (by (with_reducible repeat (first | refine blk_drewN ?_ _ | refine blk_drew ?_ | refine blk_alloc ?_ _)); exact BK42101.out) hb); have n1_ := Aside0.mk (blk_below (g := gb42102) (o := .cells #[.int .u32 a1_0, .int .i64 a1_1] 46 (0, 0)) (by (with_reducible repeat (first | refine blk_drewN ?_ _ | refine blk_drew ?_ | refine blk_alloc ?_ _)); exact BK42102.out) hb); have n2_ := Aside0.mk (below_step (by repeat (first | (with_reducible first | exact HB.out | apply below_alloc | apply pw_below_drewN | apply below_drew1 | refine below_set ?_ GE42101.out | refine below_set ?_ GE42102.out) | exact HB.out)) hb); clear BK42101; clear BK42102; clear HB; have BK42101 := n0_; have BK42102 := n1_; have HB := n2_; clear n0_ n1_ n2_; (try clear hb); (try clear hb2); (try clear hk); (try clear hi)))
    go_ret
    exact ⟨by first | rfl | (simp [errW_none, errW_some] <;> rfl) | (simp [*, errW_none, errW_some] <;> rfl), by repeat (first | (with_reducible first | exact HB.out | apply below_alloc | apply pw_below_drewN | apply below_drew1 | refine below_set ?_ GE42101.out | refine below_set ?_ GE42102.out) | exact HB.out)⟩
end Go.Proofs.YtcdopgkkieenjaaDoor.V
end

