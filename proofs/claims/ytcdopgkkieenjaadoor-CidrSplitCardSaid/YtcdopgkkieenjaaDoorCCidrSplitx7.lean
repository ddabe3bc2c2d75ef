/- The law CidrSplit for every input: texts of ours, put together (part 8 of 11). No further condition. -/
import Derived.Test.YtcdopgkkieenjaaDoorCD5
import Derived.Test.YtcdopgkkieenjaaDoorCD3
import Derived.Test.YtcdopgkkieenjaaDoorCD4
import Derived.Test.YtcdopgkkieenjaaDoorCD6
import Derived.ChangeSame
import Derived.WideShapes
-- ICidrM
section
/- Nets that cover and meet each other, as plain numbers. -/
namespace Go.Proofs.YtcdopgkkieenjaaDoor.V
open Go.RowKit Go.Proofs.YtcdopgkkieenjaaDoorW.PrintWords Go.Proofs.YtcdopgkkieenjaaDoorW.PrintLast Go.Proofs.YtcdopgkkieenjaaDoorW.PrintMore
set_option linter.unusedVariables false
set_option linter.unusedSimpArgs false

theorem step_le {s x y : Nat} (hs : 0 < s) (hx : s ∣ x) (hy : s ∣ y) (h : x < y) : x + s ≤ y := by
  obtain ⟨p, rfl⟩ := hx
  obtain ⟨q, rfl⟩ := hy
  have : p < q := Nat.lt_of_mul_lt_mul_left h
  have : s * (p + 1) ≤ s * q := Nat.mul_le_mul_left s this
  rw [Nat.mul_add, Nat.mul_one] at this
  exact this
theorem cover_iff (n x b c : Nat) (hb : b ≤ 32) (hc : c ≤ 32) (hn : n % sz b = 0) (hx : x % sz c = 0) : (n ≤ x ∧ x < n + sz b ∧ b ≤ c) ↔ (n ≤ x ∧ x + sz c ≤ n + sz b) := by
  have pb := sz_pos b; have pc := sz_pos c
  constructor
  · rintro ⟨h1, h2, h3⟩
    refine ⟨h1, step_le pc (Nat.dvd_of_mod_eq_zero hx) ?_ h2⟩
    exact Nat.dvd_add (Nat.dvd_trans (sz_dvd h3) (Nat.dvd_of_mod_eq_zero hn)) (sz_dvd h3)
  · rintro ⟨h1, h2⟩
    refine ⟨h1, by omega, ?_⟩
    by_cases h : b ≤ c
    · exact h
    · have := sz_lt_of (show c < b by omega) hb
      omega
theorem meet_iff (n x b c : Nat) (hb : b ≤ 32) (hc : c ≤ 32) (hn : n % sz b = 0) (hx : x % sz c = 0) :
    ((n ≤ x ∧ x < n + sz b ∧ b ≤ c) ∨ (x ≤ n ∧ n < x + sz c ∧ c ≤ b)) ↔ (x < n + sz b ∧ n < x + sz c) := by
  have pb := sz_pos b; have pc := sz_pos c
  constructor
  · rintro (⟨h1, h2, h3⟩ | ⟨h1, h2, h3⟩)
    · exact ⟨h2, by omega⟩
    · exact ⟨by omega, h2⟩
  · rintro ⟨h1, h2⟩
    rcases Nat.le_total b c with h | h
    · refine .inl ⟨?_, h1, h⟩
      by_cases g : n ≤ x
      · exact g
      · have := step_le pc (Nat.dvd_of_mod_eq_zero hx) (Nat.dvd_trans (sz_dvd h) (Nat.dvd_of_mod_eq_zero hn)) (show x < n by omega)
        omega
    · refine .inr ⟨?_, h2, h⟩
      by_cases g : x ≤ n
      · exact g
      · have := step_le pb (Nat.dvd_of_mod_eq_zero hn) (Nat.dvd_trans (sz_dvd h) (Nat.dvd_of_mod_eq_zero hx)) (show n < x by omega)
        omega
theorem net_end (n b : Nat) (hn : n % sz b = 0) (h : n < 4294967296) : n + sz b ≤ 4294967296 :=
  step_le (sz_pos b) (Nat.dvd_of_mod_eq_zero hn) (sz_dvd32 b) h
/-- Does one cover another? -/
def coversN (a : Nat) (b : Int) (x : Nat) (c : Int) : Bool := mayN x c && hasN a b x && decide (b ≤ c)
def covR (a : Nat) (b : Int) (x : Nat) (c : Int) : Bool := mayN a b && mayN x c && decide (a ≤ x) && decide (x + sz c.toNat ≤ a + sz b.toNat)
def meetR (a : Nat) (b : Int) (x : Nat) (c : Int) : Bool := mayN a b && mayN x c && decide (x < a + sz b.toNat) && decide (a < x + sz c.toNat)
theorem may_parts {a : Nat} {b : Int} (h : mayN a b = true) : ∃ n : Nat, b = n ∧ n ≤ 32 ∧ a % sz n = 0 := by
  simp only [mayN, Bool.and_eq_true, decide_eq_true_eq] at h
  exact ⟨b.toNat, by omega, by omega, h.2⟩
theorem covers_eq (a : Nat) (b : Int) (x : Nat) (c : Int) : coversN a b x c = covR a b x c := by
  unfold coversN covR hasN
  cases h1 : mayN a b with
  | false => cases mayN x c <;> simp
  | true =>
    cases h2 : mayN x c with
    | false => simp
    | true =>
      obtain ⟨n, rfl, hn, gn⟩ := may_parts h1
      obtain ⟨m, rfl, hm, gm⟩ := may_parts h2
      have := cover_iff a x n m hn hm gn gm
      rw [Bool.eq_iff_iff]
      simp only [Bool.and_eq_true, decide_eq_true_eq, Int.toNat_natCast, true_and, Bool.true_and]
      constructor
      · rintro ⟨⟨g1, g2⟩, g3⟩; exact this.1 ⟨g1, g2, by omega⟩
      · intro g; have := this.2 g; exact ⟨⟨this.1, this.2.1⟩, by omega⟩
theorem meets_eq (a : Nat) (b : Int) (x : Nat) (c : Int) : (coversN a b x c || coversN x c a b) = meetR a b x c := by
  unfold coversN meetR hasN
  cases h1 : mayN a b with
  | false => cases mayN x c <;> simp
  | true =>
    cases h2 : mayN x c with
    | false => simp
    | true =>
      obtain ⟨n, rfl, hn, gn⟩ := may_parts h1
      obtain ⟨m, rfl, hm, gm⟩ := may_parts h2
      have := meet_iff a x n m hn hm gn gm
      rw [Bool.eq_iff_iff]
      simp only [Bool.and_eq_true, Bool.or_eq_true, decide_eq_true_eq, Int.toNat_natCast, true_and, Bool.true_and]
      constructor
      · rintro (⟨⟨g1, g2⟩, g3⟩ | ⟨⟨g1, g2⟩, g3⟩)
        · exact this.1 (.inl ⟨g1, g2, by omega⟩)
        · exact this.1 (.inr ⟨g1, g2, by omega⟩)
      · intro g
        rcases this.2 g with ⟨g1, g2, g3⟩ | ⟨g1, g2, g3⟩
        · exact .inl ⟨⟨g1, g2⟩, by omega⟩
        · exact .inr ⟨⟨g1, g2⟩, by omega⟩
end Go.Proofs.YtcdopgkkieenjaaDoor.V
end

-- VFCidrNetCovers
section
-- PRINTED by print.py (a twelfth state) out of the translation. Not trusted: Lean checks it.
namespace Go.Proofs.YtcdopgkkieenjaaDoor.V
open Go.RowKit Go.Proofs.YtcdopgkkieenjaaDoorW.PrintWords Go.Proofs.YtcdopgkkieenjaaDoorW.PrintLast Go.Proofs.YtcdopgkkieenjaaDoorW.PrintMore
attribute [local go_sem] max2_int min2_int max_two min_two max_three min_three max_four min_four   -- for this text's walks alone
set_option linter.unusedVariables false
set_option linter.unusedSimpArgs false

/-! ### cidr_Net_Covers: function 40 -/
def cidr_Net_Covers.f (a0_0 : Int) (a0_1 : Int) (a1_0 : Int) (a1_1 : Int) : Option (Bool) := (cidr_May.f a1_0 a1_1).bind fun t40103 => (if t40103 = true then ((cidr_Net_Has.f a0_0 a0_1 a1_0).bind fun t40104 => (if t40104 = true then (some (decide (a1_1 ≥ a0_1))) else (some false))) else (some false))
set_option maxHeartbeats 8000000 in
set_option maxRecDepth 100000 in
theorem cidr_Net_Covers.calls (a0_0 : Int) (a0_1 : Int) (a1_0 : Int) (a1_1 : Int) (r : Bool) (w : World) (h : cidr_Net_Covers.f a0_0 a0_1 a1_0 a1_1 = some r) :
    Calls Tryd.prog 40 #[.agg #[.int .u32 a0_0, .int .i64 a0_1], .agg #[.int .u32 a1_0, .int .i64 a1_1]] w fun e w' => e = .returned (.bool r) ∧ Below w.heap.size w w' := by
  have hu46 := Tryd.underlying46
  have HB := Aside0.mk (Below.refl w.heap.size w)
  have H : ((cidr_May.f a1_0 a1_1).bind fun t40103 => (if t40103 = true then ((cidr_Net_Has.f a0_0 a0_1 a1_0).bind fun t40104 => (if t40104 = true then (some (decide (a1_1 ≥ a0_1))) else (some false))) else (some false))) = some r := h
  clear h
  replace H := Option.bind_eq_some_iff.mp H
  obtain ⟨t40103, A30, H⟩ := H
  replace H : (if t40103 = true then ((cidr_Net_Has.f a0_0 a0_1 a1_0).bind fun t40104 => (if t40104 = true then (some (decide (a1_1 ≥ a0_1))) else (some false))) else (some false)) = some r := H
  have A3 := Aside0.mk A30
  clear A30
  by_cases c4 : t40103 = true
  · subst c4
    have H1 : ((cidr_Net_Has.f a0_0 a0_1 a1_0).bind fun t40104 => (if t40104 = true then (some (decide (a1_1 ≥ a0_1))) else (some false))) = some r := by rw [if_pos rfl] at H; exact H
    clear H
    have H := H1
    clear H1
    replace H := Option.bind_eq_some_iff.mp H
    obtain ⟨t40104, A50, H⟩ := H
    replace H : (if t40104 = true then (some (decide (a1_1 ≥ a0_1))) else (some false)) = some r := H
    have A5 := Aside0.mk A50
    clear A50
    by_cases c6 : t40104 = true
    · subst c6
      have H1 : (some (decide (a1_1 ≥ a0_1))) = some r := by rw [if_pos rfl] at H; exact H
      clear H
      have H := H1
      clear H1
      obtain rfl := Option.some.inj H
      go_enter Tryd.func40, Tryd.ntmps40
      go_wp2_with (first | ((with_reducible refine gate_dst (N := 2) rfl ?_); refine box_event ?hg (N := 2) ?hd (cs := #[.int .u32 a0_0, .int .i64 a0_1]) (t := 46) ?hr ?_; (case hd => rfl); (case hg => rfl); (case hr => first | (go_simp; done) | (go_simp; rfl)); intro gb40101 hg w7 hbox hb; have n0_ := Aside0.mk (below_step (by repeat (first | (with_reducible first | exact HB.out | apply below_alloc | apply pw_below_drewN | apply below_drew1) | exact HB.out)) hb); have n1_ := Aside0.mk (hbox); have n2_ := Aside0.mk ((by rw [hg]; exact (below_size (by repeat (first | (with_reducible first | exact HB.out | apply below_alloc | apply pw_below_drewN | apply below_drew1) | exact HB.out))) : w.heap.size ≤ gb40101)); have n3_ := Aside0.mk ((by rw [hg]; exact (below_size (by repeat (first | (with_reducible first | exact HB.out | apply below_alloc | apply pw_below_drewN | apply below_drew1) | exact HB.out))) : w.heap.size ≤ gb40101)); clear HB; have HB := n0_; have BK40101 := n1_; have GW40101 := n2_; have GE40101 := n3_; clear n0_ n1_ n2_ n3_; clear hb hbox hg) | ((with_reducible refine gate_dst (N := 3) rfl ?_); refine box_event ?hg (N := 3) ?hd (cs := #[.int .u32 a1_0, .int .i64 a1_1]) (t := 46) ?hr ?_; (case hd => rfl); (case hg => rfl); (case hr => first | (go_simp; done) | (go_simp; rfl)); intro gb40102 hg w8 hbox hb; have n0_ := Aside0.mk (blk_below (g := gb40101) (o := .cells #[.int .u32 a0_0, .int .i64 a0_1] 46 (0, 0)) (by (with_reducible repeat (first | refine blk_drewN ?_ _ | refine blk_drew ?_ | refine blk_alloc ?_ _)); exact BK40101.out) hb); have n1_ := Aside0.mk (below_step (by repeat (first | (with_reducible first | exact HB.out | apply below_alloc | apply pw_below_drewN | apply below_drew1 | refine below_set ?_ GE40101.out) | exact HB.out)) hb); have n2_ := Aside0.mk (hbox); have n3_ := Aside0.mk ((by rw [hg]; exact (below_size (by repeat (first | (with_reducible first | exact HB.out | apply below_alloc | apply pw_below_drewN | apply below_drew1 | refine below_set ?_ GE40101.out) | exact HB.out))) : w.heap.size ≤ gb40102)); have n4_ := Aside0.mk ((by rw [hg]; exact (below_size (by repeat (first | (with_reducible first | exact HB.out | apply below_alloc | apply pw_below_drewN | apply below_drew1 | refine below_set ?_ GE40101.out) | exact HB.out))) : w.heap.size ≤ gb40102)); have n5_ := Aside0.mk ((by rw [hg]; exact Nat.ne_of_lt (blk_lt (g := gb40101) (o := .cells #[.int .u32 a0_0, .int .i64 a0_1] 46 (0, 0)) (by (with_reducible repeat (first | refine blk_drewN ?_ _ | refine blk_drew ?_ | refine blk_alloc ?_ _)); exact BK40101.out)) : gb40101 ≠ gb40102)); have n6_ := Aside0.mk ((by rw [hg]; exact Nat.ne_of_gt (blk_lt (g := gb40101) (o := .cells #[.int .u32 a0_0, .int .i64 a0_1] 46 (0, 0)) (by (with_reducible repeat (first | refine blk_drewN ?_ _ | refine blk_drew ?_ | refine blk_alloc ?_ _)); exact BK40101.out)) : gb40102 ≠ gb40101)); clear BK40101; clear HB; have BK40101 := n0_; have HB := n1_; have BK40102 := n2_; have GW40102 := n3_; have GE40102 := n4_; have NB40101_40102 := n5_; have NB40102_40101 := n6_; clear n0_ n1_ n2_ n3_ n4_ n5_ n6_; clear hb hbox hg; have hnb9 := NB40102_40101.out; have hnc9 := NB40101_40102.out; have hcz10_0 : w8.cell? ⟨gb40102, 0, none⟩ = some (.int .u32 a1_0) := (blk_cell BK40102.out 0).trans rfl; have hcz10_1 : w8.cell? ⟨gb40102, 1, none⟩ = some (.int .i64 a1_1) := (blk_cell BK40102.out 1).trans rfl; have hfz10_0 := blk_frozen BK40102.out 0; have hfz10_1 := blk_frozen BK40102.out 1) | ((with_reducible refine gate_callee (f := 34) rfl ?_); refine goesL_ (some 6) rfl rfl Tryd.func34 (by kernel_rfl) rfl #[.agg #[.int .u32 a1_0, .int .i64 a1_1]] rfl (by (try simp only [List.map_toArray, List.map_cons, List.map_nil]); first | done | rfl | (simp only [List.length_drop, List.length_take]; rfl)) ?_; (with_reducible refine (cidr_May.calls a1_0 a1_1 true _ A3.out).mono ?_); rintro e w11 ⟨rfl, hb⟩; refine ⟨_, rfl, ?_⟩; have n0_ := Aside0.mk (blk_below (g := gb40101) (o := .cells #[.int .u32 a0_0, .int .i64 a0_1] 46 (0, 0)) (by (with_reducible repeat (first | refine blk_drewN ?_ _ | refine blk_drew ?_ | refine blk_alloc ?_ _)); exact BK40101.out) hb); have n1_ := Aside0.mk (blk_below (g := gb40102) (o := .cells #[.int .u32 a1_0, .int .i64 a1_1] 46 (0, 0)) (by (with_reducible repeat (first | refine blk_drewN ?_ _ | refine blk_drew ?_ | refine blk_alloc ?_ _)); exact BK40102.out) hb); have n2_ := Aside0.mk (below_step (by repeat (first | (with_reducible first | exact HB.out | apply below_alloc | apply pw_below_drewN | apply below_drew1 | refine below_set ?_ GE40101.out | refine below_set ?_ GE40102.out) | exact HB.out)) hb); clear BK40101; clear BK40102; clear HB; have BK40101 := n0_; have BK40102 := n1_; have HB := n2_; clear n0_ n1_ n2_; (try clear hb); (try clear hb2); (try clear hk); (try clear hi); have hcz12_0 : w11.cell? ⟨gb40101, 0, none⟩ = some (.int .u32 a0_0) := (blk_cell BK40101.out 0).trans rfl; have hcz12_1 : w11.cell? ⟨gb40101, 1, none⟩ = some (.int .i64 a0_1) := (blk_cell BK40101.out 1).trans rfl; have hfz12_0 := blk_frozen BK40101.out 0; have hfz12_1 := blk_frozen BK40101.out 1; have hcz13_0 : w11.cell? ⟨gb40102, 0, none⟩ = some (.int .u32 a1_0) := (blk_cell BK40102.out 0).trans rfl; have hcz13_1 : w11.cell? ⟨gb40102, 1, none⟩ = some (.int .i64 a1_1) := (blk_cell BK40102.out 1).trans rfl; have hfz13_0 := blk_frozen BK40102.out 0; have hfz13_1 := blk_frozen BK40102.out 1) | (go_at_call 53; (with_reducible refine (cidr_Net_Has.calls a0_0 a0_1 a1_0 true _ A5.out).mono ?_); rintro e w14 ⟨rfl, hb⟩; have n0_ := Aside0.mk (blk_below (g := gb40101) (o := .cells #[.int .u32 a0_0, .int .i64 a0_1] 46 (0, 0)) (by (with_reducible repeat (first | refine blk_drewN ?_ _ | refine blk_drew ?_ | refine blk_alloc ?_ _)); exact BK40101.out) hb); have n1_ := Aside0.mk (blk_below (g := gb40102) (o := .cells #[.int .u32 a1_0, .int .i64 a1_1] 46 (0, 0)) (by (with_reducible repeat (first | refine blk_drewN ?_ _ | refine blk_drew ?_ | refine blk_alloc ?_ _)); exact BK40102.out) hb); have n2_ := Aside0.mk (below_step (by repeat (first | (with_reducible first | exact HB.out | apply below_alloc | apply pw_below_drewN | apply below_drew1 | refine below_set ?_ GE40101.out | refine below_set ?_ GE40102.out) | exact HB.out)) hb); clear BK40101; clear BK40102; clear HB; have BK40101 := n0_; have BK40102 := n1_; have HB := n2_; clear n0_ n1_ n2_; (try clear hb); (try clear hb2); (try clear hk); (try clear hi); have hcz15_0 : w14.cell? ⟨gb40102, 0, none⟩ = some (.int .u32 a1_0) := (blk_cell BK40102.out 0).trans rfl; have hcz15_1 : w14.cell? ⟨gb40102, 1, none⟩ = some (.int .i64 a1_1) := (blk_cell BK40102.out 1).trans rfl; have hfz15_0 := blk_frozen BK40102.out 0; have hfz15_1 := blk_frozen BK40102.out 1; have hcz16_0 : w14.cell? ⟨gb40101, 0, none⟩ = some (.int .u32 a0_0) := (blk_cell BK40101.out 0).trans rfl; have hcz16_1 : w14.cell? ⟨gb40101, 1, none⟩ = some (.int .i64 a0_1) := (blk_cell BK40101.out 1).trans rfl; have hfz16_0 := blk_frozen BK40101.out 0; have hfz16_1 := blk_frozen BK40101.out 1))
      go_ret
      exact ⟨by first | rfl | (simp [errW_none, errW_some] <;> rfl) | (simp [*, errW_none, errW_some] <;> rfl), by repeat (first | (with_reducible first | exact HB.out | apply below_alloc | apply pw_below_drewN | apply below_drew1 | refine below_set ?_ GE40101.out | refine below_set ?_ GE40102.out) | exact HB.out)⟩
    · replace c6 := Bool.eq_false_iff.mpr c6
      subst c6
      have H1 : (some false) = some r := by rw [if_neg (show ¬ (false = true) by decide)] at H; exact H
      clear H
      have H := H1
      clear H1
      obtain rfl := Option.some.inj H
      go_enter Tryd.func40, Tryd.ntmps40
      go_wp2_with (first | ((with_reducible refine gate_dst (N := 2) rfl ?_); refine box_event ?hg (N := 2) ?hd (cs := #[.int .u32 a0_0, .int .i64 a0_1]) (t := 46) ?hr ?_; (case hd => rfl); (case hg => rfl); (case hr => first | (go_simp; done) | (go_simp; rfl)); intro gb40101 hg w17 hbox hb; have n0_ := Aside0.mk (below_step (by repeat (first | (with_reducible first | exact HB.out | apply below_alloc | apply pw_below_drewN | apply below_drew1) | exact HB.out)) hb); have n1_ := Aside0.mk (hbox); have n2_ := Aside0.mk ((by rw [hg]; exact (below_size (by repeat (first | (with_reducible first | exact HB.out | apply below_alloc | apply pw_below_drewN | apply below_drew1) | exact HB.out))) : w.heap.size ≤ gb40101)); have n3_ := Aside0.mk ((by rw [hg]; exact (below_size (by repeat (first | (with_reducible first | exact HB.out | apply below_alloc | apply pw_below_drewN | apply below_drew1) | exact HB.out))) : w.heap.size ≤ gb40101)); clear HB; have HB := n0_; have BK40101 := n1_; have GW40101 := n2_; have GE40101 := n3_; clear n0_ n1_ n2_ n3_; clear hb hbox hg) | ((with_reducible refine gate_dst (N := 3) rfl ?_); refine box_event ?hg (N := 3) ?hd (cs := #[.int .u32 a1_0, .int .i64 a1_1]) (t := 46) ?hr ?_; (case hd => rfl); (case hg => rfl); (case hr => first | (go_simp; done) | (go_simp; rfl)); intro gb40102 hg w18 hbox hb; have n0_ := Aside0.mk (blk_below (g := gb40101) (o := .cells #[.int .u32 a0_0, .int .i64 a0_1] 46 (0, 0)) (by (with_reducible repeat (first | refine blk_drewN ?_ _ | refine blk_drew ?_ | refine blk_alloc ?_ _)); exact BK40101.out) hb); have n1_ := Aside0.mk (below_step (by repeat (first | (with_reducible first | exact HB.out | apply below_alloc | apply pw_below_drewN | apply below_drew1 | refine below_set ?_ GE40101.out) | exact HB.out)) hb); have n2_ := Aside0.mk (hbox); have n3_ := Aside0.mk ((by rw [hg]; exact (below_size (by repeat (first | (with_reducible first | exact HB.out | apply below_alloc | apply pw_below_drewN | apply below_drew1 | refine below_set ?_ GE40101.out) | exact HB.out))) : w.heap.size ≤ gb40102)); have n4_ := Aside0.mk ((by rw [hg]; exact (below_size (by repeat (first | (with_reducible first | exact HB.out | apply below_alloc | apply pw_below_drewN | apply below_drew1 | refine below_set ?_ GE40101.out) | exact HB.out))) : w.heap.size ≤ gb40102)); have n5_ := Aside0.mk ((by rw [hg]; exact Nat.ne_of_lt (blk_lt (g := gb40101) (o := .cells #[.int .u32 a0_0, .int .i64 a0_1] 46 (0, 0)) (by (with_reducible repeat (first | refine blk_drewN ?_ _ | refine blk_drew ?_ | refine blk_alloc ?_ _)); exact BK40101.out)) : gb40101 ≠ gb40102)); have n6_ := Aside0.mk ((by rw [hg]; exact Nat.ne_of_gt (blk_lt (g := gb40101) (o := .cells #[.int .u32 a0_0, .int .i64 a0_1] 46 (0, 0)) (by (with_reducible repeat (first | refine blk_drewN ?_ _ | refine blk_drew ?_ | refine blk_alloc ?_ _)); exact BK40101.out)) : gb40102 ≠ gb40101)); clear BK40101; clear HB; have BK40101 := n0_; have HB := n1_; have BK40102 := n2_; have GW40102 := n3_; have GE40102 := n4_; have NB40101_40102 := n5_; have NB40102_40101 := n6_; clear n0_ n1_ n2_ n3_ n4_ n5_ n6_; clear hb hbox hg; have hnb19 := NB40102_40101.out; have hnc19 := NB40101_40102.out; have hcz20_0 : w18.cell? ⟨gb40102, 0, none⟩ = some (.int .u32 a1_0) := (blk_cell BK40102.out 0).trans rfl; have hcz20_1 : w18.cell? ⟨gb40102, 1, none⟩ = some (.int .i64 a1_1) := (blk_cell BK40102.out 1).trans rfl; have hfz20_0 := blk_frozen BK40102.out 0; have hfz20_1 := blk_frozen BK40102.out 1) | ((with_reducible refine gate_callee (f := 34) rfl ?_); refine goesL_ (some 6) rfl rfl Tryd.func34 (by kernel_rfl) rfl #[.agg #[.int .u32 a1_0, .int .i64 a1_1]] rfl (by (try simp only [List.map_toArray, List.map_cons, List.map_nil]); first | done | rfl | (simp only [List.length_drop, List.length_take]; rfl)) ?_; (with_reducible refine (cidr_May.calls a1_0 a1_1 true _ A3.out).mono ?_); rintro e w21 ⟨rfl, hb⟩; refine ⟨_, rfl, ?_⟩; have n0_ := Aside0.mk (blk_below (g := gb40101) (o := .cells #[.int .u32 a0_0, .int .i64 a0_1] 46 (0, 0)) (by (with_reducible repeat (first | refine blk_drewN ?_ _ | refine blk_drew ?_ | refine blk_alloc ?_ _)); exact BK40101.out) hb); have n1_ := Aside0.mk (blk_below (g := gb40102) (o := .cells #[.int .u32 a1_0, .int .i64 a1_1] 46 (0, 0)) (by (with_reducible repeat (first | refine blk_drewN ?_ _ | refine blk_drew ?_ | refine blk_alloc ?_ _)); exact BK40102.out) hb); have n2_ := Aside0.mk (below_step (by repeat (first | (with_reducible first | exact HB.out | apply below_alloc | apply pw_below_drewN | apply below_drew1 | refine below_set ?_ GE40101.out | refine below_set ?_ GE40102.out) | exact HB.out)) hb); clear BK40101; clear BK40102; clear HB; have BK40101 := n0_; have BK40102 := n1_; have HB := n2_; clear n0_ n1_ n2_; (try clear hb); (try clear hb2); (try clear hk); (try clear hi); have hcz22_0 : w21.cell? ⟨gb40101, 0, none⟩ = some (.int .u32 a0_0) := (blk_cell BK40101.out 0).trans rfl; have hcz22_1 : w21.cell? ⟨gb40101, 1, none⟩ = some (.int .i64 a0_1) := (blk_cell BK40101.out 1).trans rfl; have hfz22_0 := blk_frozen BK40101.out 0; have hfz22_1 := blk_frozen BK40101.out 1; have hcz23_0 : w21.cell? ⟨gb40102, 0, none⟩ = some (.int .u32 a1_0) := (blk_cell BK40102.out 0).trans rfl; have hcz23_1 : w21.cell? ⟨gb40102, 1, none⟩ = some (.int .i64 a1_1) := (blk_cell BK40102.out 1).trans rfl; have hfz23_0 := blk_frozen BK40102.out 0; have hfz23_1 := blk_frozen BK40102.out 1) | (go_at_call 53; (with_reducible refine (cidr_Net_Has.calls a0_0 a0_1 a1_0 false _ A5.out).mono ?_); rintro e w24 ⟨rfl, hb⟩; have n0_ := Aside0.mk (blk_below (g := gb40101) (o := .cells #[.int .u32 a0_0, .int .i64 a0_1] 46 (0, 0)) (by (with_reducible repeat (first | refine blk_drewN ?_ _ | refine blk_drew ?_ | refine blk_alloc ?_ _)); exact BK40101.out) hb); have n1_ := Aside0.mk (blk_below (g := gb40102) (o := .cells #[.int .u32 a1_0, .int .i64 a1_1] 46 (0, 0)) (by (with_reducible repeat (first | refine blk_drewN ?_ _ | refine blk_drew ?_ | refine blk_alloc ?_ _)); exact BK40102.out) hb); have n2_ := Aside0.mk (below_step (by repeat (first | (with_reducible first | exact HB.out | apply below_alloc | apply pw_below_drewN | apply below_drew1 | refine below_set ?_ GE40101.out | refine below_set ?_ GE40102.out) | exact HB.out)) hb); clear BK40101; clear BK40102; clear HB; have BK40101 := n0_; have BK40102 := n1_; have HB := n2_; clear n0_ n1_ n2_; (try clear hb); (try clear hb2); (try clear hk); (try clear hi)))
      go_ret
      exact ⟨by first | rfl | (simp [errW_none, errW_some] <;> rfl) | (simp [*, errW_none, errW_some] <;> rfl), by repeat (first | (with_reducible first | exact HB.out | apply below_alloc | apply pw_below_drewN | apply below_drew1 | refine below_set ?_ GE40101.out | refine below_set ?_ GE40102.out) | exact HB.out)⟩
  · replace c4 := Bool.eq_false_iff.mpr c4
    subst c4
    have H1 : (some false) = some r := by rw [if_neg (show ¬ (false = true) by decide)] at H; exact H
    clear H
    have H := H1
    clear H1
    obtain rfl := Option.some.inj H
    go_enter Tryd.func40, Tryd.ntmps40
    go_wp2_with (first | ((with_reducible refine gate_dst (N := 2) rfl ?_); refine box_event ?hg (N := 2) ?hd (cs := #[.int .u32 a0_0, .int .i64 a0_1]) (t := 46) ?hr ?_; (case hd => rfl); (case hg => rfl); (case hr => first | (go_simp; done) | (go_simp; rfl)); intro gb40101 hg w25 hbox hb; have n0_ := Aside0.mk (below_step (by repeat (first | (with_reducible first | exact HB.out | apply below_alloc | apply pw_below_drewN | apply below_drew1) | exact HB.out)) hb); have n1_ := Aside0.mk (hbox); have n2_ := Aside0.mk ((by rw [hg]; exact (below_size (by repeat (first | (with_reducible first | exact HB.out | apply below_alloc | apply pw_below_drewN | apply below_drew1) | exact HB.out))) : w.heap.size ≤ gb40101)); have n3_ := Aside0.mk ((by rw [hg]; exact (below_size (by repeat (first | (with_reducible first | exact HB.out | apply below_alloc | apply pw_below_drewN | apply below_drew1) | exact HB.out))) : w.heap.size ≤ gb40101)); clear HB; have HB := n0_; have BK40101 := n1_; have GW40101 := n2_; have GE40101 := n3_; clear n0_ n1_ n2_ n3_; clear hb hbox hg) | ((with_reducible refine gate_dst (N := 3) rfl ?_); refine box_event ?hg (N := 3) ?hd (cs := #[.int .u32 a1_0, .int .i64 a1_1]) (t := 46) ?hr ?_; (case hd => rfl); (case hg => rfl); (case hr => first | (go_simp; done) | (go_simp; rfl)); intro gb40102 hg w26 hbox hb; have n0_ := Aside0.mk (blk_below (g := gb40101) (o := .cells #[.int .u32 a0_0, .int .i64 a0_1] 46 (0, 0)) (by (with_reducible repeat (first | refine blk_drewN ?_ _ | refine blk_drew ?_ | refine blk_alloc ?_ _)); exact BK40101.out) hb); have n1_ := Aside0.mk (below_step (by repeat (first | (with_reducible first | exact HB.out | apply below_alloc | apply pw_below_drewN | apply below_drew1 | refine below_set ?_ GE40101.out) | exact HB.out)) hb); have n2_ := Aside0.mk (hbox); have n3_ := Aside0.mk ((by rw [hg]; exact (below_size (by repeat (first | (with_reducible first | exact HB.out | apply below_alloc | apply pw_below_drewN | apply below_drew1 | refine below_set ?_ GE40101.out) | exact HB.out))) : w.heap.size ≤ gb40102)); have n4_ := Aside0.mk ((by rw [hg]; exact (below_size (by repeat (first | (with_reducible first | exact HB.out | apply below_alloc | apply pw_below_drewN | apply below_drew1 | refine below_set ?_ GE40101.out) | exact HB.out))) : w.heap.size ≤ gb40102)); have n5_ := Aside0.mk ((by rw [hg]; exact Nat.ne_of_lt (blk_lt (g := gb40101) (o := .cells #[.int .u32 a0_0, .int .i64 a0_1] 46 (0, 0)) (by (with_reducible repeat (first | refine blk_drewN ?_ _ | refine blk_drew ?_ | refine blk_alloc ?_ _)); exact BK40101.out)) : gb40101 ≠ gb40102)); have n6_ := Aside0.mk ((by rw [hg]; exact Nat.ne_of_gt (blk_lt (g := gb40101) (o := .cells #[.int .u32 a0_0, .int .i64 a0_1] 46 (0, 0)) (by (with_reducible repeat (first | refine blk_drewN ?_ _ | refine blk_drew ?_ | refine blk_alloc ?_ _)); exact BK40101.out)) : gb40102 ≠ gb40101)); clear BK40101; clear HB; have BK40101 := n0_; have HB := n1_; have BK40102 := n2_; have GW40102 := n3_; have GE40102 := n4_; have NB40101_40102 := n5_; have NB40102_40101 := n6_; clear n0_ n1_ n2_ n3_ n4_ n5_ n6_; clear hb hbox hg; have hnb27 := NB40102_40101.out; have hnc27 := NB40101_40102.out; have hcz28_0 : w26.cell? ⟨gb40102, 0, none⟩ = some (.int .u32 a1_0) := (blk_cell BK40102.out 0).trans rfl; have hcz28_1 : w26.cell? ⟨gb40102, 1, none⟩ = some (.int .i64 a1_1) := (blk_cell BK40102.out 1).trans rfl; have hfz28_0 := blk_frozen BK40102.out 0; have hfz28_1 := blk_frozen BK40102.out 1) | ((with_reducible refine gate_callee (f := 34) rfl ?_); refine goesL_ (some 6) rfl rfl Tryd.func34 (by kernel_rfl) rfl #[.agg #[.int .u32 a1_0, .int .i64 a1_1]] rfl (by (try simp only [List.map_toArray, List.map_cons, List.map_nil]); first | done | rfl | (simp only [List.length_drop, List.length_take]; rfl)) ?_; (with_reducible refine (cidr_May.calls a1_0 a1_1 false _ A3.out).mono ?_); rintro e w29 ⟨rfl, hb⟩; refine ⟨_, rfl, ?_⟩; have n0_ := Aside0.mk (blk_below (g := gb40101) (o := .cells #[.int .u32 a0_0, .int .i64 a0_1] 46 (0, 0)) (by (with_reducible repeat (first | refine blk_drewN ?_ _ | refine blk_drew ?_ | refine blk_alloc ?_ _)); exact BK40101.out) hb); have n1_ := Aside0.mk (blk_below (g := gb40102) (o := .cells #[.int .u32 a1_0, .int .i64 a1_1] 46 (0, 0)) (by (with_reducible repeat (first | refine blk_drewN ?_ _ | refine blk_drew ?_ | refine blk_alloc ?_ _)); exact BK40102.out) hb); have n2_ := Aside0.mk (below_step (by repeat (first | (with_reducible first | exact HB.out | apply below_alloc | apply pw_below_drewN | apply below_drew1 | refine below_set ?_ GE40101.out | refine below_set ?_ GE40102.out) | exact HB.out)) hb); clear BK40101; clear BK40102; clear HB; have BK40101 := n0_; have BK40102 := n1_; have HB := n2_; clear n0_ n1_ n2_; (try clear hb); (try clear hb2); (try clear hk); (try clear hi)))
    go_ret
    exact ⟨by first | rfl | (simp [errW_none, errW_some] <;> rfl) | (simp [*, errW_none, errW_some] <;> rfl), by repeat (first | (with_reducible first | exact HB.out | apply below_alloc | apply pw_below_drewN | apply below_drew1 | refine below_set ?_ GE40101.out | refine below_set ?_ GE40102.out) | exact HB.out)⟩

end Go.Proofs.YtcdopgkkieenjaaDoor.V
end

-- L2c
section
/- Layer 2: whether a net covers another one. -/
namespace Go.Proofs.YtcdopgkkieenjaaDoor.V
open Go.RowKit Go.Proofs.YtcdopgkkieenjaaDoorW.PrintWords Go.Proofs.YtcdopgkkieenjaaDoorW.PrintLast Go.Proofs.YtcdopgkkieenjaaDoorW.PrintMore
set_option linter.unusedVariables false
set_option linter.unusedSimpArgs false
theorem covers_f (a : Nat) (ha : a < 4294967296) (b : Int) (x : Nat) (hx : x < 4294967296) (c : Int) : cidr_Net_Covers.f (a : Int) b (x : Int) c = some (coversN a b x c) := by
  unfold cidr_Net_Covers.f coversN
  rw [may_f x hx, Option.bind_some, has_f a ha b x hx]
  cases mayN x c <;> cases hasN a b x <;> simp
end Go.Proofs.YtcdopgkkieenjaaDoor.V
end

-- L2l
section
/- Layer 2: the last address. -/
namespace Go.Proofs.YtcdopgkkieenjaaDoor.V
open Go.RowKit Go.Proofs.YtcdopgkkieenjaaDoorW.PrintWords Go.Proofs.YtcdopgkkieenjaaDoorW.PrintLast Go.Proofs.YtcdopgkkieenjaaDoorW.PrintMore
set_option linter.unusedVariables false
set_option linter.unusedSimpArgs false
theorem high_bits (b i : Nat) (hb : b ≤ 32) : (4294967296 - sz b).testBit i = (decide (32 - b ≤ i) && decide (i < 32)) := by
  have e2 : 4294967296 - sz b = (2 ^ b - 1) * 2 ^ (32 - b) := by
    rw [Nat.sub_mul, ← Nat.pow_add, show b + (32 - b) = 32 by omega]
    unfold sz
    simp
  rw [e2, Nat.testBit_mul_two_pow, Nat.testBit_two_pow_sub_one]
  by_cases h : 32 - b ≤ i
  · simp [h]; omega
  · simp [h]
theorem xor_mask (b : Nat) (hb : b ≤ 32) : 4294967295 ^^^ (4294967296 - sz b) = sz b - 1 := by
  apply Nat.eq_of_testBit_eq
  intro i
  rw [Nat.testBit_xor, high_bits b i hb, show (4294967295 : Nat) = 2 ^ 32 - 1 by decide, Nat.testBit_two_pow_sub_one]
  unfold sz
  rw [Nat.testBit_two_pow_sub_one]
  by_cases h1 : i < 32
  · by_cases h2 : 32 - b ≤ i
    · simp [h1, h2]
    · simp [h1, h2]; omega
  · have : ¬ i < 32 - b := by omega
    simp [h1, this]
/-- The last address of a net; none, if it may not be. -/
def lastN (a : Nat) (b : Int) : Nat := if mayN a b = true then a + sz b.toNat - 1 else 0
theorem last_f (a : Nat) (ha : a < 4294967296) (b : Int) : cidr_Net_Last.f (a : Int) b = some ((lastN a b : Nat) : Int) := by
  unfold cidr_Net_Last.f lastN
  rw [may_f a ha, Option.bind_some]
  cases hm : mayN a b with
  | false => simp
  | true =>
    obtain ⟨n, rfl, hn, hd⟩ := may_nat hm
    have g1 := sz_pos n; have g2 := sz_le n
    have hmax : IntKind.u32.max = ((4294967295 : Nat) : Int) := by simp [IntKind.max, IntKind.signed, IntKind.bits]
    rw [if_pos rfl, if_pos rfl, mask_f, Option.bind_some, cl_nat n hn, hmax, u32_xor_nat _ _ (by omega) (by omega), xor_mask n hn, u32_or_nat a _ ha (by omega), nat_join (32 - n) a _ hd (by show sz n - 1 < sz n; omega), Int.toNat_natCast]
    congr 2
    omega
end Go.Proofs.YtcdopgkkieenjaaDoor.V
end

-- VFVirgateref02Count
section
-- PRINTED by print.py (a twelfth state) out of the translation. Not trusted: Lean checks it.
namespace Go.Proofs.YtcdopgkkieenjaaDoor.V
open Go.RowKit Go.Proofs.YtcdopgkkieenjaaDoorW.PrintWords Go.Proofs.YtcdopgkkieenjaaDoorW.PrintLast Go.Proofs.YtcdopgkkieenjaaDoorW.PrintMore
attribute [local go_sem] max2_int min2_int max_two min_two max_three min_three max_four min_four   -- for this text's walks alone
set_option linter.unusedVariables false
set_option linter.unusedSimpArgs false

/-! ### virgateref02_Count: function 46 -/
def virgateref02_Count.j0 : Nat → Int → Bool → Int → Int → Option (Int)
  | 0, _, _, _, _ => none
  | k + 1, x1, x17, x46102000, x46102001 => if x17 = true then (some 0) else ((virgateref02_Size.f k x46102000 x46102001).bind fun t46103 => ((virgateref02_Pow.f k (wrap64 (32 - x1))).bind fun t46104 => (if t46104 = 0 then (none) else (some (wrap64 (Int.tdiv t46103 t46104))))))
def virgateref02_Count.f (k : Nat) (a0_0 : Int) (a0_1 : Int) (a1 : Int) : Option (Int) := (virgateref02_May.f k a0_0 a0_1).bind fun t46102 => (if t46102 = true then (if a1 < a0_1 then (virgateref02_Count.j0 k a1 true a0_0 a0_1) else (virgateref02_Count.j0 k a1 (decide (a1 > 32)) a0_0 a0_1)) else (virgateref02_Count.j0 k a1 true a0_0 a0_1))
theorem virgateref02_Count.mono_l : ∀ k, (∀ y0 y1 y2 y3, LeO (virgateref02_Count.j0 k y0 y1 y2 y3) (virgateref02_Count.j0 (k + 1) y0 y1 y2 y3))
  | 0 => fun _ _ _ _ r h => by simp [virgateref02_Count.j0] at h
  | k + 1 => by
    have ih0 := virgateref02_Count.mono_l k
    · intro y0 y1 y2 y3
      unfold virgateref02_Count.j0
      repeat' first
      | (with_reducible exact ih0 _ _ _ _)
      | (with_reducible exact virgateref02_May.mono _ _ _)
      | (with_reducible exact virgateref02_Pow.mono _ _)
      | (with_reducible exact virgateref02_Size.mono _ _ _)
      | (with_reducible exact LeO.refl _)
      | (with_reducible exact LeO.none _)
      | (with_reducible refine LeO.ite ?_ ?_)
      | (with_reducible refine LeO.bind ?_ (fun _ => ?_))
      | exact ih0 _ _ _ _
      | exact virgateref02_May.mono _ _ _
      | exact virgateref02_Pow.mono _ _
      | exact virgateref02_Size.mono _ _ _
      | exact LeO.none _
      | refine LeO.ite ?_ ?_
      | refine LeO.bind ?_ (fun _ => ?_)
theorem virgateref02_Count.mono : ∀ a0 a1 a2 k, LeO (virgateref02_Count.f k a0 a1 a2) (virgateref02_Count.f (k + 1) a0 a1 a2) := by
  intro a0 a1 a2 k
  have ih0 := virgateref02_Count.mono_l k
  unfold virgateref02_Count.f
  repeat' first
      | (with_reducible exact ih0 _ _ _ _)
      | (with_reducible exact virgateref02_May.mono _ _ _)
      | (with_reducible exact virgateref02_Pow.mono _ _)
      | (with_reducible exact virgateref02_Size.mono _ _ _)
      | (with_reducible exact LeO.refl _)
      | (with_reducible exact LeO.none _)
      | (with_reducible refine LeO.ite ?_ ?_)
      | (with_reducible refine LeO.bind ?_ (fun _ => ?_))
      | exact ih0 _ _ _ _
      | exact virgateref02_May.mono _ _ _
      | exact virgateref02_Pow.mono _ _
      | exact virgateref02_Size.mono _ _ _
      | exact LeO.none _
      | refine LeO.ite ?_ ?_
      | refine LeO.bind ?_ (fun _ => ?_)
set_option maxHeartbeats 8000000 in
set_option maxRecDepth 100000 in
theorem virgateref02_Count.calls (k : Nat) (a0_0 : Int) (a0_1 : Int) (a1 : Int) (r : Int) (w : World) (h : virgateref02_Count.f k a0_0 a0_1 a1 = some r) :
    Calls Tryd.prog 46 #[.agg #[.int .u32 a0_0, .int .i64 a0_1], .int .i64 a1] w fun e w' => e = .returned (.int .i64 r) ∧ Below w.heap.size w w' := by
  have hu44 := Tryd.underlying44
  have HB := Aside0.mk (Below.refl w.heap.size w)
  have H : ((virgateref02_May.f k a0_0 a0_1).bind fun t46102 => (if t46102 = true then (if a1 < a0_1 then (virgateref02_Count.j0 k a1 true a0_0 a0_1) else (virgateref02_Count.j0 k a1 (decide (a1 > 32)) a0_0 a0_1)) else (virgateref02_Count.j0 k a1 true a0_0 a0_1))) = some r := h
  clear h
  have HC3 := Aside0.mk H
  clear H
  go_enter Tryd.func46, Tryd.ntmps46
  go_upto_region 1 with (first | ((with_reducible refine gate_dst (N := 2) rfl ?_); refine box_event ?hg (N := 2) ?hd (cs := #[.int .u32 a0_0, .int .i64 a0_1]) (t := 44) ?hr ?_; (case hd => rfl); (case hg => rfl); (case hr => first | (go_simp; done) | (go_simp; rfl)); intro gb46101 hg w4 hbox hb; have n0_ := Aside0.mk (below_step (by repeat (first | (with_reducible first | exact HB.out | apply below_alloc | apply pw_below_drewN | apply below_drew1) | exact HB.out)) hb); have n1_ := Aside0.mk (hbox); have n2_ := Aside0.mk ((by rw [hg]; exact (below_size (by repeat (first | (with_reducible first | exact HB.out | apply below_alloc | apply pw_below_drewN | apply below_drew1) | exact HB.out))) : w.heap.size ≤ gb46101)); have n3_ := Aside0.mk ((by rw [hg]; exact (below_size (by repeat (first | (with_reducible first | exact HB.out | apply below_alloc | apply pw_below_drewN | apply below_drew1) | exact HB.out))) : w.heap.size ≤ gb46101)); clear HB; have HB := n0_; have BK46101 := n1_; have GW46101 := n2_; have GE46101 := n3_; clear n0_ n1_ n2_ n3_; clear hb hbox hg))
  (try simp only [Act.put, List.setIfInBounds_toArray, List.set_cons_zero, List.set_cons_succ])
  go_cut [17] (fun v17 wc => ∃ (kq : Nat) (x17_2 : Bool), v17 = .bool x17_2 ∧ Aside0 (virgateref02_Count.j0 kq a1 x17_2 a0_0 a0_1 = some r) ∧ Aside0 (kq ≤ k) ∧ Aside0 (wc.heap[gb46101]? = some (.cells #[.int .u32 a0_0, .int .i64 a0_1] 44 (0, 0))) ∧ Aside0 (Below w.heap.size w wc))
  case first =>
    have H := HC3.out
    clear HC3
    replace H := Option.bind_eq_some_iff.mp H
    obtain ⟨t46102, A50, H⟩ := H
    replace H : (if t46102 = true then (if a1 < a0_1 then (virgateref02_Count.j0 k a1 true a0_0 a0_1) else (virgateref02_Count.j0 k a1 (decide (a1 > 32)) a0_0 a0_1)) else (virgateref02_Count.j0 k a1 true a0_0 a0_1)) = some r := H
    have A5 := Aside0.mk A50
    clear A50
    by_cases c6 : t46102 = true
    · subst c6
      have H1 : (if a1 < a0_1 then (virgateref02_Count.j0 k a1 true a0_0 a0_1) else (virgateref02_Count.j0 k a1 (decide (a1 > 32)) a0_0 a0_1)) = some r := by rw [if_pos rfl] at H; exact H
      clear H
      have H := H1
      clear H1
      by_cases c7 : a1 < a0_1
      · rw [if_pos c7] at H
        have c7b0 : decide (a1 < a0_1) = true := decide_eq_true c7
        clear c7
        (first | rw [c7b0] | (simp only [i64_w, i32_w]; rw [c7b0]) | skip)
        have H' := Aside0.mk H
        clear H
        have hcz8_0 : w4.cell? ⟨gb46101, 0, none⟩ = some (.int .u32 a0_0) := (blk_cell BK46101.out 0).trans rfl
        have hcz8_1 : w4.cell? ⟨gb46101, 1, none⟩ = some (.int .i64 a0_1) := (blk_cell BK46101.out 1).trans rfl
        have hfz8_0 := blk_frozen BK46101.out 0
        have hfz8_1 := blk_frozen BK46101.out 1
        go_wp2_with (first | ((with_reducible refine gate_callee (f := 35) rfl ?_); refine goesL_ (some 6) rfl rfl Tryd.func35 (by kernel_rfl) rfl #[.agg #[.int .u32 a0_0, .int .i64 a0_1]] rfl (by (try simp only [List.map_toArray, List.map_cons, List.map_nil]); first | done | rfl | (simp only [List.length_drop, List.length_take]; rfl)) ?_; (with_reducible refine (virgateref02_May.calls k a0_0 a0_1 true _ A5.out).mono ?_); rintro e w9 ⟨rfl, hb⟩; refine ⟨_, rfl, ?_⟩; have n0_ := Aside0.mk (blk_below (g := gb46101) (o := .cells #[.int .u32 a0_0, .int .i64 a0_1] 44 (0, 0)) (by (with_reducible repeat (first | refine blk_drewN ?_ _ | refine blk_drew ?_ | refine blk_alloc ?_ _)); exact BK46101.out) hb); have n1_ := Aside0.mk (below_step (by repeat (first | (with_reducible first | exact HB.out | apply below_alloc | apply pw_below_drewN | apply below_drew1 | refine below_set ?_ GE46101.out) | exact HB.out)) hb); clear BK46101; clear HB; have BK46101 := n0_; have HB := n1_; clear n0_ n1_; (try clear hb); (try clear hb2); (try clear hk); (try clear hi); have hcz10_0 : w9.cell? ⟨gb46101, 0, none⟩ = some (.int .u32 a0_0) := (blk_cell BK46101.out 0).trans rfl; have hcz10_1 : w9.cell? ⟨gb46101, 1, none⟩ = some (.int .i64 a0_1) := (blk_cell BK46101.out 1).trans rfl; have hfz10_0 := blk_frozen BK46101.out 0; have hfz10_1 := blk_frozen BK46101.out 1))
        go_meet
        case rel => exact ⟨_, (true), (by first | rfl | (simp; done) | (simp [*]; done)), H', ⟨by first | omega | exact Nat.le_refl _⟩, ⟨by (with_reducible repeat (first | refine blk_drewN ?_ _ | refine blk_drew ?_ | refine blk_alloc ?_ _)); exact BK46101.out⟩, ⟨by repeat (first | (with_reducible first | exact HB.out | apply below_alloc | apply pw_below_drewN | apply below_drew1 | refine below_set ?_ GE46101.out) | exact HB.out)⟩⟩
      · rw [if_neg c7] at H
        have c7b0 : decide (a1 < a0_1) = false := decide_eq_false c7
        clear c7
        (first | rw [c7b0] | (simp only [i64_w, i32_w]; rw [c7b0]) | skip)
        have H' := Aside0.mk H
        clear H
        have hcz11_0 : w4.cell? ⟨gb46101, 0, none⟩ = some (.int .u32 a0_0) := (blk_cell BK46101.out 0).trans rfl
        have hcz11_1 : w4.cell? ⟨gb46101, 1, none⟩ = some (.int .i64 a0_1) := (blk_cell BK46101.out 1).trans rfl
        have hfz11_0 := blk_frozen BK46101.out 0
        have hfz11_1 := blk_frozen BK46101.out 1
        go_wp2_with (first | ((with_reducible refine gate_callee (f := 35) rfl ?_); refine goesL_ (some 6) rfl rfl Tryd.func35 (by kernel_rfl) rfl #[.agg #[.int .u32 a0_0, .int .i64 a0_1]] rfl (by (try simp only [List.map_toArray, List.map_cons, List.map_nil]); first | done | rfl | (simp only [List.length_drop, List.length_take]; rfl)) ?_; (with_reducible refine (virgateref02_May.calls k a0_0 a0_1 true _ A5.out).mono ?_); rintro e w12 ⟨rfl, hb⟩; refine ⟨_, rfl, ?_⟩; have n0_ := Aside0.mk (blk_below (g := gb46101) (o := .cells #[.int .u32 a0_0, .int .i64 a0_1] 44 (0, 0)) (by (with_reducible repeat (first | refine blk_drewN ?_ _ | refine blk_drew ?_ | refine blk_alloc ?_ _)); exact BK46101.out) hb); have n1_ := Aside0.mk (below_step (by repeat (first | (with_reducible first | exact HB.out | apply below_alloc | apply pw_below_drewN | apply below_drew1 | refine below_set ?_ GE46101.out) | exact HB.out)) hb); clear BK46101; clear HB; have BK46101 := n0_; have HB := n1_; clear n0_ n1_; (try clear hb); (try clear hb2); (try clear hk); (try clear hi); have hcz13_0 : w12.cell? ⟨gb46101, 0, none⟩ = some (.int .u32 a0_0) := (blk_cell BK46101.out 0).trans rfl; have hcz13_1 : w12.cell? ⟨gb46101, 1, none⟩ = some (.int .i64 a0_1) := (blk_cell BK46101.out 1).trans rfl; have hfz13_0 := blk_frozen BK46101.out 0; have hfz13_1 := blk_frozen BK46101.out 1))
        go_meet
        case rel => exact ⟨_, (decide (a1 > 32)), (by first | rfl | (simp; done) | (simp [*]; done)), H', ⟨by first | omega | exact Nat.le_refl _⟩, ⟨by (with_reducible repeat (first | refine blk_drewN ?_ _ | refine blk_drew ?_ | refine blk_alloc ?_ _)); exact BK46101.out⟩, ⟨by repeat (first | (with_reducible first | exact HB.out | apply below_alloc | apply pw_below_drewN | apply below_drew1 | refine below_set ?_ GE46101.out) | exact HB.out)⟩⟩
    · replace c6 := Bool.eq_false_iff.mpr c6
      subst c6
      have H1 : (virgateref02_Count.j0 k a1 true a0_0 a0_1) = some r := by rw [if_neg (show ¬ (false = true) by decide)] at H; exact H
      clear H
      have H := H1
      clear H1
      have H' := Aside0.mk H
      clear H
      have hcz14_0 : w4.cell? ⟨gb46101, 0, none⟩ = some (.int .u32 a0_0) := (blk_cell BK46101.out 0).trans rfl
      have hcz14_1 : w4.cell? ⟨gb46101, 1, none⟩ = some (.int .i64 a0_1) := (blk_cell BK46101.out 1).trans rfl
      have hfz14_0 := blk_frozen BK46101.out 0
      have hfz14_1 := blk_frozen BK46101.out 1
      go_wp2_with (first | ((with_reducible refine gate_callee (f := 35) rfl ?_); refine goesL_ (some 6) rfl rfl Tryd.func35 (by kernel_rfl) rfl #[.agg #[.int .u32 a0_0, .int .i64 a0_1]] rfl (by (try simp only [List.map_toArray, List.map_cons, List.map_nil]); first | done | rfl | (simp only [List.length_drop, List.length_take]; rfl)) ?_; (with_reducible refine (virgateref02_May.calls k a0_0 a0_1 false _ A5.out).mono ?_); rintro e w15 ⟨rfl, hb⟩; refine ⟨_, rfl, ?_⟩; have n0_ := Aside0.mk (blk_below (g := gb46101) (o := .cells #[.int .u32 a0_0, .int .i64 a0_1] 44 (0, 0)) (by (with_reducible repeat (first | refine blk_drewN ?_ _ | refine blk_drew ?_ | refine blk_alloc ?_ _)); exact BK46101.out) hb); have n1_ := Aside0.mk (below_step (by repeat (first | (with_reducible first | exact HB.out | apply below_alloc | apply pw_below_drewN | apply below_drew1 | refine below_set ?_ GE46101.out) | exact HB.out)) hb); clear BK46101; clear HB; have BK46101 := n0_; have HB := n1_; clear n0_ n1_; (try clear hb); (try clear hb2); (try clear hk); (try clear hi)))
      go_meet
      case rel => exact ⟨_, (true), (by first | rfl | (simp; done) | (simp [*]; done)), H', ⟨by first | omega | exact Nat.le_refl _⟩, ⟨by (with_reducible repeat (first | refine blk_drewN ?_ _ | refine blk_drew ?_ | refine blk_alloc ?_ _)); exact BK46101.out⟩, ⟨by repeat (first | (with_reducible first | exact HB.out | apply below_alloc | apply pw_below_drewN | apply below_drew1 | refine below_set ?_ GE46101.out) | exact HB.out)⟩⟩
  case rest =>
    clear HC3
    try clear p2
    try clear c3
    try clear c4
    try clear c6
    try clear c7
    try clear c7b0
    try clear hcz10_0
    try clear hcz10_1
    try clear hcz11_0
    try clear hcz11_1
    try clear hcz13_0
    try clear hcz13_1
    try clear hcz14_0
    try clear hcz14_1
    try clear hcz8_0
    try clear hcz8_1
    try clear hfz10_0
    try clear hfz10_1
    try clear hfz11_0
    try clear hfz11_1
    try clear hfz13_0
    try clear hfz13_1
    try clear hfz14_0
    try clear hfz14_1
    try clear hfz8_0
    try clear hfz8_1
    obtain ⟨kq, x17_2, rfl, HA, HJ2, BK46101, HB⟩ := hcut
    cases kq with
    | zero => exact absurd HA.out (by simp [virgateref02_Count.j0])
    | succ kj2 =>
      have H := HA.out
      clear HA
      simp only [virgateref02_Count.j0] at H
      by_cases c16 : x17_2 = true
      · subst c16
        have H1 : (some 0) = some r := by rw [if_pos rfl] at H; exact H
        clear H
        have H := H1
        clear H1
        obtain rfl := Option.some.inj H
        go_wp2
        go_ret
        exact ⟨by first | rfl | (simp [errW_none, errW_some] <;> rfl) | (simp [*, errW_none, errW_some] <;> rfl), by repeat (first | (with_reducible first | exact HB.out | apply below_alloc | apply pw_below_drewN | apply below_drew1 | refine below_set ?_ GE46101.out) | exact HB.out)⟩
      · replace c16 := Bool.eq_false_iff.mpr c16
        subst c16
        have H1 : ((virgateref02_Size.f kj2 a0_0 a0_1).bind fun t46103 => ((virgateref02_Pow.f kj2 (wrap64 (32 - a1))).bind fun t46104 => (if t46104 = 0 then (none) else (some (wrap64 (Int.tdiv t46103 t46104)))))) = some r := by rw [if_neg (show ¬ (false = true) by decide)] at H; exact H
        clear H
        have H := H1
        clear H1
        replace H := Option.bind_eq_some_iff.mp H
        obtain ⟨t46103, A170, H⟩ := H
        replace H : ((virgateref02_Pow.f kj2 (wrap64 (32 - a1))).bind fun t46104 => (if t46104 = 0 then (none) else (some (wrap64 (Int.tdiv t46103 t46104))))) = some r := H
        have A17 := Aside0.mk A170
        clear A170
        replace H := Option.bind_eq_some_iff.mp H
        obtain ⟨t46104, A180, H⟩ := H
        replace H : (if t46104 = 0 then (none) else (some (wrap64 (Int.tdiv t46103 t46104)))) = some r := H
        have A18 := Aside0.mk A180
        clear A180
        by_cases c19 : t46104 = 0
        · rw [if_pos c19] at H
          exact absurd H (by simp)
        · rw [if_neg c19] at H
          have c19b0 : (t46104 == 0) = false := beq_eq_false_iff_ne.mpr c19
          have c19b1 : (t46104 != 0) = true := bne_iff_ne.mpr c19
          obtain rfl := Option.some.inj H
          have hcz20_0 : wc.cell? ⟨gb46101, 0, none⟩ = some (.int .u32 a0_0) := (blk_cell BK46101.out 0).trans rfl
          have hcz20_1 : wc.cell? ⟨gb46101, 1, none⟩ = some (.int .i64 a0_1) := (blk_cell BK46101.out 1).trans rfl
          have hfz20_0 := blk_frozen BK46101.out 0
          have hfz20_1 := blk_frozen BK46101.out 1
          go_wp2_with (first | ((with_reducible refine gate_callee (f := 52) rfl ?_); refine goesL_ (some 19) rfl rfl Tryd.func52 (by kernel_rfl) rfl #[.agg #[.int .u32 a0_0, .int .i64 a0_1]] rfl (by (try simp only [List.map_toArray, List.map_cons, List.map_nil]); first | done | rfl | (simp only [List.length_drop, List.length_take]; rfl)) ?_; (with_reducible refine (virgateref02_Size.calls kj2 a0_0 a0_1 t46103 _ A17.out).mono ?_); rintro e w21 ⟨rfl, hb⟩; refine ⟨_, rfl, ?_⟩; have n0_ := Aside0.mk (blk_below (g := gb46101) (o := .cells #[.int .u32 a0_0, .int .i64 a0_1] 44 (0, 0)) (by (with_reducible repeat (first | refine blk_drewN ?_ _ | refine blk_drew ?_ | refine blk_alloc ?_ _)); exact BK46101.out) hb); have n1_ := Aside0.mk (below_step (by repeat (first | (with_reducible first | exact HB.out | apply below_alloc | apply pw_below_drewN | apply below_drew1 | refine below_set ?_ GE46101.out) | exact HB.out)) hb); clear BK46101; clear HB; have BK46101 := n0_; have HB := n1_; clear n0_ n1_; (try clear hb); (try clear hb2); (try clear hk); (try clear hi)) | ((with_reducible refine gate_callee (f := 55) rfl ?_); refine goesL_ (some 22) rfl rfl Tryd.func55 (by kernel_rfl) rfl #[.int .i64 (wrap64 (32 - a1))] rfl (by (try simp only [List.map_toArray, List.map_cons, List.map_nil]); first | done | rfl | (simp only [List.length_drop, List.length_take]; rfl)) ?_; (with_reducible refine (virgateref02_Pow.calls kj2 (wrap64 (32 - a1)) t46104 _ A18.out).mono ?_); rintro e w' ⟨rfl, ⟨nd, rfl⟩⟩; refine ⟨_, rfl, ?_⟩))
          go_ret
          exact ⟨by first | rfl | (simp [errW_none, errW_some] <;> rfl) | (simp [*, errW_none, errW_some] <;> rfl), by repeat (first | (with_reducible first | exact HB.out | apply below_alloc | apply pw_below_drewN | apply below_drew1 | refine below_set ?_ GE46101.out) | exact HB.out)⟩

end Go.Proofs.YtcdopgkkieenjaaDoor.V
end

-- L2n
section
/- Layer 2: how many nets a net covers. -/
namespace Go.Proofs.YtcdopgkkieenjaaDoor.V
open Go.RowKit Go.Proofs.YtcdopgkkieenjaaDoorW.PrintWords Go.Proofs.YtcdopgkkieenjaaDoorW.PrintLast Go.Proofs.YtcdopgkkieenjaaDoorW.PrintMore
set_option linter.unusedVariables false
set_option linter.unusedSimpArgs false
/-- How many nets of so many bits a net covers. -/
def countN (a : Nat) (b c : Int) : Nat := if mayN a b = true ∧ b ≤ c ∧ c ≤ 32 then 2 ^ (c - b).toNat else 0
theorem count_f (a : Nat) (ha : a < 4294967296) (b c : Int) (hc1 : -9223372036854775808 ≤ c) (hc2 : c ≤ 9223372036854775807) : cidr_Net_Count.f (a : Int) b c = some ((countN a b c : Nat) : Int) := by
  unfold cidr_Net_Count.f countN
  rw [may_f a ha, Option.bind_some]
  cases hm : mayN a b with
  | false => simp
  | true =>
    obtain ⟨n, rfl, hn, hd⟩ := may_nat hm
    rw [if_pos rfl]
    by_cases h1 : c < (n : Int)
    · rw [if_pos h1, if_neg (by omega)]; rfl
    · by_cases h2 : c > 32
      · rw [if_neg h1, if_pos h2, if_neg (by omega)]; rfl
      · obtain ⟨m, rfl⟩ : ∃ m : Nat, c = m := ⟨c.toNat, by omega⟩
        have hcc : (true = true ∧ (n : Int) ≤ (m : Int) ∧ (m : Int) ≤ 32) := ⟨rfl, by omega, by omega⟩
        rw [if_neg h1, if_neg h2, if_pos hcc, show (m : Int) - (n : Int) = ((m - n : Nat) : Int) by omega, wrap64_id _ (by omega) (by omega), if_pos (by omega), shl1 _ (by omega), Int.toNat_natCast]
theorem rcount_f (a : Nat) (ha : a < 4294967296) (b c : Int) (hc1 : -9223372036854775808 ≤ c) (hc2 : c ≤ 9223372036854775807) (k : Nat) (hk : 40 ≤ k) : virgateref02_Count.f k (a : Int) b c = some ((countN a b c : Nat) : Int) := by
  obtain ⟨k, rfl⟩ : ∃ m, k = m + 1 := ⟨k - 1, by omega⟩
  unfold virgateref02_Count.f countN
  rw [rmay_f a ha b _ (by omega), Option.bind_some]
  cases hm : mayN a b with
  | false => rw [if_neg (by decide), virgateref02_Count.j0, if_pos rfl]; simp
  | true =>
    obtain ⟨n, rfl, hn, hd⟩ := may_nat hm
    rw [if_pos rfl]
    by_cases h1 : c < (n : Int)
    · rw [if_pos h1, if_neg (by omega), virgateref02_Count.j0, if_pos rfl]; rfl
    · by_cases h2 : c > 32
      · rw [if_neg h1, if_neg (by omega), virgateref02_Count.j0, if_pos (decide_eq_true h2)]; rfl
      · obtain ⟨m, rfl⟩ : ∃ m : Nat, c = m := ⟨c.toNat, by omega⟩
        have hcc : (true = true ∧ (n : Int) ≤ (m : Int) ∧ (m : Int) ≤ 32) := ⟨rfl, by omega, by omega⟩
        have g1 := sz_pos m; have g2 := sz_le n
        have hs : sizeN a (n : Int) = sz n := by unfold sizeN; rw [if_pos hm]; rfl
        rw [if_neg h1, virgateref02_Count.j0, if_neg (by simpa using h2), if_pos hcc, rsize_f a ha _ k (by omega), Option.bind_some, hs, show (32 : Int) - (m : Int) = ((32 - m : Nat) : Int) by omega, wrap64_id _ (by omega) (by omega), pow_f _ (by omega) k (by omega), Option.bind_some, show (2 : Nat) ^ (32 - m) = sz m from rfl, if_neg (by omega), show Int.tdiv (sz n : Int) (sz m : Int) = ((sz n / sz m : Nat) : Int) from rfl]
        have hle : sz n / sz m ≤ sz n := Nat.div_le_self _ _
        have hdiv : Aside0 (sz n / sz m = 2 ^ (m - n)) := ⟨by
          unfold sz
          rw [Nat.pow_div (by omega) (by omega)]
          congr 1
          omega⟩
        generalize sz n / sz m = q at hle hdiv ⊢
        rw [wrap64_id _ (by omega) (by omega)]
        rw [hdiv.out, show (m : Int) - (n : Int) = ((m - n : Nat) : Int) by omega, Int.toNat_natCast]
end Go.Proofs.YtcdopgkkieenjaaDoor.V
end

-- IOpen
section
/- Arguments opened: a net, four bytes. -/
namespace Go.Proofs.YtcdopgkkieenjaaDoor.V
open Go.RowKit Go.Proofs.YtcdopgkkieenjaaDoorW.PrintWords Go.Proofs.YtcdopgkkieenjaaDoorW.PrintLast Go.Proofs.YtcdopgkkieenjaaDoorW.PrintMore
open Go.ChangeShapes Go.WideShapes Go.ChangeAt
set_option linter.unusedVariables false
set_option maxRecDepth 100000
section
variable {H : Type} {enc : TypeId × Value → H} {w : World} {base b0 : Nat} {sp : Nat → Bool} {held : Bool}
/-- A net as it comes in. -/
def NetIs (v : Value) (x : Int × Int) : Prop := v = .agg #[.int .u32 x.1, .int .i64 x.2] ∧ (Lit.int .u32 x.1).wf = true ∧ (Lit.int .i64 x.2).wf = true
theorem open_net {v : Value} {d : DataW H} {ps : List MemPlace} (hval : Value.okWide Tryd.prog w .any b0 44 v) (hd : DataW.Trod enc Tryd.prog w base sp held 44 v d ps) : ∃ x : Int × Int, NetIs v x := by
  obtain ⟨cs, rfl, hz⟩ := okWide_struct Tryd.underlying44 hval
  obtain ⟨fuel, hf⟩ := hd
  obtain ⟨y0, y1, n, _, hl, h0, h1⟩ := trod_struct2 Tryd.underlying44 hf
  have hsz : cs.toList.length = 2 := hl.trans (by kernel_rfl)
  obtain ⟨z0, e0, _, w0⟩ := DataW.trod_int Tryd.underlying22 h0
  obtain ⟨z1, e1, _, w1⟩ := DataW.trod_int Tryd.underlying3 h1
  match hc : cs.toList, hsz with
  | [p, q], _ =>
    have c0 : Tryd.prog.cellsOf 22 = 1 := by kernel_rfl
    have c1 : Tryd.prog.cellsOf 3 = 1 := by kernel_rfl
    have e0' : (cs.toList.drop 0).take (Tryd.prog.cellsOf 22) = [Value.int .u32 z0] := e0
    have e1' : (cs.toList.drop 1).take (Tryd.prog.cellsOf 3) = [Value.int .i64 z1] := e1
    rw [c0, hc] at e0'
    rw [c1, hc] at e1'
    simp at e0' e1'
    refine ⟨(z0, z1), ?_, w0, w1⟩
    rw [show cs = #[p, q] by rw [← Array.toArray_toList (xs := cs), hc], e0', e1']
/-- Four bytes as they come in. -/
def ArrIs (v : Value) (x : Nat × Nat × Nat × Nat) : Prop := v = .agg #[.int .u8 (x.1 : Int), .int .u8 (x.2.1 : Int), .int .u8 (x.2.2.1 : Int), .int .u8 (x.2.2.2 : Int)] ∧ x.1 < 256 ∧ x.2.1 < 256 ∧ x.2.2.1 < 256 ∧ x.2.2.2 < 256
theorem okWide_arr {t e : TypeId} {n : Nat} {v : Value} (ht : Tryd.prog.underlying t = some (.array n e)) (h : Value.okWide Tryd.prog w .any b0 t v) : ∃ cs, v = .agg cs ∧ cs.size = Tryd.prog.cellsOf t := by
  simp only [Value.okWide, ht] at h
  obtain ⟨cs, h1, h2, _⟩ := h
  exact ⟨cs, h1, h2⟩
theorem u8_nat {z : Int} (h : (Lit.int .u8 z).wf = true) : ∃ n : Nat, z = n ∧ n < 256 := by
  have : 0 ≤ z ∧ z ≤ 255 := by simpa [Lit.wf, IntKind.min, IntKind.max, IntKind.signed, IntKind.bits] using h
  exact ⟨z.toNat, by omega, by omega⟩
theorem open_arr4 {v : Value} {d : DataW H} {ps : List MemPlace} (hval : Value.okWide Tryd.prog w .any b0 32 v) (hd : DataW.Trod enc Tryd.prog w base sp held 32 v d ps) : ∃ x : Nat × Nat × Nat × Nat, ArrIs v x := by
  obtain ⟨cs, rfl, hz⟩ := okWide_arr Tryd.underlying32 hval
  obtain ⟨fuel, hf⟩ := hd
  obtain ⟨xs, m, _, _, hl, hlen, hel⟩ := DataW.trod_array Tryd.underlying32 hf
  have hsz : cs.toList.length = 4 := by
    have : cs.size = 4 := hz.trans (by kernel_rfl)
    simpa using this
  have c5 : Tryd.prog.cellsOf 5 = 1 := by kernel_rfl
  have get : ∀ i, i < 4 → ∃ n : Nat, n < 256 ∧ (cs.toList.drop i).take 1 = [Value.int .u8 (n : Int)] := by
    intro i hi
    have h := hel i hi
    rw [c5, Nat.mul_one, List.getElem?_eq_getElem (by omega)] at h
    obtain ⟨z, e, _, w⟩ := DataW.trod_int Tryd.underlying5 h
    obtain ⟨n, rfl, hn⟩ := u8_nat w
    exact ⟨n, hn, e⟩
  obtain ⟨n0, l0, e0⟩ := get 0 (by omega)
  obtain ⟨n1, l1, e1⟩ := get 1 (by omega)
  obtain ⟨n2, l2, e2⟩ := get 2 (by omega)
  obtain ⟨n3, l3, e3⟩ := get 3 (by omega)
  match hc : cs.toList, hsz with
  | [p, q, r, s], _ =>
    rw [hc] at e0 e1 e2 e3
    simp at e0 e1 e2 e3
    refine ⟨(n0, n1, n2, n3), ?_, l0, l1, l2, l3⟩
    rw [show cs = #[p, q, r, s] by rw [← Array.toArray_toList (xs := cs), hc], e0, e1, e2, e3]
end
end Go.Proofs.YtcdopgkkieenjaaDoor.V
end

-- VE46
section
-- PRINTED by print.py (a twelfth state) out of the translation. Not trusted: Lean checks it.
namespace Go.Proofs.YtcdopgkkieenjaaDoor.V
open Go.RowKit Go.Proofs.YtcdopgkkieenjaaDoorW.PrintWords Go.Proofs.YtcdopgkkieenjaaDoorW.PrintLast Go.Proofs.YtcdopgkkieenjaaDoorW.PrintMore
attribute [local go_sem] max2_int min2_int max_two min_two max_three min_three max_four min_four   -- for this text's walks alone
set_option linter.unusedVariables false
set_option linter.unusedSimpArgs false

theorem eqA46 (d : Nat) (w : World) (x0 y0 : Int) (x1 y1 : Int) :
    (Op.equalIn (d + 2) 46 (.agg #[.int .u32 x0, .int .i64 x1]) (.agg #[.int .u32 y0, .int .i64 y1])).run Tryd.prog w = .ok (x0 == y0 && (x1 == y1)) w := by
  refine eqA_of Tryd.underlying46 (by kernel_rfl) ?_
  refine eqf_cons (by rfl) (by go_simp; rfl) (by go_simp; rfl) (by go_simp) ?_
  exact eqf_last (by rfl) (by go_simp; rfl) (by go_simp; rfl) (by go_simp)
end Go.Proofs.YtcdopgkkieenjaaDoor.V
end

