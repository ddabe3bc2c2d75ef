/- virgateref14.Runs by hand. -/
import Derived.Test.YtemhalnhbgkbcaaHRuns
import Derived.Outline
namespace Go.Proofs.Ytemhalnhbgkbcaa.V
open Go.RowKit Go.Proofs.YtemhalnhbgkbcaaW.PrintWords Go.Proofs.YtemhalnhbgkbcaaW.PrintLast Go.Proofs.YtemhalnhbgkbcaaW.PrintMore
set_option linter.unusedVariables false
set_option linter.unusedSimpArgs false

/-- Element q of a row of numbers. -/
theorem int_at {k : IntKind} {w : World} {A : Option Addr} {n : Nat} {xs : List Int} (h : Kd.C (Kd.int k) w A n xs) (q : Nat) (hq : q < xs.length) : ∃ ad, A = some ad ∧ w.cell? (ad.add q) = some (.int k xs[q]) := by
  have hn := Kd.C_len h
  obtain ⟨ad, e1, hcell⟩ := Kd.at_int h (q : Int) (by omega) (by omega)
  have e : rd xs (q : Int) = xs[q] := by simp [rd, List.getD_eq_getElem?_getD, hq]
  rw [e, Int.toNat_natCast] at hcell
  exact ⟨ad, e1, hcell⟩
theorem foldl_take_succ {α β : Type} (f : β → α → β) (b : β) (l : List α) (q : Nat) (hq : q < l.length) : (l.take (q + 1)).foldl f b = f ((l.take q).foldl f b) l[q] := by
  rw [List.take_succ_eq_append_getElem hq, List.foldl_append]; rfl

set_option maxHeartbeats 4000000 in
set_option maxRecDepth 100000 in
theorem r14_Runs_any (s : Nat) (hs : s < 18446744073709551616) (w : World) :
    Calls Try.prog 16 #[.int .u64 (s : Int)] w fun e w' => ∃ v, e = .returned v ∧ Kd.R k2 27 w' w.heap.size (fun _ => True) v (runsOf s) ∧ Below w.heap.size w w' := by
  have HS := Aside0.mk hs
  clear hs
  go_enter Try.func16, Try.ntmps16
  go_wp2_with (go_at_call 19; refine (r14_List_any s HS.out _).mono ?_; rintro e W1 ⟨v0, rfl, hR, hb⟩; obtain ⟨A, c, rfl, hlc, _⟩ := Kd.R_reads hR; have HR0 := Aside0.mk hR; have HB0 := Aside0.mk hb; clear hR hb)
  have hnat : ∀ x ∈ listOf s, ∃ i : Nat, x = (i : Int) ∧ i < 64 := fun x hx => by
    obtain ⟨i, h1, h2, _⟩ := mem_listN_nat s 64 x hx
    exact ⟨i, h1, h2⟩
  have HN := Aside0.mk hnat
  have hll : (listOf s).length ≤ 64 := listN_length s 64
  have HE := Aside0.mk (show runsOf s = (listOf s).foldl runStep [] from rfl)
  clear hnat
  generalize listOf s = L at *
  go_loopw [3, 9] (fun o i W => ∃ q : Nat, q ≤ L.length ∧ i = .int .i64 q ∧ Aside0 (Kd.R k2 27 W w.heap.size (fun _ => True) o ((L.take q).foldl runStep [])) ∧ Aside0 (Kd.R (Kd.int .i64) 3 W w.heap.size (fun _ => True) (.slice A L.length c) L) ∧ Aside0 (Below w.heap.size w W)) (fun _ i _ => L.length - (intOf i).toNat)
  case atStart => exact ⟨0, by omega, rfl, ⟨Kd.R_nil _ _ _ _ _⟩, HR0, HB0⟩
  case round =>
    obtain ⟨q, hq, rfl, HO, HL, HB⟩ := hrel
    obtain ⟨W, rfl⟩ : ∃ W : World, W = wr := ⟨_, rfl⟩
    by_cases hq2 : q < L.length
    · have hqb : decide ((q : Int) < (L.length : Int)) = true := by simp; omega
      obtain ⟨ad, rfl, hcell⟩ := int_at (Kd.R_reads' HL.out).2.2 q hq2
      have hST := foldl_take_succ runStep [] L q hq2
      obtain ⟨x, hx, hx64⟩ := HN.out L[q] (List.getElem_mem hq2)
      rw [hx] at hcell hST
      clear hx
      have hlen := foldl_runStep_length (L.take q) []
      simp only [List.length_nil, List.length_take, Nat.zero_add] at hlen
      generalize (L.take q).foldl runStep [] = O at *
      by_cases hO : O = []
      · obtain ⟨Ao, co, rfl, _⟩ := Kd.R_reads HO.out
        have hO2 : O.length = 0 := by rw [hO]; rfl
        have hb1 : decide ((0 : Int) < (O.length : Int)) = false := by simp; omega
        have hb2 : decide (0 < O.length) = false := by simp; omega
        have HST := Aside0.mk (show (L.take (q + 1)).foldl runStep [] = O ++ [((x : Int), (x : Int) + 1)] by rw [hST, hO]; rfl)
        have HLn := Aside0.mk (show O.length ≤ 64 by omega)
        clear hST hlen hO2 hO
        go_wp2_with (first | ((with_reducible refine gate_builtin (b := .append) (xs := #[.tmp 35, .tmp 40]) rfl ?_); at_builtin; refine Kd.R_append k2 (w0 := w) w.heap.size rfl (.tmp 35) (.tmp 40) 23 27 (.agg #[.int .i64 0, .int .i64 0]) 16 rfl Try.underlying23 info2 rfl (by decide) (by omega) _ O ((x : Int), (x : Int) + 1) [.int .i64 (x : Int), .int .i64 ((x : Int) + 1)] (fun _ => True) (fun _ => False) rfl rfl ?aP (fun _ hk => hk.elim) ?aF ?aO ?aB ?aS ?aL ?_; (case aP => exact k2_mkM _ _ _ _); (case aB => exact (by repeat (first | (with_reducible first | exact HB.out | apply below_alloc | apply pw_below_drewN | apply below_drew1) | exact HB.out))); (case aF => exact (fun _ _ => trivial)); (case aO => exact (by (with_reducible repeat (first | apply Kd.R_alloc | apply Kd.R_drewN | apply Kd.R_drew)); exact HO.out)); (case aS => exact (below_size (by repeat (first | (with_reducible first | exact HB.out | apply below_alloc | apply pw_below_drewN | apply below_drew1) | exact HB.out)))); (case aL => have := HLn.out; omega); intro v1 w1 ho hb hg hat; have HL2 := Aside0.mk (Kd.R_over HL.out HO.out (by intro q_ h_; simp [Kd.int, Kd.scalar] at h_; omega) hg); rw [← HST.out] at ho; have HO2 := Aside0.mk ho; have HB3 := Aside0.mk hb; clear ho hb hg hat))
        go_roundw
        case rel => exact ⟨q + 1, by omega, by go_num, ⟨(by (with_reducible repeat (first | apply Kd.R_alloc | apply Kd.R_drewN | apply Kd.R_drew)); exact HO2.out)⟩, ⟨(by (with_reducible repeat (first | apply Kd.R_alloc | apply Kd.R_drewN | apply Kd.R_drew)); exact HL2.out)⟩, ⟨(by repeat (first | (with_reducible first | exact HB3.out | apply below_alloc | apply pw_below_drewN | apply below_drew1) | exact HB3.out))⟩⟩
        case measure => simp [intOf]; omega
      · rcases List.eq_nil_or_concat O with h | ⟨O', p, rfl⟩
        · exact absurd h hO
        clear hO
        rw [List.concat_eq_append] at hST hlen HO
        obtain ⟨g, cap, rfl, hgb, hgl, _⟩ := Kd.R_form HO.out (by simp)
        have e : (O' ++ [p]).length = O'.length + 1 := by simp
        rw [e] at hlen
        have HOe := HO
        rw [e] at HOe
        obtain ⟨ce, hcl, hcM, hcc, hcf⟩ := Kd.R_elem HOe.out (0, 0) (O'.length : Int) (by omega) (by omega)
        have e2 : (O' ++ [p]).getD (O'.length : Int).toNat (0, 0) = p := by simp [List.getD_eq_getElem?_getD]
        rw [e2] at hcM
        obtain rfl := k2_open (k2.K_of_M hcM)
        have hc1 : W.cell? ⟨g, O'.length * 2 + 1, none⟩ = some (.int .i64 p.2) := by have := hcc 1 _ rfl; rw [Int.toNat_natCast] at this; exact this
        have hf1 : W.frozen? ⟨g, O'.length * 2 + 1, none⟩ = false := by have := hcf 1; rw [Int.toNat_natCast] at this; exact this
        have HCC := Aside0.mk hcc
        have HLn := Aside0.mk (show (O' ++ [p]).length ≤ 64 by omega)
        have hb1 : decide ((0 : Int) < ((O'.length + 1 : Nat) : Int)) = true := by first | (simp; done) | (simp; omega)
        clear hcc hcf hcM e2
        by_cases hp : p.2 = (x : Int)
        · have hpb : (p.2 == (x : Int)) = true := by simpa using hp
          have HST := Aside0.mk (show (L.take (q + 1)).foldl runStep [] = O' ++ [(p.1, (x : Int) + 1)] by
            rw [hST, show p = (p.1, (x : Int)) by rw [← hp], runStep_same])
          have HP := Aside0.mk hp
          clear hST hp
          have hsg := Kd.R_seg HOe.out (O'.length : Int) (by omega) (by omega) (seg := [.int .i64 ((x : Int) + 1)]) (j := 1) (x' := (p.1, (x : Int) + 1)) (okp := fun _ => False) hcl HCC.out (Nat.le_refl 2) (k2_mkM _ _ _ _) (fun _ h => h.elim)
          rw [Int.toNat_natCast, show (O' ++ [p]).set O'.length (p.1, (x : Int) + 1) = O' ++ [(p.1, (x : Int) + 1)] by simp] at hsg
          have hsg' : Kd.R k2 27 (W.setCell ⟨g, O'.length * 2 + 1, none⟩ (.int .i64 ((x : Int) + 1))) w.heap.size (fun _ => True) (.slice (some ⟨g, 0, none⟩) (O'.length + 1) cap) (O' ++ [(p.1, (x : Int) + 1)]) ∧ W.grownBy (W.setCell ⟨g, O'.length * 2 + 1, none⟩ (.int .i64 ((x : Int) + 1))) (some g) := hsg
          have HO2 := Aside0.mk hsg'.1
          have HL2 := Aside0.mk (Kd.R_over HL.out HOe.out (by intro q_ h_; simp [Kd.int, Kd.scalar] at h_; omega) (by simpa [Value.ownBlock] using hsg'.2))
          have HB2 := Aside0.mk (Below.setCell HB.out (p := ⟨g, O'.length * 2 + 1, none⟩) hgb (.int .i64 ((x : Int) + 1)))
          rw [← e, ← HST.out] at HO2
          clear hsg hsg' e
          go_wp2
          go_roundw
          case rel => exact ⟨q + 1, by omega, by go_num, HO2, HL2, HB2⟩
          case measure => simp [intOf]; omega
        · have hpb : (p.2 == (x : Int)) = false := by simpa using hp
          have HST := Aside0.mk (show (L.take (q + 1)).foldl runStep [] = O' ++ [p] ++ [((x : Int), (x : Int) + 1)] by
            rw [hST, runStep_other _ p _ (by simp) hp])
          clear hST hp e
          go_wp2_with (first | ((with_reducible refine gate_builtin (b := .append) (xs := #[.tmp 35, .tmp 40]) rfl ?_); at_builtin; refine Kd.R_append k2 (w0 := w) w.heap.size rfl (.tmp 35) (.tmp 40) 23 27 (.agg #[.int .i64 0, .int .i64 0]) 16 rfl Try.underlying23 info2 rfl (by decide) (by omega) _ (O' ++ [p]) ((x : Int), (x : Int) + 1) [.int .i64 (x : Int), .int .i64 ((x : Int) + 1)] (fun _ => True) (fun _ => False) rfl rfl ?aP (fun _ hk => hk.elim) ?aF ?aO ?aB ?aS ?aL ?_; (case aP => exact k2_mkM _ _ _ _); (case aB => exact (by repeat (first | (with_reducible first | exact HB.out | apply below_alloc | apply pw_below_drewN | apply below_drew1) | exact HB.out))); (case aF => exact (fun _ _ => trivial)); (case aO => exact (by (with_reducible repeat (first | apply Kd.R_alloc | apply Kd.R_drewN | apply Kd.R_drew)); exact HO.out)); (case aS => exact (below_size (by repeat (first | (with_reducible first | exact HB.out | apply below_alloc | apply pw_below_drewN | apply below_drew1) | exact HB.out)))); (case aL => have := HLn.out; omega); intro v1 w1 ho hb hg hat; have HL2 := Aside0.mk (Kd.R_over HL.out HO.out (by intro q_ h_; simp [Kd.int, Kd.scalar] at h_; omega) hg); rw [← HST.out] at ho; have HO2 := Aside0.mk ho; have HB3 := Aside0.mk hb; clear ho hb hg hat))
          go_roundw
          case rel => exact ⟨q + 1, by omega, by go_num, ⟨(by (with_reducible repeat (first | apply Kd.R_alloc | apply Kd.R_drewN | apply Kd.R_drew)); exact HO2.out)⟩, ⟨(by (with_reducible repeat (first | apply Kd.R_alloc | apply Kd.R_drewN | apply Kd.R_drew)); exact HL2.out)⟩, ⟨(by repeat (first | (with_reducible first | exact HB3.out | apply below_alloc | apply pw_below_drewN | apply below_drew1) | exact HB3.out))⟩⟩
          case measure => simp [intOf]; omega
    · obtain rfl : q = L.length := by omega
      rw [List.take_of_length_le (Nat.le_refl _), ← HE.out] at HO
      go_wp2
      go_ret
      exact ⟨_, rfl, (by (with_reducible repeat (first | apply Kd.R_alloc | apply Kd.R_drewN | apply Kd.R_drew)); exact HO.out), (by repeat (first | (with_reducible first | exact HB.out | apply below_alloc | apply pw_below_drewN | apply below_drew1) | exact HB.out))⟩
end Go.Proofs.Ytemhalnhbgkbcaa.V
