/- bits.Runs by hand. -/
import Derived.Test.YtemhalnhbgkbcaaV0
import Derived.Test.YtemhalnhbgkbcaaHRunsP
import Derived.Outline
namespace Go.Proofs.Ytemhalnhbgkbcaa.V
open Go.RowKit Go.Proofs.YtemhalnhbgkbcaaW.PrintWords Go.Proofs.YtemhalnhbgkbcaaW.PrintLast Go.Proofs.YtemhalnhbgkbcaaW.PrintMore
set_option linter.unusedVariables false
set_option linter.unusedSimpArgs false

def k2 : Kd (Int × Int) := Kd.pair (Kd.int .i64) (Kd.int .i64)
theorem k2_mk (w : World) (x : Int × Int) : k2.K w x [.int .i64 x.1, .int .i64 x.2] := ⟨[.int .i64 x.1], [.int .i64 x.2], rfl, rfl, rfl⟩
theorem k2_mkM (w : World) (base : Nat) (ok : Nat → Prop) (x : Int × Int) : k2.M w base ok x [.int .i64 x.1, .int .i64 x.2] := ⟨[.int .i64 x.1], [.int .i64 x.2], rfl, rfl, rfl⟩
theorem k2_open {w : World} {x : Int × Int} {cs : List Value} (h : k2.K w x cs) : cs = [.int .i64 x.1, .int .i64 x.2] := by
  obtain ⟨_, _, rfl, rfl, rfl⟩ := h
  rfl
theorem info2 : (Try.prog.info? 27).map (fun i => (i.zero, i.size, i.bytes)) = some (some (.agg #[.int .i64 0, .int .i64 0]), 2, 16) := by kernel_rfl
/-- Element q of a row of pairs. -/
theorem k2_at {w : World} {A : Option Addr} {xs : List (Int × Int)} (h : Kd.C k2 w A xs.length xs) (q : Nat) (hq : q < xs.length) :
    ∃ ad, A = some ad ∧ w.cell? (ad.add (q * 2)) = some (.int .i64 xs[q].1) ∧ w.cell? ⟨(ad.add (q * 2)).block, (ad.add (q * 2)).off + 1, none⟩ = some (.int .i64 xs[q].2) := by
  obtain ⟨ad, c, e, _, hK, hc⟩ := Kd.C_get h (0, 0) (q : Int) (by omega) (by omega)
  have e1 : xs.getD (q : Int).toNat (0, 0) = xs[q] := by simp [List.getD_eq_getElem?_getD, hq]
  rw [e1] at hK
  obtain rfl := k2_open hK
  refine ⟨ad, e, ?_, ?_⟩
  · have := hc 0 _ rfl
    rw [Int.toNat_natCast] at this
    exact this
  · have := hc 1 _ rfl
    rw [Int.toNat_natCast] at this
    rw [← add_field _ _ 1 (by omega)]
    exact this

set_option maxHeartbeats 2000000 in
set_option maxRecDepth 100000 in
theorem runs_any (s : Nat) (hs : s < 18446744073709551616) (w : World) :
    Calls Try.prog 15 #[.int .u64 (s : Int)] w fun e w' => ∃ v, e = .returned v ∧ Kd.R k2 27 w' w.heap.size (fun _ => True) v (runsOf s) ∧ Below w.heap.size w w' := by
  have HB := Aside0.mk (Below.refl w.heap.size w)
  have HS := Aside0.mk hs
  clear hs
  go_enter Try.func15, Try.ntmps15
  go_wp2
  go_loopw [3, 4] (fun o i W => ∃ j : Nat, j ≤ 64 ∧ i = .int .i64 j ∧ (j = 0 ∨ s.testBit (j - 1) = false ∨ j = 64 ∨ hasB s (j : Int) = false) ∧ Aside0 (Kd.R k2 27 W w.heap.size (fun _ => True) o (runsF s j)) ∧ Aside0 (Below w.heap.size w W)) (fun _ i _ => 64 - (intOf i).toNat)
  case atStart => exact ⟨0, by omega, rfl, .inl rfl, ⟨Kd.R_nil _ _ _ _ _⟩, HB⟩
  case round =>
    obtain ⟨j, hj, rfl, hb, HO, HB⟩ := hrel
    obtain ⟨W, rfl⟩ : ∃ W : World, W = wr := ⟨_, rfl⟩
    by_cases hj2 : j < 64
    · have hjb : decide ((j : Int) < 64) = true := by simp; omega
      cases hh : hasB s (j : Int) with
      | false =>
        have ht : s.testBit j = false := by simpa [hasB, slotB_of j hj2] using hh
        have HF := Aside0.mk (show runsF s (j + 1) = runsF s j by rw [runsF_succ, if_neg (by simp [ht])])
        have HT := Aside0.mk ht
        have HH := Aside0.mk hh
        clear ht hb hh
        go_wp2_with (go_at_call 20; refine (has_any s HS.out _ _).mono ?_; rintro e w' ⟨rfl, ⟨nd, rfl⟩⟩; rw [HH.out])
        go_roundw
        case rel => exact ⟨j + 1, by omega, by go_num, .inr (.inl (by simpa using HT.out)), ⟨by rw [HF.out]; exact (by (with_reducible repeat (first | apply Kd.R_alloc | apply Kd.R_drewN | apply Kd.R_drew)); exact HO.out)⟩, ⟨(by repeat (first | (with_reducible first | exact HB.out | apply below_alloc | apply pw_below_drewN | apply below_drew1) | exact HB.out))⟩⟩
        case measure => simp [intOf]; omega
      | true =>
        have ht : s.testBit j = true := by simpa [hasB, slotB_of j hj2] using hh
        have hb2 : j = 0 ∨ s.testBit (j - 1) = false := by
          rcases hb with h | h | h | h
          · exact .inl h
          · exact .inr h
          · omega
          · rw [hh] at h; cases h
        have HB2 := Aside0.mk hb2
        have HT := Aside0.mk ht
        have HH := Aside0.mk hh
        clear ht hb hh hb2
        go_wp2_with (go_at_call 20; refine (has_any s HS.out _ _).mono ?_; rintro e w' ⟨rfl, ⟨nd, rfl⟩⟩; rw [HH.out])
        go_loopw [5] (fun k W2 => ∃ q : Nat, j ≤ q ∧ q ≤ 64 ∧ k = .int .i64 q ∧ Aside0 (∀ t, j ≤ t → t < q → s.testBit t = true) ∧ Drawn0 W W2) (fun k _ => 65 - (intOf k).toNat)
        case atStart => exact ⟨j, by omega, by omega, rfl, ⟨fun t h1 h2 => by omega⟩, by repeat (first | exact Drawn0.refl _ | apply Drawn0.step)⟩
        case round =>
          obtain ⟨q, hq1, hq2, rfl, HQ, ⟨m2, rfl⟩⟩ := hrel
          cases hh : hasB s (q : Int) with
          | true =>
            have hq3 : q < 64 := by
              simp [hasB] at hh
              have := slotB_true hh.1
              omega
            have HT2 := Aside0.mk (show s.testBit q = true by simpa [hasB, slotB_of q hq3] using hh)
            have HH2 := Aside0.mk hh
            clear hh
            go_wp2_with (go_at_call 20; refine (has_any s HS.out _ _).mono ?_; rintro e w' ⟨rfl, ⟨nd, rfl⟩⟩; rw [HH2.out])
            go_roundw
            case rel => exact ⟨q + 1, by omega, by omega, by go_num, ⟨fun t h1 h2 => by
              by_cases h3 : t < q
              · exact HQ.out t h1 h3
              · obtain rfl : t = q := by omega
                exact HT2.out⟩, by repeat (first | exact Drawn0.refl _ | apply Drawn0.step)⟩
            case measure => simp [intOf]; omega
          | false =>
            have hq4 : j < q := by
              by_cases h : q = j
              · subst h; rw [HH.out] at hh; cases hh
              · omega
            have HF := Aside0.mk (show runsF s q = runsF s j ++ [((j : Int), (q : Int))] by
              have := runsF_run s j HB2.out (q - j - 1) (fun t h1 h2 => HQ.out t h1 (by omega))
              rw [show j + (q - j - 1) + 1 = q by omega] at this
              exact this)
            have hlen := runsF_length s j
            have HL := Aside0.mk hlen
            have HH2 := Aside0.mk hh
            clear hh hlen
            go_wp2_with (first | (go_at_call 20; refine (has_any s HS.out _ _).mono ?_; rintro e w' ⟨rfl, ⟨nd, rfl⟩⟩; rw [HH2.out]) | ((with_reducible refine gate_builtin (b := .append) (xs := #[.tmp 20, .tmp 24]) rfl ?_); at_builtin; refine Kd.R_append k2 (w0 := w) w.heap.size rfl (.tmp 20) (.tmp 24) 23 27 (.agg #[.int .i64 0, .int .i64 0]) 16 rfl Try.underlying23 info2 rfl (by decide) (by omega) u3 (runsF s j) ((j : Int), (q : Int)) [.int .i64 (j : Int), .int .i64 (q : Int)] (fun _ => True) (fun _ => False) rfl rfl ?aP (fun _ hk => hk.elim) ?aF ?aO ?aB ?aS ?aL ?_; (case aP => exact k2_mkM _ _ _ _); (case aB => exact (by repeat (first | (with_reducible first | exact HB.out | apply below_alloc | apply pw_below_drewN | apply below_drew1) | exact HB.out))); (case aF => exact (fun _ _ => trivial)); (case aO => exact (by (with_reducible repeat (first | apply Kd.R_alloc | apply Kd.R_drewN | apply Kd.R_drew)); exact HO.out)); (case aS => exact (below_size (by repeat (first | (with_reducible first | exact HB.out | apply below_alloc | apply pw_below_drewN | apply below_drew1) | exact HB.out)))); (case aL => have := HL.out; omega); intro v1 w1 ho hb hg hat; rw [← HF.out] at ho; have HO2 := Aside0.mk ho; have HB3 := Aside0.mk hb; clear ho hb hg hat))
            go_roundw
            case rel => exact ⟨q, by omega, by go_num, .inr (.inr (.inr HH2.out)), ⟨(by (with_reducible repeat (first | apply Kd.R_alloc | apply Kd.R_drewN | apply Kd.R_drew)); exact HO2.out)⟩, ⟨(by repeat (first | (with_reducible first | exact HB3.out | apply below_alloc | apply pw_below_drewN | apply below_drew1) | exact HB3.out))⟩⟩
            case measure => simp [intOf]; omega
    · obtain rfl : j = 64 := by omega
      clear hb
      go_wp2
      go_ret
      exact ⟨_, rfl, (by (with_reducible repeat (first | apply Kd.R_alloc | apply Kd.R_drewN | apply Kd.R_drew)); exact HO.out), (by repeat (first | (with_reducible first | exact HB.out | apply below_alloc | apply pw_below_drewN | apply below_drew1) | exact HB.out))⟩
end Go.Proofs.Ytemhalnhbgkbcaa.V
