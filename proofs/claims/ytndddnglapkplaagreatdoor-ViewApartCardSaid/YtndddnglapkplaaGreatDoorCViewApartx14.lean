/- The law ViewApart for every input: texts of ours, put together (part 15 of 16). No further condition. -/
import Derived.Test.YtndddnglapkplaaGreatDoorCViewApartx2
import Derived.Test.YtndddnglapkplaaGreatDoorCViewApartx5
import Derived.Test.YtndddnglapkplaaGreatDoorCViewApartx3
import Derived.Test.YtndddnglapkplaaGreatDoorCViewApartx7
import Derived.Test.YtndddnglapkplaaGreatDoorCViewApartx6
import Derived.Test.YtndddnglapkplaaGreatDoorCViewApartx8
import Derived.Test.YtndddnglapkplaaGreatDoorCViewApartx13
import Derived.Test.YtndddnglapkplaaGreatDoorCViewApartx4
import Derived.Outline
set_option linter.unusedVariables false
set_option linter.unusedSimpArgs false
open Go.RowKit Go.Proofs.YtndddnglapkplaaGreatDoorW.PrintWords Go.Proofs.YtndddnglapkplaaGreatDoorW.PrintLast Go.Proofs.YtndddnglapkplaaGreatDoorW.PrintMore Go.Proofs.YtndddnglapkplaaGreatDoor.Z
section
namespace Go.Proofs.YtndddnglapkplaaGreatDoor.V
attribute [local go_sem] bI bG bP bO bw bu bH bF
def cx.l0 : Nat → ByteArray → Int → Option (Int × Int × Bool)
 | 0, _, _ => none
 | k + 1, x0, x4 => if x4 < (x0.size : Int) then (if 0 ≤ x4 then (if (bt x0 x4) = 47 then (if x4 ≤ (x0.size : Int) then ((a8.f k (x0.extract 0 (x4 : Int).toNat)).bind fun wZ => (if 0 ≤ (wrap64 (x4 + 1)) then (if (wrap64 (x4 + 1)) ≤ (x0.size : Int) then ((aJ.f k (x0.extract ((wrap64 (x4 + 1)) : Int).toNat x0.size) 32).bind fun jM => (if wZ.2 = true then (if jM.2 = true then ((cU.f k wZ.1 jM.1).bind fun ja => (if ja = true then (some (wZ.1, jM.1, true)) else (some (0, 0, false)))) else (some (0, 0, false))) else (some (0, 0, false)))) else (none)) else (none))) else (none)) else (cx.l0 k x0 (wrap64 (x4 + 1)))) else (none)) else (some (0, 0, false))
def cx.f (k : Nat) (a0 : ByteArray) : Option (Int × Int × Bool) := cx.l0 k a0 0
set_option maxHeartbeats 8000000 in
set_option maxRecDepth 100000 in
theorem cx.calls (k : Nat) (a0 : ByteArray) (r1 : Int) (r2 : Int) (r3 : Bool) (w : World) (h : cx.f k a0 = some (r1, r2, r3)) :
  Calls Tryz.prog 62 #[.string a0] w fun e w' => e = .returned (.tuple #[.agg #[.int .u32 r1, .int .i64 r2], .bool r3]) ∧ Below w.heap.size w w' := by
 have Ls := Tryz.underlying43
 have HB := ak (Below.refl w.heap.size w)
 have H : (cx.l0 k a0 0) = some (r1, r2, r3) := h
 clear h
 have H' := ak H
 clear H
 go_enter Tryz.func62, Tryz.ntmps62
 go_wp2_with (first | ((with_reducible refine aA (N := 2) rfl ?_); refine bl ?hg (N := 2) ?hd (cs := #[.int .u32 0, .int .i64 0]) (t := 43) ?hr ?_; (case hd => rfl); (case hg => rfl); (case hr => first | (go_simp; done) | (go_simp; rfl)); intro b6 hg w2 hbox hb; have av := ak (au (by repeat (first | (with_reducible first | exact HB.out | apply aa | apply J | apply ab) | exact HB.out)) hb); have az := ak (hbox); have aR := ak ((by rw [hg]; exact (ay (by repeat (first | (with_reducible first | exact HB.out | apply aa | apply J | apply ab) | exact HB.out))) : w.heap.size ≤ b6)); have bp := ak ((by rw [hg]; exact (ay (by repeat (first | (with_reducible first | exact HB.out | apply aa | apply J | apply ab) | exact HB.out))) : w.heap.size ≤ b6)); clear HB; have HB := av; have bn := az; have Ua := aR; have dA := bp; clear av az aR bp; clear hb hbox hg))
 go_loopg [4] k (fun kq v4 w' => ∃ (cM : Int) (bL : Int) (bD : Int), v4 = .int .i64 cM ∧ Aside0 (cx.l0 kq a0 cM = some (r1, r2, r3)) ∧ Aside0 (kq ≤ k) ∧ Aside0 (w'.heap[b6]? = some (.cells #[.int .u32 bL, .int .i64 bD] 43 (0, 0))) ∧ Aside0 (Below w.heap.size w w'))
 case atStart => exact ⟨(0), (0), (0), (by first | rfl | (simp; done) | (simp [*]; done)), H', ⟨Nat.le_refl _⟩, ⟨by (with_reducible repeat (first | refine ae ?_ _ | refine ag ?_ | refine af ?_ _)); exact bn.out⟩, ⟨by repeat (first | (with_reducible first | exact HB.out | apply aa | apply J | apply ab | refine ai ?_ dA.out) | exact HB.out)⟩⟩
 case round =>
  clear H'
  obtain ⟨cM, bL, bD, rfl, HA, cC, bn, HB⟩ := hrel
  cases gk with
  | zero => exact absurd HA.out (by simp [cx.l0])
  | succ k1 =>
   have H := HA.out
   clear HA
   simp only [cx.l0] at H
   by_cases c3 : cM < (a0.size : Int)
   ·rw [if_pos c3] at H
    have gw : decide (cM < (a0.size : Int)) = true := decide_eq_true c3
    clear c3
    by_cases c4 : 0 ≤ cM
    ·rw [if_pos c4] at H
     have fj : decide (0 ≤ cM) = true := decide_eq_true c4
     clear c4
     by_cases c6 : (bt a0 cM) = 47
     ·rw [if_pos c6] at H
      have jq : ((bt a0 cM) == 47) = true := beq_iff_eq.mpr c6
      have uO : ((bt a0 cM) != 47) = false := bne_eq_false_iff_eq.mpr c6
      clear c6
      have nn := eq_true (of_decide_eq_true (by first | (with_reducible assumption) | assumption) : 0 ≤ cM)
      by_cases c8 : cM ≤ (a0.size : Int)
      ·rw [if_pos c8] at H
       have ma := eq_true c8
       have rK : decide (cM ≤ (a0.size : Int)) = true := decide_eq_true c8
       clear c8
       replace H := Option.bind_eq_some_iff.mp H
       obtain ⟨⟨eN, vm⟩, Fy, H⟩ := H
       replace H : (if 0 ≤ (wrap64 (cM + 1)) then (if (wrap64 (cM + 1)) ≤ (a0.size : Int) then ((aJ.f k1 (a0.extract ((wrap64 (cM + 1)) : Int).toNat a0.size) 32).bind fun jM => (if vm = true then (if jM.2 = true then ((cU.f k1 eN jM.1).bind fun ja => (if ja = true then (some (eN, jM.1, true)) else (some (0, 0, false)))) else (some (0, 0, false))) else (some (0, 0, false)))) else (none)) else (none)) = some (r1, r2, r3) := H
       have A9 := ak Fy
       clear Fy
       obtain ⟨lE, lX⟩ : ∃ j_ : Int, (wrap64 (cM + 1)) = j_ := ⟨_, rfl⟩
       replace H : (if 0 ≤ (lE) then (if (lE) ≤ (a0.size : Int) then ((aJ.f k1 (a0.extract ((lE) : Int).toNat a0.size) 32).bind fun jM => (if vm = true then (if jM.2 = true then ((cU.f k1 eN jM.1).bind fun ja => (if ja = true then (some (eN, jM.1, true)) else (some (0, 0, false)))) else (some (0, 0, false))) else (some (0, 0, false)))) else (none)) else (none)) = some (r1, r2, r3) := by first | (rw [lX] at H; exact H) | (simp only [lX] at H ⊢; exact H)
       (try rw [lX] at A9)
       have UT : (IntKind.i64.wrap (cM + 1)) = lE := (cp _).trans lX
       by_cases eD : 0 ≤ (lE)
       ·rw [if_pos eD] at H
        have mT := eq_true eD
        have pT : decide (0 ≤ (lE)) = true := decide_eq_true eD
        clear eD
        by_cases ft : (lE) ≤ (a0.size : Int)
        ·rw [if_pos ft] at H
         have pS := eq_true ft
         have we : decide ((lE) ≤ (a0.size : Int)) = true := decide_eq_true ft
         clear ft
         replace H := Option.bind_eq_some_iff.mp H
         obtain ⟨⟨gF, vl⟩, tn, H⟩ := H
         replace H : (if vm = true then (if vl = true then ((cU.f k1 eN gF).bind fun ja => (if ja = true then (some (eN, gF, true)) else (some (0, 0, false)))) else (some (0, 0, false))) else (some (0, 0, false))) = some (r1, r2, r3) := H
         have wz := ak tn
         clear tn
         by_cases fD : vm = true
         ·subst fD
          have H1 : (if vl = true then ((cU.f k1 eN gF).bind fun ja => (if ja = true then (some (eN, gF, true)) else (some (0, 0, false)))) else (some (0, 0, false))) = some (r1, r2, r3) := by rw [if_pos rfl] at H; exact H
          clear H
          have H := H1
          clear H1
          by_cases kL : vl = true
          ·subst kL
           have H1 : ((cU.f k1 eN gF).bind fun ja => (if ja = true then (some (eN, gF, true)) else (some (0, 0, false)))) = some (r1, r2, r3) := by rw [if_pos rfl] at H; exact H
           clear H
           have H := H1
           clear H1
           replace H := Option.bind_eq_some_iff.mp H
           obtain ⟨ja, Ny, H⟩ := H
           replace H : (if ja = true then (some (eN, gF, true)) else (some (0, 0, false))) = some (r1, r2, r3) := H
           have Qp := ak Ny
           clear Ny
           by_cases sY : ja = true
           ·subst sY
            have H1 : (some (eN, gF, true)) = some (r1, r2, r3) := by rw [if_pos rfl] at H; exact H
            clear H
            have H := H1
            clear H1
            simp only [Option.some.injEq, Prod.mk.injEq] at H
            obtain ⟨rfl, rfl, rfl⟩ := H
            have p5 : 0 ≤ (cM : Int) := of_decide_eq_true (by first | (with_reducible assumption) | assumption)
            have q5 : cM < (a0.size : Int) := of_decide_eq_true (by first | (with_reducible assumption) | assumption)
            have xM := cb a0 cM
            replace p5 := eq_true p5
            replace q5 := eq_true q5
            go_wp2_with (first | ((with_reducible refine aD (f := 97) rfl ?_); refine bg (some 24) rfl rfl Tryz.func97 (by kernel_rfl) rfl #[.string (a0.extract 0 (cM : Int).toNat)] rfl (by (try simp only [List.map_toArray, List.map_cons, List.map_nil]); first | done | rfl | (simp only [List.length_drop, List.length_take]; rfl)) ?_; (with_reducible refine (a8.calls k1 (a0.extract 0 (cM : Int).toNat) eN true _ A9.out).mono ?_); rintro e tU ⟨rfl, hb⟩; refine ⟨_, rfl, ?_⟩; have av := ak (aU (g := b6) (o := .cells #[.int .u32 bL, .int .i64 bD] 43 (0, 0)) (by (with_reducible repeat (first | refine ae ?_ _ | refine ag ?_ | refine af ?_ _)); exact bn.out) hb); have az := ak (au (by repeat (first | (with_reducible first | exact HB.out | apply aa | apply J | apply ab | refine ai ?_ dA.out) | exact HB.out)) hb); clear bn; clear HB; have bn := av; have HB := az; clear av az; (try clear hb); (try clear bC); (try clear hk); (try clear hi)) | ((with_reducible refine aD (f := 98) rfl ?_); refine bg (some 32) rfl rfl Tryz.func98 (by kernel_rfl) rfl #[.string (a0.extract ((lE) : Int).toNat a0.size), .int .i64 32] rfl (by (try simp only [List.map_toArray, List.map_cons, List.map_nil]); first | done | (simp only [lX]; rfl) | rfl | (simp only [List.length_drop, List.length_take]; rfl)) ?_; (with_reducible refine (aJ.calls k1 (a0.extract ((lE) : Int).toNat a0.size) 32 gF true _ wz.out).mono ?_); rintro e xp ⟨rfl, hb⟩; refine ⟨_, rfl, ?_⟩; have av := ak (aU (g := b6) (o := .cells #[.int .u32 bL, .int .i64 bD] 43 (0, 0)) (by (with_reducible repeat (first | refine ae ?_ _ | refine ag ?_ | refine af ?_ _)); exact bn.out) hb); have az := ak (au (by repeat (first | (with_reducible first | exact HB.out | apply aa | apply J | apply ab | refine ai ?_ dA.out) | exact HB.out)) hb); clear bn; clear HB; have bn := av; have HB := az; clear av az; (try clear hb); (try clear bC); (try clear hk); (try clear hi)) | ((with_reducible refine aA (N := 9) rfl ?_); refine bl ?hg (N := 9) ?hd (cs := #[.int .u32 0, .int .i64 0]) (t := 43) ?hr ?_; (case hd => rfl); (case hg => rfl); (case hr => first | (go_simp; done) | (go_simp; rfl)); intro dk hg Bu hbox hb; have av := ak (aU (g := b6) (o := .cells #[.int .u32 bL, .int .i64 bD] 43 (0, 0)) (by (with_reducible repeat (first | refine ae ?_ _ | refine ag ?_ | refine af ?_ _)); exact bn.out) hb); have az := ak (au (by repeat (first | (with_reducible first | exact HB.out | apply aa | apply J | apply ab | refine ai ?_ dA.out) | exact HB.out)) hb); have aR := ak (hbox); have bp := ak ((by rw [hg]; exact (ay (by repeat (first | (with_reducible first | exact HB.out | apply aa | apply J | apply ab | refine ai ?_ dA.out) | exact HB.out))) : w.heap.size ≤ dk)); have eh := ak ((by rw [hg]; exact (ay (by repeat (first | (with_reducible first | exact HB.out | apply aa | apply J | apply ab | refine ai ?_ dA.out) | exact HB.out))) : w.heap.size ≤ dk)); have eg := ak ((by rw [hg]; exact Nat.ne_of_lt (cJ (g := b6) (o := .cells #[.int .u32 bL, .int .i64 bD] 43 (0, 0)) (by (with_reducible repeat (first | refine ae ?_ _ | refine ag ?_ | refine af ?_ _)); exact bn.out)) : b6 ≠ dk)); have ef := ak ((by rw [hg]; exact Nat.ne_of_gt (cJ (g := b6) (o := .cells #[.int .u32 bL, .int .i64 bD] 43 (0, 0)) (by (with_reducible repeat (first | refine ae ?_ _ | refine ag ?_ | refine af ?_ _)); exact bn.out)) : dk ≠ b6)); clear bn; clear HB; have bn := av; have HB := az; have dB := aR; have xg := bp; have lA := eh; have dC := eg; have ig := ef; clear av az aR bp eh eg ef; clear hb hbox hg; have WA := ig.out; have Wh := dC.out; have TF : Bu.cell? ⟨dk, 0, none⟩ = some (.int .u32 0) := (aj dB.out 0).trans rfl; have TE : Bu.cell? ⟨dk, 1, none⟩ = some (.int .i64 0) := (aj dB.out 1).trans rfl; have Sd := ah dB.out 0; have Sc := ah dB.out 1) | (go_at_call 49; (with_reducible refine (cU.calls k1 eN gF true _ Qp.out).mono ?_); rintro e Hu ⟨rfl, hb⟩; have av := ak (aU (g := b6) (o := .cells #[.int .u32 bL, .int .i64 bD] 43 (0, 0)) (by (with_reducible repeat (first | refine ae ?_ _ | refine ag ?_ | refine af ?_ _)); refine cD ?_ dC.out _; (with_reducible repeat (first | refine ae ?_ _ | refine ag ?_ | refine af ?_ _)); refine cD ?_ dC.out _; (with_reducible repeat (first | refine ae ?_ _ | refine ag ?_ | refine af ?_ _)); exact bn.out) hb); have az := ak (aU (g := dk) (o := .cells #[.int .u32 eN, .int .i64 gF] 43 (0, 0)) (by (with_reducible repeat (first | refine ae ?_ _ | refine ag ?_ | refine af ?_ _)); refine b7 (cs := #[.int .u32 eN, .int .i64 0]) ?_ 1 _ rfl; (with_reducible repeat (first | refine ae ?_ _ | refine ag ?_ | refine af ?_ _)); refine b7 (cs := #[.int .u32 0, .int .i64 0]) ?_ 0 _ rfl; (with_reducible repeat (first | refine ae ?_ _ | refine ag ?_ | refine af ?_ _)); exact dB.out) hb); have aR := ak (au (by repeat (first | (with_reducible first | exact HB.out | apply aa | apply J | apply ab | refine ai ?_ dA.out | refine ai ?_ lA.out) | exact HB.out)) hb); clear bn; clear dB; clear HB; have bn := av; have dB := az; have HB := aR; clear av az aR; (try clear hb); (try clear bC); (try clear hk); (try clear hi); have J4 : Hu.cell? ⟨dk, 0, none⟩ = some (.int .u32 eN) := (aj dB.out 0).trans rfl; have J3 : Hu.cell? ⟨dk, 1, none⟩ = some (.int .i64 gF) := (aj dB.out 1).trans rfl; have JJ := ah dB.out 0; have JI := ah dB.out 1; have BP : Hu.cell? ⟨b6, 0, none⟩ = some (.int .u32 bL) := (aj bn.out 0).trans rfl; have BO : Hu.cell? ⟨b6, 1, none⟩ = some (.int .i64 bD) := (aj bn.out 1).trans rfl; have BJ := ah bn.out 0; have BI := ah bn.out 1))
            refine bodyPost_ret (bV rfl _ _ b6 43 #[.int .u32 eN, .int .i64 gF] (0, 0) _ rfl (by (with_reducible repeat (first | refine ae ?_ _ | refine ag ?_ | refine af ?_ _)); refine b7 (cs := #[.int .u32 eN, .int .i64 bD]) ?_ 1 _ rfl; (with_reducible repeat (first | refine ae ?_ _ | refine ag ?_ | refine af ?_ _)); refine b7 (cs := #[.int .u32 bL, .int .i64 bD]) ?_ 0 _ rfl; (with_reducible repeat (first | refine ae ?_ _ | refine ag ?_ | refine af ?_ _)); exact bn.out) Tryz.underlying43 rfl (by kernel_rfl)) rfl ?_
            exact ⟨by first | rfl | (simp [aq, ao] <;> rfl) | (simp only [← lX]; first | rfl | (simp [aq, ao] <;> rfl)) | (simp [*, aq, ao] <;> rfl), by repeat (first | (with_reducible first | exact HB.out | apply aa | apply J | apply ab | refine ai ?_ dA.out | refine ai ?_ lA.out) | exact HB.out)⟩
           ·replace sY := Bool.eq_false_iff.mpr sY
            subst sY
            have H1 : (some (0, 0, false)) = some (r1, r2, r3) := by rw [if_neg (show ¬ (false = true) by decide)] at H; exact H
            clear H
            have H := H1
            clear H1
            simp only [Option.some.injEq, Prod.mk.injEq] at H
            obtain ⟨rfl, rfl, rfl⟩ := H
            have p5 : 0 ≤ (cM : Int) := of_decide_eq_true (by first | (with_reducible assumption) | assumption)
            have q5 : cM < (a0.size : Int) := of_decide_eq_true (by first | (with_reducible assumption) | assumption)
            have xM := cb a0 cM
            replace p5 := eq_true p5
            replace q5 := eq_true q5
            go_wp2_with (first | ((with_reducible refine aD (f := 97) rfl ?_); refine bg (some 24) rfl rfl Tryz.func97 (by kernel_rfl) rfl #[.string (a0.extract 0 (cM : Int).toNat)] rfl (by (try simp only [List.map_toArray, List.map_cons, List.map_nil]); first | done | rfl | (simp only [List.length_drop, List.length_take]; rfl)) ?_; (with_reducible refine (a8.calls k1 (a0.extract 0 (cM : Int).toNat) eN true _ A9.out).mono ?_); rintro e xn ⟨rfl, hb⟩; refine ⟨_, rfl, ?_⟩; have av := ak (aU (g := b6) (o := .cells #[.int .u32 bL, .int .i64 bD] 43 (0, 0)) (by (with_reducible repeat (first | refine ae ?_ _ | refine ag ?_ | refine af ?_ _)); exact bn.out) hb); have az := ak (au (by repeat (first | (with_reducible first | exact HB.out | apply aa | apply J | apply ab | refine ai ?_ dA.out) | exact HB.out)) hb); clear bn; clear HB; have bn := av; have HB := az; clear av az; (try clear hb); (try clear bC); (try clear hk); (try clear hi)) | ((with_reducible refine aD (f := 98) rfl ?_); refine bg (some 32) rfl rfl Tryz.func98 (by kernel_rfl) rfl #[.string (a0.extract ((lE) : Int).toNat a0.size), .int .i64 32] rfl (by (try simp only [List.map_toArray, List.map_cons, List.map_nil]); first | done | (simp only [lX]; rfl) | rfl | (simp only [List.length_drop, List.length_take]; rfl)) ?_; (with_reducible refine (aJ.calls k1 (a0.extract ((lE) : Int).toNat a0.size) 32 gF true _ wz.out).mono ?_); rintro e Bt ⟨rfl, hb⟩; refine ⟨_, rfl, ?_⟩; have av := ak (aU (g := b6) (o := .cells #[.int .u32 bL, .int .i64 bD] 43 (0, 0)) (by (with_reducible repeat (first | refine ae ?_ _ | refine ag ?_ | refine af ?_ _)); exact bn.out) hb); have az := ak (au (by repeat (first | (with_reducible first | exact HB.out | apply aa | apply J | apply ab | refine ai ?_ dA.out) | exact HB.out)) hb); clear bn; clear HB; have bn := av; have HB := az; clear av az; (try clear hb); (try clear bC); (try clear hk); (try clear hi)) | ((with_reducible refine aA (N := 9) rfl ?_); refine bl ?hg (N := 9) ?hd (cs := #[.int .u32 0, .int .i64 0]) (t := 43) ?hr ?_; (case hd => rfl); (case hg => rfl); (case hr => first | (go_simp; done) | (go_simp; rfl)); intro dk hg tT hbox hb; have av := ak (aU (g := b6) (o := .cells #[.int .u32 bL, .int .i64 bD] 43 (0, 0)) (by (with_reducible repeat (first | refine ae ?_ _ | refine ag ?_ | refine af ?_ _)); exact bn.out) hb); have az := ak (au (by repeat (first | (with_reducible first | exact HB.out | apply aa | apply J | apply ab | refine ai ?_ dA.out) | exact HB.out)) hb); have aR := ak (hbox); have bp := ak ((by rw [hg]; exact (ay (by repeat (first | (with_reducible first | exact HB.out | apply aa | apply J | apply ab | refine ai ?_ dA.out) | exact HB.out))) : w.heap.size ≤ dk)); have eh := ak ((by rw [hg]; exact (ay (by repeat (first | (with_reducible first | exact HB.out | apply aa | apply J | apply ab | refine ai ?_ dA.out) | exact HB.out))) : w.heap.size ≤ dk)); have eg := ak ((by rw [hg]; exact Nat.ne_of_lt (cJ (g := b6) (o := .cells #[.int .u32 bL, .int .i64 bD] 43 (0, 0)) (by (with_reducible repeat (first | refine ae ?_ _ | refine ag ?_ | refine af ?_ _)); exact bn.out)) : b6 ≠ dk)); have ef := ak ((by rw [hg]; exact Nat.ne_of_gt (cJ (g := b6) (o := .cells #[.int .u32 bL, .int .i64 bD] 43 (0, 0)) (by (with_reducible repeat (first | refine ae ?_ _ | refine ag ?_ | refine af ?_ _)); exact bn.out)) : dk ≠ b6)); clear bn; clear HB; have bn := av; have HB := az; have dB := aR; have xg := bp; have lA := eh; have dC := eg; have ig := ef; clear av az aR bp eh eg ef; clear hb hbox hg; have N6 := ig.out; have N2 := dC.out; have BN : tT.cell? ⟨dk, 0, none⟩ = some (.int .u32 0) := (aj dB.out 0).trans rfl; have BM : tT.cell? ⟨dk, 1, none⟩ = some (.int .i64 0) := (aj dB.out 1).trans rfl; have BH := ah dB.out 0; have BG := ah dB.out 1) | (go_at_call 49; (with_reducible refine (cU.calls k1 eN gF false _ Qp.out).mono ?_); rintro e Hs ⟨rfl, hb⟩; have av := ak (aU (g := b6) (o := .cells #[.int .u32 bL, .int .i64 bD] 43 (0, 0)) (by (with_reducible repeat (first | refine ae ?_ _ | refine ag ?_ | refine af ?_ _)); refine cD ?_ dC.out _; (with_reducible repeat (first | refine ae ?_ _ | refine ag ?_ | refine af ?_ _)); refine cD ?_ dC.out _; (with_reducible repeat (first | refine ae ?_ _ | refine ag ?_ | refine af ?_ _)); exact bn.out) hb); have az := ak (aU (g := dk) (o := .cells #[.int .u32 eN, .int .i64 gF] 43 (0, 0)) (by (with_reducible repeat (first | refine ae ?_ _ | refine ag ?_ | refine af ?_ _)); refine b7 (cs := #[.int .u32 eN, .int .i64 0]) ?_ 1 _ rfl; (with_reducible repeat (first | refine ae ?_ _ | refine ag ?_ | refine af ?_ _)); refine b7 (cs := #[.int .u32 0, .int .i64 0]) ?_ 0 _ rfl; (with_reducible repeat (first | refine ae ?_ _ | refine ag ?_ | refine af ?_ _)); exact dB.out) hb); have aR := ak (au (by repeat (first | (with_reducible first | exact HB.out | apply aa | apply J | apply ab | refine ai ?_ dA.out | refine ai ?_ lA.out) | exact HB.out)) hb); clear bn; clear dB; clear HB; have bn := av; have dB := az; have HB := aR; clear av az aR; (try clear hb); (try clear bC); (try clear hk); (try clear hi); have J0 : Hs.cell? ⟨b6, 0, none⟩ = some (.int .u32 bL) := (aj bn.out 0).trans rfl; have JZ : Hs.cell? ⟨b6, 1, none⟩ = some (.int .i64 bD) := (aj bn.out 1).trans rfl; have JF := ah bn.out 0; have JE := ah bn.out 1))
            refine bodyPost_ret (bV rfl _ _ b6 43 #[.int .u32 0, .int .i64 0] (0, 0) _ rfl (by (with_reducible repeat (first | refine ae ?_ _ | refine ag ?_ | refine af ?_ _)); refine b7 (cs := #[.int .u32 0, .int .i64 bD]) ?_ 1 _ rfl; (with_reducible repeat (first | refine ae ?_ _ | refine ag ?_ | refine af ?_ _)); refine b7 (cs := #[.int .u32 bL, .int .i64 bD]) ?_ 0 _ rfl; (with_reducible repeat (first | refine ae ?_ _ | refine ag ?_ | refine af ?_ _)); exact bn.out) Tryz.underlying43 rfl (by kernel_rfl)) rfl ?_
            exact ⟨by first | rfl | (simp [aq, ao] <;> rfl) | (simp only [← lX]; first | rfl | (simp [aq, ao] <;> rfl)) | (simp [*, aq, ao] <;> rfl), by repeat (first | (with_reducible first | exact HB.out | apply aa | apply J | apply ab | refine ai ?_ dA.out | refine ai ?_ lA.out) | exact HB.out)⟩
          ·replace kL := Bool.eq_false_iff.mpr kL
           subst kL
           have H1 : (some (0, 0, false)) = some (r1, r2, r3) := by rw [if_neg (show ¬ (false = true) by decide)] at H; exact H
           clear H
           have H := H1
           clear H1
           simp only [Option.some.injEq, Prod.mk.injEq] at H
           obtain ⟨rfl, rfl, rfl⟩ := H
           have p5 : 0 ≤ (cM : Int) := of_decide_eq_true (by first | (with_reducible assumption) | assumption)
           have q5 : cM < (a0.size : Int) := of_decide_eq_true (by first | (with_reducible assumption) | assumption)
           have xM := cb a0 cM
           replace p5 := eq_true p5
           replace q5 := eq_true q5
           go_wp2_with (first | ((with_reducible refine aD (f := 97) rfl ?_); refine bg (some 24) rfl rfl Tryz.func97 (by kernel_rfl) rfl #[.string (a0.extract 0 (cM : Int).toNat)] rfl (by (try simp only [List.map_toArray, List.map_cons, List.map_nil]); first | done | rfl | (simp only [List.length_drop, List.length_take]; rfl)) ?_; (with_reducible refine (a8.calls k1 (a0.extract 0 (cM : Int).toNat) eN true _ A9.out).mono ?_); rintro e Um ⟨rfl, hb⟩; refine ⟨_, rfl, ?_⟩; have av := ak (aU (g := b6) (o := .cells #[.int .u32 bL, .int .i64 bD] 43 (0, 0)) (by (with_reducible repeat (first | refine ae ?_ _ | refine ag ?_ | refine af ?_ _)); exact bn.out) hb); have az := ak (au (by repeat (first | (with_reducible first | exact HB.out | apply aa | apply J | apply ab | refine ai ?_ dA.out) | exact HB.out)) hb); clear bn; clear HB; have bn := av; have HB := az; clear av az; (try clear hb); (try clear bC); (try clear hk); (try clear hi)) | ((with_reducible refine aD (f := 98) rfl ?_); refine bg (some 32) rfl rfl Tryz.func98 (by kernel_rfl) rfl #[.string (a0.extract ((lE) : Int).toNat a0.size), .int .i64 32] rfl (by (try simp only [List.map_toArray, List.map_cons, List.map_nil]); first | done | (simp only [lX]; rfl) | rfl | (simp only [List.length_drop, List.length_take]; rfl)) ?_; (with_reducible refine (aJ.calls k1 (a0.extract ((lE) : Int).toNat a0.size) 32 gF false _ wz.out).mono ?_); rintro e yB ⟨rfl, hb⟩; refine ⟨_, rfl, ?_⟩; have av := ak (aU (g := b6) (o := .cells #[.int .u32 bL, .int .i64 bD] 43 (0, 0)) (by (with_reducible repeat (first | refine ae ?_ _ | refine ag ?_ | refine af ?_ _)); exact bn.out) hb); have az := ak (au (by repeat (first | (with_reducible first | exact HB.out | apply aa | apply J | apply ab | refine ai ?_ dA.out) | exact HB.out)) hb); clear bn; clear HB; have bn := av; have HB := az; clear av az; (try clear hb); (try clear bC); (try clear hk); (try clear hi)) | ((with_reducible refine aA (N := 9) rfl ?_); refine bl ?hg (N := 9) ?hd (cs := #[.int .u32 0, .int .i64 0]) (t := 43) ?hr ?_; (case hd => rfl); (case hg => rfl); (case hr => first | (go_simp; done) | (go_simp; rfl)); intro dk hg Hr hbox hb; have av := ak (aU (g := b6) (o := .cells #[.int .u32 bL, .int .i64 bD] 43 (0, 0)) (by (with_reducible repeat (first | refine ae ?_ _ | refine ag ?_ | refine af ?_ _)); exact bn.out) hb); have az := ak (au (by repeat (first | (with_reducible first | exact HB.out | apply aa | apply J | apply ab | refine ai ?_ dA.out) | exact HB.out)) hb); have aR := ak (hbox); have bp := ak ((by rw [hg]; exact (ay (by repeat (first | (with_reducible first | exact HB.out | apply aa | apply J | apply ab | refine ai ?_ dA.out) | exact HB.out))) : w.heap.size ≤ dk)); have eh := ak ((by rw [hg]; exact (ay (by repeat (first | (with_reducible first | exact HB.out | apply aa | apply J | apply ab | refine ai ?_ dA.out) | exact HB.out))) : w.heap.size ≤ dk)); have eg := ak ((by rw [hg]; exact Nat.ne_of_lt (cJ (g := b6) (o := .cells #[.int .u32 bL, .int .i64 bD] 43 (0, 0)) (by (with_reducible repeat (first | refine ae ?_ _ | refine ag ?_ | refine af ?_ _)); exact bn.out)) : b6 ≠ dk)); have ef := ak ((by rw [hg]; exact Nat.ne_of_gt (cJ (g := b6) (o := .cells #[.int .u32 bL, .int .i64 bD] 43 (0, 0)) (by (with_reducible repeat (first | refine ae ?_ _ | refine ag ?_ | refine af ?_ _)); exact bn.out)) : dk ≠ b6)); clear bn; clear HB; have bn := av; have HB := az; have dB := aR; have xg := bp; have lA := eh; have dC := eg; have ig := ef; clear av az aR bp eh eg ef; clear hb hbox hg; have Wv := ig.out; have Wc := dC.out; have To : Hr.cell? ⟨dk, 0, none⟩ = some (.int .u32 0) := (aj dB.out 0).trans rfl; have Tn : Hr.cell? ⟨dk, 1, none⟩ = some (.int .i64 0) := (aj dB.out 1).trans rfl; have RX := ah dB.out 0; have RW := ah dB.out 1; have Tm : Hr.cell? ⟨b6, 0, none⟩ = some (.int .u32 bL) := (aj bn.out 0).trans rfl; have Tl : Hr.cell? ⟨b6, 1, none⟩ = some (.int .i64 bD) := (aj bn.out 1).trans rfl; have RV := ah bn.out 0; have RU := ah bn.out 1))
           refine bodyPost_ret (bV rfl _ _ b6 43 #[.int .u32 0, .int .i64 0] (0, 0) _ rfl (by (with_reducible repeat (first | refine ae ?_ _ | refine ag ?_ | refine af ?_ _)); refine b7 (cs := #[.int .u32 0, .int .i64 bD]) ?_ 1 _ rfl; (with_reducible repeat (first | refine ae ?_ _ | refine ag ?_ | refine af ?_ _)); refine b7 (cs := #[.int .u32 bL, .int .i64 bD]) ?_ 0 _ rfl; (with_reducible repeat (first | refine ae ?_ _ | refine ag ?_ | refine af ?_ _)); refine cD ?_ dC.out _; (with_reducible repeat (first | refine ae ?_ _ | refine ag ?_ | refine af ?_ _)); refine cD ?_ dC.out _; (with_reducible repeat (first | refine ae ?_ _ | refine ag ?_ | refine af ?_ _)); exact bn.out) Tryz.underlying43 rfl (by kernel_rfl)) rfl ?_
           exact ⟨by first | rfl | (simp [aq, ao] <;> rfl) | (simp only [← lX]; first | rfl | (simp [aq, ao] <;> rfl)) | (simp [*, aq, ao] <;> rfl), by repeat (first | (with_reducible first | exact HB.out | apply aa | apply J | apply ab | refine ai ?_ dA.out | refine ai ?_ lA.out) | exact HB.out)⟩
         ·replace fD := Bool.eq_false_iff.mpr fD
          subst fD
          have H1 : (some (0, 0, false)) = some (r1, r2, r3) := by rw [if_neg (show ¬ (false = true) by decide)] at H; exact H
          clear H
          have H := H1
          clear H1
          simp only [Option.some.injEq, Prod.mk.injEq] at H
          obtain ⟨rfl, rfl, rfl⟩ := H
          have p5 : 0 ≤ (cM : Int) := of_decide_eq_true (by first | (with_reducible assumption) | assumption)
          have q5 : cM < (a0.size : Int) := of_decide_eq_true (by first | (with_reducible assumption) | assumption)
          have xM := cb a0 cM
          replace p5 := eq_true p5
          replace q5 := eq_true q5
          go_wp2_with (first | ((with_reducible refine aD (f := 97) rfl ?_); refine bg (some 24) rfl rfl Tryz.func97 (by kernel_rfl) rfl #[.string (a0.extract 0 (cM : Int).toNat)] rfl (by (try simp only [List.map_toArray, List.map_cons, List.map_nil]); first | done | rfl | (simp only [List.length_drop, List.length_take]; rfl)) ?_; (with_reducible refine (a8.calls k1 (a0.extract 0 (cM : Int).toNat) eN false _ A9.out).mono ?_); rintro e Uk ⟨rfl, hb⟩; refine ⟨_, rfl, ?_⟩; have av := ak (aU (g := b6) (o := .cells #[.int .u32 bL, .int .i64 bD] 43 (0, 0)) (by (with_reducible repeat (first | refine ae ?_ _ | refine ag ?_ | refine af ?_ _)); exact bn.out) hb); have az := ak (au (by repeat (first | (with_reducible first | exact HB.out | apply aa | apply J | apply ab | refine ai ?_ dA.out) | exact HB.out)) hb); clear bn; clear HB; have bn := av; have HB := az; clear av az; (try clear hb); (try clear bC); (try clear hk); (try clear hi)) | ((with_reducible refine aD (f := 98) rfl ?_); refine bg (some 32) rfl rfl Tryz.func98 (by kernel_rfl) rfl #[.string (a0.extract ((lE) : Int).toNat a0.size), .int .i64 32] rfl (by (try simp only [List.map_toArray, List.map_cons, List.map_nil]); first | done | (simp only [lX]; rfl) | rfl | (simp only [List.length_drop, List.length_take]; rfl)) ?_; (with_reducible refine (aJ.calls k1 (a0.extract ((lE) : Int).toNat a0.size) 32 gF vl _ wz.out).mono ?_); rintro e yA ⟨rfl, hb⟩; refine ⟨_, rfl, ?_⟩; have av := ak (aU (g := b6) (o := .cells #[.int .u32 bL, .int .i64 bD] 43 (0, 0)) (by (with_reducible repeat (first | refine ae ?_ _ | refine ag ?_ | refine af ?_ _)); exact bn.out) hb); have az := ak (au (by repeat (first | (with_reducible first | exact HB.out | apply aa | apply J | apply ab | refine ai ?_ dA.out) | exact HB.out)) hb); clear bn; clear HB; have bn := av; have HB := az; clear av az; (try clear hb); (try clear bC); (try clear hk); (try clear hi)) | ((with_reducible refine aA (N := 9) rfl ?_); refine bl ?hg (N := 9) ?hd (cs := #[.int .u32 0, .int .i64 0]) (t := 43) ?hr ?_; (case hd => rfl); (case hg => rfl); (case hr => first | (go_simp; done) | (go_simp; rfl)); intro dk hg u0 hbox hb; have av := ak (aU (g := b6) (o := .cells #[.int .u32 bL, .int .i64 bD] 43 (0, 0)) (by (with_reducible repeat (first | refine ae ?_ _ | refine ag ?_ | refine af ?_ _)); exact bn.out) hb); have az := ak (au (by repeat (first | (with_reducible first | exact HB.out | apply aa | apply J | apply ab | refine ai ?_ dA.out) | exact HB.out)) hb); have aR := ak (hbox); have bp := ak ((by rw [hg]; exact (ay (by repeat (first | (with_reducible first | exact HB.out | apply aa | apply J | apply ab | refine ai ?_ dA.out) | exact HB.out))) : w.heap.size ≤ dk)); have eh := ak ((by rw [hg]; exact (ay (by repeat (first | (with_reducible first | exact HB.out | apply aa | apply J | apply ab | refine ai ?_ dA.out) | exact HB.out))) : w.heap.size ≤ dk)); have eg := ak ((by rw [hg]; exact Nat.ne_of_lt (cJ (g := b6) (o := .cells #[.int .u32 bL, .int .i64 bD] 43 (0, 0)) (by (with_reducible repeat (first | refine ae ?_ _ | refine ag ?_ | refine af ?_ _)); exact bn.out)) : b6 ≠ dk)); have ef := ak ((by rw [hg]; exact Nat.ne_of_gt (cJ (g := b6) (o := .cells #[.int .u32 bL, .int .i64 bD] 43 (0, 0)) (by (with_reducible repeat (first | refine ae ?_ _ | refine ag ?_ | refine af ?_ _)); exact bn.out)) : dk ≠ b6)); clear bn; clear HB; have bn := av; have HB := az; have dB := aR; have xg := bp; have lA := eh; have dC := eg; have ig := ef; clear av az aR bp eh eg ef; clear hb hbox hg; have N5 := ig.out; have N1 := dC.out; have Ti : u0.cell? ⟨dk, 0, none⟩ = some (.int .u32 0) := (aj dB.out 0).trans rfl; have Th : u0.cell? ⟨dk, 1, none⟩ = some (.int .i64 0) := (aj dB.out 1).trans rfl; have RR := ah dB.out 0; have RQ := ah dB.out 1; have JY : u0.cell? ⟨b6, 0, none⟩ = some (.int .u32 bL) := (aj bn.out 0).trans rfl; have JX : u0.cell? ⟨b6, 1, none⟩ = some (.int .i64 bD) := (aj bn.out 1).trans rfl; have JD := ah bn.out 0; have JC := ah bn.out 1))
          refine bodyPost_ret (bV rfl _ _ b6 43 #[.int .u32 0, .int .i64 0] (0, 0) _ rfl (by (with_reducible repeat (first | refine ae ?_ _ | refine ag ?_ | refine af ?_ _)); refine b7 (cs := #[.int .u32 0, .int .i64 bD]) ?_ 1 _ rfl; (with_reducible repeat (first | refine ae ?_ _ | refine ag ?_ | refine af ?_ _)); refine b7 (cs := #[.int .u32 bL, .int .i64 bD]) ?_ 0 _ rfl; (with_reducible repeat (first | refine ae ?_ _ | refine ag ?_ | refine af ?_ _)); refine cD ?_ dC.out _; (with_reducible repeat (first | refine ae ?_ _ | refine ag ?_ | refine af ?_ _)); refine cD ?_ dC.out _; (with_reducible repeat (first | refine ae ?_ _ | refine ag ?_ | refine af ?_ _)); exact bn.out) Tryz.underlying43 rfl (by kernel_rfl)) rfl ?_
          exact ⟨by first | rfl | (simp [aq, ao] <;> rfl) | (simp only [← lX]; first | rfl | (simp [aq, ao] <;> rfl)) | (simp [*, aq, ao] <;> rfl), by repeat (first | (with_reducible first | exact HB.out | apply aa | apply J | apply ab | refine ai ?_ dA.out | refine ai ?_ lA.out) | exact HB.out)⟩
        ·rw [if_neg ft] at H
         exact absurd H (by simp)
       ·rw [if_neg eD] at H
        exact absurd H (by simp)
      ·rw [if_neg c8] at H
       exact absurd H (by simp)
     ·rw [if_neg c6] at H
      have jq : ((bt a0 cM) == 47) = false := beq_eq_false_iff_ne.mpr c6
      have uO : ((bt a0 cM) != 47) = true := bne_iff_ne.mpr c6
      have H' := ak H
      clear H
      have p5 : 0 ≤ (cM : Int) := of_decide_eq_true (by first | (with_reducible assumption) | assumption)
      have q5 : cM < (a0.size : Int) := of_decide_eq_true (by first | (with_reducible assumption) | assumption)
      have xM := cb a0 cM
      replace p5 := eq_true p5
      replace q5 := eq_true q5
      go_wp2
      go_roundg k1
      case measure => have := cC.out; omega
      case rel => exact ⟨(wrap64 (cM + 1)), (bL), (bD), (by first | rfl | (simp; done) | (simp [*]; done)), H', ⟨by have := cC.out; omega⟩, ⟨by (with_reducible repeat (first | refine ae ?_ _ | refine ag ?_ | refine af ?_ _)); exact bn.out⟩, ⟨by repeat (first | (with_reducible first | exact HB.out | apply aa | apply J | apply ab | refine ai ?_ dA.out) | exact HB.out)⟩⟩
    ·rw [if_neg c4] at H
     exact absurd H (by simp)
   ·rw [if_neg c3] at H
    have gw : decide (cM < (a0.size : Int)) = false := decide_eq_false c3
    clear c3
    simp only [Option.some.injEq, Prod.mk.injEq] at H
    obtain ⟨rfl, rfl, rfl⟩ := H
    have Tg : wr.cell? ⟨b6, 0, none⟩ = some (.int .u32 bL) := (aj bn.out 0).trans rfl
    have Tf : wr.cell? ⟨b6, 1, none⟩ = some (.int .i64 bD) := (aj bn.out 1).trans rfl
    have RP := ah bn.out 0
    have RO := ah bn.out 1
    go_wp2
    refine bodyPost_ret (bV rfl _ _ b6 43 #[.int .u32 0, .int .i64 0] (0, 0) _ rfl (by (with_reducible repeat (first | refine ae ?_ _ | refine ag ?_ | refine af ?_ _)); refine b7 (cs := #[.int .u32 0, .int .i64 bD]) ?_ 1 _ rfl; (with_reducible repeat (first | refine ae ?_ _ | refine ag ?_ | refine af ?_ _)); refine b7 (cs := #[.int .u32 bL, .int .i64 bD]) ?_ 0 _ rfl; (with_reducible repeat (first | refine ae ?_ _ | refine ag ?_ | refine af ?_ _)); exact bn.out) Tryz.underlying43 rfl (by kernel_rfl)) rfl ?_
    exact ⟨by first | rfl | (simp [aq, ao] <;> rfl) | (simp [*, aq, ao] <;> rfl), by repeat (first | (with_reducible first | exact HB.out | apply aa | apply J | apply ab | refine ai ?_ dA.out) | exact HB.out)⟩
end Go.Proofs.YtndddnglapkplaaGreatDoor.V
end

section
namespace Go.Proofs.YtndddnglapkplaaGreatDoor.V
theorem index_none (c : UInt8) : ∀ l : List UInt8, c ∉ l → Lib.indexByte l c = -1
 | [], _ => rfl
 | b :: l, h => by
  have h1 : ¬ b = c := fun e => h (by simp [e])
  have ih := index_none c l (fun e => h (by simp [e]))
  rw [Lib.indexByte, ih]
  simp [h1]
theorem KX (s : ByteArray) (hs : s.size < 1000000) : ∀ (d k i : Nat), s.size - i ≤ d → d + 3 * s.size + 60 ≤ k → i ≤ s.size → (47 : UInt8) ∉ s.data.toList.take i →
  cx.l0 k s (i : Int) = some (match l8 s with | some (v, n) => ((v : Int), (n : Int), true) | none => (0, 0, false)) := by
 intro d
 have hl := cw s
 induction d with
 | zero =>
  intro k i hd hk hi hn
  obtain ⟨k, rfl⟩ : ∃ m, k = m + 1 := ⟨k - 1, by omega⟩
  rw [List.take_of_length_le (by omega)] at hn
  have hm := index_none 47 _ hn
  have : l8 s = none := by unfold l8 cN; rw [if_pos hm]; rfl
  rw [cx.l0, if_neg (by omega), this]
 | succ d ih =>
  intro k i hd hk hi hn
  by_cases hie : i = s.size
  ·exact ih k i (by omega) (by omega) hi hn
  obtain ⟨k, rfl⟩ : ∃ m, k = m + 1 := ⟨k - 1, by omega⟩
  obtain ⟨b, h1, h2, h3⟩ := Ci s i (by omega)
  rw [cx.l0, if_pos (by omega), if_pos (by omega), h2]
  by_cases hb : b = 47
  ·subst hb
   obtain ⟨c1, c2, c3⟩ := sR 47 s (s.data.toList.take i) (s.data.toList.drop (i + 1)) (by rw [← h1, List.take_append_drop]) hn
   have e1 : ((i : Int) + 1).toNat = i + 1 := by omega
   have z1 : (s.extract 0 i).size ≤ s.size := by simp; omega
   have z2 : (s.extract (i + 1) s.size).size ≤ s.size := by simp
   rw [if_pos (show (((47 : UInt8).toNat : Int) = 47) from rfl), if_pos (by omega), Int.toNat_natCast, FJ _ (by omega) k (by omega), Option.bind_some, bM ((i : Int) + 1) (by omega) (by omega), if_pos (by omega), if_pos (by omega), e1, FG _ (by omega) k (by omega), Option.bind_some]
   rw [Lib.extract_from_zero, Lib.extract_to_end]
   unfold l8
   rw [if_pos c3, c1, c2]
   cases hv : kV (s.data.toList.take i) with
   | none => rfl
   | some v =>
    rw [Option.bind_some]
    cases hq : byteOf (s.data.toList.drop (i + 1)) with
    | none => rfl
    | some n =>
     rw [Option.bind_some]
     by_cases xO : n ≤ 32
     ·simp only [xO, if_true, true_and]
      have hm := Ed v (uF hv).2 (n : Int) k (by omega)
      rw [hm, Option.bind_some]
      by_cases rX : v % sz n = 0
      ·rw [vD xO rX, if_pos rfl, if_pos rX]
      ·have : kG v (n : Int) = false := by simp [kG, rX]
       rw [this, if_neg rX]
       rfl
     ·simp [xO]
  ·have hne : ¬ ((b.toNat : Int) = 47) := by
    intro h
    exact hb (UInt8.toNat_inj.1 (by simpa using (by omega : b.toNat = 47)))
   rw [if_neg hne, bM ((i : Int) + 1) (by omega) (by omega)]
   refine ih k (i + 1) (by omega) (by omega) (by omega) ?_
   rw [List.take_add_one]
   have hg : s.data.toList[i]? = some b := by
    have := congrArg (fun l => l[0]?) h1
    simpa using this
   rw [hg]
   simp only [Option.toList_some, List.mem_append, List.mem_singleton, not_or]
   exact ⟨hn, fun e => hb e.symm⟩
theorem NF (s : ByteArray) (hs : s.size < 1000000) (k : Nat) (hk : 4 * s.size + 60 ≤ k) : cx.f k s = some (match l8 s with | some (v, n) => ((v : Int), (n : Int), true) | none => (0, 0, false)) :=
 KX s hs s.size k 0 (by omega) (by omega) (by omega) (by simp)
end Go.Proofs.YtndddnglapkplaaGreatDoor.V
end

section
namespace Go.Proofs.YtndddnglapkplaaGreatDoor.V
def dc.f (a0 a1 : ByteArray) : Option (ByteArray × Bool) := some (if a0.size < a1.size then (⟨#[]⟩, false) else if (a0.extract 0 a1.size).toList = a1.toList then (a0.extract a1.size a0.size, true) else (⟨#[]⟩, false))
set_option maxHeartbeats 2000000 in
theorem dc.calls (a0 : ByteArray) (a1 : ByteArray) (r1 : ByteArray) (r2 : Bool) (w : World) (h : dc.f a0 a1 = some (r1, r2)) :
  Calls Tryz.prog 36 #[.string a0, .string a1] w fun e w' => e = .returned (.tuple #[.string r1, .bool r2]) ∧ Below w.heap.size w w' := by
 have h := Option.some.inj h
 by_cases c1 : a0.size < a1.size
 ·rw [if_pos c1] at h
  cases h
  have b1 : decide ((a0.size : Int) < (a1.size : Int)) = true := by simp; omega
  have b2 : decide (a0.size < a1.size) = true := by simp; omega
  go_enter Tryz.func36, Tryz.ntmps36
  go_wp2
  go_ret2
  exact ⟨rfl, Below.refl _ _⟩
 ·rw [if_neg c1] at h
  have b1 : decide ((a0.size : Int) < (a1.size : Int)) = false := by simp; omega
  have b2 : decide (a0.size < a1.size) = false := by simp; omega
  have mb : ((a1.size : Int) ≤ (a0.size : Int)) = True := eq_true (by omega)
  have sS : (a1.size ≤ a0.size) = True := eq_true (by omega)
  by_cases c2 : (a0.extract 0 a1.size).toList = a1.toList
  ·rw [if_pos c2] at h
   cases h
   have d1 : ((a0.extract 0 a1.size).toList == a1.toList) = true := by rw [c2]; exact beq_self_eq_true _
   clear c2
   go_enter Tryz.func36, Tryz.ntmps36
   go_wp2
   go_ret2
   exact ⟨rfl, Below.refl _ _⟩
  ·rw [if_neg c2] at h
   cases h
   have d1 : ((a0.extract 0 a1.size).toList == a1.toList) = false := by rw [beq_eq_false_iff_ne]; exact c2
   clear c2
   go_enter Tryz.func36, Tryz.ntmps36
   go_wp2
   go_ret2
   exact ⟨rfl, Below.refl _ _⟩
theorem Du (p t : ByteArray) : dc.f (p ++ t) p = some (t, true) := by
 unfold dc.f
 have hs : (p ++ t).size = p.size + t.size := ByteArray.size_append
 have e : ((p ++ t).extract 0 p.size).toList = p.toList := by
  rw [Lib.toList_data, Lib.toList_data, Lib.extract_from_zero, fg, ← cw p]
  simp
 rw [if_neg (by omega), if_pos e]
 congr 1
 congr 1
 apply fy
 rw [Lib.extract_to_end, fg, ← cw p]
 simp
theorem Fj (s p : ByteArray) (h : ∀ t, s ≠ p ++ t) : dc.f s p = some (⟨#[]⟩, false) := by
 unfold dc.f
 by_cases c1 : s.size < p.size
 ·rw [if_pos c1]
 ·rw [if_neg c1, if_neg]
  intro he
  refine h (s.extract p.size s.size) (fy ?_)
  rw [Lib.toList_data, Lib.toList_data, Lib.extract_from_zero] at he
  rw [fg, Lib.extract_to_end, ← he, List.take_append_drop]
theorem Fb (s : ByteArray) (x y : List UInt8) (h : s.data.toList = x ++ 45 :: y) (hx : (45 : UInt8) ∉ x) (t : ByteArray) (ht : t.data.toList = x ++ 47 :: y) : l8 t = je s := by
 obtain ⟨c1, c2, c3⟩ := sR 45 s x y h hx
 have e : (cN 45 s).1 ++ (⟨#[47]⟩ : ByteArray) ++ (cN 45 s).2.1 = t := by
  apply fy
  rw [ht]
  simp [c1, c2]
 unfold je
 rw [e]
 cases hq : l8 t with
 | none => rfl
 | some q =>
  obtain ⟨v, n⟩ := q
  obtain ⟨g1, g2, g3, g4, _⟩ := oT hq
  rw [Option.bind_some, if_pos]
  apply fy
  rw [j7, h]
  have h1 := iK g2 g3
  rw [← g4, ht] at h1
  have i1 : (47 : UInt8) ∉ kW v := vJ v 47 (.inr (.inr rfl))
  have i2 : (47 : UInt8) ∉ eE n := wX n (by omega) 47 (.inl (by decide))
  have Ij : (47 : UInt8) ∉ x := by
   have hc := congrArg (List.count 47) h1
   rw [List.count_append, List.count_append, List.count_cons_self, List.count_cons_self, List.count_eq_zero.2 i1, List.count_eq_zero.2 i2] at hc
   exact List.count_eq_zero.1 (by omega)
  obtain ⟨k1, k2, k3⟩ := sR 47 t x y ht Ij
  obtain ⟨_, _, _, _, _, m1, m2⟩ := oT hq
  rw [m1, iC] at k1
  rw [m2] at k2
  have UG : eE n = y := by rw [← k2]; simp [eK]
  rw [← k1, ← UG]
  rfl
theorem Fa (s : ByteArray) (h : (45 : UInt8) ∉ s.data.toList) : je s = none := by
 cases hq : je s with
 | none => rfl
 | some q =>
  obtain ⟨v, n⟩ := q
  obtain ⟨_, _, _, g4⟩ := qb hq
  refine absurd ?_ h
  rw [g4, j7]
  exact List.mem_append_right _ (List.mem_cons_self)
def jk (s : ByteArray) : Int × Int × Bool := match je s with | some (v, n) => ((v : Int), (n : Int), true) | none => (0, 0, false)
def tZ : List Value := [.int .u32 0, .int .i64 0]
def gI.f (a0 : ByteArray) : Option (Int × Int × Bool) := if a0.size ≤ 1000 then some (jk a0) else none
def pI.T5 : Bool × List (List Nat × List Nat) := (true, [([], []), ([], []), ([0, 1], [0, 1]), ([2], [2]), ([], []), ([], []), ([5], [5]), ([4, 6], [4, 6]), ([3, 7], [3, 7]), ([8], [8]), ([9], [9]), ([10], [10]), ([10], [10]), ([], []), ([13, 11, 9, 0, 1, 2, 3, 4, 5, 6, 7, 8, 9, 10, 11, 13], [11, 13]), ([12, 14, 0, 1, 2, 3, 4, 5, 6, 7, 8, 9, 10, 11, 12, 13, 14], [12])])
def pI.B5 : List Nat := [0, 0, 3, 7, 0, 0, 32, 112, 255, 511, 1023, 2047, 2047, 0, 12287, 32767]
theorem pI.tab5 : dS .any (opsOf Tryz.f37 5) = pI.T5 := by kernel_rfl
theorem pI.bits5 : ew pI.T5.2 pI.B5 = true := by kernel_rfl
set_option maxHeartbeats 4000000 in
set_option maxRecDepth 100000 in
theorem Gz (s : ByteArray) (hs : s.size ≤ 1000) (w : World) :
  Calls Tryz.prog 37 #[.string s] w fun e w' => e = .returned (.tuple #[.agg #[.int .u32 (jk s).1, .int .i64 (jk s).2.1], .bool (jk s).2.2]) ∧ Below w.heap.size w w' := by
 have HS := ak hs
 obtain ⟨d, hd⟩ : ∃ d, jk s = d := ⟨_, rfl⟩
 have HD := ak hd
 rw [hd]
 clear hd
 obtain ⟨d1, d2, d3⟩ := d
 dsimp only
 go_enter Tryz.func37, Tryz.ntmps37
 go_wp2_with (first
  | (refine a6 (some 2) rfl rfl 43 rfl tZ (fun _ => by kernel_rfl) ?_; intro g2 W1 dH fV aW; have HX := ak fV; have HB := ak aW; have fw := ak dH; clear fV aW dH))
 go_loopw [4] (fun i W => ∃ j : Nat, j ≤ s.size ∧ i = .int .i64 j ∧ W = W1 ∧ Aside0 ((45 : UInt8) ∉ s.data.toList.take j)) (fun i _ => s.size - (intOf i).toNat)
 case atStart => exact ⟨0, by omega, rfl, rfl, ⟨by simp⟩⟩
 case round =>
  obtain ⟨j, hj, rfl, rfl, HJ⟩ := hrel
  by_cases hjn : j < s.size
  ·have hjb : decide ((j : Int) < (s.size : Int)) = true := by simp; omega
   have hx := cb s (j : Int)
   have hzr := rM s (j : Int)
   have hel : s.data.toList[j]'(by rw [cw]; exact hjn) = UInt8.ofNat (bt s (j : Int)).toNat := by
    have := hx (by rw [Int.toNat_natCast]; exact hjn)
    rw [← this]
    simp
    rfl
   obtain ⟨z, hz⟩ : ∃ z, bt s (j : Int) = z := ⟨_, rfl⟩
   rw [hz] at hx hzr hel
   rw [Int.toNat_natCast] at hx
   by_cases ID : z = 45
   ·have aW : (z == 45) = true := by rw [beq_iff_eq]; exact ID
    have hcut : s.data.toList = s.data.toList.take j ++ 45 :: s.data.toList.drop (j + 1) := by
     conv => lhs; rw [← List.take_append_drop j s.data.toList, List.drop_eq_getElem_cons (by rw [cw]; exact hjn), hel, ID]
     rfl
    have hne := Fb s _ _ hcut HJ.out (s.extract 0 j ++ (⟨#[47]⟩ : ByteArray) ++ s.extract (j + 1) s.size) (by
     rw [fg, fg, Lib.extract_from_zero, Lib.extract_to_end]; simp)
    obtain ⟨tx, htx⟩ : ∃ tx, tx = s.extract 0 j ++ (⟨#[47]⟩ : ByteArray) ++ s.extract (j + 1) s.size := ⟨_, rfl⟩
    have htz : tx.size ≤ 1001 := by rw [htx, ByteArray.size_append, ByteArray.size_append, ByteArray.size_extract, ByteArray.size_extract, oU]; omega
    have hp := NF tx (by omega) (4 * tx.size + 60) (Nat.le_refl _)
    rw [← htx] at hne
    rw [hne] at hp
    have HP := ak (show cx.f (4 * tx.size + 60) tx = some (d1, d2, d3) by rw [hp, ← HD.out]; rfl)
    have HTX := ak htx
    have s1 : (9223372036854775807 < j + 1) = False := eq_false (by omega)
    have s2 : (9223372036854775807 < j + 1 + (s.size - (j + 1))) = False := eq_false (by omega)
    have s3 : (s.size - (j + 1)) = s.size - (j + 1) := rfl
    have PF : wrap64 ((j : Int) + 1) = ((j + 1 : Nat) : Int) := by rw [bM _ (by omega) (by omega)]; omega
    have PE : IntKind.i64.wrap ((j : Int) + 1) = ((j + 1 : Nat) : Int) := by rw [cp]; exact PF
    have c1 : (0 ≤ (j : Int) + 1) = True := eq_true (by omega)
    have c2 : ((j : Int) + 1 ≤ (s.size : Int)) = True := eq_true (by omega)
    clear ID hcut hne htx hp hel s3 htz
    go_wp2
    replace HX := ak (HX.out.below (dq (Below.refl _ _)))
    replace HB := ak (dq HB.out)
    refine ee (n := 16) (S := fun w' => True) (ds := []) #[false, false, false, false, false, false, false, false, false, false, false, false, false, false, false, false] (by kernel_rfl) rfl rfl trivial (fun hHeld => ?_); refine cV pI.tab5 pI.bits5 (fun an cj => ?_)
    refine pu 0 an.out ?_
    refine pu 1 an.out ?_
    refine pu 2 an.out ?_
    refine pu 3 an.out ?_
    refine pu 4 an.out ?_
    refine pu 5 an.out ?_
    refine pu 6 an.out ?_
    refine pu 7 an.out ?_
    refine pu 8 an.out ?_
    refine NY (σ := Nat) 2 #[true, true, true, true, true, true, true, true, true, true, true, true, true, true, false, false] (fun s => [(27, .tuple #[.agg #[.int .u32 d1, .int .i64 d2], .bool d3]), (17, .tuple #[.agg #[.int .u32 d1, .int .i64 d2], .bool d3]), (28, .agg #[.int .u32 d1, .int .i64 d2]), (29, .bool d3), (26, .string tx), (5, .pointer (some ⟨s, 0, none⟩))]) (fun s w' => Aside0 (bS w' g2 tZ 43) ∧ Aside0 (Below w.heap.size w w') ∧ Aside0 (bS w' s tZ 43) ∧ Aside0 (w.heap.size ≤ s) ∧ Aside0 (g2 ≠ s)) ?_ ?_
    rotate_left
    ·intro EV
     refine tw 9 13 an.out (fun K hK => ?_) (fun K hK => ?_)
     ·skip
      rw [← HTX.out]
      refine gs Tryz.func62 #[.string tx] (cx.calls (4 * tx.size + 60) tx d1 d2 d3 _ HP.out) ?_
      rintro e V1 ⟨rfl, di⟩
      refine ⟨_, rfl, ?_⟩
      replace HX := mv di HX; (try replace hQ := mv di hQ); replace HB := mv di HB; clear di
      refine kn hK trivial (fun hHeld => ?_)
      clear hK K
      refine pu 10 an.out ?_
      refine pu 11 an.out ?_
      refine pu 12 an.out ?_
      refine on 13 an.out (fun K hK => ?_)
      refine xw (by rfl) 43 rfl tZ (fun _ => by kernel_rfl) ?_
      intro gQ V3 fG xL di
      have hGE := ge HB fG
      have hNX := ak (show g2 ≠ gQ by have := HX.out.lt; omega)
      replace HX := mv di HX
      replace HB := mv di HB
      have hQ := ak xL
      clear fG xL di
      refine kn hK trivial (fun hHeld => ?_)
      clear hK K
      exact nc (EV gQ _ ⟨HX, HB, hQ, hGE, hNX⟩)
     ·skip
      refine xw (by rfl) 43 rfl tZ (fun _ => by kernel_rfl) ?_
      intro gQ V3 fG xL di
      have hGE := ge HB fG
      have hNX := ak (show g2 ≠ gQ by have := HX.out.lt; omega)
      replace HX := mv di HX
      replace HB := mv di HB
      have hQ := ak xL
      clear fG xL di
      refine kn hK trivial (fun hHeld => ?_)
      clear hK K
      refine on 9 an.out (fun K hK => ?_)
      rw [← HTX.out]
      refine gs Tryz.func62 #[.string tx] (cx.calls (4 * tx.size + 60) tx d1 d2 d3 _ HP.out) ?_
      rintro e V1 ⟨rfl, di⟩
      refine ⟨_, rfl, ?_⟩
      replace HX := mv di HX; (try replace hQ := mv di hQ); replace HB := mv di HB; clear di
      refine kn hK trivial (fun hHeld => ?_)
      clear hK K
      refine pu 10 an.out ?_
      refine pu 11 an.out ?_
      refine pu 12 an.out ?_
      exact nc (EV gQ _ ⟨HX, HB, hQ, hGE, hNX⟩)
    intro s_ w' hFF; obtain ⟨HX, HB, hQ, hGE, hNX⟩ := hFF
    refine nj ?_
    refine ow 14 an.out (fun K hK => ?_)
    refine CL (by rfl) rfl 43 (.tmp 5) (.tmp 28) rfl s_ [.int .u32 d1, .int .i64 d2] rfl rfl 43 _ hQ.out 2 (by kernel_rfl) rfl rfl (by intro u hu; simp at hu; rcases hu with rfl | rfl <;> rfl) ?_
    intro V9 xL fG; replace HX := gn HX hNX fG; replace HB := gb HB hGE fG; have hY := ak xL; clear xL fG hQ
    refine hK.out _ _ trivial (fun hHeld => ?_)
    clear hK K
    refine pu 15 an.out ?_
    refine dn an.out ?_
    clear hHeld
    go_wp2_with (first
     | (refine bN rfl 43 (.tmp 5) rfl s_ rfl _ _ _ hY.out Tryz.underlying43 rfl 2 (by kernel_rfl) rfl ?_)
     | (refine aM rfl 43 (.tmp 2) (.tmp 30) rfl g2 [.int .u32 d1, .int .i64 d2] rfl rfl 43 _ HX.out 2 (by kernel_rfl) rfl rfl (by intro u hu; simp at hu; rcases hu with rfl | rfl <;> rfl) ?_; intro W9 gp dp))
    refine bodyPost_ret (bV rfl _ _ g2 43 _ (0, 0) _ rfl gp Tryz.underlying43 rfl (by kernel_rfl)) rfl ⟨rfl, HB.out.grown dp HB.out.size (by intro k hk; cases hk; exact fw.out)⟩
   ·have aW : (z == 45) = false := by rw [beq_eq_false_iff_ne]; exact ID
    have ph := ak (show (45 : UInt8) ∉ s.data.toList.take (j + 1) by
     rw [List.take_add_one, List.getElem?_eq_getElem (by rw [cw]; exact hjn), hel]
     intro hm
     rcases List.mem_append.1 hm with h | h
     ·exact HJ.out h
     ·simp at h
      have h2 := congrArg UInt8.toNat h
      rw [show (UInt8.ofNat z.toNat).toNat = z.toNat % 256 from rfl] at h2
      have : (45 : UInt8).toNat = 45 := rfl
      omega)
    clear hel
    go_wp2
    go_roundw
    case rel => exact ⟨j + 1, by omega, by go_num, (by first | rfl | trivial), ph⟩
    case measure => simp [intOf]; omega
  ·obtain rfl : j = s.size := by omega
   have hjb : decide ((s.size : Int) < (s.size : Int)) = false := by simp
   have HN := ak (show jk s = (0, 0, false) by
    unfold jk
    rw [Fa s (by have := HJ.out; rwa [List.take_of_length_le (by rw [cw]; omega)] at this)])
   have hq := HD.out.symm.trans HN.out
   simp only [Prod.mk.injEq] at hq
   obtain ⟨rfl, rfl, rfl⟩ := hq
   go_wp2_with (first
    | ((with_reducible refine aA (N := 32) rfl ?_); refine ev rfl 43 #[] rfl tZ (by kernel_rfl) ?_)
    | (refine aM rfl 43 (.tmp 2) (.tmp 32) rfl g2 tZ rfl rfl 43 _ HX.out 2 (by kernel_rfl) rfl rfl (by intro u hu; simp [tZ] at hu; rcases hu with rfl | rfl <;> rfl) ?_; intro W9 gp dp))
   refine bodyPost_ret (bV rfl _ _ g2 43 _ (0, 0) _ rfl gp Tryz.underlying43 rfl (by kernel_rfl)) rfl ⟨rfl, HB.out.grown dp HB.out.size (by intro k hk; cases hk; exact fw.out)⟩
theorem gI.calls (a0 : ByteArray) (r1 : Int) (r2 : Int) (r3 : Bool) (w : World) (h : gI.f a0 = some (r1, r2, r3)) :
  Calls Tryz.prog 37 #[.string a0] w fun e w' => e = .returned (.tuple #[.agg #[.int .u32 r1, .int .i64 r2], .bool r3]) ∧ Below w.heap.size w w' := by
 unfold gI.f at h
 split at h
 ·rename_i hs
  have e := Option.some.inj h
  refine (Gz a0 hs w).mono ?_
  rw [e]
  exact fun _ _ h => h
 ·cases h
theorem Md (v : Nat) (hd : v % sz 26 = 0) : (dL v (26 : Int)).size = (jf v).size + 3 ∧ (dL v (26 : Int)).extract 0 ((dL v (26 : Int)).size - 3) ++ (⟨#[45, 50, 54]⟩ : ByteArray) = cY v 26 := by
 have h1 : (dL v ((26 : Nat) : Int)).data.toList = kW v ++ 47 :: eE 26 := iK (by omega) hd
 have h2 : (dL v (26 : Int)).data.toList = kW v ++ [47, 50, 54] := h1
 have h3 : (dL v (26 : Int)).size = (jf v).size + 3 := by
  rw [← cw, ← cw, h2, iC, List.length_append]
  rfl
 refine ⟨h3, fy ?_⟩
 rw [fg, Lib.extract_from_zero, h2, j7, h3, Nat.add_sub_cancel, ← cw, iC, List.take_left]
 rfl
set_option maxHeartbeats 2000000 in
theorem rA (a : Nat) (ha : a < 4294967296) (w : World) :
  Calls Tryz.prog 14 #[.int .u32 (a : Int)] w fun e w' => e = .returned (.string (cY (bR a) 26)) ∧ Below w.heap.size w w' := by
 have hf := nJ ha
 have hp := Eb (bR a) hf.1 26 40 (by omega)
 obtain ⟨h1, h2⟩ := Md (bR a) hf.2
 have hi := lQ (bR a)
 obtain ⟨v, hv⟩ : ∃ v, v = bR a := ⟨_, rfl⟩
 rw [← hv] at hp h1 h2 hi ⊢
 have hvl : v < 4294967296 := by rw [hv]; exact hf.1
 have e0 : ((a : Int) - (a : Int) % 64) = (v : Int) := by rw [hv]; unfold bR; omega
 have HP := ak hp
 generalize dL v (26 : Int) = tx at HP h1 h2
 have htz : tx.size ≤ 18 := by omega
 have Xq : 3 ≤ tx.size := by omega
 have e1 : wrap64 ((tx.size : Int) - 3) = ((tx.size - 3 : Nat) : Int) := by rw [bM _ (by omega) (by omega)]; omega
 have e2 : ((tx.size : Int) - 3).toNat = tx.size - 3 := by omega
 have e3 : (0 ≤ (tx.size : Int) - 3) = True := eq_true (by omega)
 have e4 : ((tx.size : Int) - 3 ≤ (tx.size : Int)) = True := eq_true (by omega)
 have e5 : (9223372036854775807 < (tx.extract 0 (tx.size - 3)).size + 3) = False := eq_false (by rw [ByteArray.size_extract]; omega)
 have H2 := ak h2
 have HI := ak (show (v : Int) % 4294967296 = (v : Int) by omega)
 clear hp h1 h2 hf hv hi
 go_enter Tryz.func14, Tryz.ntmps14
 go_wp2_with (first
  | ((with_reducible refine aA (N := 8) rfl ?_); refine eC rfl 43 #[(0, .tmp 7), (1, .const (.int .i64 26))] rfl [(0, .int .u32 (v : Int)), (1, .int .i64 26)] (by simp only [List.map_toArray, List.map_cons, List.map_nil]; rfl) [Value.int .u32 (v : Int), .int .i64 26] (by kernel_rfl) ?_)
  | (go_at_call 44; refine (cW.calls 40 (v : Int) 26 tx _ HP.out).mono ?_; rintro e W1 ⟨rfl, aW⟩; have cP := ak aW; clear aW))
 go_ret
 exact ⟨by rw [H2.out]; rfl, cP.out⟩
end Go.Proofs.YtndddnglapkplaaGreatDoor.V
end

section
namespace Go.Proofs.YtndddnglapkplaaGreatDoor.V
def j9 (t val : ByteArray) : Bool := (jk t).2.2 && (cy val && (((jk t).2.1 == 26) && ((jk t).1 == (if cy val = true then (cQ val).addr else 0))))
def e7 : List Value := [.int .i64 0, .string ⟨#[]⟩, .int .u32 0, .int .u32 0, .int .i64 0, .bool false, .int .u32 0, .string ⟨#[]⟩, .slice none 0 0, .slice none 0 0, .slice none 0 0, .int .i64 0, .slice none 0 0, .bool false]
def rp (a : Int) (s : ByteArray) (vs vf va : Value) : List Value := [.int .i64 2, .string ⟨#[]⟩, .int .u32 0, .int .u32 0, .int .i64 0, .bool false, .int .u32 a, .string s, vs, vf, va, .int .i64 0, .slice none 0 0, .bool false]
theorem ic (w : World) : (zeroValue 52).run Tryz.prog w = .ok (.agg e7.toArray) w := by kernel_rfl
theorem z8 : ∀ a : Act, Tryz.prog.built 52 ((#[] : Array (Nat × Operand)).map fun (i, x) => (i, a.eval x)).toList = some e7.toArray := fun _ => by kernel_rfl
theorem Cg (a : Int) (s : ByteArray) (A1 : Option Addr) (n1 c1 : Nat) (A2 : Option Addr) (n2 c2 : Nat) (A3 : Option Addr) (n3 c3 : Nat) : Tryz.prog.built 52 [(0, .int .i64 2), (4, .agg #[.int .u32 a, .string s, .slice A1 n1 c1, .slice A2 n2 c2, .slice A3 n3 c3])] = some (rp a s (.slice A1 n1 c1) (.slice A2 n2 c2) (.slice A3 n3 c3)).toArray := by kernel_rfl
def AM (t val : ByteArray) (w : World) (e : Ending) (w' : World) : Prop := ∃ cs : List Value, e = .returned (.agg cs.toArray) ∧ (if j9 t val = true then ∃ vs vf va, cs = rp (cQ val).addr (cQ val).aff vs vf va ∧ Kd.R (Kd.int .i64) 3 w' w.heap.size (fun k_ => some k_ ≠ vf.ownBlock) vs (cQ val).slots ∧ Kd.R (Kd.int .i64) 3 w' w.heap.size (fun k_ => some k_ ≠ vs.ownBlock) vf (cQ val).free ∧ Kd.R lP 78 w' w.heap.size (fun _ => True) va ((cQ val).attrs.map vc) else cs = e7) ∧ Below w.heap.size w w'
theorem Gx {t val : ByteArray} {w w' : World} {e : Ending} (he : e = .returned (.agg e7.toArray)) (h : j9 t val = false) (hb : Below w.heap.size w w') : AM t val w e w' := ⟨e7, he, by rw [h]; rfl, hb⟩
theorem E8 {t val : ByteArray} {w w' : World} {e : Ending} {a : Int} {s : ByteArray} {ls lf : List Int} {la : List S78} {vs vf va : Value} (he : e = .returned (.agg (rp a s vs vf va).toArray)) (h : j9 t val = true) (hq : eF.f val = some (a, s, ls, lf, la, true))
  (h1 : Kd.R (Kd.int .i64) 3 w' w.heap.size (fun k_ => some k_ ≠ vf.ownBlock) vs ls) (h2 : Kd.R (Kd.int .i64) 3 w' w.heap.size (fun k_ => some k_ ≠ vs.ownBlock) vf lf) (h3 : Kd.R lP 78 w' w.heap.size (fun _ => True) va la) (hb : Below w.heap.size w w') : AM t val w e w' := by
 have hok : cy val = true := by
  unfold j9 at h
  simp only [Bool.and_eq_true] at h
  exact h.2.1
 unfold eF.f at hq
 split at hq
 ·have hq := Option.some.inj hq
  simp only [Prod.mk.injEq, hok, if_true, true_and, and_true] at hq
  obtain ⟨rfl, rfl, rfl, rfl, rfl⟩ := hq
  exact ⟨_, he, by rw [h]; exact ⟨_, _, _, rfl, h1, h2, h3⟩, hb⟩
 ·cases hq
set_option maxHeartbeats 8000000 in
set_option maxRecDepth 100000 in
theorem E9 (t val : ByteArray) (ht : t.size ≤ 1000) (hv : val.size ≤ 1000000) (w : World) :
  Calls Tryz.prog 13 #[.string (gl ++ t), .string val] w (AM t val w) := by
 obtain ⟨key, hkey⟩ : ∃ key, key = gl ++ t := ⟨_, rfl⟩
 have xR : key.toList = gl.data.toList ++ t.data.toList := by rw [hkey, Lib.toList_data, fg]
 have hlock : (key.toList == ([108, 111, 99, 107] : List UInt8)) = false := by
  rw [beq_eq_false_iff_ne, xR]
  intro h
  have h1 : (98 : UInt8) = 108 := congrArg (fun l : List UInt8 => l.headD 0) h
  exact absurd h1 (by decide)
 have I8 := ak (show dc.f key ⟨#[112, 111, 111, 108, 47]⟩ = some (⟨#[]⟩, false) from Fj _ _ (fun u h => by
  have h2 := congrArg (fun b : ByteArray => b.data.toList) h
  rw [hkey] at h2
  simp only [fg] at h2
  have h3 : (98 : UInt8) = 112 := congrArg (fun l : List UInt8 => l.headD 0) h2
  exact absurd h3 (by decide)))
 have Qd := ak (show dc.f key ⟨#[98, 108, 111, 99, 107, 47]⟩ = some (t, true) by rw [hkey]; exact Du _ _)
 rw [← hkey]
 clear xR hkey
 have hnf : gI.f t = some (jk t) := if_pos ht
 have hbf : ∃ a s ls lf la, eF.f val = some (a, s, ls, lf, la, cy val) ∧ a = (if cy val = true then (cQ val).addr else 0) := ⟨_, _, _, _, _, if_pos hv, rfl⟩
 obtain ⟨a, s, ls, lf, la, hbf, ha⟩ := hbf
 have HIS : Aside0 (j9 t val = ((jk t).2.2 && (cy val && (((jk t).2.1 == 26) && ((jk t).1 == a))))) := ⟨by unfold j9; rw [ha]⟩
 clear ha
 generalize jk t = d at hnf HIS
 obtain ⟨d1, d2, d3⟩ := d
 dsimp only at HIS
 generalize cy val = rok at hbf HIS
 have HNF := ak hnf
 have HBF := ak hbf
 obtain ⟨IF, QB⟩ : ∃ b, (d2 == 26) = b := ⟨_, rfl⟩
 obtain ⟨ea, hea⟩ : ∃ b, (d1 == a) = b := ⟨_, rfl⟩
 have hcs : (d3 = true ∧ rok = true ∧ IF = true ∧ ea = true ∧ j9 t val = true) ∨ (j9 t val = false ∧ (d3 = false ∨ (d3 = true ∧ rok = false) ∨ (d3 = true ∧ rok = true ∧ IF = false) ∨ (d3 = true ∧ rok = true ∧ IF = true ∧ ea = false))) := by
  rw [HIS.out, QB, hea]
  cases d3 <;> cases rok <;> cases IF <;> cases ea <;> simp
 clear HIS hnf hbf
 rcases hcs with ⟨rfl, rfl, rfl, rfl, hok⟩ | ⟨hno, hcs⟩
 ·have HOK := ak hok
  clear hok
  go_enter Tryz.func13, Tryz.ntmps13
  go_wp2_with (first
   | (refine a6 (some 4) rfl rfl 52 rfl e7 ic ?_; intro g4 W1 da fV aW; have HX := ak fV; have HB := ak aW; have pj := ak da; clear fV aW da)
   | (go_at_call 36; refine (dc.calls key ⟨#[112, 111, 111, 108, 47]⟩ _ _ _ I8.out).mono ?_; rintro e W2 ⟨rfl, di⟩; replace HX := mv di HX; replace HB := mv di HB; clear di I8)
   | (go_at_call 36; refine (dc.calls key ⟨#[98, 108, 111, 99, 107, 47]⟩ _ _ _ Qd.out).mono ?_; rintro e W2 ⟨rfl, di⟩; replace HX := mv di HX; replace HB := mv di HB; clear di)
   | (go_at_call 37; refine (gI.calls t d1 d2 _ _ HNF.out).mono ?_; rintro e W2 ⟨rfl, di⟩; replace HX := mv di HX; replace HB := mv di HB; clear di)
   | (refine a6 (some 12) rfl rfl 43 rfl tZ (fun _ => by kernel_rfl) ?_; intro g12 W3 rF o7 di; have Hc := ak (show w.heap.size ≤ g12 by have := HB.out.size; omega); have yb := ak (show g4 ≠ g12 by have := HX.out.lt; omega); have HY := ak o7; replace HX := mv di HX; replace HB := mv di HB; clear di o7 rF)
   | (refine aM rfl 43 (.tmp 12) (.tmp 69) rfl g12 [.int .u32 d1, .int .i64 d2] rfl rfl 43 _ HY.out 2 (by kernel_rfl) rfl rfl (by intro u hu; simp at hu; rcases hu with rfl | rfl <;> rfl) ?_; intro W4 EH fG; replace HY := ak EH; replace HX := gn HX yb fG; replace HB := gb HB Hc fG; clear EH fG)
   | (go_at_call 40; refine (eF.calls val a s ls lf la _ _ HBF.out).mono ?_; rintro e W5 ⟨DS, DR, Hv, rfl, ze, zq, zA, di⟩; obtain ⟨A2, c2, rfl⟩ := Kd.R_slice ze; obtain ⟨A3, c3, rfl⟩ := Kd.R_slice zq; obtain ⟨A4, c4, rfl⟩ := Kd.R_slice zA; have HS := ak (Kd.R_lower ze HB.out.size); have HF := ak (Kd.R_lower zq HB.out.size); have HA := ak (Kd.R_lower zA HB.out.size); replace HX := mv di HX; replace HY := mv di HY; replace HB := mv di HB; clear di ze zq zA)
   | (refine a6 (some 14) rfl rfl 49 rfl gR (fun _ => by kernel_rfl) ?_; intro g14 W6 rE jG di; have Hb := ak (show w.heap.size ≤ g14 by have := HB.out.size; omega); have DE := ak (show g4 ≠ g14 by have := HX.out.lt; omega); have AE := ak (show g12 ≠ g14 by have := HY.out.lt; omega); have HZ := ak jG; replace HX := mv di HX; replace HY := mv di HY; replace HS := mv di HS; replace HF := mv di HF; replace HA := mv di HA; replace HB := mv di HB; clear di jG rE)
   | (refine aM rfl 49 (.tmp 14) (.tmp 74) rfl g14 [.int .u32 a, .string s, .slice A2 ls.length c2, .slice A3 lf.length c3, .slice A4 la.length c4] rfl rfl 49 _ HZ.out 5 (by kernel_rfl) rfl rfl (by intro u hu; simp at hu; rcases hu with rfl | rfl | rfl | rfl | rfl <;> rfl) ?_; intro W7 EF fG; replace HX := gn HX DE fG; replace HY := gn HY AE fG; replace HS := gr HS HZ fG; replace HF := gr HF HZ fG; replace HA := gr HA HZ fG; replace HB := gb HB Hb fG; replace HZ := ak EF; have mr := HY.out.cell 1 _ rfl; have gX := HY.out.cell 0 _ rfl; have jt := HZ.out.cell 0 _ rfl; clear EF fG)
   | ((with_reducible refine aA (N := 92) rfl ?_); refine bN rfl 49 (.tmp 14) rfl g14 rfl _ _ _ HZ.out Tryz.underlying49 rfl 5 (by kernel_rfl) rfl ?_)
   | ((with_reducible refine aA (N := 93) rfl ?_); refine eC rfl 52 #[(0, .const (.int .i64 2)), (4, .tmp 92)] rfl [(0, .int .i64 2), (4, .agg #[.int .u32 a, .string s, .slice A2 ls.length c2, .slice A3 lf.length c3, .slice A4 la.length c4])] (by simp only [List.map_toArray, List.map_cons, List.map_nil]; rfl) (rp a s (.slice A2 ls.length c2) (.slice A3 lf.length c3) (.slice A4 la.length c4)) (Cg _ _ _ _ _ _ _ _ _ _ _) ?_)
   | (refine aM rfl 52 (.tmp 4) (.tmp 93) rfl g4 (rp a s (.slice A2 ls.length c2) (.slice A3 lf.length c3) (.slice A4 la.length c4)) rfl rfl 52 _ HX.out 14 (by kernel_rfl) rfl rfl (by intro u hu; simp [rp] at hu; rcases hu with rfl | rfl | rfl | rfl | rfl | rfl | rfl | rfl | rfl | rfl | rfl | rfl | rfl | rfl <;> rfl) ?_; intro W9 gp dp)
   | ((with_reducible refine aA (N := 94) rfl ?_); refine ev rfl 52 #[] rfl e7 (z8 _) ?_)
   | (refine aM rfl 52 (.tmp 4) (.tmp 94) rfl g4 e7 rfl rfl 52 _ HX.out 14 (by kernel_rfl) rfl rfl (by intro u hu; simp [e7] at hu; rcases hu with rfl | rfl | rfl | rfl | rfl | rfl | rfl | rfl | rfl | rfl | rfl | rfl | rfl | rfl <;> rfl) ?_; intro W9 gp dp))
  exact bodyPost_ret (results_cell_row rfl _ _ g4 52 _ (0, 0) _ rfl gp Tryz.underlying52 rfl (by kernel_rfl)) rfl (E8 rfl HOK.out HBF.out (cR HS.out HX.out (by decide) dp) (cR HF.out HX.out (by decide) dp) (cR HA.out HX.out (by decide) dp) (HB.out.grown dp HB.out.size (by intro k hk; cases hk; exact pj.out)))
 ·have HNO := ak hno
  clear hno
  rcases hcs with rfl | ⟨rfl, rfl⟩ | ⟨rfl, rfl, rfl⟩ | ⟨rfl, rfl, rfl, rfl⟩
  all_goals
   go_enter Tryz.func13, Tryz.ntmps13
   go_wp2_with (first
    | (refine a6 (some 4) rfl rfl 52 rfl e7 ic ?_; intro g4 W1 da fV aW; have HX := ak fV; have HB := ak aW; have pj := ak da; clear fV aW da)
    | (go_at_call 36; refine (dc.calls key ⟨#[112, 111, 111, 108, 47]⟩ _ _ _ I8.out).mono ?_; rintro e W2 ⟨rfl, di⟩; replace HX := mv di HX; replace HB := mv di HB; clear di I8)
    | (go_at_call 36; refine (dc.calls key ⟨#[98, 108, 111, 99, 107, 47]⟩ _ _ _ Qd.out).mono ?_; rintro e W2 ⟨rfl, di⟩; replace HX := mv di HX; replace HB := mv di HB; clear di)
    | (go_at_call 37; refine (gI.calls t d1 d2 _ _ HNF.out).mono ?_; rintro e W2 ⟨rfl, di⟩; replace HX := mv di HX; replace HB := mv di HB; clear di)
    | (refine a6 (some 12) rfl rfl 43 rfl tZ (fun _ => by kernel_rfl) ?_; intro g12 W3 rF o7 di; have Hc := ak (show w.heap.size ≤ g12 by have := HB.out.size; omega); have yb := ak (show g4 ≠ g12 by have := HX.out.lt; omega); have HY := ak o7; replace HX := mv di HX; replace HB := mv di HB; clear di o7 rF)
    | (refine aM rfl 43 (.tmp 12) (.tmp 69) rfl g12 [.int .u32 d1, .int .i64 d2] rfl rfl 43 _ HY.out 2 (by kernel_rfl) rfl rfl (by intro u hu; simp at hu; rcases hu with rfl | rfl <;> rfl) ?_; intro W4 EH fG; replace HY := ak EH; replace HX := gn HX yb fG; replace HB := gb HB Hc fG; clear EH fG)
    | (go_at_call 40; refine (eF.calls val a s ls lf la _ _ HBF.out).mono ?_; rintro e W5 ⟨DS, DR, Hv, rfl, ze, zq, zA, di⟩; obtain ⟨A2, c2, rfl⟩ := Kd.R_slice ze; obtain ⟨A3, c3, rfl⟩ := Kd.R_slice zq; obtain ⟨A4, c4, rfl⟩ := Kd.R_slice zA; have HS := ak (Kd.R_lower ze HB.out.size); have HF := ak (Kd.R_lower zq HB.out.size); have HA := ak (Kd.R_lower zA HB.out.size); replace HX := mv di HX; replace HY := mv di HY; replace HB := mv di HB; clear di ze zq zA)
    | (refine a6 (some 14) rfl rfl 49 rfl gR (fun _ => by kernel_rfl) ?_; intro g14 W6 rE jG di; have Hb := ak (show w.heap.size ≤ g14 by have := HB.out.size; omega); have DE := ak (show g4 ≠ g14 by have := HX.out.lt; omega); have AE := ak (show g12 ≠ g14 by have := HY.out.lt; omega); have HZ := ak jG; replace HX := mv di HX; replace HY := mv di HY; replace HS := mv di HS; replace HF := mv di HF; replace HA := mv di HA; replace HB := mv di HB; clear di jG rE)
    | (refine aM rfl 49 (.tmp 14) (.tmp 74) rfl g14 [.int .u32 a, .string s, .slice A2 ls.length c2, .slice A3 lf.length c3, .slice A4 la.length c4] rfl rfl 49 _ HZ.out 5 (by kernel_rfl) rfl rfl (by intro u hu; simp at hu; rcases hu with rfl | rfl | rfl | rfl | rfl <;> rfl) ?_; intro W7 EF fG; replace HX := gn HX DE fG; replace HY := gn HY AE fG; replace HS := gr HS HZ fG; replace HF := gr HF HZ fG; replace HA := gr HA HZ fG; replace HB := gb HB Hb fG; replace HZ := ak EF; have mr := HY.out.cell 1 _ rfl; have gX := HY.out.cell 0 _ rfl; have jt := HZ.out.cell 0 _ rfl; clear EF fG)
    | ((with_reducible refine aA (N := 92) rfl ?_); refine bN rfl 49 (.tmp 14) rfl g14 rfl _ _ _ HZ.out Tryz.underlying49 rfl 5 (by kernel_rfl) rfl ?_)
    | ((with_reducible refine aA (N := 93) rfl ?_); refine eC rfl 52 #[(0, .const (.int .i64 2)), (4, .tmp 92)] rfl [(0, .int .i64 2), (4, .agg #[.int .u32 a, .string s, .slice A2 ls.length c2, .slice A3 lf.length c3, .slice A4 la.length c4])] (by simp only [List.map_toArray, List.map_cons, List.map_nil]; rfl) (rp a s (.slice A2 ls.length c2) (.slice A3 lf.length c3) (.slice A4 la.length c4)) (Cg _ _ _ _ _ _ _ _ _ _ _) ?_)
    | (refine aM rfl 52 (.tmp 4) (.tmp 93) rfl g4 (rp a s (.slice A2 ls.length c2) (.slice A3 lf.length c3) (.slice A4 la.length c4)) rfl rfl 52 _ HX.out 14 (by kernel_rfl) rfl rfl (by intro u hu; simp [rp] at hu; rcases hu with rfl | rfl | rfl | rfl | rfl | rfl | rfl | rfl | rfl | rfl | rfl | rfl | rfl | rfl <;> rfl) ?_; intro W9 gp dp)
    | ((with_reducible refine aA (N := 94) rfl ?_); refine ev rfl 52 #[] rfl e7 (z8 _) ?_)
    | (refine aM rfl 52 (.tmp 4) (.tmp 94) rfl g4 e7 rfl rfl 52 _ HX.out 14 (by kernel_rfl) rfl rfl (by intro u hu; simp [e7] at hu; rcases hu with rfl | rfl | rfl | rfl | rfl | rfl | rfl | rfl | rfl | rfl | rfl | rfl | rfl | rfl <;> rfl) ?_; intro W9 gp dp))
   exact bodyPost_ret (results_cell_row rfl _ _ g4 52 _ (0, 0) _ rfl gp Tryz.underlying52 rfl (by kernel_rfl)) rfl (Gx rfl HNO.out (HB.out.grown dp HB.out.size (by intro k hk; cases hk; exact pj.out)))
end Go.Proofs.YtndddnglapkplaaGreatDoor.V
end

section
namespace Go.Proofs.YtndddnglapkplaaGreatDoor.V
theorem oh (t val : ByteArray) (ht : t.size ≤ 1000) (hv : val.size ≤ 1000000) (w : World) :
  Calls Tryz.prog 13 #[.string (gl ++ t), .string val] w fun e w' => ∃ xa sa A1 n1 c1 A2 n2 c2 A3 n3 c3, e = .returned (.agg #[.int .i64 (if j9 t val = true then 2 else 0), .string ⟨#[]⟩, .int .u32 0, .int .u32 0, .int .i64 0, .bool false, .int .u32 xa, .string sa, .slice A1 n1 c1, .slice A2 n2 c2, .slice A3 n3 c3, .int .i64 0, .slice none 0 0, .bool false]) ∧ Below w.heap.size w w' := by
 refine (E9 t val ht hv w).mono ?_
 rintro e w' ⟨cs, rfl, h, hb⟩
 cases hk : j9 t val with
 | true =>
  rw [hk, if_pos rfl] at h
  obtain ⟨vs, vf, va, rfl, h1, h2, h3⟩ := h
  obtain ⟨A1, c1, rfl⟩ := Kd.R_slice h1
  obtain ⟨A2, c2, rfl⟩ := Kd.R_slice h2
  obtain ⟨A3, c3, rfl⟩ := Kd.R_slice h3
  exact ⟨_, _, _, _, _, _, _, _, _, _, _, rfl, hb⟩
 | false =>
  rw [hk, if_neg (by decide)] at h
  subst h
  exact ⟨_, _, _, _, _, _, _, _, _, _, _, rfl, hb⟩
theorem gS {P : Program} {ops : Array Oper} {rest : List Oper} {o : Oper} {a : Act} {w : World} {Q : Exit → Act → World → Prop} (hgd : o.guard = none) (t : TypeId) (x : Operand) (i : Nat) (ho : o.op = .field t x i) (u : Value) (hx : a.eval x = u) {v : Value} (hl : (Instr.field t u i).run P w = .ok v w)
  (h : wpList P ops Q rest (a.put o.dst v) w) : wpList P ops Q (o :: rest) a w := by
 refine qv hgd (v := v) (w1 := w) ?_ h
 unfold execOp
 simp only [ho, hx, Sem.run_bind, hl, Result.andThen_ok, Sem.run_pure]
theorem jn (k xa : Int) (sa : ByteArray) (A1 : Option Addr) (n1 c1 : Nat) (A2 : Option Addr) (n2 c2 : Nat) (A3 : Option Addr) (n3 c3 : Nat) (W : World) : (Instr.field 52 (.agg #[.int .i64 k, .string ⟨#[]⟩, .int .u32 0, .int .u32 0, .int .i64 0, .bool false, .int .u32 xa, .string sa, .slice A1 n1 c1, .slice A2 n2 c2, .slice A3 n3 c3, .int .i64 0, .slice none 0 0, .bool false]) 0).run Tryz.prog W = .ok (.int .i64 k) W := by kernel_rfl
theorem Da (v : Nat) (hv : v < 4294967296) (hd : v % sz 26 = 0) : jk (cY v 26) = ((v : Int), 26, true) := by
 unfold jk
 rw [sq hv (by omega) hd]
 rfl
theorem sZ (v : Nat) (hv : v < 4294967296) (hd : v % sz 26 = 0) (val : ByteArray) : j9 (cY v 26) val = (cy val && ((cQ val).addr == (v : Int))) := by
 unfold j9
 rw [Da v hv hd]
 cases h : cy val with
 | false => simp
 | true =>
  simp only [Bool.true_and, if_true]
  rw [Bool.eq_iff_iff]
  simp only [Bool.and_eq_true, beq_iff_eq]
  constructor
  ·rintro ⟨_, h⟩; exact h.symm
  ·intro h; exact ⟨trivial, h.symm⟩
theorem wh (v : Nat) (hv : v < 4294967296) (hd : v % sz 26 = 0) (val : ByteArray) : tP val true (v : Int) = j9 (cY v 26) val := by
 rw [sZ v hv hd]
 unfold tP
 cases h : cy val with
 | false => simp
 | true => simp
theorem xW (u v : Nat) (hu : u < 4294967296) (hud : u % sz 26 = 0) (hv : v < 4294967296) (hvd : v % sz 26 = 0) (hne : u ≠ v) (val : ByteArray) (h : j9 (cY u 26) val = true) : j9 (cY v 26) val = false := by
 rw [sZ u hu hud] at h
 rw [sZ v hv hvd]
 simp only [Bool.and_eq_true, beq_iff_eq] at h
 rw [h.1, Bool.true_and, beq_eq_false_iff_ne, h.2]
 omega
theorem EC (t : ByteArray) : (gl ++ t).toList = 98 :: ([108, 111, 99, 107, 47] ++ t.data.toList) := by
 rw [ByteArray.toList_eq, fg]
 rfl
theorem y8 (p t u : ByteArray) (h : p.data.toList.headD 0 ≠ 98) (hp : 0 < p.size) : gl ++ t ≠ p ++ u := by
 intro e
 have h2 := congrArg (fun b : ByteArray => b.data.toList) e
 simp only [fg] at h2
 have h3 : (98 : UInt8) = (p.data.toList ++ u.data.toList).headD 0 := congrArg (fun l : List UInt8 => l.headD 0) h2
 cases hd : p.data.toList with
 | nil => have := cw p; rw [hd] at this; simp at this; omega
 | cons x l =>
  rw [hd] at h h3
  simp at h h3
  exact h h3.symm
theorem xE (p t : ByteArray) (h : p.data.toList.headD 0 ≠ 98) (hp : 0 < p.size) : eO.f (gl ++ t) p = some (⟨#[]⟩, false) := by
 rcases CW (gl ++ t) p with ⟨s, _, h2, _⟩ | h1
 ·exact absurd h2 (y8 p t s h hp)
 ·exact h1
theorem yY (v : Nat) (hv : v < 4294967296) (hvd : bR v = v) (val : ByteArray) (hval : val.size ≤ 1000000) (A : Option Addr) (c : Nat) (w : World) (hC : Kd.C vI w A 1 [⟨gl ++ cY v 26, val, 1⟩]) (hc : 1 ≤ c) :
  Calls Tryz.prog 7 #[.slice A 1 c] w fun e w' => (∃ A1 n1 c1 A2 n2 c2 q1 q2 q3, e = .returned (.tuple #[.agg (e8 (.slice A1 n1 c1) (.slice A2 n2 c2) (.map q1) (.map q2) (.map q3)).toArray, .int .i64 (if tP val true (v : Int) = true then 0 else 3)])) ∧ Below w.heap.size w w' := by
 have hz := j6 v 26
 have hsz : (gl ++ cY v 26).size ≤ 1000 := by rw [ByteArray.size_append]; show 6 + _ ≤ _; omega
 refine of_block (gl ++ cY v 26) val hval 1 (v : Int) true ?_ ?_ (CX v hv hvd 4 (by omega)) ?_ ?_ ?_ A c w hC hc
 ·unfold iY.f
  rw [if_neg]
  rw [EC]
  intro h
  exact absurd (List.cons.inj h).1 (by decide)
 ·rcases CV (gl ++ cY v 26) hsz 4 (by omega) with ⟨a, n, _, _, _, h, _⟩ | h
  ·exact absurd h (y8 _ _ _ (by decide) (by decide))
  ·exact h
 ·rcases Ep (gl ++ cY v 26) hsz 4 (by omega) with ⟨s, a, _, _, _, h, _⟩ | h
  ·rw [wj] at h
   exact absurd h (y8 _ _ _ (by decide) (by decide))
  ·exact h
 ·unfold iF.f
  rw [xE _ _ (by decide) (by decide)]
  rfl
 ·unfold jD.f
  rw [xE _ _ (by decide) (by decide)]
  rfl
set_option maxHeartbeats 8000000 in
set_option maxRecDepth 100000 in
theorem Bl (s0 val : ByteArray) (HS : s0.size ≤ 600 ∧ s0 = val) (hs : val.size ≤ 600) (a b : Nat) (ha : a < 4294967296) (hb : b < 4294967296) (w : World) :
  Calls Tryz.prog 4 #[.string s0, .int .u32 (a : Int), .int .u32 (b : Int)] w fun e w' => e = .returned (.bool true) ∧ Below w.heap.size w w' := by
 have hfa := nJ ha
 have hfb := nJ hb
 have hza := j6 (bR a) 26
 have hzb := j6 (bR b) 26
 have zp : bR (bR b) = bR b := by unfold bR; omega
 have HNA := ak (rA a ha)
 have HNB := ak (rA b hb)
 have HRA := ak (oh (cY (bR a) 26) val (by omega) (by omega))
 have HRB := ak (oh (cY (bR b) 26) val (by omega) (by omega))
 have hof := yY (bR b) hfb.1 zp val (by omega)
 rw [wh _ hfb.1 hfb.2] at hof
 have HOF := ak hof
 have hlaw := fun h : bR a ≠ bR b => xW (bR a) (bR b) hfa.1 hfa.2 hfb.1 hfb.2 h val
 obtain ⟨ba, hba⟩ : ∃ x, j9 (cY (bR a) 26) val = x := ⟨_, rfl⟩
 obtain ⟨bb, hbb⟩ : ∃ x, j9 (cY (bR b) 26) val = x := ⟨_, rfl⟩
 rw [hba] at HRA hlaw
 rw [hbb] at HRB HOF hlaw
 obtain ⟨ka, hka⟩ : ∃ k : Int, (if ba = true then (2 : Int) else 0) = k := ⟨_, rfl⟩
 obtain ⟨kb, hkb⟩ : ∃ k : Int, (if bb = true then (2 : Int) else 0) = k := ⟨_, rfl⟩
 obtain ⟨er, her⟩ : ∃ k : Int, (if bb = true then (0 : Int) else 3) = k := ⟨_, rfl⟩
 rw [hka] at HRA
 rw [hkb] at HRB
 rw [her] at HOF
 clear hof zp
 obtain ⟨ta, hta⟩ : ∃ x, cY (bR a) 26 = x := ⟨_, rfl⟩
 obtain ⟨tb, htb⟩ : ∃ x, cY (bR b) 26 = x := ⟨_, rfl⟩
 rw [hta] at HNA HRA hza
 rw [htb] at HNB HRB HOF hzb
 have Uv : (9223372036854775807 < 6 + ta.size) = False := eq_false (by omega)
 have Uu : (9223372036854775807 < 6 + tb.size) = False := eq_false (by omega)
 obtain ⟨pa, hpa⟩ : ∃ x, (⟨#[98, 108, 111, 99, 107, 47]⟩ : ByteArray) ++ ta = x := ⟨_, rfl⟩
 obtain ⟨pb, hpb⟩ : ∃ x, (⟨#[98, 108, 111, 99, 107, 47]⟩ : ByteArray) ++ tb = x := ⟨_, rfl⟩
 rw [show gl ++ ta = pa from hpa] at HRA
 rw [show gl ++ tb = pb from hpb] at HRB HOF
 have ea : (a : Int) - (a : Int) % 64 = ((bR a : Nat) : Int) := by unfold bR; omega
 have eb : (b : Int) - (b : Int) % 64 = ((bR b : Nat) : Int) := by unfold bR; omega
 generalize bR a = va at ea hlaw hfa hta
 generalize bR b = vb at eb hlaw hfb htb
 clear hta htb hba hbb hza hzb
 have mq : (va < 4294967296 ∧ vb < 4294967296) := ⟨hfa.1, hfb.1⟩
 clear hfa hfb
 obtain ⟨iv, rfl⟩ := HS
 have hbig : decide (600 < (s0.size : Int)) = false := by simp; omega
 have Oa : decide ((s0.size : Int) > 600) = false := by simp; omega
 cases ba with
 | true =>
  obtain rfl : ka = 2 := by rw [← hka]; rfl
  by_cases hne : va = vb
  ·have hq : ((va : Int) != (vb : Int)) = false := by rw [hne]; simp
   clear hlaw hka
   cases bb with
   | true =>
    obtain rfl : kb = 2 := by rw [← hkb]; rfl
    obtain rfl : er = 0 := by rw [← her]; rfl
    clear hkb her hne
    go_enter Tryz.func4, Tryz.ntmps4
    go_wp2_with (first
     | (go_at_call 14; refine (HNA.out _).mono ?_; rintro e W1 ⟨rfl, hb⟩; have HB := ak hb; clear hb HNA)
     | (go_at_call 13; refine (HRA.out _).mono ?_; rintro e W2 ⟨xa, sa, A1, n1, c1, A2, n2, c2, A3, n3, c3, rfl, hb⟩; replace HB := ak (HB.out.trans (hb.mono HB.out.size)); clear hb HRA)
     | (refine a6 (some 7) rfl rfl 52 rfl e7 ic ?_; intro g7 W3 cz hbx hb; have HX := ak hbx; have fU := ak (Nat.le_trans HB.out.size cz); replace HB := ak (HB.out.trans (hb.mono HB.out.size)); clear hb hbx cz)
     | (refine aM rfl 52 (.tmp 7) (.tmp 19) rfl g7 [.int .i64 2, .string ⟨#[]⟩, .int .u32 0, .int .u32 0, .int .i64 0, .bool false, .int .u32 xa, .string sa, .slice A1 n1 c1, .slice A2 n2 c2, .slice A3 n3 c3, .int .i64 0, .slice none 0 0, .bool false] rfl rfl 52 _ HX.out 14 (by kernel_rfl) rfl rfl (by intro u hu; simp at hu; rcases hu with rfl | rfl | rfl | rfl | rfl | rfl | rfl | rfl | rfl | rfl | rfl | rfl | rfl | rfl <;> rfl) ?_; intro W4 dj da; replace HX := ak dj; replace HB := ak (HB.out.grown da HB.out.size (by intro k hk; cases hk; exact fU.out)); clear dj da)
     | (go_at_call 14; refine (HNB.out _).mono ?_; rintro e W5 ⟨rfl, hb⟩; replace HX := ak (HX.out.below hb); replace HB := ak (HB.out.trans (hb.mono HB.out.size)); have fJ := HB.out.size; clear hb)
     | (go_at_call 7; refine (HOF.out _ _ _ (lu _ _ _ _) (Nat.le_refl _)).mono ?_; rintro e W6 ⟨⟨B1, m1, d1, B2, m2, d2, q1, q2, q3, rfl⟩, hb⟩; have dJ := ((aa (Below.refl _ _) _).trans (hb.mono (by simp))); replace HX := ak (HX.out.below dJ); replace HB := ak (HB.out.trans (dJ.mono HB.out.size)); clear hb dJ fJ)
     | (refine a6 (some 8) rfl rfl 30 rfl lG (fun _ => by kernel_rfl) ?_; intro g8 W7 b9 hbx hb; have HZ := ak hbx; have mW := ak (Nat.le_trans HB.out.size b9); have ke := ak (show g7 ≠ g8 by have := HX.out.lt; omega); replace HX := ak (HX.out.below hb); replace HB := ak (HB.out.trans (hb.mono HB.out.size)); clear hb hbx b9)
     | (refine aM rfl 30 (.tmp 8) (.tmp 28) rfl g8 (e8 (.slice B1 m1 d1) (.slice B2 m2 d2) (.map q1) (.map q2) (.map q3)) rfl rfl 30 _ HZ.out 5 (by kernel_rfl) rfl rfl (by intro u hu; simp [e8] at hu; rcases hu with rfl | rfl | rfl | rfl | rfl <;> rfl) ?_; intro W8 mN b9; replace HX := ak (HX.out.grown b9 (fun e => ke.out (Option.some.inj e))); replace HB := ak (HB.out.grown b9 HB.out.size (by intro k hk; cases hk; exact mW.out)); have iP := HX.out.cell 0 _ rfl; clear mN b9 HZ)
     | (go_at_call 13; refine (HRB.out _).mono ?_; rintro e W9 ⟨xb, sb, E1, e1, f1, E2, e2, f2, E3, e3, f3, rfl, hb⟩; replace HB := ak (HB.out.trans (hb.mono HB.out.size)); clear hb)
     | ((with_reducible refine aA (N := 56) rfl ?_); refine gS rfl 52 (.tmp 55) 0 rfl _ rfl (jn _ _ _ _ _ _ _ _ _ _ _ _ _) ?_)
     | (go_at_call 10; refine (fX _).mono ?_; rintro e mB ⟨rfl, hb⟩; replace HB := ak (HB.out.trans (hb.mono HB.out.size)); clear hb))
    go_ret
    exact ⟨rfl, HB.out⟩
   | false =>
    obtain rfl : kb = 0 := by rw [← hkb]; rfl
    obtain rfl : er = 3 := by rw [← her]; rfl
    clear hkb her hne
    go_enter Tryz.func4, Tryz.ntmps4
    go_wp2_with (first
     | (go_at_call 14; refine (HNA.out _).mono ?_; rintro e W1 ⟨rfl, hb⟩; have HB := ak hb; clear hb HNA)
     | (go_at_call 13; refine (HRA.out _).mono ?_; rintro e W2 ⟨xa, sa, A1, n1, c1, A2, n2, c2, A3, n3, c3, rfl, hb⟩; replace HB := ak (HB.out.trans (hb.mono HB.out.size)); clear hb HRA)
     | (refine a6 (some 7) rfl rfl 52 rfl e7 ic ?_; intro g7 W3 cz hbx hb; have HX := ak hbx; have fU := ak (Nat.le_trans HB.out.size cz); replace HB := ak (HB.out.trans (hb.mono HB.out.size)); clear hb hbx cz)
     | (refine aM rfl 52 (.tmp 7) (.tmp 19) rfl g7 [.int .i64 2, .string ⟨#[]⟩, .int .u32 0, .int .u32 0, .int .i64 0, .bool false, .int .u32 xa, .string sa, .slice A1 n1 c1, .slice A2 n2 c2, .slice A3 n3 c3, .int .i64 0, .slice none 0 0, .bool false] rfl rfl 52 _ HX.out 14 (by kernel_rfl) rfl rfl (by intro u hu; simp at hu; rcases hu with rfl | rfl | rfl | rfl | rfl | rfl | rfl | rfl | rfl | rfl | rfl | rfl | rfl | rfl <;> rfl) ?_; intro W4 dj da; replace HX := ak dj; replace HB := ak (HB.out.grown da HB.out.size (by intro k hk; cases hk; exact fU.out)); clear dj da)
     | (go_at_call 14; refine (HNB.out _).mono ?_; rintro e W5 ⟨rfl, hb⟩; replace HX := ak (HX.out.below hb); replace HB := ak (HB.out.trans (hb.mono HB.out.size)); have fJ := HB.out.size; clear hb)
     | (go_at_call 7; refine (HOF.out _ _ _ (lu _ _ _ _) (Nat.le_refl _)).mono ?_; rintro e W6 ⟨⟨B1, m1, d1, B2, m2, d2, q1, q2, q3, rfl⟩, hb⟩; have dJ := ((aa (Below.refl _ _) _).trans (hb.mono (by simp))); replace HX := ak (HX.out.below dJ); replace HB := ak (HB.out.trans (dJ.mono HB.out.size)); clear hb dJ fJ)
     | (refine a6 (some 8) rfl rfl 30 rfl lG (fun _ => by kernel_rfl) ?_; intro g8 W7 b9 hbx hb; have HZ := ak hbx; have mW := ak (Nat.le_trans HB.out.size b9); have ke := ak (show g7 ≠ g8 by have := HX.out.lt; omega); replace HX := ak (HX.out.below hb); replace HB := ak (HB.out.trans (hb.mono HB.out.size)); clear hb hbx b9)
     | (refine aM rfl 30 (.tmp 8) (.tmp 28) rfl g8 (e8 (.slice B1 m1 d1) (.slice B2 m2 d2) (.map q1) (.map q2) (.map q3)) rfl rfl 30 _ HZ.out 5 (by kernel_rfl) rfl rfl (by intro u hu; simp [e8] at hu; rcases hu with rfl | rfl | rfl | rfl | rfl <;> rfl) ?_; intro W8 mN b9; replace HX := ak (HX.out.grown b9 (fun e => ke.out (Option.some.inj e))); replace HB := ak (HB.out.grown b9 HB.out.size (by intro k hk; cases hk; exact mW.out)); have iP := HX.out.cell 0 _ rfl; clear mN b9 HZ)
     | (go_at_call 13; refine (HRB.out _).mono ?_; rintro e W9 ⟨xb, sb, E1, e1, f1, E2, e2, f2, E3, e3, f3, rfl, hb⟩; replace HB := ak (HB.out.trans (hb.mono HB.out.size)); clear hb)
     | ((with_reducible refine aA (N := 56) rfl ?_); refine gS rfl 52 (.tmp 55) 0 rfl _ rfl (jn _ _ _ _ _ _ _ _ _ _ _ _ _) ?_)
     | (go_at_call 10; refine (fX _).mono ?_; rintro e mB ⟨rfl, hb⟩; replace HB := ak (HB.out.trans (hb.mono HB.out.size)); clear hb))
    go_ret
    exact ⟨rfl, HB.out⟩
  ·have hq : ((va : Int) != (vb : Int)) = true := by rw [bne_iff_ne]; omega
   obtain rfl := hlaw hne rfl
   obtain rfl : kb = 0 := by rw [← hkb]; rfl
   obtain rfl : er = 3 := by rw [← her]; rfl
   clear hlaw hka hkb her hne
   go_enter Tryz.func4, Tryz.ntmps4
   go_wp2_with (first
    | (go_at_call 14; refine (HNA.out _).mono ?_; rintro e W1 ⟨rfl, hb⟩; have HB := ak hb; clear hb HNA)
    | (go_at_call 13; refine (HRA.out _).mono ?_; rintro e W2 ⟨xa, sa, A1, n1, c1, A2, n2, c2, A3, n3, c3, rfl, hb⟩; replace HB := ak (HB.out.trans (hb.mono HB.out.size)); clear hb HRA)
    | (refine a6 (some 7) rfl rfl 52 rfl e7 ic ?_; intro g7 W3 cz hbx hb; have HX := ak hbx; have fU := ak (Nat.le_trans HB.out.size cz); replace HB := ak (HB.out.trans (hb.mono HB.out.size)); clear hb hbx cz)
    | (refine aM rfl 52 (.tmp 7) (.tmp 19) rfl g7 [.int .i64 2, .string ⟨#[]⟩, .int .u32 0, .int .u32 0, .int .i64 0, .bool false, .int .u32 xa, .string sa, .slice A1 n1 c1, .slice A2 n2 c2, .slice A3 n3 c3, .int .i64 0, .slice none 0 0, .bool false] rfl rfl 52 _ HX.out 14 (by kernel_rfl) rfl rfl (by intro u hu; simp at hu; rcases hu with rfl | rfl | rfl | rfl | rfl | rfl | rfl | rfl | rfl | rfl | rfl | rfl | rfl | rfl <;> rfl) ?_; intro W4 dj da; replace HX := ak dj; replace HB := ak (HB.out.grown da HB.out.size (by intro k hk; cases hk; exact fU.out)); clear dj da)
    | (go_at_call 14; refine (HNB.out _).mono ?_; rintro e W5 ⟨rfl, hb⟩; replace HX := ak (HX.out.below hb); replace HB := ak (HB.out.trans (hb.mono HB.out.size)); have fJ := HB.out.size; clear hb)
    | (go_at_call 7; refine (HOF.out _ _ _ (lu _ _ _ _) (Nat.le_refl _)).mono ?_; rintro e W6 ⟨⟨B1, m1, d1, B2, m2, d2, q1, q2, q3, rfl⟩, hb⟩; have dJ := ((aa (Below.refl _ _) _).trans (hb.mono (by simp))); replace HX := ak (HX.out.below dJ); replace HB := ak (HB.out.trans (dJ.mono HB.out.size)); clear hb dJ fJ)
    | (refine a6 (some 8) rfl rfl 30 rfl lG (fun _ => by kernel_rfl) ?_; intro g8 W7 b9 hbx hb; have HZ := ak hbx; have mW := ak (Nat.le_trans HB.out.size b9); have ke := ak (show g7 ≠ g8 by have := HX.out.lt; omega); replace HX := ak (HX.out.below hb); replace HB := ak (HB.out.trans (hb.mono HB.out.size)); clear hb hbx b9)
    | (refine aM rfl 30 (.tmp 8) (.tmp 28) rfl g8 (e8 (.slice B1 m1 d1) (.slice B2 m2 d2) (.map q1) (.map q2) (.map q3)) rfl rfl 30 _ HZ.out 5 (by kernel_rfl) rfl rfl (by intro u hu; simp [e8] at hu; rcases hu with rfl | rfl | rfl | rfl | rfl <;> rfl) ?_; intro W8 mN b9; replace HX := ak (HX.out.grown b9 (fun e => ke.out (Option.some.inj e))); replace HB := ak (HB.out.grown b9 HB.out.size (by intro k hk; cases hk; exact mW.out)); have iP := HX.out.cell 0 _ rfl; clear mN b9 HZ)
    | (go_at_call 13; refine (HRB.out _).mono ?_; rintro e W9 ⟨xb, sb, E1, e1, f1, E2, e2, f2, E3, e3, f3, rfl, hb⟩; replace HB := ak (HB.out.trans (hb.mono HB.out.size)); clear hb)
    | ((with_reducible refine aA (N := 56) rfl ?_); refine gS rfl 52 (.tmp 55) 0 rfl _ rfl (jn _ _ _ _ _ _ _ _ _ _ _ _ _) ?_)
    | (go_at_call 10; refine (fX _).mono ?_; rintro e mB ⟨rfl, hb⟩; replace HB := ak (HB.out.trans (hb.mono HB.out.size)); clear hb))
   go_ret
   exact ⟨rfl, HB.out⟩
 | false =>
  obtain rfl : ka = 0 := by rw [← hka]; rfl
  clear hlaw hka
  cases bb with
  | true =>
   obtain rfl : kb = 2 := by rw [← hkb]; rfl
   obtain rfl : er = 0 := by rw [← her]; rfl
   clear hkb her
   go_enter Tryz.func4, Tryz.ntmps4
   go_wp2_with (first
    | (go_at_call 14; refine (HNA.out _).mono ?_; rintro e W1 ⟨rfl, hb⟩; have HB := ak hb; clear hb HNA)
    | (go_at_call 13; refine (HRA.out _).mono ?_; rintro e W2 ⟨xa, sa, A1, n1, c1, A2, n2, c2, A3, n3, c3, rfl, hb⟩; replace HB := ak (HB.out.trans (hb.mono HB.out.size)); clear hb HRA)
    | (refine a6 (some 7) rfl rfl 52 rfl e7 ic ?_; intro g7 W3 cz hbx hb; have HX := ak hbx; have fU := ak (Nat.le_trans HB.out.size cz); replace HB := ak (HB.out.trans (hb.mono HB.out.size)); clear hb hbx cz)
    | (refine aM rfl 52 (.tmp 7) (.tmp 19) rfl g7 [.int .i64 0, .string ⟨#[]⟩, .int .u32 0, .int .u32 0, .int .i64 0, .bool false, .int .u32 xa, .string sa, .slice A1 n1 c1, .slice A2 n2 c2, .slice A3 n3 c3, .int .i64 0, .slice none 0 0, .bool false] rfl rfl 52 _ HX.out 14 (by kernel_rfl) rfl rfl (by intro u hu; simp at hu; rcases hu with rfl | rfl | rfl | rfl | rfl | rfl | rfl | rfl | rfl | rfl | rfl | rfl | rfl | rfl <;> rfl) ?_; intro W4 dj da; replace HX := ak dj; replace HB := ak (HB.out.grown da HB.out.size (by intro k hk; cases hk; exact fU.out)); clear dj da)
    | (go_at_call 14; refine (HNB.out _).mono ?_; rintro e W5 ⟨rfl, hb⟩; replace HX := ak (HX.out.below hb); replace HB := ak (HB.out.trans (hb.mono HB.out.size)); have fJ := HB.out.size; clear hb)
    | (go_at_call 7; refine (HOF.out _ _ _ (lu _ _ _ _) (Nat.le_refl _)).mono ?_; rintro e W6 ⟨⟨B1, m1, d1, B2, m2, d2, q1, q2, q3, rfl⟩, hb⟩; have dJ := ((aa (Below.refl _ _) _).trans (hb.mono (by simp))); replace HX := ak (HX.out.below dJ); replace HB := ak (HB.out.trans (dJ.mono HB.out.size)); clear hb dJ fJ)
    | (refine a6 (some 8) rfl rfl 30 rfl lG (fun _ => by kernel_rfl) ?_; intro g8 W7 b9 hbx hb; have HZ := ak hbx; have mW := ak (Nat.le_trans HB.out.size b9); have ke := ak (show g7 ≠ g8 by have := HX.out.lt; omega); replace HX := ak (HX.out.below hb); replace HB := ak (HB.out.trans (hb.mono HB.out.size)); clear hb hbx b9)
    | (refine aM rfl 30 (.tmp 8) (.tmp 28) rfl g8 (e8 (.slice B1 m1 d1) (.slice B2 m2 d2) (.map q1) (.map q2) (.map q3)) rfl rfl 30 _ HZ.out 5 (by kernel_rfl) rfl rfl (by intro u hu; simp [e8] at hu; rcases hu with rfl | rfl | rfl | rfl | rfl <;> rfl) ?_; intro W8 mN b9; replace HX := ak (HX.out.grown b9 (fun e => ke.out (Option.some.inj e))); replace HB := ak (HB.out.grown b9 HB.out.size (by intro k hk; cases hk; exact mW.out)); have iP := HX.out.cell 0 _ rfl; clear mN b9 HZ)
    | (go_at_call 13; refine (HRB.out _).mono ?_; rintro e W9 ⟨xb, sb, E1, e1, f1, E2, e2, f2, E3, e3, f3, rfl, hb⟩; replace HB := ak (HB.out.trans (hb.mono HB.out.size)); clear hb)
    | ((with_reducible refine aA (N := 56) rfl ?_); refine gS rfl 52 (.tmp 55) 0 rfl _ rfl (jn _ _ _ _ _ _ _ _ _ _ _ _ _) ?_)
    | (go_at_call 10; refine (fX _).mono ?_; rintro e mB ⟨rfl, hb⟩; replace HB := ak (HB.out.trans (hb.mono HB.out.size)); clear hb))
   go_ret
   exact ⟨rfl, HB.out⟩
  | false =>
   obtain rfl : kb = 0 := by rw [← hkb]; rfl
   obtain rfl : er = 3 := by rw [← her]; rfl
   clear hkb her
   go_enter Tryz.func4, Tryz.ntmps4
   go_wp2_with (first
    | (go_at_call 14; refine (HNA.out _).mono ?_; rintro e W1 ⟨rfl, hb⟩; have HB := ak hb; clear hb HNA)
    | (go_at_call 13; refine (HRA.out _).mono ?_; rintro e W2 ⟨xa, sa, A1, n1, c1, A2, n2, c2, A3, n3, c3, rfl, hb⟩; replace HB := ak (HB.out.trans (hb.mono HB.out.size)); clear hb HRA)
    | (refine a6 (some 7) rfl rfl 52 rfl e7 ic ?_; intro g7 W3 cz hbx hb; have HX := ak hbx; have fU := ak (Nat.le_trans HB.out.size cz); replace HB := ak (HB.out.trans (hb.mono HB.out.size)); clear hb hbx cz)
    | (refine aM rfl 52 (.tmp 7) (.tmp 19) rfl g7 [.int .i64 0, .string ⟨#[]⟩, .int .u32 0, .int .u32 0, .int .i64 0, .bool false, .int .u32 xa, .string sa, .slice A1 n1 c1, .slice A2 n2 c2, .slice A3 n3 c3, .int .i64 0, .slice none 0 0, .bool false] rfl rfl 52 _ HX.out 14 (by kernel_rfl) rfl rfl (by intro u hu; simp at hu; rcases hu with rfl | rfl | rfl | rfl | rfl | rfl | rfl | rfl | rfl | rfl | rfl | rfl | rfl | rfl <;> rfl) ?_; intro W4 dj da; replace HX := ak dj; replace HB := ak (HB.out.grown da HB.out.size (by intro k hk; cases hk; exact fU.out)); clear dj da)
    | (go_at_call 14; refine (HNB.out _).mono ?_; rintro e W5 ⟨rfl, hb⟩; replace HX := ak (HX.out.below hb); replace HB := ak (HB.out.trans (hb.mono HB.out.size)); have fJ := HB.out.size; clear hb)
    | (go_at_call 7; refine (HOF.out _ _ _ (lu _ _ _ _) (Nat.le_refl _)).mono ?_; rintro e W6 ⟨⟨B1, m1, d1, B2, m2, d2, q1, q2, q3, rfl⟩, hb⟩; have dJ := ((aa (Below.refl _ _) _).trans (hb.mono (by simp))); replace HX := ak (HX.out.below dJ); replace HB := ak (HB.out.trans (dJ.mono HB.out.size)); clear hb dJ fJ)
    | (refine a6 (some 8) rfl rfl 30 rfl lG (fun _ => by kernel_rfl) ?_; intro g8 W7 b9 hbx hb; have HZ := ak hbx; have mW := ak (Nat.le_trans HB.out.size b9); have ke := ak (show g7 ≠ g8 by have := HX.out.lt; omega); replace HX := ak (HX.out.below hb); replace HB := ak (HB.out.trans (hb.mono HB.out.size)); clear hb hbx b9)
    | (refine aM rfl 30 (.tmp 8) (.tmp 28) rfl g8 (e8 (.slice B1 m1 d1) (.slice B2 m2 d2) (.map q1) (.map q2) (.map q3)) rfl rfl 30 _ HZ.out 5 (by kernel_rfl) rfl rfl (by intro u hu; simp [e8] at hu; rcases hu with rfl | rfl | rfl | rfl | rfl <;> rfl) ?_; intro W8 mN b9; replace HX := ak (HX.out.grown b9 (fun e => ke.out (Option.some.inj e))); replace HB := ak (HB.out.grown b9 HB.out.size (by intro k hk; cases hk; exact mW.out)); have iP := HX.out.cell 0 _ rfl; clear mN b9 HZ)
    | (go_at_call 13; refine (HRB.out _).mono ?_; rintro e W9 ⟨xb, sb, E1, e1, f1, E2, e2, f2, E3, e3, f3, rfl, hb⟩; replace HB := ak (HB.out.trans (hb.mono HB.out.size)); clear hb)
    | ((with_reducible refine aA (N := 56) rfl ?_); refine gS rfl 52 (.tmp 55) 0 rfl _ rfl (jn _ _ _ _ _ _ _ _ _ _ _ _ _) ?_)
    | (go_at_call 10; refine (fX _).mono ?_; rintro e mB ⟨rfl, hb⟩; replace HB := ak (HB.out.trans (hb.mono HB.out.size)); clear hb))
   go_ret
   exact ⟨rfl, HB.out⟩
set_option maxHeartbeats 8000000 in
set_option maxRecDepth 100000 in
theorem Fl (s0 val : ByteArray) (HS : s0.size > 600 ∧ val = s0.extract 0 600) (hs : val.size ≤ 600) (a b : Nat) (ha : a < 4294967296) (hb : b < 4294967296) (w : World) :
  Calls Tryz.prog 4 #[.string s0, .int .u32 (a : Int), .int .u32 (b : Int)] w fun e w' => e = .returned (.bool true) ∧ Below w.heap.size w w' := by
 have hfa := nJ ha
 have hfb := nJ hb
 have hza := j6 (bR a) 26
 have hzb := j6 (bR b) 26
 have zp : bR (bR b) = bR b := by unfold bR; omega
 have HNA := ak (rA a ha)
 have HNB := ak (rA b hb)
 have HRA := ak (oh (cY (bR a) 26) val (by omega) (by omega))
 have HRB := ak (oh (cY (bR b) 26) val (by omega) (by omega))
 have hof := yY (bR b) hfb.1 zp val (by omega)
 rw [wh _ hfb.1 hfb.2] at hof
 have HOF := ak hof
 have hlaw := fun h : bR a ≠ bR b => xW (bR a) (bR b) hfa.1 hfa.2 hfb.1 hfb.2 h val
 obtain ⟨ba, hba⟩ : ∃ x, j9 (cY (bR a) 26) val = x := ⟨_, rfl⟩
 obtain ⟨bb, hbb⟩ : ∃ x, j9 (cY (bR b) 26) val = x := ⟨_, rfl⟩
 rw [hba] at HRA hlaw
 rw [hbb] at HRB HOF hlaw
 obtain ⟨ka, hka⟩ : ∃ k : Int, (if ba = true then (2 : Int) else 0) = k := ⟨_, rfl⟩
 obtain ⟨kb, hkb⟩ : ∃ k : Int, (if bb = true then (2 : Int) else 0) = k := ⟨_, rfl⟩
 obtain ⟨er, her⟩ : ∃ k : Int, (if bb = true then (0 : Int) else 3) = k := ⟨_, rfl⟩
 rw [hka] at HRA
 rw [hkb] at HRB
 rw [her] at HOF
 clear hof zp
 obtain ⟨ta, hta⟩ : ∃ x, cY (bR a) 26 = x := ⟨_, rfl⟩
 obtain ⟨tb, htb⟩ : ∃ x, cY (bR b) 26 = x := ⟨_, rfl⟩
 rw [hta] at HNA HRA hza
 rw [htb] at HNB HRB HOF hzb
 have Uv : (9223372036854775807 < 6 + ta.size) = False := eq_false (by omega)
 have Uu : (9223372036854775807 < 6 + tb.size) = False := eq_false (by omega)
 obtain ⟨pa, hpa⟩ : ∃ x, (⟨#[98, 108, 111, 99, 107, 47]⟩ : ByteArray) ++ ta = x := ⟨_, rfl⟩
 obtain ⟨pb, hpb⟩ : ∃ x, (⟨#[98, 108, 111, 99, 107, 47]⟩ : ByteArray) ++ tb = x := ⟨_, rfl⟩
 rw [show gl ++ ta = pa from hpa] at HRA
 rw [show gl ++ tb = pb from hpb] at HRB HOF
 have ea : (a : Int) - (a : Int) % 64 = ((bR a : Nat) : Int) := by unfold bR; omega
 have eb : (b : Int) - (b : Int) % 64 = ((bR b : Nat) : Int) := by unfold bR; omega
 generalize bR a = va at ea hlaw hfa hta
 generalize bR b = vb at eb hlaw hfb htb
 clear hta htb hba hbb hza hzb
 have mq : (va < 4294967296 ∧ vb < 4294967296) := ⟨hfa.1, hfb.1⟩
 clear hfa hfb
 obtain ⟨iv, rfl⟩ := HS
 have hbig : decide (600 < (s0.size : Int)) = true := by simp; omega
 have Oa : decide ((s0.size : Int) > 600) = true := by simp; omega
 have WT : (600 ≤ (s0.size : Int)) = True := eq_true (by omega)
 cases ba with
 | true =>
  obtain rfl : ka = 2 := by rw [← hka]; rfl
  by_cases hne : va = vb
  ·have hq : ((va : Int) != (vb : Int)) = false := by rw [hne]; simp
   clear hlaw hka
   cases bb with
   | true =>
    obtain rfl : kb = 2 := by rw [← hkb]; rfl
    obtain rfl : er = 0 := by rw [← her]; rfl
    clear hkb her hne
    go_enter Tryz.func4, Tryz.ntmps4
    go_wp2_with (first
     | (go_at_call 14; refine (HNA.out _).mono ?_; rintro e W1 ⟨rfl, hb⟩; have HB := ak hb; clear hb HNA)
     | (go_at_call 13; refine (HRA.out _).mono ?_; rintro e W2 ⟨xa, sa, A1, n1, c1, A2, n2, c2, A3, n3, c3, rfl, hb⟩; replace HB := ak (HB.out.trans (hb.mono HB.out.size)); clear hb HRA)
     | (refine a6 (some 7) rfl rfl 52 rfl e7 ic ?_; intro g7 W3 cz hbx hb; have HX := ak hbx; have fU := ak (Nat.le_trans HB.out.size cz); replace HB := ak (HB.out.trans (hb.mono HB.out.size)); clear hb hbx cz)
     | (refine aM rfl 52 (.tmp 7) (.tmp 19) rfl g7 [.int .i64 2, .string ⟨#[]⟩, .int .u32 0, .int .u32 0, .int .i64 0, .bool false, .int .u32 xa, .string sa, .slice A1 n1 c1, .slice A2 n2 c2, .slice A3 n3 c3, .int .i64 0, .slice none 0 0, .bool false] rfl rfl 52 _ HX.out 14 (by kernel_rfl) rfl rfl (by intro u hu; simp at hu; rcases hu with rfl | rfl | rfl | rfl | rfl | rfl | rfl | rfl | rfl | rfl | rfl | rfl | rfl | rfl <;> rfl) ?_; intro W4 dj da; replace HX := ak dj; replace HB := ak (HB.out.grown da HB.out.size (by intro k hk; cases hk; exact fU.out)); clear dj da)
     | (go_at_call 14; refine (HNB.out _).mono ?_; rintro e W5 ⟨rfl, hb⟩; replace HX := ak (HX.out.below hb); replace HB := ak (HB.out.trans (hb.mono HB.out.size)); have fJ := HB.out.size; clear hb)
     | (go_at_call 7; refine (HOF.out _ _ _ (lu _ _ _ _) (Nat.le_refl _)).mono ?_; rintro e W6 ⟨⟨B1, m1, d1, B2, m2, d2, q1, q2, q3, rfl⟩, hb⟩; have dJ := ((aa (Below.refl _ _) _).trans (hb.mono (by simp))); replace HX := ak (HX.out.below dJ); replace HB := ak (HB.out.trans (dJ.mono HB.out.size)); clear hb dJ fJ)
     | (refine a6 (some 8) rfl rfl 30 rfl lG (fun _ => by kernel_rfl) ?_; intro g8 W7 b9 hbx hb; have HZ := ak hbx; have mW := ak (Nat.le_trans HB.out.size b9); have ke := ak (show g7 ≠ g8 by have := HX.out.lt; omega); replace HX := ak (HX.out.below hb); replace HB := ak (HB.out.trans (hb.mono HB.out.size)); clear hb hbx b9)
     | (refine aM rfl 30 (.tmp 8) (.tmp 28) rfl g8 (e8 (.slice B1 m1 d1) (.slice B2 m2 d2) (.map q1) (.map q2) (.map q3)) rfl rfl 30 _ HZ.out 5 (by kernel_rfl) rfl rfl (by intro u hu; simp [e8] at hu; rcases hu with rfl | rfl | rfl | rfl | rfl <;> rfl) ?_; intro W8 mN b9; replace HX := ak (HX.out.grown b9 (fun e => ke.out (Option.some.inj e))); replace HB := ak (HB.out.grown b9 HB.out.size (by intro k hk; cases hk; exact mW.out)); have iP := HX.out.cell 0 _ rfl; clear mN b9 HZ)
     | (go_at_call 13; refine (HRB.out _).mono ?_; rintro e W9 ⟨xb, sb, E1, e1, f1, E2, e2, f2, E3, e3, f3, rfl, hb⟩; replace HB := ak (HB.out.trans (hb.mono HB.out.size)); clear hb)
     | ((with_reducible refine aA (N := 56) rfl ?_); refine gS rfl 52 (.tmp 55) 0 rfl _ rfl (jn _ _ _ _ _ _ _ _ _ _ _ _ _) ?_)
     | (go_at_call 10; refine (fX _).mono ?_; rintro e mB ⟨rfl, hb⟩; replace HB := ak (HB.out.trans (hb.mono HB.out.size)); clear hb))
    go_ret
    exact ⟨rfl, HB.out⟩
   | false =>
    obtain rfl : kb = 0 := by rw [← hkb]; rfl
    obtain rfl : er = 3 := by rw [← her]; rfl
    clear hkb her hne
    go_enter Tryz.func4, Tryz.ntmps4
    go_wp2_with (first
     | (go_at_call 14; refine (HNA.out _).mono ?_; rintro e W1 ⟨rfl, hb⟩; have HB := ak hb; clear hb HNA)
     | (go_at_call 13; refine (HRA.out _).mono ?_; rintro e W2 ⟨xa, sa, A1, n1, c1, A2, n2, c2, A3, n3, c3, rfl, hb⟩; replace HB := ak (HB.out.trans (hb.mono HB.out.size)); clear hb HRA)
     | (refine a6 (some 7) rfl rfl 52 rfl e7 ic ?_; intro g7 W3 cz hbx hb; have HX := ak hbx; have fU := ak (Nat.le_trans HB.out.size cz); replace HB := ak (HB.out.trans (hb.mono HB.out.size)); clear hb hbx cz)
     | (refine aM rfl 52 (.tmp 7) (.tmp 19) rfl g7 [.int .i64 2, .string ⟨#[]⟩, .int .u32 0, .int .u32 0, .int .i64 0, .bool false, .int .u32 xa, .string sa, .slice A1 n1 c1, .slice A2 n2 c2, .slice A3 n3 c3, .int .i64 0, .slice none 0 0, .bool false] rfl rfl 52 _ HX.out 14 (by kernel_rfl) rfl rfl (by intro u hu; simp at hu; rcases hu with rfl | rfl | rfl | rfl | rfl | rfl | rfl | rfl | rfl | rfl | rfl | rfl | rfl | rfl <;> rfl) ?_; intro W4 dj da; replace HX := ak dj; replace HB := ak (HB.out.grown da HB.out.size (by intro k hk; cases hk; exact fU.out)); clear dj da)
     | (go_at_call 14; refine (HNB.out _).mono ?_; rintro e W5 ⟨rfl, hb⟩; replace HX := ak (HX.out.below hb); replace HB := ak (HB.out.trans (hb.mono HB.out.size)); have fJ := HB.out.size; clear hb)
     | (go_at_call 7; refine (HOF.out _ _ _ (lu _ _ _ _) (Nat.le_refl _)).mono ?_; rintro e W6 ⟨⟨B1, m1, d1, B2, m2, d2, q1, q2, q3, rfl⟩, hb⟩; have dJ := ((aa (Below.refl _ _) _).trans (hb.mono (by simp))); replace HX := ak (HX.out.below dJ); replace HB := ak (HB.out.trans (dJ.mono HB.out.size)); clear hb dJ fJ)
     | (refine a6 (some 8) rfl rfl 30 rfl lG (fun _ => by kernel_rfl) ?_; intro g8 W7 b9 hbx hb; have HZ := ak hbx; have mW := ak (Nat.le_trans HB.out.size b9); have ke := ak (show g7 ≠ g8 by have := HX.out.lt; omega); replace HX := ak (HX.out.below hb); replace HB := ak (HB.out.trans (hb.mono HB.out.size)); clear hb hbx b9)
     | (refine aM rfl 30 (.tmp 8) (.tmp 28) rfl g8 (e8 (.slice B1 m1 d1) (.slice B2 m2 d2) (.map q1) (.map q2) (.map q3)) rfl rfl 30 _ HZ.out 5 (by kernel_rfl) rfl rfl (by intro u hu; simp [e8] at hu; rcases hu with rfl | rfl | rfl | rfl | rfl <;> rfl) ?_; intro W8 mN b9; replace HX := ak (HX.out.grown b9 (fun e => ke.out (Option.some.inj e))); replace HB := ak (HB.out.grown b9 HB.out.size (by intro k hk; cases hk; exact mW.out)); have iP := HX.out.cell 0 _ rfl; clear mN b9 HZ)
     | (go_at_call 13; refine (HRB.out _).mono ?_; rintro e W9 ⟨xb, sb, E1, e1, f1, E2, e2, f2, E3, e3, f3, rfl, hb⟩; replace HB := ak (HB.out.trans (hb.mono HB.out.size)); clear hb)
     | ((with_reducible refine aA (N := 56) rfl ?_); refine gS rfl 52 (.tmp 55) 0 rfl _ rfl (jn _ _ _ _ _ _ _ _ _ _ _ _ _) ?_)
     | (go_at_call 10; refine (fX _).mono ?_; rintro e mB ⟨rfl, hb⟩; replace HB := ak (HB.out.trans (hb.mono HB.out.size)); clear hb))
    go_ret
    exact ⟨rfl, HB.out⟩
  ·have hq : ((va : Int) != (vb : Int)) = true := by rw [bne_iff_ne]; omega
   obtain rfl := hlaw hne rfl
   obtain rfl : kb = 0 := by rw [← hkb]; rfl
   obtain rfl : er = 3 := by rw [← her]; rfl
   clear hlaw hka hkb her hne
   go_enter Tryz.func4, Tryz.ntmps4
   go_wp2_with (first
    | (go_at_call 14; refine (HNA.out _).mono ?_; rintro e W1 ⟨rfl, hb⟩; have HB := ak hb; clear hb HNA)
    | (go_at_call 13; refine (HRA.out _).mono ?_; rintro e W2 ⟨xa, sa, A1, n1, c1, A2, n2, c2, A3, n3, c3, rfl, hb⟩; replace HB := ak (HB.out.trans (hb.mono HB.out.size)); clear hb HRA)
    | (refine a6 (some 7) rfl rfl 52 rfl e7 ic ?_; intro g7 W3 cz hbx hb; have HX := ak hbx; have fU := ak (Nat.le_trans HB.out.size cz); replace HB := ak (HB.out.trans (hb.mono HB.out.size)); clear hb hbx cz)
    | (refine aM rfl 52 (.tmp 7) (.tmp 19) rfl g7 [.int .i64 2, .string ⟨#[]⟩, .int .u32 0, .int .u32 0, .int .i64 0, .bool false, .int .u32 xa, .string sa, .slice A1 n1 c1, .slice A2 n2 c2, .slice A3 n3 c3, .int .i64 0, .slice none 0 0, .bool false] rfl rfl 52 _ HX.out 14 (by kernel_rfl) rfl rfl (by intro u hu; simp at hu; rcases hu with rfl | rfl | rfl | rfl | rfl | rfl | rfl | rfl | rfl | rfl | rfl | rfl | rfl | rfl <;> rfl) ?_; intro W4 dj da; replace HX := ak dj; replace HB := ak (HB.out.grown da HB.out.size (by intro k hk; cases hk; exact fU.out)); clear dj da)
    | (go_at_call 14; refine (HNB.out _).mono ?_; rintro e W5 ⟨rfl, hb⟩; replace HX := ak (HX.out.below hb); replace HB := ak (HB.out.trans (hb.mono HB.out.size)); have fJ := HB.out.size; clear hb)
    | (go_at_call 7; refine (HOF.out _ _ _ (lu _ _ _ _) (Nat.le_refl _)).mono ?_; rintro e W6 ⟨⟨B1, m1, d1, B2, m2, d2, q1, q2, q3, rfl⟩, hb⟩; have dJ := ((aa (Below.refl _ _) _).trans (hb.mono (by simp))); replace HX := ak (HX.out.below dJ); replace HB := ak (HB.out.trans (dJ.mono HB.out.size)); clear hb dJ fJ)
    | (refine a6 (some 8) rfl rfl 30 rfl lG (fun _ => by kernel_rfl) ?_; intro g8 W7 b9 hbx hb; have HZ := ak hbx; have mW := ak (Nat.le_trans HB.out.size b9); have ke := ak (show g7 ≠ g8 by have := HX.out.lt; omega); replace HX := ak (HX.out.below hb); replace HB := ak (HB.out.trans (hb.mono HB.out.size)); clear hb hbx b9)
    | (refine aM rfl 30 (.tmp 8) (.tmp 28) rfl g8 (e8 (.slice B1 m1 d1) (.slice B2 m2 d2) (.map q1) (.map q2) (.map q3)) rfl rfl 30 _ HZ.out 5 (by kernel_rfl) rfl rfl (by intro u hu; simp [e8] at hu; rcases hu with rfl | rfl | rfl | rfl | rfl <;> rfl) ?_; intro W8 mN b9; replace HX := ak (HX.out.grown b9 (fun e => ke.out (Option.some.inj e))); replace HB := ak (HB.out.grown b9 HB.out.size (by intro k hk; cases hk; exact mW.out)); have iP := HX.out.cell 0 _ rfl; clear mN b9 HZ)
    | (go_at_call 13; refine (HRB.out _).mono ?_; rintro e W9 ⟨xb, sb, E1, e1, f1, E2, e2, f2, E3, e3, f3, rfl, hb⟩; replace HB := ak (HB.out.trans (hb.mono HB.out.size)); clear hb)
    | ((with_reducible refine aA (N := 56) rfl ?_); refine gS rfl 52 (.tmp 55) 0 rfl _ rfl (jn _ _ _ _ _ _ _ _ _ _ _ _ _) ?_)
    | (go_at_call 10; refine (fX _).mono ?_; rintro e mB ⟨rfl, hb⟩; replace HB := ak (HB.out.trans (hb.mono HB.out.size)); clear hb))
   go_ret
   exact ⟨rfl, HB.out⟩
 | false =>
  obtain rfl : ka = 0 := by rw [← hka]; rfl
  clear hlaw hka
  cases bb with
  | true =>
   obtain rfl : kb = 2 := by rw [← hkb]; rfl
   obtain rfl : er = 0 := by rw [← her]; rfl
   clear hkb her
   go_enter Tryz.func4, Tryz.ntmps4
   go_wp2_with (first
    | (go_at_call 14; refine (HNA.out _).mono ?_; rintro e W1 ⟨rfl, hb⟩; have HB := ak hb; clear hb HNA)
    | (go_at_call 13; refine (HRA.out _).mono ?_; rintro e W2 ⟨xa, sa, A1, n1, c1, A2, n2, c2, A3, n3, c3, rfl, hb⟩; replace HB := ak (HB.out.trans (hb.mono HB.out.size)); clear hb HRA)
    | (refine a6 (some 7) rfl rfl 52 rfl e7 ic ?_; intro g7 W3 cz hbx hb; have HX := ak hbx; have fU := ak (Nat.le_trans HB.out.size cz); replace HB := ak (HB.out.trans (hb.mono HB.out.size)); clear hb hbx cz)
    | (refine aM rfl 52 (.tmp 7) (.tmp 19) rfl g7 [.int .i64 0, .string ⟨#[]⟩, .int .u32 0, .int .u32 0, .int .i64 0, .bool false, .int .u32 xa, .string sa, .slice A1 n1 c1, .slice A2 n2 c2, .slice A3 n3 c3, .int .i64 0, .slice none 0 0, .bool false] rfl rfl 52 _ HX.out 14 (by kernel_rfl) rfl rfl (by intro u hu; simp at hu; rcases hu with rfl | rfl | rfl | rfl | rfl | rfl | rfl | rfl | rfl | rfl | rfl | rfl | rfl | rfl <;> rfl) ?_; intro W4 dj da; replace HX := ak dj; replace HB := ak (HB.out.grown da HB.out.size (by intro k hk; cases hk; exact fU.out)); clear dj da)
    | (go_at_call 14; refine (HNB.out _).mono ?_; rintro e W5 ⟨rfl, hb⟩; replace HX := ak (HX.out.below hb); replace HB := ak (HB.out.trans (hb.mono HB.out.size)); have fJ := HB.out.size; clear hb)
    | (go_at_call 7; refine (HOF.out _ _ _ (lu _ _ _ _) (Nat.le_refl _)).mono ?_; rintro e W6 ⟨⟨B1, m1, d1, B2, m2, d2, q1, q2, q3, rfl⟩, hb⟩; have dJ := ((aa (Below.refl _ _) _).trans (hb.mono (by simp))); replace HX := ak (HX.out.below dJ); replace HB := ak (HB.out.trans (dJ.mono HB.out.size)); clear hb dJ fJ)
    | (refine a6 (some 8) rfl rfl 30 rfl lG (fun _ => by kernel_rfl) ?_; intro g8 W7 b9 hbx hb; have HZ := ak hbx; have mW := ak (Nat.le_trans HB.out.size b9); have ke := ak (show g7 ≠ g8 by have := HX.out.lt; omega); replace HX := ak (HX.out.below hb); replace HB := ak (HB.out.trans (hb.mono HB.out.size)); clear hb hbx b9)
    | (refine aM rfl 30 (.tmp 8) (.tmp 28) rfl g8 (e8 (.slice B1 m1 d1) (.slice B2 m2 d2) (.map q1) (.map q2) (.map q3)) rfl rfl 30 _ HZ.out 5 (by kernel_rfl) rfl rfl (by intro u hu; simp [e8] at hu; rcases hu with rfl | rfl | rfl | rfl | rfl <;> rfl) ?_; intro W8 mN b9; replace HX := ak (HX.out.grown b9 (fun e => ke.out (Option.some.inj e))); replace HB := ak (HB.out.grown b9 HB.out.size (by intro k hk; cases hk; exact mW.out)); have iP := HX.out.cell 0 _ rfl; clear mN b9 HZ)
    | (go_at_call 13; refine (HRB.out _).mono ?_; rintro e W9 ⟨xb, sb, E1, e1, f1, E2, e2, f2, E3, e3, f3, rfl, hb⟩; replace HB := ak (HB.out.trans (hb.mono HB.out.size)); clear hb)
    | ((with_reducible refine aA (N := 56) rfl ?_); refine gS rfl 52 (.tmp 55) 0 rfl _ rfl (jn _ _ _ _ _ _ _ _ _ _ _ _ _) ?_)
    | (go_at_call 10; refine (fX _).mono ?_; rintro e mB ⟨rfl, hb⟩; replace HB := ak (HB.out.trans (hb.mono HB.out.size)); clear hb))
   go_ret
   exact ⟨rfl, HB.out⟩
  | false =>
   obtain rfl : kb = 0 := by rw [← hkb]; rfl
   obtain rfl : er = 3 := by rw [← her]; rfl
   clear hkb her
   go_enter Tryz.func4, Tryz.ntmps4
   go_wp2_with (first
    | (go_at_call 14; refine (HNA.out _).mono ?_; rintro e W1 ⟨rfl, hb⟩; have HB := ak hb; clear hb HNA)
    | (go_at_call 13; refine (HRA.out _).mono ?_; rintro e W2 ⟨xa, sa, A1, n1, c1, A2, n2, c2, A3, n3, c3, rfl, hb⟩; replace HB := ak (HB.out.trans (hb.mono HB.out.size)); clear hb HRA)
    | (refine a6 (some 7) rfl rfl 52 rfl e7 ic ?_; intro g7 W3 cz hbx hb; have HX := ak hbx; have fU := ak (Nat.le_trans HB.out.size cz); replace HB := ak (HB.out.trans (hb.mono HB.out.size)); clear hb hbx cz)
    | (refine aM rfl 52 (.tmp 7) (.tmp 19) rfl g7 [.int .i64 0, .string ⟨#[]⟩, .int .u32 0, .int .u32 0, .int .i64 0, .bool false, .int .u32 xa, .string sa, .slice A1 n1 c1, .slice A2 n2 c2, .slice A3 n3 c3, .int .i64 0, .slice none 0 0, .bool false] rfl rfl 52 _ HX.out 14 (by kernel_rfl) rfl rfl (by intro u hu; simp at hu; rcases hu with rfl | rfl | rfl | rfl | rfl | rfl | rfl | rfl | rfl | rfl | rfl | rfl | rfl | rfl <;> rfl) ?_; intro W4 dj da; replace HX := ak dj; replace HB := ak (HB.out.grown da HB.out.size (by intro k hk; cases hk; exact fU.out)); clear dj da)
    | (go_at_call 14; refine (HNB.out _).mono ?_; rintro e W5 ⟨rfl, hb⟩; replace HX := ak (HX.out.below hb); replace HB := ak (HB.out.trans (hb.mono HB.out.size)); have fJ := HB.out.size; clear hb)
    | (go_at_call 7; refine (HOF.out _ _ _ (lu _ _ _ _) (Nat.le_refl _)).mono ?_; rintro e W6 ⟨⟨B1, m1, d1, B2, m2, d2, q1, q2, q3, rfl⟩, hb⟩; have dJ := ((aa (Below.refl _ _) _).trans (hb.mono (by simp))); replace HX := ak (HX.out.below dJ); replace HB := ak (HB.out.trans (dJ.mono HB.out.size)); clear hb dJ fJ)
    | (refine a6 (some 8) rfl rfl 30 rfl lG (fun _ => by kernel_rfl) ?_; intro g8 W7 b9 hbx hb; have HZ := ak hbx; have mW := ak (Nat.le_trans HB.out.size b9); have ke := ak (show g7 ≠ g8 by have := HX.out.lt; omega); replace HX := ak (HX.out.below hb); replace HB := ak (HB.out.trans (hb.mono HB.out.size)); clear hb hbx b9)
    | (refine aM rfl 30 (.tmp 8) (.tmp 28) rfl g8 (e8 (.slice B1 m1 d1) (.slice B2 m2 d2) (.map q1) (.map q2) (.map q3)) rfl rfl 30 _ HZ.out 5 (by kernel_rfl) rfl rfl (by intro u hu; simp [e8] at hu; rcases hu with rfl | rfl | rfl | rfl | rfl <;> rfl) ?_; intro W8 mN b9; replace HX := ak (HX.out.grown b9 (fun e => ke.out (Option.some.inj e))); replace HB := ak (HB.out.grown b9 HB.out.size (by intro k hk; cases hk; exact mW.out)); have iP := HX.out.cell 0 _ rfl; clear mN b9 HZ)
    | (go_at_call 13; refine (HRB.out _).mono ?_; rintro e W9 ⟨xb, sb, E1, e1, f1, E2, e2, f2, E3, e3, f3, rfl, hb⟩; replace HB := ak (HB.out.trans (hb.mono HB.out.size)); clear hb)
    | ((with_reducible refine aA (N := 56) rfl ?_); refine gS rfl 52 (.tmp 55) 0 rfl _ rfl (jn _ _ _ _ _ _ _ _ _ _ _ _ _) ?_)
    | (go_at_call 10; refine (fX _).mono ?_; rintro e mB ⟨rfl, hb⟩; replace HB := ak (HB.out.trans (hb.mono HB.out.size)); clear hb))
   go_ret
   exact ⟨rfl, HB.out⟩
end Go.Proofs.YtndddnglapkplaaGreatDoor.V
end

section
namespace Go.Proofs.YtndddnglapkplaaGreatDoor.V
theorem viewApart_walk (a0 : ByteArray) (a1 a2 : Int) (w : World) (h0 : a0.size ≤ 140737488351232) (w1 : (Lit.int .u32 a1).wf = true) (w2 : (Lit.int .u32 a2).wf = true) : Calls Tryz.prog 4 #[.string a0, .int .u32 a1, .int .u32 a2] w fun e w' => e = .returned (.bool true) ∧ Below w.heap.size w w' := by
 obtain ⟨n, rfl, hn⟩ := wf_u32 w1
 obtain ⟨m, rfl, hm⟩ := wf_u32 w2
 by_cases hb : a0.size > 600
 ·exact Fl a0 (a0.extract 0 600) ⟨hb, rfl⟩ (by rw [ByteArray.size_extract]; omega) n m hn hm w
 ·exact Bl a0 a0 ⟨by omega, rfl⟩ (by omega) n m hn hm w
end Go.Proofs.YtndddnglapkplaaGreatDoor.V
end

