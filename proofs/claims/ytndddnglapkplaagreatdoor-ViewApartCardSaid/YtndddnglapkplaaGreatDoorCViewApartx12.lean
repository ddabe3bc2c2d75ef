/- The law ViewApart for every input: texts of ours, put together (part 13 of 16). No further condition. -/
import Derived.Test.YtndddnglapkplaaGreatDoorCViewApartx2
import Derived.Test.YtndddnglapkplaaGreatDoorCViewApartx5
import Derived.Test.YtndddnglapkplaaGreatDoorCViewApartx3
import Derived.Test.YtndddnglapkplaaGreatDoorCViewApartx11
import Derived.Test.YtndddnglapkplaaGreatDoorCViewApartx9
import Derived.Outline
import Derived.Test.YtndddnglapkplaaGreatDoorCViewApartx10
import Derived.Test.YtndddnglapkplaaGreatDoorCViewApartw0
set_option linter.unusedVariables false
set_option linter.unusedSimpArgs false
open Go.RowKit Go.Proofs.YtndddnglapkplaaGreatDoorW.PrintWords Go.Proofs.YtndddnglapkplaaGreatDoorW.PrintLast Go.Proofs.YtndddnglapkplaaGreatDoorW.PrintMore Go.Proofs.YtndddnglapkplaaGreatDoor.Z
section
namespace Go.Proofs.YtndddnglapkplaaGreatDoor.V
attribute [local go_sem] bI bG bP bO bw bu bH bF
def bz.l0 : Nat → List (S145) → Int → Int → List (S145) → Option (Bool)
 | 0, _, _, _, _ => none
 | k + 1, x6, x7, x8, nB => if x8 < x7 then (if 0 ≤ x8 then (if x8 < (x6.length : Int) then ((fe.f ((aE x6 x8).f0)).bind fun iZ => (if iZ = ((aE x6 x8).f0) then (if ((aE x6 x8).f1) < 1 then (some false) else (if ((aE x6 x8).f1) > 65535 then (some false) else (if x8 > 0 then (if 0 ≤ (wrap64 (x8 - 1)) then (if (wrap64 (x8 - 1)) < (nB.length : Int) then (if ((aE nB (wrap64 (x8 - 1))).f0) ≥ ((aE x6 x8).f0) then (some false) else (bz.l0 k x6 x7 (wrap64 (x8 + 1)) nB)) else (none)) else (none)) else (bz.l0 k x6 x7 (wrap64 (x8 + 1)) nB)))) else (some false))) else (none)) else (none)) else (some (decide ((nB.length : Int) ≤ 4096)))
def bz.f (k : Nat) (aK : List (S145)) : Option (Bool) := bz.l0 k aK (aK.length : Int) 0 aK
def bz.T4 : Bool × List (List Nat × List Nat) := (true, [([], []), ([0], [0]), ([1], [1]), ([], []), ([3], [3]), ([2, 4], [2, 4]), ([5, 2], [5]), ([6], [6]), ([7, 6], [6, 7]), ([8, 6], [6, 8]), ([6, 9], [6, 9]), ([10, 6], [10]), ([11], [11]), ([12, 11], [11, 12]), ([13, 11], [11, 13]), ([11, 14], [11, 14]), ([15, 11], [15]), ([16], [16]), ([17, 16], [16, 17]), ([18, 16, 16], [16, 18]), ([19], [19]), ([20, 19], [19, 20]), ([19], [19]), ([22, 19], [19, 22]), ([21, 23, 19], [19, 21, 23]), ([24, 19], [19, 24]), ([25, 19], [19, 25]), ([19], [19]), ([27, 19], [19, 27]), ([26, 28, 19], [19, 26, 28]), ([19, 29, 16], [16, 19, 29]), ([16, 30], [16, 30])])
def bz.B4 : List Nat := [0, 1, 3, 0, 8, 31, 63, 127, 255, 511, 1023, 2047, 4095, 8191, 16383, 32767, 65535, 131071, 262143, 524287, 1048575, 2097151, 1048575, 5242879, 16777215, 33554431, 67108863, 1048575, 135266303, 536870911, 1073741823, 2147483647]
theorem bz.tab4 : dS .any (opsOf Tryz.f96 4) = bz.T4 := by kernel_rfl
theorem bz.bits4 : ew bz.T4.2 bz.B4 = true := by kernel_rfl
set_option maxHeartbeats 8000000 in
set_option maxRecDepth 100000 in
theorem bz.calls (k : Nat) (xl : Option Addr) (eQ : Nat) (aK : List (S145)) (r : Bool) (w : World) (Iq : Kd.C rC w xl aK.length aK) (Iw : aK.length ≤ eQ) (h : bz.f k aK = some r) :
  Calls Tryz.prog 96 #[.agg #[.slice xl aK.length eQ]] w fun e w' => e = .returned (.bool r) ∧ Below w.heap.size w w' := by
 have Xl := Tryz.underlying99
 have V0 := Tryz.underlying145
 have pX := ak Iq
 have Xg := ak Iw
 clear Iq Iw
 have HB := ak (Below.refl w.heap.size w)
 have H : (bz.l0 k aK (aK.length : Int) 0 aK) = some r := h
 clear h
 have H' := ak H
 clear H
 go_enter Tryz.func96, Tryz.ntmps96
 go_wp2_with (first | ((with_reducible refine aA (N := 1) rfl ?_); refine bl ?hg (N := 1) ?hd (cs := #[.slice xl aK.length eQ]) (t := 99) ?hr ?_; (case hd => rfl); (case hg => rfl); (case hr => first | (go_simp; done) | (go_simp; rfl)); intro bZ hg w2 hbox hb; have av := ak (au (by repeat (first | (with_reducible first | exact HB.out | apply aa | apply J | apply ab) | exact HB.out)) hb); have az := ak (hbox); have aR := ak ((by rw [hg]; exact (ay (by repeat (first | (with_reducible first | exact HB.out | apply aa | apply J | apply ab) | exact HB.out))) : w.heap.size ≤ bZ)); have bp := ak ((by rw [hg]; exact (ay (by repeat (first | (with_reducible first | exact HB.out | apply aa | apply J | apply ab) | exact HB.out))) : w.heap.size ≤ bZ)); clear HB; have HB := av; have aY := az; have T2 := aR; have cT := bp; clear av az aR bp; clear hb hbox hg; have Vj : w2.cell? ⟨bZ, 0, none⟩ = some (.slice xl aK.length eQ) := (aj aY.out 0).trans rfl; have U5 := ah aY.out 0))
 go_loopg [8] k (fun kq v8 w' => ∃ (aZ : Int), v8 = .int .i64 aZ ∧ Aside0 (bz.l0 kq aK (aK.length : Int) aZ aK = some r) ∧ Aside0 (kq ≤ k) ∧ Aside0 (w'.heap[bZ]? = some (.cells #[(.slice xl aK.length eQ)] 99 (0, 0))) ∧ Aside0 (Below w.heap.size w w'))
 case atStart => exact ⟨(0), (by first | rfl | (simp; done) | (simp [*]; done)), H', ⟨Nat.le_refl _⟩, ⟨by (with_reducible repeat (first | refine ae ?_ _ | refine ag ?_ | refine af ?_ _)); exact aY.out⟩, ⟨by repeat (first | (with_reducible first | exact HB.out | apply aa | apply J | apply ab | refine ai ?_ cT.out) | exact HB.out)⟩⟩
 case round =>
  clear H'
  obtain ⟨aZ, rfl, HA, cC, aY, HB⟩ := hrel
  cases gk with
  | zero => exact absurd HA.out (by simp [bz.l0])
  | succ k1 =>
   have H := HA.out
   clear HA
   simp only [bz.l0] at H
   by_cases c4 : aZ < (aK.length : Int)
   ·rw [if_pos c4] at H
    have fj : decide (aZ < (aK.length : Int)) = true := decide_eq_true c4
    clear c4
    by_cases c5 : 0 ≤ aZ
    ·rw [if_pos c5] at H
     have mb : decide (0 ≤ aZ) = true := decide_eq_true c5
     clear c5
     by_cases c6 : aZ < (aK.length : Int)
     ·rw [if_pos c6] at H
      have jq : decide (aZ < (aK.length : Int)) = true := decide_eq_true c6
      clear c6
      replace H := Option.bind_eq_some_iff.mp H
      obtain ⟨iZ, pY, H⟩ := H
      replace H : (if iZ = ((aE aK aZ).f0) then (if ((aE aK aZ).f1) < 1 then (some false) else (if ((aE aK aZ).f1) > 65535 then (some false) else (if aZ > 0 then (if 0 ≤ (wrap64 (aZ - 1)) then (if (wrap64 (aZ - 1)) < (aK.length : Int) then (if ((aE aK (wrap64 (aZ - 1))).f0) ≥ ((aE aK aZ).f0) then (some false) else (bz.l0 k1 aK (aK.length : Int) (wrap64 (aZ + 1)) aK)) else (none)) else (none)) else (bz.l0 k1 aK (aK.length : Int) (wrap64 (aZ + 1)) aK)))) else (some false)) = some r := H
      have A7 := ak pY
      clear pY
      by_cases c8 : iZ = ((aE aK aZ).f0)
      ·rw [if_pos c8] at H
       have ma : (iZ == ((aE aK aZ).f0)) = true := beq_iff_eq.mpr c8
       have rK : (iZ != ((aE aK aZ).f0)) = false := bne_eq_false_iff_eq.mpr c8
       clear c8
       by_cases c9 : ((aE aK aZ).f1) < 1
       ·rw [if_pos c9] at H
        have qh : decide (((aE aK aZ).f1) < 1) = true := decide_eq_true c9
        clear c9
        obtain rfl := Option.some.inj H
        have fb : 0 ≤ (aZ : Int) := of_decide_eq_true (by first | (with_reducible assumption) | assumption)
        have fa : aZ < (aK.length : Int) := of_decide_eq_true (by first | (with_reducible assumption) | assumption)
        obtain ⟨ck, k0, dv, du⟩ := mA pX.out aZ fb fa
        cases k0
        replace dv := (HB.out.cell (World.block_lt_of_cell? w _ dv)).trans dv
        replace du := (HB.out.cell (World.block_lt_of_cell? w _ du)).trans du
        replace fb := eq_true fb
        replace fa := eq_true fa
        try go_wp2_with (first | ((with_reducible refine aA (N := 4) rfl ?_); refine bl ?hg (N := 4) ?hd (cs := #[.int .u32 0, .int .i64 0]) (t := 145) ?hr ?_; (case hd => rfl); (case hg => rfl); (case hr => first | (go_simp; done) | (go_simp; rfl)); intro aN hg js hbox hb; have av := ak (aU (g := bZ) (o := .cells #[.slice (some ck) aK.length eQ] 99 (0, 0)) (by (with_reducible repeat (first | refine ae ?_ _ | refine ag ?_ | refine af ?_ _)); exact aY.out) hb); have az := ak (au (by repeat (first | (with_reducible first | exact HB.out | apply aa | apply J | apply ab | refine ai ?_ cT.out) | exact HB.out)) hb); have aR := ak (hbox); have bp := ak ((by rw [hg]; exact (ay (by repeat (first | (with_reducible first | exact HB.out | apply aa | apply J | apply ab | refine ai ?_ cT.out) | exact HB.out))) : w.heap.size ≤ aN)); have eh := ak ((by rw [hg]; exact (ay (by repeat (first | (with_reducible first | exact HB.out | apply aa | apply J | apply ab | refine ai ?_ cT.out) | exact HB.out))) : w.heap.size ≤ aN)); have eg := ak ((by rw [hg]; exact Nat.ne_of_lt (cJ (g := bZ) (o := .cells #[.slice (some ck) aK.length eQ] 99 (0, 0)) (by (with_reducible repeat (first | refine ae ?_ _ | refine ag ?_ | refine af ?_ _)); exact aY.out)) : bZ ≠ aN)); have ef := ak ((by rw [hg]; exact Nat.ne_of_gt (cJ (g := bZ) (o := .cells #[.slice (some ck) aK.length eQ] 99 (0, 0)) (by (with_reducible repeat (first | refine ae ?_ _ | refine ag ?_ | refine af ?_ _)); exact aY.out)) : aN ≠ bZ)); clear aY; clear HB; have aY := av; have HB := az; have aQ := aR; have rb := bp; have eB := eh; have cu := eg; have eR := ef; clear av az aR bp eh eg ef; clear hb hbox hg; have WG := eR.out; have Wm := cu.out; have wQ : js.cell? ⟨aN, 0, none⟩ = some (.int .u32 0) := (aj aQ.out 0).trans rfl; have wP : js.cell? ⟨aN, 1, none⟩ = some (.int .i64 0) := (aj aQ.out 1).trans rfl; have wM := ah aQ.out 0; have wL := ah aQ.out 1))
        have av : Aside0 (((js.setCell ⟨aN, 0, none⟩ (.int .u32 ((aE aK aZ).f0))).setCell ⟨aN, 1, none⟩ (.int .i64 ((aE aK aZ).f1))).heap[bZ]? = some (.cells #[.slice (some ck) aK.length eQ] 99 (0, 0))) := ⟨by (with_reducible repeat (first | refine ae ?_ _ | refine ag ?_ | refine af ?_ _)); refine cD ?_ cu.out _; (with_reducible repeat (first | refine ae ?_ _ | refine ag ?_ | refine af ?_ _)); refine cD ?_ cu.out _; (with_reducible repeat (first | refine ae ?_ _ | refine ag ?_ | refine af ?_ _)); exact aY.out⟩
        have az : Aside0 (((js.setCell ⟨aN, 0, none⟩ (.int .u32 ((aE aK aZ).f0))).setCell ⟨aN, 1, none⟩ (.int .i64 ((aE aK aZ).f1))).heap[aN]? = some (.cells #[.int .u32 ((aE aK aZ).f0), .int .i64 ((aE aK aZ).f1)] 145 (0, 0))) := ⟨by (with_reducible repeat (first | refine ae ?_ _ | refine ag ?_ | refine af ?_ _)); refine b7 (cs := #[.int .u32 ((aE aK aZ).f0), .int .i64 0]) ?_ 1 _ rfl; (with_reducible repeat (first | refine ae ?_ _ | refine ag ?_ | refine af ?_ _)); refine b7 (cs := #[.int .u32 0, .int .i64 0]) ?_ 0 _ rfl; (with_reducible repeat (first | refine ae ?_ _ | refine ag ?_ | refine af ?_ _)); exact aQ.out⟩
        have aR : Aside0 (Below w.heap.size w ((js.setCell ⟨aN, 0, none⟩ (.int .u32 ((aE aK aZ).f0))).setCell ⟨aN, 1, none⟩ (.int .i64 ((aE aK aZ).f1)))) := ⟨by repeat (first | (with_reducible first | exact HB.out | apply aa | apply J | apply ab | refine ai ?_ cT.out | refine ai ?_ eB.out) | exact HB.out)⟩
        (try clear aY)
        (try clear aQ)
        (try clear HB)
        generalize ((js.setCell ⟨aN, 0, none⟩ (.int .u32 ((aE aK aZ).f0))).setCell ⟨aN, 1, none⟩ (.int .i64 ((aE aK aZ).f1))) = oJ at av az aR ⊢
        have aY := av
        have aQ := az
        have HB := aR
        clear av az aR
        have av := ak (ag aY.out)
        have az := ak (ag aQ.out)
        have aR := ak (ab HB.out)
        clear aY
        clear aQ
        clear HB
        have aY := av
        have aQ := az
        have HB := aR
        clear av az aR
        refine ee (n := 32) (S := fun w' => w'.cell? ⟨aN, 0, none⟩ = some (.int .u32 ((aE aK aZ).f0)) ∧ w'.cell? ⟨aN, 1, none⟩ = some (.int .i64 ((aE aK aZ).f1))) (ds := []) #[false, false, false, false, false, false, false, false, false, false, false, false, false, false, false, false, false, false, false, false, false, false, false, false, false, false, false, false, false, false, false, false] (by kernel_rfl) rfl rfl ⟨(aj aQ.out 0).trans rfl, (aj aQ.out 1).trans rfl⟩ (fun hHeld => ?_); refine cV bz.tab4 bz.bits4 (fun an cj => ?_)
        generalize oJ.drew = xq at aY aQ HB hHeld ⊢
        refine pu 0 an.out ?_
        refine pu 3 an.out ?_
        refine take_ (i := 1) (N := some 14) (v := ?_) (a' := ?_) #[true, true, false, true, false, false, false, false, false, false, false, false, false, false, false, false, false, false, false, false, false, false, false, false, false, false, false, false, false, false, false, false] rfl rfl (cn an.out cj.out (by kernel_rfl)) (fun _ _ _ h => h) (Or.inl ⟨by rfl, ?_⟩) hHeld ?_ ?_
        rotate_left
        ·rintro w' ⟨s0, s1⟩
         go_simp
         with_reducible rfl
        rotate_left
        ·simp only [Act.put, List.setIfInBounds_toArray, List.set_cons_zero, List.set_cons_succ, cp, cL]
         rfl
        refine take_ (i := 4) (N := some 17) (v := ?_) (a' := ?_) #[true, true, false, true, true, false, false, false, false, false, false, false, false, false, false, false, false, false, false, false, false, false, false, false, false, false, false, false, false, false, false, false] rfl rfl (cn an.out cj.out (by kernel_rfl)) (fun _ _ _ h => h) (Or.inl ⟨by rfl, ?_⟩) hHeld ?_ ?_
        rotate_left
        ·rintro w' ⟨s0, s1⟩
         go_simp
         with_reducible rfl
        rotate_left
        ·simp only [Act.put, List.setIfInBounds_toArray, List.set_cons_zero, List.set_cons_succ, cp, cL]
         rfl
        refine on 2 an.out (fun K hK => ?_)
        refine lY Tryz.func117 (by kernel_rfl) rfl #[.int .u32 ((aE aK aZ).f0)] (by rfl) rfl rfl (by (try simp only [List.map_toArray, List.map_cons, List.map_nil]); first | done | rfl | (simp only [List.length_drop, List.length_take]; rfl)) ?_
        with_reducible refine (fe.calls ((aE aK aZ).f0) iZ _ A7.out).mono ?_
        rintro e mI ⟨rfl, hb⟩
        refine ⟨_, rfl, ?_⟩
        have av := ak (aU (g := bZ) (o := .cells #[.slice (some ck) aK.length eQ] 99 (0, 0)) (by (with_reducible repeat (first | refine ae ?_ _ | refine ag ?_ | refine af ?_ _)); exact aY.out) hb)
        have az := ak (aU (g := aN) (o := .cells #[.int .u32 ((aE aK aZ).f0), .int .i64 ((aE aK aZ).f1)] 145 (0, 0)) (by (with_reducible repeat (first | refine ae ?_ _ | refine ag ?_ | refine af ?_ _)); exact aQ.out) hb)
        have aR := ak (au (by repeat (first | (with_reducible first | exact HB.out | apply aa | apply J | apply ab | refine ai ?_ cT.out | refine ai ?_ eB.out) | exact HB.out)) hb)
        clear aY
        clear aQ
        clear HB
        have aY := av
        have aQ := az
        have HB := aR
        clear av az aR
        (try clear hb)
        (try clear bC)
        (try clear hk)
        (try clear hi)
        refine kn hK ⟨(aj aQ.out 0).trans rfl, (aj aQ.out 1).trans rfl⟩ (fun hHeld => ?_)
        clear hK K
        refine pu 5 an.out ?_
        refine pu 6 an.out ?_
        refine pu 7 an.out ?_
        refine take_ (i := 8) (N := some 21) (v := ?_) (a' := ?_) #[true, true, true, true, true, true, true, true, true, false, false, false, false, false, false, false, false, false, false, false, false, false, false, false, false, false, false, false, false, false, false, false] rfl rfl (cn an.out cj.out (by kernel_rfl)) (fun _ _ _ h => h) (Or.inl ⟨by rfl, ?_⟩) hHeld ?_ ?_
        rotate_left
        ·rintro w' ⟨s0, s1⟩
         go_simp
         with_reducible rfl
        rotate_left
        ·simp only [Act.put, List.setIfInBounds_toArray, List.set_cons_zero, List.set_cons_succ, cp, cL]
         rfl
        refine pu 9 an.out ?_
        refine pu 10 an.out ?_
        refine pu 11 an.out ?_
        refine po 12 an.out ?_
        refine po 13 an.out ?_
        refine po 14 an.out ?_
        refine pu 15 an.out ?_
        refine pu 16 an.out ?_
        refine po 17 an.out ?_
        refine po 18 an.out ?_
        refine po 19 an.out ?_
        refine po 20 an.out ?_
        refine po 21 an.out ?_
        refine po 22 an.out ?_
        refine po 23 an.out ?_
        refine po 24 an.out ?_
        refine po 25 an.out ?_
        refine po 26 an.out ?_
        refine po 27 an.out ?_
        refine po 28 an.out ?_
        refine po 29 an.out ?_
        refine po 30 an.out ?_
        refine pu 31 an.out ?_
        refine dn an.out ?_
        try go_wp2
        go_ret
        exact ⟨by first | rfl | (simp [aq, ao] <;> rfl) | (simp [*, aq, ao] <;> rfl), by repeat (first | (with_reducible first | exact HB.out | apply aa | apply J | apply ab | refine ai ?_ cT.out | refine ai ?_ eB.out) | exact HB.out)⟩
       ·rw [if_neg c9] at H
        have qh : decide (((aE aK aZ).f1) < 1) = false := decide_eq_false c9
        clear c9
        by_cases mS : ((aE aK aZ).f1) > 65535
        ·rw [if_pos mS] at H
         have yv : decide (65535 < ((aE aK aZ).f1)) = true := decide_eq_true mS
         clear mS
         obtain rfl := Option.some.inj H
         have fb : 0 ≤ (aZ : Int) := of_decide_eq_true (by first | (with_reducible assumption) | assumption)
         have fa : aZ < (aK.length : Int) := of_decide_eq_true (by first | (with_reducible assumption) | assumption)
         obtain ⟨ck, k0, dv, du⟩ := mA pX.out aZ fb fa
         cases k0
         replace dv := (HB.out.cell (World.block_lt_of_cell? w _ dv)).trans dv
         replace du := (HB.out.cell (World.block_lt_of_cell? w _ du)).trans du
         replace fb := eq_true fb
         replace fa := eq_true fa
         try go_wp2_with (first | ((with_reducible refine aA (N := 4) rfl ?_); refine bl ?hg (N := 4) ?hd (cs := #[.int .u32 0, .int .i64 0]) (t := 145) ?hr ?_; (case hd => rfl); (case hg => rfl); (case hr => first | (go_simp; done) | (go_simp; rfl)); intro aN hg u2 hbox hb; have av := ak (aU (g := bZ) (o := .cells #[.slice (some ck) aK.length eQ] 99 (0, 0)) (by (with_reducible repeat (first | refine ae ?_ _ | refine ag ?_ | refine af ?_ _)); exact aY.out) hb); have az := ak (au (by repeat (first | (with_reducible first | exact HB.out | apply aa | apply J | apply ab | refine ai ?_ cT.out) | exact HB.out)) hb); have aR := ak (hbox); have bp := ak ((by rw [hg]; exact (ay (by repeat (first | (with_reducible first | exact HB.out | apply aa | apply J | apply ab | refine ai ?_ cT.out) | exact HB.out))) : w.heap.size ≤ aN)); have eh := ak ((by rw [hg]; exact (ay (by repeat (first | (with_reducible first | exact HB.out | apply aa | apply J | apply ab | refine ai ?_ cT.out) | exact HB.out))) : w.heap.size ≤ aN)); have eg := ak ((by rw [hg]; exact Nat.ne_of_lt (cJ (g := bZ) (o := .cells #[.slice (some ck) aK.length eQ] 99 (0, 0)) (by (with_reducible repeat (first | refine ae ?_ _ | refine ag ?_ | refine af ?_ _)); exact aY.out)) : bZ ≠ aN)); have ef := ak ((by rw [hg]; exact Nat.ne_of_gt (cJ (g := bZ) (o := .cells #[.slice (some ck) aK.length eQ] 99 (0, 0)) (by (with_reducible repeat (first | refine ae ?_ _ | refine ag ?_ | refine af ?_ _)); exact aY.out)) : aN ≠ bZ)); clear aY; clear HB; have aY := av; have HB := az; have aQ := aR; have rb := bp; have eB := eh; have cu := eg; have eR := ef; clear av az aR bp eh eg ef; clear hb hbox hg; have WC := eR.out; have Wj := cu.out; have TJ : u2.cell? ⟨aN, 0, none⟩ = some (.int .u32 0) := (aj aQ.out 0).trans rfl; have TI : u2.cell? ⟨aN, 1, none⟩ = some (.int .i64 0) := (aj aQ.out 1).trans rfl; have Sh := ah aQ.out 0; have Sg := ah aQ.out 1))
         have av : Aside0 (((u2.setCell ⟨aN, 0, none⟩ (.int .u32 ((aE aK aZ).f0))).setCell ⟨aN, 1, none⟩ (.int .i64 ((aE aK aZ).f1))).heap[bZ]? = some (.cells #[.slice (some ck) aK.length eQ] 99 (0, 0))) := ⟨by (with_reducible repeat (first | refine ae ?_ _ | refine ag ?_ | refine af ?_ _)); refine cD ?_ cu.out _; (with_reducible repeat (first | refine ae ?_ _ | refine ag ?_ | refine af ?_ _)); refine cD ?_ cu.out _; (with_reducible repeat (first | refine ae ?_ _ | refine ag ?_ | refine af ?_ _)); exact aY.out⟩
         have az : Aside0 (((u2.setCell ⟨aN, 0, none⟩ (.int .u32 ((aE aK aZ).f0))).setCell ⟨aN, 1, none⟩ (.int .i64 ((aE aK aZ).f1))).heap[aN]? = some (.cells #[.int .u32 ((aE aK aZ).f0), .int .i64 ((aE aK aZ).f1)] 145 (0, 0))) := ⟨by (with_reducible repeat (first | refine ae ?_ _ | refine ag ?_ | refine af ?_ _)); refine b7 (cs := #[.int .u32 ((aE aK aZ).f0), .int .i64 0]) ?_ 1 _ rfl; (with_reducible repeat (first | refine ae ?_ _ | refine ag ?_ | refine af ?_ _)); refine b7 (cs := #[.int .u32 0, .int .i64 0]) ?_ 0 _ rfl; (with_reducible repeat (first | refine ae ?_ _ | refine ag ?_ | refine af ?_ _)); exact aQ.out⟩
         have aR : Aside0 (Below w.heap.size w ((u2.setCell ⟨aN, 0, none⟩ (.int .u32 ((aE aK aZ).f0))).setCell ⟨aN, 1, none⟩ (.int .i64 ((aE aK aZ).f1)))) := ⟨by repeat (first | (with_reducible first | exact HB.out | apply aa | apply J | apply ab | refine ai ?_ cT.out | refine ai ?_ eB.out) | exact HB.out)⟩
         (try clear aY)
         (try clear aQ)
         (try clear HB)
         generalize ((u2.setCell ⟨aN, 0, none⟩ (.int .u32 ((aE aK aZ).f0))).setCell ⟨aN, 1, none⟩ (.int .i64 ((aE aK aZ).f1))) = Bu at av az aR ⊢
         have aY := av
         have aQ := az
         have HB := aR
         clear av az aR
         have av := ak (ag aY.out)
         have az := ak (ag aQ.out)
         have aR := ak (ab HB.out)
         clear aY
         clear aQ
         clear HB
         have aY := av
         have aQ := az
         have HB := aR
         clear av az aR
         refine ee (n := 32) (S := fun w' => w'.cell? ⟨aN, 0, none⟩ = some (.int .u32 ((aE aK aZ).f0)) ∧ w'.cell? ⟨aN, 1, none⟩ = some (.int .i64 ((aE aK aZ).f1))) (ds := []) #[false, false, false, false, false, false, false, false, false, false, false, false, false, false, false, false, false, false, false, false, false, false, false, false, false, false, false, false, false, false, false, false] (by kernel_rfl) rfl rfl ⟨(aj aQ.out 0).trans rfl, (aj aQ.out 1).trans rfl⟩ (fun hHeld => ?_); refine cV bz.tab4 bz.bits4 (fun an cj => ?_)
         generalize Bu.drew = xo at aY aQ HB hHeld ⊢
         refine pu 0 an.out ?_
         refine pu 3 an.out ?_
         refine take_ (i := 1) (N := some 14) (v := ?_) (a' := ?_) #[true, true, false, true, false, false, false, false, false, false, false, false, false, false, false, false, false, false, false, false, false, false, false, false, false, false, false, false, false, false, false, false] rfl rfl (cn an.out cj.out (by kernel_rfl)) (fun _ _ _ h => h) (Or.inl ⟨by rfl, ?_⟩) hHeld ?_ ?_
         rotate_left
         ·rintro w' ⟨s0, s1⟩
          go_simp
          with_reducible rfl
         rotate_left
         ·simp only [Act.put, List.setIfInBounds_toArray, List.set_cons_zero, List.set_cons_succ, cp, cL]
          rfl
         refine take_ (i := 4) (N := some 17) (v := ?_) (a' := ?_) #[true, true, false, true, true, false, false, false, false, false, false, false, false, false, false, false, false, false, false, false, false, false, false, false, false, false, false, false, false, false, false, false] rfl rfl (cn an.out cj.out (by kernel_rfl)) (fun _ _ _ h => h) (Or.inl ⟨by rfl, ?_⟩) hHeld ?_ ?_
         rotate_left
         ·rintro w' ⟨s0, s1⟩
          go_simp
          with_reducible rfl
         rotate_left
         ·simp only [Act.put, List.setIfInBounds_toArray, List.set_cons_zero, List.set_cons_succ, cp, cL]
          rfl
         refine on 2 an.out (fun K hK => ?_)
         refine lY Tryz.func117 (by kernel_rfl) rfl #[.int .u32 ((aE aK aZ).f0)] (by rfl) rfl rfl (by (try simp only [List.map_toArray, List.map_cons, List.map_nil]); first | done | rfl | (simp only [List.length_drop, List.length_take]; rfl)) ?_
         with_reducible refine (fe.calls ((aE aK aZ).f0) iZ _ A7.out).mono ?_
         rintro e XL ⟨rfl, hb⟩
         refine ⟨_, rfl, ?_⟩
         have av := ak (aU (g := bZ) (o := .cells #[.slice (some ck) aK.length eQ] 99 (0, 0)) (by (with_reducible repeat (first | refine ae ?_ _ | refine ag ?_ | refine af ?_ _)); exact aY.out) hb)
         have az := ak (aU (g := aN) (o := .cells #[.int .u32 ((aE aK aZ).f0), .int .i64 ((aE aK aZ).f1)] 145 (0, 0)) (by (with_reducible repeat (first | refine ae ?_ _ | refine ag ?_ | refine af ?_ _)); exact aQ.out) hb)
         have aR := ak (au (by repeat (first | (with_reducible first | exact HB.out | apply aa | apply J | apply ab | refine ai ?_ cT.out | refine ai ?_ eB.out) | exact HB.out)) hb)
         clear aY
         clear aQ
         clear HB
         have aY := av
         have aQ := az
         have HB := aR
         clear av az aR
         (try clear hb)
         (try clear bC)
         (try clear hk)
         (try clear hi)
         refine kn hK ⟨(aj aQ.out 0).trans rfl, (aj aQ.out 1).trans rfl⟩ (fun hHeld => ?_)
         clear hK K
         refine pu 5 an.out ?_
         refine pu 6 an.out ?_
         refine pu 7 an.out ?_
         refine take_ (i := 8) (N := some 21) (v := ?_) (a' := ?_) #[true, true, true, true, true, true, true, true, true, false, false, false, false, false, false, false, false, false, false, false, false, false, false, false, false, false, false, false, false, false, false, false] rfl rfl (cn an.out cj.out (by kernel_rfl)) (fun _ _ _ h => h) (Or.inl ⟨by rfl, ?_⟩) hHeld ?_ ?_
         rotate_left
         ·rintro w' ⟨s0, s1⟩
          go_simp
          with_reducible rfl
         rotate_left
         ·simp only [Act.put, List.setIfInBounds_toArray, List.set_cons_zero, List.set_cons_succ, cp, cL]
          rfl
         refine pu 9 an.out ?_
         refine pu 10 an.out ?_
         refine pu 11 an.out ?_
         refine pu 12 an.out ?_
         refine take_ (i := 13) (N := some 26) (v := ?_) (a' := ?_) #[true, true, true, true, true, true, true, true, true, true, true, true, true, true, false, false, false, false, false, false, false, false, false, false, false, false, false, false, false, false, false, false] rfl rfl (cn an.out cj.out (by kernel_rfl)) (fun _ _ _ h => h) (Or.inl ⟨by rfl, ?_⟩) hHeld ?_ ?_
         rotate_left
         ·rintro w' ⟨s0, s1⟩
          go_simp
          with_reducible rfl
         rotate_left
         ·simp only [Act.put, List.setIfInBounds_toArray, List.set_cons_zero, List.set_cons_succ, cp, cL]
          rfl
         refine pu 14 an.out ?_
         refine pu 15 an.out ?_
         refine pu 16 an.out ?_
         refine po 17 an.out ?_
         refine po 18 an.out ?_
         refine po 19 an.out ?_
         refine po 20 an.out ?_
         refine po 21 an.out ?_
         refine po 22 an.out ?_
         refine po 23 an.out ?_
         refine po 24 an.out ?_
         refine po 25 an.out ?_
         refine po 26 an.out ?_
         refine po 27 an.out ?_
         refine po 28 an.out ?_
         refine po 29 an.out ?_
         refine po 30 an.out ?_
         refine pu 31 an.out ?_
         refine dn an.out ?_
         try go_wp2
         go_ret
         exact ⟨by first | rfl | (simp [aq, ao] <;> rfl) | (simp [*, aq, ao] <;> rfl), by repeat (first | (with_reducible first | exact HB.out | apply aa | apply J | apply ab | refine ai ?_ cT.out | refine ai ?_ eB.out) | exact HB.out)⟩
        ·rw [if_neg mS] at H
         have yv : decide (65535 < ((aE aK aZ).f1)) = false := decide_eq_false mS
         clear mS
         by_cases pQ : aZ > 0
         ·rw [if_pos pQ] at H
          have Dj : decide (0 < aZ) = true := decide_eq_true pQ
          clear pQ
          obtain ⟨gL, vP⟩ : ∃ j_ : Int, (wrap64 (aZ - 1)) = j_ := ⟨_, rfl⟩
          replace H : (if 0 ≤ (gL) then (if (gL) < (aK.length : Int) then (if ((aE aK (gL)).f0) ≥ ((aE aK aZ).f0) then (some false) else (bz.l0 k1 aK (aK.length : Int) (wrap64 (aZ + 1)) aK)) else (none)) else (none)) = some r := by first | (rw [vP] at H; exact H) | (simp only [vP] at H ⊢; exact H)
          (try rw [vP] at A7)
          have US : (IntKind.i64.wrap (aZ - 1)) = gL := (cp _).trans vP
          by_cases sX : 0 ≤ (gL)
          ·rw [if_pos sX] at H
           have IU : decide (0 ≤ (gL)) = true := decide_eq_true sX
           clear sX
           by_cases sW : (gL) < (aK.length : Int)
           ·rw [if_pos sW] at H
            have IT : decide ((gL) < (aK.length : Int)) = true := decide_eq_true sW
            clear sW
            by_cases qP : ((aE aK (gL)).f0) ≥ ((aE aK aZ).f0)
            ·rw [if_pos qP] at H
             have Di : decide (((aE aK aZ).f0) ≤ ((aE aK (gL)).f0)) = true := decide_eq_true qP
             clear qP
             obtain rfl := Option.some.inj H
             have fb : 0 ≤ (aZ : Int) := of_decide_eq_true (by first | (with_reducible assumption) | assumption)
             have fa : aZ < (aK.length : Int) := of_decide_eq_true (by first | (with_reducible assumption) | assumption)
             obtain ⟨ck, k0, dv, du⟩ := mA pX.out aZ fb fa
             cases k0
             replace dv := (HB.out.cell (World.block_lt_of_cell? w _ dv)).trans dv
             replace du := (HB.out.cell (World.block_lt_of_cell? w _ du)).trans du
             replace fb := eq_true fb
             replace fa := eq_true fa
             try go_wp2_with (first | ((with_reducible refine aA (N := 4) rfl ?_); refine bl ?hg (N := 4) ?hd (cs := #[.int .u32 0, .int .i64 0]) (t := 145) ?hr ?_; (case hd => rfl); (case hg => rfl); (case hr => first | (go_simp; done) | (go_simp; rfl)); intro aN hg tT hbox hb; have av := ak (aU (g := bZ) (o := .cells #[.slice (some ck) aK.length eQ] 99 (0, 0)) (by (with_reducible repeat (first | refine ae ?_ _ | refine ag ?_ | refine af ?_ _)); exact aY.out) hb); have az := ak (au (by repeat (first | (with_reducible first | exact HB.out | apply aa | apply J | apply ab | refine ai ?_ cT.out) | exact HB.out)) hb); have aR := ak (hbox); have bp := ak ((by rw [hg]; exact (ay (by repeat (first | (with_reducible first | exact HB.out | apply aa | apply J | apply ab | refine ai ?_ cT.out) | exact HB.out))) : w.heap.size ≤ aN)); have eh := ak ((by rw [hg]; exact (ay (by repeat (first | (with_reducible first | exact HB.out | apply aa | apply J | apply ab | refine ai ?_ cT.out) | exact HB.out))) : w.heap.size ≤ aN)); have eg := ak ((by rw [hg]; exact Nat.ne_of_lt (cJ (g := bZ) (o := .cells #[.slice (some ck) aK.length eQ] 99 (0, 0)) (by (with_reducible repeat (first | refine ae ?_ _ | refine ag ?_ | refine af ?_ _)); exact aY.out)) : bZ ≠ aN)); have ef := ak ((by rw [hg]; exact Nat.ne_of_gt (cJ (g := bZ) (o := .cells #[.slice (some ck) aK.length eQ] 99 (0, 0)) (by (with_reducible repeat (first | refine ae ?_ _ | refine ag ?_ | refine af ?_ _)); exact aY.out)) : aN ≠ bZ)); clear aY; clear HB; have aY := av; have HB := az; have aQ := aR; have rb := bp; have eB := eh; have cu := eg; have eR := ef; clear av az aR bp eh eg ef; clear hb hbox hg; have N6 := eR.out; have N2 := cu.out; have BN : tT.cell? ⟨aN, 0, none⟩ = some (.int .u32 0) := (aj aQ.out 0).trans rfl; have BM : tT.cell? ⟨aN, 1, none⟩ = some (.int .i64 0) := (aj aQ.out 1).trans rfl; have BH := ah aQ.out 0; have BG := ah aQ.out 1))
             have av : Aside0 (((tT.setCell ⟨aN, 0, none⟩ (.int .u32 ((aE aK aZ).f0))).setCell ⟨aN, 1, none⟩ (.int .i64 ((aE aK aZ).f1))).heap[bZ]? = some (.cells #[.slice (some ck) aK.length eQ] 99 (0, 0))) := ⟨by (with_reducible repeat (first | refine ae ?_ _ | refine ag ?_ | refine af ?_ _)); refine cD ?_ cu.out _; (with_reducible repeat (first | refine ae ?_ _ | refine ag ?_ | refine af ?_ _)); refine cD ?_ cu.out _; (with_reducible repeat (first | refine ae ?_ _ | refine ag ?_ | refine af ?_ _)); exact aY.out⟩
             have az : Aside0 (((tT.setCell ⟨aN, 0, none⟩ (.int .u32 ((aE aK aZ).f0))).setCell ⟨aN, 1, none⟩ (.int .i64 ((aE aK aZ).f1))).heap[aN]? = some (.cells #[.int .u32 ((aE aK aZ).f0), .int .i64 ((aE aK aZ).f1)] 145 (0, 0))) := ⟨by (with_reducible repeat (first | refine ae ?_ _ | refine ag ?_ | refine af ?_ _)); refine b7 (cs := #[.int .u32 ((aE aK aZ).f0), .int .i64 0]) ?_ 1 _ rfl; (with_reducible repeat (first | refine ae ?_ _ | refine ag ?_ | refine af ?_ _)); refine b7 (cs := #[.int .u32 0, .int .i64 0]) ?_ 0 _ rfl; (with_reducible repeat (first | refine ae ?_ _ | refine ag ?_ | refine af ?_ _)); exact aQ.out⟩
             have aR : Aside0 (Below w.heap.size w ((tT.setCell ⟨aN, 0, none⟩ (.int .u32 ((aE aK aZ).f0))).setCell ⟨aN, 1, none⟩ (.int .i64 ((aE aK aZ).f1)))) := ⟨by repeat (first | (with_reducible first | exact HB.out | apply aa | apply J | apply ab | refine ai ?_ cT.out | refine ai ?_ eB.out) | exact HB.out)⟩
             (try clear aY)
             (try clear aQ)
             (try clear HB)
             generalize ((tT.setCell ⟨aN, 0, none⟩ (.int .u32 ((aE aK aZ).f0))).setCell ⟨aN, 1, none⟩ (.int .i64 ((aE aK aZ).f1))) = Hs at av az aR ⊢
             have aY := av
             have aQ := az
             have HB := aR
             clear av az aR
             have av := ak (ag aY.out)
             have az := ak (ag aQ.out)
             have aR := ak (ab HB.out)
             clear aY
             clear aQ
             clear HB
             have aY := av
             have aQ := az
             have HB := aR
             clear av az aR
             have oQ : 0 ≤ ((gL) : Int) := of_decide_eq_true (by first | (with_reducible assumption) | assumption)
             have oN : (gL) < (aK.length : Int) := of_decide_eq_true (by first | (with_reducible assumption) | assumption)
             obtain ⟨xc, zK, gV, gU⟩ := mA pX.out (gL) oQ oN
             have jh := gU
             have ji := gV
             obtain rfl : ck = xc := (by injection zK)
             replace gV := (HB.out.cell (World.block_lt_of_cell? w _ gV)).trans gV
             replace gU := (HB.out.cell (World.block_lt_of_cell? w _ gU)).trans gU
             replace oQ := eq_true oQ
             replace oN := eq_true oN
             refine ee (n := 32) (S := fun w' => w'.cell? ⟨aN, 0, none⟩ = some (.int .u32 ((aE aK aZ).f0)) ∧ w'.cell? ⟨aN, 1, none⟩ = some (.int .i64 ((aE aK aZ).f1)) ∧ w'.cell? ⟨bZ, 0, none⟩ = some (.slice (some ck) aK.length eQ) ∧ w'.cell? (ck.add (((gL)).toNat * 2)) = some (.int .u32 ((aE aK (gL)).f0)) ∧ w'.cell? ⟨(ck.add (((gL)).toNat * 2)).block, (ck.add (((gL)).toNat * 2)).off + 1, none⟩ = some (.int .i64 ((aE aK (gL)).f1))) (ds := []) #[false, false, false, false, false, false, false, false, false, false, false, false, false, false, false, false, false, false, false, false, false, false, false, false, false, false, false, false, false, false, false, false] (by kernel_rfl) rfl rfl ⟨(aj aQ.out 0).trans rfl, (aj aQ.out 1).trans rfl, (aj aY.out 0).trans rfl, ((HB.out.cell (World.block_lt_of_cell? w _ ji)).trans ji), ((HB.out.cell (World.block_lt_of_cell? w _ jh)).trans jh)⟩ (fun hHeld => ?_); refine cV bz.tab4 bz.bits4 (fun an cj => ?_)
             generalize Hs.drew = XJ at aY aQ HB gV gU hHeld ⊢
             refine pu 0 an.out ?_
             refine pu 3 an.out ?_
             refine take_ (i := 1) (N := some 14) (v := ?_) (a' := ?_) #[true, true, false, true, false, false, false, false, false, false, false, false, false, false, false, false, false, false, false, false, false, false, false, false, false, false, false, false, false, false, false, false] rfl rfl (cn an.out cj.out (by kernel_rfl)) (fun _ _ _ h => h) (Or.inl ⟨by rfl, ?_⟩) hHeld ?_ ?_
             rotate_left
             ·rintro w' ⟨s0, s1, s2, s3, s4⟩
              go_simp
              with_reducible rfl
             rotate_left
             ·simp only [Act.put, List.setIfInBounds_toArray, List.set_cons_zero, List.set_cons_succ, cp, cL]
              rfl
             refine take_ (i := 4) (N := some 17) (v := ?_) (a' := ?_) #[true, true, false, true, true, false, false, false, false, false, false, false, false, false, false, false, false, false, false, false, false, false, false, false, false, false, false, false, false, false, false, false] rfl rfl (cn an.out cj.out (by kernel_rfl)) (fun _ _ _ h => h) (Or.inl ⟨by rfl, ?_⟩) hHeld ?_ ?_
             rotate_left
             ·rintro w' ⟨s0, s1, s2, s3, s4⟩
              go_simp
              with_reducible rfl
             rotate_left
             ·simp only [Act.put, List.setIfInBounds_toArray, List.set_cons_zero, List.set_cons_succ, cp, cL]
              rfl
             refine on 2 an.out (fun K hK => ?_)
             refine lY Tryz.func117 (by kernel_rfl) rfl #[.int .u32 ((aE aK aZ).f0)] (by rfl) rfl rfl (by (try simp only [List.map_toArray, List.map_cons, List.map_nil]); first | done | rfl | (simp only [List.length_drop, List.length_take]; rfl)) ?_
             with_reducible refine (fe.calls ((aE aK aZ).f0) iZ _ A7.out).mono ?_
             rintro e Um ⟨rfl, hb⟩
             refine ⟨_, rfl, ?_⟩
             have av := ak (aU (g := bZ) (o := .cells #[.slice (some ck) aK.length eQ] 99 (0, 0)) (by (with_reducible repeat (first | refine ae ?_ _ | refine ag ?_ | refine af ?_ _)); exact aY.out) hb)
             have az := ak (aU (g := aN) (o := .cells #[.int .u32 ((aE aK aZ).f0), .int .i64 ((aE aK aZ).f1)] 145 (0, 0)) (by (with_reducible repeat (first | refine ae ?_ _ | refine ag ?_ | refine af ?_ _)); exact aQ.out) hb)
             have aR := ak (au (by repeat (first | (with_reducible first | exact HB.out | apply aa | apply J | apply ab | refine ai ?_ cT.out | refine ai ?_ eB.out) | exact HB.out)) hb)
             clear aY
             clear aQ
             clear HB
             have aY := av
             have aQ := az
             have HB := aR
             clear av az aR
             (try clear hb)
             (try clear bC)
             (try clear hk)
             (try clear hi)
             refine kn hK ⟨(aj aQ.out 0).trans rfl, (aj aQ.out 1).trans rfl, (aj aY.out 0).trans rfl, ((HB.out.cell (World.block_lt_of_cell? w _ ji)).trans ji), ((HB.out.cell (World.block_lt_of_cell? w _ jh)).trans jh)⟩ (fun hHeld => ?_)
             clear hK K
             refine pu 5 an.out ?_
             refine pu 6 an.out ?_
             refine pu 7 an.out ?_
             refine take_ (i := 8) (N := some 21) (v := ?_) (a' := ?_) #[true, true, true, true, true, true, true, true, true, false, false, false, false, false, false, false, false, false, false, false, false, false, false, false, false, false, false, false, false, false, false, false] rfl rfl (cn an.out cj.out (by kernel_rfl)) (fun _ _ _ h => h) (Or.inl ⟨by rfl, ?_⟩) hHeld ?_ ?_
             rotate_left
             ·rintro w' ⟨s0, s1, s2, s3, s4⟩
              go_simp
              with_reducible rfl
             rotate_left
             ·simp only [Act.put, List.setIfInBounds_toArray, List.set_cons_zero, List.set_cons_succ, cp, cL]
              rfl
             refine pu 9 an.out ?_
             refine pu 10 an.out ?_
             refine pu 11 an.out ?_
             refine pu 12 an.out ?_
             refine take_ (i := 13) (N := some 26) (v := ?_) (a' := ?_) #[true, true, true, true, true, true, true, true, true, true, true, true, true, true, false, false, false, false, false, false, false, false, false, false, false, false, false, false, false, false, false, false] rfl rfl (cn an.out cj.out (by kernel_rfl)) (fun _ _ _ h => h) (Or.inl ⟨by rfl, ?_⟩) hHeld ?_ ?_
             rotate_left
             ·rintro w' ⟨s0, s1, s2, s3, s4⟩
              go_simp
              with_reducible rfl
             rotate_left
             ·simp only [Act.put, List.setIfInBounds_toArray, List.set_cons_zero, List.set_cons_succ, cp, cL]
              rfl
             refine pu 14 an.out ?_
             refine pu 15 an.out ?_
             refine pu 16 an.out ?_
             refine pu 17 an.out ?_
             refine pu 18 an.out ?_
             refine pu 19 an.out ?_
             refine pu 20 an.out ?_
             refine pu 22 an.out ?_
             refine pu 23 an.out ?_
             refine pu 27 an.out ?_
             refine take_ (i := 21) (N := some 34) (v := ?_) (a' := ?_) #[true, true, true, true, true, true, true, true, true, true, true, true, true, true, true, true, true, true, true, true, true, true, true, true, false, false, false, true, false, false, false, false] rfl rfl (cn an.out cj.out (by kernel_rfl)) (fun _ _ _ h => h) (Or.inl ⟨by rfl, ?_⟩) hHeld ?_ ?_
             rotate_left
             ·rintro w' ⟨s0, s1, s2, s3, s4⟩
              go_simp
              with_reducible rfl
             rotate_left
             ·simp only [Act.put, List.setIfInBounds_toArray, List.set_cons_zero, List.set_cons_succ, cp, cL]
              rfl
             refine pu 24 an.out ?_
             refine pu 25 an.out ?_
             refine take_ (i := 26) (N := some 39) (v := ?_) (a' := ?_) #[true, true, true, true, true, true, true, true, true, true, true, true, true, true, true, true, true, true, true, true, true, true, true, true, true, true, true, true, false, false, false, false] rfl rfl (cn an.out cj.out (by kernel_rfl)) (fun _ _ _ h => h) (Or.inl ⟨by rfl, ?_⟩) hHeld ?_ ?_
             rotate_left
             ·rintro w' ⟨s0, s1, s2, s3, s4⟩
              go_simp
              with_reducible rfl
             rotate_left
             ·simp only [Act.put, List.setIfInBounds_toArray, List.set_cons_zero, List.set_cons_succ, cp, cL]
              rfl
             refine take_ (i := 28) (N := some 41) (v := ?_) (a' := ?_) #[true, true, true, true, true, true, true, true, true, true, true, true, true, true, true, true, true, true, true, true, true, true, true, true, true, true, true, true, true, false, false, false] rfl rfl (cn an.out cj.out (by kernel_rfl)) (fun _ _ _ h => h) (Or.inl ⟨by rfl, ?_⟩) hHeld ?_ ?_
             rotate_left
             ·rintro w' ⟨s0, s1, s2, s3, s4⟩
              go_simp
              with_reducible rfl
             rotate_left
             ·simp only [Act.put, List.setIfInBounds_toArray, List.set_cons_zero, List.set_cons_succ, cp, cL]
              rfl
             refine pu 29 an.out ?_
             refine pu 30 an.out ?_
             refine pu 31 an.out ?_
             refine dn an.out ?_
             try go_wp2
             go_ret
             exact ⟨by first | rfl | (simp [aq, ao] <;> rfl) | (simp only [← vP]; first | rfl | (simp [aq, ao] <;> rfl)) | (simp [*, aq, ao] <;> rfl), by repeat (first | (with_reducible first | exact HB.out | apply aa | apply J | apply ab | refine ai ?_ cT.out | refine ai ?_ eB.out) | exact HB.out)⟩
            ·rw [if_neg qP] at H
             have Di : decide (((aE aK aZ).f0) ≤ ((aE aK (gL)).f0)) = false := decide_eq_false qP
             clear qP
             have H' := ak H
             clear H
             have fb : 0 ≤ (aZ : Int) := of_decide_eq_true (by first | (with_reducible assumption) | assumption)
             have fa : aZ < (aK.length : Int) := of_decide_eq_true (by first | (with_reducible assumption) | assumption)
             obtain ⟨ck, k0, dv, du⟩ := mA pX.out aZ fb fa
             cases k0
             replace dv := (HB.out.cell (World.block_lt_of_cell? w _ dv)).trans dv
             replace du := (HB.out.cell (World.block_lt_of_cell? w _ du)).trans du
             replace fb := eq_true fb
             replace fa := eq_true fa
             try go_wp2_with (first | ((with_reducible refine aA (N := 4) rfl ?_); refine bl ?hg (N := 4) ?hd (cs := #[.int .u32 0, .int .i64 0]) (t := 145) ?hr ?_; (case hd => rfl); (case hg => rfl); (case hr => first | (go_simp; done) | (go_simp; rfl)); intro aN hg yB hbox hb; have av := ak (aU (g := bZ) (o := .cells #[.slice (some ck) aK.length eQ] 99 (0, 0)) (by (with_reducible repeat (first | refine ae ?_ _ | refine ag ?_ | refine af ?_ _)); exact aY.out) hb); have az := ak (au (by repeat (first | (with_reducible first | exact HB.out | apply aa | apply J | apply ab | refine ai ?_ cT.out) | exact HB.out)) hb); have aR := ak (hbox); have bp := ak ((by rw [hg]; exact (ay (by repeat (first | (with_reducible first | exact HB.out | apply aa | apply J | apply ab | refine ai ?_ cT.out) | exact HB.out))) : w.heap.size ≤ aN)); have eh := ak ((by rw [hg]; exact (ay (by repeat (first | (with_reducible first | exact HB.out | apply aa | apply J | apply ab | refine ai ?_ cT.out) | exact HB.out))) : w.heap.size ≤ aN)); have eg := ak ((by rw [hg]; exact Nat.ne_of_lt (cJ (g := bZ) (o := .cells #[.slice (some ck) aK.length eQ] 99 (0, 0)) (by (with_reducible repeat (first | refine ae ?_ _ | refine ag ?_ | refine af ?_ _)); exact aY.out)) : bZ ≠ aN)); have ef := ak ((by rw [hg]; exact Nat.ne_of_gt (cJ (g := bZ) (o := .cells #[.slice (some ck) aK.length eQ] 99 (0, 0)) (by (with_reducible repeat (first | refine ae ?_ _ | refine ag ?_ | refine af ?_ _)); exact aY.out)) : aN ≠ bZ)); clear aY; clear HB; have aY := av; have HB := az; have aQ := aR; have rb := bp; have eB := eh; have cu := eg; have eR := ef; clear av az aR bp eh eg ef; clear hb hbox hg; have Ww := eR.out; have Wd := cu.out; have Tq : yB.cell? ⟨aN, 0, none⟩ = some (.int .u32 0) := (aj aQ.out 0).trans rfl; have Tp : yB.cell? ⟨aN, 1, none⟩ = some (.int .i64 0) := (aj aQ.out 1).trans rfl; have RZ := ah aQ.out 0; have RY := ah aQ.out 1))
             have av : Aside0 (((yB.setCell ⟨aN, 0, none⟩ (.int .u32 ((aE aK aZ).f0))).setCell ⟨aN, 1, none⟩ (.int .i64 ((aE aK aZ).f1))).heap[bZ]? = some (.cells #[.slice (some ck) aK.length eQ] 99 (0, 0))) := ⟨by (with_reducible repeat (first | refine ae ?_ _ | refine ag ?_ | refine af ?_ _)); refine cD ?_ cu.out _; (with_reducible repeat (first | refine ae ?_ _ | refine ag ?_ | refine af ?_ _)); refine cD ?_ cu.out _; (with_reducible repeat (first | refine ae ?_ _ | refine ag ?_ | refine af ?_ _)); exact aY.out⟩
             have az : Aside0 (((yB.setCell ⟨aN, 0, none⟩ (.int .u32 ((aE aK aZ).f0))).setCell ⟨aN, 1, none⟩ (.int .i64 ((aE aK aZ).f1))).heap[aN]? = some (.cells #[.int .u32 ((aE aK aZ).f0), .int .i64 ((aE aK aZ).f1)] 145 (0, 0))) := ⟨by (with_reducible repeat (first | refine ae ?_ _ | refine ag ?_ | refine af ?_ _)); refine b7 (cs := #[.int .u32 ((aE aK aZ).f0), .int .i64 0]) ?_ 1 _ rfl; (with_reducible repeat (first | refine ae ?_ _ | refine ag ?_ | refine af ?_ _)); refine b7 (cs := #[.int .u32 0, .int .i64 0]) ?_ 0 _ rfl; (with_reducible repeat (first | refine ae ?_ _ | refine ag ?_ | refine af ?_ _)); exact aQ.out⟩
             have aR : Aside0 (Below w.heap.size w ((yB.setCell ⟨aN, 0, none⟩ (.int .u32 ((aE aK aZ).f0))).setCell ⟨aN, 1, none⟩ (.int .i64 ((aE aK aZ).f1)))) := ⟨by repeat (first | (with_reducible first | exact HB.out | apply aa | apply J | apply ab | refine ai ?_ cT.out | refine ai ?_ eB.out) | exact HB.out)⟩
             (try clear aY)
             (try clear aQ)
             (try clear HB)
             generalize ((yB.setCell ⟨aN, 0, none⟩ (.int .u32 ((aE aK aZ).f0))).setCell ⟨aN, 1, none⟩ (.int .i64 ((aE aK aZ).f1))) = Ul at av az aR ⊢
             have aY := av
             have aQ := az
             have HB := aR
             clear av az aR
             have av := ak (ag aY.out)
             have az := ak (ag aQ.out)
             have aR := ak (ab HB.out)
             clear aY
             clear aQ
             clear HB
             have aY := av
             have aQ := az
             have HB := aR
             clear av az aR
             have oQ : 0 ≤ ((gL) : Int) := of_decide_eq_true (by first | (with_reducible assumption) | assumption)
             have oN : (gL) < (aK.length : Int) := of_decide_eq_true (by first | (with_reducible assumption) | assumption)
             obtain ⟨xc, zK, gV, gU⟩ := mA pX.out (gL) oQ oN
             have jh := gU
             have ji := gV
             obtain rfl : ck = xc := (by injection zK)
             replace gV := (HB.out.cell (World.block_lt_of_cell? w _ gV)).trans gV
             replace gU := (HB.out.cell (World.block_lt_of_cell? w _ gU)).trans gU
             replace oQ := eq_true oQ
             replace oN := eq_true oN
             refine ee (n := 32) (S := fun w' => w'.cell? ⟨aN, 0, none⟩ = some (.int .u32 ((aE aK aZ).f0)) ∧ w'.cell? ⟨aN, 1, none⟩ = some (.int .i64 ((aE aK aZ).f1)) ∧ w'.cell? ⟨bZ, 0, none⟩ = some (.slice (some ck) aK.length eQ) ∧ w'.cell? (ck.add (((gL)).toNat * 2)) = some (.int .u32 ((aE aK (gL)).f0)) ∧ w'.cell? ⟨(ck.add (((gL)).toNat * 2)).block, (ck.add (((gL)).toNat * 2)).off + 1, none⟩ = some (.int .i64 ((aE aK (gL)).f1))) (ds := []) #[false, false, false, false, false, false, false, false, false, false, false, false, false, false, false, false, false, false, false, false, false, false, false, false, false, false, false, false, false, false, false, false] (by kernel_rfl) rfl rfl ⟨(aj aQ.out 0).trans rfl, (aj aQ.out 1).trans rfl, (aj aY.out 0).trans rfl, ((HB.out.cell (World.block_lt_of_cell? w _ ji)).trans ji), ((HB.out.cell (World.block_lt_of_cell? w _ jh)).trans jh)⟩ (fun hHeld => ?_); refine cV bz.tab4 bz.bits4 (fun an cj => ?_)
             generalize Ul.drew = XI at aY aQ HB gV gU hHeld ⊢
             refine pu 0 an.out ?_
             refine pu 3 an.out ?_
             refine take_ (i := 1) (N := some 14) (v := ?_) (a' := ?_) #[true, true, false, true, false, false, false, false, false, false, false, false, false, false, false, false, false, false, false, false, false, false, false, false, false, false, false, false, false, false, false, false] rfl rfl (cn an.out cj.out (by kernel_rfl)) (fun _ _ _ h => h) (Or.inl ⟨by rfl, ?_⟩) hHeld ?_ ?_
             rotate_left
             ·rintro w' ⟨s0, s1, s2, s3, s4⟩
              go_simp
              with_reducible rfl
             rotate_left
             ·simp only [Act.put, List.setIfInBounds_toArray, List.set_cons_zero, List.set_cons_succ, cp, cL]
              rfl
             refine take_ (i := 4) (N := some 17) (v := ?_) (a' := ?_) #[true, true, false, true, true, false, false, false, false, false, false, false, false, false, false, false, false, false, false, false, false, false, false, false, false, false, false, false, false, false, false, false] rfl rfl (cn an.out cj.out (by kernel_rfl)) (fun _ _ _ h => h) (Or.inl ⟨by rfl, ?_⟩) hHeld ?_ ?_
             rotate_left
             ·rintro w' ⟨s0, s1, s2, s3, s4⟩
              go_simp
              with_reducible rfl
             rotate_left
             ·simp only [Act.put, List.setIfInBounds_toArray, List.set_cons_zero, List.set_cons_succ, cp, cL]
              rfl
             refine on 2 an.out (fun K hK => ?_)
             refine lY Tryz.func117 (by kernel_rfl) rfl #[.int .u32 ((aE aK aZ).f0)] (by rfl) rfl rfl (by (try simp only [List.map_toArray, List.map_cons, List.map_nil]); first | done | rfl | (simp only [List.length_drop, List.length_take]; rfl)) ?_
             with_reducible refine (fe.calls ((aE aK aZ).f0) iZ _ A7.out).mono ?_
             rintro e Uk ⟨rfl, hb⟩
             refine ⟨_, rfl, ?_⟩
             have av := ak (aU (g := bZ) (o := .cells #[.slice (some ck) aK.length eQ] 99 (0, 0)) (by (with_reducible repeat (first | refine ae ?_ _ | refine ag ?_ | refine af ?_ _)); exact aY.out) hb)
             have az := ak (aU (g := aN) (o := .cells #[.int .u32 ((aE aK aZ).f0), .int .i64 ((aE aK aZ).f1)] 145 (0, 0)) (by (with_reducible repeat (first | refine ae ?_ _ | refine ag ?_ | refine af ?_ _)); exact aQ.out) hb)
             have aR := ak (au (by repeat (first | (with_reducible first | exact HB.out | apply aa | apply J | apply ab | refine ai ?_ cT.out | refine ai ?_ eB.out) | exact HB.out)) hb)
             clear aY
             clear aQ
             clear HB
             have aY := av
             have aQ := az
             have HB := aR
             clear av az aR
             (try clear hb)
             (try clear bC)
             (try clear hk)
             (try clear hi)
             refine kn hK ⟨(aj aQ.out 0).trans rfl, (aj aQ.out 1).trans rfl, (aj aY.out 0).trans rfl, ((HB.out.cell (World.block_lt_of_cell? w _ ji)).trans ji), ((HB.out.cell (World.block_lt_of_cell? w _ jh)).trans jh)⟩ (fun hHeld => ?_)
             clear hK K
             refine pu 5 an.out ?_
             refine pu 6 an.out ?_
             refine pu 7 an.out ?_
             refine take_ (i := 8) (N := some 21) (v := ?_) (a' := ?_) #[true, true, true, true, true, true, true, true, true, false, false, false, false, false, false, false, false, false, false, false, false, false, false, false, false, false, false, false, false, false, false, false] rfl rfl (cn an.out cj.out (by kernel_rfl)) (fun _ _ _ h => h) (Or.inl ⟨by rfl, ?_⟩) hHeld ?_ ?_
             rotate_left
             ·rintro w' ⟨s0, s1, s2, s3, s4⟩
              go_simp
              with_reducible rfl
             rotate_left
             ·simp only [Act.put, List.setIfInBounds_toArray, List.set_cons_zero, List.set_cons_succ, cp, cL]
              rfl
             refine pu 9 an.out ?_
             refine pu 10 an.out ?_
             refine pu 11 an.out ?_
             refine pu 12 an.out ?_
             refine take_ (i := 13) (N := some 26) (v := ?_) (a' := ?_) #[true, true, true, true, true, true, true, true, true, true, true, true, true, true, false, false, false, false, false, false, false, false, false, false, false, false, false, false, false, false, false, false] rfl rfl (cn an.out cj.out (by kernel_rfl)) (fun _ _ _ h => h) (Or.inl ⟨by rfl, ?_⟩) hHeld ?_ ?_
             rotate_left
             ·rintro w' ⟨s0, s1, s2, s3, s4⟩
              go_simp
              with_reducible rfl
             rotate_left
             ·simp only [Act.put, List.setIfInBounds_toArray, List.set_cons_zero, List.set_cons_succ, cp, cL]
              rfl
             refine pu 14 an.out ?_
             refine pu 15 an.out ?_
             refine pu 16 an.out ?_
             refine pu 17 an.out ?_
             refine pu 18 an.out ?_
             refine pu 19 an.out ?_
             refine pu 20 an.out ?_
             refine pu 22 an.out ?_
             refine pu 23 an.out ?_
             refine pu 27 an.out ?_
             refine take_ (i := 21) (N := some 34) (v := ?_) (a' := ?_) #[true, true, true, true, true, true, true, true, true, true, true, true, true, true, true, true, true, true, true, true, true, true, true, true, false, false, false, true, false, false, false, false] rfl rfl (cn an.out cj.out (by kernel_rfl)) (fun _ _ _ h => h) (Or.inl ⟨by rfl, ?_⟩) hHeld ?_ ?_
             rotate_left
             ·rintro w' ⟨s0, s1, s2, s3, s4⟩
              go_simp
              with_reducible rfl
             rotate_left
             ·simp only [Act.put, List.setIfInBounds_toArray, List.set_cons_zero, List.set_cons_succ, cp, cL]
              rfl
             refine pu 24 an.out ?_
             refine pu 25 an.out ?_
             refine take_ (i := 26) (N := some 39) (v := ?_) (a' := ?_) #[true, true, true, true, true, true, true, true, true, true, true, true, true, true, true, true, true, true, true, true, true, true, true, true, true, true, true, true, false, false, false, false] rfl rfl (cn an.out cj.out (by kernel_rfl)) (fun _ _ _ h => h) (Or.inl ⟨by rfl, ?_⟩) hHeld ?_ ?_
             rotate_left
             ·rintro w' ⟨s0, s1, s2, s3, s4⟩
              go_simp
              with_reducible rfl
             rotate_left
             ·simp only [Act.put, List.setIfInBounds_toArray, List.set_cons_zero, List.set_cons_succ, cp, cL]
              rfl
             refine take_ (i := 28) (N := some 41) (v := ?_) (a' := ?_) #[true, true, true, true, true, true, true, true, true, true, true, true, true, true, true, true, true, true, true, true, true, true, true, true, true, true, true, true, true, false, false, false] rfl rfl (cn an.out cj.out (by kernel_rfl)) (fun _ _ _ h => h) (Or.inl ⟨by rfl, ?_⟩) hHeld ?_ ?_
             rotate_left
             ·rintro w' ⟨s0, s1, s2, s3, s4⟩
              go_simp
              with_reducible rfl
             rotate_left
             ·simp only [Act.put, List.setIfInBounds_toArray, List.set_cons_zero, List.set_cons_succ, cp, cL]
              rfl
             refine pu 29 an.out ?_
             refine pu 30 an.out ?_
             refine pu 31 an.out ?_
             refine dn an.out ?_
             try go_wp2
             go_roundg k1
             case measure => have := cC.out; omega
             case rel => exact ⟨(wrap64 (aZ + 1)), (by first | rfl | (simp; done) | (simp [*]; done)), H', ⟨by have := cC.out; omega⟩, ⟨by (with_reducible repeat (first | refine ae ?_ _ | refine ag ?_ | refine af ?_ _)); exact aY.out⟩, ⟨by repeat (first | (with_reducible first | exact HB.out | apply aa | apply J | apply ab | refine ai ?_ cT.out | refine ai ?_ eB.out) | exact HB.out)⟩⟩
           ·rw [if_neg sW] at H
            exact absurd H (by simp)
          ·rw [if_neg sX] at H
           exact absurd H (by simp)
         ·rw [if_neg pQ] at H
          have Dj : decide (0 < aZ) = false := decide_eq_false pQ
          clear pQ
          have H' := ak H
          clear H
          have fb : 0 ≤ (aZ : Int) := of_decide_eq_true (by first | (with_reducible assumption) | assumption)
          have fa : aZ < (aK.length : Int) := of_decide_eq_true (by first | (with_reducible assumption) | assumption)
          obtain ⟨ck, k0, dv, du⟩ := mA pX.out aZ fb fa
          cases k0
          replace dv := (HB.out.cell (World.block_lt_of_cell? w _ dv)).trans dv
          replace du := (HB.out.cell (World.block_lt_of_cell? w _ du)).trans du
          replace fb := eq_true fb
          replace fa := eq_true fa
          try go_wp2_with (first | ((with_reducible refine aA (N := 4) rfl ?_); refine bl ?hg (N := 4) ?hd (cs := #[.int .u32 0, .int .i64 0]) (t := 145) ?hr ?_; (case hd => rfl); (case hg => rfl); (case hr => first | (go_simp; done) | (go_simp; rfl)); intro aN hg yA hbox hb; have av := ak (aU (g := bZ) (o := .cells #[.slice (some ck) aK.length eQ] 99 (0, 0)) (by (with_reducible repeat (first | refine ae ?_ _ | refine ag ?_ | refine af ?_ _)); exact aY.out) hb); have az := ak (au (by repeat (first | (with_reducible first | exact HB.out | apply aa | apply J | apply ab | refine ai ?_ cT.out) | exact HB.out)) hb); have aR := ak (hbox); have bp := ak ((by rw [hg]; exact (ay (by repeat (first | (with_reducible first | exact HB.out | apply aa | apply J | apply ab | refine ai ?_ cT.out) | exact HB.out))) : w.heap.size ≤ aN)); have eh := ak ((by rw [hg]; exact (ay (by repeat (first | (with_reducible first | exact HB.out | apply aa | apply J | apply ab | refine ai ?_ cT.out) | exact HB.out))) : w.heap.size ≤ aN)); have eg := ak ((by rw [hg]; exact Nat.ne_of_lt (cJ (g := bZ) (o := .cells #[.slice (some ck) aK.length eQ] 99 (0, 0)) (by (with_reducible repeat (first | refine ae ?_ _ | refine ag ?_ | refine af ?_ _)); exact aY.out)) : bZ ≠ aN)); have ef := ak ((by rw [hg]; exact Nat.ne_of_gt (cJ (g := bZ) (o := .cells #[.slice (some ck) aK.length eQ] 99 (0, 0)) (by (with_reducible repeat (first | refine ae ?_ _ | refine ag ?_ | refine af ?_ _)); exact aY.out)) : aN ≠ bZ)); clear aY; clear HB; have aY := av; have HB := az; have aQ := aR; have rb := bp; have eB := eh; have cu := eg; have eR := ef; clear av az aR bp eh eg ef; clear hb hbox hg; have Wu := eR.out; have Wb := cu.out; have Tk : yA.cell? ⟨aN, 0, none⟩ = some (.int .u32 0) := (aj aQ.out 0).trans rfl; have Tj : yA.cell? ⟨aN, 1, none⟩ = some (.int .i64 0) := (aj aQ.out 1).trans rfl; have RT := ah aQ.out 0; have RS := ah aQ.out 1))
          have av : Aside0 (((yA.setCell ⟨aN, 0, none⟩ (.int .u32 ((aE aK aZ).f0))).setCell ⟨aN, 1, none⟩ (.int .i64 ((aE aK aZ).f1))).heap[bZ]? = some (.cells #[.slice (some ck) aK.length eQ] 99 (0, 0))) := ⟨by (with_reducible repeat (first | refine ae ?_ _ | refine ag ?_ | refine af ?_ _)); refine cD ?_ cu.out _; (with_reducible repeat (first | refine ae ?_ _ | refine ag ?_ | refine af ?_ _)); refine cD ?_ cu.out _; (with_reducible repeat (first | refine ae ?_ _ | refine ag ?_ | refine af ?_ _)); exact aY.out⟩
          have az : Aside0 (((yA.setCell ⟨aN, 0, none⟩ (.int .u32 ((aE aK aZ).f0))).setCell ⟨aN, 1, none⟩ (.int .i64 ((aE aK aZ).f1))).heap[aN]? = some (.cells #[.int .u32 ((aE aK aZ).f0), .int .i64 ((aE aK aZ).f1)] 145 (0, 0))) := ⟨by (with_reducible repeat (first | refine ae ?_ _ | refine ag ?_ | refine af ?_ _)); refine b7 (cs := #[.int .u32 ((aE aK aZ).f0), .int .i64 0]) ?_ 1 _ rfl; (with_reducible repeat (first | refine ae ?_ _ | refine ag ?_ | refine af ?_ _)); refine b7 (cs := #[.int .u32 0, .int .i64 0]) ?_ 0 _ rfl; (with_reducible repeat (first | refine ae ?_ _ | refine ag ?_ | refine af ?_ _)); exact aQ.out⟩
          have aR : Aside0 (Below w.heap.size w ((yA.setCell ⟨aN, 0, none⟩ (.int .u32 ((aE aK aZ).f0))).setCell ⟨aN, 1, none⟩ (.int .i64 ((aE aK aZ).f1)))) := ⟨by repeat (first | (with_reducible first | exact HB.out | apply aa | apply J | apply ab | refine ai ?_ cT.out | refine ai ?_ eB.out) | exact HB.out)⟩
          (try clear aY)
          (try clear aQ)
          (try clear HB)
          generalize ((yA.setCell ⟨aN, 0, none⟩ (.int .u32 ((aE aK aZ).f0))).setCell ⟨aN, 1, none⟩ (.int .i64 ((aE aK aZ).f1))) = Uj at av az aR ⊢
          have aY := av
          have aQ := az
          have HB := aR
          clear av az aR
          have av := ak (ag aY.out)
          have az := ak (ag aQ.out)
          have aR := ak (ab HB.out)
          clear aY
          clear aQ
          clear HB
          have aY := av
          have aQ := az
          have HB := aR
          clear av az aR
          refine ee (n := 32) (S := fun w' => w'.cell? ⟨aN, 0, none⟩ = some (.int .u32 ((aE aK aZ).f0)) ∧ w'.cell? ⟨aN, 1, none⟩ = some (.int .i64 ((aE aK aZ).f1))) (ds := []) #[false, false, false, false, false, false, false, false, false, false, false, false, false, false, false, false, false, false, false, false, false, false, false, false, false, false, false, false, false, false, false, false] (by kernel_rfl) rfl rfl ⟨(aj aQ.out 0).trans rfl, (aj aQ.out 1).trans rfl⟩ (fun hHeld => ?_); refine cV bz.tab4 bz.bits4 (fun an cj => ?_)
          generalize Uj.drew = XH at aY aQ HB hHeld ⊢
          refine pu 0 an.out ?_
          refine pu 3 an.out ?_
          refine take_ (i := 1) (N := some 14) (v := ?_) (a' := ?_) #[true, true, false, true, false, false, false, false, false, false, false, false, false, false, false, false, false, false, false, false, false, false, false, false, false, false, false, false, false, false, false, false] rfl rfl (cn an.out cj.out (by kernel_rfl)) (fun _ _ _ h => h) (Or.inl ⟨by rfl, ?_⟩) hHeld ?_ ?_
          rotate_left
          ·rintro w' ⟨s0, s1⟩
           go_simp
           with_reducible rfl
          rotate_left
          ·simp only [Act.put, List.setIfInBounds_toArray, List.set_cons_zero, List.set_cons_succ, cp, cL]
           rfl
          refine take_ (i := 4) (N := some 17) (v := ?_) (a' := ?_) #[true, true, false, true, true, false, false, false, false, false, false, false, false, false, false, false, false, false, false, false, false, false, false, false, false, false, false, false, false, false, false, false] rfl rfl (cn an.out cj.out (by kernel_rfl)) (fun _ _ _ h => h) (Or.inl ⟨by rfl, ?_⟩) hHeld ?_ ?_
          rotate_left
          ·rintro w' ⟨s0, s1⟩
           go_simp
           with_reducible rfl
          rotate_left
          ·simp only [Act.put, List.setIfInBounds_toArray, List.set_cons_zero, List.set_cons_succ, cp, cL]
           rfl
          refine on 2 an.out (fun K hK => ?_)
          refine lY Tryz.func117 (by kernel_rfl) rfl #[.int .u32 ((aE aK aZ).f0)] (by rfl) rfl rfl (by (try simp only [List.map_toArray, List.map_cons, List.map_nil]); first | done | rfl | (simp only [List.length_drop, List.length_take]; rfl)) ?_
          with_reducible refine (fe.calls ((aE aK aZ).f0) iZ _ A7.out).mono ?_
          rintro e XG ⟨rfl, hb⟩
          refine ⟨_, rfl, ?_⟩
          have av := ak (aU (g := bZ) (o := .cells #[.slice (some ck) aK.length eQ] 99 (0, 0)) (by (with_reducible repeat (first | refine ae ?_ _ | refine ag ?_ | refine af ?_ _)); exact aY.out) hb)
          have az := ak (aU (g := aN) (o := .cells #[.int .u32 ((aE aK aZ).f0), .int .i64 ((aE aK aZ).f1)] 145 (0, 0)) (by (with_reducible repeat (first | refine ae ?_ _ | refine ag ?_ | refine af ?_ _)); exact aQ.out) hb)
          have aR := ak (au (by repeat (first | (with_reducible first | exact HB.out | apply aa | apply J | apply ab | refine ai ?_ cT.out | refine ai ?_ eB.out) | exact HB.out)) hb)
          clear aY
          clear aQ
          clear HB
          have aY := av
          have aQ := az
          have HB := aR
          clear av az aR
          (try clear hb)
          (try clear bC)
          (try clear hk)
          (try clear hi)
          refine kn hK ⟨(aj aQ.out 0).trans rfl, (aj aQ.out 1).trans rfl⟩ (fun hHeld => ?_)
          clear hK K
          refine pu 5 an.out ?_
          refine pu 6 an.out ?_
          refine pu 7 an.out ?_
          refine take_ (i := 8) (N := some 21) (v := ?_) (a' := ?_) #[true, true, true, true, true, true, true, true, true, false, false, false, false, false, false, false, false, false, false, false, false, false, false, false, false, false, false, false, false, false, false, false] rfl rfl (cn an.out cj.out (by kernel_rfl)) (fun _ _ _ h => h) (Or.inl ⟨by rfl, ?_⟩) hHeld ?_ ?_
          rotate_left
          ·rintro w' ⟨s0, s1⟩
           go_simp
           with_reducible rfl
          rotate_left
          ·simp only [Act.put, List.setIfInBounds_toArray, List.set_cons_zero, List.set_cons_succ, cp, cL]
           rfl
          refine pu 9 an.out ?_
          refine pu 10 an.out ?_
          refine pu 11 an.out ?_
          refine pu 12 an.out ?_
          refine take_ (i := 13) (N := some 26) (v := ?_) (a' := ?_) #[true, true, true, true, true, true, true, true, true, true, true, true, true, true, false, false, false, false, false, false, false, false, false, false, false, false, false, false, false, false, false, false] rfl rfl (cn an.out cj.out (by kernel_rfl)) (fun _ _ _ h => h) (Or.inl ⟨by rfl, ?_⟩) hHeld ?_ ?_
          rotate_left
          ·rintro w' ⟨s0, s1⟩
           go_simp
           with_reducible rfl
          rotate_left
          ·simp only [Act.put, List.setIfInBounds_toArray, List.set_cons_zero, List.set_cons_succ, cp, cL]
           rfl
          refine pu 14 an.out ?_
          refine pu 15 an.out ?_
          refine pu 16 an.out ?_
          refine pu 17 an.out ?_
          refine pu 18 an.out ?_
          refine pu 19 an.out ?_
          refine po 20 an.out ?_
          refine po 21 an.out ?_
          refine po 22 an.out ?_
          refine po 23 an.out ?_
          refine po 24 an.out ?_
          refine po 25 an.out ?_
          refine po 26 an.out ?_
          refine po 27 an.out ?_
          refine po 28 an.out ?_
          refine po 29 an.out ?_
          refine pu 30 an.out ?_
          refine pu 31 an.out ?_
          refine dn an.out ?_
          try go_wp2
          go_roundg k1
          case measure => have := cC.out; omega
          case rel => exact ⟨(wrap64 (aZ + 1)), (by first | rfl | (simp; done) | (simp [*]; done)), H', ⟨by have := cC.out; omega⟩, ⟨by (with_reducible repeat (first | refine ae ?_ _ | refine ag ?_ | refine af ?_ _)); exact aY.out⟩, ⟨by repeat (first | (with_reducible first | exact HB.out | apply aa | apply J | apply ab | refine ai ?_ cT.out | refine ai ?_ eB.out) | exact HB.out)⟩⟩
      ·rw [if_neg c8] at H
       have ma : (iZ == ((aE aK aZ).f0)) = false := beq_eq_false_iff_ne.mpr c8
       have rK : (iZ != ((aE aK aZ).f0)) = true := bne_iff_ne.mpr c8
       obtain rfl := Option.some.inj H
       have fb : 0 ≤ (aZ : Int) := of_decide_eq_true (by first | (with_reducible assumption) | assumption)
       have fa : aZ < (aK.length : Int) := of_decide_eq_true (by first | (with_reducible assumption) | assumption)
       obtain ⟨ck, k0, dv, du⟩ := mA pX.out aZ fb fa
       cases k0
       replace dv := (HB.out.cell (World.block_lt_of_cell? w _ dv)).trans dv
       replace du := (HB.out.cell (World.block_lt_of_cell? w _ du)).trans du
       replace fb := eq_true fb
       replace fa := eq_true fa
       try go_wp2_with (first | ((with_reducible refine aA (N := 4) rfl ?_); refine bl ?hg (N := 4) ?hd (cs := #[.int .u32 0, .int .i64 0]) (t := 145) ?hr ?_; (case hd => rfl); (case hg => rfl); (case hr => first | (go_simp; done) | (go_simp; rfl)); intro aN hg Bs hbox hb; have av := ak (aU (g := bZ) (o := .cells #[.slice (some ck) aK.length eQ] 99 (0, 0)) (by (with_reducible repeat (first | refine ae ?_ _ | refine ag ?_ | refine af ?_ _)); exact aY.out) hb); have az := ak (au (by repeat (first | (with_reducible first | exact HB.out | apply aa | apply J | apply ab | refine ai ?_ cT.out) | exact HB.out)) hb); have aR := ak (hbox); have bp := ak ((by rw [hg]; exact (ay (by repeat (first | (with_reducible first | exact HB.out | apply aa | apply J | apply ab | refine ai ?_ cT.out) | exact HB.out))) : w.heap.size ≤ aN)); have eh := ak ((by rw [hg]; exact (ay (by repeat (first | (with_reducible first | exact HB.out | apply aa | apply J | apply ab | refine ai ?_ cT.out) | exact HB.out))) : w.heap.size ≤ aN)); have eg := ak ((by rw [hg]; exact Nat.ne_of_lt (cJ (g := bZ) (o := .cells #[.slice (some ck) aK.length eQ] 99 (0, 0)) (by (with_reducible repeat (first | refine ae ?_ _ | refine ag ?_ | refine af ?_ _)); exact aY.out)) : bZ ≠ aN)); have ef := ak ((by rw [hg]; exact Nat.ne_of_gt (cJ (g := bZ) (o := .cells #[.slice (some ck) aK.length eQ] 99 (0, 0)) (by (with_reducible repeat (first | refine ae ?_ _ | refine ag ?_ | refine af ?_ _)); exact aY.out)) : aN ≠ bZ)); clear aY; clear HB; have aY := av; have HB := az; have aQ := aR; have rb := bp; have eB := eh; have cu := eg; have eR := ef; clear av az aR bp eh eg ef; clear hb hbox hg; have Wr := eR.out; have V7 := cu.out; have Tc : Bs.cell? ⟨aN, 0, none⟩ = some (.int .u32 0) := (aj aQ.out 0).trans rfl; have Tb : Bs.cell? ⟨aN, 1, none⟩ = some (.int .i64 0) := (aj aQ.out 1).trans rfl; have RL := ah aQ.out 0; have RJ := ah aQ.out 1))
       have av : Aside0 (((Bs.setCell ⟨aN, 0, none⟩ (.int .u32 ((aE aK aZ).f0))).setCell ⟨aN, 1, none⟩ (.int .i64 ((aE aK aZ).f1))).heap[bZ]? = some (.cells #[.slice (some ck) aK.length eQ] 99 (0, 0))) := ⟨by (with_reducible repeat (first | refine ae ?_ _ | refine ag ?_ | refine af ?_ _)); refine cD ?_ cu.out _; (with_reducible repeat (first | refine ae ?_ _ | refine ag ?_ | refine af ?_ _)); refine cD ?_ cu.out _; (with_reducible repeat (first | refine ae ?_ _ | refine ag ?_ | refine af ?_ _)); exact aY.out⟩
       have az : Aside0 (((Bs.setCell ⟨aN, 0, none⟩ (.int .u32 ((aE aK aZ).f0))).setCell ⟨aN, 1, none⟩ (.int .i64 ((aE aK aZ).f1))).heap[aN]? = some (.cells #[.int .u32 ((aE aK aZ).f0), .int .i64 ((aE aK aZ).f1)] 145 (0, 0))) := ⟨by (with_reducible repeat (first | refine ae ?_ _ | refine ag ?_ | refine af ?_ _)); refine b7 (cs := #[.int .u32 ((aE aK aZ).f0), .int .i64 0]) ?_ 1 _ rfl; (with_reducible repeat (first | refine ae ?_ _ | refine ag ?_ | refine af ?_ _)); refine b7 (cs := #[.int .u32 0, .int .i64 0]) ?_ 0 _ rfl; (with_reducible repeat (first | refine ae ?_ _ | refine ag ?_ | refine af ?_ _)); exact aQ.out⟩
       have aR : Aside0 (Below w.heap.size w ((Bs.setCell ⟨aN, 0, none⟩ (.int .u32 ((aE aK aZ).f0))).setCell ⟨aN, 1, none⟩ (.int .i64 ((aE aK aZ).f1)))) := ⟨by repeat (first | (with_reducible first | exact HB.out | apply aa | apply J | apply ab | refine ai ?_ cT.out | refine ai ?_ eB.out) | exact HB.out)⟩
       (try clear aY)
       (try clear aQ)
       (try clear HB)
       generalize ((Bs.setCell ⟨aN, 0, none⟩ (.int .u32 ((aE aK aZ).f0))).setCell ⟨aN, 1, none⟩ (.int .i64 ((aE aK aZ).f1))) = Ui at av az aR ⊢
       have aY := av
       have aQ := az
       have HB := aR
       clear av az aR
       have av := ak (ag aY.out)
       have az := ak (ag aQ.out)
       have aR := ak (ab HB.out)
       clear aY
       clear aQ
       clear HB
       have aY := av
       have aQ := az
       have HB := aR
       clear av az aR
       refine ee (n := 32) (S := fun w' => w'.cell? ⟨aN, 0, none⟩ = some (.int .u32 ((aE aK aZ).f0)) ∧ w'.cell? ⟨aN, 1, none⟩ = some (.int .i64 ((aE aK aZ).f1))) (ds := []) #[false, false, false, false, false, false, false, false, false, false, false, false, false, false, false, false, false, false, false, false, false, false, false, false, false, false, false, false, false, false, false, false] (by kernel_rfl) rfl rfl ⟨(aj aQ.out 0).trans rfl, (aj aQ.out 1).trans rfl⟩ (fun hHeld => ?_); refine cV bz.tab4 bz.bits4 (fun an cj => ?_)
       generalize Ui.drew = XF at aY aQ HB hHeld ⊢
       refine pu 0 an.out ?_
       refine pu 3 an.out ?_
       refine take_ (i := 1) (N := some 14) (v := ?_) (a' := ?_) #[true, true, false, true, false, false, false, false, false, false, false, false, false, false, false, false, false, false, false, false, false, false, false, false, false, false, false, false, false, false, false, false] rfl rfl (cn an.out cj.out (by kernel_rfl)) (fun _ _ _ h => h) (Or.inl ⟨by rfl, ?_⟩) hHeld ?_ ?_
       rotate_left
       ·rintro w' ⟨s0, s1⟩
        go_simp
        with_reducible rfl
       rotate_left
       ·simp only [Act.put, List.setIfInBounds_toArray, List.set_cons_zero, List.set_cons_succ, cp, cL]
        rfl
       refine take_ (i := 4) (N := some 17) (v := ?_) (a' := ?_) #[true, true, false, true, true, false, false, false, false, false, false, false, false, false, false, false, false, false, false, false, false, false, false, false, false, false, false, false, false, false, false, false] rfl rfl (cn an.out cj.out (by kernel_rfl)) (fun _ _ _ h => h) (Or.inl ⟨by rfl, ?_⟩) hHeld ?_ ?_
       rotate_left
       ·rintro w' ⟨s0, s1⟩
        go_simp
        with_reducible rfl
       rotate_left
       ·simp only [Act.put, List.setIfInBounds_toArray, List.set_cons_zero, List.set_cons_succ, cp, cL]
        rfl
       refine on 2 an.out (fun K hK => ?_)
       refine lY Tryz.func117 (by kernel_rfl) rfl #[.int .u32 ((aE aK aZ).f0)] (by rfl) rfl rfl (by (try simp only [List.map_toArray, List.map_cons, List.map_nil]); first | done | rfl | (simp only [List.length_drop, List.length_take]; rfl)) ?_
       with_reducible refine (fe.calls ((aE aK aZ).f0) iZ _ A7.out).mono ?_
       rintro e XE ⟨rfl, hb⟩
       refine ⟨_, rfl, ?_⟩
       have av := ak (aU (g := bZ) (o := .cells #[.slice (some ck) aK.length eQ] 99 (0, 0)) (by (with_reducible repeat (first | refine ae ?_ _ | refine ag ?_ | refine af ?_ _)); exact aY.out) hb)
       have az := ak (aU (g := aN) (o := .cells #[.int .u32 ((aE aK aZ).f0), .int .i64 ((aE aK aZ).f1)] 145 (0, 0)) (by (with_reducible repeat (first | refine ae ?_ _ | refine ag ?_ | refine af ?_ _)); exact aQ.out) hb)
       have aR := ak (au (by repeat (first | (with_reducible first | exact HB.out | apply aa | apply J | apply ab | refine ai ?_ cT.out | refine ai ?_ eB.out) | exact HB.out)) hb)
       clear aY
       clear aQ
       clear HB
       have aY := av
       have aQ := az
       have HB := aR
       clear av az aR
       (try clear hb)
       (try clear bC)
       (try clear hk)
       (try clear hi)
       refine kn hK ⟨(aj aQ.out 0).trans rfl, (aj aQ.out 1).trans rfl⟩ (fun hHeld => ?_)
       clear hK K
       refine pu 5 an.out ?_
       refine pu 6 an.out ?_
       refine po 7 an.out ?_
       refine po 8 an.out ?_
       refine po 9 an.out ?_
       refine pu 10 an.out ?_
       refine pu 11 an.out ?_
       refine po 12 an.out ?_
       refine po 13 an.out ?_
       refine po 14 an.out ?_
       refine pu 15 an.out ?_
       refine pu 16 an.out ?_
       refine po 17 an.out ?_
       refine po 18 an.out ?_
       refine po 19 an.out ?_
       refine po 20 an.out ?_
       refine po 21 an.out ?_
       refine po 22 an.out ?_
       refine po 23 an.out ?_
       refine po 24 an.out ?_
       refine po 25 an.out ?_
       refine po 26 an.out ?_
       refine po 27 an.out ?_
       refine po 28 an.out ?_
       refine po 29 an.out ?_
       refine po 30 an.out ?_
       refine pu 31 an.out ?_
       refine dn an.out ?_
       try go_wp2
       go_ret
       exact ⟨by first | rfl | (simp [aq, ao] <;> rfl) | (simp [*, aq, ao] <;> rfl), by repeat (first | (with_reducible first | exact HB.out | apply aa | apply J | apply ab | refine ai ?_ cT.out | refine ai ?_ eB.out) | exact HB.out)⟩
     ·rw [if_neg c6] at H
      exact absurd H (by simp)
    ·rw [if_neg c5] at H
     exact absurd H (by simp)
   ·rw [if_neg c4] at H
    have fj : decide (aZ < (aK.length : Int)) = false := decide_eq_false c4
    clear c4
    obtain rfl := Option.some.inj H
    have JW : wr.cell? ⟨bZ, 0, none⟩ = some (.slice xl aK.length eQ) := (aj aY.out 0).trans rfl
    have JB := ah aY.out 0
    go_wp2
    go_ret
    exact ⟨by first | rfl | (simp [aq, ao] <;> rfl) | (simp [*, aq, ao] <;> rfl), by repeat (first | (with_reducible first | exact HB.out | apply aa | apply J | apply ab | refine ai ?_ cT.out) | exact HB.out)⟩
end Go.Proofs.YtndddnglapkplaaGreatDoor.V
end

section
namespace Go.Proofs.YtndddnglapkplaaGreatDoor.V
theorem Gr (n : Nat) (hn : n < 4294967296) : fe.f (n : Int) = some ((n - n % 64 : Nat) : Int) := by
 have h := BS (n : Int) (by omega) (by omega)
 have e : fe.f (n : Int) = fW.f (n : Int) := rfl
 rw [e, h]
 unfold nK
 congr 1
 omega
theorem Mh {l : List Cn} (h : AN l) (i : Nat) (hi : i < l.length) : (0 ≤ (aE l (i : Int)).f0 ∧ (aE l (i : Int)).f0 < 4294967296) ∧ (0 ≤ (aE l (i : Int)).f1 ∧ (aE l (i : Int)).f1 < 65536) := by
 have e : aE l (i : Int) = l[i] := by simp [aE, List.getD, hi]
 rw [e]
 exact h _ (List.getElem_mem hi)
theorem xu (l : List Cn) (h : AN l) (hl : l.length ≤ 65535) : ∀ (d i k : Nat), i + d = l.length → d < k → bz.l0 k l (l.length : Int) (i : Int) l = some (((List.range d).all fun j => !qM l (i + j)) && decide (l.length ≤ 4096))
 | 0, i, k, hi, hk => by
  obtain ⟨k, rfl⟩ : ∃ m, k = m + 1 := ⟨k - 1, by omega⟩
  rw [bz.l0, if_neg (by omega)]
  simp
  omega
 | d + 1, i, k, hi, hk => by
  obtain ⟨k, rfl⟩ : ∃ m, k = m + 1 := ⟨k - 1, by omega⟩
  have hil : i < l.length := by omega
  have ih := xu l h hl d (i + 1) k (by omega) (by omega)
  have hc := Mh h i hil
  obtain ⟨n, hn⟩ : ∃ n : Nat, (aE l (i : Int)).f0 = (n : Int) := ⟨(aE l (i : Int)).f0.toNat, by omega⟩
  have e0 : ((List.range (d + 1)).all fun j => !qM l (i + j)) = (!qM l i && (List.range d).all fun j => !qM l (i + 1 + j)) := by
   rw [List.range_succ_eq_map, List.all_cons, List.all_map]
   congr 1
   congr 1
   funext j
   simp only [Function.comp, Nat.succ_eq_add_one]
   rw [show i + (j + 1) = i + 1 + j by omega]
  rw [e0, bz.l0, if_pos (by omega), if_pos (by omega), if_pos (by omega), hn, Gr n (by omega), Option.bind_some, bM ((i : Int) + 1) (by omega) (by omega), show (i : Int) + 1 = ((i + 1 : Nat) : Int) by omega, ih]
  unfold qM
  rw [hn]
  by_cases c0 : n % 64 = 0
  ·rw [if_pos (by omega), decide_eq_false (show ¬ ((n : Int) % 64 ≠ 0) by omega), Bool.false_or]
   by_cases c1 : (aE l (i : Int)).f1 < 1
   ·rw [if_pos c1, decide_eq_true c1]; simp
   ·rw [if_neg c1, decide_eq_false c1, Bool.false_or]
    by_cases c2 : (aE l (i : Int)).f1 > 65535
    ·rw [if_pos c2, decide_eq_true c2]; simp
    ·rw [if_neg c2, decide_eq_false c2, Bool.false_or]
     by_cases c3 : 0 < i
     ·rw [if_pos (by omega), bM ((i : Int) - 1) (by omega) (by omega), if_pos (by omega), if_pos (by omega), show (i : Int) - 1 = ((i - 1 : Nat) : Int) by omega, decide_eq_true c3, Bool.true_and]
      by_cases c4 : (n : Int) ≤ (aE l ((i - 1 : Nat) : Int)).f0
      ·rw [if_pos (by omega), decide_eq_true c4]; simp
      ·rw [if_neg (by omega), decide_eq_false c4]; simp
     ·rw [if_neg (by omega), decide_eq_false c3]; simp
  ·rw [if_neg (by omega), decide_eq_true (show ((n : Int) % 64 ≠ 0) by omega)]; simp
theorem FQ {l : List Cn} (h : AN l) (hl : l.length ≤ 65535) : bz.f 65537 l = some (sm l) := by
 unfold bz.f sm
 have e := xu l h hl l.length 0 65537 (by omega) (by omega)
 simp only [Nat.zero_add] at e
 exact e
end Go.Proofs.YtndddnglapkplaaGreatDoor.V
end

section
namespace Go.Proofs.YtndddnglapkplaaGreatDoor.V
theorem uQ {α : Type} {d : Kd α} {e base g : Nat} {W W1 : World} {ok Lb : Nat → Prop} {v : Value} {xs : List α} {l : List Int} {bad : Bool} (h : d.R e W base ok v xs) (hq : Rq W g Lb l bad) (ht : ∀ q, q ∈ e :: d.E → q ≠ 150) (hg : W.grownBy W1 (some g)) : d.R e W1 base ok v xs := by
 obtain ⟨A, c, L, n, hr, _⟩ := hq
 exact cR h hr.box ht hg
theorem yL {α : Type} {d : Kd α} {e b1 gr gB : Nat} {W w1 : World} {ok : Nat → Prop} {v : Value} {xs : List α} {l : List Int} {bad : Bool} (hq : Rq W gr (fun k => k = gB) l bad) (hr : d.R e W b1 ok v xs) (hg : W.grownBy w1 v.ownBlock) (h1 : gB < b1) (h2 : gr < b1) : Rq w1 gr (fun k => k = gB) l bad :=
 hq.grown hg (fun k hk he => by subst hk; have := Kd.R_base hr _ he.symm; omega) (fun he => by have := Kd.R_base hr _ he.symm; omega)
theorem gh {α : Type} {d : Kd α} {e base : Nat} {w : World} {ok : Nat → Prop} {A : Option Addr} {c : Nat} {xs : List α} (h : d.R e w base ok (.slice A xs.length c) xs) : d.C w A xs.length xs ∧ xs.length ≤ c := ⟨(Kd.R_reads' h).2.2, (Kd.R_reads' h).2.1⟩
theorem tO : ∀ a : Act, Tryz.prog.built 49 ((#[] : Array (Nat × Operand)).map fun (i, x) => (i, a.eval x)).toList = some gR.toArray := fun _ => by kernel_rfl
def pn (s : ByteArray) (w : World) (e : Ending) (w' : World) : Prop := ∃ vs vf va, e = .returned (.tuple #[.agg #[.int .u32 (if cy s = true then (cQ s).addr else 0), .string (if cy s = true then (cQ s).aff else ⟨#[]⟩), vs, vf, va], .bool (cy s)]) ∧
   (Kd.R (Kd.int .i64) 3 w' w.heap.size (fun k_ => some k_ ≠ vf.ownBlock) vs (if cy s = true then (cQ s).slots else []) ∧ Kd.R (Kd.int .i64) 3 w' w.heap.size (fun k_ => some k_ ≠ vs.ownBlock) vf (if cy s = true then (cQ s).free else []) ∧ Kd.R lP 78 w' w.heap.size (fun _ => True) va (if cy s = true then (cQ s).attrs.map vc else [])) ∧ Below w.heap.size w w'
theorem tJ {s : ByteArray} {w w' : World} {e : Ending} (he : e = .returned (.tuple #[.agg gR.toArray, .bool false])) (h : cy s = false) (hb : Below w.heap.size w w') : pn s w e w' := by
 unfold pn
 subst he
 rw [h]
 exact ⟨_, _, _, rfl, ⟨Kd.R_nil _ _ _ _ _, Kd.R_nil _ _ _ _ _, Kd.R_nil _ _ _ _ _⟩, hb⟩
theorem GB {s : ByteArray} {w w' : World} {e : Ending} {bb bf : Nat} {b : Bk} {vs vf va : Value} {M : List S78} (hen : e = .returned (.tuple #[.agg #[.int .u32 b.addr, .string b.aff, vs, vf, va], .bool true])) (h : cy s = true) (he : cQ s = b) (hM : M = b.attrs.map vc) (h1 : w.heap.size ≤ bb) (h2 : bb ≤ bf)
  (hs : Kd.R (Kd.int .i64) 3 w' bb (fun k => k < bf) vs b.slots) (hf : Kd.R (Kd.int .i64) 3 w' bf (fun _ => True) vf b.free) (ha : Kd.R lP 78 w' bb (fun _ => True) va M)
  (hb : Below w.heap.size w w') : pn s w e w' := by
 unfold pn
 subst hen
 subst hM
 subst he
 rw [h]
 refine ⟨_, _, _, rfl, ⟨?_, ?_, Kd.R_lower ha h1⟩, hb⟩
 ·refine Kd.R_lower (Kd.R_mono hs (fun k hk e => ?_)) h1
  have := Kd.R_base hf k e.symm
  omega
 ·refine Kd.R_lower (Kd.R_reok rfl hf (fun k hk e => ?_)) (Nat.le_trans h1 h2)
  have h3 := hs.1 k e.symm
  have := Kd.R_base hf k hk
  omega
def pL.T9 : Bool × List (List Nat × List Nat) := (true, [([], []), ([0], [0]), ([], []), ([], []), ([3], [3]), ([2, 4], [2, 4]), ([5], [5]), ([1, 6, 4], [1, 6]), ([0, 1, 2, 3, 4, 5, 6, 7], []), ([8, 7, 7, 0, 1, 2, 3, 4, 5, 6, 7], [7, 8])])
def pL.B9 : List Nat := [0, 1, 0, 0, 8, 28, 60, 127, 255, 511]
theorem pL.tab9 : dS .any (opsOf Tryz.f40 9) = pL.T9 := by kernel_rfl
theorem pL.bits9 : ew pL.T9.2 pL.B9 = true := by kernel_rfl
set_option maxHeartbeats 8000000 in
set_option maxRecDepth 100000 in
theorem GC (s : ByteArray) (hs : s.size ≤ 1000000) (w : World) :
  Calls Tryz.prog 40 #[.string s] w (pn s w) := by
 have qH := tF s
 have mo := tE s
 have EO : bj (aT (r2 s).2.1 (r2 s).2.2 1).1 < 256 := mi (rk s) _
 have LA := tD s
 have HPI := ak (K3 s)
 have wq := ak (cO (rk s) (r2 s).2.2 1).2
 have HBK : Aside0 (cQ s = ⟨(bj (r1 s).1 : Nat), strOfNums (r2 s).1, j8 (List.replicate 64 0) (r4 s).1, (r6 s).1, (r3 s).1⟩) := ⟨rfl⟩
 have pW : Aside0 (ej (bj (aT (r2 s).2.1 (r2 s).2.2 1).1) (aT (r2 s).2.1 (r2 s).2.2 1).2.1 (aT (r2 s).2.1 (r2 s).2.2 1).2.2 = r3 s) := ⟨rfl⟩
 have H0 := ak (@Oh · · · s)
 have H1 := ak (@Og · · · s)
 have H2 := ak (@Oi · · · s)
 have H3 := ak (@Of · · · s)
 have HRB := ak (@KV · · · s hs)
 have HOK : Aside0 (cy s = (ie s && (decide (bj (r0 s).1 = 66) && eZ (cQ s)))) := ⟨rfl⟩
 generalize bj (r0 s).1 = n0 at qH H0 HOK HPI
 generalize bj (r1 s).1 = n1 at mo H1 HBK
 generalize UN : aT (r2 s).2.1 (r2 s).2.2 1 = p3 at H3 pW EO wq
 obtain ⟨L3, l3, QR⟩ := p3
 dsimp only at H3 pW EO wq
 generalize bj L3 = n3 at H3 pW EO
 generalize strOfNums (r2 s).1 = aff at H2 HBK
 have kb := fun (w : World) => Lib.run_convert_string_bytes (P := Tryz.prog) w 9 61 5 s Tryz.underlying9 Tryz.underlying61 Tryz.underlying5
 clear UN
 go_enter Tryz.func40, Tryz.ntmps40
 go_wp2_with (first
  | (refine a6 (some 2) rfl rfl 49 rfl gR (fun _ => by kernel_rfl) ?_; intro g2 W1 dH fV aW; have fv := ak fV; have cP := ak aW; have fw := ak dH; clear fV aW dH)
  | ((with_reducible refine aA (N := 15) rfl ?_); refine eC rfl 150 #[(0, .tmp 14)] rfl [(0, .slice (some ⟨W1.heap.size, 0, none⟩) s.size (grownCap W1 s.size 0 5))] (by simp only [List.map_toArray, List.map_cons, List.map_nil]; rfl) [Value.slice (some ⟨W1.heap.size, 0, none⟩) s.size (grownCap W1 s.size 0 5), .int .i64 0, .bool false] (GJ _ _ _) ?_)
  | (refine fL rfl 150 (.tmp 15) rfl _ rfl ?_; intro gr W2 hgr zy bC; have HBY := ak (Lib.bytesWorld_below W1 5 s); have uT := ak (HBY.out.trans (bC.mono HBY.out.size)); have jY := ak (HRB.out _ _ _ bC hgr zy); have iR := ak (fv.out.below uT.out); have fx := ak (cP.out.trans (uT.out.mono cP.out.size)); have HGR := ak (show w.heap.size ≤ gr by have := cP.out.size; rw [Lib.bytesWorld_size] at hgr; omega); have HGB := ak (show w.heap.size ≤ W1.heap.size from cP.out.size); have HNE := ak (show g2 ≠ gr by have := fv.out.lt; rw [Lib.bytesWorld_size] at hgr; omega); have HNB := ak (show g2 ≠ W1.heap.size by have := fv.out.lt; omega); have HGBR := ak (show W1.heap.size < gr by rw [Lib.bytesWorld_size] at hgr; omega); generalize hbB : W1.heap.size = gB at jY HGB HNB HGBR; clear hgr zy bC HBY uT fv cP HRB hbB kb)
  | (go_at_call 64; refine (H0.out _ _ _ jY.out).mono ?_; rintro e W3 ⟨rfl, fB, dx⟩; have kM := ak fB; have kv := ak (iR.out.grown dx (fun e => HNE.out (Option.some.inj e))); have iw := ak (fx.out.grown dx fx.out.size (by intro k hk; cases hk; exact HGR.out)); clear fB dx jY iR fx)
  | (go_at_call 64; refine (H1.out _ _ _ kM.out).mono ?_; rintro e W4 ⟨rfl, xN, da⟩; have te := ak xN; have mY := ak (kv.out.grown da (fun e => HNE.out (Option.some.inj e))); have jR := ak (iw.out.grown da iw.out.size (by intro k hk; cases hk; exact HGR.out)); clear xN da kM kv iw)
  | (go_at_call 65; refine (H2.out _ _ _ te.out).mono ?_; rintro e W5 ⟨rfl, sB, fQ⟩; have td := ak sB; have lq := ak (mY.out.grown fQ (fun e => HNE.out (Option.some.inj e))); have fJ := ak (jR.out.grown fQ jR.out.size (by intro k hk; cases hk; exact HGR.out)); clear sB fQ te mY jR)
  | ((with_reducible refine aA (N := 24) rfl ?_); refine eC rfl 49 #[(0, .tmp 21), (1, .tmp 23)] rfl [(0, .int .u32 (n1 : Int)), (1, .string aff)] (by simp only [List.map_toArray, List.map_cons, List.map_nil]; rfl) [Value.int .u32 (n1 : Int), .string aff, .slice none 0 0, .slice none 0 0, .slice none 0 0] (Mp _ _) ?_)
  | (refine a6 (some 5) rfl rfl 49 rfl gR (fun _ => by kernel_rfl) ?_; intro g5 W6 jF jG dJ; have xX := ak jG; have n7 := ak (lq.out.below dJ); have Fv := ak (td.out.below dJ); have lT := ak (fJ.out.trans (dJ.mono fJ.out.size)); have uw := ak (show w.heap.size ≤ g5 by have := fJ.out.size; omega); have DH := ak (show g2 ≠ g5 by have := lq.out.lt; omega); have qj := ak (show gr ≠ g5 by have := td.out.lt; omega); have xf := ak (show gB ≠ g5 by have := td.out.lt; have := HGBR.out; omega); clear jG dJ jF lq td fJ)
  | (refine aM rfl 49 (.tmp 5) (.tmp 24) rfl g5 [Value.int .u32 (n1 : Int), .string aff, .slice none 0 0, .slice none 0 0, .slice none 0 0] rfl rfl 49 _ xX.out 5 (by kernel_rfl) rfl rfl (by intro u hu; simp at hu; rcases hu with rfl | rfl | rfl | rfl | rfl <;> rfl) ?_; intro W7 xJ cz; have s9 := ak xJ; have pf := ak (n7.out.grown cz (fun e => DH.out (Option.some.inj e))); have I7 := ak (Fv.out.grown cz (fun k hk e => by have := Option.some.inj e; exact xf.out (hk.symm.trans this)) (fun e => qj.out (Option.some.inj e))); have kO := ak (lT.out.grown cz lT.out.size (by intro k hk; cases hk; exact uw.out)); clear xJ cz xX n7 Fv lT)
  | (go_at_call 64; refine (H3.out _ _ _ I7.out).mono ?_; rintro e W8 ⟨rfl, PH, b9⟩; have Cp := ak PH; have nN := ak (pf.out.grown b9 (fun e => HNE.out (Option.some.inj e))); have uu := ak (s9.out.grown b9 (fun e => qj.out (Option.some.inj e).symm)); have ia := ak (kO.out.grown b9 kO.out.size (by intro k hk; cases hk; exact HGR.out)); clear PH b9 I7 pf s9 kO))
 clear H0 H1 H2 H3
 obtain ⟨bb, hbb⟩ : ∃ bb, bb = gr + 1 := ⟨_, rfl⟩
 have Ha := ak (show gB < bb by have := HGBR.out; omega)
 have Nl := ak (show gr < bb by omega)
 have HWB := ak (show w.heap.size ≤ bb by have := HGR.out; omega)
 have HLE := ak (fun (W : World) (l : List Int) (bad : Bool) (h : Rq W gr (fun k => k = gB) l bad) => show bb ≤ W.heap.size by have := h.lt; omega)
 clear hbb
 go_loopw [7, 8] (fun i _ W => ∃ (k m : Nat) (l2 : List Int) (gZ : Bool) (acc : List At) (va : Value), k + m = n3 ∧ acc.length ≤ k ∧ i = .int .i64 k ∧ Aside0 (bS W g5 [.int .u32 (n1 : Int), .string aff, .slice none 0 0, .slice none 0 0, va] 49) ∧ Aside0 (Kd.R lP 78 W bb (fun _ => True) va (acc.map vc)) ∧ Aside0 (Rq W gr (fun k => k = gB) l2 gZ) ∧ Aside0 (dK l2) ∧ Aside0 (bS W g2 gR 49) ∧ Aside0 (Below w.heap.size w W) ∧ Aside0 (r3 s = (acc ++ (ej m l2 gZ).1, (ej m l2 gZ).2))) (fun i _ _ => n3 - (intOf i).toNat)
 case atStart => exact ⟨0, n3, l3, QR, [], _, by omega, by simp, rfl, uu, ⟨Kd.R_nil _ _ _ _ _⟩, Cp, wq, nN, ia, ⟨by rw [pW.out, List.nil_append]⟩⟩
 case round =>
  clear uu Cp wq nN ia pW
  obtain ⟨k, m, l2, gZ, acc, va, hkm, hacc, rfl, HY, HA, HQ, HU, HX, HB, HE⟩ := hrel
  obtain ⟨W, rfl⟩ : ∃ W : World, W = wr := ⟨_, rfl⟩
  by_cases hgo : 0 < m ∧ gZ = false
  ·obtain ⟨hm, rfl⟩ := hgo
   obtain ⟨m, rfl⟩ : ∃ q, m = q + 1 := ⟨m - 1, by omega⟩
   have aW : decide ((k : Int) < (n3 : Int)) = true := by simp; omega
   have UQ : k < n3 := by omega
   have mq := HQ.out.c2
   have n9 := ak (show r3 s = (acc ++ (pU l2 :: (ej m (fF l2).2.1 (fF l2).2.2).1), (ej m (fF l2).2.1 (fF l2).2.2).2) from HE.out)
   have wu := ak (fun (W : World) (h : Rq W gr (fun k => k = gB) l2 false) => sP HU.out W h)
   have vN := j3 HU.out false
   have tc := ak (fun (W : World) (h : Rq W gr (fun k => k = gB) (cH l2 false).2.1 (cH l2 false).2.2) => sP vN W h)
   have mU := ak (j3 vN (cH l2 false).2.2)
   have HAT : Aside0 (pU l2 = ⟨strOfNums (cH l2 false).1, strOfNums (cH (cH l2 false).2.1 (cH l2 false).2.2).1⟩) := ⟨rfl⟩
   have HTE : Aside0 (fF l2 = cH (cH l2 false).2.1 (cH l2 false).2.2) := ⟨rfl⟩
   generalize fF l2 = q1 at n9 HTE
   generalize pU l2 = P5 at n9 HAT
   generalize cH l2 false = q0 at wu tc mU HAT HTE vN
   generalize cH q0.2.1 q0.2.2 = q2 at tc mU HAT HTE
   obtain ⟨b0, l4, d4⟩ := q0
   obtain ⟨b1, l5, d5⟩ := q2
   dsimp only at wu tc mU HAT HTE
   obtain ⟨s0, kJ⟩ : ∃ s0, s0 = strOfNums b0 := ⟨_, rfl⟩
   obtain ⟨s1, nH⟩ : ∃ s1, s1 = strOfNums b1 := ⟨_, rfl⟩
   rw [← kJ] at wu HAT
   rw [← nH] at tc HAT
   obtain rfl := HAT.out
   obtain ⟨M, hM⟩ : ∃ M : List S78, M = acc.map vc := ⟨_, rfl⟩
   obtain ⟨L, hL⟩ : ∃ L : List S78, L = M ++ [(⟨s0, s1⟩ : S78)] := ⟨_, rfl⟩
   have HL := ak hL
   have HLM := ak (show L = (acc ++ [(⟨s0, s1⟩ : At)]).map vc by rw [hL, hM, List.map_append]; rfl)
   have hml : M.length ≤ 255 := by rw [hM, List.length_map]; omega
   rw [← hM] at HA
   have HKM := ak hkm
   clear kJ nH vN HU HE hL hM hkm hm
   obtain ⟨Am, cm, rfl⟩ := Kd.R_slice HA.out
   go_wp2_with (first
    | (go_at_call 65; refine (wu.out _ HQ.out).mono ?_; rintro e W1 ⟨rfl, jE, dh⟩; have jZ := ak jE; have fv := ak (HX.out.grown dh (fun e => HNE.out (Option.some.inj e))); have gH := ak (HY.out.grown dh (fun e => qj.out (Option.some.inj e).symm)); have jm := ak (uQ HA.out HQ.out (by decide) dh); have cP := ak (HB.out.grown dh HB.out.size (by intro k hk; cases hk; exact HGR.out)); clear jE dh HQ HX HY HA HB mq))
   have hbd : Below W1.heap.size W1 W1.drew := dq (Below.refl _ _)
   have jY := ak (jZ.out.below hbd)
   have iR := ak (fv.out.below hbd)
   have jX := ak (gH.out.below hbd)
   have lr := ak (Kd.R_below jm.out hbd)
   have fx := ak (dq cP.out)
   clear hbd jZ fv gH jm cP
   refine ee (n := 10) (S := fun w' => w'.cell? ⟨g5, 4, none⟩ = some (.slice Am M.length cm)) (ds := [9]) #[false, false, false, false, false, false, false, false, false, false] (by kernel_rfl) rfl rfl (jX.out.cell 4 _ rfl) (fun hHeld => ?_); refine cV pL.tab9 pL.bits9 (fun an cj => ?_)
   refine pu 0 an.out ?_
   refine tk 1 an.out cj.out hHeld ?_
   refine pu 2 an.out ?_
   refine pu 3 an.out ?_
   refine on 4 an.out (fun K hK => ?_)
   refine gs Tryz.func65 #[.pointer (some ⟨gr, 0, none⟩)] (tc.out _ jY.out) ?_
   rintro e W3 ⟨rfl, fB, dx⟩
   refine ⟨_, rfl, ?_⟩
   have kM := ak fB; have kv := ak (iR.out.grown dx (fun e => HNE.out (Option.some.inj e))); have pV := ak (jX.out.grown dx (fun e => qj.out (Option.some.inj e).symm)); have uz := ak (uQ lr.out jY.out (by decide) dx); have iw := ak (fx.out.grown dx fx.out.size (by intro k hk; cases hk; exact HGR.out)); clear fB dx jY iR lr fx
   refine kn hK (pV.out.cell 4 _ rfl) (fun hHeld => ?_)
   clear hK K
   refine pu 5 an.out ?_
   refine on 6 an.out (fun K hK => ?_)
   have Av := ak (pV.out.alloc (.cells [Value.string s0, .string s1].toArray 78))
   refine oe (v := .slice (some ⟨W3.heap.size, 0, none⟩) 1 1) (w1 := W3.alloc (.cells [Value.string s0, .string s1].toArray 78)) (by rfl) ?_ ?_
   ·go_simp
    try rfl
   refine kn hK (Av.out.cell 4 _ rfl) (fun hHeld => ?_)
   clear hK K
   refine on 7 an.out (fun K hK => ?_)
   refine Kd.R_append_step lP (w0 := W3) bb (by rfl) (.tmp 43) (.tmp 48) 47 78 (.agg #[.string ⟨#[]⟩, .string ⟨#[]⟩]) 32 rfl Tryz.underlying47 Gj rfl (by decide) (by omega) _ M ⟨s0, s1⟩ [.string s0, .string s1] (fun _ => True) (fun _ => False) rfl rfl (Ju _ _ _ _) (fun _ h => h.elim) (fun _ _ => trivial) uz.out (Below.refl _ _) (HLE.out _ _ _ kM.out) (by omega) ?_
   intro v8 w8 mO hO b9 uJ
   rw [← HL.out] at mO
   have uu := ak (pV.out.grown b9 (pV.out.ne_row uz.out (by decide)))
   have nN := ak (kv.out.grown b9 (kv.out.ne_row uz.out (by decide)))
   have Cp := ak (yL kM.out uz.out b9 Ha.out Nl.out)
   have Np := ak mO
   have ia := ak (iw.out.trans (hO.mono HWB.out))
   obtain ⟨A8, c8, rfl⟩ := Kd.R_slice mO
   clear mO hO b9 uJ
   refine kn hK (uu.out.cell 4 _ rfl) (fun hHeld => ?_)
   clear hK K
   refine pu 8 an.out ?_
   refine vG (i := 9) (N := none) #[true, true, true, true, true, true, true, true, true, true] rfl rfl (oS an.out (by kernel_rfl)) (by decide) (fun K hK => ?_)
   have X0 := uu.out.frozen 4; have PT := uu.out.cell 4 _ rfl
   refine tt (w1 := ?_) (by rfl) rfl ?_ ?_
   rotate_left
   ·go_simp
    rfl
   refine hK.out _ _ ?_
   clear hK K
   refine dn an.out ?_
   have Au := ak (show bS (w8.setCell ⟨g5, 4, none⟩ (.slice A8 L.length c8)) g5 [.int .u32 (n1 : Int), .string aff, .slice none 0 0, .slice none 0 0, .slice A8 L.length c8] 49 from uu.out.set 4 (.slice A8 L.length c8))
   have hgS := cS w8 g5 4 (.slice A8 L.length c8)
   have VR := ak (Cp.out.grown hgS (fun k hk e => by have := Option.some.inj e; exact xf.out (hk.symm.trans this)) (fun e => qj.out (Option.some.inj e)))
   clear hgS
   go_wp2
   go_roundw
   case rel => exact ⟨k + 1, m, l5, d5, acc ++ [⟨s0, s1⟩], _, by have := HKM.out; omega, by rw [List.length_append, List.length_singleton]; omega, by go_num, Au, ⟨by rw [← HLM.out]; exact cR Np.out uu.out (by decide) (cS _ _ _ _)⟩, VR, mU, ⟨nN.out.far (p := ⟨g5, 4, none⟩) DH.out _⟩, ⟨Below.setCell ia.out (p := ⟨g5, 4, none⟩) uw.out _⟩, ⟨by rw [n9.out, HTE.out]; simp⟩⟩
   case measure => simp [intOf]; omega
  ·have hEx : r3 s = (acc, l2, gZ) ∧ (m = 0 ∨ (0 < m ∧ gZ = true)) := by
    rcases Nat.eq_zero_or_pos m with rfl | hm
    ·exact ⟨by rw [HE.out]; simp [ej], .inl rfl⟩
    ·obtain ⟨m, rfl⟩ : ∃ q, m = q + 1 := ⟨m - 1, by omega⟩
     have hbad : gZ = true := by
      cases gZ with
      | true => rfl
      | false => exact absurd ⟨hm, rfl⟩ hgo
     subst hbad
     exact ⟨by rw [HE.out]; simp [ej], .inr ⟨hm, rfl⟩⟩
   obtain ⟨BK, hcase⟩ := hEx
   have H4 := (@Ok · · · s)
   have H5 := ak (@Oe · · · s)
   have H6 := ak (@Oj · · · s)
   have AH := ak (Ei s)
   have MV : Aside0 (dK (r4 s).1) := ⟨(cO (CF s) _ _).1⟩
   have Nh := ak (Eh s)
   have MU : Aside0 (dK (r6 s).1) := ⟨(cO (Hw s) _ _).1⟩
   have HGD := ak (sQ s)
   have HRR := ak (yi s)
   have HDN : Aside0 (ie s = (!(r6 s).2.2 && (((r6 s).2.1.length : Int) == 0))) := ⟨rfl⟩
   have HBO := ak (pD s)
   rw [BK] at H4 HBK
   dsimp only at H4 HBK
   have Nk := ak H4
   clear H4 BK HE
   generalize bj (r5 s).1 = n5 at LA H5 H6
   generalize (r4 s).1 = L4 at Nk AH MV HGD HBK
   generalize (r6 s).1 = L6 at H6 Nh MU HBK
   generalize EM : (r6 s).2 = q6 at H6 HDN
   obtain ⟨l6, Ms⟩ := q6
   dsimp only at H6 HDN
   obtain ⟨M, hM⟩ : ∃ M : List S78, M = acc.map vc := ⟨_, rfl⟩
   have HM := ak hM
   have hml : M.length ≤ 255 := by rw [hM, List.length_map]; omega
   rw [← hM] at HA
   clear hM EM hgo
   obtain ⟨Am, cm, rfl⟩ := Kd.R_slice HA.out
   have mq := HQ.out.c2
   rcases hcase with rfl | ⟨hm, rfl⟩
   rotate_left
   have aW : decide ((k : Int) < (n3 : Int)) = true := by simp; omega
   have UQ : k < n3 := by omega
   clear hkm hm
   rotate_left
   obtain rfl : k = n3 := by omega
   have aW : decide ((k : Int) < (k : Int)) = false := by simp
   clear hkm
   all_goals
    go_wp2_with (first
     | (go_at_call 66; refine (Nk.out _ _ _ HQ.out).mono ?_; rintro e W1 ⟨u, rfl, ue, jE, dh⟩; have jZ := ak jE; have fv := ak (HX.out.grown dh (fun e => HNE.out (Option.some.inj e))); have gH := ak (HY.out.grown dh (fun e => qj.out (Option.some.inj e).symm)); have jm := ak (uQ HA.out HQ.out (by decide) dh); have cP := ak (HB.out.grown dh HB.out.size (by intro k hk; cases hk; exact HGR.out)); obtain ⟨A4, c4, rfl, QD, PX⟩ := ue; have Qi := ak PX; clear jE dh HQ HX HY HA HB mq Nk PX))
    go_loopw [10, 54] (fun _ i V => ∃ (j : Nat) (vs : Value), j ≤ L4.length ∧ i = .int .i64 j ∧ Aside0 (bS V g5 [.int .u32 (n1 : Int), .string aff, vs, .slice none 0 0, .slice Am M.length cm] 49) ∧ Aside0 (Kd.R (Kd.int .i64) 3 V bb (fun _ => True) vs (L4.take j)) ∧ Aside0 (Kd.R lP 78 V bb (fun _ => True) (.slice Am M.length cm) M) ∧ Aside0 (Kd.F (Kd.int .u8) V (fun k => k = gB) A4 L4.length L4) ∧ Aside0 (Rq V gr (fun k => k = gB) (r4 s).2.1 (r4 s).2.2) ∧ Aside0 (bS V g2 gR 49) ∧ Aside0 (Below w.heap.size w V)) (fun _ i _ => L4.length - (intOf i).toNat)
    case atStart => exact ⟨0, _, by omega, rfl, gH, ⟨Kd.R_nil _ _ _ _ _⟩, jm, Qi, jZ, fv, cP⟩
    case round =>
     clear gH jm Qi jZ fv cP aW
     obtain ⟨j, vs, hj, rfl, HY, HS, HA, HF, HQ, HX, HB⟩ := hrel
     obtain ⟨V, rfl⟩ : ∃ V : World, V = wr := ⟨_, rfl⟩
     have hjl : j ≤ 64 := by have := AH.out; omega
     by_cases hjn : j < L4.length
     ·have hjb : decide ((j : Int) < (L4.length : Int)) = true := by simp; omega
      obtain ⟨ad, eA, hx⟩ := Kd.at_int (Kd.F_now HF.out) j (by omega) (by omega)
      cases eA
      rw [Int.toNat_natCast] at hx
      have p1 : ((j : Int) < (L4.length : Int)) = True := eq_true (by omega)
      obtain ⟨z, hz⟩ : ∃ z : Nat, rd L4 j = (z : Int) := ⟨(rd L4 j).toNat, by have := (iM MV.out j).1; omega⟩
      have nG : z < 256 := by have := (iM MV.out j).2; omega
      rw [hz] at hx
      obtain ⟨L, hL⟩ : ∃ L : List Int, L = L4.take (j + 1) := ⟨_, rfl⟩
      have HLq := ak hL
      have HT := ak (show L = L4.take j ++ [(z : Int)] by rw [hL, List.take_add_one, List.getElem?_eq_getElem hjn, ← hz]; simp [rd, List.getD, hjn])
      clear hL hz
      have hlen : (L4.take j).length ≤ 64 := by have := AH.out; simp; omega
      have mq := HY.out.cell 2 _ rfl
      go_wp2_with (first
       | ((with_reducible refine ei (b := .append) (xs := #[.tmp 59, .tmp 62]) rfl ?_); at_builtin; refine Kd.R_append (Kd.int .i64) (w0 := V) bb rfl (.tmp 59) (.tmp 62) 46 3 (.int .i64 0) 8 rfl Tryz.underlying46 EE rfl (by decide) (by omega) vs (L4.take j) (z : Int) [.int .i64 (z : Int)] (fun _ => True) (fun _ => False) rfl rfl rfl (fun _ hk => hk.elim) (fun _ _ => trivial) HS.out (Below.refl _ _) (HLE.out _ _ _ HQ.out) (by omega) ?_; intro v1 w1 fK aW dh kZ; have gH := ak (HY.out.grown dh (HY.out.ne_row HS.out (by decide))); have fv := ak (HX.out.grown dh (HX.out.ne_row HS.out (by decide))); have jm := ak (Kd.R_over HA.out HS.out (by decide) dh); have jZ := ak (yL HQ.out HS.out dh Ha.out Nl.out); have tj := ak (Kd.F_grown HF.out dh (fun k hk he => by subst hk; have := Kd.R_base HS.out _ he.symm; have := Ha.out; omega)); rw [← HT.out] at fK; have lD := ak fK; have cP := ak (HB.out.trans (aW.mono HWB.out)); obtain ⟨A1, c1, rfl⟩ := Kd.R_slice fK; have mr := gH.out.cell 2 _ rfl; have zs := gH.out.frozen 2; clear fK aW dh kZ mq hx HY HX HS HA HQ HF HB))
      have jX := ak (show bS (w1.setCell ⟨g5, 2, none⟩ (.slice A1 L.length c1)) g5 [.int .u32 (n1 : Int), .string aff, .slice A1 L.length c1, .slice none 0 0, .slice Am M.length cm] 49 from gH.out.set 2 (.slice A1 L.length c1))
      have hgS := cS w1 g5 2 (.slice A1 L.length c1)
      have jY := ak (jZ.out.grown hgS (fun k hk e => by have := Option.some.inj e; exact xf.out (hk.symm.trans this)) (fun e => qj.out (Option.some.inj e)))
      have uy := ak (Kd.F_grown tj.out hgS (fun k hk e => by have := Option.some.inj e; exact xf.out (hk.symm.trans this)))
      have lr := ak (cR jm.out gH.out (by decide) hgS)
      have mV := ak (cR lD.out gH.out (by decide) hgS)
      clear hgS
      go_roundw
      case rel => exact ⟨j + 1, _, by omega, by go_num, jX, ⟨by rw [← HLq.out]; exact mV.out⟩, lr, uy, jY, ⟨fv.out.far (p := ⟨g5, 2, none⟩) DH.out _⟩, ⟨Below.setCell cP.out (p := ⟨g5, 2, none⟩) uw.out _⟩⟩
      case measure => simp [intOf]; omega
     ·obtain rfl : j = L4.length := by omega
      have hjb : decide ((L4.length : Int) < (L4.length : Int)) = false := by simp
      rw [List.take_of_length_le (Nat.le_refl L4.length)] at HS
      obtain ⟨As, cs, rfl⟩ := Kd.R_slice HS.out
      have HS' := ak (Kd.R_mono (ok' := fun k => k < V.heap.size) (Kd.R_bound HS.out) (fun k hk => hk.2.2.1))
      obtain ⟨bf, hbf⟩ : ∃ bf, bf = V.heap.size := ⟨_, rfl⟩
      rw [← hbf] at HS'
      have HBF := ak (show bb ≤ bf by rw [hbf]; exact HLE.out _ _ _ HQ.out)
      have HBV := ak (show bf ≤ V.heap.size by omega)
      have HRB' := ak (show gr < bf by have := HQ.out.lt; omega)
      have HGBF := ak (show gB < bf by have := HQ.out.lt; have := HGBR.out; omega)
      clear HS hbf hjl
      go_wp2_with (first
       | (go_at_call 64; refine (H5.out _ _ _ HQ.out).mono ?_; rintro e W1 ⟨rfl, jE, dh⟩; have jZ := ak jE; have fv := ak (HX.out.grown dh (fun e => HNE.out (Option.some.inj e))); have gH := ak (HY.out.grown dh (fun e => qj.out (Option.some.inj e).symm)); have jm := ak (uQ HA.out HQ.out (by decide) dh); have lD := ak (uQ HS'.out HQ.out (by decide) dh); have cP := ak (HB.out.grown dh HB.out.size (by intro k hk; cases hk; exact HGR.out)); have DL := ak (Nat.le_trans HBV.out dh.size); clear jE dh HQ HX HY HA HS' HB HBV HF)
       | (go_at_call 66; refine (H6.out _ _ _ jZ.out).mono ?_; rintro e W2 ⟨u, rfl, EK, hJ, dH⟩; have jY := ak hJ; have iR := ak (fv.out.grown dH (fun e => HNE.out (Option.some.inj e))); have jX := ak (gH.out.grown dH (fun e => qj.out (Option.some.inj e).symm)); have lr := ak (uQ jm.out jZ.out (by decide) dH); have mV := ak (uQ lD.out jZ.out (by decide) dH); have fx := ak (cP.out.grown dH cP.out.size (by intro k hk; cases hk; exact HGR.out)); have DK := ak (Nat.le_trans DL.out dH.size); obtain ⟨A6, c6, rfl, LM, PW⟩ := EK; have Qh := ak PW; clear hJ dH PW jZ fv gH jm lD cP DL))
      go_loopw [12, 72] (fun _ i U => ∃ (j : Nat) (vf : Value), j ≤ L6.length ∧ i = .int .i64 j ∧ Aside0 (bS U g5 [.int .u32 (n1 : Int), .string aff, .slice As L4.length cs, vf, .slice Am M.length cm] 49) ∧ Aside0 (Kd.R (Kd.int .i64) 3 U bb (fun k => k < bf) (.slice As L4.length cs) L4) ∧ Aside0 (Kd.R (Kd.int .i64) 3 U bf (fun _ => True) vf (L6.take j)) ∧ Aside0 (Kd.R lP 78 U bb (fun _ => True) (.slice Am M.length cm) M) ∧ Aside0 (Kd.F (Kd.int .u8) U (fun k => k = gB) A6 L6.length L6) ∧ Aside0 (Rq U gr (fun k => k = gB) l6 Ms) ∧ Aside0 (bS U g2 gR 49) ∧ Aside0 (bf ≤ U.heap.size) ∧ Aside0 (Below w.heap.size w U)) (fun _ i _ => L6.length - (intOf i).toNat)
      case atStart => exact ⟨0, _, by omega, rfl, jX, mV, ⟨Kd.R_nil _ _ _ _ _⟩, lr, Qh, jY, iR, DK, fx⟩
      case round =>
       clear jX mV lr Qh jY iR DK fx
       obtain ⟨j, vf, hj, rfl, HY, HS, HR, HA, HF, HQ, HX, HBV, HB⟩ := hrel
       obtain ⟨U, rfl⟩ : ∃ U : World, U = wr := ⟨_, rfl⟩
       have hjl : j ≤ 255 := by have := Nh.out; omega
       by_cases hjn : j < L6.length
       ·have hjb : decide ((j : Int) < (L6.length : Int)) = true := by simp; omega
        obtain ⟨ad, eA, hx⟩ := Kd.at_int (Kd.F_now HF.out) j (by omega) (by omega)
        cases eA
        rw [Int.toNat_natCast] at hx
        have p1 : ((j : Int) < (L6.length : Int)) = True := eq_true (by omega)
        obtain ⟨z, hz⟩ : ∃ z : Nat, rd L6 j = (z : Int) := ⟨(rd L6 j).toNat, by have := (iM MU.out j).1; omega⟩
        have nG : z < 256 := by have := (iM MU.out j).2; omega
        rw [hz] at hx
        obtain ⟨L, hL⟩ : ∃ L : List Int, L = L6.take (j + 1) := ⟨_, rfl⟩
        have HLq := ak hL
        have HT := ak (show L = L6.take j ++ [(z : Int)] by rw [hL, List.take_add_one, List.getElem?_eq_getElem hjn, ← hz]; simp [rd, List.getD, hjn])
        clear hL hz
        have hlen : (L6.take j).length ≤ 255 := by have := Nh.out; simp; omega
        have zx := HY.out.cell 3 _ rfl
        go_wp2_with (first
         | ((with_reducible refine ei (b := .append) (xs := #[.tmp 77, .tmp 80]) rfl ?_); at_builtin; refine Kd.R_append (Kd.int .i64) (w0 := U) bf rfl (.tmp 77) (.tmp 80) 46 3 (.int .i64 0) 8 rfl Tryz.underlying46 EE rfl (by decide) (by omega) vf (L6.take j) (z : Int) [.int .i64 (z : Int)] (fun _ => True) (fun _ => False) rfl rfl rfl (fun _ hk => hk.elim) (fun _ _ => trivial) HR.out (Below.refl _ _) HBV.out (by omega) ?_; intro v1 w1 fK aW dh kZ; have gH := ak (HY.out.grown dh (HY.out.ne_row HR.out (by decide))); have fv := ak (HX.out.grown dh (HX.out.ne_row HR.out (by decide))); have jm := ak (Kd.R_over HA.out HR.out (by decide) dh); have lD := ak (Ky HS.out (fun _ h => h) HR.out dh); have jZ := ak (yL HQ.out HR.out dh HGBF.out HRB'.out); have tj := ak (Kd.F_grown HF.out dh (fun k hk he => by subst hk; have := Kd.R_base HR.out _ he.symm; have := HGBF.out; omega)); rw [← HT.out] at fK; have kx := ak fK; have DL := ak (Nat.le_trans HBV.out aW.size); have cP := ak (HB.out.trans (aW.mono (Nat.le_trans HWB.out HBF.out))); obtain ⟨A1, c1, rfl⟩ := Kd.R_slice fK; have mr := gH.out.cell 3 _ rfl; have zs := gH.out.frozen 3; clear fK aW dh kZ zx hx HY HX HS HR HA HQ HF HBV HB))
        have jX := ak (show bS (w1.setCell ⟨g5, 3, none⟩ (.slice A1 L.length c1)) g5 [.int .u32 (n1 : Int), .string aff, .slice As L4.length cs, .slice A1 L.length c1, .slice Am M.length cm] 49 from gH.out.set 3 (.slice A1 L.length c1))
        have hgS := cS w1 g5 3 (.slice A1 L.length c1)
        have jY := ak (jZ.out.grown hgS (fun k hk e => by have := Option.some.inj e; exact xf.out (hk.symm.trans this)) (fun e => qj.out (Option.some.inj e)))
        have uy := ak (Kd.F_grown tj.out hgS (fun k hk e => by have := Option.some.inj e; exact xf.out (hk.symm.trans this)))
        have lr := ak (cR jm.out gH.out (by decide) hgS)
        have mV := ak (cR lD.out gH.out (by decide) hgS)
        have n8 := ak (cR kx.out gH.out (by decide) hgS)
        have DK := ak (Nat.le_trans DL.out hgS.size)
        clear hgS
        go_roundw
        case rel => exact ⟨j + 1, _, by omega, by go_num, jX, mV, ⟨by rw [← HLq.out]; exact n8.out⟩, lr, uy, jY, ⟨fv.out.far (p := ⟨g5, 3, none⟩) DH.out _⟩, DK, ⟨Below.setCell cP.out (p := ⟨g5, 3, none⟩) uw.out _⟩⟩
        case measure => simp [intOf]; omega
       ·obtain rfl : j = L6.length := by omega
        have hjb : decide ((L6.length : Int) < (L6.length : Int)) = false := by simp
        rw [List.take_of_length_le (Nat.le_refl L6.length)] at HR
        obtain ⟨Af, cf, rfl⟩ := Kd.R_slice HR.out
        have mq := HQ.out.c2
        cases Ms with
        | true =>
         have HNO := ak (show cy s = false by rw [HOK.out, HDN.out]; rfl)
         go_wp2_with (first
                   | ((with_reducible refine aA (N := 104) rfl ?_); refine ev rfl 49 #[] rfl gR (tO _) ?_)
                   | (refine aM rfl 49 (.tmp 2) (.tmp 104) rfl g2 gR rfl rfl 49 _ HX.out 5 (by kernel_rfl) rfl rfl (by intro u hu; simp [gR] at hu; rcases hu with rfl | rfl | rfl | rfl | rfl <;> rfl) ?_; intro W9 gp dp))
         exact bodyPost_ret (bV rfl _ _ g2 49 _ (0, 0) _ rfl gp Tryz.underlying49 rfl (by kernel_rfl)) rfl (tJ rfl HNO.out (HB.out.grown dp HB.out.size (by intro k hk; cases hk; exact fw.out)))
        | false =>
         by_cases PQ : l6.length = 0
         ·have hd : ie s = true := by rw [HDN.out, PQ]; rfl
          have hg := HGD.out hd
          have hbk : cQ s = ⟨(n1 : Int), aff, L4, L6, acc⟩ := by rw [HBK.out, hg.2]
          have hrr := HRR.out hd
          have hpi := HPI.out hd
          have hbo := HBO.out
          have hlf : (if false = true then (0 : Int) else (l6.length : Int)) = 0 := by rw [PQ]; rfl
          cases hrt : eZ (cQ s) with
          | false =>
           have HNO := ak (show cy s = false by rw [HOK.out, hrt, Bool.and_false, Bool.and_false])
           rw [hrt, hbk] at hrr
           have HRT : Aside0 (∀ (As Af Aa : Option Addr) (cs cf ca : Nat) (w : World)
            (h1 : Kd.C (Kd.int .i64) w As L4.length L4 ∧ L4.length ≤ cs) (h2 : Kd.C (Kd.int .i64) w Af L6.length L6 ∧ L6.length ≤ cf) (h3 : Kd.C lP w Aa M.length M ∧ M.length ≤ ca),
            Calls Tryz.prog 68 #[.agg #[.int .u32 (n1 : Int), .string aff, .slice As L4.length cs, .slice Af L6.length cf, .slice Aa M.length ca]] w fun e w' => e = .returned (.bool false) ∧ Below w.heap.size w w') := ⟨vA ⟨(n1 : Int), aff, L4, L6, acc⟩ false hrr M HM.out⟩
           clear hrr hpi hbo hbk hg hd hrt
           go_wp2_with (first
                       | (go_at_call 67; refine (pJ _ HQ.out).mono ?_; rw [hlf]; rintro e W1 ⟨rfl, aW⟩; have fv := ak (HX.out.below aW); have gH := ak (HY.out.below aW); have lD := ak (Kd.R_below HS.out aW); have kx := ak (Kd.R_below HR.out aW); have jm := ak (Kd.R_below HA.out aW); have cP := ak (HB.out.trans (aW.mono HB.out.size)); clear aW HX HY HS HR HA HB HQ HF mq)
                       | ((with_reducible refine aA (N := 94) rfl ?_); refine cF (by rfl) ?_; refine bN rfl 49 (.tmp 5) rfl g5 rfl _ _ _ gH.out Tryz.underlying49 rfl 5 (by kernel_rfl) rfl ?_)
                       | (go_at_call 68; refine (HRT.out As Af Am cs cf cm _ (gh lD.out) (gh kx.out) (gh jm.out)).mono ?_; rintro e W2 ⟨rfl, bC⟩; have iR := ak (fv.out.below bC); have jX := ak (gH.out.below bC); have mV := ak (Kd.R_below lD.out bC); have n8 := ak (Kd.R_below kx.out bC); have lr := ak (Kd.R_below jm.out bC); have fx := ak (cP.out.trans (bC.mono cP.out.size)); clear bC fv gH lD kx jm cP)
                       | ((with_reducible refine aA (N := 104) rfl ?_); refine ev rfl 49 #[] rfl gR (tO _) ?_)
                       | (refine aM rfl 49 (.tmp 2) (.tmp 104) rfl g2 gR rfl rfl 49 _ iR.out 5 (by kernel_rfl) rfl rfl (by intro u hu; simp [gR] at hu; rcases hu with rfl | rfl | rfl | rfl | rfl <;> rfl) ?_; intro W9 gp dp))
           exact bodyPost_ret (bV rfl _ _ g2 49 _ (0, 0) _ rfl gp Tryz.underlying49 rfl (by kernel_rfl)) rfl (tJ rfl HNO.out (fx.out.grown dp fx.out.size (by intro k hk; cases hk; exact fw.out)))
          | true =>
           have hp := wG hrt
           have Gq : (cQ s).slots.length = 64 := by rw [hbk]; exact hg.1
           have wJ := hpi hrt
           rw [hrt, hbk] at hrr
           have HRT : Aside0 (∀ (As Af Aa : Option Addr) (cs cf ca : Nat) (w : World)
            (h1 : Kd.C (Kd.int .i64) w As L4.length L4 ∧ L4.length ≤ cs) (h2 : Kd.C (Kd.int .i64) w Af L6.length L6 ∧ L6.length ≤ cf) (h3 : Kd.C lP w Aa M.length M ∧ M.length ≤ ca),
            Calls Tryz.prog 68 #[.agg #[.int .u32 (n1 : Int), .string aff, .slice As L4.length cs, .slice Af L6.length cf, .slice Aa M.length ca]] w fun e w' => e = .returned (.bool true) ∧ Below w.heap.size w w') := ⟨vA ⟨(n1 : Int), aff, L4, L6, acc⟩ true hrr M HM.out⟩
           have HBE := ak hbk
           have HDT := ak (show cy s = decide (n0 = 66) by rw [HOK.out, hd, hrt, Bool.true_and, Bool.and_true])
           rw [hbk] at hp Gq wJ hbo
           obtain ⟨tx, htx⟩ : ∃ tx, strOfNums (lv ⟨(n1 : Int), aff, L4, L6, acc⟩) = tx := ⟨_, rfl⟩
           rw [htx] at wJ
           have HPT : Aside0 (∀ (As Af Aa : Option Addr) (cs cf ca : Nat) (w : World)
            (h1 : Kd.C (Kd.int .i64) w As L4.length L4 ∧ L4.length ≤ cs) (h2 : Kd.C (Kd.int .i64) w Af L6.length L6 ∧ L6.length ≤ cf) (h3 : Kd.C lP w Aa M.length M ∧ M.length ≤ ca),
            Calls Tryz.prog 69 #[.agg #[.int .u32 (n1 : Int), .string aff, .slice As L4.length cs, .slice Af L6.length cf, .slice Aa M.length ca]] w fun e w' => e = .returned (.string tx) ∧ Below w.heap.size w w') := ⟨KW ⟨(n1 : Int), aff, L4, L6, acc⟩ hbo hp Gq tx htx M HM.out⟩
           clear hrr hpi hbo hbk hg hd hrt hp Gq htx
           by_cases sM : n0 = 66
           ·have uS := ak (show cy s = true by rw [HDT.out, sM]; rfl)
            have htx := wJ.2 sM
            subst htx
            have hne : (tx.toList == tx.toList) = true := beq_self_eq_true _
            have Qw : (tx.toList != tx.toList) = false := by simp
            clear wJ sM
            go_wp2_with (first
                         | (go_at_call 67; refine (pJ _ HQ.out).mono ?_; rw [hlf]; rintro e W1 ⟨rfl, aW⟩; have fv := ak (HX.out.below aW); have gH := ak (HY.out.below aW); have lD := ak (Kd.R_below HS.out aW); have kx := ak (Kd.R_below HR.out aW); have jm := ak (Kd.R_below HA.out aW); have cP := ak (HB.out.trans (aW.mono HB.out.size)); clear aW HX HY HS HR HA HB HQ HF mq)
                         | ((with_reducible refine aA (N := 94) rfl ?_); refine cF (by rfl) ?_; refine bN rfl 49 (.tmp 5) rfl g5 rfl _ _ _ gH.out Tryz.underlying49 rfl 5 (by kernel_rfl) rfl ?_)
                         | (go_at_call 68; refine (HRT.out As Af Am cs cf cm _ (gh lD.out) (gh kx.out) (gh jm.out)).mono ?_; rintro e W2 ⟨rfl, bC⟩; have iR := ak (fv.out.below bC); have jX := ak (gH.out.below bC); have mV := ak (Kd.R_below lD.out bC); have n8 := ak (Kd.R_below kx.out bC); have lr := ak (Kd.R_below jm.out bC); have fx := ak (cP.out.trans (bC.mono cP.out.size)); clear bC fv gH lD kx jm cP)
                         | ((with_reducible refine aA (N := 99) rfl ?_); refine cF (by rfl) ?_; refine bN rfl 49 (.tmp 5) rfl g5 rfl _ _ _ jX.out Tryz.underlying49 rfl 5 (by kernel_rfl) rfl ?_)
                         | (go_at_call 69; refine (HPT.out As Af Am cs cf cm _ (gh mV.out) (gh n8.out) (gh lr.out)).mono ?_; rintro e W3 ⟨rfl, gP⟩; have kv := ak (iR.out.below gP); have pV := ak (jX.out.below gP); have xY := ak (Kd.R_below mV.out gP); have pW := ak (Kd.R_below n8.out gP); have uz := ak (Kd.R_below lr.out gP); have iw := ak (fx.out.trans (gP.mono fx.out.size)); clear gP iR jX mV n8 lr fx)
                         | ((with_reducible refine aA (N := 105) rfl ?_); refine bN rfl 49 (.tmp 5) rfl g5 rfl _ _ _ pV.out Tryz.underlying49 rfl 5 (by kernel_rfl) rfl ?_)
                         | (refine aM rfl 49 (.tmp 2) (.tmp 105) rfl g2 [.int .u32 (n1 : Int), .string aff, .slice As L4.length cs, .slice Af L6.length cf, .slice Am M.length cm] rfl rfl 49 _ kv.out 5 (by kernel_rfl) rfl rfl (by intro u hu; simp at hu; rcases hu with rfl | rfl | rfl | rfl | rfl <;> rfl) ?_; intro W9 gp dp))
            refine bodyPost_ret (bV rfl _ _ g2 49 _ (0, 0) _ rfl gp Tryz.underlying49 rfl (by kernel_rfl)) rfl (GB rfl uS.out HBE.out HM.out HWB.out HBF.out (cR xY.out kv.out (by decide) dp) (cR pW.out kv.out (by decide) dp) (cR uz.out kv.out (by decide) dp) (iw.out.grown dp iw.out.size (by intro k hk; cases hk; exact fw.out)))
           ·have HNO := ak (show cy s = false by rw [HDT.out, decide_eq_false sM])
            have hns : tx ≠ s := fun e => sM (wJ.1 e)
            have hne : (tx.toList == s.toList) = false := by rw [beq_eq_false_iff_ne]; exact fun e => hns (u7 e)
            have Qw : (tx.toList != s.toList) = true := by rw [bne, hne]; rfl
            have Xs : ¬ (tx.toList = s.toList) := fun e => hns (u7 e)
            clear wJ sM hns
            go_wp2_with (first
                         | (go_at_call 67; refine (pJ _ HQ.out).mono ?_; rw [hlf]; rintro e W1 ⟨rfl, aW⟩; have fv := ak (HX.out.below aW); have gH := ak (HY.out.below aW); have lD := ak (Kd.R_below HS.out aW); have kx := ak (Kd.R_below HR.out aW); have jm := ak (Kd.R_below HA.out aW); have cP := ak (HB.out.trans (aW.mono HB.out.size)); clear aW HX HY HS HR HA HB HQ HF mq)
                         | ((with_reducible refine aA (N := 94) rfl ?_); refine cF (by rfl) ?_; refine bN rfl 49 (.tmp 5) rfl g5 rfl _ _ _ gH.out Tryz.underlying49 rfl 5 (by kernel_rfl) rfl ?_)
                         | (go_at_call 68; refine (HRT.out As Af Am cs cf cm _ (gh lD.out) (gh kx.out) (gh jm.out)).mono ?_; rintro e W2 ⟨rfl, bC⟩; have iR := ak (fv.out.below bC); have jX := ak (gH.out.below bC); have mV := ak (Kd.R_below lD.out bC); have n8 := ak (Kd.R_below kx.out bC); have lr := ak (Kd.R_below jm.out bC); have fx := ak (cP.out.trans (bC.mono cP.out.size)); clear bC fv gH lD kx jm cP)
                         | ((with_reducible refine aA (N := 99) rfl ?_); refine cF (by rfl) ?_; refine bN rfl 49 (.tmp 5) rfl g5 rfl _ _ _ jX.out Tryz.underlying49 rfl 5 (by kernel_rfl) rfl ?_)
                         | (go_at_call 69; refine (HPT.out As Af Am cs cf cm _ (gh mV.out) (gh n8.out) (gh lr.out)).mono ?_; rintro e W3 ⟨rfl, gP⟩; have kv := ak (iR.out.below gP); have pV := ak (jX.out.below gP); have xY := ak (Kd.R_below mV.out gP); have pW := ak (Kd.R_below n8.out gP); have uz := ak (Kd.R_below lr.out gP); have iw := ak (fx.out.trans (gP.mono fx.out.size)); clear gP iR jX mV n8 lr fx)
                         | ((with_reducible refine aA (N := 104) rfl ?_); refine ev rfl 49 #[] rfl gR (tO _) ?_)
                         | (refine aM rfl 49 (.tmp 2) (.tmp 104) rfl g2 gR rfl rfl 49 _ kv.out 5 (by kernel_rfl) rfl rfl (by intro u hu; simp [gR] at hu; rcases hu with rfl | rfl | rfl | rfl | rfl <;> rfl) ?_; intro W9 gp dp))
            exact bodyPost_ret (bV rfl _ _ g2 49 _ (0, 0) _ rfl gp Tryz.underlying49 rfl (by kernel_rfl)) rfl (tJ rfl HNO.out (iw.out.grown dp iw.out.size (by intro k hk; cases hk; exact fw.out)))
         ·have HNO := ak (show cy s = false by rw [HOK.out, HDN.out, show (((l6.length : Nat) : Int) == 0) = false by rw [beq_eq_false_iff_ne]; omega]; rfl)
          have hlf : (if false = true then (0 : Int) else (l6.length : Int)) = (l6.length : Int) := rfl
          have iv : decide ((l6.length : Int) > 0) = true := by simp; omega
          have aW : decide ((0 : Int) < (l6.length : Int)) = true := by simp; omega
          have bC : decide (0 < l6.length) = true := by simp; omega
          go_wp2_with (first
                     | (go_at_call 67; refine (pJ _ HQ.out).mono ?_; rw [hlf]; rintro e W1 ⟨rfl, aW⟩; have fv := ak (HX.out.below aW); have gH := ak (HY.out.below aW); have lD := ak (Kd.R_below HS.out aW); have kx := ak (Kd.R_below HR.out aW); have jm := ak (Kd.R_below HA.out aW); have cP := ak (HB.out.trans (aW.mono HB.out.size)); clear aW HX HY HS HR HA HB HQ HF mq)
                     | ((with_reducible refine aA (N := 104) rfl ?_); refine ev rfl 49 #[] rfl gR (tO _) ?_)
                     | (refine aM rfl 49 (.tmp 2) (.tmp 104) rfl g2 gR rfl rfl 49 _ fv.out 5 (by kernel_rfl) rfl rfl (by intro u hu; simp [gR] at hu; rcases hu with rfl | rfl | rfl | rfl | rfl <;> rfl) ?_; intro W9 gp dp))
          exact bodyPost_ret (bV rfl _ _ g2 49 _ (0, 0) _ rfl gp Tryz.underlying49 rfl (by kernel_rfl)) rfl (tJ rfl HNO.out (cP.out.grown dp cP.out.size (by intro k hk; cases hk; exact fw.out)))
end Go.Proofs.YtndddnglapkplaaGreatDoor.V
end

