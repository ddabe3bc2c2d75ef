/- The law BlockPlays for every input: texts of ours, put together (part 9 of 17). No further condition. -/
import Derived.Test.YtemhalnhbgkbcaaCBlockPlaysx2
import Derived.Test.YtemhalnhbgkbcaaCBlockPlaysx6
import Derived.Test.YtemhalnhbgkbcaaCBlockPlaysx3
import Derived.Test.YtemhalnhbgkbcaaCBlockPlaysx7
import Derived.Test.YtemhalnhbgkbcaaCBlockPlaysx5
import Derived.Test.YtemhalnhbgkbcaaCBlockPlaysx4
import Derived.Test.YtemhalnhbgkbcaaCBlockPlaysw1
import Derived.Outline
import Derived.Lib.ConvBytes
import Derived.Lib.AtoiErrMem
import Derived.Laws.CopyRow
import Derived.Laws.IdiomCopy
set_option linter.unusedVariables false
set_option linter.unusedSimpArgs false
open Go.RowKit Go.Proofs.YtemhalnhbgkbcaaW.PrintWords Go.Proofs.YtemhalnhbgkbcaaW.PrintLast Go.Proofs.YtemhalnhbgkbcaaW.PrintMore Go.Proofs.Ytemhalnhbgkbcaa.Z
section
namespace Go.Proofs.Ytemhalnhbgkbcaa.V
attribute [local go_sem] dA dy ed ec cP cN dz dx
def eW.f (a6 : Int) (a8 : ByteArray) (aW : List Int) (bb : List Int) (aE : List (S76)) (a1 : Int) : Option (ByteArray × ByteArray × Bool) := (gj.f a6 a8 aW bb aE a1).bind fun uO => (if uO = true then (if 0 ≤ (Int.tmod a1 64) then (if (Int.tmod a1 64) < (aW.length : Int) then (if (rd aW (Int.tmod a1 64)) = 0 then (some ((⟨#[]⟩ : ByteArray), (⟨#[]⟩ : ByteArray), false)) else (if 0 ≤ (wrap64 ((rd aW (Int.tmod a1 64)) - 1)) then (if (wrap64 ((rd aW (Int.tmod a1 64)) - 1)) < (aE.length : Int) then (some ((a9 aE (wrap64 ((rd aW (Int.tmod a1 64)) - 1))).f0, (a9 aE (wrap64 ((rd aW (Int.tmod a1 64)) - 1))).f1, true)) else (none)) else (none))) else (none)) else (none)) else (some ((⟨#[]⟩ : ByteArray), (⟨#[]⟩ : ByteArray), false)))
def eW.T3 : Bool × List (List Nat × List Nat) := (true, [([], []), ([0], [0]), ([], []), ([2], [2]), ([], []), ([4], [4]), ([3, 5], [3, 5]), ([6], [6]), ([7], [7]), ([1, 8], [1, 8]), ([9], [9]), ([10, 0, 1, 2, 3, 4, 5, 6, 7, 8, 9, 10], [10]), ([11, 0, 1, 2, 3, 4, 5, 6, 7, 8, 9, 10, 11], [])])
def eW.B3 : List Nat := [0, 1, 0, 4, 0, 16, 60, 124, 252, 511, 1023, 2047, 4095]
theorem eW.tab3 : eI .any (opsOf Try.f62 3) = eW.T3 := by kernel_rfl
theorem eW.bits3 : eb eW.T3.2 eW.B3 = true := by kernel_rfl
set_option maxHeartbeats 8000000 in
set_option maxRecDepth 100000 in
theorem eW.calls (a6 : Int) (a8 : ByteArray) (dV : Option Addr) (dB : Nat) (aW : List Int) (cV : Option Addr) (cT : Nat) (bb : List Int) (dU : Option Addr) (cJ : Nat) (aE : List (S76)) (a1 : Int) (r1 : ByteArray) (r2 : ByteArray) (r3 : Bool) (w : World) (pv : Kd.C (Kd.int .i64) w dV aW.length aW) (pD : aW.length ≤ dB) (pr : Kd.C (Kd.int .i64) w cV bb.length bb) (pC : bb.length ≤ cT) (pq : Kd.C ia w dU aE.length aE) (pB : aE.length ≤ cJ) (h : eW.f a6 a8 aW bb aE a1 = some (r1, r2, r3)) :
  Calls Try.prog 62 #[.agg #[.int .u32 a6, .string a8, .slice dV aW.length dB, .slice cV bb.length cT, .slice dU aE.length cJ], .int .u32 a1] w fun e w' => e = .returned (.tuple #[.agg #[.string r1, .string r2], .bool r3]) ∧ Below w.heap.size w w' := by
 have Hf := Try.underlying62
 have Kr := Try.underlying76
 have oG := ak pv
 have wz := ak pD
 clear pv pD
 have mY := ak pr
 have qC := ak pC
 clear pr pC
 have qA := ak pq
 have wy := ak pB
 clear pq pB
 have HB := ak (Below.refl w.heap.size w)
 have H : ((gj.f a6 a8 aW bb aE a1).bind fun uO => (if uO = true then (if 0 ≤ (Int.tmod a1 64) then (if (Int.tmod a1 64) < (aW.length : Int) then (if (rd aW (Int.tmod a1 64)) = 0 then (some ((⟨#[]⟩ : ByteArray), (⟨#[]⟩ : ByteArray), false)) else (if 0 ≤ (wrap64 ((rd aW (Int.tmod a1 64)) - 1)) then (if (wrap64 ((rd aW (Int.tmod a1 64)) - 1)) < (aE.length : Int) then (some ((a9 aE (wrap64 ((rd aW (Int.tmod a1 64)) - 1))).f0, (a9 aE (wrap64 ((rd aW (Int.tmod a1 64)) - 1))).f1, true)) else (none)) else (none))) else (none)) else (none)) else (some ((⟨#[]⟩ : ByteArray), (⟨#[]⟩ : ByteArray), false)))) = some (r1, r2, r3) := h
 clear h
 replace H := Option.bind_eq_some_iff.mp H
 obtain ⟨uO, nJ, H⟩ := H
 replace H : (if uO = true then (if 0 ≤ (Int.tmod a1 64) then (if (Int.tmod a1 64) < (aW.length : Int) then (if (rd aW (Int.tmod a1 64)) = 0 then (some ((⟨#[]⟩ : ByteArray), (⟨#[]⟩ : ByteArray), false)) else (if 0 ≤ (wrap64 ((rd aW (Int.tmod a1 64)) - 1)) then (if (wrap64 ((rd aW (Int.tmod a1 64)) - 1)) < (aE.length : Int) then (some ((a9 aE (wrap64 ((rd aW (Int.tmod a1 64)) - 1))).f0, (a9 aE (wrap64 ((rd aW (Int.tmod a1 64)) - 1))).f1, true)) else (none)) else (none))) else (none)) else (none)) else (some ((⟨#[]⟩ : ByteArray), (⟨#[]⟩ : ByteArray), false))) = some (r1, r2, r3) := H
 have A3 := ak nJ
 clear nJ
 by_cases c4 : uO = true
 ·subst c4
  have H1 : (if 0 ≤ (Int.tmod a1 64) then (if (Int.tmod a1 64) < (aW.length : Int) then (if (rd aW (Int.tmod a1 64)) = 0 then (some ((⟨#[]⟩ : ByteArray), (⟨#[]⟩ : ByteArray), false)) else (if 0 ≤ (wrap64 ((rd aW (Int.tmod a1 64)) - 1)) then (if (wrap64 ((rd aW (Int.tmod a1 64)) - 1)) < (aE.length : Int) then (some ((a9 aE (wrap64 ((rd aW (Int.tmod a1 64)) - 1))).f0, (a9 aE (wrap64 ((rd aW (Int.tmod a1 64)) - 1))).f1, true)) else (none)) else (none))) else (none)) else (none)) = some (r1, r2, r3) := by rw [if_pos rfl] at H; exact H
  clear H
  have H := H1
  clear H1
  obtain ⟨lC, D2⟩ : ∃ j_ : Int, (Int.tmod a1 64) = j_ := ⟨_, rfl⟩
  replace H : (if 0 ≤ (lC) then (if (lC) < (aW.length : Int) then (if (rd aW (lC)) = 0 then (some ((⟨#[]⟩ : ByteArray), (⟨#[]⟩ : ByteArray), false)) else (if 0 ≤ (wrap64 ((rd aW (lC)) - 1)) then (if (wrap64 ((rd aW (lC)) - 1)) < (aE.length : Int) then (some ((a9 aE (wrap64 ((rd aW (lC)) - 1))).f0, (a9 aE (wrap64 ((rd aW (lC)) - 1))).f1, true)) else (none)) else (none))) else (none)) else (none)) = some (r1, r2, r3) := by first | (rw [D2] at H; exact H) | (simp only [D2] at H ⊢; exact H)
  (try rw [D2] at A3)
  by_cases c6 : 0 ≤ (lC)
  ·rw [if_pos c6] at H
   have oK : decide (0 ≤ (lC)) = true := decide_eq_true c6
   clear c6
   by_cases c7 : (lC) < (aW.length : Int)
   ·rw [if_pos c7] at H
    have lh : decide ((lC) < (aW.length : Int)) = true := decide_eq_true c7
    clear c7
    by_cases c8 : (rd aW (lC)) = 0
    ·rw [if_pos c8] at H
     have sK : ((rd aW (lC)) == 0) = true := beq_iff_eq.mpr c8
     have EG : ((rd aW (lC)) != 0) = false := bne_eq_false_iff_eq.mpr c8
     clear c8
     simp only [Option.some.injEq, Prod.mk.injEq] at H
     obtain ⟨rfl, rfl, rfl⟩ := H
     go_enter Try.func62, Try.ntmps62
     go_wp2_with (first | ((with_reducible refine aJ (N := 2) rfl ?_); refine eY ?hg (N := 2) ?hd (cs := #[.int .u32 a6, .string a8, .slice dV aW.length dB, .slice cV bb.length cT, .slice dU aE.length cJ]) (t := 62) ?hr ?_; (case hd => rfl); (case hg => rfl); (case hr => first | (go_simp; done) | (go_simp; rfl)); intro cx hg w9 hbox hb; have bR := ak (bA (by repeat (first | (with_reducible first | exact HB.out | apply af | apply ab | apply ai) | exact HB.out)) hb); have bX := ak (hbox); have dh := ak ((by rw [hg]; exact (bo (by repeat (first | (with_reducible first | exact HB.out | apply af | apply ab | apply ai) | exact HB.out))) : w.heap.size ≤ cx)); have dX := ak ((by rw [hg]; exact (bo (by repeat (first | (with_reducible first | exact HB.out | apply af | apply ab | apply ai) | exact HB.out))) : w.heap.size ≤ cx)); clear HB; have HB := bR; have bw := bX; have GR := dh; have iS := dX; clear bR bX dh dX; clear hb hbox hg) | ((with_reducible refine aJ (N := 4) rfl ?_); refine eY ?hg (N := 4) ?hd (cs := #[.string (⟨#[]⟩ : ByteArray), .string (⟨#[]⟩ : ByteArray)]) (t := 76) ?hr ?_; (case hd => rfl); (case hg => rfl); (case hr => first | (go_simp; done) | (go_simp; rfl)); intro dK hg Cf hbox hb; have bR := ak (eh (g := cx) (o := .cells #[.int .u32 a6, .string a8, .slice dV aW.length dB, .slice cV bb.length cT, .slice dU aE.length cJ] 62 (0, 0)) (by (with_reducible repeat (first | refine ax ?_ _ | refine aG ?_ | refine ay ?_ _)); exact bw.out) hb); have bX := ak (bA (by repeat (first | (with_reducible first | exact HB.out | apply af | apply ab | apply ai | refine aD ?_ iS.out) | exact HB.out)) hb); have dh := ak (hbox); have dX := ak ((by rw [hg]; exact (bo (by repeat (first | (with_reducible first | exact HB.out | apply af | apply ab | apply ai | refine aD ?_ iS.out) | exact HB.out))) : w.heap.size ≤ dK)); have iE := ak ((by rw [hg]; exact (bo (by repeat (first | (with_reducible first | exact HB.out | apply af | apply ab | apply ai | refine aD ?_ iS.out) | exact HB.out))) : w.heap.size ≤ dK)); have kL := ak ((by rw [hg]; exact Nat.ne_of_lt (gu (g := cx) (o := .cells #[.int .u32 a6, .string a8, .slice dV aW.length dB, .slice cV bb.length cT, .slice dU aE.length cJ] 62 (0, 0)) (by (with_reducible repeat (first | refine ax ?_ _ | refine aG ?_ | refine ay ?_ _)); exact bw.out)) : cx ≠ dK)); have l5 := ak ((by rw [hg]; exact Nat.ne_of_gt (gu (g := cx) (o := .cells #[.int .u32 a6, .string a8, .slice dV aW.length dB, .slice cV bb.length cT, .slice dU aE.length cJ] 62 (0, 0)) (by (with_reducible repeat (first | refine ax ?_ _ | refine aG ?_ | refine ay ?_ _)); exact bw.out)) : dK ≠ cx)); clear bw; clear HB; have bw := bR; have HB := bX; have e9 := dh; have fI := dX; have o9 := iE; have eQ := kL; have kz := l5; clear bR bX dh dX iE kL l5; clear hb hbox hg; have ad6 := eQ.out; have ac0 := kz.out; have Yo : Cf.cell? ⟨cx, 0, none⟩ = some (.int .u32 a6) := (al bw.out 0).trans rfl; have Yn : Cf.cell? ⟨cx, 1, none⟩ = some (.string a8) := (al bw.out 1).trans rfl; have Ym : Cf.cell? ⟨cx, 2, none⟩ = some (.slice dV aW.length dB) := (al bw.out 2).trans rfl; have Yl : Cf.cell? ⟨cx, 3, none⟩ = some (.slice cV bb.length cT) := (al bw.out 3).trans rfl; have Yk : Cf.cell? ⟨cx, 4, none⟩ = some (.slice dU aE.length cJ) := (al bw.out 4).trans rfl; have WH := aj bw.out 0; have WG := aj bw.out 1; have WE := aj bw.out 2; have WD := aj bw.out 3; have WC := aj bw.out 4) | ((with_reducible refine dp (f := 100) rfl ?_); refine fQ (some 8) rfl rfl Try.func100 (by kernel_rfl) rfl #[.agg #[.int .u32 a6, .string a8, .slice dV aW.length dB, .slice cV bb.length cT, .slice dU aE.length cJ], .int .u32 a1] rfl (by (try simp only [List.map_toArray, List.map_cons, List.map_nil]); first | done | rfl | (simp only [List.length_drop, List.length_take]; rfl)) ?_; (with_reducible refine (gj.calls a6 a8 _ _ aW _ _ bb _ _ aE a1 true _ ?side1 ?side2 ?side3 ?side4 ?side5 ?side6 A3.out).mono ?_); (case side1 => repeat (first | exact (Kd.C_below oG.out HB.out) | (with_reducible refine Kd.C_alloc ?_ _) | (with_reducible refine Kd.C_drewN ?_ _) | (with_reducible refine Kd.C_drew ?_))); (case side2 => exact wz.out); (case side3 => repeat (first | exact (Kd.C_below mY.out HB.out) | (with_reducible refine Kd.C_alloc ?_ _) | (with_reducible refine Kd.C_drewN ?_ _) | (with_reducible refine Kd.C_drew ?_))); (case side4 => exact qC.out); (case side5 => repeat (first | exact (Kd.C_below qA.out HB.out) | (with_reducible refine Kd.C_alloc ?_ _) | (with_reducible refine Kd.C_drewN ?_ _) | (with_reducible refine Kd.C_drew ?_))); (case side6 => exact wy.out); rintro e Dl ⟨rfl, hb⟩; refine ⟨_, rfl, ?_⟩; have bR := ak (eh (g := cx) (o := .cells #[.int .u32 a6, .string a8, .slice dV aW.length dB, .slice cV bb.length cT, .slice dU aE.length cJ] 62 (0, 0)) (by (with_reducible repeat (first | refine ax ?_ _ | refine aG ?_ | refine ay ?_ _)); exact bw.out) hb); have bX := ak (eh (g := dK) (o := .cells #[.string (⟨#[]⟩ : ByteArray), .string (⟨#[]⟩ : ByteArray)] 76 (0, 0)) (by (with_reducible repeat (first | refine ax ?_ _ | refine aG ?_ | refine ay ?_ _)); exact e9.out) hb); have dh := ak (bA (by repeat (first | (with_reducible first | exact HB.out | apply af | apply ab | apply ai | refine aD ?_ iS.out | refine aD ?_ o9.out) | exact HB.out)) hb); clear bw; clear e9; clear HB; have bw := bR; have e9 := bX; have HB := dh; clear bR bX dh; (try clear hb); (try clear eX); (try clear hk); (try clear hi); have O1 : Dl.cell? ⟨cx, 0, none⟩ = some (.int .u32 a6) := (al bw.out 0).trans rfl; have O0 : Dl.cell? ⟨cx, 1, none⟩ = some (.string a8) := (al bw.out 1).trans rfl; have OZ : Dl.cell? ⟨cx, 2, none⟩ = some (.slice dV aW.length dB) := (al bw.out 2).trans rfl; have OY : Dl.cell? ⟨cx, 3, none⟩ = some (.slice cV bb.length cT) := (al bw.out 3).trans rfl; have OX : Dl.cell? ⟨cx, 4, none⟩ = some (.slice dU aE.length cJ) := (al bw.out 4).trans rfl; have Ot := aj bw.out 0; have Oq := aj bw.out 1; have Oo := aj bw.out 2; have On := aj bw.out 3; have Om := aj bw.out 4; have sq : 0 ≤ ((lC) : Int) := of_decide_eq_true (by first | (with_reducible assumption) | assumption); have se : (lC) < (aW.length : Int) := of_decide_eq_true (by first | (with_reducible assumption) | assumption); obtain ⟨yi, Ey, nh⟩ := Kd.at_int oG.out (lC) sq se; cases Ey; replace nh := (HB.out.cell (World.block_lt_of_cell? w _ nh)).trans nh; replace sq := eq_true sq; replace se := eq_true se; have Yj : Dl.cell? ⟨dK, 0, none⟩ = some (.string (⟨#[]⟩ : ByteArray)) := (al e9.out 0).trans rfl; have Yi : Dl.cell? ⟨dK, 1, none⟩ = some (.string (⟨#[]⟩ : ByteArray)) := (al e9.out 1).trans rfl; have WB := aj e9.out 0; have WA := aj e9.out 1))
     refine bodyPost_ret (gB rfl _ _ dK 76 #[.string (⟨#[]⟩ : ByteArray), .string (⟨#[]⟩ : ByteArray)] (0, 0) _ rfl (by (with_reducible repeat (first | refine ax ?_ _ | refine aG ?_ | refine ay ?_ _)); refine e7 (cs := #[.string (⟨#[]⟩ : ByteArray), .string (⟨#[]⟩ : ByteArray)]) ?_ 1 _ rfl; (with_reducible repeat (first | refine ax ?_ _ | refine aG ?_ | refine ay ?_ _)); refine e7 (cs := #[.string (⟨#[]⟩ : ByteArray), .string (⟨#[]⟩ : ByteArray)]) ?_ 0 _ rfl; (with_reducible repeat (first | refine ax ?_ _ | refine aG ?_ | refine ay ?_ _)); exact e9.out) Try.underlying76 rfl (by kernel_rfl)) rfl ?_
     exact ⟨by first | rfl | (simp [bf, bd] <;> rfl) | (simp only [← D2]; first | rfl | (simp [bf, bd] <;> rfl)) | (simp [*, bf, bd] <;> rfl), by repeat (first | (with_reducible first | exact HB.out | apply af | apply ab | apply ai | refine aD ?_ iS.out | refine aD ?_ o9.out) | exact HB.out)⟩
    ·rw [if_neg c8] at H
     have sK : ((rd aW (lC)) == 0) = false := beq_eq_false_iff_ne.mpr c8
     have EG : ((rd aW (lC)) != 0) = true := bne_iff_ne.mpr c8
     obtain ⟨lU, zH⟩ : ∃ j_ : Int, (wrap64 ((rd aW (lC)) - 1)) = j_ := ⟨_, rfl⟩
     replace H : (if 0 ≤ (lU) then (if (lU) < (aE.length : Int) then (some ((a9 aE (lU)).f0, (a9 aE (lU)).f1, true)) else (none)) else (none)) = some (r1, r2, r3) := by first | (rw [zH] at H; exact H) | (simp only [zH] at H ⊢; exact H)
     (try rw [zH] at A3)
     have Y4 : (IntKind.i64.wrap ((rd aW (lC)) - 1)) = lU := (iT _).trans zH
     by_cases xE : 0 ≤ (lU)
     ·rw [if_pos xE] at H
      have LK : decide (0 ≤ (lU)) = true := decide_eq_true xE
      clear xE
      by_cases xD : (lU) < (aE.length : Int)
      ·rw [if_pos xD] at H
       have LJ : decide ((lU) < (aE.length : Int)) = true := decide_eq_true xD
       clear xD
       simp only [Option.some.injEq, Prod.mk.injEq] at H
       obtain ⟨rfl, rfl, rfl⟩ := H
       go_enter Try.func62, Try.ntmps62
       try go_wp2_with (first | ((with_reducible refine aJ (N := 2) rfl ?_); refine eY ?hg (N := 2) ?hd (cs := #[.int .u32 a6, .string a8, .slice dV aW.length dB, .slice cV bb.length cT, .slice dU aE.length cJ]) (t := 62) ?hr ?_; (case hd => rfl); (case hg => rfl); (case hr => first | (go_simp; done) | (go_simp; rfl)); intro cx hg w19 hbox hb; have bR := ak (bA (by repeat (first | (with_reducible first | exact HB.out | apply af | apply ab | apply ai) | exact HB.out)) hb); have bX := ak (hbox); have dh := ak ((by rw [hg]; exact (bo (by repeat (first | (with_reducible first | exact HB.out | apply af | apply ab | apply ai) | exact HB.out))) : w.heap.size ≤ cx)); have dX := ak ((by rw [hg]; exact (bo (by repeat (first | (with_reducible first | exact HB.out | apply af | apply ab | apply ai) | exact HB.out))) : w.heap.size ≤ cx)); clear HB; have HB := bR; have bw := bX; have GR := dh; have iS := dX; clear bR bX dh dX; clear hb hbox hg) | ((with_reducible refine aJ (N := 4) rfl ?_); refine eY ?hg (N := 4) ?hd (cs := #[.string (⟨#[]⟩ : ByteArray), .string (⟨#[]⟩ : ByteArray)]) (t := 76) ?hr ?_; (case hd => rfl); (case hg => rfl); (case hr => first | (go_simp; done) | (go_simp; rfl)); intro dK hg wX hbox hb; have bR := ak (eh (g := cx) (o := .cells #[.int .u32 a6, .string a8, .slice dV aW.length dB, .slice cV bb.length cT, .slice dU aE.length cJ] 62 (0, 0)) (by (with_reducible repeat (first | refine ax ?_ _ | refine aG ?_ | refine ay ?_ _)); exact bw.out) hb); have bX := ak (bA (by repeat (first | (with_reducible first | exact HB.out | apply af | apply ab | apply ai | refine aD ?_ iS.out) | exact HB.out)) hb); have dh := ak (hbox); have dX := ak ((by rw [hg]; exact (bo (by repeat (first | (with_reducible first | exact HB.out | apply af | apply ab | apply ai | refine aD ?_ iS.out) | exact HB.out))) : w.heap.size ≤ dK)); have iE := ak ((by rw [hg]; exact (bo (by repeat (first | (with_reducible first | exact HB.out | apply af | apply ab | apply ai | refine aD ?_ iS.out) | exact HB.out))) : w.heap.size ≤ dK)); have kL := ak ((by rw [hg]; exact Nat.ne_of_lt (gu (g := cx) (o := .cells #[.int .u32 a6, .string a8, .slice dV aW.length dB, .slice cV bb.length cT, .slice dU aE.length cJ] 62 (0, 0)) (by (with_reducible repeat (first | refine ax ?_ _ | refine aG ?_ | refine ay ?_ _)); exact bw.out)) : cx ≠ dK)); have l5 := ak ((by rw [hg]; exact Nat.ne_of_gt (gu (g := cx) (o := .cells #[.int .u32 a6, .string a8, .slice dV aW.length dB, .slice cV bb.length cT, .slice dU aE.length cJ] 62 (0, 0)) (by (with_reducible repeat (first | refine ax ?_ _ | refine aG ?_ | refine ay ?_ _)); exact bw.out)) : dK ≠ cx)); clear bw; clear HB; have bw := bR; have HB := bX; have e9 := dh; have fI := dX; have o9 := iE; have eQ := kL; have kz := l5; clear bR bX dh dX iE kL l5; clear hb hbox hg; have ad3 := eQ.out; have ab7 := kz.out; have OP : wX.cell? ⟨cx, 0, none⟩ = some (.int .u32 a6) := (al bw.out 0).trans rfl; have OO : wX.cell? ⟨cx, 1, none⟩ = some (.string a8) := (al bw.out 1).trans rfl; have ON : wX.cell? ⟨cx, 2, none⟩ = some (.slice dV aW.length dB) := (al bw.out 2).trans rfl; have OM : wX.cell? ⟨cx, 3, none⟩ = some (.slice cV bb.length cT) := (al bw.out 3).trans rfl; have OL : wX.cell? ⟨cx, 4, none⟩ = some (.slice dU aE.length cJ) := (al bw.out 4).trans rfl; have Od := aj bw.out 0; have Oc := aj bw.out 1; have Ob := aj bw.out 2; have Oa := aj bw.out 3; have N9 := aj bw.out 4) | ((with_reducible refine dp (f := 100) rfl ?_); refine fQ (some 8) rfl rfl Try.func100 (by kernel_rfl) rfl #[.agg #[.int .u32 a6, .string a8, .slice dV aW.length dB, .slice cV bb.length cT, .slice dU aE.length cJ], .int .u32 a1] rfl (by (try simp only [List.map_toArray, List.map_cons, List.map_nil]); first | done | rfl | (simp only [List.length_drop, List.length_take]; rfl)) ?_; (with_reducible refine (gj.calls a6 a8 _ _ aW _ _ bb _ _ aE a1 true _ ?side1 ?side2 ?side3 ?side4 ?side5 ?side6 A3.out).mono ?_); (case side1 => repeat (first | exact (Kd.C_below oG.out HB.out) | (with_reducible refine Kd.C_alloc ?_ _) | (with_reducible refine Kd.C_drewN ?_ _) | (with_reducible refine Kd.C_drew ?_))); (case side2 => exact wz.out); (case side3 => repeat (first | exact (Kd.C_below mY.out HB.out) | (with_reducible refine Kd.C_alloc ?_ _) | (with_reducible refine Kd.C_drewN ?_ _) | (with_reducible refine Kd.C_drew ?_))); (case side4 => exact qC.out); (case side5 => repeat (first | exact (Kd.C_below qA.out HB.out) | (with_reducible refine Kd.C_alloc ?_ _) | (with_reducible refine Kd.C_drewN ?_ _) | (with_reducible refine Kd.C_drew ?_))); (case side6 => exact wy.out); rintro e qF ⟨rfl, hb⟩; refine ⟨_, rfl, ?_⟩; have bR := ak (eh (g := cx) (o := .cells #[.int .u32 a6, .string a8, .slice dV aW.length dB, .slice cV bb.length cT, .slice dU aE.length cJ] 62 (0, 0)) (by (with_reducible repeat (first | refine ax ?_ _ | refine aG ?_ | refine ay ?_ _)); exact bw.out) hb); have bX := ak (eh (g := dK) (o := .cells #[.string (⟨#[]⟩ : ByteArray), .string (⟨#[]⟩ : ByteArray)] 76 (0, 0)) (by (with_reducible repeat (first | refine ax ?_ _ | refine aG ?_ | refine ay ?_ _)); exact e9.out) hb); have dh := ak (bA (by repeat (first | (with_reducible first | exact HB.out | apply af | apply ab | apply ai | refine aD ?_ iS.out | refine aD ?_ o9.out) | exact HB.out)) hb); clear bw; clear e9; clear HB; have bw := bR; have e9 := bX; have HB := dh; clear bR bX dh; (try clear hb); (try clear eX); (try clear hk); (try clear hi); have X4 : qF.cell? ⟨cx, 0, none⟩ = some (.int .u32 a6) := (al bw.out 0).trans rfl; have X3 : qF.cell? ⟨cx, 1, none⟩ = some (.string a8) := (al bw.out 1).trans rfl; have X2 : qF.cell? ⟨cx, 2, none⟩ = some (.slice dV aW.length dB) := (al bw.out 2).trans rfl; have X1 : qF.cell? ⟨cx, 3, none⟩ = some (.slice cV bb.length cT) := (al bw.out 3).trans rfl; have X0 : qF.cell? ⟨cx, 4, none⟩ = some (.slice dU aE.length cJ) := (al bw.out 4).trans rfl; have Wm := aj bw.out 0; have Wl := aj bw.out 1; have Wk := aj bw.out 2; have Wj := aj bw.out 3; have Wi := aj bw.out 4; have sq : 0 ≤ ((lC) : Int) := of_decide_eq_true (by first | (with_reducible assumption) | assumption); have se : (lC) < (aW.length : Int) := of_decide_eq_true (by first | (with_reducible assumption) | assumption); obtain ⟨yi, Ey, nh⟩ := Kd.at_int oG.out (lC) sq se; cases Ey; replace nh := (HB.out.cell (World.block_lt_of_cell? w _ nh)).trans nh; replace sq := eq_true sq; replace se := eq_true se))
       have bR := ak (aG bw.out)
       have bX := ak (aG e9.out)
       have dh := ak (ai HB.out)
       clear bw
       clear e9
       clear HB
       have bw := bR
       have e9 := bX
       have HB := dh
       clear bR bX dh
       have DH : 0 ≤ ((lC) : Int) := of_decide_eq_true (by first | (with_reducible assumption) | assumption)
       have DB : (lC) < (aW.length : Int) := of_decide_eq_true (by first | (with_reducible assumption) | assumption)
       obtain ⟨Px, QW, qP⟩ := Kd.at_int oG.out (lC) DH DB
       have kO := qP
       obtain rfl : yi = Px := (by injection QW)
       replace qP := (HB.out.cell (World.block_lt_of_cell? w _ qP)).trans qP
       replace DH := eq_true DH
       replace DB := eq_true DB
       have DG : 0 ≤ ((lU) : Int) := of_decide_eq_true (by first | (with_reducible assumption) | assumption)
       have DA : (lU) < (aE.length : Int) := of_decide_eq_true (by first | (with_reducible assumption) | assumption)
       obtain ⟨yh, QV, qO, qN⟩ := sN qA.out (lU) DG DA
       have kM := qN
       have kN := qO
       cases QV
       replace qO := (HB.out.cell (World.block_lt_of_cell? w _ qO)).trans qO
       replace qN := (HB.out.cell (World.block_lt_of_cell? w _ qN)).trans qN
       replace DG := eq_true DG
       replace DA := eq_true DA
       refine dR (n := 13) (S := fun w' => w'.cell? ⟨cx, 0, none⟩ = some (.int .u32 a6) ∧ w'.cell? ⟨cx, 1, none⟩ = some (.string a8) ∧ w'.cell? ⟨cx, 2, none⟩ = some (.slice (some yi) aW.length dB) ∧ w'.cell? ⟨cx, 3, none⟩ = some (.slice cV bb.length cT) ∧ w'.cell? ⟨cx, 4, none⟩ = some (.slice (some yh) aE.length cJ) ∧ w'.cell? (yi.add ((lC)).toNat) = some (.int .i64 (rd aW (lC))) ∧ w'.cell? (yh.add (((lU)).toNat * 2)) = some (.string ((a9 aE (lU)).f0)) ∧ w'.cell? ⟨(yh.add (((lU)).toNat * 2)).block, (yh.add (((lU)).toNat * 2)).off + 1, none⟩ = some (.string ((a9 aE (lU)).f1))) (ds := []) #[false, false, false, false, false, false, false, false, false, false, false, false, false] (by kernel_rfl) rfl rfl ⟨(al bw.out 0).trans rfl, (al bw.out 1).trans rfl, (al bw.out 2).trans rfl, (al bw.out 3).trans rfl, (al bw.out 4).trans rfl, ((HB.out.cell (World.block_lt_of_cell? w _ kO)).trans kO), ((HB.out.cell (World.block_lt_of_cell? w _ kN)).trans kN), ((HB.out.cell (World.block_lt_of_cell? w _ kM)).trans kM)⟩ (fun hHeld => ?_); refine b5 eW.tab3 eW.bits3 (fun ag bM => ?_)
       generalize qF.drew = Ty at bw e9 HB qP qO qN hHeld ⊢
       refine pu 0 ag.out ?_
       refine pu 2 ag.out ?_
       refine pu 4 ag.out ?_
       refine pu 5 ag.out ?_
       refine take_ (i := 1) (N := some 21) (v := ?_) (a' := ?_) #[true, true, true, false, true, true, false, false, false, false, false, false, false] rfl rfl (rU ag.out bM.out (by kernel_rfl)) (fun _ _ _ h => h) (Or.inl ⟨by rfl, ?_⟩) hHeld ?_ ?_
       rotate_left
       ·rintro w' ⟨s0, s1, s2, s3, s4, s5, s6, s7⟩
        go_simp
        with_reducible rfl
       rotate_left
       ·simp only [Act.put, List.setIfInBounds_toArray, List.set_cons_zero, List.set_cons_succ, iT, jx]
        rfl
       refine take_ (i := 3) (N := some 23) (v := ?_) (a' := ?_) #[true, true, true, true, true, true, false, false, false, false, false, false, false] rfl rfl (rU ag.out bM.out (by kernel_rfl)) (fun _ _ _ h => h) (Or.inl ⟨by rfl, ?_⟩) hHeld ?_ ?_
       rotate_left
       ·rintro w' ⟨s0, s1, s2, s3, s4, s5, s6, s7⟩
        go_simp
        with_reducible rfl
       rotate_left
       ·simp only [Act.put, List.setIfInBounds_toArray, List.set_cons_zero, List.set_cons_succ, iT, jx]
        rfl
       refine pu 6 ag.out ?_
       refine take_ (i := 7) (N := some 27) (v := ?_) (a' := ?_) #[true, true, true, true, true, true, true, true, false, false, false, false, false] rfl rfl (rU ag.out bM.out (by kernel_rfl)) (fun _ _ _ h => h) (Or.inl ⟨by rfl, ?_⟩) hHeld ?_ ?_
       rotate_left
       ·rintro w' ⟨s0, s1, s2, s3, s4, s5, s6, s7⟩
        go_simp
        with_reducible rfl
       rotate_left
       ·simp only [Act.put, List.setIfInBounds_toArray, List.set_cons_zero, List.set_cons_succ, iT, jx]
        rfl
       refine pu 8 ag.out ?_
       refine pu 9 ag.out ?_
       refine take_ (i := 10) (N := some 30) (v := ?_) (a' := ?_) #[true, true, true, true, true, true, true, true, true, true, true, false, false] rfl rfl (rU ag.out bM.out (by kernel_rfl)) (fun _ _ _ h => h) (Or.inl ⟨by rfl, ?_⟩) hHeld ?_ ?_
       rotate_left
       ·rintro w' ⟨s0, s1, s2, s3, s4, s5, s6, s7⟩
        go_simp
        with_reducible rfl
       rotate_left
       ·simp only [Act.put, List.setIfInBounds_toArray, List.set_cons_zero, List.set_cons_succ, iT, jx]
        rfl
       refine ow 11 ag.out (fun K hK => ?_)
       have af9 : Ty.cell? ⟨dK, 0, none⟩ = some (.string (⟨#[]⟩ : ByteArray)) := (al e9.out 0).trans rfl
       have ae6 := aj e9.out 0
       have UY := eQ.out
       have U0 := kz.out
       have af8 : Ty.cell? ⟨dK, 1, none⟩ = some (.string (⟨#[]⟩ : ByteArray)) := (al e9.out 1).trans rfl
       have ae5 := aj e9.out 1
       have UX := eQ.out
       have UZ := kz.out
       refine rm (w1 := ?_) (by rfl) rfl ?_ ?_
       rotate_left
       ·go_simp
        rfl
       refine hK.out _ _ ⟨((cell_far (p := ⟨dK, _, none⟩) eQ.out _).trans (((cell_far (p := ⟨dK, _, none⟩) eQ.out _).trans (hHeld.1)))), ((cell_far (p := ⟨dK, _, none⟩) eQ.out _).trans (((cell_far (p := ⟨dK, _, none⟩) eQ.out _).trans (hHeld.2.1)))), ((cell_far (p := ⟨dK, _, none⟩) eQ.out _).trans (((cell_far (p := ⟨dK, _, none⟩) eQ.out _).trans (hHeld.2.2.1)))), ((cell_far (p := ⟨dK, _, none⟩) eQ.out _).trans (((cell_far (p := ⟨dK, _, none⟩) eQ.out _).trans (hHeld.2.2.2.1)))), ((cell_far (p := ⟨dK, _, none⟩) eQ.out _).trans (((cell_far (p := ⟨dK, _, none⟩) eQ.out _).trans (hHeld.2.2.2.2.1)))), ((cell_far (p := ⟨dK, _, none⟩) (by first | exact Nat.ne_of_lt (Nat.lt_of_lt_of_le (by have := World.block_lt_of_cell? _ _ kO; first | rwa [db] at this | exact this) fI.out) | (rw [db]; exact Nat.ne_of_lt (Nat.lt_of_lt_of_le (by have := World.block_lt_of_cell? _ _ kO; first | rwa [db] at this | exact this) fI.out)) | (show (Addr.add _ _).block ≠ _; rw [db]; exact Nat.ne_of_lt (Nat.lt_of_lt_of_le (by have := World.block_lt_of_cell? _ _ kO; first | rwa [db] at this | exact this) fI.out)) | (dsimp only; exact Nat.ne_of_lt (Nat.lt_of_lt_of_le (by have := World.block_lt_of_cell? _ _ kO; first | rwa [db] at this | exact this) fI.out))) _).trans (((cell_far (p := ⟨dK, _, none⟩) (by first | exact Nat.ne_of_lt (Nat.lt_of_lt_of_le (by have := World.block_lt_of_cell? _ _ kO; first | rwa [db] at this | exact this) fI.out) | (rw [db]; exact Nat.ne_of_lt (Nat.lt_of_lt_of_le (by have := World.block_lt_of_cell? _ _ kO; first | rwa [db] at this | exact this) fI.out)) | (show (Addr.add _ _).block ≠ _; rw [db]; exact Nat.ne_of_lt (Nat.lt_of_lt_of_le (by have := World.block_lt_of_cell? _ _ kO; first | rwa [db] at this | exact this) fI.out)) | (dsimp only; exact Nat.ne_of_lt (Nat.lt_of_lt_of_le (by have := World.block_lt_of_cell? _ _ kO; first | rwa [db] at this | exact this) fI.out))) _).trans (hHeld.2.2.2.2.2.1)))), ((cell_far (p := ⟨dK, _, none⟩) (by first | exact Nat.ne_of_lt (Nat.lt_of_lt_of_le (by have := World.block_lt_of_cell? _ _ kN; first | rwa [db] at this | exact this) fI.out) | (rw [db]; exact Nat.ne_of_lt (Nat.lt_of_lt_of_le (by have := World.block_lt_of_cell? _ _ kN; first | rwa [db] at this | exact this) fI.out)) | (show (Addr.add _ _).block ≠ _; rw [db]; exact Nat.ne_of_lt (Nat.lt_of_lt_of_le (by have := World.block_lt_of_cell? _ _ kN; first | rwa [db] at this | exact this) fI.out)) | (dsimp only; exact Nat.ne_of_lt (Nat.lt_of_lt_of_le (by have := World.block_lt_of_cell? _ _ kN; first | rwa [db] at this | exact this) fI.out))) _).trans (((cell_far (p := ⟨dK, _, none⟩) (by first | exact Nat.ne_of_lt (Nat.lt_of_lt_of_le (by have := World.block_lt_of_cell? _ _ kN; first | rwa [db] at this | exact this) fI.out) | (rw [db]; exact Nat.ne_of_lt (Nat.lt_of_lt_of_le (by have := World.block_lt_of_cell? _ _ kN; first | rwa [db] at this | exact this) fI.out)) | (show (Addr.add _ _).block ≠ _; rw [db]; exact Nat.ne_of_lt (Nat.lt_of_lt_of_le (by have := World.block_lt_of_cell? _ _ kN; first | rwa [db] at this | exact this) fI.out)) | (dsimp only; exact Nat.ne_of_lt (Nat.lt_of_lt_of_le (by have := World.block_lt_of_cell? _ _ kN; first | rwa [db] at this | exact this) fI.out))) _).trans (hHeld.2.2.2.2.2.2.1)))), ((cell_far (p := ⟨dK, _, none⟩) (by first | exact Nat.ne_of_lt (Nat.lt_of_lt_of_le (by have := World.block_lt_of_cell? _ _ kM; first | rwa [db] at this | exact this) fI.out) | (rw [db]; exact Nat.ne_of_lt (Nat.lt_of_lt_of_le (by have := World.block_lt_of_cell? _ _ kM; first | rwa [db] at this | exact this) fI.out)) | (show (Addr.add _ _).block ≠ _; rw [db]; exact Nat.ne_of_lt (Nat.lt_of_lt_of_le (by have := World.block_lt_of_cell? _ _ kM; first | rwa [db] at this | exact this) fI.out)) | (dsimp only; exact Nat.ne_of_lt (Nat.lt_of_lt_of_le (by have := World.block_lt_of_cell? _ _ kM; first | rwa [db] at this | exact this) fI.out))) _).trans (((cell_far (p := ⟨dK, _, none⟩) (by first | exact Nat.ne_of_lt (Nat.lt_of_lt_of_le (by have := World.block_lt_of_cell? _ _ kM; first | rwa [db] at this | exact this) fI.out) | (rw [db]; exact Nat.ne_of_lt (Nat.lt_of_lt_of_le (by have := World.block_lt_of_cell? _ _ kM; first | rwa [db] at this | exact this) fI.out)) | (show (Addr.add _ _).block ≠ _; rw [db]; exact Nat.ne_of_lt (Nat.lt_of_lt_of_le (by have := World.block_lt_of_cell? _ _ kM; first | rwa [db] at this | exact this) fI.out)) | (dsimp only; exact Nat.ne_of_lt (Nat.lt_of_lt_of_le (by have := World.block_lt_of_cell? _ _ kM; first | rwa [db] at this | exact this) fI.out))) _).trans (hHeld.2.2.2.2.2.2.2))))⟩ (fun hHeld => ?_)
       clear hK K
       refine pu 12 ag.out ?_
       refine dn ag.out ?_
       try go_wp2
       refine bodyPost_ret (gB rfl _ _ dK 76 #[.string ((a9 aE (lU)).f0), .string ((a9 aE (lU)).f1)] (0, 0) _ rfl (by (with_reducible repeat (first | refine ax ?_ _ | refine aG ?_ | refine ay ?_ _)); refine e7 (cs := #[.string ((a9 aE (lU)).f0), .string (⟨#[]⟩ : ByteArray)]) ?_ 1 _ rfl; (with_reducible repeat (first | refine ax ?_ _ | refine aG ?_ | refine ay ?_ _)); refine e7 (cs := #[.string (⟨#[]⟩ : ByteArray), .string (⟨#[]⟩ : ByteArray)]) ?_ 0 _ rfl; (with_reducible repeat (first | refine ax ?_ _ | refine aG ?_ | refine ay ?_ _)); exact e9.out) Try.underlying76 rfl (by kernel_rfl)) rfl ?_
       exact ⟨by first | rfl | (simp [bf, bd] <;> rfl) | (simp only [← D2, ← zH]; first | rfl | (simp [bf, bd] <;> rfl)) | (simp [*, bf, bd] <;> rfl), by repeat (first | (with_reducible first | exact HB.out | apply af | apply ab | apply ai | refine aD ?_ iS.out | refine aD ?_ o9.out) | exact HB.out)⟩
      ·rw [if_neg xD] at H
       exact absurd H (by simp)
     ·rw [if_neg xE] at H
      exact absurd H (by simp)
   ·rw [if_neg c7] at H
    exact absurd H (by simp)
  ·rw [if_neg c6] at H
   exact absurd H (by simp)
 ·replace c4 := Bool.eq_false_iff.mpr c4
  subst c4
  have H1 : (some ((⟨#[]⟩ : ByteArray), (⟨#[]⟩ : ByteArray), false)) = some (r1, r2, r3) := by rw [if_neg (show ¬ (false = true) by decide)] at H; exact H
  clear H
  have H := H1
  clear H1
  simp only [Option.some.injEq, Prod.mk.injEq] at H
  obtain ⟨rfl, rfl, rfl⟩ := H
  go_enter Try.func62, Try.ntmps62
  go_wp2_with (first | ((with_reducible refine aJ (N := 2) rfl ?_); refine eY ?hg (N := 2) ?hd (cs := #[.int .u32 a6, .string a8, .slice dV aW.length dB, .slice cV bb.length cT, .slice dU aE.length cJ]) (t := 62) ?hr ?_; (case hd => rfl); (case hg => rfl); (case hr => first | (go_simp; done) | (go_simp; rfl)); intro cx hg w28 hbox hb; have bR := ak (bA (by repeat (first | (with_reducible first | exact HB.out | apply af | apply ab | apply ai) | exact HB.out)) hb); have bX := ak (hbox); have dh := ak ((by rw [hg]; exact (bo (by repeat (first | (with_reducible first | exact HB.out | apply af | apply ab | apply ai) | exact HB.out))) : w.heap.size ≤ cx)); have dX := ak ((by rw [hg]; exact (bo (by repeat (first | (with_reducible first | exact HB.out | apply af | apply ab | apply ai) | exact HB.out))) : w.heap.size ≤ cx)); clear HB; have HB := bR; have bw := bX; have GR := dh; have iS := dX; clear bR bX dh dX; clear hb hbox hg) | ((with_reducible refine aJ (N := 4) rfl ?_); refine eY ?hg (N := 4) ?hd (cs := #[.string (⟨#[]⟩ : ByteArray), .string (⟨#[]⟩ : ByteArray)]) (t := 76) ?hr ?_; (case hd => rfl); (case hg => rfl); (case hr => first | (go_simp; done) | (go_simp; rfl)); intro dK hg Im hbox hb; have bR := ak (eh (g := cx) (o := .cells #[.int .u32 a6, .string a8, .slice dV aW.length dB, .slice cV bb.length cT, .slice dU aE.length cJ] 62 (0, 0)) (by (with_reducible repeat (first | refine ax ?_ _ | refine aG ?_ | refine ay ?_ _)); exact bw.out) hb); have bX := ak (bA (by repeat (first | (with_reducible first | exact HB.out | apply af | apply ab | apply ai | refine aD ?_ iS.out) | exact HB.out)) hb); have dh := ak (hbox); have dX := ak ((by rw [hg]; exact (bo (by repeat (first | (with_reducible first | exact HB.out | apply af | apply ab | apply ai | refine aD ?_ iS.out) | exact HB.out))) : w.heap.size ≤ dK)); have iE := ak ((by rw [hg]; exact (bo (by repeat (first | (with_reducible first | exact HB.out | apply af | apply ab | apply ai | refine aD ?_ iS.out) | exact HB.out))) : w.heap.size ≤ dK)); have kL := ak ((by rw [hg]; exact Nat.ne_of_lt (gu (g := cx) (o := .cells #[.int .u32 a6, .string a8, .slice dV aW.length dB, .slice cV bb.length cT, .slice dU aE.length cJ] 62 (0, 0)) (by (with_reducible repeat (first | refine ax ?_ _ | refine aG ?_ | refine ay ?_ _)); exact bw.out)) : cx ≠ dK)); have l5 := ak ((by rw [hg]; exact Nat.ne_of_gt (gu (g := cx) (o := .cells #[.int .u32 a6, .string a8, .slice dV aW.length dB, .slice cV bb.length cT, .slice dU aE.length cJ] 62 (0, 0)) (by (with_reducible repeat (first | refine ax ?_ _ | refine aG ?_ | refine ay ?_ _)); exact bw.out)) : dK ≠ cx)); clear bw; clear HB; have bw := bR; have HB := bX; have e9 := dh; have fI := dX; have o9 := iE; have eQ := kL; have kz := l5; clear bR bX dh dX iE kL l5; clear hb hbox hg; have ac9 := eQ.out; have ab4 := kz.out; have XK : Im.cell? ⟨cx, 0, none⟩ = some (.int .u32 a6) := (al bw.out 0).trans rfl; have XJ : Im.cell? ⟨cx, 1, none⟩ = some (.string a8) := (al bw.out 1).trans rfl; have XI : Im.cell? ⟨cx, 2, none⟩ = some (.slice dV aW.length dB) := (al bw.out 2).trans rfl; have XH : Im.cell? ⟨cx, 3, none⟩ = some (.slice cV bb.length cT) := (al bw.out 3).trans rfl; have XG : Im.cell? ⟨cx, 4, none⟩ = some (.slice dU aE.length cJ) := (al bw.out 4).trans rfl; have VT := aj bw.out 0; have VS := aj bw.out 1; have VR := aj bw.out 2; have VQ := aj bw.out 3; have VP := aj bw.out 4) | ((with_reducible refine dp (f := 100) rfl ?_); refine fQ (some 8) rfl rfl Try.func100 (by kernel_rfl) rfl #[.agg #[.int .u32 a6, .string a8, .slice dV aW.length dB, .slice cV bb.length cT, .slice dU aE.length cJ], .int .u32 a1] rfl (by (try simp only [List.map_toArray, List.map_cons, List.map_nil]); first | done | rfl | (simp only [List.length_drop, List.length_take]; rfl)) ?_; (with_reducible refine (gj.calls a6 a8 _ _ aW _ _ bb _ _ aE a1 false _ ?side1 ?side2 ?side3 ?side4 ?side5 ?side6 A3.out).mono ?_); (case side1 => repeat (first | exact (Kd.C_below oG.out HB.out) | (with_reducible refine Kd.C_alloc ?_ _) | (with_reducible refine Kd.C_drewN ?_ _) | (with_reducible refine Kd.C_drew ?_))); (case side2 => exact wz.out); (case side3 => repeat (first | exact (Kd.C_below mY.out HB.out) | (with_reducible refine Kd.C_alloc ?_ _) | (with_reducible refine Kd.C_drewN ?_ _) | (with_reducible refine Kd.C_drew ?_))); (case side4 => exact qC.out); (case side5 => repeat (first | exact (Kd.C_below qA.out HB.out) | (with_reducible refine Kd.C_alloc ?_ _) | (with_reducible refine Kd.C_drewN ?_ _) | (with_reducible refine Kd.C_drew ?_))); (case side6 => exact wy.out); rintro e Tx ⟨rfl, hb⟩; refine ⟨_, rfl, ?_⟩; have bR := ak (eh (g := cx) (o := .cells #[.int .u32 a6, .string a8, .slice dV aW.length dB, .slice cV bb.length cT, .slice dU aE.length cJ] 62 (0, 0)) (by (with_reducible repeat (first | refine ax ?_ _ | refine aG ?_ | refine ay ?_ _)); exact bw.out) hb); have bX := ak (eh (g := dK) (o := .cells #[.string (⟨#[]⟩ : ByteArray), .string (⟨#[]⟩ : ByteArray)] 76 (0, 0)) (by (with_reducible repeat (first | refine ax ?_ _ | refine aG ?_ | refine ay ?_ _)); exact e9.out) hb); have dh := ak (bA (by repeat (first | (with_reducible first | exact HB.out | apply af | apply ab | apply ai | refine aD ?_ iS.out | refine aD ?_ o9.out) | exact HB.out)) hb); clear bw; clear e9; clear HB; have bw := bR; have e9 := bX; have HB := dh; clear bR bX dh; (try clear hb); (try clear eX); (try clear hk); (try clear hi); have XF : Tx.cell? ⟨dK, 0, none⟩ = some (.string (⟨#[]⟩ : ByteArray)) := (al e9.out 0).trans rfl; have XE : Tx.cell? ⟨dK, 1, none⟩ = some (.string (⟨#[]⟩ : ByteArray)) := (al e9.out 1).trans rfl; have VO := aj e9.out 0; have VN := aj e9.out 1))
  refine bodyPost_ret (gB rfl _ _ dK 76 #[.string (⟨#[]⟩ : ByteArray), .string (⟨#[]⟩ : ByteArray)] (0, 0) _ rfl (by (with_reducible repeat (first | refine ax ?_ _ | refine aG ?_ | refine ay ?_ _)); refine e7 (cs := #[.string (⟨#[]⟩ : ByteArray), .string (⟨#[]⟩ : ByteArray)]) ?_ 1 _ rfl; (with_reducible repeat (first | refine ax ?_ _ | refine aG ?_ | refine ay ?_ _)); refine e7 (cs := #[.string (⟨#[]⟩ : ByteArray), .string (⟨#[]⟩ : ByteArray)]) ?_ 0 _ rfl; (with_reducible repeat (first | refine ax ?_ _ | refine aG ?_ | refine ay ?_ _)); exact e9.out) Try.underlying76 rfl (by kernel_rfl)) rfl ?_
  exact ⟨by first | rfl | (simp [bf, bd] <;> rfl) | (simp [*, bf, bd] <;> rfl), by repeat (first | (with_reducible first | exact HB.out | apply af | apply ab | apply ai | refine aD ?_ iS.out | refine aD ?_ o9.out) | exact HB.out)⟩
end Go.Proofs.Ytemhalnhbgkbcaa.V
end

section
namespace Go.Proofs.Ytemhalnhbgkbcaa.V
def ov (b : Bk) (x : Int) : At := if ku b x = true then mu b (x - b.addr).toNat else ⟨⟨#[]⟩, ⟨#[]⟩⟩
theorem Qs (b : Bk) (M : List lN) (x : Int) (h0 : 0 ≤ x) (h1 : x < 4294967296) : gj.f b.addr b.aff b.slots b.free M x = some (decide (cC x = b.addr)) := by
 unfold gj.f cC
 rw [Int.tmod_eq_emod_of_nonneg h0, Int.emod_eq_of_lt (by omega) (by omega)]
 congr 1
theorem Uj (b : Bk) (hl : b.slots.length = 64) (hs : pI b.slots) (hle : ∀ s ∈ b.slots, s ≤ (b.attrs.length : Int)) (M : List lN) (hM : M = b.attrs.map vc) (x : Int) (h0 : 0 ≤ x) (h1 : x < 4294967296) :
  eW.f b.addr b.aff b.slots b.free M x = some ((ov b x).f0, (ov b x).f1, ku b x) := by
 have hml : M.length = b.attrs.length := by rw [hM, List.length_map]
 unfold eW.f
 rw [Qs b M x h0 h1, Option.bind_some]
 by_cases hf : cC x = b.addr
 ·have hj : x % 64 = x - b.addr := by unfold cC at hf; omega
  obtain ⟨j, qQ⟩ : ∃ j : Nat, x - b.addr = (j : Int) := ⟨(x - b.addr).toNat, by omega⟩
  have sD : j < b.slots.length := by omega
  rw [decide_eq_true hf, if_pos rfl, Int.tmod_eq_emod_of_nonneg h0, hj, qQ, if_pos (by omega), if_pos (by omega)]
  have hrd : rd b.slots (j : Int) = b.slots[j] := by simp [rd, List.getD, sD]
  have hgd : b.slots.getD j 0 = b.slots[j] := by simp [List.getD, sD]
  have hh : ku b x = (b.slots[j] != 0) := by
   unfold ku
   rw [decide_eq_true hf, qQ, Int.toNat_natCast, hgd, Bool.true_and]
  have hms := hs _ (List.getElem_mem sD)
  have D1 := hle _ (List.getElem_mem sD)
  rw [hrd]
  by_cases hz : b.slots[j] = 0
  ·rw [if_pos hz]
   have e : ku b x = false := by rw [hh, hz]; rfl
   unfold ov
   rw [e]
   rfl
  ·rw [if_neg hz]
   have e : ku b x = true := by rw [hh]; simpa using hz
   obtain ⟨m, hm⟩ : ∃ m : Nat, b.slots[j] = (m : Int) + 1 := ⟨(b.slots[j]).toNat - 1, by omega⟩
   have hw : wrap64 (b.slots[j] - 1) = (m : Int) := by rw [hm, iC _ (by omega) (by omega)]; omega
   have hmm : m < b.attrs.length := by omega
   rw [hw, if_pos (by omega), if_pos (by omega)]
   unfold ov
   rw [e, if_pos rfl, qQ, Int.toNat_natCast]
   have F6 : mu b j = iR b.attrs m := by
    unfold mu
    rw [hgd, hm]
    congr 1
    omega
   have hx : a9 M (m : Int) = vc (iR b.attrs m) := by
    rw [hM]
    show a9 (b.attrs.map vc) (m : Int) = vc (dE b.attrs (m : Int))
    simp [a9, dE, List.getD, hmm]
   rw [F6, hx]
   rfl
 ·have e : ku b x = false := by unfold ku; rw [decide_eq_false hf]; rfl
  rw [decide_eq_false hf, if_neg (by decide)]
  unfold ov
  rw [e]
  rfl
theorem rK (b : Bk) (hl : b.slots.length = 64) (hs : pI b.slots) (hle : ∀ s ∈ b.slots, s ≤ (b.attrs.length : Int)) (M : List lN) (As Af Aa : Option Addr) (cs cf ca : Nat) (w : World) (hr : RbR w b M As cs Af cf Aa ca) (x : Int) (h0 : 0 ≤ x) (h1 : x < 4294967296) :
  Calls Try.prog 62 #[.agg (dH b.addr b.aff (.slice As b.slots.length cs) (.slice Af b.free.length cf) (.slice Aa M.length ca)).toArray, .int .u32 x] w fun e w' => e = .returned (.tuple #[.agg #[.string (ov b x).f0, .string (ov b x).f1], .bool (ku b x)]) ∧ Below w.heap.size w w' :=
 eW.calls _ _ _ _ _ _ _ _ _ _ _ x _ _ _ w hr.sr hr.sc hr.fr hr.fc hr.ar hr.ac (Uj b hl hs hle M hr.m x h0 h1)
end Go.Proofs.Ytemhalnhbgkbcaa.V
end

section
namespace Go.Proofs.Ytemhalnhbgkbcaa.V
def mX (b : Bk) (n : Int) (a : At) : Bool := eE b && (fj a && decide (0 ≤ n))
theorem j6 (a : At) : ∀ u ∈ [Value.string a.f0, .string a.f1], u.oneCell' = true := by
 intro u hu
 simp only [List.mem_cons, List.not_mem_nil, or_false] at hu
 rcases hu with rfl | rfl <;> rfl
set_option maxHeartbeats 8000000 in
set_option maxRecDepth 100000 in
theorem JA (b : Bk) (hk : BkOk b) (n : Int) (a : At) (hno : mX b n a = false) (v : Value) (w : World) (h : jb w v b) :
  Calls Try.prog 49 #[v, .int .i64 n, fv a] w fun e w' => ∃ v' vo, e = .returned (.tuple #[v', vo, .int .i64 1]) ∧ eP w' w.heap.size v' kC ∧ Kd.R (Kd.int .u32) 46 w' w.heap.size (fun _ => True) vo [] ∧ Below w.heap.size w w' := by
 obtain ⟨A, c, A', c', rfl, hr⟩ := h
 have HL := ak hr.l64
 have HR := ak hr
 have HK := ak hk
 clear hr hk
 have an := ak (Below.refl w.heap.size w)
 unfold mX at hno
 cases hrt : eE b with
 | false =>
  have HRT := ak hrt
  clear hrt hno
  go_enter Try.func49, Try.ntmps49
  go_wp2_with (first
   | (refine aV rfl 57 (.tmp 0) rfl _ rfl ?_; intro gX W1 J aa I; have cw := ge an J; have aA := ak (an.out.trans (I.mono an.out.size)); have au := ak (aa); clear J aa I an)
   | (refine aV rfl 85 (.tmp 2) rfl _ rfl ?_; intro gA W2 J aa I; have lI := ge aA J; have fq := ne au J; have aK := mv I aA; have aI := mv I au; have cX := ak (aa); clear J aa I aA au)
   | (refine aH (some 6) rfl rfl 57 rfl bu b6 ?_; intro gZ W3 J aa I; have ct := ge aK J; have aU := ne aI J; have ij := ne cX J; have aT := mv I aK; have aQ := mv I aI; have eg := mv I cX; have cD := ak (aa); clear J aa I aK aI cX)
   | ((with_reducible refine aJ (N := 12) rfl ?_); refine aN rfl 57 (.tmp 3) rfl gX rfl _ _ _ aQ.out Try.underlying57 rfl 68 (by kernel_rfl) (ao _ _ _ _ _ HL.out) ?_)
   | (go_at_call 48; refine (e8 b HK.out _ _ ⟨A, c, A', c', rfl, HR.out.below aT.out⟩).mono ?_; rintro e W4 ⟨rfl, I⟩; rw [HRT.out]; have bq := mv I aT; have bg := mv I aQ; have eD := mv I eg; have bB := mv I cD; clear I aT aQ eg cD)
   | (refine gz rfl 57 #[] rfl bu mD ?_)
   | (refine a7 rfl 57 (.tmp 6) (.tmp 24) rfl gZ bu rfl rfl 57 _ bB.out 68 (by kernel_rfl) rfl rfl jU ?_; intro W5 aa J; have bE := gb bq ct J; have bz := gn bg aU J; have fB := gx eD bB J; have bY := ak (aa); clear aa J bq bg eD bB))
  exact bodyPost_ret (jc rfl _ _ gZ 57 _ (0, 0) _ rfl bY.out Try.underlying57 rfl (by simp only [List.size_toArray]; exact dc _ rfl)) rfl ⟨_, _, rfl, oC _ _, Kd.R_nil _ _ _ _ _, bE.out⟩
 | true =>
  have HRT := ak hrt
  cases hm : fj a with
  | false =>
   have HMY := ak hm
   clear hrt hno hm
   go_enter Try.func49, Try.ntmps49
   go_wp2_with (first
    | (refine aV rfl 57 (.tmp 0) rfl _ rfl ?_; intro gX W1 J aa I; have cw := ge an J; have aA := ak (an.out.trans (I.mono an.out.size)); have au := ak (aa); clear J aa I an)
    | (refine aV rfl 85 (.tmp 2) rfl _ rfl ?_; intro gA W2 J aa I; have lI := ge aA J; have fq := ne au J; have aK := mv I aA; have aI := mv I au; have cX := ak (aa); clear J aa I aA au)
    | (refine aH (some 6) rfl rfl 57 rfl bu b6 ?_; intro gZ W3 J aa I; have ct := ge aK J; have aU := ne aI J; have ij := ne cX J; have aT := mv I aK; have aQ := mv I aI; have eg := mv I cX; have cD := ak (aa); clear J aa I aK aI cX)
    | ((with_reducible refine aJ (N := 12) rfl ?_); refine aN rfl 57 (.tmp 3) rfl gX rfl _ _ _ aQ.out Try.underlying57 rfl 68 (by kernel_rfl) (ao _ _ _ _ _ HL.out) ?_)
    | (go_at_call 48; refine (e8 b HK.out _ _ ⟨A, c, A', c', rfl, HR.out.below aT.out⟩).mono ?_; rintro e W4 ⟨rfl, I⟩; rw [HRT.out]; have bq := mv I aT; have bg := mv I aQ; have eD := mv I eg; have bB := mv I cD; clear I aT aQ eg cD)
    | ((with_reducible refine aJ (N := 16) rfl ?_); refine fk (by rfl) ?_; refine aN rfl 85 (.tmp 5) rfl gA rfl _ _ _ eD.out Try.underlying85 rfl 2 (by kernel_rfl) rfl ?_)
    | (go_at_call 88; refine (kv a _).mono ?_; rintro e W5 ⟨rfl, I⟩; rw [HMY.out]; have bE := mv I bq; have bz := mv I bg; have fB := mv I eD; have bY := mv I bB; clear I bq bg eD bB)
    | (refine gz rfl 57 #[] rfl bu mD ?_)
    | (refine a7 rfl 57 (.tmp 6) (.tmp 24) rfl gZ bu rfl rfl 57 _ bY.out 68 (by kernel_rfl) rfl rfl jU ?_; intro W6 aa J; have bZ := gb bE ct J; have bH := gn bz aU J; have gi := gx fB bY J; have cn := ak (aa); clear aa J bE bz fB bY))
   exact bodyPost_ret (jc rfl _ _ gZ 57 _ (0, 0) _ rfl cn.out Try.underlying57 rfl (by simp only [List.size_toArray]; exact dc _ rfl)) rfl ⟨_, _, rfl, oC _ _, Kd.R_nil _ _ _ _ _, bZ.out⟩
  | true =>
   have HMY := ak hm
   rw [hrt, hm] at hno
   have hneg : n < 0 := by
    simp at hno
    omega
   have hd : decide (n < 0) = true := decide_eq_true hneg
   clear hrt hno hm
   go_enter Try.func49, Try.ntmps49
   go_wp2_with (first
    | (refine aV rfl 57 (.tmp 0) rfl _ rfl ?_; intro gX W1 J aa I; have cw := ge an J; have aA := ak (an.out.trans (I.mono an.out.size)); have au := ak (aa); clear J aa I an)
    | (refine aV rfl 85 (.tmp 2) rfl _ rfl ?_; intro gA W2 J aa I; have lI := ge aA J; have fq := ne au J; have aK := mv I aA; have aI := mv I au; have cX := ak (aa); clear J aa I aA au)
    | (refine aH (some 6) rfl rfl 57 rfl bu b6 ?_; intro gZ W3 J aa I; have ct := ge aK J; have aU := ne aI J; have ij := ne cX J; have aT := mv I aK; have aQ := mv I aI; have eg := mv I cX; have cD := ak (aa); clear J aa I aK aI cX)
    | ((with_reducible refine aJ (N := 12) rfl ?_); refine aN rfl 57 (.tmp 3) rfl gX rfl _ _ _ aQ.out Try.underlying57 rfl 68 (by kernel_rfl) (ao _ _ _ _ _ HL.out) ?_)
    | (go_at_call 48; refine (e8 b HK.out _ _ ⟨A, c, A', c', rfl, HR.out.below aT.out⟩).mono ?_; rintro e W4 ⟨rfl, I⟩; rw [HRT.out]; have bq := mv I aT; have bg := mv I aQ; have eD := mv I eg; have bB := mv I cD; clear I aT aQ eg cD)
    | ((with_reducible refine aJ (N := 16) rfl ?_); refine fk (by rfl) ?_; refine aN rfl 85 (.tmp 5) rfl gA rfl _ _ _ eD.out Try.underlying85 rfl 2 (by kernel_rfl) rfl ?_)
    | (go_at_call 88; refine (kv a _).mono ?_; rintro e W5 ⟨rfl, I⟩; rw [HMY.out]; have bE := mv I bq; have bz := mv I bg; have fB := mv I eD; have bY := mv I bB; clear I bq bg eD bB)
    | (refine gz rfl 57 #[] rfl bu mD ?_)
    | (refine a7 rfl 57 (.tmp 6) (.tmp 24) rfl gZ bu rfl rfl 57 _ bY.out 68 (by kernel_rfl) rfl rfl jU ?_; intro W6 aa J; have bZ := gb bE ct J; have bH := gn bz aU J; have gi := gx fB bY J; have cn := ak (aa); clear aa J bE bz fB bY))
   exact bodyPost_ret (jc rfl _ _ gZ 57 _ (0, 0) _ rfl cn.out Try.underlying57 rfl (by simp only [List.size_toArray]; exact dc _ rfl)) rfl ⟨_, _, rfl, oC _ _, Kd.R_nil _ _ _ _ _, bZ.out⟩
end Go.Proofs.Ytemhalnhbgkbcaa.V
end

section
namespace Go.Proofs.Ytemhalnhbgkbcaa.V
theorem xB (xs : List Int) (A : Option Addr) (c m : Nat) (w : World) (hr : Kd.C (Kd.int .u8) w A xs.length xs) (hm : m ≤ xs.length) (hc : xs.length ≤ c) (hl : xs.length ≤ 4294967296) (A' : Option Addr) (hA : A' = if c = m then A else A.map (fun x => x.add m)) :
  Calls Try.prog 91 #[.slice A' (xs.length - m) (c - m)] w fun e w' => ∃ v, e = .returned v ∧ Kd.R (Kd.int .u8) 5 w' w.heap.size (fun _ => True) v (xs.drop m) ∧ Below w.heap.size w w' := by
 subst hA
 have h := Kd.C_drop hr hm hc
 have hld : (xs.drop m).length = xs.length - m := List.length_drop
 have h2 := BW (xs.drop m) _ (c - m) w h (by omega) (by omega)
 rw [hld] at h2
 have e : (A.map fun x => x.add (m * (Kd.int .u8).sz)) = A.map fun x => x.add m := by
  cases A with
  | none => rfl
  | some ad => show some (ad.add (m * 1)) = some (ad.add m); rw [Nat.mul_one]
 rw [e] at h2
 exact h2
theorem ko : (Try.prog.info? 46).map (fun i => (i.zero, i.size, i.bytes)) = some (some (.int .u32 0), 1, 4) := by kernel_rfl
set_option maxHeartbeats 16000000 in
set_option maxRecDepth 100000 in
theorem FM (b : Bk) (hk : BkOk b) (m : Nat) (sC : m < b.free.length) (a : At) (hrt : eE b = true) (hm : fj a = true) (v : Value) (w : World) (h : jb w v b) :
  Calls Try.prog 49 #[v, .int .i64 (m : Int), fv a] w fun e w' => ∃ v' vo, e = .returned (.tuple #[v', vo, .int .i64 0]) ∧ eP w' w.heap.size v' (fF b m a) ∧ Kd.R (Kd.int .u32) 46 w' w.heap.size (fun _ => True) vo (fU b m) ∧ Below w.heap.size w w' := by
 obtain ⟨A, c, A', c', rfl, hr⟩ := h
 have hp := jD hrt
 have hsum := hp.sum_le hk hr.l64
 have HL := ak hr.l64
 have HR := ak hr
 have HK := ak hk
 have HRT := ak hrt
 have HMY := ak hm
 have HP := ak hp
 have hfl : b.free.length ≤ 64 := by omega
 have HCP := ak (nO b (by omega) (by omega))
 have an := ak (Below.refl w.heap.size w)
 have HSUM := ak hsum
 clear hr hk hrt hm hp hsum
 go_enter Try.func49, Try.ntmps49
 go_wp2_with (first
  | (refine aV rfl 57 (.tmp 0) rfl _ rfl ?_; intro gX W1 J aa I; have cw := ge an J; have aA := ak (an.out.trans (I.mono an.out.size)); have au := ak (aa); clear J aa I an)
  | (refine aV rfl 85 (.tmp 2) rfl _ rfl ?_; intro gA W2 J aa I; have lI := ge aA J; have fq := ne au J; have aK := mv I aA; have aI := mv I au; have cX := ak (aa); clear J aa I aA au)
  | (refine aH (some 6) rfl rfl 57 rfl bu b6 ?_; intro gZ W3 J aa I; have ct := ge aK J; have aU := ne aI J; have ij := ne cX J; have aT := mv I aK; have aQ := mv I aI; have eg := mv I cX; have cD := ak (aa); clear J aa I aK aI cX)
  | ((with_reducible refine aJ (N := 12) rfl ?_); refine aN rfl 57 (.tmp 3) rfl gX rfl _ _ _ aQ.out Try.underlying57 rfl 68 (by kernel_rfl) (ao _ _ _ _ _ HL.out) ?_)
  | (go_at_call 48; refine (e8 b HK.out _ _ ⟨A, c, A', c', rfl, HR.out.below aT.out⟩).mono ?_; rintro e W4 ⟨rfl, I⟩; rw [HRT.out]; have bq := mv I aT; have bg := mv I aQ; have eD := mv I eg; have bB := mv I cD; clear I aT aQ eg cD)
  | ((with_reducible refine aJ (N := 16) rfl ?_); refine fk (by rfl) ?_; refine aN rfl 85 (.tmp 5) rfl gA rfl _ _ _ eD.out Try.underlying85 rfl 2 (by kernel_rfl) rfl ?_)
  | (go_at_call 88; refine (kv a _).mono ?_; rintro e W5 ⟨rfl, I⟩; rw [HMY.out]; have bE := mv I bq; have bz := mv I bg; have fB := mv I eD; have bY := mv I bB; clear I bq bg eD bB)
  | ((with_reducible refine aJ (N := 25) rfl ?_); refine aN rfl 57 (.tmp 3) rfl gX rfl _ _ _ bz.out Try.underlying57 rfl 68 (by kernel_rfl) (ao _ _ _ _ _ HL.out) ?_)
  | (go_at_call 89; refine (HCP.out _ _ ⟨A, c, A', c', rfl, HR.out.below bE.out⟩).mono ?_; rintro e W6 ⟨v5, rfl, xw, I⟩; obtain ⟨xy, vf, va, rfl, nn, nr⟩ := xw; obtain ⟨Af, cf, rfl⟩ := Kd.R_slice nn; obtain ⟨Aa, ca, rfl⟩ := Kd.R_slice nr; have HSZ := ak bE.out.size; have wo := ak (show gX < W5.heap.size from bz.out.lt); have pL := ak (show gA < W5.heap.size from fB.out.lt); have pK := ak (show gZ < W5.heap.size from bY.out.lt); have bZ := mv I bE; have bH := mv I bz; have gi := mv I fB; have cn := mv I bY; have dD := ak (nn); have ef := ak (nr); have dN := ak (I.size); clear xy nn nr I bE bz fB bY)
  | (refine a7 rfl 57 (.tmp 3) (.tmp 26) rfl gX (bk b.addr b.aff b.slots (.slice Af b.free.length cf) (.slice Aa b.attrs.length ca)) rfl rfl 57 _ bH.out 68 (by kernel_rfl) (ao _ _ _ _ _ HL.out) (ao _ _ _ _ _ HL.out) (cA _ _ _ _ _ rfl rfl) ?_; intro W7 aa J; have eH := gb bZ cw J; have dP := ak (OC.stored HL.out bH.out aa dD.out ef.out J); have lq := gx gi bH J; have ep := gm cn aU J; have fA := gr dD bH J; have ji := gr ef bH J; have gq := ak (Nat.le_trans dN.out J.size); have oz := aa.cell 66 _ (gF _ _ _ _ _ HL.out); have QI : b.free.length ≤ cf := (Kd.R_reads' fA.out).2.1; clear aa J bZ bH gi cn dD ef dN))
 clear oz
 obtain ⟨b1, cI⟩ : ∃ b1, b1 = W5.heap.size := ⟨_, rfl⟩
 rw [← cI] at dP fA gq wo pL pK HSZ
 have cG := ak (show w.heap.size ≤ b1 from HSZ.out)
 clear cI HSZ
 have hmf : m ≤ b.free.length := by omega
 go_loopw [9, 11, 36] (fun o _ i W => ∃ k : Nat, k ≤ m ∧ i = .int .i64 k ∧ Aside0 (OC W b1 gX (eM b k a)) ∧ Aside0 (Kd.R (Kd.int .u32) 46 W w.heap.size (fun _ => True) o (fU b k)) ∧ Aside0 (aX W gA [.string a.f0, .string a.f1] 85) ∧ Aside0 (aX W gZ bu 57) ∧ Aside0 (Kd.R (Kd.int .u8) 5 W b1 (fun _ => True) (.slice Af b.free.length cf) b.free) ∧ Aside0 (b1 ≤ W.heap.size) ∧ Aside0 (Below w.heap.size w W)) (fun _ _ i _ => m - (intOf i).toNat)
 case atStart => exact ⟨0, by omega, rfl, dP, ⟨Kd.R_nil _ _ _ _ _⟩, lq, ep, fA, gq, eH⟩
 case round =>
  clear eH dP lq ep fA gq
  obtain ⟨k, hk, rfl, aZ, b9, iJ, bT, bU, bl, an⟩ := hrel
  obtain ⟨W, rfl⟩ : ∃ W : World, W = wr := ⟨_, rfl⟩
  by_cases hkn : k < m
  ·have hkb : decide ((k : Int) < (m : Int)) = true := by simp; omega
   have hkf : k < b.free.length := by omega
   obtain ⟨ad, eA, hx⟩ := Kd.at_int (Kd.R_reads' bU.out).2.2 k (by omega) (by omega)
   cases eA
   rw [Int.toNat_natCast] at hx
   obtain ⟨j, hj⟩ : ∃ j : Nat, rd b.free k = (j : Int) := ⟨(rd b.free k).toNat, by have := (lG HK.out.f8 k).1; omega⟩
   have qQ : j < 64 := by
    have h1 := HP.out.fr k hkf
    unfold jF at h1
    rw [Bool.or_eq_false_iff, decide_eq_false_iff_not] at h1
    have := h1.1
    omega
   rw [hj] at hx
   have HSC := ak (show eM b (k + 1) a = ⟨(eM b k a).addr, (eM b k a).aff, (eM b k a).slots.set (rd b.free k).toNat (ft (eM b k a).attrs a : Nat), (eM b k a).free, eZ (eM b k a).attrs a⟩ from qx b k a hkf)
   have HSO := ak (qw b k hkf)
   rw [hj] at HSC HSO
   rw [Int.toNat_natCast] at HSC
   have hol := jr b k (by omega)
   have HOL := ak hol
   have HAL := ak (show (eM b k a).attrs.length ≤ 100 by
    have := rC b.attrs a
    have := HSUM.out
    show (if k = 0 then b.attrs else eZ b.attrs a).length ≤ 100
    split <;> omega)
   obtain ⟨bm, hbm⟩ : ∃ bm, bm = eM b k a := ⟨_, rfl⟩
   have hadr : bm.addr = b.addr := by rw [hbm]; rfl
   have HADR := ak hadr
   clear hadr
   rw [← hbm] at aZ HSC HAL
   obtain ⟨oo, hoo⟩ : ∃ oo, oo = fU b k := ⟨_, rfl⟩
   obtain ⟨o1, fT⟩ : ∃ o1, o1 = fU b (k + 1) := ⟨_, rfl⟩
   rw [← hoo] at b9 HSO HOL
   rw [← fT, ← HADR.out] at HSO
   have mZ := ak fT
   have Ek : 0 ≤ bm.addr := by rw [HADR.out]; exact HK.out.a0
   have my : bm.addr + 64 ≤ 4294967296 := by
    rw [HADR.out]
    have h1 := HP.out.first
    have h2 := HK.out.a1
    unfold cC at h1
    omega
   clear hol hj hbm hoo fT
   obtain ⟨Ao, co, rfl⟩ := Kd.R_slice b9.out
   go_wp2_with (first
    | ((with_reducible refine aJ (N := 41) rfl ?_); refine aN rfl 85 (.tmp 5) rfl gA rfl _ _ _ iJ.out Try.underlying85 rfl 2 (by kernel_rfl) rfl ?_)
    | (go_at_call 90; refine (rp bm HAL.out a gX b1 w.heap.size _ cw.out cG.out bl.out aZ.out).mono ?_; rintro e W1 ⟨rfl, bc, I, dS⟩; obtain ⟨Sc, Rc, R9, Rb, jX, _, _⟩ := aZ.out.open; have au := ak (bc); have dt := ak (Kd.R_added b9.out jX (by decide) dS); have kB := ak (aX.added iJ.out (Ne.symm fq.out) pL.out dS); have cd := ak (aX.added bT.out (Ne.symm aU.out) pK.out dS); have bJ := ak (Kd.R_added bU.out jX (by decide) dS); have bC := ak (Nat.le_trans bl.out dS.1); have aA := ak (an.out.trans I); have oz := (show OC W1 b1 gX ⟨bm.addr, bm.aff, bm.slots, bm.free, eZ bm.attrs a⟩ from au.out).slotCell j qQ; have Eb := au.out.frozen (2 + j); have Eg := au.out.addrCell; clear bc I dS jX aZ b9 iJ bT bU bl an)
    | ((with_reducible refine cy (b := .append) (xs := #[.tmp 45, .tmp 51]) rfl ?_); at_builtin; clear oz Eb Eg; obtain ⟨_, _, _, _, jX, _, _⟩ := au.out.open; generalize cr : W1.setCell ⟨gX, 2 + j, none⟩ (.int .u8 (ft bm.attrs a : Nat)) = W2; have ox : W1.heap.size = W2.heap.size := (by rw [← cr]; simp [World.setCell]); rw [ox]; clear ox; have J : W1.grownBy W2 (some gX) := (by rw [← cr]; exact bP _ _ _ _); have aI := ak (OC.slot au.out j qQ (ft bm.attrs a : Nat)); have dv := ak (bO dt.out jX (by decide) J); have cX := gm kB fq J; have de := gm cd aU J; have ch := ak (bO bJ.out jX (by decide) J); have b4 := ak (Nat.le_trans bC.out J.size); have aK := gb aA cw J; rw [cr] at aI; clear cr J au dt kB cd bJ bC aA jX; refine Kd.R_append (Kd.int .u32) (w0 := w) w.heap.size rfl (.tmp 45) (.tmp 51) 77 46 (.int .u32 0) 4 rfl Try.underlying77 ko rfl (by decide) (by omega) _ oo (bm.addr + (j : Int)) [.int .u32 (bm.addr + (j : Int))] (fun _ => True) (fun _ => False) rfl rfl rfl (fun _ hk => hk.elim) (fun _ _ => trivial) dv.out aK.out aK.out.size (by have := HOL.out; omega) ?_; intro v_ W3 bc I J gp; rw [← HSO.out] at bc; have aQ := ak (OC.row aI.out dv.out (by decide) (by decide) J); have eS := ak (bc); have eg := ak (cX.out.grown J (cX.out.ne_row dv.out (by decide))); have cD := ak (de.out.grown J (de.out.ne_row dv.out (by decide))); have cW := ak (Kd.R_over ch.out dv.out (by decide) J); have cH := ak (Nat.le_trans b4.out J.size); have aT := ak (I); obtain ⟨AO, cO, rfl⟩ := Kd.R_slice bc; clear bc I J gp aI dv cX de ch b4 aK))
   go_roundw
   case rel => exact ⟨k + 1, by omega, by go_num, ⟨by rw [HSC.out]; exact aQ.out⟩, ⟨by rw [← mZ.out]; exact eS.out⟩, eg, cD, cW, cH, aT⟩
   case measure => simp [intOf]; omega
  ·obtain rfl : k = m := by omega
   have hkb : decide ((k : Int) < (k : Int)) = false := by simp
   have hol := jr b k (by omega)
   obtain ⟨oo, hoo⟩ : ∃ oo, oo = fU b k := ⟨_, rfl⟩
   obtain ⟨bm, hbm⟩ : ∃ bm, bm = eM b k a := ⟨_, rfl⟩
   rw [← hoo] at b9 hol
   rw [← hbm] at aZ
   have HOO := ak hoo
   have hfr : bm.free = b.free := by rw [hbm]; rfl
   have HBK := ak (show fF b k a = ⟨bm.addr, bm.aff, bm.slots, bm.free.drop oo.length, bm.attrs⟩ by rw [hol, hbm]; rfl)
   obtain ⟨Ao, co, rfl⟩ := Kd.R_slice b9.out
   obtain ⟨A1, c1, A2, c2, hxx, np, my⟩ := aZ.out.open
   have hqa : bm.free.length ≤ c1 := (Kd.R_reads' np).2.1
   have hqb : oo.length ≤ bm.free.length := by rw [hfr, hol]; omega
   have hqc : bm.free.length ≤ 64 := by rw [hfr]; omega
   have HQ := ak (Kd.R_reads' np).2.2
   have kZ := ak my
   have HXX := ak hxx
   have HL := ak aZ.out.l64
   have HWS := ak an.out.size
   have oz := hxx.cell 66 _ (gF _ _ _ _ _ HL.out)
   have HCD := ak (fun w' (h : Kd.C (Kd.int .u8) w' A1 bm.free.length bm.free) => xB bm.free A1 c1 oo.length w' h hqb hqa (by omega) _ rfl)
   have hne : ¬ c1 = oo.length := by rw [hol]; rw [hfr] at hqa; omega
   rw [if_neg hne] at HCD
   obtain ⟨fd, hfd⟩ : ∃ fd, fd = bm.free.drop oo.length := ⟨_, rfl⟩
   rw [← hfd] at HCD HBK
   clear hxx np my hol hoo hbm hfr hfd
   go_wp2_with (first
    | (go_at_call 91; refine (HCD.out _ HQ.out).mono ?_; rintro e W1 ⟨Tz, rfl, dM, I⟩; clear oz; obtain ⟨xX, xC, rfl⟩ := Kd.R_slice dM; have au := mv I HXX; have dt := mv I b9; have cd := mv I bT; have bC := ak (Nat.le_trans bl.out I.size); have aA := ak (an.out.trans (I.mono an.out.size)); have ee := mv I kZ; have xS := ak (dM); have sG := au.out.cell 66 _ (gF _ _ _ _ _ HL.out); have DX := au.out.frozen 66; clear dM I HXX b9 bT bl an kZ)
    | (generalize cr : W1.setCell ⟨gX, 66, none⟩ (.slice xX fd.length xC) = W2; have J : W1.grownBy W2 (some gX) := (by rw [← cr]; exact bP _ _ _ _); have aI := ak (au.out.set 66 (.slice xX fd.length xC)); have dv := gr dt au J; have de := gm cd aU J; have b4 := ak (Nat.le_trans bC.out J.size); have aK := gb aA cw J; have ej := gr ee au J; have xR := gr xS au J; rw [cr] at aI; clear cr J au dt cd bC aA ee xS sG DX; rw [me _ _ _ _ _ HL.out] at aI; refine aN rfl 57 (.tmp 3) rfl gX rfl _ _ _ aI.out Try.underlying57 rfl 68 (by kernel_rfl) (ao _ _ _ _ _ HL.out) ?_)
    | (refine a7 rfl 57 (.tmp 6) (.tmp 61) rfl gZ (bk bm.addr bm.aff bm.slots (.slice xX fd.length xC) (.slice A2 bm.attrs.length c2)) rfl rfl 57 _ de.out 68 (by kernel_rfl) (ao _ _ _ _ _ HL.out) rfl (cA _ _ _ _ _ rfl rfl) ?_; intro W3 aa J; have aQ := gn aI aU J; have eS := gr dv de J; have cD := ak (aa); have cH := ak (Nat.le_trans b4.out J.size); have aT := gb aK ct J; have eN := gr ej de J; have xQ := gr xR de J; clear aa J aI dv de b4 aK ej xR))
   refine bodyPost_ret (jc rfl _ _ gZ 57 _ (0, 0) _ rfl cD.out Try.underlying57 rfl (by simp only [List.size_toArray]; exact dc _ (ao _ _ _ _ _ HL.out))) rfl ⟨_, _, rfl, ?_, ?_, aT.out⟩
   ·rw [HBK.out]; exact ⟨HL.out, _, _, rfl, Kd.R_lower xQ.out HWS.out, Kd.R_lower eN.out cG.out⟩
   ·rw [← HOO.out]; exact eS.out
set_option maxHeartbeats 16000000 in
set_option maxRecDepth 100000 in
theorem H0 (b : Bk) (hk : BkOk b) (n : Int) (hn : (b.free.length : Int) < n) (F5 : n < 9223372036854775808) (a : At) (hrt : eE b = true) (hm : fj a = true) (v : Value) (w : World) (h : jb w v b) :
  Calls Try.prog 49 #[v, .int .i64 n, fv a] w fun e w' => ∃ v' vo, e = .returned (.tuple #[v', vo, .int .i64 0]) ∧ eP w' w.heap.size v' (fF b b.free.length a) ∧ Kd.R (Kd.int .u32) 46 w' w.heap.size (fun _ => True) vo (fU b b.free.length) ∧ Below w.heap.size w w' := by
 obtain ⟨A, c, A', c', rfl, hr⟩ := h
 have hp := jD hrt
 have hsum := hp.sum_le hk hr.l64
 have HL := ak hr.l64
 have HR := ak hr
 have HK := ak hk
 have HRT := ak hrt
 have HMY := ak hm
 have HP := ak hp
 have hfl : b.free.length ≤ 64 := by omega
 have HCP := ak (nO b (by omega) (by omega))
 have an := ak (Below.refl w.heap.size w)
 have HSUM := ak hsum
 clear hr hk hrt hm hp hsum
 have hnn : 0 ≤ n := by omega
 go_enter Try.func49, Try.ntmps49
 go_wp2_with (first
  | (refine aV rfl 57 (.tmp 0) rfl _ rfl ?_; intro gX W1 J aa I; have cw := ge an J; have aA := ak (an.out.trans (I.mono an.out.size)); have au := ak (aa); clear J aa I an)
  | (refine aV rfl 85 (.tmp 2) rfl _ rfl ?_; intro gA W2 J aa I; have lI := ge aA J; have fq := ne au J; have aK := mv I aA; have aI := mv I au; have cX := ak (aa); clear J aa I aA au)
  | (refine aH (some 6) rfl rfl 57 rfl bu b6 ?_; intro gZ W3 J aa I; have ct := ge aK J; have aU := ne aI J; have ij := ne cX J; have aT := mv I aK; have aQ := mv I aI; have eg := mv I cX; have cD := ak (aa); clear J aa I aK aI cX)
  | ((with_reducible refine aJ (N := 12) rfl ?_); refine aN rfl 57 (.tmp 3) rfl gX rfl _ _ _ aQ.out Try.underlying57 rfl 68 (by kernel_rfl) (ao _ _ _ _ _ HL.out) ?_)
  | (go_at_call 48; refine (e8 b HK.out _ _ ⟨A, c, A', c', rfl, HR.out.below aT.out⟩).mono ?_; rintro e W4 ⟨rfl, I⟩; rw [HRT.out]; have bq := mv I aT; have bg := mv I aQ; have eD := mv I eg; have bB := mv I cD; clear I aT aQ eg cD)
  | ((with_reducible refine aJ (N := 16) rfl ?_); refine fk (by rfl) ?_; refine aN rfl 85 (.tmp 5) rfl gA rfl _ _ _ eD.out Try.underlying85 rfl 2 (by kernel_rfl) rfl ?_)
  | (go_at_call 88; refine (kv a _).mono ?_; rintro e W5 ⟨rfl, I⟩; rw [HMY.out]; have bE := mv I bq; have bz := mv I bg; have fB := mv I eD; have bY := mv I bB; clear I bq bg eD bB)
  | ((with_reducible refine aJ (N := 25) rfl ?_); refine aN rfl 57 (.tmp 3) rfl gX rfl _ _ _ bz.out Try.underlying57 rfl 68 (by kernel_rfl) (ao _ _ _ _ _ HL.out) ?_)
  | (go_at_call 89; refine (HCP.out _ _ ⟨A, c, A', c', rfl, HR.out.below bE.out⟩).mono ?_; rintro e W6 ⟨v5, rfl, xw, I⟩; obtain ⟨xy, vf, va, rfl, nn, nr⟩ := xw; obtain ⟨Af, cf, rfl⟩ := Kd.R_slice nn; obtain ⟨Aa, ca, rfl⟩ := Kd.R_slice nr; have HSZ := ak bE.out.size; have wo := ak (show gX < W5.heap.size from bz.out.lt); have pL := ak (show gA < W5.heap.size from fB.out.lt); have pK := ak (show gZ < W5.heap.size from bY.out.lt); have bZ := mv I bE; have bH := mv I bz; have gi := mv I fB; have cn := mv I bY; have dD := ak (nn); have ef := ak (nr); have dN := ak (I.size); clear xy nn nr I bE bz fB bY)
  | (refine a7 rfl 57 (.tmp 3) (.tmp 26) rfl gX (bk b.addr b.aff b.slots (.slice Af b.free.length cf) (.slice Aa b.attrs.length ca)) rfl rfl 57 _ bH.out 68 (by kernel_rfl) (ao _ _ _ _ _ HL.out) (ao _ _ _ _ _ HL.out) (cA _ _ _ _ _ rfl rfl) ?_; intro W7 aa J; have eH := gb bZ cw J; have dP := ak (OC.stored HL.out bH.out aa dD.out ef.out J); have lq := gx gi bH J; have ep := gm cn aU J; have fA := gr dD bH J; have ji := gr ef bH J; have gq := ak (Nat.le_trans dN.out J.size); have oz := aa.cell 66 _ (gF _ _ _ _ _ HL.out); have QI : b.free.length ≤ cf := (Kd.R_reads' fA.out).2.1; clear aa J bZ bH gi cn dD ef dN))
 clear oz
 obtain ⟨b1, cI⟩ : ∃ b1, b1 = W5.heap.size := ⟨_, rfl⟩
 rw [← cI] at dP fA gq wo pL pK HSZ
 have cG := ak (show w.heap.size ≤ b1 from HSZ.out)
 clear cI HSZ
 have hmf : b.free.length ≤ b.free.length := by omega
 go_loopw [9, 11, 36] (fun o _ i W => ∃ k : Nat, k ≤ b.free.length ∧ i = .int .i64 k ∧ Aside0 (OC W b1 gX (eM b k a)) ∧ Aside0 (Kd.R (Kd.int .u32) 46 W w.heap.size (fun _ => True) o (fU b k)) ∧ Aside0 (aX W gA [.string a.f0, .string a.f1] 85) ∧ Aside0 (aX W gZ bu 57) ∧ Aside0 (Kd.R (Kd.int .u8) 5 W b1 (fun _ => True) (.slice Af b.free.length cf) b.free) ∧ Aside0 (b1 ≤ W.heap.size) ∧ Aside0 (Below w.heap.size w W)) (fun _ _ i _ => b.free.length - (intOf i).toNat)
 case atStart => exact ⟨0, by omega, rfl, dP, ⟨Kd.R_nil _ _ _ _ _⟩, lq, ep, fA, gq, eH⟩
 case round =>
  clear eH dP lq ep fA gq
  obtain ⟨k, hk, rfl, aZ, b9, iJ, bT, bU, bl, an⟩ := hrel
  obtain ⟨W, rfl⟩ : ∃ W : World, W = wr := ⟨_, rfl⟩
  by_cases hkn : k < b.free.length
  ·have hkb : decide ((k : Int) < (b.free.length : Int)) = true := by simp; omega
   have hkf : k < b.free.length := by omega
   obtain ⟨ad, eA, hx⟩ := Kd.at_int (Kd.R_reads' bU.out).2.2 k (by omega) (by omega)
   cases eA
   rw [Int.toNat_natCast] at hx
   obtain ⟨j, hj⟩ : ∃ j : Nat, rd b.free k = (j : Int) := ⟨(rd b.free k).toNat, by have := (lG HK.out.f8 k).1; omega⟩
   have qQ : j < 64 := by
    have h1 := HP.out.fr k hkf
    unfold jF at h1
    rw [Bool.or_eq_false_iff, decide_eq_false_iff_not] at h1
    have := h1.1
    omega
   rw [hj] at hx
   have HSC := ak (show eM b (k + 1) a = ⟨(eM b k a).addr, (eM b k a).aff, (eM b k a).slots.set (rd b.free k).toNat (ft (eM b k a).attrs a : Nat), (eM b k a).free, eZ (eM b k a).attrs a⟩ from qx b k a hkf)
   have HSO := ak (qw b k hkf)
   rw [hj] at HSC HSO
   rw [Int.toNat_natCast] at HSC
   have hol := jr b k (by omega)
   have HOL := ak hol
   have HAL := ak (show (eM b k a).attrs.length ≤ 100 by
    have := rC b.attrs a
    have := HSUM.out
    show (if k = 0 then b.attrs else eZ b.attrs a).length ≤ 100
    split <;> omega)
   obtain ⟨bm, hbm⟩ : ∃ bm, bm = eM b k a := ⟨_, rfl⟩
   have hadr : bm.addr = b.addr := by rw [hbm]; rfl
   have HADR := ak hadr
   clear hadr
   rw [← hbm] at aZ HSC HAL
   obtain ⟨oo, hoo⟩ : ∃ oo, oo = fU b k := ⟨_, rfl⟩
   obtain ⟨o1, fT⟩ : ∃ o1, o1 = fU b (k + 1) := ⟨_, rfl⟩
   rw [← hoo] at b9 HSO HOL
   rw [← fT, ← HADR.out] at HSO
   have mZ := ak fT
   have Ek : 0 ≤ bm.addr := by rw [HADR.out]; exact HK.out.a0
   have my : bm.addr + 64 ≤ 4294967296 := by
    rw [HADR.out]
    have h1 := HP.out.first
    have h2 := HK.out.a1
    unfold cC at h1
    omega
   clear hol hj hbm hoo fT
   obtain ⟨Ao, co, rfl⟩ := Kd.R_slice b9.out
   go_wp2_with (first
    | ((with_reducible refine aJ (N := 41) rfl ?_); refine aN rfl 85 (.tmp 5) rfl gA rfl _ _ _ iJ.out Try.underlying85 rfl 2 (by kernel_rfl) rfl ?_)
    | (go_at_call 90; refine (rp bm HAL.out a gX b1 w.heap.size _ cw.out cG.out bl.out aZ.out).mono ?_; rintro e W1 ⟨rfl, bc, I, dS⟩; obtain ⟨Sc, Rc, R9, Rb, jX, _, _⟩ := aZ.out.open; have au := ak (bc); have dt := ak (Kd.R_added b9.out jX (by decide) dS); have kB := ak (aX.added iJ.out (Ne.symm fq.out) pL.out dS); have cd := ak (aX.added bT.out (Ne.symm aU.out) pK.out dS); have bJ := ak (Kd.R_added bU.out jX (by decide) dS); have bC := ak (Nat.le_trans bl.out dS.1); have aA := ak (an.out.trans I); have oz := (show OC W1 b1 gX ⟨bm.addr, bm.aff, bm.slots, bm.free, eZ bm.attrs a⟩ from au.out).slotCell j qQ; have Eb := au.out.frozen (2 + j); have Eg := au.out.addrCell; clear bc I dS jX aZ b9 iJ bT bU bl an)
    | ((with_reducible refine cy (b := .append) (xs := #[.tmp 45, .tmp 51]) rfl ?_); at_builtin; clear oz Eb Eg; obtain ⟨_, _, _, _, jX, _, _⟩ := au.out.open; generalize cr : W1.setCell ⟨gX, 2 + j, none⟩ (.int .u8 (ft bm.attrs a : Nat)) = W2; have ox : W1.heap.size = W2.heap.size := (by rw [← cr]; simp [World.setCell]); rw [ox]; clear ox; have J : W1.grownBy W2 (some gX) := (by rw [← cr]; exact bP _ _ _ _); have aI := ak (OC.slot au.out j qQ (ft bm.attrs a : Nat)); have dv := ak (bO dt.out jX (by decide) J); have cX := gm kB fq J; have de := gm cd aU J; have ch := ak (bO bJ.out jX (by decide) J); have b4 := ak (Nat.le_trans bC.out J.size); have aK := gb aA cw J; rw [cr] at aI; clear cr J au dt kB cd bJ bC aA jX; refine Kd.R_append (Kd.int .u32) (w0 := w) w.heap.size rfl (.tmp 45) (.tmp 51) 77 46 (.int .u32 0) 4 rfl Try.underlying77 ko rfl (by decide) (by omega) _ oo (bm.addr + (j : Int)) [.int .u32 (bm.addr + (j : Int))] (fun _ => True) (fun _ => False) rfl rfl rfl (fun _ hk => hk.elim) (fun _ _ => trivial) dv.out aK.out aK.out.size (by have := HOL.out; omega) ?_; intro v_ W3 bc I J gp; rw [← HSO.out] at bc; have aQ := ak (OC.row aI.out dv.out (by decide) (by decide) J); have eS := ak (bc); have eg := ak (cX.out.grown J (cX.out.ne_row dv.out (by decide))); have cD := ak (de.out.grown J (de.out.ne_row dv.out (by decide))); have cW := ak (Kd.R_over ch.out dv.out (by decide) J); have cH := ak (Nat.le_trans b4.out J.size); have aT := ak (I); obtain ⟨AO, cO, rfl⟩ := Kd.R_slice bc; clear bc I J gp aI dv cX de ch b4 aK))
   go_roundw
   case rel => exact ⟨k + 1, by omega, by go_num, ⟨by rw [HSC.out]; exact aQ.out⟩, ⟨by rw [← mZ.out]; exact eS.out⟩, eg, cD, cW, cH, aT⟩
   case measure => simp [intOf]; omega
  ·obtain rfl : k = b.free.length := by omega
   have hkb : decide ((b.free.length : Int) < (b.free.length : Int)) = false := by simp
   have hol := jr b b.free.length (by omega)
   obtain ⟨oo, hoo⟩ : ∃ oo, oo = fU b b.free.length := ⟨_, rfl⟩
   obtain ⟨bm, hbm⟩ : ∃ bm, bm = eM b b.free.length a := ⟨_, rfl⟩
   rw [← hoo] at b9 hol
   rw [← hbm] at aZ
   have HOO := ak hoo
   have hfr : bm.free = b.free := by rw [hbm]; rfl
   have HBK := ak (show fF b b.free.length a = ⟨bm.addr, bm.aff, bm.slots, bm.free.drop oo.length, bm.attrs⟩ by rw [hol, hbm]; rfl)
   obtain ⟨Ao, co, rfl⟩ := Kd.R_slice b9.out
   obtain ⟨A1, c1, A2, c2, hxx, np, my⟩ := aZ.out.open
   have hqa : bm.free.length ≤ c1 := (Kd.R_reads' np).2.1
   have hqb : oo.length ≤ bm.free.length := by rw [hfr, hol]; omega
   have hqc : bm.free.length ≤ 64 := by rw [hfr]; omega
   have HQ := ak (Kd.R_reads' np).2.2
   have kZ := ak my
   have HXX := ak hxx
   have HL := ak aZ.out.l64
   have HWS := ak an.out.size
   have oz := hxx.cell 66 _ (gF _ _ _ _ _ HL.out)
   have HCD := ak (fun w' (h : Kd.C (Kd.int .u8) w' A1 bm.free.length bm.free) => xB bm.free A1 c1 oo.length w' h hqb hqa (by omega) _ rfl)
   obtain ⟨fd, hfd⟩ : ∃ fd, fd = bm.free.drop oo.length := ⟨_, rfl⟩
   rw [← hfd] at HCD HBK
   clear hxx np my hol hoo hbm hfr hfd
   by_cases hne : c1 = oo.length
   all_goals
    first | rw [if_neg hne] at HCD | rw [if_pos hne, show c1 - oo.length = 0 by omega] at HCD
    go_wp2_with (first
     | (go_at_call 91; refine (HCD.out _ HQ.out).mono ?_; rintro e W1 ⟨Tz, rfl, dM, I⟩; clear oz; obtain ⟨xX, xC, rfl⟩ := Kd.R_slice dM; have au := mv I HXX; have dt := mv I b9; have cd := mv I bT; have bC := ak (Nat.le_trans bl.out I.size); have aA := ak (an.out.trans (I.mono an.out.size)); have ee := mv I kZ; have xS := ak (dM); have sG := au.out.cell 66 _ (gF _ _ _ _ _ HL.out); have DX := au.out.frozen 66; clear dM I HXX b9 bT bl an kZ)
     | (generalize cr : W1.setCell ⟨gX, 66, none⟩ (.slice xX fd.length xC) = W2; have J : W1.grownBy W2 (some gX) := (by rw [← cr]; exact bP _ _ _ _); have aI := ak (au.out.set 66 (.slice xX fd.length xC)); have dv := gr dt au J; have de := gm cd aU J; have b4 := ak (Nat.le_trans bC.out J.size); have aK := gb aA cw J; have ej := gr ee au J; have xR := gr xS au J; rw [cr] at aI; clear cr J au dt cd bC aA ee xS sG DX; rw [me _ _ _ _ _ HL.out] at aI; refine aN rfl 57 (.tmp 3) rfl gX rfl _ _ _ aI.out Try.underlying57 rfl 68 (by kernel_rfl) (ao _ _ _ _ _ HL.out) ?_)
     | (refine a7 rfl 57 (.tmp 6) (.tmp 61) rfl gZ (bk bm.addr bm.aff bm.slots (.slice xX fd.length xC) (.slice A2 bm.attrs.length c2)) rfl rfl 57 _ de.out 68 (by kernel_rfl) (ao _ _ _ _ _ HL.out) rfl (cA _ _ _ _ _ rfl rfl) ?_; intro W3 aa J; have aQ := gn aI aU J; have eS := gr dv de J; have cD := ak (aa); have cH := ak (Nat.le_trans b4.out J.size); have aT := gb aK ct J; have eN := gr ej de J; have xQ := gr xR de J; clear aa J aI dv de b4 aK ej xR))
    refine bodyPost_ret (jc rfl _ _ gZ 57 _ (0, 0) _ rfl cD.out Try.underlying57 rfl (by simp only [List.size_toArray]; exact dc _ (ao _ _ _ _ _ HL.out))) rfl ⟨_, _, rfl, ?_, ?_, aT.out⟩
    ·rw [HBK.out]; exact ⟨HL.out, _, _, rfl, Kd.R_lower xQ.out HWS.out, Kd.R_lower eN.out cG.out⟩
    ·rw [← HOO.out]; exact eS.out
set_option maxHeartbeats 16000000 in
set_option maxRecDepth 100000 in
theorem FN (b : Bk) (hk : BkOk b)  (a : At) (hrt : eE b = true) (hm : fj a = true) (v : Value) (w : World) (h : jb w v b) :
  Calls Try.prog 49 #[v, .int .i64 (b.free.length : Int), fv a] w fun e w' => ∃ v' vo, e = .returned (.tuple #[v', vo, .int .i64 0]) ∧ eP w' w.heap.size v' (fF b b.free.length a) ∧ Kd.R (Kd.int .u32) 46 w' w.heap.size (fun _ => True) vo (fU b b.free.length) ∧ Below w.heap.size w w' := by
 obtain ⟨A, c, A', c', rfl, hr⟩ := h
 have hp := jD hrt
 have hsum := hp.sum_le hk hr.l64
 have HL := ak hr.l64
 have HR := ak hr
 have HK := ak hk
 have HRT := ak hrt
 have HMY := ak hm
 have HP := ak hp
 have hfl : b.free.length ≤ 64 := by omega
 have HCP := ak (nO b (by omega) (by omega))
 have an := ak (Below.refl w.heap.size w)
 have HSUM := ak hsum
 clear hr hk hrt hm hp hsum
 go_enter Try.func49, Try.ntmps49
 go_wp2_with (first
  | (refine aV rfl 57 (.tmp 0) rfl _ rfl ?_; intro gX W1 J aa I; have cw := ge an J; have aA := ak (an.out.trans (I.mono an.out.size)); have au := ak (aa); clear J aa I an)
  | (refine aV rfl 85 (.tmp 2) rfl _ rfl ?_; intro gA W2 J aa I; have lI := ge aA J; have fq := ne au J; have aK := mv I aA; have aI := mv I au; have cX := ak (aa); clear J aa I aA au)
  | (refine aH (some 6) rfl rfl 57 rfl bu b6 ?_; intro gZ W3 J aa I; have ct := ge aK J; have aU := ne aI J; have ij := ne cX J; have aT := mv I aK; have aQ := mv I aI; have eg := mv I cX; have cD := ak (aa); clear J aa I aK aI cX)
  | ((with_reducible refine aJ (N := 12) rfl ?_); refine aN rfl 57 (.tmp 3) rfl gX rfl _ _ _ aQ.out Try.underlying57 rfl 68 (by kernel_rfl) (ao _ _ _ _ _ HL.out) ?_)
  | (go_at_call 48; refine (e8 b HK.out _ _ ⟨A, c, A', c', rfl, HR.out.below aT.out⟩).mono ?_; rintro e W4 ⟨rfl, I⟩; rw [HRT.out]; have bq := mv I aT; have bg := mv I aQ; have eD := mv I eg; have bB := mv I cD; clear I aT aQ eg cD)
  | ((with_reducible refine aJ (N := 16) rfl ?_); refine fk (by rfl) ?_; refine aN rfl 85 (.tmp 5) rfl gA rfl _ _ _ eD.out Try.underlying85 rfl 2 (by kernel_rfl) rfl ?_)
  | (go_at_call 88; refine (kv a _).mono ?_; rintro e W5 ⟨rfl, I⟩; rw [HMY.out]; have bE := mv I bq; have bz := mv I bg; have fB := mv I eD; have bY := mv I bB; clear I bq bg eD bB)
  | ((with_reducible refine aJ (N := 25) rfl ?_); refine aN rfl 57 (.tmp 3) rfl gX rfl _ _ _ bz.out Try.underlying57 rfl 68 (by kernel_rfl) (ao _ _ _ _ _ HL.out) ?_)
  | (go_at_call 89; refine (HCP.out _ _ ⟨A, c, A', c', rfl, HR.out.below bE.out⟩).mono ?_; rintro e W6 ⟨v5, rfl, xw, I⟩; obtain ⟨xy, vf, va, rfl, nn, nr⟩ := xw; obtain ⟨Af, cf, rfl⟩ := Kd.R_slice nn; obtain ⟨Aa, ca, rfl⟩ := Kd.R_slice nr; have HSZ := ak bE.out.size; have wo := ak (show gX < W5.heap.size from bz.out.lt); have pL := ak (show gA < W5.heap.size from fB.out.lt); have pK := ak (show gZ < W5.heap.size from bY.out.lt); have bZ := mv I bE; have bH := mv I bz; have gi := mv I fB; have cn := mv I bY; have dD := ak (nn); have ef := ak (nr); have dN := ak (I.size); clear xy nn nr I bE bz fB bY)
  | (refine a7 rfl 57 (.tmp 3) (.tmp 26) rfl gX (bk b.addr b.aff b.slots (.slice Af b.free.length cf) (.slice Aa b.attrs.length ca)) rfl rfl 57 _ bH.out 68 (by kernel_rfl) (ao _ _ _ _ _ HL.out) (ao _ _ _ _ _ HL.out) (cA _ _ _ _ _ rfl rfl) ?_; intro W7 aa J; have eH := gb bZ cw J; have dP := ak (OC.stored HL.out bH.out aa dD.out ef.out J); have lq := gx gi bH J; have ep := gm cn aU J; have fA := gr dD bH J; have ji := gr ef bH J; have gq := ak (Nat.le_trans dN.out J.size); have oz := aa.cell 66 _ (gF _ _ _ _ _ HL.out); have QI : b.free.length ≤ cf := (Kd.R_reads' fA.out).2.1; clear aa J bZ bH gi cn dD ef dN))
 clear oz
 obtain ⟨b1, cI⟩ : ∃ b1, b1 = W5.heap.size := ⟨_, rfl⟩
 rw [← cI] at dP fA gq wo pL pK HSZ
 have cG := ak (show w.heap.size ≤ b1 from HSZ.out)
 clear cI HSZ
 have hmf : b.free.length ≤ b.free.length := by omega
 go_loopw [9, 11, 36] (fun o _ i W => ∃ k : Nat, k ≤ b.free.length ∧ i = .int .i64 k ∧ Aside0 (OC W b1 gX (eM b k a)) ∧ Aside0 (Kd.R (Kd.int .u32) 46 W w.heap.size (fun _ => True) o (fU b k)) ∧ Aside0 (aX W gA [.string a.f0, .string a.f1] 85) ∧ Aside0 (aX W gZ bu 57) ∧ Aside0 (Kd.R (Kd.int .u8) 5 W b1 (fun _ => True) (.slice Af b.free.length cf) b.free) ∧ Aside0 (b1 ≤ W.heap.size) ∧ Aside0 (Below w.heap.size w W)) (fun _ _ i _ => b.free.length - (intOf i).toNat)
 case atStart => exact ⟨0, by omega, rfl, dP, ⟨Kd.R_nil _ _ _ _ _⟩, lq, ep, fA, gq, eH⟩
 case round =>
  clear eH dP lq ep fA gq
  obtain ⟨k, hk, rfl, aZ, b9, iJ, bT, bU, bl, an⟩ := hrel
  obtain ⟨W, rfl⟩ : ∃ W : World, W = wr := ⟨_, rfl⟩
  by_cases hkn : k < b.free.length
  ·have hkb : decide ((k : Int) < (b.free.length : Int)) = true := by simp; omega
   have hkf : k < b.free.length := by omega
   obtain ⟨ad, eA, hx⟩ := Kd.at_int (Kd.R_reads' bU.out).2.2 k (by omega) (by omega)
   cases eA
   rw [Int.toNat_natCast] at hx
   obtain ⟨j, hj⟩ : ∃ j : Nat, rd b.free k = (j : Int) := ⟨(rd b.free k).toNat, by have := (lG HK.out.f8 k).1; omega⟩
   have qQ : j < 64 := by
    have h1 := HP.out.fr k hkf
    unfold jF at h1
    rw [Bool.or_eq_false_iff, decide_eq_false_iff_not] at h1
    have := h1.1
    omega
   rw [hj] at hx
   have HSC := ak (show eM b (k + 1) a = ⟨(eM b k a).addr, (eM b k a).aff, (eM b k a).slots.set (rd b.free k).toNat (ft (eM b k a).attrs a : Nat), (eM b k a).free, eZ (eM b k a).attrs a⟩ from qx b k a hkf)
   have HSO := ak (qw b k hkf)
   rw [hj] at HSC HSO
   rw [Int.toNat_natCast] at HSC
   have hol := jr b k (by omega)
   have HOL := ak hol
   have HAL := ak (show (eM b k a).attrs.length ≤ 100 by
    have := rC b.attrs a
    have := HSUM.out
    show (if k = 0 then b.attrs else eZ b.attrs a).length ≤ 100
    split <;> omega)
   obtain ⟨bm, hbm⟩ : ∃ bm, bm = eM b k a := ⟨_, rfl⟩
   have hadr : bm.addr = b.addr := by rw [hbm]; rfl
   have HADR := ak hadr
   clear hadr
   rw [← hbm] at aZ HSC HAL
   obtain ⟨oo, hoo⟩ : ∃ oo, oo = fU b k := ⟨_, rfl⟩
   obtain ⟨o1, fT⟩ : ∃ o1, o1 = fU b (k + 1) := ⟨_, rfl⟩
   rw [← hoo] at b9 HSO HOL
   rw [← fT, ← HADR.out] at HSO
   have mZ := ak fT
   have Ek : 0 ≤ bm.addr := by rw [HADR.out]; exact HK.out.a0
   have my : bm.addr + 64 ≤ 4294967296 := by
    rw [HADR.out]
    have h1 := HP.out.first
    have h2 := HK.out.a1
    unfold cC at h1
    omega
   clear hol hj hbm hoo fT
   obtain ⟨Ao, co, rfl⟩ := Kd.R_slice b9.out
   go_wp2_with (first
    | ((with_reducible refine aJ (N := 41) rfl ?_); refine aN rfl 85 (.tmp 5) rfl gA rfl _ _ _ iJ.out Try.underlying85 rfl 2 (by kernel_rfl) rfl ?_)
    | (go_at_call 90; refine (rp bm HAL.out a gX b1 w.heap.size _ cw.out cG.out bl.out aZ.out).mono ?_; rintro e W1 ⟨rfl, bc, I, dS⟩; obtain ⟨Sc, Rc, R9, Rb, jX, _, _⟩ := aZ.out.open; have au := ak (bc); have dt := ak (Kd.R_added b9.out jX (by decide) dS); have kB := ak (aX.added iJ.out (Ne.symm fq.out) pL.out dS); have cd := ak (aX.added bT.out (Ne.symm aU.out) pK.out dS); have bJ := ak (Kd.R_added bU.out jX (by decide) dS); have bC := ak (Nat.le_trans bl.out dS.1); have aA := ak (an.out.trans I); have oz := (show OC W1 b1 gX ⟨bm.addr, bm.aff, bm.slots, bm.free, eZ bm.attrs a⟩ from au.out).slotCell j qQ; have Eb := au.out.frozen (2 + j); have Eg := au.out.addrCell; clear bc I dS jX aZ b9 iJ bT bU bl an)
    | ((with_reducible refine cy (b := .append) (xs := #[.tmp 45, .tmp 51]) rfl ?_); at_builtin; clear oz Eb Eg; obtain ⟨_, _, _, _, jX, _, _⟩ := au.out.open; generalize cr : W1.setCell ⟨gX, 2 + j, none⟩ (.int .u8 (ft bm.attrs a : Nat)) = W2; have ox : W1.heap.size = W2.heap.size := (by rw [← cr]; simp [World.setCell]); rw [ox]; clear ox; have J : W1.grownBy W2 (some gX) := (by rw [← cr]; exact bP _ _ _ _); have aI := ak (OC.slot au.out j qQ (ft bm.attrs a : Nat)); have dv := ak (bO dt.out jX (by decide) J); have cX := gm kB fq J; have de := gm cd aU J; have ch := ak (bO bJ.out jX (by decide) J); have b4 := ak (Nat.le_trans bC.out J.size); have aK := gb aA cw J; rw [cr] at aI; clear cr J au dt kB cd bJ bC aA jX; refine Kd.R_append (Kd.int .u32) (w0 := w) w.heap.size rfl (.tmp 45) (.tmp 51) 77 46 (.int .u32 0) 4 rfl Try.underlying77 ko rfl (by decide) (by omega) _ oo (bm.addr + (j : Int)) [.int .u32 (bm.addr + (j : Int))] (fun _ => True) (fun _ => False) rfl rfl rfl (fun _ hk => hk.elim) (fun _ _ => trivial) dv.out aK.out aK.out.size (by have := HOL.out; omega) ?_; intro v_ W3 bc I J gp; rw [← HSO.out] at bc; have aQ := ak (OC.row aI.out dv.out (by decide) (by decide) J); have eS := ak (bc); have eg := ak (cX.out.grown J (cX.out.ne_row dv.out (by decide))); have cD := ak (de.out.grown J (de.out.ne_row dv.out (by decide))); have cW := ak (Kd.R_over ch.out dv.out (by decide) J); have cH := ak (Nat.le_trans b4.out J.size); have aT := ak (I); obtain ⟨AO, cO, rfl⟩ := Kd.R_slice bc; clear bc I J gp aI dv cX de ch b4 aK))
   go_roundw
   case rel => exact ⟨k + 1, by omega, by go_num, ⟨by rw [HSC.out]; exact aQ.out⟩, ⟨by rw [← mZ.out]; exact eS.out⟩, eg, cD, cW, cH, aT⟩
   case measure => simp [intOf]; omega
  ·obtain rfl : k = b.free.length := by omega
   have hkb : decide ((b.free.length : Int) < (b.free.length : Int)) = false := by simp
   have hol := jr b b.free.length (by omega)
   obtain ⟨oo, hoo⟩ : ∃ oo, oo = fU b b.free.length := ⟨_, rfl⟩
   obtain ⟨bm, hbm⟩ : ∃ bm, bm = eM b b.free.length a := ⟨_, rfl⟩
   rw [← hoo] at b9 hol
   rw [← hbm] at aZ
   have HOO := ak hoo
   have hfr : bm.free = b.free := by rw [hbm]; rfl
   have HBK := ak (show fF b b.free.length a = ⟨bm.addr, bm.aff, bm.slots, bm.free.drop oo.length, bm.attrs⟩ by rw [hol, hbm]; rfl)
   obtain ⟨Ao, co, rfl⟩ := Kd.R_slice b9.out
   obtain ⟨A1, c1, A2, c2, hxx, np, my⟩ := aZ.out.open
   have hqa : bm.free.length ≤ c1 := (Kd.R_reads' np).2.1
   have hqb : oo.length ≤ bm.free.length := by rw [hfr, hol]; omega
   have hqc : bm.free.length ≤ 64 := by rw [hfr]; omega
   have HQ := ak (Kd.R_reads' np).2.2
   have kZ := ak my
   have HXX := ak hxx
   have HL := ak aZ.out.l64
   have HWS := ak an.out.size
   have oz := hxx.cell 66 _ (gF _ _ _ _ _ HL.out)
   have HCD := ak (fun w' (h : Kd.C (Kd.int .u8) w' A1 bm.free.length bm.free) => xB bm.free A1 c1 oo.length w' h hqb hqa (by omega) _ rfl)
   obtain ⟨fd, hfd⟩ : ∃ fd, fd = bm.free.drop oo.length := ⟨_, rfl⟩
   rw [← hfd] at HCD HBK
   clear hxx np my hol hoo hbm hfr hfd
   by_cases hne : c1 = oo.length
   all_goals
    first | rw [if_neg hne] at HCD | rw [if_pos hne, show c1 - oo.length = 0 by omega] at HCD
    go_wp2_with (first
     | (go_at_call 91; refine (HCD.out _ HQ.out).mono ?_; rintro e W1 ⟨Tz, rfl, dM, I⟩; clear oz; obtain ⟨xX, xC, rfl⟩ := Kd.R_slice dM; have au := mv I HXX; have dt := mv I b9; have cd := mv I bT; have bC := ak (Nat.le_trans bl.out I.size); have aA := ak (an.out.trans (I.mono an.out.size)); have ee := mv I kZ; have xS := ak (dM); have sG := au.out.cell 66 _ (gF _ _ _ _ _ HL.out); have DX := au.out.frozen 66; clear dM I HXX b9 bT bl an kZ)
     | (generalize cr : W1.setCell ⟨gX, 66, none⟩ (.slice xX fd.length xC) = W2; have J : W1.grownBy W2 (some gX) := (by rw [← cr]; exact bP _ _ _ _); have aI := ak (au.out.set 66 (.slice xX fd.length xC)); have dv := gr dt au J; have de := gm cd aU J; have b4 := ak (Nat.le_trans bC.out J.size); have aK := gb aA cw J; have ej := gr ee au J; have xR := gr xS au J; rw [cr] at aI; clear cr J au dt cd bC aA ee xS sG DX; rw [me _ _ _ _ _ HL.out] at aI; refine aN rfl 57 (.tmp 3) rfl gX rfl _ _ _ aI.out Try.underlying57 rfl 68 (by kernel_rfl) (ao _ _ _ _ _ HL.out) ?_)
     | (refine a7 rfl 57 (.tmp 6) (.tmp 61) rfl gZ (bk bm.addr bm.aff bm.slots (.slice xX fd.length xC) (.slice A2 bm.attrs.length c2)) rfl rfl 57 _ de.out 68 (by kernel_rfl) (ao _ _ _ _ _ HL.out) rfl (cA _ _ _ _ _ rfl rfl) ?_; intro W3 aa J; have aQ := gn aI aU J; have eS := gr dv de J; have cD := ak (aa); have cH := ak (Nat.le_trans b4.out J.size); have aT := gb aK ct J; have eN := gr ej de J; have xQ := gr xR de J; clear aa J aI dv de b4 aK ej xR))
    refine bodyPost_ret (jc rfl _ _ gZ 57 _ (0, 0) _ rfl cD.out Try.underlying57 rfl (by simp only [List.size_toArray]; exact dc _ (ao _ _ _ _ _ HL.out))) rfl ⟨_, _, rfl, ?_, ?_, aT.out⟩
    ·rw [HBK.out]; exact ⟨HL.out, _, _, rfl, Kd.R_lower xQ.out HWS.out, Kd.R_lower eN.out cG.out⟩
    ·rw [← HOO.out]; exact eS.out
theorem rA (b : Bk) (hk : BkOk b) (n : Int) (hn : n < 9223372036854775808) (a : At) (v : Value) (w : World) (h : jb w v b) :
  Calls Try.prog 49 #[v, .int .i64 n, fv a] w fun e w' => ∃ v' vo, e = .returned (.tuple #[v', vo, .int .i64 (if mX b n a = true then 0 else 1)]) ∧ eP w' w.heap.size v' (if mX b n a = true then fF b (min n.toNat b.free.length) a else kC) ∧ Kd.R (Kd.int .u32) 46 w' w.heap.size (fun _ => True) vo (if mX b n a = true then fU b (min n.toNat b.free.length) else []) ∧ Below w.heap.size w w' := by
 cases ho : mX b n a with
 | false =>
  simp only [Bool.false_eq_true, if_false]
  exact JA b hk n a ho v w h
 | true =>
  simp only [if_true]
  unfold mX at ho
  simp only [Bool.and_eq_true, decide_eq_true_eq] at ho
  obtain ⟨h1, h2, h3⟩ := ho
  by_cases hl : (b.free.length : Int) ≤ n
  ·rw [show min n.toNat b.free.length = b.free.length by omega]
   by_cases Qy : (b.free.length : Int) < n
   ·exact H0 b hk n Qy hn a h1 h2 v w h
   ·obtain rfl : n = (b.free.length : Int) := by omega
    exact FN b hk a h1 h2 v w h
  ·obtain ⟨m, rfl⟩ : ∃ m : Nat, n = (m : Int) := ⟨n.toNat, by omega⟩
   rw [show min (m : Int).toNat b.free.length = m by omega]
   exact FM b hk m (by omega) a h1 h2 v w h
end Go.Proofs.Ytemhalnhbgkbcaa.V
end

section
namespace Go.Proofs.Ytemhalnhbgkbcaa.V
theorem JD (ad : Addr) : ad.add 0 = ad := by
 obtain ⟨b, o, s⟩ := ad
 unfold Addr.add
 split <;> simp_all
theorem jL.of {W : World} {b1 : Nat} {b : Bk} {M : List lN} {As Af Aa : Option Addr} {cs cf ca : Nat} (hm : M = b.attrs.map vc) (hs : Kd.R (Kd.int .i64) 3 W b1 (fun _ => True) (.slice As b.slots.length cs) b.slots) (hf : Kd.R (Kd.int .i64) 3 W b1 (fun _ => True) (.slice Af b.free.length cf) b.free) (ha : Kd.R ia 76 W b1 (fun _ => True) (.slice Aa M.length ca) M) :
  RbR W b M As cs Af cf Aa ca := ⟨hm, (Kd.R_reads' hs).2.2, (Kd.R_reads' hs).2.1, (Kd.R_reads' hf).2.2, (Kd.R_reads' hf).2.1, (Kd.R_reads' ha).2.2, (Kd.R_reads' ha).2.1⟩
set_option maxHeartbeats 16000000 in
set_option maxRecDepth 100000 in
theorem CP (b : Bk) (hl : b.slots.length = 64) (hf : b.free.length ≤ 1000) (ha : b.attrs.length ≤ 100) (hnd : yH b.attrs) (x : Int) (h0 : 0 ≤ x) (h1 : x < 4294967296) (a : At) (v : Value) (w : World) (h : jL w v b) :
  Calls Try.prog 107 #[v, .int .u32 x, .agg #[.string a.f0, .string a.f1]] w fun e w' => ∃ v', e = .returned v' ∧ fw w' w.heap.size v' (gE b (x % 64).toNat a) ∧ Below w.heap.size w w' := by
 obtain ⟨M, As, cs, Af, cf, Aa, ca, rfl, hr⟩ := h
 obtain ⟨j, hj⟩ : ∃ j : Nat, x % 64 = (j : Int) := ⟨(x % 64).toNat, by omega⟩
 have qQ : j < 64 := by omega
 have HR := ak hr
 have HGV := ak (fun v w h => En b hl hf ha hnd j qQ a v w h)
 have HJ := ak (show x.tmod 64 = (j : Int) by rw [Int.tmod_eq_emod_of_nonneg h0]; exact hj)
 have tX := ak (show (x % 64).toNat = j by rw [hj]; rfl)
 have an := ak (Below.refl w.heap.size w)
 have hjt := HJ.out
 clear hr hl hj hnd
 go_enter Try.func107, Try.ntmps107
 go_wp2_with (first
  | (refine aV rfl 62 (.tmp 0) rfl _ rfl ?_; intro gX W1 J aa I; have cw := ge an J; have aA := ak (an.out.trans (I.mono an.out.size)); have au := ak (aa); clear J aa I an)
  | (refine aV rfl 76 (.tmp 2) rfl _ rfl ?_; intro gA W2 J aa I; have lI := ge aA J; have fq := ne au J; have aK := mv I aA; have aI := mv I au; have cX := ak (aa); clear J aa I aA au)
  | (refine aH (some 6) rfl rfl 62 rfl dW (fun _ => by kernel_rfl) ?_; intro gZ W3 J aa I; have ct := ge aK J; have aU := ne aI J; have ij := ne cX J; have aT := mv I aK; have aQ := mv I aI; have eg := mv I cX; have cD := ak (aa); clear J aa I aK aI cX)
  | ((with_reducible refine aJ (N := 7) rfl ?_); refine aN rfl 62 (.tmp 3) rfl gX rfl _ _ _ aQ.out Try.underlying62 rfl 5 (by kernel_rfl) rfl ?_)
  | ((with_reducible refine aJ (N := 11) rfl ?_); refine aN rfl 76 (.tmp 5) rfl gA rfl _ _ _ eg.out Try.underlying76 rfl 2 (by kernel_rfl) rfl ?_)
  | (go_at_call 106; refine (HGV.out _ _ ⟨M, As, cs, Af, cf, Aa, ca, rfl, HR.out.below aT.out⟩).mono ?_; rintro e W4 ⟨v9, rfl, fS, I⟩; obtain ⟨nb, hnb⟩ : ∃ nb, nb = gE b j a := ⟨_, rfl⟩; rw [← hnb] at fS; have HNB := ak hnb; obtain ⟨wZ, sZ, ta, rfl, ie, fP, fi⟩ := fS; have HSZ := ak aT.out.size; obtain ⟨A7, c7, rfl⟩ := Kd.R_slice ie; obtain ⟨A8, c8, rfl⟩ := Kd.R_slice fP; obtain ⟨NM, hNM⟩ : ∃ NM, NM = nb.attrs.map vc := ⟨_, rfl⟩; rw [← hNM] at fi; have HNM := ak hNM; obtain ⟨A9, c9, rfl⟩ := Kd.R_slice fi; have bq := mv I aT; have bg := mv I aQ; have eD := mv I eg; have bB := mv I cD; have dC := ak (ie); have cU := ak (fP); have dZ := ak (fi); clear hNM hnb ie fP fi I aT aQ eg cD)
  | (refine a7 rfl 62 (.tmp 6) (.tmp 12) rfl gZ (dH nb.addr nb.aff (.slice A7 nb.slots.length c7) (.slice A8 nb.free.length c8) (.slice A9 NM.length c9)) rfl rfl 62 _ bB.out 5 (by kernel_rfl) rfl rfl (et _ _ rfl rfl rfl) ?_; intro W5 aa J; have bE := gb bq ct J; have bz := gn bg aU J; have fB := gx eD bB J; have bY := ak (aa); have dG := gr dC bB J; have cQ := gr cU bB J; have dw := gr dZ bB J; clear aa J bq bg eD bB dC cU dZ))
 refine bodyPost_ret (results_cell_row rfl _ _ gZ 62 _ (0, 0) _ rfl bY.out Try.underlying62 rfl (by kernel_rfl)) rfl ⟨_, rfl, ?_, bE.out⟩
 rw [tX.out, ← HNB.out]
 exact ⟨_, _, _, rfl, Kd.R_lower dG.out HSZ.out, Kd.R_lower cQ.out HSZ.out, by rw [← HNM.out]; exact Kd.R_lower dw.out HSZ.out⟩
set_option maxHeartbeats 16000000 in
set_option maxRecDepth 100000 in
theorem Fw (b : Bk) (hk : BkOk b) (hp : RightP b) (hl : b.slots.length = 64) (n : Int) (hn : n < 9223372036854775808) (n5 : 0 ≤ n) (m : Nat) (hm : m = min n.toNat b.free.length) (a : At) (v : Value) (w : World) (base : Nat) (mw : base ≤ w.heap.size) (h : fw w base v b) :
  Calls Try.prog 82 #[v, .int .i64 n, .agg #[.string a.f0, .string a.f1]] w fun e w' => ∃ v' vo, e = .returned (.tuple #[v', vo]) ∧ fw w' base v' (fF b m a) ∧ Kd.R (Kd.int .u32) 46 w' w.heap.size (fun _ => True) vo (fU b m) ∧ Below w.heap.size w w' := by
 obtain ⟨vs0, vf0, va0, rfl, nm, Ea, Hl⟩ := h
 obtain ⟨M, hM⟩ : ∃ M, M = b.attrs.map vc := ⟨_, rfl⟩
 rw [← hM] at Hl
 obtain ⟨As, cs, rfl⟩ := Kd.R_slice nm
 obtain ⟨Af, cf, rfl⟩ := Kd.R_slice Ea
 obtain ⟨Aa, ca, rfl⟩ := Kd.R_slice Hl
 have HS0 := ak nm
 have HF0 := ak Ea
 have HA0 := ak Hl
 have HMM := ak hM
 have HBW := ak mw
 have hsum := hp.sum_le hk hl
 have HK := ak hk
 have HP := ak hp
 have HL := ak hl
 have HSUM := ak hsum
 have HMN := ak (show (m : Int) ≤ n ∧ m ≤ b.free.length ∧ ((m : Int) = n ∨ m = b.free.length) by omega)
 have ag7 : m ≤ 64 := by omega
 have Ek : 0 ≤ b.addr := hk.a0
 have my : b.addr + 64 ≤ 4294967296 := by
  have h1 := hp.first
  have h2 := hk.a1
  unfold cC at h1
  omega
 have an := ak (Below.refl w.heap.size w)
 clear nm Ea Hl hM mw hk hp hl hsum hm
 go_enter Try.func82, Try.ntmps82
 go_wp2_with (first
  | (refine aV rfl 62 (.tmp 0) rfl _ rfl ?_; intro gX W1 J aa I; have cw := ge an J; have aA := ak (an.out.trans (I.mono an.out.size)); have au := ak (aa); clear J aa I an)
  | (refine aV rfl 76 (.tmp 2) rfl _ rfl ?_; intro gA W2 J aa I; have lI := ge aA J; have fq := ne au J; have aK := mv I aA; have aI := mv I au; have cX := ak (aa); clear J aa I aA au)
  | (refine aH (some 6) rfl rfl 62 rfl dW (fun _ => by kernel_rfl) ?_; intro gZ W3 J aa I; have ct := ge aK J; have aU := ne aI J; have ij := ne cX J; have aT := mv I aK; have aQ := mv I aI; have eg := mv I cX; have cD := ak (aa); clear J aa I aK aI cX))
 go_loopw [8, 9, 10] (fun q u _ W => ∃ k : Nat, k ≤ m ∧ u = .int .i64 k ∧ Aside0 (RX W base gX (fF b k a)) ∧ Aside0 (Kd.R (Kd.int .u32) 46 W w.heap.size (fun _ => True) q (fU b k)) ∧ Aside0 (aX W gA [.string a.f0, .string a.f1] 76) ∧ Aside0 (aX W gZ dW 62) ∧ Aside0 (Below w.heap.size w W)) (fun _ u _ _ => m - (intOf u).toNat)
 case atStart => exact ⟨0, by omega, rfl, ⟨⟨M, _, _, _, HMM.out, aQ.out, Kd.R_below HS0.out aT.out, Kd.R_below HF0.out aT.out, Kd.R_below HA0.out aT.out⟩⟩, ⟨Kd.R_nil _ _ _ _ _⟩, eg, cD, aT⟩
 case round =>
  clear aT aQ eg cD
  obtain ⟨k, hk, rfl, aZ, b9, iJ, bT, an⟩ := hrel
  obtain ⟨W, rfl⟩ : ∃ W : World, W = wr := ⟨_, rfl⟩
  have hmn := HMN.out
  have hsum := HSUM.out
  have hszs := JB b k a
  rw [HL.out] at hszs
  obtain ⟨M2, A2, c2, A3, c3, A4, c4, sB, Li, Lj, Lp, Ej⟩ := aZ.out.open
  have HRR := ak (jL.of sB Lj Lp Ej)
  have hrr : M2 = (fF b k a).attrs.map vc ∧ Kd.R (Kd.int .i64) 3 W base (fun _ => True) (.slice A2 (fF b k a).slots.length c2) (fF b k a).slots ∧ Kd.R (Kd.int .i64) 3 W base (fun _ => True) (.slice A3 (fF b k a).free.length c3) (fF b k a).free ∧ Kd.R ia 76 W base (fun _ => True) (.slice A4 M2.length c4) M2 := ⟨sB, Lj, Lp, Ej⟩
  have gD := ak Li
  obtain ⟨Ao, co, rfl⟩ := Kd.R_slice b9.out
  have hol := jr b k (by omega)
  obtain ⟨oo, hoo⟩ : ∃ oo, oo = fU b k := ⟨_, rfl⟩
  rw [← hoo] at b9 hol
  rw [show (fU b k).length = oo.length by rw [hoo]]
  have HOL := ak hol
  have HOO := ak hoo
  clear hoo
  by_cases hkm : k < m
  ·have hkf : k < b.free.length := by omega
   have hgv := Em HP.out HK.out k hkf a
   have hfr := E0 b k a hkf
   have hmem := qi HP.out HK.out k hkf
   obtain ⟨j, hj⟩ : ∃ j : Nat, rd b.free k = (j : Int) := ⟨(rd b.free k).toNat, by omega⟩
   have hnd := Rh (show yH b.attrs from HP.out.nd) k a
   rw [hj] at hgv hfr hmem
   rw [Int.toNat_natCast] at hgv
   have hos := qw b k hkf
   rw [hj, ← HOO.out] at hos
   have HGV := ak (fun v w h => En (fF b k a) hszs.1 (by omega) (by omega) hnd j (by omega) a v w h)
   have hkn : decide ((k : Int) < n) = true := by simp; omega
   obtain ⟨bm, hbm⟩ : ∃ bm, bm = fF b k a := ⟨_, rfl⟩
   have hadr : bm.addr = b.addr := by rw [hbm]; rfl
   rw [← hbm] at gD HRR HGV hfr hgv
   have Ea : 0 < bm.free.length := hfr.1
   have p0 : decide ((0 : Int) < (bm.free.length : Int)) = true := by simp; omega
   have p1 : ((0 : Int) < (bm.free.length : Int)) = True := eq_true (by omega)
   obtain ⟨ad, eA, hx⟩ := Kd.at_int HRR.out.fr 0 (by omega) (by omega)
   cases eA
   rw [show (0 : Int).toNat = 0 from rfl, hfr.2] at hx
   have Y2 : W.cell? ad = some (.int .i64 (j : Int)) := by rwa [JD] at hx
   have sD : j < 64 := by omega
   have mw : 0 ≤ bm.addr := by rw [hadr]; exact Ek
   have cI : bm.addr + 64 ≤ 4294967296 := by rw [hadr]; exact my
   obtain ⟨o1, fT⟩ : ∃ o1, o1 = fU b (k + 1) := ⟨_, rfl⟩
   rw [← fT, ← hadr] at hos
   have mZ := ak fT
   have HOS := ak hos
   have HGB := ak hgv
   have qf := gD.out.cell 3 _ rfl
   clear hgv hfr hmem hj hnd hos hszs hbm Li hrr sB Lj Lp Ej hadr fT hol hmn hsum aZ
   go_wp2_with (first
    | ((with_reducible refine aJ (N := 26) rfl ?_); refine aN rfl 62 (.tmp 3) rfl gX rfl _ _ _ gD.out Try.underlying62 rfl 5 (by kernel_rfl) rfl ?_)
    | ((with_reducible refine aJ (N := 28) rfl ?_); refine aN rfl 76 (.tmp 5) rfl gA rfl _ _ _ iJ.out Try.underlying76 rfl 2 (by kernel_rfl) rfl ?_)
    | (go_at_call 106; refine (HGV.out _ _ ⟨M2, A2, c2, some ad, c3, A4, c4, rfl, HRR.out⟩).mono ?_; rintro e W1 ⟨v9, rfl, fS, I⟩; rw [HGB.out] at fS; obtain ⟨nb, hnb⟩ : ∃ nb, nb = fF b (k + 1) a := ⟨_, rfl⟩; rw [← hnb] at fS; have HNB := ak hnb; have HNA := ak (show nb.addr = bm.addr by rw [hnb, ← HGB.out]; rfl); obtain ⟨wZ, sZ, ta, rfl, ie, fP, fi⟩ := fS; have HSZ := ak (lb HBW an); obtain ⟨A7, c7, rfl⟩ := Kd.R_slice ie; obtain ⟨A8, c8, rfl⟩ := Kd.R_slice fP; obtain ⟨NM, hNM⟩ : ∃ NM, NM = nb.attrs.map vc := ⟨_, rfl⟩; rw [← hNM] at fi; have HNM := ak hNM; obtain ⟨A9, c9, rfl⟩ := Kd.R_slice fi; have au := mv I gD; have dt := mv I b9; have kB := mv I iJ; have cd := mv I bT; have aA := ak (an.out.trans (I.mono an.out.size)); have bC := ak (ie); have bJ := ak (fP); have b7 := ak (fi); clear hNM hnb ie fP fi I gD b9 iJ bT an qf hx Y2)
    | (refine a7 rfl 62 (.tmp 3) (.tmp 29) rfl gX (dH nb.addr nb.aff (.slice A7 nb.slots.length c7) (.slice A8 nb.free.length c8) (.slice A9 NM.length c9)) rfl rfl 62 _ au.out 5 (by kernel_rfl) rfl rfl (et _ _ rfl rfl rfl) ?_; intro W2 aa J; have aI := ak (aa); have dv := gr dt au J; have cX := gx kB au J; have de := gm cd aU J; have aK := gb aA cw J; have b4 := gr bC au J; have ch := gr bJ au J; have dm := gr b7 au J; have mP := (show W2.cell? ⟨gX, 0, none⟩ = some (.int .u32 bm.addr) from by rw [← HNA.out]; exact aa.cell 0 _ rfl); clear aa J au dt kB cd aA bC bJ b7)
    | ((with_reducible refine cy (b := .append) (xs := #[.tmp 30, .tmp 36]) rfl ?_); at_builtin; refine Kd.R_append (Kd.int .u32) (w0 := w) w.heap.size rfl (.tmp 30) (.tmp 36) 77 46 (.int .u32 0) 4 rfl Try.underlying77 ko rfl (by decide) (by omega) _ oo (bm.addr + (j : Int)) [.int .u32 (bm.addr + (j : Int))] (fun _ => True) (fun _ => False) rfl rfl rfl (fun _ hk => hk.elim) (fun _ _ => trivial) dv.out aK.out aK.out.size (by have := HOL.out; omega) ?_; intro v_ W3 bc I J gp; rw [← HOS.out] at bc; have aQ := ak (aI.out.grown J (aI.out.ne_row dv.out (by decide))); have eS := ak (bc); have eg := ak (cX.out.grown J (cX.out.ne_row dv.out (by decide))); have cD := ak (de.out.grown J (de.out.ne_row dv.out (by decide))); have aT := ak (I); have cH := ak (Kd.R_over b4.out dv.out (by decide) J); have cW := ak (Kd.R_over ch.out dv.out (by decide) J); have dT := ak (Kd.R_over dm.out dv.out (by decide) J); obtain ⟨AO, cO, rfl⟩ := Kd.R_slice bc; clear bc I J gp aI dv cX de aK b4 ch dm mP))
   go_roundw
   case rel => exact ⟨k + 1, by omega, by go_num, ⟨by rw [← HNB.out]; exact ⟨_, _, _, _, HNM.out, aQ.out, Kd.R_lower cH.out HSZ.out, Kd.R_lower cW.out HSZ.out, Kd.R_lower dT.out HSZ.out⟩⟩, ⟨by rw [← mZ.out]; exact eS.out⟩, eg, cD, aT⟩
   case measure => simp [intOf]; omega
  ·obtain rfl : k = m := by omega
   have hend : decide ((k : Int) < n) = false ∨ decide ((k : Int) < n) = true ∧ decide (0 < (fF b k a).free.length) = false := by
    rcases hmn.2.2 with h_ | h_
    ·left; simp; omega
    ·by_cases hq : (k : Int) < n
     ·right
      refine ⟨by simp; exact hq, ?_⟩
      have : (fF b k a).free.length = 0 := by
       show (b.free.drop k).length = 0
       rw [List.length_drop]
       omega
      rw [this]
      rfl
     ·left; simp; omega
   obtain ⟨bm, hbm⟩ : ∃ bm, bm = fF b k a := ⟨_, rfl⟩
   rw [← hbm] at gD HRR hend hrr
   have HBM := ak hbm
   have CG := ak hrr.1
   have xJ := ak hrr.2.1
   have lO := ak hrr.2.2.1
   have xU := ak hrr.2.2.2
   have qf := gD.out.cell 3 _ rfl
   clear hszs hbm Li hrr sB Lj Lp Ej hol aZ
   rcases hend with he | ⟨he, TO⟩
   all_goals
    go_wp2_with (first
     | ((with_reducible refine aJ (N := 38) rfl ?_); refine aN rfl 62 (.tmp 3) rfl gX rfl _ _ _ gD.out Try.underlying62 rfl 5 (by kernel_rfl) rfl ?_)
     | (refine a7 rfl 62 (.tmp 6) (.tmp 38) rfl gZ (dH bm.addr bm.aff (.slice A2 bm.slots.length c2) (.slice A3 bm.free.length c3) (.slice A4 M2.length c4)) rfl rfl 62 _ bT.out 5 (by kernel_rfl) rfl rfl (et _ _ rfl rfl rfl) ?_; intro W1 aa J; have au := gn gD aU J; have dt := gr b9 bT J; have cd := ak (aa); have bC := gr xJ bT J; have bJ := gr lO bT J; have b7 := gr xU bT J; have aA := gb an ct J; clear aa J gD b9 bT xJ lO xU an qf))
    refine bodyPost_ret (gB rfl _ _ gZ 62 _ (0, 0) _ rfl cd.out Try.underlying62 rfl (by kernel_rfl)) rfl ⟨_, _, rfl, ?_, by rw [← HOO.out]; exact dt.out, aA.out⟩
    rw [← HBM.out]
    exact ⟨_, _, _, rfl, bC.out, bJ.out, by rw [← CG.out]; exact b7.out⟩
end Go.Proofs.Ytemhalnhbgkbcaa.V
end

section
namespace Go.Proofs.Ytemhalnhbgkbcaa.V
structure Rd (W : World) (g : Nat) (ok : Nat → Prop) (v : Value) (l : List Int) (bad : Bool) : Prop where
 box : aX W g [v, .bool bad] 137
 vw : Kd.V (Kd.int .u8) 5 W 0 ok v l
 ng : ∀ k, ok k → k ≠ g
section
variable {W W1 : World} {g : Nat} {ok : Nat → Prop} {v : Value} {l : List Int} {bad : Bool}
theorem Rd.below (h : Rd W g ok v l bad) (hb : Below W.heap.size W W1) : Rd W1 g ok v l bad := ⟨h.box.below hb, Kd.V_below h.vw hb, h.ng⟩
theorem Rd.grown (h : Rd W g ok v l bad) {row : Option Nat} (hg : W.grownBy W1 row) (hr : ∀ k, ok k → some k ≠ row) (hn : some g ≠ row) : Rd W1 g ok v l bad := ⟨h.box.grown hg hn, Kd.V_grown h.vw hg hr, h.ng⟩
end
def lX (l : List Int) (bad : Bool) (n : Int) : List Int × List Int × Bool := if bad = false ∧ 0 ≤ n ∧ n ≤ l.length then (l.take n.toNat, l.drop n.toNat, false) else ([], l, true)
end Go.Proofs.Ytemhalnhbgkbcaa.V
end

section
namespace Go.Proofs.Ytemhalnhbgkbcaa.V
def Hc (l : List Int) : Nat := l.foldl (fun n c => n * 256 + c.toNat) 0
def zq (l : List Int) (bad : Bool) : List Int × List Int × Bool := lX (lX l bad 1).2.1 ((lX l bad 1).2.2 || decide (64 < Hc (lX l bad 1).1)) (Hc (lX l bad 1).1 : Nat)
end Go.Proofs.Ytemhalnhbgkbcaa.V
end

section
namespace Go.Proofs.Ytemhalnhbgkbcaa.V
def xa (l : List Int) : List Int × List Int × Bool := zq (zq l false).2.1 (zq l false).2.2
def Tl (l : List Int) : At := ⟨strOfNums (zq l false).1, strOfNums (xa l).1⟩
def EY : Nat → List Int → Bool → List At × List Int × Bool
 | 0, l, bad => ([], l, bad)
 | n + 1, l, bad => if bad = true then ([], l, true) else (Tl l :: (EY n (xa l).2.1 (xa l).2.2).1, (EY n (xa l).2.1 (xa l).2.2).2)
def IH (l : List Int) (bad : Bool) : List At × List Int × Bool := EY (Hc (lX l bad 1).1) (lX l bad 1).2.1 (lX l bad 1).2.2
theorem Rd.bound {W : World} {g : Nat} {ok : Nat → Prop} {v : Value} {l : List Int} {bad : Bool} (h : Rd W g ok v l bad) : Rd W g (fun k => ok k ∧ k < W.heap.size) v l bad := ⟨h.box, Kd.V_bound h.vw, fun k hk => h.ng k hk.1⟩
theorem Rd.mono {W : World} {g : Nat} {ok ok' : Nat → Prop} {v : Value} {l : List Int} {bad : Bool} (h : Rd W g ok v l bad) (hm : ∀ k, ok k → ok' k) (hn : ∀ k, ok' k → k ≠ g) : Rd W g ok' v l bad := ⟨h.box, Kd.V_mono h.vw hm, hn⟩
end Go.Proofs.Ytemhalnhbgkbcaa.V
end

section
namespace Go.Proofs.Ytemhalnhbgkbcaa.V
def r0 (s : ByteArray) := lX (bytesOf s) false 1
def r1 (s : ByteArray) := lX (r0 s).2.1 (r0 s).2.2 4
def r2 (s : ByteArray) := zq (r1 s).2.1 (r1 s).2.2
def r3 (s : ByteArray) := IH (r2 s).2.1 (r2 s).2.2
def r4 (s : ByteArray) := lX (r3 s).2.1 (r3 s).2.2 64
def r5 (s : ByteArray) := lX (r4 s).2.1 (r4 s).2.2 1
def r6 (s : ByteArray) := lX (r5 s).2.1 (r5 s).2.2 (Hc (r5 s).1 : Nat)
section
variable {g : Nat} {ok : Nat → Prop} {v : Value} {W : World}
end
end Go.Proofs.Ytemhalnhbgkbcaa.V
end

section
namespace Go.Proofs.Ytemhalnhbgkbcaa.V
def vk.T6 : Bool × List (List Nat × List Nat) := (true, [([], []), ([0], [0]), ([], []), ([2], [2]), ([1, 3, 3], [1, 3])])
def vk.B6 : List Nat := [0, 1, 0, 4, 15]
theorem vk.tab6 : eI .any (opsOf Try.f38 6) = vk.T6 := by kernel_rfl
theorem vk.bits6 : eb vk.T6.2 vk.B6 = true := by kernel_rfl
end Go.Proofs.Ytemhalnhbgkbcaa.V
end

section
namespace Go.Proofs.Ytemhalnhbgkbcaa.V
attribute [local go_sem] dA dy ed ec cP cN dz dx
attribute [local go_sem high] Ho
def cY.l0 : Nat → List (S85) → List (S85) → Int → Int → Option (Bool)
 | 0, _, _, _, _ => none
 | k + 1, x0, x1, yr, lQ => if lQ < yr then (if 0 ≤ lQ then (if lQ < (x0.length : Int) then (if lQ < (x1.length : Int) then (if (!((((dE x0 lQ).f0).toList) == (((dE x1 lQ).f0).toList)) || (!((((dE x0 lQ).f1).toList) == (((dE x1 lQ).f1).toList)))) = true then (some false) else (cY.l0 k x0 x1 yr (wrap64 (lQ + 1)))) else (none)) else (none)) else (none)) else (some true)
def cY.f (k : Nat) (l0 : List (S85)) (l1 : List (S85)) : Option (Bool) := if (l0.length : Int) = (l1.length : Int) then (cY.l0 k l0 l1 (l0.length : Int) 0) else (some false)
theorem cY.mono_l : ∀ k, (∀ y0 y1 y2 y3, aC (cY.l0 k y0 y1 y2 y3) (cY.l0 (k + 1) y0 y1 y2 y3))
 | 0 => fun _ _ _ _ r h => by simp [cY.l0] at h
 | k + 1 => by
  have cE := cY.mono_l k
  ·intro y0 y1 y2 y3
   unfold cY.l0
   repeat' first
   | (with_reducible exact cE _ _ _ _)
   | (with_reducible exact aC.refl _)
   | (with_reducible exact aC.none _)
   | (with_reducible refine aC.ite ?_ ?_)
   | (with_reducible refine aC.bind ?_ (fun _ => ?_))
   | exact cE _ _ _ _
   | exact aC.none _
   | refine aC.ite ?_ ?_
   | refine aC.bind ?_ (fun _ => ?_)
theorem cY.mono : ∀ a0 a1 k, aC (cY.f k a0 a1) (cY.f (k + 1) a0 a1) := by
 intro a0 a1 k
 have cE := cY.mono_l k
 unfold cY.f
 repeat' first
   | (with_reducible exact cE _ _ _ _)
   | (with_reducible exact aC.refl _)
   | (with_reducible exact aC.none _)
   | (with_reducible refine aC.ite ?_ ?_)
   | (with_reducible refine aC.bind ?_ (fun _ => ?_))
   | exact cE _ _ _ _
   | exact aC.none _
   | refine aC.ite ?_ ?_
   | refine aC.bind ?_ (fun _ => ?_)
set_option maxHeartbeats 8000000 in
set_option maxRecDepth 100000 in
theorem cY.calls (k : Nat) (A0 : Option Addr) (c0 : Nat) (l0 : List (S85)) (A1 : Option Addr) (c1 : Nat) (l1 : List (S85)) (r : Bool) (w : World) (lM : Kd.C lf w A0 l0.length l0) (jC : l0.length ≤ c0) (wG : Kd.C lf w A1 l1.length l1) (vJ : l1.length ≤ c1) (h : cY.f k l0 l1 = some r) :
  Calls Try.prog 78 #[.slice A0 l0.length c0, .slice A1 l1.length c1] w fun e w' => e = .returned (.bool r) ∧ Drawn0 w w' := by
 have Kq := Try.underlying85
 have n7 := ak lM
 have xT := ak jC
 clear lM jC
 have mG := ak wG
 have GQ := ak vJ
 clear wG vJ
 have H : (if (l0.length : Int) = (l1.length : Int) then (cY.l0 k l0 l1 (l0.length : Int) 0) else (some false)) = some r := h
 clear h
 by_cases c3 : (l0.length : Int) = (l1.length : Int)
 ·rw [if_pos c3] at H
  have kT : ((l0.length : Int) == (l1.length : Int)) = true := beq_iff_eq.mpr c3
  have qj : ((l0.length : Int) != (l1.length : Int)) = false := bne_eq_false_iff_eq.mpr c3
  have EM : (l0.length == l1.length) = true := by first | simpa using c3 | (simp at c3 ⊢; omega)
  clear c3
  have H' := ak H
  clear H
  go_enter Try.func78, Try.ntmps78
  go_wp2
  repeat (go_quiet (fail); try go_wp2)
  go_loopg [13] k (fun kq Dp w' => ∃ (bG : Int), Dp = .int .i64 bG ∧ Aside0 (cY.l0 kq l0 l1 (l0.length : Int) bG = some r) ∧ Aside0 (kq ≤ k) ∧ Drawn0 w w')
  case atStart => exact ⟨(0), (by first | rfl | (simp; done) | (simp [*]; done)), H', ⟨Nat.le_refl _⟩, by repeat (first | exact Drawn0.refl _ | apply Drawn0.step)⟩
  case round =>
   clear H'
   obtain ⟨bG, rfl, HA, dq, ⟨m1, rfl⟩⟩ := hrel
   cases gk with
   | zero => exact absurd HA.out (by simp [cY.l0])
   | succ k1 =>
    have H := HA.out
    clear HA
    simp only [cY.l0] at H
    by_cases c4 : bG < (l0.length : Int)
    ·rw [if_pos c4] at H
     have jG : decide (bG < (l0.length : Int)) = true := decide_eq_true c4
     clear c4
     by_cases c5 : 0 ≤ bG
     ·rw [if_pos c5] at H
      have zb : decide (0 ≤ bG) = true := decide_eq_true c5
      clear c5
      by_cases c6 : bG < (l0.length : Int)
      ·rw [if_pos c6] at H
       have oK : decide (bG < (l0.length : Int)) = true := decide_eq_true c6
       clear c6
       by_cases c7 : bG < (l1.length : Int)
       ·rw [if_pos c7] at H
        have lh : decide (bG < (l1.length : Int)) = true := decide_eq_true c7
        clear c7
        by_cases c8 : (!((((dE l0 bG).f0).toList) == (((dE l1 bG).f0).toList)) || (!((((dE l0 bG).f1).toList) == (((dE l1 bG).f1).toList)))) = true
        ·rw [if_pos c8] at H
         have sK : (!((((dE l0 bG).f0).toList) == (((dE l1 bG).f0).toList)) || (!((((dE l0 bG).f1).toList) == (((dE l1 bG).f1).toList)))) = true := c8
         clear c8
         obtain rfl := Option.some.inj H
         have sk : 0 ≤ (bG : Int) := of_decide_eq_true (by first | (with_reducible assumption) | assumption)
         have r8 : bG < (l0.length : Int) := of_decide_eq_true (by first | (with_reducible assumption) | assumption)
         obtain ⟨Pt, Et, I8, I7⟩ := nv n7.out bG sk r8
         cases Et
         replace sk := eq_true sk
         replace r8 := eq_true r8
         have sj : 0 ≤ (bG : Int) := of_decide_eq_true (by first | (with_reducible assumption) | assumption)
         have rZ : bG < (l1.length : Int) := of_decide_eq_true (by first | (with_reducible assumption) | assumption)
         obtain ⟨Ps, Es, I6, I5⟩ := nv mG.out bG sj rZ
         cases Es
         replace sj := eq_true sj
         replace rZ := eq_true rZ
         go_wp2
         repeat (go_quiet (fail); try go_wp2)
         go_ret
         exact ⟨by first | rfl | (simp; done) | (simp [*]; done), by repeat (first | exact Drawn0.refl _ | apply Drawn0.step)⟩
        ·rw [if_neg c8] at H
         have sK : (!((((dE l0 bG).f0).toList) == (((dE l1 bG).f0).toList)) || (!((((dE l0 bG).f1).toList) == (((dE l1 bG).f1).toList)))) = false := by simpa using c8
         clear c8
         have H' := ak H
         clear H
         have sk : 0 ≤ (bG : Int) := of_decide_eq_true (by first | (with_reducible assumption) | assumption)
         have r8 : bG < (l0.length : Int) := of_decide_eq_true (by first | (with_reducible assumption) | assumption)
         obtain ⟨Pt, Et, I8, I7⟩ := nv n7.out bG sk r8
         cases Et
         replace sk := eq_true sk
         replace r8 := eq_true r8
         have sj : 0 ≤ (bG : Int) := of_decide_eq_true (by first | (with_reducible assumption) | assumption)
         have rZ : bG < (l1.length : Int) := of_decide_eq_true (by first | (with_reducible assumption) | assumption)
         obtain ⟨Ps, Es, I6, I5⟩ := nv mG.out bG sj rZ
         cases Es
         replace sj := eq_true sj
         replace rZ := eq_true rZ
         go_wp2
         repeat (go_quiet (fail); try go_wp2)
         go_roundg k1
         case measure => have := dq.out; omega
         case rel => exact ⟨(wrap64 (bG + 1)), (by first | rfl | (simp; done) | (simp [*]; done)), H', ⟨by have := dq.out; omega⟩, by repeat (first | exact Drawn0.refl _ | apply Drawn0.step)⟩
       ·rw [if_neg c7] at H
        exact absurd H (by simp)
      ·rw [if_neg c6] at H
       exact absurd H (by simp)
     ·rw [if_neg c5] at H
      exact absurd H (by simp)
    ·rw [if_neg c4] at H
     have jG : decide (bG < (l0.length : Int)) = false := decide_eq_false c4
     clear c4
     obtain rfl := Option.some.inj H
     go_wp2
     repeat (go_quiet (fail); try go_wp2)
     go_ret
     exact ⟨by first | rfl | (simp; done) | (simp [*]; done), by repeat (first | exact Drawn0.refl _ | apply Drawn0.step)⟩
 ·rw [if_neg c3] at H
  have kT : ((l0.length : Int) == (l1.length : Int)) = false := beq_eq_false_iff_ne.mpr c3
  have qj : ((l0.length : Int) != (l1.length : Int)) = true := bne_iff_ne.mpr c3
  have EM : (l0.length == l1.length) = false := by first | simpa using c3 | (simp at c3 ⊢; omega)
  obtain rfl := Option.some.inj H
  go_enter Try.func78, Try.ntmps78
  go_wp2
  repeat (go_quiet (fail); try go_wp2)
  go_ret
  exact ⟨by first | rfl | (simp; done) | (simp [*]; done), by repeat (first | exact Drawn0.refl _ | apply Drawn0.step)⟩
end Go.Proofs.Ytemhalnhbgkbcaa.V
end

section
namespace Go.Proofs.Ytemhalnhbgkbcaa.V
attribute [local go_sem] dA dy ed ec cP cN dz dx
def br.l0 : Nat → List Int → List Int → Int → Int → Option (Bool)
 | 0, _, _, _, _ => none
 | k + 1, x0, x1, yr, lQ => if lQ < yr then (if 0 ≤ lQ then (if lQ < (x0.length : Int) then (if lQ < (x1.length : Int) then (if (rd x0 lQ) = (rd x1 lQ) then (br.l0 k x0 x1 yr (wrap64 (lQ + 1))) else (some false)) else (none)) else (none)) else (none)) else (some true)
def br.f (k : Nat) (l0 : List Int) (l1 : List Int) : Option (Bool) := if (l0.length : Int) = (l1.length : Int) then (br.l0 k l0 l1 (l0.length : Int) 0) else (some false)
theorem br.mono_l : ∀ k, (∀ y0 y1 y2 y3, aC (br.l0 k y0 y1 y2 y3) (br.l0 (k + 1) y0 y1 y2 y3))
 | 0 => fun _ _ _ _ r h => by simp [br.l0] at h
 | k + 1 => by
  have cE := br.mono_l k
  ·intro y0 y1 y2 y3
   unfold br.l0
   repeat' first
   | (with_reducible exact cE _ _ _ _)
   | (with_reducible exact aC.refl _)
   | (with_reducible exact aC.none _)
   | (with_reducible refine aC.ite ?_ ?_)
   | (with_reducible refine aC.bind ?_ (fun _ => ?_))
   | exact cE _ _ _ _
   | exact aC.none _
   | refine aC.ite ?_ ?_
   | refine aC.bind ?_ (fun _ => ?_)
theorem br.mono : ∀ a0 a1 k, aC (br.f k a0 a1) (br.f (k + 1) a0 a1) := by
 intro a0 a1 k
 have cE := br.mono_l k
 unfold br.f
 repeat' first
   | (with_reducible exact cE _ _ _ _)
   | (with_reducible exact aC.refl _)
   | (with_reducible exact aC.none _)
   | (with_reducible refine aC.ite ?_ ?_)
   | (with_reducible refine aC.bind ?_ (fun _ => ?_))
   | exact cE _ _ _ _
   | exact aC.none _
   | refine aC.ite ?_ ?_
   | refine aC.bind ?_ (fun _ => ?_)
set_option maxHeartbeats 8000000 in
set_option maxRecDepth 100000 in
theorem br.calls (k : Nat) (A0 : Option Addr) (c0 : Nat) (l0 : List Int) (A1 : Option Addr) (c1 : Nat) (l1 : List Int) (r : Bool) (w : World) (lM : Kd.C (Kd.int .u8) w A0 l0.length l0) (jC : l0.length ≤ c0) (wG : Kd.C (Kd.int .u8) w A1 l1.length l1) (vJ : l1.length ≤ c1) (h : br.f k l0 l1 = some r) :
  Calls Try.prog 77 #[.slice A0 l0.length c0, .slice A1 l1.length c1] w fun e w' => e = .returned (.bool r) ∧ Drawn0 w w' := by
 have n7 := ak lM
 have xT := ak jC
 clear lM jC
 have mG := ak wG
 have GQ := ak vJ
 clear wG vJ
 have H : (if (l0.length : Int) = (l1.length : Int) then (br.l0 k l0 l1 (l0.length : Int) 0) else (some false)) = some r := h
 clear h
 by_cases c3 : (l0.length : Int) = (l1.length : Int)
 ·rw [if_pos c3] at H
  have kT : ((l0.length : Int) == (l1.length : Int)) = true := beq_iff_eq.mpr c3
  have qj : ((l0.length : Int) != (l1.length : Int)) = false := bne_eq_false_iff_eq.mpr c3
  have EM : (l0.length == l1.length) = true := by first | simpa using c3 | (simp at c3 ⊢; omega)
  clear c3
  have H' := ak H
  clear H
  go_enter Try.func77, Try.ntmps77
  go_wp2
  repeat (go_quiet (fail); try go_wp2)
  go_loopg [13] k (fun kq Dp w' => ∃ (bG : Int), Dp = .int .i64 bG ∧ Aside0 (br.l0 kq l0 l1 (l0.length : Int) bG = some r) ∧ Aside0 (kq ≤ k) ∧ Drawn0 w w')
  case atStart => exact ⟨(0), (by first | rfl | (simp; done) | (simp [*]; done)), H', ⟨Nat.le_refl _⟩, by repeat (first | exact Drawn0.refl _ | apply Drawn0.step)⟩
  case round =>
   clear H'
   obtain ⟨bG, rfl, HA, dq, ⟨m1, rfl⟩⟩ := hrel
   cases gk with
   | zero => exact absurd HA.out (by simp [br.l0])
   | succ k1 =>
    have H := HA.out
    clear HA
    simp only [br.l0] at H
    by_cases c4 : bG < (l0.length : Int)
    ·rw [if_pos c4] at H
     have jG : decide (bG < (l0.length : Int)) = true := decide_eq_true c4
     clear c4
     by_cases c5 : 0 ≤ bG
     ·rw [if_pos c5] at H
      have zb : decide (0 ≤ bG) = true := decide_eq_true c5
      clear c5
      by_cases c6 : bG < (l0.length : Int)
      ·rw [if_pos c6] at H
       have oK : decide (bG < (l0.length : Int)) = true := decide_eq_true c6
       clear c6
       by_cases c7 : bG < (l1.length : Int)
       ·rw [if_pos c7] at H
        have lh : decide (bG < (l1.length : Int)) = true := decide_eq_true c7
        clear c7
        by_cases c8 : (rd l0 bG) = (rd l1 bG)
        ·rw [if_pos c8] at H
         have sK : ((rd l0 bG) == (rd l1 bG)) = true := beq_iff_eq.mpr c8
         have EG : ((rd l0 bG) != (rd l1 bG)) = false := bne_eq_false_iff_eq.mpr c8
         clear c8
         have H' := ak H
         clear H
         have sn : 0 ≤ (bG : Int) := of_decide_eq_true (by first | (with_reducible assumption) | assumption)
         have sb : bG < (l0.length : Int) := of_decide_eq_true (by first | (with_reducible assumption) | assumption)
         obtain ⟨Pv, Ew, Ja⟩ := Kd.at_int n7.out bG sn sb
         cases Ew
         replace sn := eq_true sn
         replace sb := eq_true sb
         have sm : 0 ≤ (bG : Int) := of_decide_eq_true (by first | (with_reducible assumption) | assumption)
         have r9 : bG < (l1.length : Int) := of_decide_eq_true (by first | (with_reducible assumption) | assumption)
         obtain ⟨Pu, Eu, I9⟩ := Kd.at_int mG.out bG sm r9
         cases Eu
         replace sm := eq_true sm
         replace r9 := eq_true r9
         go_wp2
         repeat (go_quiet (fail); try go_wp2)
         go_roundg k1
         case measure => have := dq.out; omega
         case rel => exact ⟨(wrap64 (bG + 1)), (by first | rfl | (simp; done) | (simp [*]; done)), H', ⟨by have := dq.out; omega⟩, by repeat (first | exact Drawn0.refl _ | apply Drawn0.step)⟩
        ·rw [if_neg c8] at H
         have sK : ((rd l0 bG) == (rd l1 bG)) = false := beq_eq_false_iff_ne.mpr c8
         have EG : ((rd l0 bG) != (rd l1 bG)) = true := bne_iff_ne.mpr c8
         obtain rfl := Option.some.inj H
         have sn : 0 ≤ (bG : Int) := of_decide_eq_true (by first | (with_reducible assumption) | assumption)
         have sb : bG < (l0.length : Int) := of_decide_eq_true (by first | (with_reducible assumption) | assumption)
         obtain ⟨Pv, Ew, Ja⟩ := Kd.at_int n7.out bG sn sb
         cases Ew
         replace sn := eq_true sn
         replace sb := eq_true sb
         have sm : 0 ≤ (bG : Int) := of_decide_eq_true (by first | (with_reducible assumption) | assumption)
         have r9 : bG < (l1.length : Int) := of_decide_eq_true (by first | (with_reducible assumption) | assumption)
         obtain ⟨Pu, Eu, I9⟩ := Kd.at_int mG.out bG sm r9
         cases Eu
         replace sm := eq_true sm
         replace r9 := eq_true r9
         go_wp2
         repeat (go_quiet (fail); try go_wp2)
         go_ret
         exact ⟨by first | rfl | (simp; done) | (simp [*]; done), by repeat (first | exact Drawn0.refl _ | apply Drawn0.step)⟩
       ·rw [if_neg c7] at H
        exact absurd H (by simp)
      ·rw [if_neg c6] at H
       exact absurd H (by simp)
     ·rw [if_neg c5] at H
      exact absurd H (by simp)
    ·rw [if_neg c4] at H
     have jG : decide (bG < (l0.length : Int)) = false := decide_eq_false c4
     clear c4
     obtain rfl := Option.some.inj H
     go_wp2
     repeat (go_quiet (fail); try go_wp2)
     go_ret
     exact ⟨by first | rfl | (simp; done) | (simp [*]; done), by repeat (first | exact Drawn0.refl _ | apply Drawn0.step)⟩
 ·rw [if_neg c3] at H
  have kT : ((l0.length : Int) == (l1.length : Int)) = false := beq_eq_false_iff_ne.mpr c3
  have qj : ((l0.length : Int) != (l1.length : Int)) = true := bne_iff_ne.mpr c3
  have EM : (l0.length == l1.length) = false := by first | simpa using c3 | (simp at c3 ⊢; omega)
  obtain rfl := Option.some.inj H
  go_enter Try.func77, Try.ntmps77
  go_wp2
  repeat (go_quiet (fail); try go_wp2)
  go_ret
  exact ⟨by first | rfl | (simp; done) | (simp [*]; done), by repeat (first | exact Drawn0.refl _ | apply Drawn0.step)⟩
end Go.Proofs.Ytemhalnhbgkbcaa.V
end

