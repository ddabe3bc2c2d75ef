/- The law ImagePlays for every input: texts of ours, put together (part 9 of 17). No further condition. -/
import Derived.Test.YtemhalnhbgkbcaaCImagePlaysx2
import Derived.Test.YtemhalnhbgkbcaaCImagePlaysx6
import Derived.Test.YtemhalnhbgkbcaaCImagePlaysx3
import Derived.Test.YtemhalnhbgkbcaaCImagePlaysx7
import Derived.Test.YtemhalnhbgkbcaaCImagePlaysx5
import Derived.Test.YtemhalnhbgkbcaaCImagePlaysx4
import Derived.Test.YtemhalnhbgkbcaaCImagePlaysw1
import Derived.Outline
set_option linter.unusedVariables false
set_option linter.unusedSimpArgs false
open Go.RowKit Go.Proofs.YtemhalnhbgkbcaaW.PrintWords Go.Proofs.YtemhalnhbgkbcaaW.PrintLast Go.Proofs.YtemhalnhbgkbcaaW.PrintMore Go.Proofs.Ytemhalnhbgkbcaa.Z
section
namespace Go.Proofs.Ytemhalnhbgkbcaa.V
attribute [local go_sem] ea dY eB ez dq dp dZ dX
def et.f (bu : Int) (bE : ByteArray) (bM : List Int) (cN : List Int) (bL : List (S76)) (a1 : Int) : Option (ByteArray × ByteArray × Bool) := (fM.f bu bE bM cN bL a1).bind fun uA => (if uA = true then (if 0 ≤ (Int.tmod a1 64) then (if (Int.tmod a1 64) < (bM.length : Int) then (if (rd bM (Int.tmod a1 64)) = 0 then (some ((⟨#[]⟩ : ByteArray), (⟨#[]⟩ : ByteArray), false)) else (if 0 ≤ (wrap64 ((rd bM (Int.tmod a1 64)) - 1)) then (if (wrap64 ((rd bM (Int.tmod a1 64)) - 1)) < (bL.length : Int) then (some ((fz bL (wrap64 ((rd bM (Int.tmod a1 64)) - 1))).f0, (fz bL (wrap64 ((rd bM (Int.tmod a1 64)) - 1))).f1, true)) else (none)) else (none))) else (none)) else (none)) else (some ((⟨#[]⟩ : ByteArray), (⟨#[]⟩ : ByteArray), false)))
def et.T3 : Bool × List (List Nat × List Nat) := (true, [([], []), ([0], [0]), ([], []), ([2], [2]), ([], []), ([4], [4]), ([3, 5], [3, 5]), ([6], [6]), ([7], [7]), ([1, 8], [1, 8]), ([9], [9]), ([10, 0, 1, 2, 3, 4, 5, 6, 7, 8, 9, 10], [10]), ([11, 0, 1, 2, 3, 4, 5, 6, 7, 8, 9, 10, 11], [])])
def et.B3 : List Nat := [0, 1, 0, 4, 0, 16, 60, 124, 252, 511, 1023, 2047, 4095]
theorem et.tab3 : ed .any (opsOf Try.f62 3) = et.T3 := by kernel_rfl
theorem et.bits3 : dL et.T3.2 et.B3 = true := by kernel_rfl
set_option maxHeartbeats 8000000 in
set_option maxRecDepth 100000 in
theorem et.calls (bu : Int) (bE : ByteArray) (fC : Option Addr) (fw : Nat) (bM : List Int) (fb : Option Addr) (e9 : Nat) (cN : List Int) (eP : Option Addr) (eI : Nat) (bL : List (S76)) (a1 : Int) (r1 : ByteArray) (r2 : ByteArray) (r3 : Bool) (w : World) (sV : Kd.C (Kd.int .i64) w fC bM.length bM) (ta : bM.length ≤ fw) (sU : Kd.C (Kd.int .i64) w fb cN.length cN) (sZ : cN.length ≤ e9) (sS : Kd.C ib w eP bL.length bL) (sY : bL.length ≤ eI) (h : et.f bu bE bM cN bL a1 = some (r1, r2, r3)) :
  Calls Try.prog 62 #[.agg #[.int .u32 bu, .string bE, .slice fC bM.length fw, .slice fb cN.length e9, .slice eP bL.length eI], .int .u32 a1] w fun e w' => e = .returned (.tuple #[.agg #[.string r1, .string r2], .bool r3]) ∧ Below w.heap.size w w' := by
 have J5 := Try.underlying62
 have OX := Try.underlying76
 have rh := ak sV
 have Ay := ak ta
 clear sV ta
 have xA := ak sU
 have Ax := ak sZ
 clear sU sZ
 have vQ := ak sS
 have Aw := ak sY
 clear sS sY
 have HB := ak (Below.refl w.heap.size w)
 have H : ((fM.f bu bE bM cN bL a1).bind fun uA => (if uA = true then (if 0 ≤ (Int.tmod a1 64) then (if (Int.tmod a1 64) < (bM.length : Int) then (if (rd bM (Int.tmod a1 64)) = 0 then (some ((⟨#[]⟩ : ByteArray), (⟨#[]⟩ : ByteArray), false)) else (if 0 ≤ (wrap64 ((rd bM (Int.tmod a1 64)) - 1)) then (if (wrap64 ((rd bM (Int.tmod a1 64)) - 1)) < (bL.length : Int) then (some ((fz bL (wrap64 ((rd bM (Int.tmod a1 64)) - 1))).f0, (fz bL (wrap64 ((rd bM (Int.tmod a1 64)) - 1))).f1, true)) else (none)) else (none))) else (none)) else (none)) else (some ((⟨#[]⟩ : ByteArray), (⟨#[]⟩ : ByteArray), false)))) = some (r1, r2, r3) := h
 clear h
 replace H := Option.bind_eq_some_iff.mp H
 obtain ⟨uA, qz, H⟩ := H
 replace H : (if uA = true then (if 0 ≤ (Int.tmod a1 64) then (if (Int.tmod a1 64) < (bM.length : Int) then (if (rd bM (Int.tmod a1 64)) = 0 then (some ((⟨#[]⟩ : ByteArray), (⟨#[]⟩ : ByteArray), false)) else (if 0 ≤ (wrap64 ((rd bM (Int.tmod a1 64)) - 1)) then (if (wrap64 ((rd bM (Int.tmod a1 64)) - 1)) < (bL.length : Int) then (some ((fz bL (wrap64 ((rd bM (Int.tmod a1 64)) - 1))).f0, (fz bL (wrap64 ((rd bM (Int.tmod a1 64)) - 1))).f1, true)) else (none)) else (none))) else (none)) else (none)) else (some ((⟨#[]⟩ : ByteArray), (⟨#[]⟩ : ByteArray), false))) = some (r1, r2, r3) := H
 have A3 := ak qz
 clear qz
 by_cases c4 : uA = true
 ·subst c4
  have H1 : (if 0 ≤ (Int.tmod a1 64) then (if (Int.tmod a1 64) < (bM.length : Int) then (if (rd bM (Int.tmod a1 64)) = 0 then (some ((⟨#[]⟩ : ByteArray), (⟨#[]⟩ : ByteArray), false)) else (if 0 ≤ (wrap64 ((rd bM (Int.tmod a1 64)) - 1)) then (if (wrap64 ((rd bM (Int.tmod a1 64)) - 1)) < (bL.length : Int) then (some ((fz bL (wrap64 ((rd bM (Int.tmod a1 64)) - 1))).f0, (fz bL (wrap64 ((rd bM (Int.tmod a1 64)) - 1))).f1, true)) else (none)) else (none))) else (none)) else (none)) = some (r1, r2, r3) := by rw [if_pos rfl] at H; exact H
  clear H
  have H := H1
  clear H1
  obtain ⟨kQ, Dq⟩ : ∃ j_ : Int, (Int.tmod a1 64) = j_ := ⟨_, rfl⟩
  replace H : (if 0 ≤ (kQ) then (if (kQ) < (bM.length : Int) then (if (rd bM (kQ)) = 0 then (some ((⟨#[]⟩ : ByteArray), (⟨#[]⟩ : ByteArray), false)) else (if 0 ≤ (wrap64 ((rd bM (kQ)) - 1)) then (if (wrap64 ((rd bM (kQ)) - 1)) < (bL.length : Int) then (some ((fz bL (wrap64 ((rd bM (kQ)) - 1))).f0, (fz bL (wrap64 ((rd bM (kQ)) - 1))).f1, true)) else (none)) else (none))) else (none)) else (none)) = some (r1, r2, r3) := by first | (rw [Dq] at H; exact H) | (simp only [Dq] at H ⊢; exact H)
  (try rw [Dq] at A3)
  by_cases c6 : 0 ≤ (kQ)
  ·rw [if_pos c6] at H
   have nW : decide (0 ≤ (kQ)) = true := decide_eq_true c6
   clear c6
   by_cases c7 : (kQ) < (bM.length : Int)
   ·rw [if_pos c7] at H
    have mi : decide ((kQ) < (bM.length : Int)) = true := decide_eq_true c7
    clear c7
    by_cases c8 : (rd bM (kQ)) = 0
    ·rw [if_pos c8] at H
     have sj : ((rd bM (kQ)) == 0) = true := beq_iff_eq.mpr c8
     have DZ : ((rd bM (kQ)) != 0) = false := bne_eq_false_iff_eq.mpr c8
     clear c8
     simp only [Option.some.injEq, Prod.mk.injEq] at H
     obtain ⟨rfl, rfl, rfl⟩ := H
     go_enter Try.func62, Try.ntmps62
     go_wp2_with (first | ((with_reducible refine av (N := 2) rfl ?_); refine fi ?hg (N := 2) ?hd (cs := #[.int .u32 bu, .string bE, .slice fC bM.length fw, .slice fb cN.length e9, .slice eP bL.length eI]) (t := 62) ?hr ?_; (case hd => rfl); (case hg => rfl); (case hr => first | (go_simp; done) | (go_simp; rfl)); intro bZ hg w9 hbox hb; have bV := ak (bg (by repeat (first | (with_reducible first | exact HB.out | apply af | apply ab | apply ai) | exact HB.out)) hb); have b4 := ak (hbox); have df := ak ((by rw [hg]; exact (bf (by repeat (first | (with_reducible first | exact HB.out | apply af | apply ab | apply ai) | exact HB.out))) : w.heap.size ≤ bZ)); have dP := ak ((by rw [hg]; exact (bf (by repeat (first | (with_reducible first | exact HB.out | apply af | apply ab | apply ai) | exact HB.out))) : w.heap.size ≤ bZ)); clear HB; have HB := bV; have a9 := b4; have Gj := df; have iy := dP; clear bV b4 df dP; clear hb hbox hg) | ((with_reducible refine av (N := 4) rfl ?_); refine fi ?hg (N := 4) ?hd (cs := #[.string (⟨#[]⟩ : ByteArray), .string (⟨#[]⟩ : ByteArray)]) (t := 76) ?hr ?_; (case hd => rfl); (case hg => rfl); (case hr => first | (go_simp; done) | (go_simp; rfl)); intro cX hg Bx hbox hb; have bV := ak (e7 (g := bZ) (o := .cells #[.int .u32 bu, .string bE, .slice fC bM.length fw, .slice fb cN.length e9, .slice eP bL.length eI] 62 (0, 0)) (by (with_reducible repeat (first | refine aI ?_ _ | refine aT ?_ | refine aJ ?_ _)); exact a9.out) hb); have b4 := ak (bg (by repeat (first | (with_reducible first | exact HB.out | apply af | apply ab | apply ai | refine aN ?_ iy.out) | exact HB.out)) hb); have df := ak (hbox); have dP := ak ((by rw [hg]; exact (bf (by repeat (first | (with_reducible first | exact HB.out | apply af | apply ab | apply ai | refine aN ?_ iy.out) | exact HB.out))) : w.heap.size ≤ cX)); have jr := ak ((by rw [hg]; exact (bf (by repeat (first | (with_reducible first | exact HB.out | apply af | apply ab | apply ai | refine aN ?_ iy.out) | exact HB.out))) : w.heap.size ≤ cX)); have mI := ak ((by rw [hg]; exact Nat.ne_of_lt (jZ (g := bZ) (o := .cells #[.int .u32 bu, .string bE, .slice fC bM.length fw, .slice fb cN.length e9, .slice eP bL.length eI] 62 (0, 0)) (by (with_reducible repeat (first | refine aI ?_ _ | refine aT ?_ | refine aJ ?_ _)); exact a9.out)) : bZ ≠ cX)); have qk := ak ((by rw [hg]; exact Nat.ne_of_gt (jZ (g := bZ) (o := .cells #[.int .u32 bu, .string bE, .slice fC bM.length fw, .slice fb cN.length e9, .slice eP bL.length eI] 62 (0, 0)) (by (with_reducible repeat (first | refine aI ?_ _ | refine aT ?_ | refine aJ ?_ _)); exact a9.out)) : cX ≠ bZ)); clear a9; clear HB; have a9 := bV; have HB := b4; have eC := df; have fj := dP; have oJ := jr; have ej := mI; have jU := qk; clear bV b4 df dP jr mI qk; clear hb hbox hg; have Yw := ej.out; have Yr := jU.out; have Wh : Bx.cell? ⟨bZ, 0, none⟩ = some (.int .u32 bu) := (aA a9.out 0).trans rfl; have Wg : Bx.cell? ⟨bZ, 1, none⟩ = some (.string bE) := (aA a9.out 1).trans rfl; have Wf : Bx.cell? ⟨bZ, 2, none⟩ = some (.slice fC bM.length fw) := (aA a9.out 2).trans rfl; have We : Bx.cell? ⟨bZ, 3, none⟩ = some (.slice fb cN.length e9) := (aA a9.out 3).trans rfl; have Wd : Bx.cell? ⟨bZ, 4, none⟩ = some (.slice eP bL.length eI) := (aA a9.out 4).trans rfl; have Vd := aq a9.out 0; have Vc := aq a9.out 1; have Vb := aq a9.out 2; have Va := aq a9.out 3; have U9 := aq a9.out 4) | ((with_reducible refine fo (f := 100) rfl ?_); refine jY (some 8) rfl rfl Try.func100 (by kernel_rfl) rfl #[.agg #[.int .u32 bu, .string bE, .slice fC bM.length fw, .slice fb cN.length e9, .slice eP bL.length eI], .int .u32 a1] rfl (by (try simp only [List.map_toArray, List.map_cons, List.map_nil]); first | done | rfl | (simp only [List.length_drop, List.length_take]; rfl)) ?_; (with_reducible refine (fM.calls bu bE _ _ bM _ _ cN _ _ bL a1 true _ ?side1 ?side2 ?side3 ?side4 ?side5 ?side6 A3.out).mono ?_); (case side1 => repeat (first | exact (Kd.C_below rh.out HB.out) | (with_reducible refine Kd.C_alloc ?_ _) | (with_reducible refine Kd.C_drewN ?_ _) | (with_reducible refine Kd.C_drew ?_))); (case side2 => exact Ay.out); (case side3 => repeat (first | exact (Kd.C_below xA.out HB.out) | (with_reducible refine Kd.C_alloc ?_ _) | (with_reducible refine Kd.C_drewN ?_ _) | (with_reducible refine Kd.C_drew ?_))); (case side4 => exact Ax.out); (case side5 => repeat (first | exact (Kd.C_below vQ.out HB.out) | (with_reducible refine Kd.C_alloc ?_ _) | (with_reducible refine Kd.C_drewN ?_ _) | (with_reducible refine Kd.C_drew ?_))); (case side6 => exact Aw.out); rintro e CD ⟨rfl, hb⟩; refine ⟨_, rfl, ?_⟩; have bV := ak (e7 (g := bZ) (o := .cells #[.int .u32 bu, .string bE, .slice fC bM.length fw, .slice fb cN.length e9, .slice eP bL.length eI] 62 (0, 0)) (by (with_reducible repeat (first | refine aI ?_ _ | refine aT ?_ | refine aJ ?_ _)); exact a9.out) hb); have b4 := ak (e7 (g := cX) (o := .cells #[.string (⟨#[]⟩ : ByteArray), .string (⟨#[]⟩ : ByteArray)] 76 (0, 0)) (by (with_reducible repeat (first | refine aI ?_ _ | refine aT ?_ | refine aJ ?_ _)); exact eC.out) hb); have df := ak (bg (by repeat (first | (with_reducible first | exact HB.out | apply af | apply ab | apply ai | refine aN ?_ iy.out | refine aN ?_ oJ.out) | exact HB.out)) hb); clear a9; clear eC; clear HB; have a9 := bV; have eC := b4; have HB := df; clear bV b4 df; (try clear hb); (try clear dD); (try clear hk); (try clear hi); have Nv : CD.cell? ⟨bZ, 0, none⟩ = some (.int .u32 bu) := (aA a9.out 0).trans rfl; have Nu : CD.cell? ⟨bZ, 1, none⟩ = some (.string bE) := (aA a9.out 1).trans rfl; have Nt : CD.cell? ⟨bZ, 2, none⟩ = some (.slice fC bM.length fw) := (aA a9.out 2).trans rfl; have Ns : CD.cell? ⟨bZ, 3, none⟩ = some (.slice fb cN.length e9) := (aA a9.out 3).trans rfl; have Nr : CD.cell? ⟨bZ, 4, none⟩ = some (.slice eP bL.length eI) := (aA a9.out 4).trans rfl; have M9 := aq a9.out 0; have M8 := aq a9.out 1; have M7 := aq a9.out 2; have M6 := aq a9.out 3; have M5 := aq a9.out 4; have rU : 0 ≤ ((kQ) : Int) := of_decide_eq_true (by first | (with_reducible assumption) | assumption); have rL : (kQ) < (bM.length : Int) := of_decide_eq_true (by first | (with_reducible assumption) | assumption); obtain ⟨xw, DS, mK⟩ := Kd.at_int rh.out (kQ) rU rL; cases DS; replace mK := (HB.out.cell (World.block_lt_of_cell? w _ mK)).trans mK; replace rU := eq_true rU; replace rL := eq_true rL; have VY : CD.cell? ⟨cX, 0, none⟩ = some (.string (⟨#[]⟩ : ByteArray)) := (aA eC.out 0).trans rfl; have VX : CD.cell? ⟨cX, 1, none⟩ = some (.string (⟨#[]⟩ : ByteArray)) := (aA eC.out 1).trans rfl; have U3 := aq eC.out 0; have U2 := aq eC.out 1))
     refine bodyPost_ret (eX rfl _ _ cX 76 #[.string (⟨#[]⟩ : ByteArray), .string (⟨#[]⟩ : ByteArray)] (0, 0) _ rfl (by (with_reducible repeat (first | refine aI ?_ _ | refine aT ?_ | refine aJ ?_ _)); refine fa (cs := #[.string (⟨#[]⟩ : ByteArray), .string (⟨#[]⟩ : ByteArray)]) ?_ 1 _ rfl; (with_reducible repeat (first | refine aI ?_ _ | refine aT ?_ | refine aJ ?_ _)); refine fa (cs := #[.string (⟨#[]⟩ : ByteArray), .string (⟨#[]⟩ : ByteArray)]) ?_ 0 _ rfl; (with_reducible repeat (first | refine aI ?_ _ | refine aT ?_ | refine aJ ?_ _)); exact eC.out) Try.underlying76 rfl (by kernel_rfl)) rfl ?_
     exact ⟨by first | rfl | (simp [bz, bx] <;> rfl) | (simp only [← Dq]; first | rfl | (simp [bz, bx] <;> rfl)) | (simp [*, bz, bx] <;> rfl), by repeat (first | (with_reducible first | exact HB.out | apply af | apply ab | apply ai | refine aN ?_ iy.out | refine aN ?_ oJ.out) | exact HB.out)⟩
    ·rw [if_neg c8] at H
     have sj : ((rd bM (kQ)) == 0) = false := beq_eq_false_iff_ne.mpr c8
     have DZ : ((rd bM (kQ)) != 0) = true := bne_iff_ne.mpr c8
     obtain ⟨lz, yR⟩ : ∃ j_ : Int, (wrap64 ((rd bM (kQ)) - 1)) = j_ := ⟨_, rfl⟩
     replace H : (if 0 ≤ (lz) then (if (lz) < (bL.length : Int) then (some ((fz bL (lz)).f0, (fz bL (lz)).f1, true)) else (none)) else (none)) = some (r1, r2, r3) := by first | (rw [yR] at H; exact H) | (simp only [yR] at H ⊢; exact H)
     (try rw [yR] at A3)
     have WY : (IntKind.i64.wrap ((rd bM (kQ)) - 1)) = lz := (kB _).trans yR
     by_cases wS : 0 ≤ (lz)
     ·rw [if_pos wS] at H
      have Lw : decide (0 ≤ (lz)) = true := decide_eq_true wS
      clear wS
      by_cases wR : (lz) < (bL.length : Int)
      ·rw [if_pos wR] at H
       have Lv : decide ((lz) < (bL.length : Int)) = true := decide_eq_true wR
       clear wR
       simp only [Option.some.injEq, Prod.mk.injEq] at H
       obtain ⟨rfl, rfl, rfl⟩ := H
       go_enter Try.func62, Try.ntmps62
       try go_wp2_with (first | ((with_reducible refine av (N := 2) rfl ?_); refine fi ?hg (N := 2) ?hd (cs := #[.int .u32 bu, .string bE, .slice fC bM.length fw, .slice fb cN.length e9, .slice eP bL.length eI]) (t := 62) ?hr ?_; (case hd => rfl); (case hg => rfl); (case hr => first | (go_simp; done) | (go_simp; rfl)); intro bZ hg Zb hbox hb; have bV := ak (bg (by repeat (first | (with_reducible first | exact HB.out | apply af | apply ab | apply ai) | exact HB.out)) hb); have b4 := ak (hbox); have df := ak ((by rw [hg]; exact (bf (by repeat (first | (with_reducible first | exact HB.out | apply af | apply ab | apply ai) | exact HB.out))) : w.heap.size ≤ bZ)); have dP := ak ((by rw [hg]; exact (bf (by repeat (first | (with_reducible first | exact HB.out | apply af | apply ab | apply ai) | exact HB.out))) : w.heap.size ≤ bZ)); clear HB; have HB := bV; have a9 := b4; have Gj := df; have iy := dP; clear bV b4 df dP; clear hb hbox hg) | ((with_reducible refine av (N := 4) rfl ?_); refine fi ?hg (N := 4) ?hd (cs := #[.string (⟨#[]⟩ : ByteArray), .string (⟨#[]⟩ : ByteArray)]) (t := 76) ?hr ?_; (case hd => rfl); (case hg => rfl); (case hr => first | (go_simp; done) | (go_simp; rfl)); intro cX hg wy hbox hb; have bV := ak (e7 (g := bZ) (o := .cells #[.int .u32 bu, .string bE, .slice fC bM.length fw, .slice fb cN.length e9, .slice eP bL.length eI] 62 (0, 0)) (by (with_reducible repeat (first | refine aI ?_ _ | refine aT ?_ | refine aJ ?_ _)); exact a9.out) hb); have b4 := ak (bg (by repeat (first | (with_reducible first | exact HB.out | apply af | apply ab | apply ai | refine aN ?_ iy.out) | exact HB.out)) hb); have df := ak (hbox); have dP := ak ((by rw [hg]; exact (bf (by repeat (first | (with_reducible first | exact HB.out | apply af | apply ab | apply ai | refine aN ?_ iy.out) | exact HB.out))) : w.heap.size ≤ cX)); have jr := ak ((by rw [hg]; exact (bf (by repeat (first | (with_reducible first | exact HB.out | apply af | apply ab | apply ai | refine aN ?_ iy.out) | exact HB.out))) : w.heap.size ≤ cX)); have mI := ak ((by rw [hg]; exact Nat.ne_of_lt (jZ (g := bZ) (o := .cells #[.int .u32 bu, .string bE, .slice fC bM.length fw, .slice fb cN.length e9, .slice eP bL.length eI] 62 (0, 0)) (by (with_reducible repeat (first | refine aI ?_ _ | refine aT ?_ | refine aJ ?_ _)); exact a9.out)) : bZ ≠ cX)); have qk := ak ((by rw [hg]; exact Nat.ne_of_gt (jZ (g := bZ) (o := .cells #[.int .u32 bu, .string bE, .slice fC bM.length fw, .slice fb cN.length e9, .slice eP bL.length eI] 62 (0, 0)) (by (with_reducible repeat (first | refine aI ?_ _ | refine aT ?_ | refine aJ ?_ _)); exact a9.out)) : cX ≠ bZ)); clear a9; clear HB; have a9 := bV; have HB := b4; have eC := df; have fj := dP; have oJ := jr; have ej := mI; have jU := qk; clear bV b4 df dP jr mI qk; clear hb hbox hg; have Yu := ej.out; have Yp := jU.out; have Nk : wy.cell? ⟨bZ, 0, none⟩ = some (.int .u32 bu) := (aA a9.out 0).trans rfl; have Nh : wy.cell? ⟨bZ, 1, none⟩ = some (.string bE) := (aA a9.out 1).trans rfl; have Ng : wy.cell? ⟨bZ, 2, none⟩ = some (.slice fC bM.length fw) := (aA a9.out 2).trans rfl; have Nf : wy.cell? ⟨bZ, 3, none⟩ = some (.slice fb cN.length e9) := (aA a9.out 3).trans rfl; have Nd : wy.cell? ⟨bZ, 4, none⟩ = some (.slice eP bL.length eI) := (aA a9.out 4).trans rfl; have MX := aq a9.out 0; have MW := aq a9.out 1; have MV := aq a9.out 2; have MU := aq a9.out 3; have MT := aq a9.out 4) | ((with_reducible refine fo (f := 100) rfl ?_); refine jY (some 8) rfl rfl Try.func100 (by kernel_rfl) rfl #[.agg #[.int .u32 bu, .string bE, .slice fC bM.length fw, .slice fb cN.length e9, .slice eP bL.length eI], .int .u32 a1] rfl (by (try simp only [List.map_toArray, List.map_cons, List.map_nil]); first | done | rfl | (simp only [List.length_drop, List.length_take]; rfl)) ?_; (with_reducible refine (fM.calls bu bE _ _ bM _ _ cN _ _ bL a1 true _ ?side1 ?side2 ?side3 ?side4 ?side5 ?side6 A3.out).mono ?_); (case side1 => repeat (first | exact (Kd.C_below rh.out HB.out) | (with_reducible refine Kd.C_alloc ?_ _) | (with_reducible refine Kd.C_drewN ?_ _) | (with_reducible refine Kd.C_drew ?_))); (case side2 => exact Ay.out); (case side3 => repeat (first | exact (Kd.C_below xA.out HB.out) | (with_reducible refine Kd.C_alloc ?_ _) | (with_reducible refine Kd.C_drewN ?_ _) | (with_reducible refine Kd.C_drew ?_))); (case side4 => exact Ax.out); (case side5 => repeat (first | exact (Kd.C_below vQ.out HB.out) | (with_reducible refine Kd.C_alloc ?_ _) | (with_reducible refine Kd.C_drewN ?_ _) | (with_reducible refine Kd.C_drew ?_))); (case side6 => exact Aw.out); rintro e qg ⟨rfl, hb⟩; refine ⟨_, rfl, ?_⟩; have bV := ak (e7 (g := bZ) (o := .cells #[.int .u32 bu, .string bE, .slice fC bM.length fw, .slice fb cN.length e9, .slice eP bL.length eI] 62 (0, 0)) (by (with_reducible repeat (first | refine aI ?_ _ | refine aT ?_ | refine aJ ?_ _)); exact a9.out) hb); have b4 := ak (e7 (g := cX) (o := .cells #[.string (⟨#[]⟩ : ByteArray), .string (⟨#[]⟩ : ByteArray)] 76 (0, 0)) (by (with_reducible repeat (first | refine aI ?_ _ | refine aT ?_ | refine aJ ?_ _)); exact eC.out) hb); have df := ak (bg (by repeat (first | (with_reducible first | exact HB.out | apply af | apply ab | apply ai | refine aN ?_ iy.out | refine aN ?_ oJ.out) | exact HB.out)) hb); clear a9; clear eC; clear HB; have a9 := bV; have eC := b4; have HB := df; clear bV b4 df; (try clear hb); (try clear dD); (try clear hk); (try clear hi); have VH : qg.cell? ⟨bZ, 0, none⟩ = some (.int .u32 bu) := (aA a9.out 0).trans rfl; have VG : qg.cell? ⟨bZ, 1, none⟩ = some (.string bE) := (aA a9.out 1).trans rfl; have VF : qg.cell? ⟨bZ, 2, none⟩ = some (.slice fC bM.length fw) := (aA a9.out 2).trans rfl; have VE : qg.cell? ⟨bZ, 3, none⟩ = some (.slice fb cN.length e9) := (aA a9.out 3).trans rfl; have VD : qg.cell? ⟨bZ, 4, none⟩ = some (.slice eP bL.length eI) := (aA a9.out 4).trans rfl; have UL := aq a9.out 0; have UK := aq a9.out 1; have UJ := aq a9.out 2; have UI := aq a9.out 3; have UH := aq a9.out 4; have rU : 0 ≤ ((kQ) : Int) := of_decide_eq_true (by first | (with_reducible assumption) | assumption); have rL : (kQ) < (bM.length : Int) := of_decide_eq_true (by first | (with_reducible assumption) | assumption); obtain ⟨xw, DS, mK⟩ := Kd.at_int rh.out (kQ) rU rL; cases DS; replace mK := (HB.out.cell (World.block_lt_of_cell? w _ mK)).trans mK; replace rU := eq_true rU; replace rL := eq_true rL))
       have bV := ak (aT a9.out)
       have b4 := ak (aT eC.out)
       have df := ak (ai HB.out)
       clear a9
       clear eC
       clear HB
       have a9 := bV
       have eC := b4
       have HB := df
       clear bV b4 df
       have CY : 0 ≤ ((kQ) : Int) := of_decide_eq_true (by first | (with_reducible assumption) | assumption)
       have CV : (kQ) < (bM.length : Int) := of_decide_eq_true (by first | (with_reducible assumption) | assumption)
       obtain ⟨NR, PC, qo⟩ := Kd.at_int rh.out (kQ) CY CV
       have kg := qo
       obtain rfl : xw = NR := (by injection PC)
       replace qo := (HB.out.cell (World.block_lt_of_cell? w _ qo)).trans qo
       replace CY := eq_true CY
       replace CV := eq_true CV
       have CX : 0 ≤ ((lz) : Int) := of_decide_eq_true (by first | (with_reducible assumption) | assumption)
       have CU : (lz) < (bL.length : Int) := of_decide_eq_true (by first | (with_reducible assumption) | assumption)
       obtain ⟨xv, PB, qn, qm⟩ := En vQ.out (lz) CX CU
       have ke := qm
       have kf := qn
       cases PB
       replace qn := (HB.out.cell (World.block_lt_of_cell? w _ qn)).trans qn
       replace qm := (HB.out.cell (World.block_lt_of_cell? w _ qm)).trans qm
       replace CX := eq_true CX
       replace CU := eq_true CU
       refine dd (n := 13) (S := fun w' => w'.cell? ⟨bZ, 0, none⟩ = some (.int .u32 bu) ∧ w'.cell? ⟨bZ, 1, none⟩ = some (.string bE) ∧ w'.cell? ⟨bZ, 2, none⟩ = some (.slice (some xw) bM.length fw) ∧ w'.cell? ⟨bZ, 3, none⟩ = some (.slice fb cN.length e9) ∧ w'.cell? ⟨bZ, 4, none⟩ = some (.slice (some xv) bL.length eI) ∧ w'.cell? (xw.add ((kQ)).toNat) = some (.int .i64 (rd bM (kQ))) ∧ w'.cell? (xv.add (((lz)).toNat * 2)) = some (.string ((fz bL (lz)).f0)) ∧ w'.cell? ⟨(xv.add (((lz)).toNat * 2)).block, (xv.add (((lz)).toNat * 2)).off + 1, none⟩ = some (.string ((fz bL (lz)).f1))) (ds := []) #[false, false, false, false, false, false, false, false, false, false, false, false, false] (by kernel_rfl) rfl rfl ⟨(aA a9.out 0).trans rfl, (aA a9.out 1).trans rfl, (aA a9.out 2).trans rfl, (aA a9.out 3).trans rfl, (aA a9.out 4).trans rfl, ((HB.out.cell (World.block_lt_of_cell? w _ kg)).trans kg), ((HB.out.cell (World.block_lt_of_cell? w _ kf)).trans kf), ((HB.out.cell (World.block_lt_of_cell? w _ ke)).trans ke)⟩ (fun hHeld => ?_); refine bQ et.tab3 et.bits3 (fun ae bA => ?_)
       generalize qg.drew = Sy at a9 eC HB qo qn qm hHeld ⊢
       refine pu 0 ae.out ?_
       refine pu 2 ae.out ?_
       refine pu 4 ae.out ?_
       refine pu 5 ae.out ?_
       refine take_ (i := 1) (N := some 21) (v := ?_) (a' := ?_) #[true, true, true, false, true, true, false, false, false, false, false, false, false] rfl rfl (rA ae.out bA.out (by kernel_rfl)) (fun _ _ _ h => h) (Or.inl ⟨by rfl, ?_⟩) hHeld ?_ ?_
       rotate_left
       ·rintro w' ⟨s0, s1, s2, s3, s4, s5, s6, s7⟩
        go_simp
        with_reducible rfl
       rotate_left
       ·simp only [Act.put, List.setIfInBounds_toArray, List.set_cons_zero, List.set_cons_succ, kB, lr]
        rfl
       refine take_ (i := 3) (N := some 23) (v := ?_) (a' := ?_) #[true, true, true, true, true, true, false, false, false, false, false, false, false] rfl rfl (rA ae.out bA.out (by kernel_rfl)) (fun _ _ _ h => h) (Or.inl ⟨by rfl, ?_⟩) hHeld ?_ ?_
       rotate_left
       ·rintro w' ⟨s0, s1, s2, s3, s4, s5, s6, s7⟩
        go_simp
        with_reducible rfl
       rotate_left
       ·simp only [Act.put, List.setIfInBounds_toArray, List.set_cons_zero, List.set_cons_succ, kB, lr]
        rfl
       refine pu 6 ae.out ?_
       refine take_ (i := 7) (N := some 27) (v := ?_) (a' := ?_) #[true, true, true, true, true, true, true, true, false, false, false, false, false] rfl rfl (rA ae.out bA.out (by kernel_rfl)) (fun _ _ _ h => h) (Or.inl ⟨by rfl, ?_⟩) hHeld ?_ ?_
       rotate_left
       ·rintro w' ⟨s0, s1, s2, s3, s4, s5, s6, s7⟩
        go_simp
        with_reducible rfl
       rotate_left
       ·simp only [Act.put, List.setIfInBounds_toArray, List.set_cons_zero, List.set_cons_succ, kB, lr]
        rfl
       refine pu 8 ae.out ?_
       refine pu 9 ae.out ?_
       refine take_ (i := 10) (N := some 30) (v := ?_) (a' := ?_) #[true, true, true, true, true, true, true, true, true, true, true, false, false] rfl rfl (rA ae.out bA.out (by kernel_rfl)) (fun _ _ _ h => h) (Or.inl ⟨by rfl, ?_⟩) hHeld ?_ ?_
       rotate_left
       ·rintro w' ⟨s0, s1, s2, s3, s4, s5, s6, s7⟩
        go_simp
        with_reducible rfl
       rotate_left
       ·simp only [Act.put, List.setIfInBounds_toArray, List.set_cons_zero, List.set_cons_succ, kB, lr]
        rfl
       refine ow 11 ae.out (fun K hK => ?_)
       have YP : Sy.cell? ⟨cX, 0, none⟩ = some (.string (⟨#[]⟩ : ByteArray)) := (aA eC.out 0).trans rfl
       have YG := aq eC.out 0
       have Un := ej.out
       have Up := jU.out
       have YO : Sy.cell? ⟨cX, 1, none⟩ = some (.string (⟨#[]⟩ : ByteArray)) := (aA eC.out 1).trans rfl
       have YF := aq eC.out 1
       have Um := ej.out
       have Uo := jU.out
       refine qN (w1 := ?_) (by rfl) rfl ?_ ?_
       rotate_left
       ·go_simp
        rfl
       refine hK.out _ _ ⟨((cell_far (p := ⟨cX, _, none⟩) ej.out _).trans (((cell_far (p := ⟨cX, _, none⟩) ej.out _).trans (hHeld.1)))), ((cell_far (p := ⟨cX, _, none⟩) ej.out _).trans (((cell_far (p := ⟨cX, _, none⟩) ej.out _).trans (hHeld.2.1)))), ((cell_far (p := ⟨cX, _, none⟩) ej.out _).trans (((cell_far (p := ⟨cX, _, none⟩) ej.out _).trans (hHeld.2.2.1)))), ((cell_far (p := ⟨cX, _, none⟩) ej.out _).trans (((cell_far (p := ⟨cX, _, none⟩) ej.out _).trans (hHeld.2.2.2.1)))), ((cell_far (p := ⟨cX, _, none⟩) ej.out _).trans (((cell_far (p := ⟨cX, _, none⟩) ej.out _).trans (hHeld.2.2.2.2.1)))), ((cell_far (p := ⟨cX, _, none⟩) (by first | exact Nat.ne_of_lt (Nat.lt_of_lt_of_le (by have := World.block_lt_of_cell? _ _ kg; first | rwa [ct] at this | exact this) fj.out) | (rw [ct]; exact Nat.ne_of_lt (Nat.lt_of_lt_of_le (by have := World.block_lt_of_cell? _ _ kg; first | rwa [ct] at this | exact this) fj.out)) | (show (Addr.add _ _).block ≠ _; rw [ct]; exact Nat.ne_of_lt (Nat.lt_of_lt_of_le (by have := World.block_lt_of_cell? _ _ kg; first | rwa [ct] at this | exact this) fj.out)) | (dsimp only; exact Nat.ne_of_lt (Nat.lt_of_lt_of_le (by have := World.block_lt_of_cell? _ _ kg; first | rwa [ct] at this | exact this) fj.out))) _).trans (((cell_far (p := ⟨cX, _, none⟩) (by first | exact Nat.ne_of_lt (Nat.lt_of_lt_of_le (by have := World.block_lt_of_cell? _ _ kg; first | rwa [ct] at this | exact this) fj.out) | (rw [ct]; exact Nat.ne_of_lt (Nat.lt_of_lt_of_le (by have := World.block_lt_of_cell? _ _ kg; first | rwa [ct] at this | exact this) fj.out)) | (show (Addr.add _ _).block ≠ _; rw [ct]; exact Nat.ne_of_lt (Nat.lt_of_lt_of_le (by have := World.block_lt_of_cell? _ _ kg; first | rwa [ct] at this | exact this) fj.out)) | (dsimp only; exact Nat.ne_of_lt (Nat.lt_of_lt_of_le (by have := World.block_lt_of_cell? _ _ kg; first | rwa [ct] at this | exact this) fj.out))) _).trans (hHeld.2.2.2.2.2.1)))), ((cell_far (p := ⟨cX, _, none⟩) (by first | exact Nat.ne_of_lt (Nat.lt_of_lt_of_le (by have := World.block_lt_of_cell? _ _ kf; first | rwa [ct] at this | exact this) fj.out) | (rw [ct]; exact Nat.ne_of_lt (Nat.lt_of_lt_of_le (by have := World.block_lt_of_cell? _ _ kf; first | rwa [ct] at this | exact this) fj.out)) | (show (Addr.add _ _).block ≠ _; rw [ct]; exact Nat.ne_of_lt (Nat.lt_of_lt_of_le (by have := World.block_lt_of_cell? _ _ kf; first | rwa [ct] at this | exact this) fj.out)) | (dsimp only; exact Nat.ne_of_lt (Nat.lt_of_lt_of_le (by have := World.block_lt_of_cell? _ _ kf; first | rwa [ct] at this | exact this) fj.out))) _).trans (((cell_far (p := ⟨cX, _, none⟩) (by first | exact Nat.ne_of_lt (Nat.lt_of_lt_of_le (by have := World.block_lt_of_cell? _ _ kf; first | rwa [ct] at this | exact this) fj.out) | (rw [ct]; exact Nat.ne_of_lt (Nat.lt_of_lt_of_le (by have := World.block_lt_of_cell? _ _ kf; first | rwa [ct] at this | exact this) fj.out)) | (show (Addr.add _ _).block ≠ _; rw [ct]; exact Nat.ne_of_lt (Nat.lt_of_lt_of_le (by have := World.block_lt_of_cell? _ _ kf; first | rwa [ct] at this | exact this) fj.out)) | (dsimp only; exact Nat.ne_of_lt (Nat.lt_of_lt_of_le (by have := World.block_lt_of_cell? _ _ kf; first | rwa [ct] at this | exact this) fj.out))) _).trans (hHeld.2.2.2.2.2.2.1)))), ((cell_far (p := ⟨cX, _, none⟩) (by first | exact Nat.ne_of_lt (Nat.lt_of_lt_of_le (by have := World.block_lt_of_cell? _ _ ke; first | rwa [ct] at this | exact this) fj.out) | (rw [ct]; exact Nat.ne_of_lt (Nat.lt_of_lt_of_le (by have := World.block_lt_of_cell? _ _ ke; first | rwa [ct] at this | exact this) fj.out)) | (show (Addr.add _ _).block ≠ _; rw [ct]; exact Nat.ne_of_lt (Nat.lt_of_lt_of_le (by have := World.block_lt_of_cell? _ _ ke; first | rwa [ct] at this | exact this) fj.out)) | (dsimp only; exact Nat.ne_of_lt (Nat.lt_of_lt_of_le (by have := World.block_lt_of_cell? _ _ ke; first | rwa [ct] at this | exact this) fj.out))) _).trans (((cell_far (p := ⟨cX, _, none⟩) (by first | exact Nat.ne_of_lt (Nat.lt_of_lt_of_le (by have := World.block_lt_of_cell? _ _ ke; first | rwa [ct] at this | exact this) fj.out) | (rw [ct]; exact Nat.ne_of_lt (Nat.lt_of_lt_of_le (by have := World.block_lt_of_cell? _ _ ke; first | rwa [ct] at this | exact this) fj.out)) | (show (Addr.add _ _).block ≠ _; rw [ct]; exact Nat.ne_of_lt (Nat.lt_of_lt_of_le (by have := World.block_lt_of_cell? _ _ ke; first | rwa [ct] at this | exact this) fj.out)) | (dsimp only; exact Nat.ne_of_lt (Nat.lt_of_lt_of_le (by have := World.block_lt_of_cell? _ _ ke; first | rwa [ct] at this | exact this) fj.out))) _).trans (hHeld.2.2.2.2.2.2.2))))⟩ (fun hHeld => ?_)
       clear hK K
       refine pu 12 ae.out ?_
       refine dn ae.out ?_
       try go_wp2
       refine bodyPost_ret (eX rfl _ _ cX 76 #[.string ((fz bL (lz)).f0), .string ((fz bL (lz)).f1)] (0, 0) _ rfl (by (with_reducible repeat (first | refine aI ?_ _ | refine aT ?_ | refine aJ ?_ _)); refine fa (cs := #[.string ((fz bL (lz)).f0), .string (⟨#[]⟩ : ByteArray)]) ?_ 1 _ rfl; (with_reducible repeat (first | refine aI ?_ _ | refine aT ?_ | refine aJ ?_ _)); refine fa (cs := #[.string (⟨#[]⟩ : ByteArray), .string (⟨#[]⟩ : ByteArray)]) ?_ 0 _ rfl; (with_reducible repeat (first | refine aI ?_ _ | refine aT ?_ | refine aJ ?_ _)); exact eC.out) Try.underlying76 rfl (by kernel_rfl)) rfl ?_
       exact ⟨by first | rfl | (simp [bz, bx] <;> rfl) | (simp only [← Dq, ← yR]; first | rfl | (simp [bz, bx] <;> rfl)) | (simp [*, bz, bx] <;> rfl), by repeat (first | (with_reducible first | exact HB.out | apply af | apply ab | apply ai | refine aN ?_ iy.out | refine aN ?_ oJ.out) | exact HB.out)⟩
      ·rw [if_neg wR] at H
       exact absurd H (by simp)
     ·rw [if_neg wS] at H
      exact absurd H (by simp)
   ·rw [if_neg c7] at H
    exact absurd H (by simp)
  ·rw [if_neg c6] at H
   exact absurd H (by simp)
 ·replace c4 := Bool.eq_false_iff.mpr c4
  subst c4
  have H1 : (some ((⟨#[]⟩ : ByteArray), (⟨#[]⟩ : ByteArray), false)) = some (r1, r2, r3) := by rw [if_neg (show ¬ (false = true) by decide)] at H; exact H
  clear H
  have H := H1
  clear H1
  simp only [Option.some.injEq, Prod.mk.injEq] at H
  obtain ⟨rfl, rfl, rfl⟩ := H
  go_enter Try.func62, Try.ntmps62
  go_wp2_with (first | ((with_reducible refine av (N := 2) rfl ?_); refine fi ?hg (N := 2) ?hd (cs := #[.int .u32 bu, .string bE, .slice fC bM.length fw, .slice fb cN.length e9, .slice eP bL.length eI]) (t := 62) ?hr ?_; (case hd => rfl); (case hg => rfl); (case hr => first | (go_simp; done) | (go_simp; rfl)); intro bZ hg Za hbox hb; have bV := ak (bg (by repeat (first | (with_reducible first | exact HB.out | apply af | apply ab | apply ai) | exact HB.out)) hb); have b4 := ak (hbox); have df := ak ((by rw [hg]; exact (bf (by repeat (first | (with_reducible first | exact HB.out | apply af | apply ab | apply ai) | exact HB.out))) : w.heap.size ≤ bZ)); have dP := ak ((by rw [hg]; exact (bf (by repeat (first | (with_reducible first | exact HB.out | apply af | apply ab | apply ai) | exact HB.out))) : w.heap.size ≤ bZ)); clear HB; have HB := bV; have a9 := b4; have Gj := df; have iy := dP; clear bV b4 df dP; clear hb hbox hg) | ((with_reducible refine av (N := 4) rfl ?_); refine fi ?hg (N := 4) ?hd (cs := #[.string (⟨#[]⟩ : ByteArray), .string (⟨#[]⟩ : ByteArray)]) (t := 76) ?hr ?_; (case hd => rfl); (case hg => rfl); (case hr => first | (go_simp; done) | (go_simp; rfl)); intro cX hg Hf hbox hb; have bV := ak (e7 (g := bZ) (o := .cells #[.int .u32 bu, .string bE, .slice fC bM.length fw, .slice fb cN.length e9, .slice eP bL.length eI] 62 (0, 0)) (by (with_reducible repeat (first | refine aI ?_ _ | refine aT ?_ | refine aJ ?_ _)); exact a9.out) hb); have b4 := ak (bg (by repeat (first | (with_reducible first | exact HB.out | apply af | apply ab | apply ai | refine aN ?_ iy.out) | exact HB.out)) hb); have df := ak (hbox); have dP := ak ((by rw [hg]; exact (bf (by repeat (first | (with_reducible first | exact HB.out | apply af | apply ab | apply ai | refine aN ?_ iy.out) | exact HB.out))) : w.heap.size ≤ cX)); have jr := ak ((by rw [hg]; exact (bf (by repeat (first | (with_reducible first | exact HB.out | apply af | apply ab | apply ai | refine aN ?_ iy.out) | exact HB.out))) : w.heap.size ≤ cX)); have mI := ak ((by rw [hg]; exact Nat.ne_of_lt (jZ (g := bZ) (o := .cells #[.int .u32 bu, .string bE, .slice fC bM.length fw, .slice fb cN.length e9, .slice eP bL.length eI] 62 (0, 0)) (by (with_reducible repeat (first | refine aI ?_ _ | refine aT ?_ | refine aJ ?_ _)); exact a9.out)) : bZ ≠ cX)); have qk := ak ((by rw [hg]; exact Nat.ne_of_gt (jZ (g := bZ) (o := .cells #[.int .u32 bu, .string bE, .slice fC bM.length fw, .slice fb cN.length e9, .slice eP bL.length eI] 62 (0, 0)) (by (with_reducible repeat (first | refine aI ?_ _ | refine aT ?_ | refine aJ ?_ _)); exact a9.out)) : cX ≠ bZ)); clear a9; clear HB; have a9 := bV; have HB := b4; have eC := df; have fj := dP; have oJ := jr; have ej := mI; have jU := qk; clear bV b4 df dP jr mI qk; clear hb hbox hg; have Yt := ej.out; have Yo := jU.out; have Vs : Hf.cell? ⟨bZ, 0, none⟩ = some (.int .u32 bu) := (aA a9.out 0).trans rfl; have Vr : Hf.cell? ⟨bZ, 1, none⟩ = some (.string bE) := (aA a9.out 1).trans rfl; have Vq : Hf.cell? ⟨bZ, 2, none⟩ = some (.slice fC bM.length fw) := (aA a9.out 2).trans rfl; have Vp : Hf.cell? ⟨bZ, 3, none⟩ = some (.slice fb cN.length e9) := (aA a9.out 3).trans rfl; have Vo : Hf.cell? ⟨bZ, 4, none⟩ = some (.slice eP bL.length eI) := (aA a9.out 4).trans rfl; have Uw := aq a9.out 0; have Uv := aq a9.out 1; have Uu := aq a9.out 2; have Ut := aq a9.out 3; have Us := aq a9.out 4) | ((with_reducible refine fo (f := 100) rfl ?_); refine jY (some 8) rfl rfl Try.func100 (by kernel_rfl) rfl #[.agg #[.int .u32 bu, .string bE, .slice fC bM.length fw, .slice fb cN.length e9, .slice eP bL.length eI], .int .u32 a1] rfl (by (try simp only [List.map_toArray, List.map_cons, List.map_nil]); first | done | rfl | (simp only [List.length_drop, List.length_take]; rfl)) ?_; (with_reducible refine (fM.calls bu bE _ _ bM _ _ cN _ _ bL a1 false _ ?side1 ?side2 ?side3 ?side4 ?side5 ?side6 A3.out).mono ?_); (case side1 => repeat (first | exact (Kd.C_below rh.out HB.out) | (with_reducible refine Kd.C_alloc ?_ _) | (with_reducible refine Kd.C_drewN ?_ _) | (with_reducible refine Kd.C_drew ?_))); (case side2 => exact Ay.out); (case side3 => repeat (first | exact (Kd.C_below xA.out HB.out) | (with_reducible refine Kd.C_alloc ?_ _) | (with_reducible refine Kd.C_drewN ?_ _) | (with_reducible refine Kd.C_drew ?_))); (case side4 => exact Ax.out); (case side5 => repeat (first | exact (Kd.C_below vQ.out HB.out) | (with_reducible refine Kd.C_alloc ?_ _) | (with_reducible refine Kd.C_drewN ?_ _) | (with_reducible refine Kd.C_drew ?_))); (case side6 => exact Aw.out); rintro e Sx ⟨rfl, hb⟩; refine ⟨_, rfl, ?_⟩; have bV := ak (e7 (g := bZ) (o := .cells #[.int .u32 bu, .string bE, .slice fC bM.length fw, .slice fb cN.length e9, .slice eP bL.length eI] 62 (0, 0)) (by (with_reducible repeat (first | refine aI ?_ _ | refine aT ?_ | refine aJ ?_ _)); exact a9.out) hb); have b4 := ak (e7 (g := cX) (o := .cells #[.string (⟨#[]⟩ : ByteArray), .string (⟨#[]⟩ : ByteArray)] 76 (0, 0)) (by (with_reducible repeat (first | refine aI ?_ _ | refine aT ?_ | refine aJ ?_ _)); exact eC.out) hb); have df := ak (bg (by repeat (first | (with_reducible first | exact HB.out | apply af | apply ab | apply ai | refine aN ?_ iy.out | refine aN ?_ oJ.out) | exact HB.out)) hb); clear a9; clear eC; clear HB; have a9 := bV; have eC := b4; have HB := df; clear bV b4 df; (try clear hb); (try clear dD); (try clear hk); (try clear hi); have Vn : Sx.cell? ⟨cX, 0, none⟩ = some (.string (⟨#[]⟩ : ByteArray)) := (aA eC.out 0).trans rfl; have Vm : Sx.cell? ⟨cX, 1, none⟩ = some (.string (⟨#[]⟩ : ByteArray)) := (aA eC.out 1).trans rfl; have Ur := aq eC.out 0; have Uq := aq eC.out 1))
  refine bodyPost_ret (eX rfl _ _ cX 76 #[.string (⟨#[]⟩ : ByteArray), .string (⟨#[]⟩ : ByteArray)] (0, 0) _ rfl (by (with_reducible repeat (first | refine aI ?_ _ | refine aT ?_ | refine aJ ?_ _)); refine fa (cs := #[.string (⟨#[]⟩ : ByteArray), .string (⟨#[]⟩ : ByteArray)]) ?_ 1 _ rfl; (with_reducible repeat (first | refine aI ?_ _ | refine aT ?_ | refine aJ ?_ _)); refine fa (cs := #[.string (⟨#[]⟩ : ByteArray), .string (⟨#[]⟩ : ByteArray)]) ?_ 0 _ rfl; (with_reducible repeat (first | refine aI ?_ _ | refine aT ?_ | refine aJ ?_ _)); exact eC.out) Try.underlying76 rfl (by kernel_rfl)) rfl ?_
  exact ⟨by first | rfl | (simp [bz, bx] <;> rfl) | (simp [*, bz, bx] <;> rfl), by repeat (first | (with_reducible first | exact HB.out | apply af | apply ab | apply ai | refine aN ?_ iy.out | refine aN ?_ oJ.out) | exact HB.out)⟩
end Go.Proofs.Ytemhalnhbgkbcaa.V
end

section
namespace Go.Proofs.Ytemhalnhbgkbcaa.V
def nI (b : Bk) (x : Int) : At := if jQ b x = true then lV b (x - b.addr).toNat else ⟨⟨#[]⟩, ⟨#[]⟩⟩
theorem OR (b : Bk) (M : List ln) (x : Int) (h0 : 0 ≤ x) (h1 : x < 4294967296) : fM.f b.addr b.aff b.slots b.free M x = some (decide (b9 x = b.addr)) := by
 unfold fM.f b9
 rw [Int.tmod_eq_emod_of_nonneg h0, Int.emod_eq_of_lt (by omega) (by omega)]
 congr 1
theorem Ts (b : Bk) (hl : b.slots.length = 64) (hs : fV b.slots) (hle : ∀ s ∈ b.slots, s ≤ (b.attrs.length : Int)) (M : List ln) (hM : M = b.attrs.map vc) (x : Int) (h0 : 0 ≤ x) (h1 : x < 4294967296) :
  et.f b.addr b.aff b.slots b.free M x = some ((nI b x).f0, (nI b x).f1, jQ b x) := by
 have hml : M.length = b.attrs.length := by rw [hM, List.length_map]
 unfold et.f
 rw [OR b M x h0 h1, Option.bind_some]
 by_cases hf : b9 x = b.addr
 ·have hj : x % 64 = x - b.addr := by unfold b9 at hf; omega
  obtain ⟨j, qp⟩ : ∃ j : Nat, x - b.addr = (j : Int) := ⟨(x - b.addr).toNat, by omega⟩
  have r9 : j < b.slots.length := by omega
  rw [decide_eq_true hf, if_pos rfl, Int.tmod_eq_emod_of_nonneg h0, hj, qp, if_pos (by omega), if_pos (by omega)]
  have hrd : rd b.slots (j : Int) = b.slots[j] := by simp [rd, List.getD, r9]
  have hgd : b.slots.getD j 0 = b.slots[j] := by simp [List.getD, r9]
  have hh : jQ b x = (b.slots[j] != 0) := by
   unfold jQ
   rw [decide_eq_true hf, qp, Int.toNat_natCast, hgd, Bool.true_and]
  have hms := hs _ (List.getElem_mem r9)
  have Dn := hle _ (List.getElem_mem r9)
  rw [hrd]
  by_cases hz : b.slots[j] = 0
  ·rw [if_pos hz]
   have e : jQ b x = false := by rw [hh, hz]; rfl
   unfold nI
   rw [e]
   rfl
  ·rw [if_neg hz]
   have e : jQ b x = true := by rw [hh]; simpa using hz
   obtain ⟨m, hm⟩ : ∃ m : Nat, b.slots[j] = (m : Int) + 1 := ⟨(b.slots[j]).toNat - 1, by omega⟩
   have hw : wrap64 (b.slots[j] - 1) = (m : Int) := by rw [hm, ik _ (by omega) (by omega)]; omega
   have hmm : m < b.attrs.length := by omega
   rw [hw, if_pos (by omega), if_pos (by omega)]
   unfold nI
   rw [e, if_pos rfl, qp, Int.toNat_natCast]
   have FF : lV b j = gh b.attrs m := by
    unfold lV
    rw [hgd, hm]
    congr 1
    omega
   have hx : fz M (m : Int) = vc (gh b.attrs m) := by
    rw [hM]
    show fz (b.attrs.map vc) (m : Int) = vc (cI b.attrs (m : Int))
    simp [fz, cI, List.getD, hmm]
   rw [FF, hx]
   rfl
 ·have e : jQ b x = false := by unfold jQ; rw [decide_eq_false hf]; rfl
  rw [decide_eq_false hf, if_neg (by decide)]
  unfold nI
  rw [e]
  rfl
theorem rk (b : Bk) (hl : b.slots.length = 64) (hs : fV b.slots) (hle : ∀ s ∈ b.slots, s ≤ (b.attrs.length : Int)) (M : List ln) (As Af Aa : Option Addr) (cs cf ca : Nat) (w : World) (hr : RbR w b M As cs Af cf Aa ca) (x : Int) (h0 : 0 ≤ x) (h1 : x < 4294967296) :
  Calls Try.prog 62 #[.agg (dj b.addr b.aff (.slice As b.slots.length cs) (.slice Af b.free.length cf) (.slice Aa M.length ca)).toArray, .int .u32 x] w fun e w' => e = .returned (.tuple #[.agg #[.string (nI b x).f0, .string (nI b x).f1], .bool (jQ b x)]) ∧ Below w.heap.size w w' :=
 et.calls _ _ _ _ _ _ _ _ _ _ _ x _ _ _ w hr.sr hr.sc hr.fr hr.fc hr.ar hr.ac (Ts b hl hs hle M hr.m x h0 h1)
end Go.Proofs.Ytemhalnhbgkbcaa.V
end

section
namespace Go.Proofs.Ytemhalnhbgkbcaa.V
def m3 (b : Bk) (n : Int) (a : At) : Bool := dC b && (ep a && decide (0 ≤ n))
theorem jx (a : At) : ∀ u ∈ [Value.string a.f0, .string a.f1], u.oneCell' = true := by
 intro u hu
 simp only [List.mem_cons, List.not_mem_nil, or_false] at hu
 rcases hu with rfl | rfl <;> rfl
set_option maxHeartbeats 8000000 in
set_option maxRecDepth 100000 in
theorem I5 (b : Bk) (hk : BkOk b) (n : Int) (a : At) (hno : m3 b n a = false) (v : Value) (w : World) (h : iz w v b) :
  Calls Try.prog 49 #[v, .int .i64 n, eT a] w fun e w' => ∃ v' vo, e = .returned (.tuple #[v', vo, .int .i64 1]) ∧ ey w' w.heap.size v' km ∧ Kd.R (Kd.int .u32) 46 w' w.heap.size (fun _ => True) vo [] ∧ Below w.heap.size w w' := by
 obtain ⟨A, c, A', c', rfl, hr⟩ := h
 have HL := ak hr.l64
 have HR := ak hr
 have HK := ak hk
 clear hr hk
 have ag := ak (Below.refl w.heap.size w)
 unfold m3 at hno
 cases hrt : dC b with
 | false =>
  have HRT := ak hrt
  clear hrt hno
  go_enter Try.func49, Try.ntmps49
  go_wp2_with (first
   | (refine aD rfl 57 (.tmp 0) rfl _ rfl ?_; intro gX W1 J aa I; have cg := ge ag J; have ao := ak (ag.out.trans (I.mono ag.out.size)); have aj := ak (aa); clear J aa I ag)
   | (refine aD rfl 85 (.tmp 2) rfl _ rfl ?_; intro gA W2 J aa I; have ld := ge ao J; have eO := ne aj J; have ay := mv I ao; have aw := mv I aj; have cr := ak (aa); clear J aa I ao aj)
   | (refine au (some 6) rfl rfl 57 rfl a6 bT ?_; intro gZ W3 J aa I; have cb := ge ay J; have aG := ne aw J; have gD := ne cr J; have aE := mv I ay; have aC := mv I aw; have dm := mv I cr; have cd := ak (aa); clear J aa I ay aw cr)
   | ((with_reducible refine av (N := 12) rfl ?_); refine az rfl 57 (.tmp 3) rfl gX rfl _ _ _ aC.out Try.underlying57 rfl 68 (by kernel_rfl) (ah _ _ _ _ _ HL.out) ?_)
   | (go_at_call 48; refine (ee b HK.out _ _ ⟨A, c, A', c', rfl, HR.out.below aE.out⟩).mono ?_; rintro e W4 ⟨rfl, I⟩; rw [HRT.out]; have a8 := mv I aE; have aY := mv I aC; have dK := mv I dm; have bd := mv I cd; clear I aE aC dm cd)
   | (refine fE rfl 57 #[] rfl a6 kZ ?_)
   | (refine aK rfl 57 (.tmp 6) (.tmp 24) rfl gZ a6 rfl rfl 57 _ bd.out 68 (by kernel_rfl) rfl rfl ij ?_; intro W5 aa J; have bj := gb a8 cb J; have bc := gn aY aG J; have eZ := gx dK bd J; have bI := ak (aa); clear aa J a8 aY dK bd))
  exact bodyPost_ret (je rfl _ _ gZ 57 _ (0, 0) _ rfl bI.out Try.underlying57 rfl (by simp only [List.size_toArray]; exact ch _ rfl)) rfl ⟨_, _, rfl, mr _ _, Kd.R_nil _ _ _ _ _, bj.out⟩
 | true =>
  have HRT := ak hrt
  cases hm : ep a with
  | false =>
   have HMY := ak hm
   clear hrt hno hm
   go_enter Try.func49, Try.ntmps49
   go_wp2_with (first
    | (refine aD rfl 57 (.tmp 0) rfl _ rfl ?_; intro gX W1 J aa I; have cg := ge ag J; have ao := ak (ag.out.trans (I.mono ag.out.size)); have aj := ak (aa); clear J aa I ag)
    | (refine aD rfl 85 (.tmp 2) rfl _ rfl ?_; intro gA W2 J aa I; have ld := ge ao J; have eO := ne aj J; have ay := mv I ao; have aw := mv I aj; have cr := ak (aa); clear J aa I ao aj)
    | (refine au (some 6) rfl rfl 57 rfl a6 bT ?_; intro gZ W3 J aa I; have cb := ge ay J; have aG := ne aw J; have gD := ne cr J; have aE := mv I ay; have aC := mv I aw; have dm := mv I cr; have cd := ak (aa); clear J aa I ay aw cr)
    | ((with_reducible refine av (N := 12) rfl ?_); refine az rfl 57 (.tmp 3) rfl gX rfl _ _ _ aC.out Try.underlying57 rfl 68 (by kernel_rfl) (ah _ _ _ _ _ HL.out) ?_)
    | (go_at_call 48; refine (ee b HK.out _ _ ⟨A, c, A', c', rfl, HR.out.below aE.out⟩).mono ?_; rintro e W4 ⟨rfl, I⟩; rw [HRT.out]; have a8 := mv I aE; have aY := mv I aC; have dK := mv I dm; have bd := mv I cd; clear I aE aC dm cd)
    | ((with_reducible refine av (N := 16) rfl ?_); refine eK (by rfl) ?_; refine az rfl 85 (.tmp 5) rfl gA rfl _ _ _ dK.out Try.underlying85 rfl 2 (by kernel_rfl) rfl ?_)
    | (go_at_call 88; refine (jR a _).mono ?_; rintro e W5 ⟨rfl, I⟩; rw [HMY.out]; have bj := mv I a8; have bc := mv I aY; have eZ := mv I dK; have bI := mv I bd; clear I a8 aY dK bd)
    | (refine fE rfl 57 #[] rfl a6 kZ ?_)
    | (refine aK rfl 57 (.tmp 6) (.tmp 24) rfl gZ a6 rfl rfl 57 _ bI.out 68 (by kernel_rfl) rfl rfl ij ?_; intro W6 aa J; have bO := gb bj cb J; have bl := gn bc aG J; have fK := gx eZ bI J; have bW := ak (aa); clear aa J bj bc eZ bI))
   exact bodyPost_ret (je rfl _ _ gZ 57 _ (0, 0) _ rfl bW.out Try.underlying57 rfl (by simp only [List.size_toArray]; exact ch _ rfl)) rfl ⟨_, _, rfl, mr _ _, Kd.R_nil _ _ _ _ _, bO.out⟩
  | true =>
   have HMY := ak hm
   rw [hrt, hm] at hno
   have hneg : n < 0 := by
    simp at hno
    omega
   have hd : decide (n < 0) = true := decide_eq_true hneg
   clear hrt hno hm
   go_enter Try.func49, Try.ntmps49
   go_wp2_with (first
    | (refine aD rfl 57 (.tmp 0) rfl _ rfl ?_; intro gX W1 J aa I; have cg := ge ag J; have ao := ak (ag.out.trans (I.mono ag.out.size)); have aj := ak (aa); clear J aa I ag)
    | (refine aD rfl 85 (.tmp 2) rfl _ rfl ?_; intro gA W2 J aa I; have ld := ge ao J; have eO := ne aj J; have ay := mv I ao; have aw := mv I aj; have cr := ak (aa); clear J aa I ao aj)
    | (refine au (some 6) rfl rfl 57 rfl a6 bT ?_; intro gZ W3 J aa I; have cb := ge ay J; have aG := ne aw J; have gD := ne cr J; have aE := mv I ay; have aC := mv I aw; have dm := mv I cr; have cd := ak (aa); clear J aa I ay aw cr)
    | ((with_reducible refine av (N := 12) rfl ?_); refine az rfl 57 (.tmp 3) rfl gX rfl _ _ _ aC.out Try.underlying57 rfl 68 (by kernel_rfl) (ah _ _ _ _ _ HL.out) ?_)
    | (go_at_call 48; refine (ee b HK.out _ _ ⟨A, c, A', c', rfl, HR.out.below aE.out⟩).mono ?_; rintro e W4 ⟨rfl, I⟩; rw [HRT.out]; have a8 := mv I aE; have aY := mv I aC; have dK := mv I dm; have bd := mv I cd; clear I aE aC dm cd)
    | ((with_reducible refine av (N := 16) rfl ?_); refine eK (by rfl) ?_; refine az rfl 85 (.tmp 5) rfl gA rfl _ _ _ dK.out Try.underlying85 rfl 2 (by kernel_rfl) rfl ?_)
    | (go_at_call 88; refine (jR a _).mono ?_; rintro e W5 ⟨rfl, I⟩; rw [HMY.out]; have bj := mv I a8; have bc := mv I aY; have eZ := mv I dK; have bI := mv I bd; clear I a8 aY dK bd)
    | (refine fE rfl 57 #[] rfl a6 kZ ?_)
    | (refine aK rfl 57 (.tmp 6) (.tmp 24) rfl gZ a6 rfl rfl 57 _ bI.out 68 (by kernel_rfl) rfl rfl ij ?_; intro W6 aa J; have bO := gb bj cb J; have bl := gn bc aG J; have fK := gx eZ bI J; have bW := ak (aa); clear aa J bj bc eZ bI))
   exact bodyPost_ret (je rfl _ _ gZ 57 _ (0, 0) _ rfl bW.out Try.underlying57 rfl (by simp only [List.size_toArray]; exact ch _ rfl)) rfl ⟨_, _, rfl, mr _ _, Kd.R_nil _ _ _ _ _, bO.out⟩
end Go.Proofs.Ytemhalnhbgkbcaa.V
end

section
namespace Go.Proofs.Ytemhalnhbgkbcaa.V
theorem wP (xs : List Int) (A : Option Addr) (c m : Nat) (w : World) (hr : Kd.C (Kd.int .u8) w A xs.length xs) (hm : m ≤ xs.length) (hc : xs.length ≤ c) (hl : xs.length ≤ 4294967296) (A' : Option Addr) (hA : A' = if c = m then A else A.map (fun x => x.add m)) :
  Calls Try.prog 91 #[.slice A' (xs.length - m) (c - m)] w fun e w' => ∃ v, e = .returned v ∧ Kd.R (Kd.int .u8) 5 w' w.heap.size (fun _ => True) v (xs.drop m) ∧ Below w.heap.size w w' := by
 subst hA
 have h := Kd.C_drop hr hm hc
 have hld : (xs.drop m).length = xs.length - m := List.length_drop
 have h2 := Bl (xs.drop m) _ (c - m) w h (by omega) (by omega)
 rw [hld] at h2
 have e : (A.map fun x => x.add (m * (Kd.int .u8).sz)) = A.map fun x => x.add m := by
  cases A with
  | none => rfl
  | some ad => show some (ad.add (m * 1)) = some (ad.add m); rw [Nat.mul_one]
 rw [e] at h2
 exact h2
theorem jL : (Try.prog.info? 46).map (fun i => (i.zero, i.size, i.bytes)) = some (some (.int .u32 0), 1, 4) := by kernel_rfl
set_option maxHeartbeats 16000000 in
set_option maxRecDepth 100000 in
theorem Fi (b : Bk) (hk : BkOk b) (m : Nat) (qI : m < b.free.length) (a : At) (hrt : dC b = true) (hm : ep a = true) (v : Value) (w : World) (h : iz w v b) :
  Calls Try.prog 49 #[v, .int .i64 (m : Int), eT a] w fun e w' => ∃ v' vo, e = .returned (.tuple #[v', vo, .int .i64 0]) ∧ ey w' w.heap.size v' (fq b m a) ∧ Kd.R (Kd.int .u32) 46 w' w.heap.size (fun _ => True) vo (fJ b m) ∧ Below w.heap.size w w' := by
 obtain ⟨A, c, A', c', rfl, hr⟩ := h
 have hp := im hrt
 have hsum := hp.sum_le hk hr.l64
 have HL := ak hr.l64
 have HR := ak hr
 have HK := ak hk
 have HRT := ak hrt
 have HMY := ak hm
 have HP := ak hp
 have hfl : b.free.length ≤ 64 := by omega
 have HCP := ak (m0 b (by omega) (by omega))
 have ag := ak (Below.refl w.heap.size w)
 have HSUM := ak hsum
 clear hr hk hrt hm hp hsum
 go_enter Try.func49, Try.ntmps49
 go_wp2_with (first
  | (refine aD rfl 57 (.tmp 0) rfl _ rfl ?_; intro gX W1 J aa I; have cg := ge ag J; have ao := ak (ag.out.trans (I.mono ag.out.size)); have aj := ak (aa); clear J aa I ag)
  | (refine aD rfl 85 (.tmp 2) rfl _ rfl ?_; intro gA W2 J aa I; have ld := ge ao J; have eO := ne aj J; have ay := mv I ao; have aw := mv I aj; have cr := ak (aa); clear J aa I ao aj)
  | (refine au (some 6) rfl rfl 57 rfl a6 bT ?_; intro gZ W3 J aa I; have cb := ge ay J; have aG := ne aw J; have gD := ne cr J; have aE := mv I ay; have aC := mv I aw; have dm := mv I cr; have cd := ak (aa); clear J aa I ay aw cr)
  | ((with_reducible refine av (N := 12) rfl ?_); refine az rfl 57 (.tmp 3) rfl gX rfl _ _ _ aC.out Try.underlying57 rfl 68 (by kernel_rfl) (ah _ _ _ _ _ HL.out) ?_)
  | (go_at_call 48; refine (ee b HK.out _ _ ⟨A, c, A', c', rfl, HR.out.below aE.out⟩).mono ?_; rintro e W4 ⟨rfl, I⟩; rw [HRT.out]; have a8 := mv I aE; have aY := mv I aC; have dK := mv I dm; have bd := mv I cd; clear I aE aC dm cd)
  | ((with_reducible refine av (N := 16) rfl ?_); refine eK (by rfl) ?_; refine az rfl 85 (.tmp 5) rfl gA rfl _ _ _ dK.out Try.underlying85 rfl 2 (by kernel_rfl) rfl ?_)
  | (go_at_call 88; refine (jR a _).mono ?_; rintro e W5 ⟨rfl, I⟩; rw [HMY.out]; have bj := mv I a8; have bc := mv I aY; have eZ := mv I dK; have bI := mv I bd; clear I a8 aY dK bd)
  | ((with_reducible refine av (N := 25) rfl ?_); refine az rfl 57 (.tmp 3) rfl gX rfl _ _ _ bc.out Try.underlying57 rfl 68 (by kernel_rfl) (ah _ _ _ _ _ HL.out) ?_)
  | (go_at_call 89; refine (HCP.out _ _ ⟨A, c, A', c', rfl, HR.out.below bj.out⟩).mono ?_; rintro e W6 ⟨v5, rfl, ou, I⟩; obtain ⟨wM, vf, va, rfl, lU, mM⟩ := ou; obtain ⟨Af, cf, rfl⟩ := Kd.R_slice lU; obtain ⟨Aa, ca, rfl⟩ := Kd.R_slice mM; have HSZ := ak bj.out.size; have vP := ak (show gX < W5.heap.size from bc.out.lt); have oV := ak (show gA < W5.heap.size from eZ.out.lt); have oU := ak (show gZ < W5.heap.size from bI.out.lt); have bO := mv I bj; have bl := mv I bc; have fK := mv I eZ; have bW := mv I bI; have cU := ak (lU); have dt := ak (mM); have cZ := ak (I.size); clear wM lU mM I bj bc eZ bI)
  | (refine aK rfl 57 (.tmp 3) (.tmp 26) rfl gX (aU b.addr b.aff b.slots (.slice Af b.free.length cf) (.slice Aa b.attrs.length ca)) rfl rfl 57 _ bl.out 68 (by kernel_rfl) (ah _ _ _ _ _ HL.out) (ah _ _ _ _ _ HL.out) (b7 _ _ _ _ _ rfl rfl) ?_; intro W7 aa J; have ew := gb bO cg J; have dI := ak (OC.stored HL.out bl.out aa cU.out dt.out J); have kI := gx fK bl J; have dz := gm bW aG J; have fu := gr cU bl J; have j7 := gr dt bl J; have gE := ak (Nat.le_trans cZ.out J.size); have nN := aa.cell 66 _ (fI _ _ _ _ _ HL.out); have Pd : b.free.length ≤ cf := (Kd.R_reads' fu.out).2.1; clear aa J bO bl fK bW cU dt cZ))
 clear nN
 obtain ⟨b1, bq⟩ : ∃ b1, b1 = W5.heap.size := ⟨_, rfl⟩
 rw [← bq] at dI fu gE vP oV oU HSZ
 have bP := ak (show w.heap.size ≤ b1 from HSZ.out)
 clear bq HSZ
 have hmf : m ≤ b.free.length := by omega
 go_loopw [9, 11, 36] (fun o _ i W => ∃ k : Nat, k ≤ m ∧ i = .int .i64 k ∧ Aside0 (OC W b1 gX (ec b k a)) ∧ Aside0 (Kd.R (Kd.int .u32) 46 W w.heap.size (fun _ => True) o (fJ b k)) ∧ Aside0 (aH W gA [.string a.f0, .string a.f1] 85) ∧ Aside0 (aH W gZ a6 57) ∧ Aside0 (Kd.R (Kd.int .u8) 5 W b1 (fun _ => True) (.slice Af b.free.length cf) b.free) ∧ Aside0 (b1 ≤ W.heap.size) ∧ Aside0 (Below w.heap.size w W)) (fun _ _ i _ => m - (intOf i).toNat)
 case atStart => exact ⟨0, by omega, rfl, dI, ⟨Kd.R_nil _ _ _ _ _⟩, kI, dz, fu, gE, ew⟩
 case round =>
  clear ew dI kI dz fu gE
  obtain ⟨k, hk, rfl, aM, bR, hH, bC, bw, aV, ag⟩ := hrel
  obtain ⟨W, rfl⟩ : ∃ W : World, W = wr := ⟨_, rfl⟩
  by_cases hkn : k < m
  ·have hkb : decide ((k : Int) < (m : Int)) = true := by simp; omega
   have hkf : k < b.free.length := by omega
   obtain ⟨ad, eA, hx⟩ := Kd.at_int (Kd.R_reads' bw.out).2.2 k (by omega) (by omega)
   cases eA
   rw [Int.toNat_natCast] at hx
   obtain ⟨j, hj⟩ : ∃ j : Nat, rd b.free k = (j : Int) := ⟨(rd b.free k).toNat, by have := (j2 HK.out.f8 k).1; omega⟩
   have qp : j < 64 := by
    have h1 := HP.out.fr k hkf
    unfold jw at h1
    rw [Bool.or_eq_false_iff, decide_eq_false_iff_not] at h1
    have := h1.1
    omega
   rw [hj] at hx
   have HSC := ak (show ec b (k + 1) a = ⟨(ec b k a).addr, (ec b k a).aff, (ec b k a).slots.set (rd b.free k).toNat (eQ (ec b k a).attrs a : Nat), (ec b k a).free, eu (ec b k a).attrs a⟩ from qb b k a hkf)
   have HSO := ak (qa b k hkf)
   rw [hj] at HSC HSO
   rw [Int.toNat_natCast] at HSC
   have hol := iU b k (by omega)
   have HOL := ak hol
   have HAL := ak (show (ec b k a).attrs.length ≤ 100 by
    have := qZ b.attrs a
    have := HSUM.out
    show (if k = 0 then b.attrs else eu b.attrs a).length ≤ 100
    split <;> omega)
   obtain ⟨bm, hbm⟩ : ∃ bm, bm = ec b k a := ⟨_, rfl⟩
   have hadr : bm.addr = b.addr := by rw [hbm]; rfl
   have HADR := ak hadr
   clear hadr
   rw [← hbm] at aM HSC HAL
   obtain ⟨oo, hoo⟩ : ∃ oo, oo = fJ b k := ⟨_, rfl⟩
   obtain ⟨o1, eS⟩ : ∃ o1, o1 = fJ b (k + 1) := ⟨_, rfl⟩
   rw [← hoo] at bR HSO HOL
   rw [← eS, ← HADR.out] at HSO
   have ix := ak eS
   have DG : 0 ≤ bm.addr := by rw [HADR.out]; exact HK.out.a0
   have lW : bm.addr + 64 ≤ 4294967296 := by
    rw [HADR.out]
    have h1 := HP.out.first
    have h2 := HK.out.a1
    unfold b9 at h1
    omega
   clear hol hj hbm hoo eS
   obtain ⟨Ao, co, rfl⟩ := Kd.R_slice bR.out
   go_wp2_with (first
    | ((with_reducible refine av (N := 41) rfl ?_); refine az rfl 85 (.tmp 5) rfl gA rfl _ _ _ hH.out Try.underlying85 rfl 2 (by kernel_rfl) rfl ?_)
    | (go_at_call 90; refine (qP bm HAL.out a gX b1 w.heap.size _ cg.out bP.out aV.out aM.out).mono ?_; rintro e W1 ⟨rfl, aW, I, dc⟩; obtain ⟨QT, PN, QS, PM, js, _, _⟩ := aM.out.open; have aj := ak (aW); have cG := ak (Kd.R_added bR.out js (by decide) dc); have jV := ak (aH.added hH.out (Ne.symm eO.out) oV.out dc); have bU := ak (aH.added bC.out (Ne.symm aG.out) oU.out dc); have bp := ak (Kd.R_added bw.out js (by decide) dc); have bb := ak (Nat.le_trans aV.out dc.1); have ao := ak (ag.out.trans I); have nN := (show OC W1 b1 gX ⟨bm.addr, bm.aff, bm.slots, bm.free, eu bm.attrs a⟩ from aj.out).slotCell j qp; have DB := aj.out.frozen (2 + j); have DE := aj.out.addrCell; clear aW I dc js aM bR hH bC bw aV ag)
    | ((with_reducible refine bG (b := .append) (xs := #[.tmp 45, .tmp 51]) rfl ?_); at_builtin; clear nN DB DE; obtain ⟨_, _, _, _, js, _, _⟩ := aj.out.open; generalize bY : W1.setCell ⟨gX, 2 + j, none⟩ (.int .u8 (eQ bm.attrs a : Nat)) = W2; have nJ : W1.heap.size = W2.heap.size := (by rw [← bY]; simp [World.setCell]); rw [nJ]; clear nJ; have J : W1.grownBy W2 (some gX) := (by rw [← bY]; exact bs _ _ _ _); have aw := ak (OC.slot aj.out j qp (eQ bm.attrs a : Nat)); have cJ := ak (bD cG.out js (by decide) J); have cr := gm jV eO J; have cD := gm bU aG J; have bX := ak (bD bp.out js (by decide) J); have bK := ak (Nat.le_trans bb.out J.size); have ay := gb ao cg J; rw [bY] at aw; clear bY J aj cG jV bU bp bb ao js; refine Kd.R_append (Kd.int .u32) (w0 := w) w.heap.size rfl (.tmp 45) (.tmp 51) 77 46 (.int .u32 0) 4 rfl Try.underlying77 jL rfl (by decide) (by omega) _ oo (bm.addr + (j : Int)) [.int .u32 (bm.addr + (j : Int))] (fun _ => True) (fun _ => False) rfl rfl rfl (fun _ hk => hk.elim) (fun _ _ => trivial) cJ.out ay.out ay.out.size (by have := HOL.out; omega) ?_; intro v_ W3 aW I J fP; rw [← HSO.out] at aW; have aC := ak (OC.row aw.out cJ.out (by decide) (by decide) J); have fg := ak (aW); have dm := ak (cr.out.grown J (cr.out.ne_row cJ.out (by decide))); have cd := ak (cD.out.grown J (cD.out.ne_row cJ.out (by decide))); have cy := ak (Kd.R_over bX.out cJ.out (by decide) J); have b6 := ak (Nat.le_trans bK.out J.size); have aE := ak (I); obtain ⟨AO, cO, rfl⟩ := Kd.R_slice aW; clear aW I J fP aw cJ cr cD bX bK ay))
   go_roundw
   case rel => exact ⟨k + 1, by omega, by go_num, ⟨by rw [HSC.out]; exact aC.out⟩, ⟨by rw [← ix.out]; exact fg.out⟩, dm, cd, cy, b6, aE⟩
   case measure => simp [intOf]; omega
  ·obtain rfl : k = m := by omega
   have hkb : decide ((k : Int) < (k : Int)) = false := by simp
   have hol := iU b k (by omega)
   obtain ⟨oo, hoo⟩ : ∃ oo, oo = fJ b k := ⟨_, rfl⟩
   obtain ⟨bm, hbm⟩ : ∃ bm, bm = ec b k a := ⟨_, rfl⟩
   rw [← hoo] at bR hol
   rw [← hbm] at aM
   have HOO := ak hoo
   have hfr : bm.free = b.free := by rw [hbm]; rfl
   have HBK := ak (show fq b k a = ⟨bm.addr, bm.aff, bm.slots, bm.free.drop oo.length, bm.attrs⟩ by rw [hol, hbm]; rfl)
   obtain ⟨Ao, co, rfl⟩ := Kd.R_slice bR.out
   obtain ⟨A1, c1, A2, c2, hxx, mL, lW⟩ := aM.out.open
   have hqa : bm.free.length ≤ c1 := (Kd.R_reads' mL).2.1
   have hqb : oo.length ≤ bm.free.length := by rw [hfr, hol]; omega
   have hqc : bm.free.length ≤ 64 := by rw [hfr]; omega
   have HQ := ak (Kd.R_reads' mL).2.2
   have kz := ak lW
   have HXX := ak hxx
   have HL := ak aM.out.l64
   have HWS := ak ag.out.size
   have nN := hxx.cell 66 _ (fI _ _ _ _ _ HL.out)
   have HCD := ak (fun w' (h : Kd.C (Kd.int .u8) w' A1 bm.free.length bm.free) => wP bm.free A1 c1 oo.length w' h hqb hqa (by omega) _ rfl)
   have hne : ¬ c1 = oo.length := by rw [hol]; rw [hfr] at hqa; omega
   rw [if_neg hne] at HCD
   obtain ⟨fd, hfd⟩ : ∃ fd, fd = bm.free.drop oo.length := ⟨_, rfl⟩
   rw [← hfd] at HCD HBK
   clear hxx mL lW hol hoo hbm hfr hfd
   go_wp2_with (first
    | (go_at_call 91; refine (HCD.out _ HQ.out).mono ?_; rintro e W1 ⟨Sz, rfl, dQ, I⟩; clear nN; obtain ⟨xm, wQ, rfl⟩ := Kd.R_slice dQ; have aj := mv I HXX; have cG := mv I bR; have bU := mv I bC; have bb := ak (Nat.le_trans aV.out I.size); have ao := ak (ag.out.trans (I.mono ag.out.size)); have dg := mv I kz; have xh := ak (dQ); have sf := aj.out.cell 66 _ (fI _ _ _ _ _ HL.out); have Dj := aj.out.frozen 66; clear dQ I HXX bR bC aV ag kz)
    | (generalize bY : W1.setCell ⟨gX, 66, none⟩ (.slice xm fd.length wQ) = W2; have J : W1.grownBy W2 (some gX) := (by rw [← bY]; exact bs _ _ _ _); have aw := ak (aj.out.set 66 (.slice xm fd.length wQ)); have cJ := gr cG aj J; have cD := gm bU aG J; have bK := ak (Nat.le_trans bb.out J.size); have ay := gb ao cg J; have di := gr dg aj J; have xg := gr xh aj J; rw [bY] at aw; clear bY J aj cG bU bb ao dg xh sf Dj; rw [k8 _ _ _ _ _ HL.out] at aw; refine az rfl 57 (.tmp 3) rfl gX rfl _ _ _ aw.out Try.underlying57 rfl 68 (by kernel_rfl) (ah _ _ _ _ _ HL.out) ?_)
    | (refine aK rfl 57 (.tmp 6) (.tmp 61) rfl gZ (aU bm.addr bm.aff bm.slots (.slice xm fd.length wQ) (.slice A2 bm.attrs.length c2)) rfl rfl 57 _ cD.out 68 (by kernel_rfl) (ah _ _ _ _ _ HL.out) rfl (b7 _ _ _ _ _ rfl rfl) ?_; intro W3 aa J; have aC := gn aw aG J; have fg := gr cJ cD J; have cd := ak (aa); have b6 := ak (Nat.le_trans bK.out J.size); have aE := gb ay cb J; have dS := gr di cD J; have xf := gr xg cD J; clear aa J aw cJ cD bK ay di xg))
   refine bodyPost_ret (je rfl _ _ gZ 57 _ (0, 0) _ rfl cd.out Try.underlying57 rfl (by simp only [List.size_toArray]; exact ch _ (ah _ _ _ _ _ HL.out))) rfl ⟨_, _, rfl, ?_, ?_, aE.out⟩
   ·rw [HBK.out]; exact ⟨HL.out, _, _, rfl, Kd.R_lower xf.out HWS.out, Kd.R_lower dS.out bP.out⟩
   ·rw [← HOO.out]; exact fg.out
set_option maxHeartbeats 16000000 in
set_option maxRecDepth 100000 in
theorem GY (b : Bk) (hk : BkOk b) (n : Int) (hn : (b.free.length : Int) < n) (FE : n < 9223372036854775808) (a : At) (hrt : dC b = true) (hm : ep a = true) (v : Value) (w : World) (h : iz w v b) :
  Calls Try.prog 49 #[v, .int .i64 n, eT a] w fun e w' => ∃ v' vo, e = .returned (.tuple #[v', vo, .int .i64 0]) ∧ ey w' w.heap.size v' (fq b b.free.length a) ∧ Kd.R (Kd.int .u32) 46 w' w.heap.size (fun _ => True) vo (fJ b b.free.length) ∧ Below w.heap.size w w' := by
 obtain ⟨A, c, A', c', rfl, hr⟩ := h
 have hp := im hrt
 have hsum := hp.sum_le hk hr.l64
 have HL := ak hr.l64
 have HR := ak hr
 have HK := ak hk
 have HRT := ak hrt
 have HMY := ak hm
 have HP := ak hp
 have hfl : b.free.length ≤ 64 := by omega
 have HCP := ak (m0 b (by omega) (by omega))
 have ag := ak (Below.refl w.heap.size w)
 have HSUM := ak hsum
 clear hr hk hrt hm hp hsum
 have hnn : 0 ≤ n := by omega
 go_enter Try.func49, Try.ntmps49
 go_wp2_with (first
  | (refine aD rfl 57 (.tmp 0) rfl _ rfl ?_; intro gX W1 J aa I; have cg := ge ag J; have ao := ak (ag.out.trans (I.mono ag.out.size)); have aj := ak (aa); clear J aa I ag)
  | (refine aD rfl 85 (.tmp 2) rfl _ rfl ?_; intro gA W2 J aa I; have ld := ge ao J; have eO := ne aj J; have ay := mv I ao; have aw := mv I aj; have cr := ak (aa); clear J aa I ao aj)
  | (refine au (some 6) rfl rfl 57 rfl a6 bT ?_; intro gZ W3 J aa I; have cb := ge ay J; have aG := ne aw J; have gD := ne cr J; have aE := mv I ay; have aC := mv I aw; have dm := mv I cr; have cd := ak (aa); clear J aa I ay aw cr)
  | ((with_reducible refine av (N := 12) rfl ?_); refine az rfl 57 (.tmp 3) rfl gX rfl _ _ _ aC.out Try.underlying57 rfl 68 (by kernel_rfl) (ah _ _ _ _ _ HL.out) ?_)
  | (go_at_call 48; refine (ee b HK.out _ _ ⟨A, c, A', c', rfl, HR.out.below aE.out⟩).mono ?_; rintro e W4 ⟨rfl, I⟩; rw [HRT.out]; have a8 := mv I aE; have aY := mv I aC; have dK := mv I dm; have bd := mv I cd; clear I aE aC dm cd)
  | ((with_reducible refine av (N := 16) rfl ?_); refine eK (by rfl) ?_; refine az rfl 85 (.tmp 5) rfl gA rfl _ _ _ dK.out Try.underlying85 rfl 2 (by kernel_rfl) rfl ?_)
  | (go_at_call 88; refine (jR a _).mono ?_; rintro e W5 ⟨rfl, I⟩; rw [HMY.out]; have bj := mv I a8; have bc := mv I aY; have eZ := mv I dK; have bI := mv I bd; clear I a8 aY dK bd)
  | ((with_reducible refine av (N := 25) rfl ?_); refine az rfl 57 (.tmp 3) rfl gX rfl _ _ _ bc.out Try.underlying57 rfl 68 (by kernel_rfl) (ah _ _ _ _ _ HL.out) ?_)
  | (go_at_call 89; refine (HCP.out _ _ ⟨A, c, A', c', rfl, HR.out.below bj.out⟩).mono ?_; rintro e W6 ⟨v5, rfl, ou, I⟩; obtain ⟨wM, vf, va, rfl, lU, mM⟩ := ou; obtain ⟨Af, cf, rfl⟩ := Kd.R_slice lU; obtain ⟨Aa, ca, rfl⟩ := Kd.R_slice mM; have HSZ := ak bj.out.size; have vP := ak (show gX < W5.heap.size from bc.out.lt); have oV := ak (show gA < W5.heap.size from eZ.out.lt); have oU := ak (show gZ < W5.heap.size from bI.out.lt); have bO := mv I bj; have bl := mv I bc; have fK := mv I eZ; have bW := mv I bI; have cU := ak (lU); have dt := ak (mM); have cZ := ak (I.size); clear wM lU mM I bj bc eZ bI)
  | (refine aK rfl 57 (.tmp 3) (.tmp 26) rfl gX (aU b.addr b.aff b.slots (.slice Af b.free.length cf) (.slice Aa b.attrs.length ca)) rfl rfl 57 _ bl.out 68 (by kernel_rfl) (ah _ _ _ _ _ HL.out) (ah _ _ _ _ _ HL.out) (b7 _ _ _ _ _ rfl rfl) ?_; intro W7 aa J; have ew := gb bO cg J; have dI := ak (OC.stored HL.out bl.out aa cU.out dt.out J); have kI := gx fK bl J; have dz := gm bW aG J; have fu := gr cU bl J; have j7 := gr dt bl J; have gE := ak (Nat.le_trans cZ.out J.size); have nN := aa.cell 66 _ (fI _ _ _ _ _ HL.out); have Pd : b.free.length ≤ cf := (Kd.R_reads' fu.out).2.1; clear aa J bO bl fK bW cU dt cZ))
 clear nN
 obtain ⟨b1, bq⟩ : ∃ b1, b1 = W5.heap.size := ⟨_, rfl⟩
 rw [← bq] at dI fu gE vP oV oU HSZ
 have bP := ak (show w.heap.size ≤ b1 from HSZ.out)
 clear bq HSZ
 have hmf : b.free.length ≤ b.free.length := by omega
 go_loopw [9, 11, 36] (fun o _ i W => ∃ k : Nat, k ≤ b.free.length ∧ i = .int .i64 k ∧ Aside0 (OC W b1 gX (ec b k a)) ∧ Aside0 (Kd.R (Kd.int .u32) 46 W w.heap.size (fun _ => True) o (fJ b k)) ∧ Aside0 (aH W gA [.string a.f0, .string a.f1] 85) ∧ Aside0 (aH W gZ a6 57) ∧ Aside0 (Kd.R (Kd.int .u8) 5 W b1 (fun _ => True) (.slice Af b.free.length cf) b.free) ∧ Aside0 (b1 ≤ W.heap.size) ∧ Aside0 (Below w.heap.size w W)) (fun _ _ i _ => b.free.length - (intOf i).toNat)
 case atStart => exact ⟨0, by omega, rfl, dI, ⟨Kd.R_nil _ _ _ _ _⟩, kI, dz, fu, gE, ew⟩
 case round =>
  clear ew dI kI dz fu gE
  obtain ⟨k, hk, rfl, aM, bR, hH, bC, bw, aV, ag⟩ := hrel
  obtain ⟨W, rfl⟩ : ∃ W : World, W = wr := ⟨_, rfl⟩
  by_cases hkn : k < b.free.length
  ·have hkb : decide ((k : Int) < (b.free.length : Int)) = true := by simp; omega
   have hkf : k < b.free.length := by omega
   obtain ⟨ad, eA, hx⟩ := Kd.at_int (Kd.R_reads' bw.out).2.2 k (by omega) (by omega)
   cases eA
   rw [Int.toNat_natCast] at hx
   obtain ⟨j, hj⟩ : ∃ j : Nat, rd b.free k = (j : Int) := ⟨(rd b.free k).toNat, by have := (j2 HK.out.f8 k).1; omega⟩
   have qp : j < 64 := by
    have h1 := HP.out.fr k hkf
    unfold jw at h1
    rw [Bool.or_eq_false_iff, decide_eq_false_iff_not] at h1
    have := h1.1
    omega
   rw [hj] at hx
   have HSC := ak (show ec b (k + 1) a = ⟨(ec b k a).addr, (ec b k a).aff, (ec b k a).slots.set (rd b.free k).toNat (eQ (ec b k a).attrs a : Nat), (ec b k a).free, eu (ec b k a).attrs a⟩ from qb b k a hkf)
   have HSO := ak (qa b k hkf)
   rw [hj] at HSC HSO
   rw [Int.toNat_natCast] at HSC
   have hol := iU b k (by omega)
   have HOL := ak hol
   have HAL := ak (show (ec b k a).attrs.length ≤ 100 by
    have := qZ b.attrs a
    have := HSUM.out
    show (if k = 0 then b.attrs else eu b.attrs a).length ≤ 100
    split <;> omega)
   obtain ⟨bm, hbm⟩ : ∃ bm, bm = ec b k a := ⟨_, rfl⟩
   have hadr : bm.addr = b.addr := by rw [hbm]; rfl
   have HADR := ak hadr
   clear hadr
   rw [← hbm] at aM HSC HAL
   obtain ⟨oo, hoo⟩ : ∃ oo, oo = fJ b k := ⟨_, rfl⟩
   obtain ⟨o1, eS⟩ : ∃ o1, o1 = fJ b (k + 1) := ⟨_, rfl⟩
   rw [← hoo] at bR HSO HOL
   rw [← eS, ← HADR.out] at HSO
   have ix := ak eS
   have DG : 0 ≤ bm.addr := by rw [HADR.out]; exact HK.out.a0
   have lW : bm.addr + 64 ≤ 4294967296 := by
    rw [HADR.out]
    have h1 := HP.out.first
    have h2 := HK.out.a1
    unfold b9 at h1
    omega
   clear hol hj hbm hoo eS
   obtain ⟨Ao, co, rfl⟩ := Kd.R_slice bR.out
   go_wp2_with (first
    | ((with_reducible refine av (N := 41) rfl ?_); refine az rfl 85 (.tmp 5) rfl gA rfl _ _ _ hH.out Try.underlying85 rfl 2 (by kernel_rfl) rfl ?_)
    | (go_at_call 90; refine (qP bm HAL.out a gX b1 w.heap.size _ cg.out bP.out aV.out aM.out).mono ?_; rintro e W1 ⟨rfl, aW, I, dc⟩; obtain ⟨QT, PN, QS, PM, js, _, _⟩ := aM.out.open; have aj := ak (aW); have cG := ak (Kd.R_added bR.out js (by decide) dc); have jV := ak (aH.added hH.out (Ne.symm eO.out) oV.out dc); have bU := ak (aH.added bC.out (Ne.symm aG.out) oU.out dc); have bp := ak (Kd.R_added bw.out js (by decide) dc); have bb := ak (Nat.le_trans aV.out dc.1); have ao := ak (ag.out.trans I); have nN := (show OC W1 b1 gX ⟨bm.addr, bm.aff, bm.slots, bm.free, eu bm.attrs a⟩ from aj.out).slotCell j qp; have DB := aj.out.frozen (2 + j); have DE := aj.out.addrCell; clear aW I dc js aM bR hH bC bw aV ag)
    | ((with_reducible refine bG (b := .append) (xs := #[.tmp 45, .tmp 51]) rfl ?_); at_builtin; clear nN DB DE; obtain ⟨_, _, _, _, js, _, _⟩ := aj.out.open; generalize bY : W1.setCell ⟨gX, 2 + j, none⟩ (.int .u8 (eQ bm.attrs a : Nat)) = W2; have nJ : W1.heap.size = W2.heap.size := (by rw [← bY]; simp [World.setCell]); rw [nJ]; clear nJ; have J : W1.grownBy W2 (some gX) := (by rw [← bY]; exact bs _ _ _ _); have aw := ak (OC.slot aj.out j qp (eQ bm.attrs a : Nat)); have cJ := ak (bD cG.out js (by decide) J); have cr := gm jV eO J; have cD := gm bU aG J; have bX := ak (bD bp.out js (by decide) J); have bK := ak (Nat.le_trans bb.out J.size); have ay := gb ao cg J; rw [bY] at aw; clear bY J aj cG jV bU bp bb ao js; refine Kd.R_append (Kd.int .u32) (w0 := w) w.heap.size rfl (.tmp 45) (.tmp 51) 77 46 (.int .u32 0) 4 rfl Try.underlying77 jL rfl (by decide) (by omega) _ oo (bm.addr + (j : Int)) [.int .u32 (bm.addr + (j : Int))] (fun _ => True) (fun _ => False) rfl rfl rfl (fun _ hk => hk.elim) (fun _ _ => trivial) cJ.out ay.out ay.out.size (by have := HOL.out; omega) ?_; intro v_ W3 aW I J fP; rw [← HSO.out] at aW; have aC := ak (OC.row aw.out cJ.out (by decide) (by decide) J); have fg := ak (aW); have dm := ak (cr.out.grown J (cr.out.ne_row cJ.out (by decide))); have cd := ak (cD.out.grown J (cD.out.ne_row cJ.out (by decide))); have cy := ak (Kd.R_over bX.out cJ.out (by decide) J); have b6 := ak (Nat.le_trans bK.out J.size); have aE := ak (I); obtain ⟨AO, cO, rfl⟩ := Kd.R_slice aW; clear aW I J fP aw cJ cr cD bX bK ay))
   go_roundw
   case rel => exact ⟨k + 1, by omega, by go_num, ⟨by rw [HSC.out]; exact aC.out⟩, ⟨by rw [← ix.out]; exact fg.out⟩, dm, cd, cy, b6, aE⟩
   case measure => simp [intOf]; omega
  ·obtain rfl : k = b.free.length := by omega
   have hkb : decide ((b.free.length : Int) < (b.free.length : Int)) = false := by simp
   have hol := iU b b.free.length (by omega)
   obtain ⟨oo, hoo⟩ : ∃ oo, oo = fJ b b.free.length := ⟨_, rfl⟩
   obtain ⟨bm, hbm⟩ : ∃ bm, bm = ec b b.free.length a := ⟨_, rfl⟩
   rw [← hoo] at bR hol
   rw [← hbm] at aM
   have HOO := ak hoo
   have hfr : bm.free = b.free := by rw [hbm]; rfl
   have HBK := ak (show fq b b.free.length a = ⟨bm.addr, bm.aff, bm.slots, bm.free.drop oo.length, bm.attrs⟩ by rw [hol, hbm]; rfl)
   obtain ⟨Ao, co, rfl⟩ := Kd.R_slice bR.out
   obtain ⟨A1, c1, A2, c2, hxx, mL, lW⟩ := aM.out.open
   have hqa : bm.free.length ≤ c1 := (Kd.R_reads' mL).2.1
   have hqb : oo.length ≤ bm.free.length := by rw [hfr, hol]; omega
   have hqc : bm.free.length ≤ 64 := by rw [hfr]; omega
   have HQ := ak (Kd.R_reads' mL).2.2
   have kz := ak lW
   have HXX := ak hxx
   have HL := ak aM.out.l64
   have HWS := ak ag.out.size
   have nN := hxx.cell 66 _ (fI _ _ _ _ _ HL.out)
   have HCD := ak (fun w' (h : Kd.C (Kd.int .u8) w' A1 bm.free.length bm.free) => wP bm.free A1 c1 oo.length w' h hqb hqa (by omega) _ rfl)
   obtain ⟨fd, hfd⟩ : ∃ fd, fd = bm.free.drop oo.length := ⟨_, rfl⟩
   rw [← hfd] at HCD HBK
   clear hxx mL lW hol hoo hbm hfr hfd
   by_cases hne : c1 = oo.length
   all_goals
    first | rw [if_neg hne] at HCD | rw [if_pos hne, show c1 - oo.length = 0 by omega] at HCD
    go_wp2_with (first
     | (go_at_call 91; refine (HCD.out _ HQ.out).mono ?_; rintro e W1 ⟨Sz, rfl, dQ, I⟩; clear nN; obtain ⟨xm, wQ, rfl⟩ := Kd.R_slice dQ; have aj := mv I HXX; have cG := mv I bR; have bU := mv I bC; have bb := ak (Nat.le_trans aV.out I.size); have ao := ak (ag.out.trans (I.mono ag.out.size)); have dg := mv I kz; have xh := ak (dQ); have sf := aj.out.cell 66 _ (fI _ _ _ _ _ HL.out); have Dj := aj.out.frozen 66; clear dQ I HXX bR bC aV ag kz)
     | (generalize bY : W1.setCell ⟨gX, 66, none⟩ (.slice xm fd.length wQ) = W2; have J : W1.grownBy W2 (some gX) := (by rw [← bY]; exact bs _ _ _ _); have aw := ak (aj.out.set 66 (.slice xm fd.length wQ)); have cJ := gr cG aj J; have cD := gm bU aG J; have bK := ak (Nat.le_trans bb.out J.size); have ay := gb ao cg J; have di := gr dg aj J; have xg := gr xh aj J; rw [bY] at aw; clear bY J aj cG bU bb ao dg xh sf Dj; rw [k8 _ _ _ _ _ HL.out] at aw; refine az rfl 57 (.tmp 3) rfl gX rfl _ _ _ aw.out Try.underlying57 rfl 68 (by kernel_rfl) (ah _ _ _ _ _ HL.out) ?_)
     | (refine aK rfl 57 (.tmp 6) (.tmp 61) rfl gZ (aU bm.addr bm.aff bm.slots (.slice xm fd.length wQ) (.slice A2 bm.attrs.length c2)) rfl rfl 57 _ cD.out 68 (by kernel_rfl) (ah _ _ _ _ _ HL.out) rfl (b7 _ _ _ _ _ rfl rfl) ?_; intro W3 aa J; have aC := gn aw aG J; have fg := gr cJ cD J; have cd := ak (aa); have b6 := ak (Nat.le_trans bK.out J.size); have aE := gb ay cb J; have dS := gr di cD J; have xf := gr xg cD J; clear aa J aw cJ cD bK ay di xg))
    refine bodyPost_ret (je rfl _ _ gZ 57 _ (0, 0) _ rfl cd.out Try.underlying57 rfl (by simp only [List.size_toArray]; exact ch _ (ah _ _ _ _ _ HL.out))) rfl ⟨_, _, rfl, ?_, ?_, aE.out⟩
    ·rw [HBK.out]; exact ⟨HL.out, _, _, rfl, Kd.R_lower xf.out HWS.out, Kd.R_lower dS.out bP.out⟩
    ·rw [← HOO.out]; exact fg.out
set_option maxHeartbeats 16000000 in
set_option maxRecDepth 100000 in
theorem Fj (b : Bk) (hk : BkOk b)  (a : At) (hrt : dC b = true) (hm : ep a = true) (v : Value) (w : World) (h : iz w v b) :
  Calls Try.prog 49 #[v, .int .i64 (b.free.length : Int), eT a] w fun e w' => ∃ v' vo, e = .returned (.tuple #[v', vo, .int .i64 0]) ∧ ey w' w.heap.size v' (fq b b.free.length a) ∧ Kd.R (Kd.int .u32) 46 w' w.heap.size (fun _ => True) vo (fJ b b.free.length) ∧ Below w.heap.size w w' := by
 obtain ⟨A, c, A', c', rfl, hr⟩ := h
 have hp := im hrt
 have hsum := hp.sum_le hk hr.l64
 have HL := ak hr.l64
 have HR := ak hr
 have HK := ak hk
 have HRT := ak hrt
 have HMY := ak hm
 have HP := ak hp
 have hfl : b.free.length ≤ 64 := by omega
 have HCP := ak (m0 b (by omega) (by omega))
 have ag := ak (Below.refl w.heap.size w)
 have HSUM := ak hsum
 clear hr hk hrt hm hp hsum
 go_enter Try.func49, Try.ntmps49
 go_wp2_with (first
  | (refine aD rfl 57 (.tmp 0) rfl _ rfl ?_; intro gX W1 J aa I; have cg := ge ag J; have ao := ak (ag.out.trans (I.mono ag.out.size)); have aj := ak (aa); clear J aa I ag)
  | (refine aD rfl 85 (.tmp 2) rfl _ rfl ?_; intro gA W2 J aa I; have ld := ge ao J; have eO := ne aj J; have ay := mv I ao; have aw := mv I aj; have cr := ak (aa); clear J aa I ao aj)
  | (refine au (some 6) rfl rfl 57 rfl a6 bT ?_; intro gZ W3 J aa I; have cb := ge ay J; have aG := ne aw J; have gD := ne cr J; have aE := mv I ay; have aC := mv I aw; have dm := mv I cr; have cd := ak (aa); clear J aa I ay aw cr)
  | ((with_reducible refine av (N := 12) rfl ?_); refine az rfl 57 (.tmp 3) rfl gX rfl _ _ _ aC.out Try.underlying57 rfl 68 (by kernel_rfl) (ah _ _ _ _ _ HL.out) ?_)
  | (go_at_call 48; refine (ee b HK.out _ _ ⟨A, c, A', c', rfl, HR.out.below aE.out⟩).mono ?_; rintro e W4 ⟨rfl, I⟩; rw [HRT.out]; have a8 := mv I aE; have aY := mv I aC; have dK := mv I dm; have bd := mv I cd; clear I aE aC dm cd)
  | ((with_reducible refine av (N := 16) rfl ?_); refine eK (by rfl) ?_; refine az rfl 85 (.tmp 5) rfl gA rfl _ _ _ dK.out Try.underlying85 rfl 2 (by kernel_rfl) rfl ?_)
  | (go_at_call 88; refine (jR a _).mono ?_; rintro e W5 ⟨rfl, I⟩; rw [HMY.out]; have bj := mv I a8; have bc := mv I aY; have eZ := mv I dK; have bI := mv I bd; clear I a8 aY dK bd)
  | ((with_reducible refine av (N := 25) rfl ?_); refine az rfl 57 (.tmp 3) rfl gX rfl _ _ _ bc.out Try.underlying57 rfl 68 (by kernel_rfl) (ah _ _ _ _ _ HL.out) ?_)
  | (go_at_call 89; refine (HCP.out _ _ ⟨A, c, A', c', rfl, HR.out.below bj.out⟩).mono ?_; rintro e W6 ⟨v5, rfl, ou, I⟩; obtain ⟨wM, vf, va, rfl, lU, mM⟩ := ou; obtain ⟨Af, cf, rfl⟩ := Kd.R_slice lU; obtain ⟨Aa, ca, rfl⟩ := Kd.R_slice mM; have HSZ := ak bj.out.size; have vP := ak (show gX < W5.heap.size from bc.out.lt); have oV := ak (show gA < W5.heap.size from eZ.out.lt); have oU := ak (show gZ < W5.heap.size from bI.out.lt); have bO := mv I bj; have bl := mv I bc; have fK := mv I eZ; have bW := mv I bI; have cU := ak (lU); have dt := ak (mM); have cZ := ak (I.size); clear wM lU mM I bj bc eZ bI)
  | (refine aK rfl 57 (.tmp 3) (.tmp 26) rfl gX (aU b.addr b.aff b.slots (.slice Af b.free.length cf) (.slice Aa b.attrs.length ca)) rfl rfl 57 _ bl.out 68 (by kernel_rfl) (ah _ _ _ _ _ HL.out) (ah _ _ _ _ _ HL.out) (b7 _ _ _ _ _ rfl rfl) ?_; intro W7 aa J; have ew := gb bO cg J; have dI := ak (OC.stored HL.out bl.out aa cU.out dt.out J); have kI := gx fK bl J; have dz := gm bW aG J; have fu := gr cU bl J; have j7 := gr dt bl J; have gE := ak (Nat.le_trans cZ.out J.size); have nN := aa.cell 66 _ (fI _ _ _ _ _ HL.out); have Pd : b.free.length ≤ cf := (Kd.R_reads' fu.out).2.1; clear aa J bO bl fK bW cU dt cZ))
 clear nN
 obtain ⟨b1, bq⟩ : ∃ b1, b1 = W5.heap.size := ⟨_, rfl⟩
 rw [← bq] at dI fu gE vP oV oU HSZ
 have bP := ak (show w.heap.size ≤ b1 from HSZ.out)
 clear bq HSZ
 have hmf : b.free.length ≤ b.free.length := by omega
 go_loopw [9, 11, 36] (fun o _ i W => ∃ k : Nat, k ≤ b.free.length ∧ i = .int .i64 k ∧ Aside0 (OC W b1 gX (ec b k a)) ∧ Aside0 (Kd.R (Kd.int .u32) 46 W w.heap.size (fun _ => True) o (fJ b k)) ∧ Aside0 (aH W gA [.string a.f0, .string a.f1] 85) ∧ Aside0 (aH W gZ a6 57) ∧ Aside0 (Kd.R (Kd.int .u8) 5 W b1 (fun _ => True) (.slice Af b.free.length cf) b.free) ∧ Aside0 (b1 ≤ W.heap.size) ∧ Aside0 (Below w.heap.size w W)) (fun _ _ i _ => b.free.length - (intOf i).toNat)
 case atStart => exact ⟨0, by omega, rfl, dI, ⟨Kd.R_nil _ _ _ _ _⟩, kI, dz, fu, gE, ew⟩
 case round =>
  clear ew dI kI dz fu gE
  obtain ⟨k, hk, rfl, aM, bR, hH, bC, bw, aV, ag⟩ := hrel
  obtain ⟨W, rfl⟩ : ∃ W : World, W = wr := ⟨_, rfl⟩
  by_cases hkn : k < b.free.length
  ·have hkb : decide ((k : Int) < (b.free.length : Int)) = true := by simp; omega
   have hkf : k < b.free.length := by omega
   obtain ⟨ad, eA, hx⟩ := Kd.at_int (Kd.R_reads' bw.out).2.2 k (by omega) (by omega)
   cases eA
   rw [Int.toNat_natCast] at hx
   obtain ⟨j, hj⟩ : ∃ j : Nat, rd b.free k = (j : Int) := ⟨(rd b.free k).toNat, by have := (j2 HK.out.f8 k).1; omega⟩
   have qp : j < 64 := by
    have h1 := HP.out.fr k hkf
    unfold jw at h1
    rw [Bool.or_eq_false_iff, decide_eq_false_iff_not] at h1
    have := h1.1
    omega
   rw [hj] at hx
   have HSC := ak (show ec b (k + 1) a = ⟨(ec b k a).addr, (ec b k a).aff, (ec b k a).slots.set (rd b.free k).toNat (eQ (ec b k a).attrs a : Nat), (ec b k a).free, eu (ec b k a).attrs a⟩ from qb b k a hkf)
   have HSO := ak (qa b k hkf)
   rw [hj] at HSC HSO
   rw [Int.toNat_natCast] at HSC
   have hol := iU b k (by omega)
   have HOL := ak hol
   have HAL := ak (show (ec b k a).attrs.length ≤ 100 by
    have := qZ b.attrs a
    have := HSUM.out
    show (if k = 0 then b.attrs else eu b.attrs a).length ≤ 100
    split <;> omega)
   obtain ⟨bm, hbm⟩ : ∃ bm, bm = ec b k a := ⟨_, rfl⟩
   have hadr : bm.addr = b.addr := by rw [hbm]; rfl
   have HADR := ak hadr
   clear hadr
   rw [← hbm] at aM HSC HAL
   obtain ⟨oo, hoo⟩ : ∃ oo, oo = fJ b k := ⟨_, rfl⟩
   obtain ⟨o1, eS⟩ : ∃ o1, o1 = fJ b (k + 1) := ⟨_, rfl⟩
   rw [← hoo] at bR HSO HOL
   rw [← eS, ← HADR.out] at HSO
   have ix := ak eS
   have DG : 0 ≤ bm.addr := by rw [HADR.out]; exact HK.out.a0
   have lW : bm.addr + 64 ≤ 4294967296 := by
    rw [HADR.out]
    have h1 := HP.out.first
    have h2 := HK.out.a1
    unfold b9 at h1
    omega
   clear hol hj hbm hoo eS
   obtain ⟨Ao, co, rfl⟩ := Kd.R_slice bR.out
   go_wp2_with (first
    | ((with_reducible refine av (N := 41) rfl ?_); refine az rfl 85 (.tmp 5) rfl gA rfl _ _ _ hH.out Try.underlying85 rfl 2 (by kernel_rfl) rfl ?_)
    | (go_at_call 90; refine (qP bm HAL.out a gX b1 w.heap.size _ cg.out bP.out aV.out aM.out).mono ?_; rintro e W1 ⟨rfl, aW, I, dc⟩; obtain ⟨QT, PN, QS, PM, js, _, _⟩ := aM.out.open; have aj := ak (aW); have cG := ak (Kd.R_added bR.out js (by decide) dc); have jV := ak (aH.added hH.out (Ne.symm eO.out) oV.out dc); have bU := ak (aH.added bC.out (Ne.symm aG.out) oU.out dc); have bp := ak (Kd.R_added bw.out js (by decide) dc); have bb := ak (Nat.le_trans aV.out dc.1); have ao := ak (ag.out.trans I); have nN := (show OC W1 b1 gX ⟨bm.addr, bm.aff, bm.slots, bm.free, eu bm.attrs a⟩ from aj.out).slotCell j qp; have DB := aj.out.frozen (2 + j); have DE := aj.out.addrCell; clear aW I dc js aM bR hH bC bw aV ag)
    | ((with_reducible refine bG (b := .append) (xs := #[.tmp 45, .tmp 51]) rfl ?_); at_builtin; clear nN DB DE; obtain ⟨_, _, _, _, js, _, _⟩ := aj.out.open; generalize bY : W1.setCell ⟨gX, 2 + j, none⟩ (.int .u8 (eQ bm.attrs a : Nat)) = W2; have nJ : W1.heap.size = W2.heap.size := (by rw [← bY]; simp [World.setCell]); rw [nJ]; clear nJ; have J : W1.grownBy W2 (some gX) := (by rw [← bY]; exact bs _ _ _ _); have aw := ak (OC.slot aj.out j qp (eQ bm.attrs a : Nat)); have cJ := ak (bD cG.out js (by decide) J); have cr := gm jV eO J; have cD := gm bU aG J; have bX := ak (bD bp.out js (by decide) J); have bK := ak (Nat.le_trans bb.out J.size); have ay := gb ao cg J; rw [bY] at aw; clear bY J aj cG jV bU bp bb ao js; refine Kd.R_append (Kd.int .u32) (w0 := w) w.heap.size rfl (.tmp 45) (.tmp 51) 77 46 (.int .u32 0) 4 rfl Try.underlying77 jL rfl (by decide) (by omega) _ oo (bm.addr + (j : Int)) [.int .u32 (bm.addr + (j : Int))] (fun _ => True) (fun _ => False) rfl rfl rfl (fun _ hk => hk.elim) (fun _ _ => trivial) cJ.out ay.out ay.out.size (by have := HOL.out; omega) ?_; intro v_ W3 aW I J fP; rw [← HSO.out] at aW; have aC := ak (OC.row aw.out cJ.out (by decide) (by decide) J); have fg := ak (aW); have dm := ak (cr.out.grown J (cr.out.ne_row cJ.out (by decide))); have cd := ak (cD.out.grown J (cD.out.ne_row cJ.out (by decide))); have cy := ak (Kd.R_over bX.out cJ.out (by decide) J); have b6 := ak (Nat.le_trans bK.out J.size); have aE := ak (I); obtain ⟨AO, cO, rfl⟩ := Kd.R_slice aW; clear aW I J fP aw cJ cr cD bX bK ay))
   go_roundw
   case rel => exact ⟨k + 1, by omega, by go_num, ⟨by rw [HSC.out]; exact aC.out⟩, ⟨by rw [← ix.out]; exact fg.out⟩, dm, cd, cy, b6, aE⟩
   case measure => simp [intOf]; omega
  ·obtain rfl : k = b.free.length := by omega
   have hkb : decide ((b.free.length : Int) < (b.free.length : Int)) = false := by simp
   have hol := iU b b.free.length (by omega)
   obtain ⟨oo, hoo⟩ : ∃ oo, oo = fJ b b.free.length := ⟨_, rfl⟩
   obtain ⟨bm, hbm⟩ : ∃ bm, bm = ec b b.free.length a := ⟨_, rfl⟩
   rw [← hoo] at bR hol
   rw [← hbm] at aM
   have HOO := ak hoo
   have hfr : bm.free = b.free := by rw [hbm]; rfl
   have HBK := ak (show fq b b.free.length a = ⟨bm.addr, bm.aff, bm.slots, bm.free.drop oo.length, bm.attrs⟩ by rw [hol, hbm]; rfl)
   obtain ⟨Ao, co, rfl⟩ := Kd.R_slice bR.out
   obtain ⟨A1, c1, A2, c2, hxx, mL, lW⟩ := aM.out.open
   have hqa : bm.free.length ≤ c1 := (Kd.R_reads' mL).2.1
   have hqb : oo.length ≤ bm.free.length := by rw [hfr, hol]; omega
   have hqc : bm.free.length ≤ 64 := by rw [hfr]; omega
   have HQ := ak (Kd.R_reads' mL).2.2
   have kz := ak lW
   have HXX := ak hxx
   have HL := ak aM.out.l64
   have HWS := ak ag.out.size
   have nN := hxx.cell 66 _ (fI _ _ _ _ _ HL.out)
   have HCD := ak (fun w' (h : Kd.C (Kd.int .u8) w' A1 bm.free.length bm.free) => wP bm.free A1 c1 oo.length w' h hqb hqa (by omega) _ rfl)
   obtain ⟨fd, hfd⟩ : ∃ fd, fd = bm.free.drop oo.length := ⟨_, rfl⟩
   rw [← hfd] at HCD HBK
   clear hxx mL lW hol hoo hbm hfr hfd
   by_cases hne : c1 = oo.length
   all_goals
    first | rw [if_neg hne] at HCD | rw [if_pos hne, show c1 - oo.length = 0 by omega] at HCD
    go_wp2_with (first
     | (go_at_call 91; refine (HCD.out _ HQ.out).mono ?_; rintro e W1 ⟨Sz, rfl, dQ, I⟩; clear nN; obtain ⟨xm, wQ, rfl⟩ := Kd.R_slice dQ; have aj := mv I HXX; have cG := mv I bR; have bU := mv I bC; have bb := ak (Nat.le_trans aV.out I.size); have ao := ak (ag.out.trans (I.mono ag.out.size)); have dg := mv I kz; have xh := ak (dQ); have sf := aj.out.cell 66 _ (fI _ _ _ _ _ HL.out); have Dj := aj.out.frozen 66; clear dQ I HXX bR bC aV ag kz)
     | (generalize bY : W1.setCell ⟨gX, 66, none⟩ (.slice xm fd.length wQ) = W2; have J : W1.grownBy W2 (some gX) := (by rw [← bY]; exact bs _ _ _ _); have aw := ak (aj.out.set 66 (.slice xm fd.length wQ)); have cJ := gr cG aj J; have cD := gm bU aG J; have bK := ak (Nat.le_trans bb.out J.size); have ay := gb ao cg J; have di := gr dg aj J; have xg := gr xh aj J; rw [bY] at aw; clear bY J aj cG bU bb ao dg xh sf Dj; rw [k8 _ _ _ _ _ HL.out] at aw; refine az rfl 57 (.tmp 3) rfl gX rfl _ _ _ aw.out Try.underlying57 rfl 68 (by kernel_rfl) (ah _ _ _ _ _ HL.out) ?_)
     | (refine aK rfl 57 (.tmp 6) (.tmp 61) rfl gZ (aU bm.addr bm.aff bm.slots (.slice xm fd.length wQ) (.slice A2 bm.attrs.length c2)) rfl rfl 57 _ cD.out 68 (by kernel_rfl) (ah _ _ _ _ _ HL.out) rfl (b7 _ _ _ _ _ rfl rfl) ?_; intro W3 aa J; have aC := gn aw aG J; have fg := gr cJ cD J; have cd := ak (aa); have b6 := ak (Nat.le_trans bK.out J.size); have aE := gb ay cb J; have dS := gr di cD J; have xf := gr xg cD J; clear aa J aw cJ cD bK ay di xg))
    refine bodyPost_ret (je rfl _ _ gZ 57 _ (0, 0) _ rfl cd.out Try.underlying57 rfl (by simp only [List.size_toArray]; exact ch _ (ah _ _ _ _ _ HL.out))) rfl ⟨_, _, rfl, ?_, ?_, aE.out⟩
    ·rw [HBK.out]; exact ⟨HL.out, _, _, rfl, Kd.R_lower xf.out HWS.out, Kd.R_lower dS.out bP.out⟩
    ·rw [← HOO.out]; exact fg.out
theorem vH (b : Bk) (hk : BkOk b) (n : Int) (hn : n < 9223372036854775808) (a : At) (v : Value) (w : World) (h : iz w v b) :
  Calls Try.prog 49 #[v, .int .i64 n, eT a] w fun e w' => ∃ v' vo, e = .returned (.tuple #[v', vo, .int .i64 (if m3 b n a = true then 0 else 1)]) ∧ ey w' w.heap.size v' (if m3 b n a = true then fq b (min n.toNat b.free.length) a else km) ∧ Kd.R (Kd.int .u32) 46 w' w.heap.size (fun _ => True) vo (if m3 b n a = true then fJ b (min n.toNat b.free.length) else []) ∧ Below w.heap.size w w' := by
 cases ho : m3 b n a with
 | false =>
  simp only [Bool.false_eq_true, if_false]
  exact I5 b hk n a ho v w h
 | true =>
  simp only [if_true]
  unfold m3 at ho
  simp only [Bool.and_eq_true, decide_eq_true_eq] at ho
  obtain ⟨h1, h2, h3⟩ := ho
  by_cases hl : (b.free.length : Int) ≤ n
  ·rw [show min n.toNat b.free.length = b.free.length by omega]
   by_cases O8 : (b.free.length : Int) < n
   ·exact GY b hk n O8 hn a h1 h2 v w h
   ·obtain rfl : n = (b.free.length : Int) := by omega
    exact Fj b hk a h1 h2 v w h
  ·obtain ⟨m, rfl⟩ : ∃ m : Nat, n = (m : Int) := ⟨n.toNat, by omega⟩
   rw [show min (m : Int).toNat b.free.length = m by omega]
   exact Fi b hk m (by omega) a h1 h2 v w h
end Go.Proofs.Ytemhalnhbgkbcaa.V
end

section
namespace Go.Proofs.Ytemhalnhbgkbcaa.V
theorem I8 (ad : Addr) : ad.add 0 = ad := by
 obtain ⟨b, o, s⟩ := ad
 unfold Addr.add
 split <;> simp_all
theorem ki.of {W : World} {b1 : Nat} {b : Bk} {M : List ln} {As Af Aa : Option Addr} {cs cf ca : Nat} (hm : M = b.attrs.map vc) (hs : Kd.R (Kd.int .i64) 3 W b1 (fun _ => True) (.slice As b.slots.length cs) b.slots) (hf : Kd.R (Kd.int .i64) 3 W b1 (fun _ => True) (.slice Af b.free.length cf) b.free) (ha : Kd.R ib 76 W b1 (fun _ => True) (.slice Aa M.length ca) M) :
  RbR W b M As cs Af cf Aa ca := ⟨hm, (Kd.R_reads' hs).2.2, (Kd.R_reads' hs).2.1, (Kd.R_reads' hf).2.2, (Kd.R_reads' hf).2.1, (Kd.R_reads' ha).2.2, (Kd.R_reads' ha).2.1⟩
set_option maxHeartbeats 16000000 in
set_option maxRecDepth 100000 in
theorem Cf (b : Bk) (hl : b.slots.length = 64) (hf : b.free.length ≤ 1000) (ha : b.attrs.length ≤ 100) (hnd : xV b.attrs) (x : Int) (h0 : 0 ≤ x) (h1 : x < 4294967296) (a : At) (v : Value) (w : World) (h : ki w v b) :
  Calls Try.prog 107 #[v, .int .u32 x, .agg #[.string a.f0, .string a.f1]] w fun e w' => ∃ v', e = .returned v' ∧ eU w' w.heap.size v' (fT b (x % 64).toNat a) ∧ Below w.heap.size w w' := by
 obtain ⟨M, As, cs, Af, cf, Aa, ca, rfl, hr⟩ := h
 obtain ⟨j, hj⟩ : ∃ j : Nat, x % 64 = (j : Int) := ⟨(x % 64).toNat, by omega⟩
 have qp : j < 64 := by omega
 have HR := ak hr
 have HGV := ak (fun v w h => DK b hl hf ha hnd j qp a v w h)
 have HJ := ak (show x.tmod 64 = (j : Int) by rw [Int.tmod_eq_emod_of_nonneg h0]; exact hj)
 have xc := ak (show (x % 64).toNat = j by rw [hj]; rfl)
 have ag := ak (Below.refl w.heap.size w)
 have hjt := HJ.out
 clear hr hl hj hnd
 go_enter Try.func107, Try.ntmps107
 go_wp2_with (first
  | (refine aD rfl 62 (.tmp 0) rfl _ rfl ?_; intro gX W1 J aa I; have cg := ge ag J; have ao := ak (ag.out.trans (I.mono ag.out.size)); have aj := ak (aa); clear J aa I ag)
  | (refine aD rfl 76 (.tmp 2) rfl _ rfl ?_; intro gA W2 J aa I; have ld := ge ao J; have eO := ne aj J; have ay := mv I ao; have aw := mv I aj; have cr := ak (aa); clear J aa I ao aj)
  | (refine au (some 6) rfl rfl 62 rfl dH (fun _ => by kernel_rfl) ?_; intro gZ W3 J aa I; have cb := ge ay J; have aG := ne aw J; have gD := ne cr J; have aE := mv I ay; have aC := mv I aw; have dm := mv I cr; have cd := ak (aa); clear J aa I ay aw cr)
  | ((with_reducible refine av (N := 7) rfl ?_); refine az rfl 62 (.tmp 3) rfl gX rfl _ _ _ aC.out Try.underlying62 rfl 5 (by kernel_rfl) rfl ?_)
  | ((with_reducible refine av (N := 11) rfl ?_); refine az rfl 76 (.tmp 5) rfl gA rfl _ _ _ dm.out Try.underlying76 rfl 2 (by kernel_rfl) rfl ?_)
  | (go_at_call 106; refine (HGV.out _ _ ⟨M, As, cs, Af, cf, Aa, ca, rfl, HR.out.below aE.out⟩).mono ?_; rintro e W4 ⟨v9, rfl, eG, I⟩; obtain ⟨nb, hnb⟩ : ∃ nb, nb = fT b j a := ⟨_, rfl⟩; rw [← hnb] at eG; have HNB := ak hnb; obtain ⟨wz, sx, sA, rfl, gz, fp, eH⟩ := eG; have HSZ := ak aE.out.size; obtain ⟨A7, c7, rfl⟩ := Kd.R_slice gz; obtain ⟨A8, c8, rfl⟩ := Kd.R_slice fp; obtain ⟨NM, hNM⟩ : ∃ NM, NM = nb.attrs.map vc := ⟨_, rfl⟩; rw [← hNM] at eH; have HNM := ak hNM; obtain ⟨A9, c9, rfl⟩ := Kd.R_slice eH; have a8 := mv I aE; have aY := mv I aC; have dK := mv I dm; have bd := mv I cd; have cw := ak (gz); have cx := ak (fp); have cR := ak (eH); clear hNM hnb gz fp eH I aE aC dm cd)
  | (refine aK rfl 62 (.tmp 6) (.tmp 12) rfl gZ (dj nb.addr nb.aff (.slice A7 nb.slots.length c7) (.slice A8 nb.free.length c8) (.slice A9 NM.length c9)) rfl rfl 62 _ bd.out 5 (by kernel_rfl) rfl rfl (dM _ _ rfl rfl rfl) ?_; intro W5 aa J; have bj := gb a8 cb J; have bc := gn aY aG J; have eZ := gx dK bd J; have bI := ak (aa); have cQ := gr cw bd J; have cj := gr cx bd J; have cH := gr cR bd J; clear aa J a8 aY dK bd cw cx cR))
 refine bodyPost_ret (results_cell_row rfl _ _ gZ 62 _ (0, 0) _ rfl bI.out Try.underlying62 rfl (by kernel_rfl)) rfl ⟨_, rfl, ?_, bj.out⟩
 rw [xc.out, ← HNB.out]
 exact ⟨_, _, _, rfl, Kd.R_lower cQ.out HSZ.out, Kd.R_lower cj.out HSZ.out, by rw [← HNM.out]; exact Kd.R_lower cH.out HSZ.out⟩
set_option maxHeartbeats 16000000 in
set_option maxRecDepth 100000 in
theorem EV (b : Bk) (hk : BkOk b) (hp : RightP b) (hl : b.slots.length = 64) (n : Int) (hn : n < 9223372036854775808) (lT : 0 ≤ n) (m : Nat) (hm : m = min n.toNat b.free.length) (a : At) (v : Value) (w : World) (base : Nat) (ks : base ≤ w.heap.size) (h : eU w base v b) :
  Calls Try.prog 82 #[v, .int .i64 n, .agg #[.string a.f0, .string a.f1]] w fun e w' => ∃ v' vo, e = .returned (.tuple #[v', vo]) ∧ eU w' base v' (fq b m a) ∧ Kd.R (Kd.int .u32) 46 w' w.heap.size (fun _ => True) vo (fJ b m) ∧ Below w.heap.size w w' := by
 obtain ⟨vs0, Zc, Zd, rfl, jX, DA, GI⟩ := h
 obtain ⟨M, hM⟩ : ∃ M, M = b.attrs.map vc := ⟨_, rfl⟩
 rw [← hM] at GI
 obtain ⟨As, cs, rfl⟩ := Kd.R_slice jX
 obtain ⟨Af, cf, rfl⟩ := Kd.R_slice DA
 obtain ⟨Aa, ca, rfl⟩ := Kd.R_slice GI
 have Yd := ak jX
 have QH := ak DA
 have Ym := ak GI
 have HMM := ak hM
 have HBW := ak ks
 have hsum := hp.sum_le hk hl
 have HK := ak hk
 have HP := ak hp
 have HL := ak hl
 have HSUM := ak hsum
 have HMN := ak (show (m : Int) ≤ n ∧ m ≤ b.free.length ∧ ((m : Int) = n ∨ m = b.free.length) by omega)
 have YY : m ≤ 64 := by omega
 have DG : 0 ≤ b.addr := hk.a0
 have lW : b.addr + 64 ≤ 4294967296 := by
  have h1 := hp.first
  have h2 := hk.a1
  unfold b9 at h1
  omega
 have ag := ak (Below.refl w.heap.size w)
 clear jX DA GI hM ks hk hp hl hsum hm
 go_enter Try.func82, Try.ntmps82
 go_wp2_with (first
  | (refine aD rfl 62 (.tmp 0) rfl _ rfl ?_; intro gX W1 J aa I; have cg := ge ag J; have ao := ak (ag.out.trans (I.mono ag.out.size)); have aj := ak (aa); clear J aa I ag)
  | (refine aD rfl 76 (.tmp 2) rfl _ rfl ?_; intro gA W2 J aa I; have ld := ge ao J; have eO := ne aj J; have ay := mv I ao; have aw := mv I aj; have cr := ak (aa); clear J aa I ao aj)
  | (refine au (some 6) rfl rfl 62 rfl dH (fun _ => by kernel_rfl) ?_; intro gZ W3 J aa I; have cb := ge ay J; have aG := ne aw J; have gD := ne cr J; have aE := mv I ay; have aC := mv I aw; have dm := mv I cr; have cd := ak (aa); clear J aa I ay aw cr))
 go_loopw [8, 9, 10] (fun q u _ W => ∃ k : Nat, k ≤ m ∧ u = .int .i64 k ∧ Aside0 (RX W base gX (fq b k a)) ∧ Aside0 (Kd.R (Kd.int .u32) 46 W w.heap.size (fun _ => True) q (fJ b k)) ∧ Aside0 (aH W gA [.string a.f0, .string a.f1] 76) ∧ Aside0 (aH W gZ dH 62) ∧ Aside0 (Below w.heap.size w W)) (fun _ u _ _ => m - (intOf u).toNat)
 case atStart => exact ⟨0, by omega, rfl, ⟨⟨M, _, _, _, HMM.out, aC.out, Kd.R_below Yd.out aE.out, Kd.R_below QH.out aE.out, Kd.R_below Ym.out aE.out⟩⟩, ⟨Kd.R_nil _ _ _ _ _⟩, dm, cd, aE⟩
 case round =>
  clear aE aC dm cd
  obtain ⟨k, hk, rfl, aM, bR, hH, bC, ag⟩ := hrel
  obtain ⟨W, rfl⟩ : ∃ W : World, W = wr := ⟨_, rfl⟩
  have hmn := HMN.out
  have hsum := HSUM.out
  have hszs := I6 b k a
  rw [HL.out] at hszs
  obtain ⟨M2, A2, c2, A3, c3, A4, c4, r8, Le, Lh, Lm, Lo⟩ := aM.out.open
  have HRR := ak (ki.of r8 Lh Lm Lo)
  have hrr : M2 = (fq b k a).attrs.map vc ∧ Kd.R (Kd.int .i64) 3 W base (fun _ => True) (.slice A2 (fq b k a).slots.length c2) (fq b k a).slots ∧ Kd.R (Kd.int .i64) 3 W base (fun _ => True) (.slice A3 (fq b k a).free.length c3) (fq b k a).free ∧ Kd.R ib 76 W base (fun _ => True) (.slice A4 M2.length c4) M2 := ⟨r8, Lh, Lm, Lo⟩
  have fv := ak Le
  obtain ⟨Ao, co, rfl⟩ := Kd.R_slice bR.out
  have hol := iU b k (by omega)
  obtain ⟨oo, hoo⟩ : ∃ oo, oo = fJ b k := ⟨_, rfl⟩
  rw [← hoo] at bR hol
  rw [show (fJ b k).length = oo.length by rw [hoo]]
  have HOL := ak hol
  have HOO := ak hoo
  clear hoo
  by_cases hkm : k < m
  ·have hkf : k < b.free.length := by omega
   have hgv := DJ HP.out HK.out k hkf a
   have hfr := Ep b k a hkf
   have hmem := pU HP.out HK.out k hkf
   obtain ⟨j, hj⟩ : ∃ j : Nat, rd b.free k = (j : Int) := ⟨(rd b.free k).toNat, by omega⟩
   have hnd := PU (show xV b.attrs from HP.out.nd) k a
   rw [hj] at hgv hfr hmem
   rw [Int.toNat_natCast] at hgv
   have hos := qa b k hkf
   rw [hj, ← HOO.out] at hos
   have HGV := ak (fun v w h => DK (fq b k a) hszs.1 (by omega) (by omega) hnd j (by omega) a v w h)
   have hkn : decide ((k : Int) < n) = true := by simp; omega
   obtain ⟨bm, hbm⟩ : ∃ bm, bm = fq b k a := ⟨_, rfl⟩
   have hadr : bm.addr = b.addr := by rw [hbm]; rfl
   rw [← hbm] at fv HRR HGV hfr hgv
   have DA : 0 < bm.free.length := hfr.1
   have p0 : decide ((0 : Int) < (bm.free.length : Int)) = true := by simp; omega
   have p1 : ((0 : Int) < (bm.free.length : Int)) = True := eq_true (by omega)
   obtain ⟨ad, eA, hx⟩ := Kd.at_int HRR.out.fr 0 (by omega) (by omega)
   cases eA
   rw [show (0 : Int).toNat = 0 from rfl, hfr.2] at hx
   have WQ : W.cell? ad = some (.int .i64 (j : Int)) := by rwa [I8] at hx
   have r9 : j < 64 := by omega
   have ks : 0 ≤ bm.addr := by rw [hadr]; exact DG
   have bq : bm.addr + 64 ≤ 4294967296 := by rw [hadr]; exact lW
   obtain ⟨o1, eS⟩ : ∃ o1, o1 = fJ b (k + 1) := ⟨_, rfl⟩
   rw [← eS, ← hadr] at hos
   have ix := ak eS
   have HOS := ak hos
   have HGB := ak hgv
   have pS := fv.out.cell 3 _ rfl
   clear hgv hfr hmem hj hnd hos hszs hbm Le hrr r8 Lh Lm Lo hadr eS hol hmn hsum aM
   go_wp2_with (first
    | ((with_reducible refine av (N := 26) rfl ?_); refine az rfl 62 (.tmp 3) rfl gX rfl _ _ _ fv.out Try.underlying62 rfl 5 (by kernel_rfl) rfl ?_)
    | ((with_reducible refine av (N := 28) rfl ?_); refine az rfl 76 (.tmp 5) rfl gA rfl _ _ _ hH.out Try.underlying76 rfl 2 (by kernel_rfl) rfl ?_)
    | (go_at_call 106; refine (HGV.out _ _ ⟨M2, A2, c2, some ad, c3, A4, c4, rfl, HRR.out⟩).mono ?_; rintro e W1 ⟨v9, rfl, eG, I⟩; rw [HGB.out] at eG; obtain ⟨nb, hnb⟩ : ∃ nb, nb = fq b (k + 1) a := ⟨_, rfl⟩; rw [← hnb] at eG; have HNB := ak hnb; have HNA := ak (show nb.addr = bm.addr by rw [hnb, ← HGB.out]; rfl); obtain ⟨wz, sx, sA, rfl, gz, fp, eH⟩ := eG; have HSZ := ak (lb HBW ag); obtain ⟨A7, c7, rfl⟩ := Kd.R_slice gz; obtain ⟨A8, c8, rfl⟩ := Kd.R_slice fp; obtain ⟨NM, hNM⟩ : ∃ NM, NM = nb.attrs.map vc := ⟨_, rfl⟩; rw [← hNM] at eH; have HNM := ak hNM; obtain ⟨A9, c9, rfl⟩ := Kd.R_slice eH; have aj := mv I fv; have cG := mv I bR; have jV := mv I hH; have bU := mv I bC; have ao := ak (ag.out.trans (I.mono ag.out.size)); have bb := ak (gz); have bp := ak (fp); have bN := ak (eH); clear hNM hnb gz fp eH I fv bR hH bC ag pS hx WQ)
    | (refine aK rfl 62 (.tmp 3) (.tmp 29) rfl gX (dj nb.addr nb.aff (.slice A7 nb.slots.length c7) (.slice A8 nb.free.length c8) (.slice A9 NM.length c9)) rfl rfl 62 _ aj.out 5 (by kernel_rfl) rfl rfl (dM _ _ rfl rfl rfl) ?_; intro W2 aa J; have aw := ak (aa); have cJ := gr cG aj J; have cr := gx jV aj J; have cD := gm bU aG J; have ay := gb ao cg J; have bK := gr bb aj J; have bX := gr bp aj J; have cC := gr bN aj J; have mg := (show W2.cell? ⟨gX, 0, none⟩ = some (.int .u32 bm.addr) from by rw [← HNA.out]; exact aa.cell 0 _ rfl); clear aa J aj cG jV bU ao bb bp bN)
    | ((with_reducible refine bG (b := .append) (xs := #[.tmp 30, .tmp 36]) rfl ?_); at_builtin; refine Kd.R_append (Kd.int .u32) (w0 := w) w.heap.size rfl (.tmp 30) (.tmp 36) 77 46 (.int .u32 0) 4 rfl Try.underlying77 jL rfl (by decide) (by omega) _ oo (bm.addr + (j : Int)) [.int .u32 (bm.addr + (j : Int))] (fun _ => True) (fun _ => False) rfl rfl rfl (fun _ hk => hk.elim) (fun _ _ => trivial) cJ.out ay.out ay.out.size (by have := HOL.out; omega) ?_; intro v_ W3 aW I J fP; rw [← HOS.out] at aW; have aC := ak (aw.out.grown J (aw.out.ne_row cJ.out (by decide))); have fg := ak (aW); have dm := ak (cr.out.grown J (cr.out.ne_row cJ.out (by decide))); have cd := ak (cD.out.grown J (cD.out.ne_row cJ.out (by decide))); have aE := ak (I); have b6 := ak (Kd.R_over bK.out cJ.out (by decide) J); have cy := ak (Kd.R_over bX.out cJ.out (by decide) J); have da := ak (Kd.R_over cC.out cJ.out (by decide) J); obtain ⟨AO, cO, rfl⟩ := Kd.R_slice aW; clear aW I J fP aw cJ cr cD ay bK bX cC mg))
   go_roundw
   case rel => exact ⟨k + 1, by omega, by go_num, ⟨by rw [← HNB.out]; exact ⟨_, _, _, _, HNM.out, aC.out, Kd.R_lower b6.out HSZ.out, Kd.R_lower cy.out HSZ.out, Kd.R_lower da.out HSZ.out⟩⟩, ⟨by rw [← ix.out]; exact fg.out⟩, dm, cd, aE⟩
   case measure => simp [intOf]; omega
  ·obtain rfl : k = m := by omega
   have hend : decide ((k : Int) < n) = false ∨ decide ((k : Int) < n) = true ∧ decide (0 < (fq b k a).free.length) = false := by
    rcases hmn.2.2 with h_ | h_
    ·left; simp; omega
    ·by_cases hq : (k : Int) < n
     ·right
      refine ⟨by simp; exact hq, ?_⟩
      have : (fq b k a).free.length = 0 := by
       show (b.free.drop k).length = 0
       rw [List.length_drop]
       omega
      rw [this]
      rfl
     ·left; simp; omega
   obtain ⟨bm, hbm⟩ : ∃ bm, bm = fq b k a := ⟨_, rfl⟩
   rw [← hbm] at fv HRR hend hrr
   have HBM := ak hbm
   have BZ := ak hrr.1
   have zx := ak hrr.2.1
   have lF := ak hrr.2.2.1
   have xj := ak hrr.2.2.2
   have pS := fv.out.cell 3 _ rfl
   clear hszs hbm Le hrr r8 Lh Lm Lo hol aM
   rcases hend with he | ⟨he, SY⟩
   all_goals
    go_wp2_with (first
     | ((with_reducible refine av (N := 38) rfl ?_); refine az rfl 62 (.tmp 3) rfl gX rfl _ _ _ fv.out Try.underlying62 rfl 5 (by kernel_rfl) rfl ?_)
     | (refine aK rfl 62 (.tmp 6) (.tmp 38) rfl gZ (dj bm.addr bm.aff (.slice A2 bm.slots.length c2) (.slice A3 bm.free.length c3) (.slice A4 M2.length c4)) rfl rfl 62 _ bC.out 5 (by kernel_rfl) rfl rfl (dM _ _ rfl rfl rfl) ?_; intro W1 aa J; have aj := gn fv aG J; have cG := gr bR bC J; have bU := ak (aa); have bb := gr zx bC J; have bp := gr lF bC J; have bN := gr xj bC J; have ao := gb ag cb J; clear aa J fv bR bC zx lF xj ag pS))
    refine bodyPost_ret (eX rfl _ _ gZ 62 _ (0, 0) _ rfl bU.out Try.underlying62 rfl (by kernel_rfl)) rfl ⟨_, _, rfl, ?_, by rw [← HOO.out]; exact cG.out, ao.out⟩
    rw [← HBM.out]
    exact ⟨_, _, _, rfl, bb.out, bp.out, by rw [← BZ.out]; exact bN.out⟩
end Go.Proofs.Ytemhalnhbgkbcaa.V
end

section
namespace Go.Proofs.Ytemhalnhbgkbcaa.V
structure Rd (W : World) (g : Nat) (ok : Nat → Prop) (v : Value) (l : List Int) (bad : Bool) : Prop where
 box : aH W g [v, .bool bad] 137
 vw : Kd.V (Kd.int .u8) 5 W 0 ok v l
 ng : ∀ k, ok k → k ≠ g
section
variable {W W1 : World} {g : Nat} {ok : Nat → Prop} {v : Value} {l : List Int} {bad : Bool}
theorem Rd.below (h : Rd W g ok v l bad) (hb : Below W.heap.size W W1) : Rd W1 g ok v l bad := ⟨h.box.below hb, Kd.V_below h.vw hb, h.ng⟩
theorem Rd.grown (h : Rd W g ok v l bad) {row : Option Nat} (hg : W.grownBy W1 row) (hr : ∀ k, ok k → some k ≠ row) (hn : some g ≠ row) : Rd W1 g ok v l bad := ⟨h.box.grown hg hn, Kd.V_grown h.vw hg hr, h.ng⟩
end
def cT (l : List Int) (bad : Bool) (n : Int) : List Int × List Int × Bool := if bad = false ∧ 0 ≤ n ∧ n ≤ l.length then (l.take n.toNat, l.drop n.toNat, false) else ([], l, true)
theorem oB {g : Nat} {ok : Nat → Prop} {v : Value} {l : List Int} {bad : Bool} (W : World) (h : Rd W g ok v l bad) :
  Calls Try.prog 103 #[.pointer (some ⟨g, 0, none⟩)] W fun e W' => e = .returned (.bool bad) ∧ Below W.heap.size W W' := by
 have h1 := h.box.cell 1 _ rfl
 clear h
 go_enter Try.func103, Try.ntmps103
 go_wp2
 go_ret
 exact ⟨rfl, Below.refl _ _⟩
theorem sB {g : Nat} {ok : Nat → Prop} {v : Value} {l : List Int} {bad : Bool} (W : World) (h : Rd W g ok v l bad) :
  Calls Try.prog 102 #[.pointer (some ⟨g, 0, none⟩)] W fun e W' => e = .returned (.tuple #[]) ∧ Rd W' g ok v l true ∧ W.grownBy W' (some g) := by
 have hb := h.box
 have H := ak h
 have h1 := h.box.cell 1 _ rfl
 have mL := h.box.frozen 1
 clear h
 go_enter Try.func102, Try.ntmps102
 go_wp2
 go_end0
 exact ⟨rfl, ⟨hb.set 1 (.bool true), Kd.V_far (p := ⟨g, 1, none⟩) H.out.vw (fun k hk => H.out.ng k hk) _, H.out.ng⟩, bs _ _ _ _⟩
theorem PI (A : Option Addr) (n c : Nat) (j : Int) (h0 : 0 ≤ j) (hm : j ≤ n) (hc : n ≤ c) : ∀ W : World, (Instr.slice 48 (.slice A n c) none (some (.int .i64 j)) (some (.int .i64 j))).run Try.prog W = .ok (.slice A j.toNat j.toNat) W := by
 intro W
 obtain ⟨i, hi, hz⟩ := Option.map_eq_some_iff.1 ja
 have hel : Try.prog.elem 48 = 5 := by simp [Program.elem, Try.underlying48]
 have hu : Try.prog.underlying 48 = some (.slice (Try.prog.elem 48)) := by rw [hel]; exact Try.underlying48
 have ha : (A.map fun x => x.add 0) = A := by cases A <;> simp [Addr.add]
 rw [run_slice_hm W 48 A n c hu .i64 .i64 j j h0 (Int.le_refl _) (by omega), hel]
 simp [sizeOf, typeInfo, hi, sliced, Result.andThen, ha]
theorem Rl (A : Option Addr) (n c : Nat) (j : Int) (h0 : 0 ≤ j) (hm : j ≤ n) : ∀ W : World, (Instr.slice 48 (.slice A n c) (some (.int .i64 j)) none none).run Try.prog W = .ok (.slice (if c = j.toNat then A else A.map (·.add (j.toNat * 1))) (n - j.toNat) (c - j.toNat)) W := by
 obtain ⟨i, hi, hz⟩ := Option.map_eq_some_iff.1 ja
 simp only [Prod.mk.injEq] at hz
 exact Kv 48 5 .i64 Try.underlying48 hi 1 hz.2.1 A n c j h0 hm
theorem NU {W : World} {ok : Nat → Prop} {A : Option Addr} {l : List Int} (hF : Kd.F (Kd.int .u8) W ok A l.length l) (m : Nat) (hm : m ≤ l.length) : Kd.V (Kd.int .u8) 5 W 0 ok (.slice A m m) (l.take m) :=
 ⟨A, m, by rw [List.length_take, Nat.min_eq_left hm], by rw [List.length_take]; omega, Kd.F_take hF hm⟩
theorem NV {W : World} {ok : Nat → Prop} {A : Option Addr} {l : List Int} {c : Nat} (hF : Kd.F (Kd.int .u8) W ok A l.length l) (m : Nat) (hm : m ≤ l.length) (hc : l.length ≤ c) : Kd.V (Kd.int .u8) 5 W 0 ok (.slice (if c = m then A else A.map (·.add (m * 1))) (l.length - m) (c - m)) (l.drop m) :=
 ⟨_, c - m, by rw [List.length_drop]; rfl, by rw [List.length_drop]; omega, Kd.F_cut hF hm hc⟩
set_option maxHeartbeats 1000000 in
theorem qt {g : Nat} {ok : Nat → Prop} {v : Value} {l : List Int} {bad : Bool} (n : Int) (lT : -9223372036854775808 ≤ n) (ov : n ≤ 9223372036854775807) (W : World) (h : Rd W g ok v l bad) :
  Calls Try.prog 73 #[.pointer (some ⟨g, 0, none⟩), .int .i64 n] W fun e W' => ∃ u v', e = .returned u ∧ Kd.V (Kd.int .u8) 5 W' 0 ok u (cT l bad n).1 ∧ Rd W' g ok v' (cT l bad n).2.1 (cT l bad n).2.2 ∧ W.grownBy W' (some g) := by
 have H := ak h
 obtain ⟨A, c, rfl, hc, hF⟩ := h.vw
 have HF := ak hF
 have h0 := h.box.cell 0 _ rfl
 by_cases hg : bad = false ∧ 0 ≤ n ∧ n ≤ l.length
 ·have HP := ak (show cT l bad n = (l.take n.toNat, l.drop n.toNat, false) from if_pos hg)
  obtain ⟨rfl, BQ, iu⟩ := hg
  rw [HP.out]
  have b1 : decide (n < 0) = false := by simp; omega
  have b2 : decide ((l.length : Int) < n) = false := by simp; omega
  have b3 : decide (n > (l.length : Int)) = false := by simp; omega
  have q1 := PI A l.length c n BQ iu hc
  have q2 := Rl A l.length c n BQ iu
  have Qi := ak (NU hF n.toNat (by omega))
  have OW := NV hF n.toNat (by omega) hc
  obtain ⟨A2, S1⟩ : ∃ A2, A2 = (if c = n.toNat then A else A.map (·.add (n.toNat * 1))) := ⟨_, rfl⟩
  rw [← S1] at q2 OW
  have Yb := ak OW
  clear S1 OW
  clear h hF
  go_enter Try.func73, Try.ntmps73
  go_wp2_with (first
   | (go_at_call 103; refine (oB _ H.out).mono ?_; rintro e W1 ⟨rfl, bq⟩; have H1 := ak (H.out.below bq); have bP := ak bq; have S3 := H1.out.box.cell 0 _ rfl; have mL := H1.out.box.frozen 0; clear h0 bq))
  go_ret
  have hS := bs W1 g 0 (.slice A2 (l.length - n.toNat) (c - n.toNat))
  have hng : ∀ k, ok k → some k ≠ some g := fun k hk e => H.out.ng k hk (Option.some.inj e)
  refine ⟨_, _, rfl, Kd.V_grown (Kd.V_step Qi.out (fun k hk hl => bP.out.block k hl)) hS hng, ⟨H1.out.box.set 0 _, Kd.V_grown (Kd.V_step Yb.out (fun k hk hl => bP.out.block k hl)) hS hng, H.out.ng⟩, ?_⟩
  exact (iv bP.out _).trans hS
 ·have HP := ak (show cT l bad n = ([], l, true) from if_neg hg)
  rw [HP.out]
  clear h hF
  cases hbd : bad with
  | true =>
   subst hbd
   clear hg
   go_enter Try.func73, Try.ntmps73
   go_wp2_with (first
    | (go_at_call 103; refine (oB _ H.out).mono ?_; rintro e W1 ⟨rfl, bq⟩; have H1 := ak (H.out.below bq); have bP := ak bq; clear h0 bq)
    | (go_at_call 102; refine (sB _ H1.out).mono ?_; rintro e W2 ⟨rfl, pI, nn⟩; have H2 := ak pI; have mz := ak nn; clear pI nn))
   go_ret
   exact ⟨_, _, rfl, Kd.V_nil _ _ _ _ _, H2.out, (iv bP.out _).trans mz.out⟩
  | false =>
   subst hbd
   by_cases hneg : n < 0
   ·have b1 : decide (n < 0) = true := by simp; omega
    clear hg
    go_enter Try.func73, Try.ntmps73
    go_wp2_with (first
     | (go_at_call 103; refine (oB _ H.out).mono ?_; rintro e W1 ⟨rfl, bq⟩; have H1 := ak (H.out.below bq); have bP := ak bq; clear h0 bq)
     | (go_at_call 102; refine (sB _ H1.out).mono ?_; rintro e W2 ⟨rfl, pI, nn⟩; have H2 := ak pI; have mz := ak nn; clear pI nn))
    go_ret
    exact ⟨_, _, rfl, Kd.V_nil _ _ _ _ _, H2.out, (iv bP.out _).trans mz.out⟩
   ·have hbig : (l.length : Int) < n := by
     rcases Int.lt_or_le (l.length : Int) n with h | h
     ·exact h
     ·exact absurd ⟨rfl, by omega, h⟩ hg
    have b1 : decide (n < 0) = false := by simp; omega
    have b2 : decide ((l.length : Int) < n) = true := by simp; omega
    clear hg
    go_enter Try.func73, Try.ntmps73
    go_wp2_with (first
     | (go_at_call 103; refine (oB _ H.out).mono ?_; rintro e W1 ⟨rfl, bq⟩; have H1 := ak (H.out.below bq); have bP := ak bq; have S3 := H1.out.box.cell 0 _ rfl; clear h0 bq)
     | (go_at_call 102; refine (sB _ H1.out).mono ?_; rintro e W2 ⟨rfl, pI, nn⟩; have H2 := ak pI; have mz := ak nn; clear pI nn))
    go_ret
    exact ⟨_, _, rfl, Kd.V_nil _ _ _ _ _, H2.out, (iv bP.out _).trans mz.out⟩
end Go.Proofs.Ytemhalnhbgkbcaa.V
end

section
namespace Go.Proofs.Ytemhalnhbgkbcaa.V
theorem Kr {g : Nat} {ok : Nat → Prop} {v : Value} {l : List Int} {bad : Bool} (W : World) (h : Rd W g ok v l bad) :
  Calls Try.prog 74 #[.pointer (some ⟨g, 0, none⟩)] W fun e W' => e = .returned (.bool (!bad && ((l.length : Int) == 0))) ∧ Below W.heap.size W W' := by
 have H := ak h
 obtain ⟨A, c, rfl, hc, hF⟩ := h.vw
 clear h hF
 cases bad with
 | true =>
  go_enter Try.func74, Try.ntmps74
  go_wp2_with (first
   | (go_at_call 103; refine (oB _ H.out).mono ?_; rintro e W1 ⟨rfl, bq⟩; have bP := ak bq; clear bq))
  go_ret
  exact ⟨rfl, bP.out⟩
 | false =>
  go_enter Try.func74, Try.ntmps74
  go_wp2_with (first
   | (go_at_call 103; refine (oB _ H.out).mono ?_; rintro e W1 ⟨rfl, bq⟩; have S3 := (H.out.below bq).box.cell 0 _ rfl; have bP := ak bq; clear bq))
  go_ret
  exact ⟨rfl, bP.out⟩
def fe (l : List Int) : Nat := l.foldl (fun n c => n * 256 + c.toNat) 0
theorem Ib (l : List Int) (x : Int) : fe (l ++ [x]) = fe l * 256 + x.toNat := by simp [fe, List.foldl_append]
theorem Fw : ∀ (l : List Int), fV l → ∀ n, l.foldl (fun n c => n * 256 + c.toNat) n < (n + 1) * 256 ^ l.length
 | [], _, n => by simp
 | x :: l, h, n => by
  have h1 := Fw l (fun y hy => h y (by simp [hy])) (n * 256 + x.toNat)
  have h2 := h x (by simp)
  have h3 : (n * 256 + x.toNat + 1) * 256 ^ l.length ≤ ((n + 1) * 256) * 256 ^ l.length := Nat.mul_le_mul_right _ (by omega)
  rw [List.foldl_cons, List.length_cons, Nat.pow_succ, Nat.mul_comm (256 ^ l.length) 256, ← Nat.mul_assoc]
  omega
theorem AX {l : List Int} (h : fV l) : fe l < 256 ^ l.length := by
 have := Fw l h 0
 simpa [fe] using this
theorem H9 (n b : Nat) (hn : n < 72057594037927936) (hb : b < 256) : Go.bits .or .u64 ((n : Int) * 256) (b : Int) = ((n * 256 + b : Nat) : Int) := by
 rw [show (n : Int) * 256 = ((n * 256 : Nat) : Int) by omega, u64_or_nat _ _ (by omega) (by omega), nat_join 8 _ _ (by omega) (by omega)]
set_option maxHeartbeats 1000000 in
theorem K4 {g : Nat} {ok : Nat → Prop} {v : Value} {l : List Int} {bad : Bool} (m : Nat) (qI : 1 ≤ m) (wa : m ≤ 7) (hl : fV l) (W : World) (h : Rd W g ok v l bad) :
  Calls Try.prog 70 #[.pointer (some ⟨g, 0, none⟩), .int .i64 (m : Int)] W fun e W' => ∃ v', e = .returned (.int .u64 (fe (cT l bad m).1 : Nat)) ∧ Rd W' g ok v' (cT l bad m).2.1 (cT l bad m).2.2 ∧ W.grownBy W' (some g) := by
 have H := ak h
 obtain ⟨p, hp⟩ : ∃ p, p = cT l bad m := ⟨_, rfl⟩
 have SW : fV p.1 := by
  rw [hp]; unfold cT; split
  ·exact fun x hx => hl x (List.mem_of_mem_take hx)
  ·intro x hx; simp at hx
 have hpl : p.1.length ≤ 7 := by
  rw [hp]; unfold cT; split
  ·simp; omega
  ·simp
 rw [← hp]
 have HP := ak hp
 have LU := ak SW
 obtain ⟨L, l', bad'⟩ := p
 have b1 : decide ((m : Int) < 1) = false := by simp; omega
 have b2 : decide (8 < (m : Int)) = false := by simp; omega
 have b3 : decide ((m : Int) > 8) = false := by simp; omega
 clear h hp SW
 dsimp only at LU hpl ⊢
 go_enter Try.func70, Try.ntmps70
 go_wp2_with (first
  | (go_at_call 73; refine (qt (m : Int) (by omega) (by omega) _ H.out).mono ?_; rw [← HP.out]; rintro e W1 ⟨u, v', rfl, hv, hr, hg⟩; have HR := ak hr; have HG := ak hg; obtain ⟨A, c, rfl, hc, hF⟩ := hv; have HF := ak hF; clear hr hg hF))
 go_loopw [5, 7, 20] (fun s _ i V => ∃ k : Nat, k ≤ L.length ∧ V = W1 ∧ i = .int .i64 k ∧ s = .int .u64 ((fe (L.take k) : Nat) : Int)) (fun _ _ i _ => L.length - (intOf i).toNat)
 case atStart => exact ⟨0, by omega, rfl, rfl, rfl⟩
 case round =>
  obtain ⟨k, hk, rfl, rfl, rfl⟩ := hrel
  by_cases hkn : k < L.length
  ·have hkb : decide ((k : Int) < (L.length : Int)) = true := by simp; omega
   obtain ⟨ad, eA, hx⟩ := Kd.at_int (HF.out wr (fun _ _ _ => rfl)) k (by omega) (by omega)
   cases eA
   rw [Int.toNat_natCast] at hx
   have p1 : ((k : Int) < (L.length : Int)) = True := eq_true (by omega)
   obtain ⟨z, hz⟩ : ∃ z : Nat, rd L k = (z : Int) := ⟨(rd L k).toNat, by have := (j2 LU.out k).1; omega⟩
   have qH : z < 256 := by have := (j2 LU.out k).2; omega
   rw [hz] at hx
   obtain ⟨n, hn⟩ : ∃ n, n = fe (L.take k) := ⟨_, rfl⟩
   have hnl : n < 72057594037927936 := by
    have h1 := AX (l := L.take k) (fun x hx => LU.out x (List.mem_of_mem_take hx))
    have h2 : (256 : Nat) ^ (L.take k).length ≤ 256 ^ 7 := Nat.pow_le_pow_right (by omega) (by rw [List.length_take]; omega)
    rw [hn]
    exact Nat.lt_of_lt_of_le h1 (Nat.le_trans h2 (by decide))
   have hnx : fe (L.take (k + 1)) = n * 256 + z := by
    rw [List.take_add_one, List.getElem?_eq_getElem hkn]
    have e : L[k] = (z : Int) := by rw [← hz]; simp [rd, List.getD, hkn]
    rw [e]
    show fe (L.take k ++ [(z : Int)]) = _
    rw [Ib, ← hn, Int.toNat_natCast]
   have HNX := ak hnx
   rw [← hn]
   clear hn hnx hz
   go_wp2
   rw [H9 n z hnl qH]
   exact ⟨⟨k + 1, by omega, trivial, by go_num, by rw [HNX.out]⟩, by simp [intOf]; omega⟩
  ·obtain rfl : k = L.length := by omega
   have hkb : decide ((L.length : Int) < (L.length : Int)) = false := by simp
   rw [List.take_of_length_le (Nat.le_refl L.length)]
   go_wp2
   go_ret
   exact ⟨_, rfl, HR.out, HG.out⟩
theorem yE {g : Nat} {ok : Nat → Prop} {v : Value} {l : List Int} {bad : Bool} (hl : fV l) (W : World) (h : Rd W g ok v l bad) :
  Calls Try.prog 70 #[.pointer (some ⟨g, 0, none⟩), .int .i64 1] W fun e W' => ∃ v', e = .returned (.int .u64 (fe (cT l bad 1).1 : Nat)) ∧ Rd W' g ok v' (cT l bad 1).2.1 (cT l bad 1).2.2 ∧ W.grownBy W' (some g) := K4 1 (by omega) (by omega) hl W h
theorem Ou {g : Nat} {ok : Nat → Prop} {v : Value} {l : List Int} {bad : Bool} (hl : fV l) (W : World) (h : Rd W g ok v l bad) :
  Calls Try.prog 70 #[.pointer (some ⟨g, 0, none⟩), .int .i64 4] W fun e W' => ∃ v', e = .returned (.int .u64 (fe (cT l bad 4).1 : Nat)) ∧ Rd W' g ok v' (cT l bad 4).2.1 (cT l bad 4).2.2 ∧ W.grownBy W' (some g) := K4 4 (by omega) (by omega) hl W h
theorem iS {l : List Int} (hl : fV l) (bad : Bool) (n : Int) : fV (cT l bad n).1 ∧ fV (cT l bad n).2.1 := by
 unfold cT
 split
 ·exact ⟨fun x hx => hl x (List.mem_of_mem_take hx), fun x hx => hl x (List.mem_of_mem_drop hx)⟩
 ·exact ⟨fun x hx => by simp at hx, hl⟩
theorem vG (l : List Int) (bad : Bool) (n : Nat) : (cT l bad n).1.length ≤ n := by
 unfold cT
 split
 ·rw [List.length_take]; omega
 ·simp
theorem xo {l : List Int} (hl : fV l) (bad : Bool) : fe (cT l bad 1).1 < 256 := by
 have h1 := AX (iS hl bad 1).1
 have h2 := vG l bad 1
 exact Nat.lt_of_lt_of_le h1 (Nat.pow_le_pow_right (by omega) h2)
def ia (l : List Int) (bad : Bool) : List Int × List Int × Bool := cT (cT l bad 1).2.1 ((cT l bad 1).2.2 || decide (64 < fe (cT l bad 1).1)) (fe (cT l bad 1).1 : Nat)
set_option maxHeartbeats 1000000 in
theorem yb {g : Nat} {ok : Nat → Prop} {v : Value} {l : List Int} {bad : Bool} (hl : fV l) (W : World) (h : Rd W g ok v l bad) :
  Calls Try.prog 71 #[.pointer (some ⟨g, 0, none⟩)] W fun e W' => ∃ v', e = .returned (.string (strOfNums (ia l bad).1)) ∧ Rd W' g ok v' (ia l bad).2.1 (ia l bad).2.2 ∧ W.grownBy W' (some g) := by
 have H := ak h
 have HL := ak hl
 have hn := xo hl bad
 have HU := ak (yE hl (bad := bad) (g := g) (ok := ok) (v := v))
 have HT : Aside0 (ia l bad = cT (cT l bad 1).2.1 ((cT l bad 1).2.2 || decide (64 < fe (cT l bad 1).1)) (fe (cT l bad 1).1 : Nat)) := ⟨rfl⟩
 generalize hp : cT l bad 1 = p at hn HU HT
 generalize hq : ia l bad = q at HT ⊢
 clear hp hq
 obtain ⟨L, l1, Ky⟩ := p
 dsimp only at hn HU HT
 generalize fe L = n at hn HU HT
 by_cases XO : 64 < n
 ·have b1 : decide (64 < n) = true := by simp; omega
  have HQ := ak (show q = cT l1 true (n : Int) by rw [HT.out, b1, Bool.or_true])
  clear h hl HT
  go_enter Try.func71, Try.ntmps71
  go_wp2_with (first
   | (go_at_call 70; refine (HU.out _ H.out).mono ?_; rintro e W1 ⟨v1, rfl, nK, iu⟩; have H1 := ak nK; have vn := ak iu; clear nK iu)
   | (go_at_call 102; refine (sB _ H1.out).mono ?_; rintro e W2 ⟨rfl, pI, nn⟩; have H2 := ak pI; have mz := ak (vn.out.trans nn); clear pI nn)
   | (go_at_call 73; refine (qt (n : Int) (by omega) (by omega) _ H2.out).mono ?_; rw [← HQ.out]; rintro e W3 ⟨u, v3, rfl, OV, BO, nM⟩; have H3 := ak BO; have Ge := ak (mz.out.trans nM); obtain ⟨A3, c3, rfl, Pf, IK⟩ := OV; have hst := Kd.C_string (P := Try.prog) (src := 48) (dst := 9) (c := c3) Try.underlying48 Try.underlying5 Try.underlying9 (IK W3 (fun _ _ _ => rfl)); clear BO nM IK))
  go_ret
  exact ⟨_, rfl, H3.out, Ge.out⟩
 ·have b1 : decide (64 < n) = false := by simp; omega
  have HQ := ak (show q = cT l1 Ky (n : Int) by rw [HT.out, b1, Bool.or_false])
  clear h hl HT
  go_enter Try.func71, Try.ntmps71
  go_wp2_with (first
   | (go_at_call 70; refine (HU.out _ H.out).mono ?_; rintro e W1 ⟨v1, rfl, nK, iu⟩; have H1 := ak nK; have vn := ak iu; clear nK iu)
   | (go_at_call 73; refine (qt (n : Int) (by omega) (by omega) _ H1.out).mono ?_; rw [← HQ.out]; rintro e W3 ⟨u, v3, rfl, OV, BO, nM⟩; have H3 := ak BO; have Ge := ak (vn.out.trans nM); obtain ⟨A3, c3, rfl, Pf, IK⟩ := OV; have hst := Kd.C_string (P := Try.prog) (src := 48) (dst := 9) (c := c3) Try.underlying48 Try.underlying5 Try.underlying9 (IK W3 (fun _ _ _ => rfl)); clear BO nM IK))
  go_ret
  exact ⟨_, rfl, H3.out, Ge.out⟩
theorem GA (l : List Int) (A : Option Addr) (c : Nat) (w : World) (hC : Kd.C (Kd.int .u8) w A l.length l) (hc : l.length ≤ c) (hl : l.length ≤ 4294967296) :
  Calls Try.prog 69 #[.slice A l.length c] w fun e w' => ∃ g v, e = .returned (.pointer (some ⟨g, 0, none⟩)) ∧ Rd w' g (fun k => w.heap.size ≤ k ∧ k ≠ g) v l false ∧ w.heap.size ≤ g ∧ Below w.heap.size w w' := by
 have HC := ak hC
 have HF := ak (show dB.f l = some l from if_pos hl)
 clear hC
 go_enter Try.func69, Try.ntmps69
 go_wp2_with (first
  | (go_at_call 91; refine (dB.calls A c l l w HC.out hc HF.out).mono ?_; rintro e W1 ⟨v1, rfl, eS, bq⟩; have ix := ak eS; have bP := ak bq; obtain ⟨A1, c1, rfl⟩ := Kd.R_slice eS; clear eS bq)
  | (refine aD rfl 137 (.tmp 5) rfl _ rfl ?_; intro g W2 hg hbx dD))
 go_ret
 have hW : W1.heap.size ≤ g := hg
 refine ⟨g, _, rfl, ⟨hbx, ?_, fun k hk => hk.2⟩, Nat.le_trans bP.out.size hW, bP.out.trans (dD.mono bP.out.size)⟩
 refine Kd.V_below (Kd.R_V (base := w.heap.size) (Kd.R_mono (Kd.R_bound ix.out) (fun k hk => ⟨hk.2.1, fun e => ?_⟩))) dD
 have := hk.2.2.1
 omega
end Go.Proofs.Ytemhalnhbgkbcaa.V
end

