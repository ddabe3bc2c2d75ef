/- The law ImagePlays for every input: texts of ours, put together (part 6 of 17). No further condition. -/
import Derived.Test.YtemhalnhbgkbcaaCImagePlaysx2
import Derived.Test.YtemhalnhbgkbcaaCImagePlaysx3
import Derived.Test.YtemhalnhbgkbcaaCImagePlaysx4
set_option linter.unusedVariables false
set_option linter.unusedSimpArgs false
open Go.RowKit Go.Proofs.YtemhalnhbgkbcaaW.PrintWords Go.Proofs.YtemhalnhbgkbcaaW.PrintLast Go.Proofs.YtemhalnhbgkbcaaW.PrintMore Go.Proofs.Ytemhalnhbgkbcaa.Z
section
namespace Go.Proofs.Ytemhalnhbgkbcaa.V
attribute [local go_sem] ea dY eB ez dq dp dZ dX
def jW.f (bu : Int) (bE : ByteArray) (bM : List Int) (cN : List Int) (bL : List (S76)) : Option (Int × ByteArray × List Int × List Int × (List (S76))) := (some (([] : List Int) : List Int)).bind fun mB => (if mB.length + bM.length < 17592186044416 then ((some (([] : List Int) : List Int)).bind fun jo => (if jo.length + cN.length < 17592186044416 then ((some (([] : List (S76)) : List (S76))).bind fun gq => (if gq.length + bL.length < 4398046511104 then (some (bu, bE, (mB ++ bM), (jo ++ cN), (gq ++ bL))) else (none))) else (none))) else (none))
set_option maxHeartbeats 8000000 in
set_option maxRecDepth 100000 in
theorem jW.calls (bu : Int) (bE : ByteArray) (fC : Option Addr) (fw : Nat) (bM : List Int) (fb : Option Addr) (e9 : Nat) (cN : List Int) (eP : Option Addr) (eI : Nat) (bL : List (S76)) (r1 : Int) (r2 : ByteArray) (r3 : List Int) (r4 : List Int) (r5 : List (S76)) (w : World) (sV : Kd.C (Kd.int .i64) w fC bM.length bM) (ta : bM.length ≤ fw) (sU : Kd.C (Kd.int .i64) w fb cN.length cN) (sZ : cN.length ≤ e9) (sS : Kd.C ib w eP bL.length bL) (sY : bL.length ≤ eI) (h : jW.f bu bE bM cN bL = some (r1, r2, r3, r4, r5)) :
  Calls Try.prog 85 #[.agg #[.int .u32 bu, .string bE, .slice fC bM.length fw, .slice fb cN.length e9, .slice eP bL.length eI]] w fun e w' => ∃ CF CE Hi : Value, e = .returned (.agg #[.int .u32 r1, .string r2, CF, CE, Hi]) ∧ Kd.R (Kd.int .i64) 3 w' w.heap.size (fun k_ => some k_ ≠ (CE : Value).ownBlock) CF r3 ∧ Kd.R (Kd.int .i64) 3 w' w.heap.size (fun k_ => some k_ ≠ (CF : Value).ownBlock) CE r4 ∧ Kd.R ib 76 w' w.heap.size (fun _ => True) Hi r5 ∧ Below w.heap.size w w' := by
 have J5 := Try.underlying62
 have rh := ak sV
 have Ay := ak ta
 clear sV ta
 have xA := ak sU
 have Ax := ak sZ
 clear sU sZ
 have vQ := ak sS
 have Aw := ak sY
 clear sS sY
 have HB := ak (Below.refl w.heap.size w)
 have H : ((some (([] : List Int) : List Int)).bind fun mB => (if mB.length + bM.length < 17592186044416 then ((some (([] : List Int) : List Int)).bind fun jo => (if jo.length + cN.length < 17592186044416 then ((some (([] : List (S76)) : List (S76))).bind fun gq => (if gq.length + bL.length < 4398046511104 then (some (bu, bE, (mB ++ bM), (jo ++ cN), (gq ++ bL))) else (none))) else (none))) else (none))) = some (r1, r2, r3, r4, r5) := h
 clear h
 obtain ⟨mB, uQ⟩ : ∃ y_ : List Int, y_ = (([] : List Int)) := ⟨_, rfl⟩
 replace H : (if mB.length + bM.length < 17592186044416 then ((some (([] : List Int) : List Int)).bind fun jo => (if jo.length + cN.length < 17592186044416 then ((some (([] : List (S76)) : List (S76))).bind fun gq => (if gq.length + bL.length < 4398046511104 then (some (bu, bE, (mB ++ bM), (jo ++ cN), (gq ++ bL))) else (none))) else (none))) else (none)) = some (r1, r2, r3, r4, r5) := by first | (rw [uQ]; with_reducible exact H) | (have fL := (Option.bind_some _ _).symm.trans H; rw [uQ]; with_reducible exact fL) | (have fL := (Option.bind_some _ _).symm.trans H; with_reducible exact fL) | with_reducible exact H | (rw [uQ]; exact H) | exact H
 have F1 := ak uQ
 clear uQ
 by_cases c2 : mB.length + bM.length < 17592186044416
 ·rw [if_pos c2] at H
  have KG := ak c2
  clear c2
  obtain ⟨gu, uP⟩ : ∃ y_ : List Int, y_ = (mB ++ bM) := ⟨_, rfl⟩
  replace H : ((some (([] : List Int) : List Int)).bind fun jo => (if jo.length + cN.length < 17592186044416 then ((some (([] : List (S76)) : List (S76))).bind fun gq => (if gq.length + bL.length < 4398046511104 then (some (bu, bE, gu, (jo ++ cN), (gq ++ bL))) else (none))) else (none))) = some (r1, r2, r3, r4, r5) := by first | (rw [uP]; with_reducible exact H) | (have fL := (Option.bind_some _ _).symm.trans H; rw [uP]; with_reducible exact fL) | (have fL := (Option.bind_some _ _).symm.trans H; with_reducible exact fL) | with_reducible exact H | (rw [uP]; exact H) | exact H
  have NZ := ak uP
  clear uP
  obtain ⟨jo, uO⟩ : ∃ y_ : List Int, y_ = (([] : List Int)) := ⟨_, rfl⟩
  replace H : (if jo.length + cN.length < 17592186044416 then ((some (([] : List (S76)) : List (S76))).bind fun gq => (if gq.length + bL.length < 4398046511104 then (some (bu, bE, gu, (jo ++ cN), (gq ++ bL))) else (none))) else (none)) = some (r1, r2, r3, r4, r5) := by first | (rw [uO]; with_reducible exact H) | (have fL := (Option.bind_some _ _).symm.trans H; rw [uO]; with_reducible exact fL) | (have fL := (Option.bind_some _ _).symm.trans H; with_reducible exact fL) | with_reducible exact H | (rw [uO]; exact H) | exact H
  have F0 := ak uO
  clear uO
  by_cases c3 : jo.length + cN.length < 17592186044416
  ·rw [if_pos c3] at H
   have TX := ak c3
   clear c3
   obtain ⟨kM, uN⟩ : ∃ y_ : List Int, y_ = (jo ++ cN) := ⟨_, rfl⟩
   replace H : ((some (([] : List (S76)) : List (S76))).bind fun gq => (if gq.length + bL.length < 4398046511104 then (some (bu, bE, gu, kM, (gq ++ bL))) else (none))) = some (r1, r2, r3, r4, r5) := by first | (rw [uN]; with_reducible exact H) | (have fL := (Option.bind_some _ _).symm.trans H; rw [uN]; with_reducible exact fL) | (have fL := (Option.bind_some _ _).symm.trans H; with_reducible exact fL) | with_reducible exact H | (rw [uN]; exact H) | exact H
   have NY := ak uN
   clear uN
   obtain ⟨gq, uM⟩ : ∃ y_ : List (S76), y_ = (([] : List (S76))) := ⟨_, rfl⟩
   replace H : (if gq.length + bL.length < 4398046511104 then (some (bu, bE, gu, kM, (gq ++ bL))) else (none)) = some (r1, r2, r3, r4, r5) := by first | (rw [uM]; with_reducible exact H) | (have fL := (Option.bind_some _ _).symm.trans H; rw [uM]; with_reducible exact fL) | (have fL := (Option.bind_some _ _).symm.trans H; with_reducible exact fL) | with_reducible exact H | (rw [uM]; exact H) | exact H
   have FZ := ak uM
   clear uM
   by_cases c4 : gq.length + bL.length < 4398046511104
   ·rw [if_pos c4] at H
    have TW := ak c4
    clear c4
    obtain ⟨qf, uL⟩ : ∃ y_ : List (S76), y_ = (gq ++ bL) := ⟨_, rfl⟩
    replace H : (some (bu, bE, gu, kM, qf)) = some (r1, r2, r3, r4, r5) := by first | (rw [uL]; with_reducible exact H) | (have fL := (Option.bind_some _ _).symm.trans H; rw [uL]; with_reducible exact fL) | (have fL := (Option.bind_some _ _).symm.trans H; with_reducible exact fL) | with_reducible exact H | (rw [uL]; exact H) | exact H
    have NW := ak uL
    clear uL
    simp only [Option.some.injEq, Prod.mk.injEq] at H
    obtain ⟨rfl, rfl, rfl, rfl, rfl⟩ := H
    go_enter Try.func85, Try.ntmps85
    go_wp2_with (first | ((with_reducible refine av (N := 1) rfl ?_); refine fi ?hg (N := 1) ?hd (cs := #[.int .u32 bu, .string bE, .slice fC bM.length fw, .slice fb cN.length e9, .slice eP bL.length eI]) (t := 62) ?hr ?_; (case hd => rfl); (case hg => rfl); (case hr => first | (go_simp; done) | (go_simp; rfl)); intro cn hg w5 hbox hb; have bV := ak (bg (by repeat (first | (with_reducible first | exact HB.out | apply af | apply ab | apply ai) | exact HB.out)) hb); have b4 := ak (hbox); have df := ak ((by rw [hg]; exact (bf (by repeat (first | (with_reducible first | exact HB.out | apply af | apply ab | apply ai) | exact HB.out))) : w.heap.size ≤ cn)); have dP := ak ((by rw [hg]; exact (bf (by repeat (first | (with_reducible first | exact HB.out | apply af | apply ab | apply ai) | exact HB.out))) : w.heap.size ≤ cn)); clear HB; have HB := bV; have aX := b4; have Wr := df; have iQ := dP; clear bV b4 df dP; clear hb hbox hg) | ((with_reducible refine av (N := 2) rfl ?_); refine fi ?hg (N := 2) ?hd (cs := #[.int .u32 0, .string (⟨#[]⟩ : ByteArray), .slice none 0 0, .slice none 0 0, .slice none 0 0]) (t := 62) ?hr ?_; (case hd => rfl); (case hg => rfl); (case hr => first | (go_simp; done) | (go_simp; rfl)); intro ev hg w6 hbox hb; have bV := ak (e7 (g := cn) (o := .cells #[.int .u32 bu, .string bE, .slice fC bM.length fw, .slice fb cN.length e9, .slice eP bL.length eI] 62 (0, 0)) (by (with_reducible repeat (first | refine aI ?_ _ | refine aT ?_ | refine aJ ?_ _)); exact aX.out) hb); have b4 := ak (bg (by repeat (first | (with_reducible first | exact HB.out | apply af | apply ab | apply ai | refine aN ?_ iQ.out) | exact HB.out)) hb); have df := ak (hbox); have dP := ak ((by rw [hg]; exact (bf (by repeat (first | (with_reducible first | exact HB.out | apply af | apply ab | apply ai | refine aN ?_ iQ.out) | exact HB.out))) : w.heap.size ≤ ev)); have jr := ak ((by rw [hg]; exact (bf (by repeat (first | (with_reducible first | exact HB.out | apply af | apply ab | apply ai | refine aN ?_ iQ.out) | exact HB.out))) : w.heap.size ≤ ev)); have mI := ak ((by rw [hg]; exact Nat.ne_of_lt (jZ (g := cn) (o := .cells #[.int .u32 bu, .string bE, .slice fC bM.length fw, .slice fb cN.length e9, .slice eP bL.length eI] 62 (0, 0)) (by (with_reducible repeat (first | refine aI ?_ _ | refine aT ?_ | refine aJ ?_ _)); exact aX.out)) : cn ≠ ev)); have qk := ak ((by rw [hg]; exact Nat.ne_of_gt (jZ (g := cn) (o := .cells #[.int .u32 bu, .string bE, .slice fC bM.length fw, .slice fb cN.length e9, .slice eP bL.length eI] 62 (0, 0)) (by (with_reducible repeat (first | refine aI ?_ _ | refine aT ?_ | refine aJ ?_ _)); exact aX.out)) : ev ≠ cn)); clear aX; clear HB; have aX := bV; have HB := b4; have dV := df; have Wq := dP; have kk := jr; have Cm := mI; have nQ := qk; clear bV b4 df dP jr mI qk; clear hb hbox hg) | ((with_reducible refine av (N := 3) rfl ?_); refine Kd.R_lit (Kd.int .i64) _ 3 ?hg (N := 3) ?hd (xs := ([] : List Int)) (inner := []) (ok := fun _ => True) (okp := fun _ => True) ?hr ?hp (fun _ hk => hk) trivial (Below.refl _ _) (Nat.le_refl _) (by simp) ?_; (case hd => rfl); (case hg => rfl); (case hr => first | (go_simp; done) | (go_simp; rfl)); (case hp => exact (cP.none _ _)); intro Om w7 nm hb J qU; clear J qU; (first | rw [← F1.out] at nm | (simp only [Int.reduceToNat] at nm; rw [← F1.out] at nm)); have bV := ak (Kd.R_lower nm (bf (by repeat (first | (with_reducible first | exact HB.out | apply af | apply ab | apply ai | refine aN ?_ iQ.out | refine aN ?_ kk.out) | exact HB.out)))); have b4 := ak (e7 (g := cn) (o := .cells #[.int .u32 bu, .string bE, .slice fC bM.length fw, .slice fb cN.length e9, .slice eP bL.length eI] 62 (0, 0)) (by (with_reducible repeat (first | refine aI ?_ _ | refine aT ?_ | refine aJ ?_ _)); exact aX.out) hb); have df := ak (e7 (g := ev) (o := .cells #[.int .u32 0, .string (⟨#[]⟩ : ByteArray), .slice none 0 0, .slice none 0 0, .slice none 0 0] 62 (0, 0)) (by (with_reducible repeat (first | refine aI ?_ _ | refine aT ?_ | refine aJ ?_ _)); exact dV.out) hb); have dP := ak (bg (by repeat (first | (with_reducible first | exact HB.out | apply af | apply ab | apply ai | refine aN ?_ iQ.out | refine aN ?_ kk.out) | exact HB.out)) hb); clear aX; clear dV; clear HB; have xC := bV; have aX := b4; have dV := df; have HB := dP; clear bV b4 df dP; clear hb nm; have YU := Cm.out; have YR := nQ.out; have Wp : w7.cell? ⟨cn, 0, none⟩ = some (.int .u32 bu) := (aA aX.out 0).trans rfl; have Wo : w7.cell? ⟨cn, 1, none⟩ = some (.string bE) := (aA aX.out 1).trans rfl; have Wn : w7.cell? ⟨cn, 2, none⟩ = some (.slice fC bM.length fw) := (aA aX.out 2).trans rfl; have Wm : w7.cell? ⟨cn, 3, none⟩ = some (.slice fb cN.length e9) := (aA aX.out 3).trans rfl; have Wl : w7.cell? ⟨cn, 4, none⟩ = some (.slice eP bL.length eI) := (aA aX.out 4).trans rfl; have Vl := aq aX.out 0; have Vk := aq aX.out 1; have Vj := aq aX.out 2; have Vi := aq aX.out 3; have Vh := aq aX.out 4) | ((with_reducible refine bG (b := .append) (xs := #[.tmp 3, .tmp 5]) rfl ?_); at_builtin; refine Kd.R_append_rows (Kd.int .i64) (w0 := w) w.heap.size rfl (.tmp 3) (.tmp 5) 31 3 (.int .i64 0) 8 rfl Try.underlying31 Ct rfl (by decide) (by omega) Om mB bM _ _ _ (fun _ => True) (fun _ => False) rfl rfl ?aO ?aR (fun _ _ h => h) (fun _ h => h.elim) ?aF ?aB ?aS ?aL ?_; (case aR => repeat (first | exact (Kd.C_below rh.out HB.out) | (with_reducible refine Kd.C_alloc ?_ _) | (with_reducible refine Kd.C_drewN ?_ _) | (with_reducible refine Kd.C_drew ?_))); (case aB => exact (by repeat (first | (with_reducible first | exact HB.out | apply af | apply ab | apply ai | refine aN ?_ iQ.out | refine aN ?_ kk.out) | exact HB.out))); (case aF => exact (fun _ _ => trivial)); (case aO => exact (by (with_reducible repeat (first | apply Kd.R_alloc | apply Kd.R_drewN | apply Kd.R_drew)); exact xC.out)); (case aS => exact (bf (by repeat (first | (with_reducible first | exact HB.out | apply af | apply ab | apply ai | refine aN ?_ iQ.out | refine aN ?_ kk.out) | exact HB.out)))); (case aL => have := KG.out; omega); intro WA Hh ho hb hg hat; rw [← NZ.out] at ho; have bV := ak (kh (g := cn) (o := .cells #[.int .u32 bu, .string bE, .slice fC bM.length fw, .slice fb cN.length e9, .slice eP bL.length eI] 62 (0, 0)) (by (with_reducible repeat (first | refine aI ?_ _ | refine aT ?_ | refine aJ ?_ _)); exact aX.out) hg (Kd.R_ne xC.out aX.out (by decide))); have b4 := ak (kh (g := ev) (o := .cells #[.int .u32 0, .string (⟨#[]⟩ : ByteArray), .slice none 0 0, .slice none 0 0, .slice none 0 0] 62 (0, 0)) (by (with_reducible repeat (first | refine aI ?_ _ | refine aT ?_ | refine aJ ?_ _)); exact dV.out) hg (Kd.R_ne xC.out dV.out (by decide))); have df := ak (hb); have dP := ak (ho); clear aX; clear dV; clear HB; clear xC; have aX := bV; have dV := b4; have HB := df; have iP := dP; clear bV b4 df dP; clear ho hb hg hat; obtain ⟨mq, mh, TQ⟩ := Kd.R_slice iP.out; subst TQ; have Wc : Hh.cell? ⟨cn, 0, none⟩ = some (.int .u32 bu) := (aA aX.out 0).trans rfl; have Wb : Hh.cell? ⟨cn, 1, none⟩ = some (.string bE) := (aA aX.out 1).trans rfl; have Wa : Hh.cell? ⟨cn, 2, none⟩ = some (.slice fC bM.length fw) := (aA aX.out 2).trans rfl; have V0 : Hh.cell? ⟨cn, 3, none⟩ = some (.slice fb cN.length e9) := (aA aX.out 3).trans rfl; have VZ : Hh.cell? ⟨cn, 4, none⟩ = some (.slice eP bL.length eI) := (aA aX.out 4).trans rfl; have U8 := aq aX.out 0; have U7 := aq aX.out 1; have U6 := aq aX.out 2; have U5 := aq aX.out 3; have U4 := aq aX.out 4) | ((with_reducible refine av (N := 8) rfl ?_); refine Kd.R_lit (Kd.int .i64) _ 3 ?hg (N := 8) ?hd (xs := ([] : List Int)) (inner := []) (ok := fun _ => True) (okp := fun _ => True) ?hr ?hp (fun _ hk => hk) trivial (Below.refl _ _) (Nat.le_refl _) (by simp) ?_; (case hd => rfl); (case hg => rfl); (case hr => first | (go_simp; done) | (go_simp; rfl)); (case hp => exact (cP.none _ _)); intro Ol Fm Bc hb J qU; clear J qU; (first | rw [← F0.out] at Bc | (simp only [Int.reduceToNat] at Bc; rw [← F0.out] at Bc)); have bV := ak (Kd.R_elder' (by (with_reducible repeat (first | apply Kd.R_alloc | apply Kd.R_drewN | apply Kd.R_drew)); exact (Kd.R_mono (Kd.R_far (p := ⟨cn, 2, none⟩) (Kd.R_types iP.out aX.out (by decide)) (fun _ hk => hk.2) (.slice mq gu.length mh)) (fun _ h_ => h_.1))) (Kd.R_base Bc) hb); have b4 := ak (Kd.R_lower (Kd.R_new' Bc (Kd.R_lt (by (with_reducible repeat (first | apply Kd.R_alloc | apply Kd.R_drewN | apply Kd.R_drew)); exact (Kd.R_mono (Kd.R_far (p := ⟨cn, 2, none⟩) (Kd.R_types iP.out aX.out (by decide)) (fun _ hk => hk.2) (.slice mq gu.length mh)) (fun _ h_ => h_.1))))) (bf (by repeat (first | (with_reducible first | exact HB.out | apply af | apply ab | apply ai | refine aN ?_ iQ.out | refine aN ?_ kk.out) | exact HB.out)))); have df := ak (e7 (g := cn) (o := .cells #[.int .u32 bu, .string bE, .slice mq gu.length mh, .slice fb cN.length e9, .slice eP bL.length eI] 62 (0, 0)) (by (with_reducible repeat (first | refine aI ?_ _ | refine aT ?_ | refine aJ ?_ _)); refine fa (cs := #[.int .u32 bu, .string bE, .slice fC bM.length fw, .slice fb cN.length e9, .slice eP bL.length eI]) ?_ 2 _ rfl; (with_reducible repeat (first | refine aI ?_ _ | refine aT ?_ | refine aJ ?_ _)); exact aX.out) hb); have dP := ak (e7 (g := ev) (o := .cells #[.int .u32 0, .string (⟨#[]⟩ : ByteArray), .slice none 0 0, .slice none 0 0, .slice none 0 0] 62 (0, 0)) (by (with_reducible repeat (first | refine aI ?_ _ | refine aT ?_ | refine aJ ?_ _)); refine ma ?_ nQ.out _; (with_reducible repeat (first | refine aI ?_ _ | refine aT ?_ | refine aJ ?_ _)); exact dV.out) hb); have jr := ak (bg (by repeat (first | (with_reducible first | exact HB.out | apply af | apply ab | apply ai | refine aN ?_ iQ.out | refine aN ?_ kk.out) | exact HB.out)) hb); clear iP; clear aX; clear dV; clear HB; have iP := bV; have xB := b4; have aX := df; have dV := dP; have HB := jr; clear bV b4 df dP jr; clear hb Bc; have VW : Fm.cell? ⟨cn, 0, none⟩ = some (.int .u32 bu) := (aA aX.out 0).trans rfl; have VV : Fm.cell? ⟨cn, 1, none⟩ = some (.string bE) := (aA aX.out 1).trans rfl; have VU : Fm.cell? ⟨cn, 2, none⟩ = some (.slice mq gu.length mh) := (aA aX.out 2).trans rfl; have VT : Fm.cell? ⟨cn, 3, none⟩ = some (.slice fb cN.length e9) := (aA aX.out 3).trans rfl; have VS : Fm.cell? ⟨cn, 4, none⟩ = some (.slice eP bL.length eI) := (aA aX.out 4).trans rfl; have U1 := aq aX.out 0; have U0 := aq aX.out 1; have UZ := aq aX.out 2; have UY := aq aX.out 3; have UX := aq aX.out 4) | ((with_reducible refine bG (b := .append) (xs := #[.tmp 8, .tmp 10]) rfl ?_); at_builtin; refine Kd.R_append_rows (Kd.int .i64) (w0 := w) w.heap.size rfl (.tmp 8) (.tmp 10) 31 3 (.int .i64 0) 8 rfl Try.underlying31 Ct rfl (by decide) (by omega) Ol jo cN _ _ _ (fun k_ => some k_ ≠ (.slice mq gu.length mh : Value).ownBlock) (fun _ => False) rfl rfl ?aO ?aR (fun _ _ h => h) (fun _ h => h.elim) ?aF ?aB ?aS ?aL ?_; (case aR => repeat (first | exact (Kd.C_below xA.out HB.out) | (with_reducible refine Kd.C_alloc ?_ _) | (with_reducible refine Kd.C_drewN ?_ _) | (with_reducible refine Kd.C_drew ?_))); (case aB => exact (by repeat (first | (with_reducible first | exact HB.out | apply af | apply ab | apply ai | refine aN ?_ iQ.out | refine aN ?_ kk.out) | exact HB.out))); (case aF => exact (fun k_ hk => Kd.fresh' (Kd.R_lt (by (with_reducible repeat (first | apply Kd.R_alloc | apply Kd.R_drewN | apply Kd.R_drew)); exact iP.out)) k_ hk)); (case aO => exact (by (with_reducible repeat (first | apply Kd.R_alloc | apply Kd.R_drewN | apply Kd.R_drew)); exact Kd.R_mono xB.out (fun _ hk => hk.2))); (case aS => exact (bf (by repeat (first | (with_reducible first | exact HB.out | apply af | apply ab | apply ai | refine aN ?_ iQ.out | refine aN ?_ kk.out) | exact HB.out)))); (case aL => have := TX.out; omega); intro Wz Hg ho hb hg hat; rw [← NY.out] at ho; have bV := ak (kh (g := cn) (o := .cells #[.int .u32 bu, .string bE, .slice mq gu.length mh, .slice fb cN.length e9, .slice eP bL.length eI] 62 (0, 0)) (by (with_reducible repeat (first | refine aI ?_ _ | refine aT ?_ | refine aJ ?_ _)); exact aX.out) hg (Kd.R_ne xB.out aX.out (by decide))); have b4 := ak (kh (g := ev) (o := .cells #[.int .u32 0, .string (⟨#[]⟩ : ByteArray), .slice none 0 0, .slice none 0 0, .slice none 0 0] 62 (0, 0)) (by (with_reducible repeat (first | refine aI ?_ _ | refine aT ?_ | refine aJ ?_ _)); exact dV.out) hg (Kd.R_ne xB.out dV.out (by decide))); have df := ak (Kd.R_after (ok := (fun _ => True)) (by (with_reducible repeat (first | apply Kd.R_alloc | apply Kd.R_drewN | apply Kd.R_drew)); exact iP.out) hg hat); have dP := ak (hb); have jr := ak (ho); clear aX; clear dV; clear iP; clear HB; clear xB; have aX := bV; have dV := b4; have iP := df; have HB := dP; have oI := jr; clear bV b4 df dP jr; clear ho hb hg hat; obtain ⟨sv, sh, TO⟩ := Kd.R_slice oI.out; subst TO; have Nq : Hg.cell? ⟨cn, 0, none⟩ = some (.int .u32 bu) := (aA aX.out 0).trans rfl; have Np : Hg.cell? ⟨cn, 1, none⟩ = some (.string bE) := (aA aX.out 1).trans rfl; have Nn : Hg.cell? ⟨cn, 2, none⟩ = some (.slice mq gu.length mh) := (aA aX.out 2).trans rfl; have Nm : Hg.cell? ⟨cn, 3, none⟩ = some (.slice fb cN.length e9) := (aA aX.out 3).trans rfl; have Nl : Hg.cell? ⟨cn, 4, none⟩ = some (.slice eP bL.length eI) := (aA aX.out 4).trans rfl; have M4 := aq aX.out 0; have M3 := aq aX.out 1; have M0 := aq aX.out 2; have MZ := aq aX.out 3; have MY := aq aX.out 4) | ((with_reducible refine av (N := 13) rfl ?_); refine Kd.R_lit ib _ 76 ?hg (N := 13) ?hd (xs := ([] : List (S76))) (inner := []) (ok := fun _ => True) (okp := fun _ => True) ?hr ?hp (fun _ hk => hk) trivial (Below.refl _ _) (Nat.le_refl _) (by simp) ?_; (case hd => rfl); (case hg => rfl); (case hr => first | (go_simp; done) | (go_simp; rfl)); (case hp => exact (cP.none _ _)); intro Oj wy Dm hb J qU; clear J qU; (first | rw [← FZ.out] at Dm | (simp only [Int.reduceToNat] at Dm; rw [← FZ.out] at Dm)); have bV := ak (Kd.R_below (by (with_reducible repeat (first | apply Kd.R_alloc | apply Kd.R_drewN | apply Kd.R_drew)); exact (Kd.R_mono (Kd.R_far (p := ⟨cn, 3, none⟩) (Kd.R_types iP.out aX.out (by decide)) (fun _ hk => hk.2) (.slice sv kM.length sh)) (fun _ h_ => h_.1))) hb); have b4 := ak (Kd.R_below (by (with_reducible repeat (first | apply Kd.R_alloc | apply Kd.R_drewN | apply Kd.R_drew)); exact (Kd.R_mono (Kd.R_far (p := ⟨cn, 3, none⟩) (Kd.R_types oI.out aX.out (by decide)) (fun _ hk => hk.2) (.slice sv kM.length sh)) (fun _ h_ => h_.1))) hb); have df := ak (Kd.R_lower Dm (bf (by repeat (first | (with_reducible first | exact HB.out | apply af | apply ab | apply ai | refine aN ?_ iQ.out | refine aN ?_ kk.out) | exact HB.out)))); have dP := ak (e7 (g := cn) (o := .cells #[.int .u32 bu, .string bE, .slice mq gu.length mh, .slice sv kM.length sh, .slice eP bL.length eI] 62 (0, 0)) (by (with_reducible repeat (first | refine aI ?_ _ | refine aT ?_ | refine aJ ?_ _)); refine fa (cs := #[.int .u32 bu, .string bE, .slice mq gu.length mh, .slice fb cN.length e9, .slice eP bL.length eI]) ?_ 3 _ rfl; (with_reducible repeat (first | refine aI ?_ _ | refine aT ?_ | refine aJ ?_ _)); exact aX.out) hb); have jr := ak (e7 (g := ev) (o := .cells #[.int .u32 0, .string (⟨#[]⟩ : ByteArray), .slice none 0 0, .slice none 0 0, .slice none 0 0] 62 (0, 0)) (by (with_reducible repeat (first | refine aI ?_ _ | refine aT ?_ | refine aJ ?_ _)); refine ma ?_ nQ.out _; (with_reducible repeat (first | refine aI ?_ _ | refine aT ?_ | refine aJ ?_ _)); exact dV.out) hb); have mI := ak (bg (by repeat (first | (with_reducible first | exact HB.out | apply af | apply ab | apply ai | refine aN ?_ iQ.out | refine aN ?_ kk.out) | exact HB.out)) hb); clear iP; clear oI; clear aX; clear dV; clear HB; have iP := bV; have oI := b4; have rn := df; have aX := dP; have dV := jr; have HB := mI; clear bV b4 df dP jr mI; clear hb Dm; have Nk : wy.cell? ⟨cn, 0, none⟩ = some (.int .u32 bu) := (aA aX.out 0).trans rfl; have Nh : wy.cell? ⟨cn, 1, none⟩ = some (.string bE) := (aA aX.out 1).trans rfl; have Ng : wy.cell? ⟨cn, 2, none⟩ = some (.slice mq gu.length mh) := (aA aX.out 2).trans rfl; have Nf : wy.cell? ⟨cn, 3, none⟩ = some (.slice sv kM.length sh) := (aA aX.out 3).trans rfl; have Nd : wy.cell? ⟨cn, 4, none⟩ = some (.slice eP bL.length eI) := (aA aX.out 4).trans rfl; have MX := aq aX.out 0; have MW := aq aX.out 1; have MV := aq aX.out 2; have MU := aq aX.out 3; have MT := aq aX.out 4) | ((with_reducible refine bG (b := .append) (xs := #[.tmp 13, .tmp 15]) rfl ?_); at_builtin; refine Kd.R_append_rows ib (w0 := w) w.heap.size rfl (.tmp 13) (.tmp 15) 49 76 (.agg #[(.string ⟨#[]⟩), (.string ⟨#[]⟩)]) 32 rfl Try.underlying49 OQ rfl (by decide) (by omega) Oj gq bL _ _ _ (fun _ => True) (fun _ => False) rfl rfl ?aO ?aR (fun _ _ h => h) (fun _ h => h.elim) ?aF ?aB ?aS ?aL ?_; (case aR => repeat (first | exact (Kd.C_below vQ.out HB.out) | (with_reducible refine Kd.C_alloc ?_ _) | (with_reducible refine Kd.C_drewN ?_ _) | (with_reducible refine Kd.C_drew ?_))); (case aB => exact (by repeat (first | (with_reducible first | exact HB.out | apply af | apply ab | apply ai | refine aN ?_ iQ.out | refine aN ?_ kk.out) | exact HB.out))); (case aF => exact (fun _ _ => trivial)); (case aO => exact (by (with_reducible repeat (first | apply Kd.R_alloc | apply Kd.R_drewN | apply Kd.R_drew)); exact rn.out)); (case aS => exact (bf (by repeat (first | (with_reducible first | exact HB.out | apply af | apply ab | apply ai | refine aN ?_ iQ.out | refine aN ?_ kk.out) | exact HB.out)))); (case aL => have := TW.out; omega); intro Wy qg ho hb hg hat; rw [← NW.out] at ho; have bV := ak (kh (g := cn) (o := .cells #[.int .u32 bu, .string bE, .slice mq gu.length mh, .slice sv kM.length sh, .slice eP bL.length eI] 62 (0, 0)) (by (with_reducible repeat (first | refine aI ?_ _ | refine aT ?_ | refine aJ ?_ _)); exact aX.out) hg (Kd.R_ne rn.out aX.out (by decide))); have b4 := ak (kh (g := ev) (o := .cells #[.int .u32 0, .string (⟨#[]⟩ : ByteArray), .slice none 0 0, .slice none 0 0, .slice none 0 0] 62 (0, 0)) (by (with_reducible repeat (first | refine aI ?_ _ | refine aT ?_ | refine aJ ?_ _)); exact dV.out) hg (Kd.R_ne rn.out dV.out (by decide))); have df := ak (Kd.R_over' (by (with_reducible repeat (first | apply Kd.R_alloc | apply Kd.R_drewN | apply Kd.R_drew)); exact iP.out) (Kd.R_typed (by (with_reducible repeat (first | apply Kd.R_alloc | apply Kd.R_drewN | apply Kd.R_drew)); exact rn.out)) (by decide) hg); have dP := ak (Kd.R_over' (by (with_reducible repeat (first | apply Kd.R_alloc | apply Kd.R_drewN | apply Kd.R_drew)); exact oI.out) (Kd.R_typed (by (with_reducible repeat (first | apply Kd.R_alloc | apply Kd.R_drewN | apply Kd.R_drew)); exact rn.out)) (by decide) hg); have jr := ak (hb); have mI := ak (ho); clear aX; clear dV; clear iP; clear oI; clear HB; clear rn; have aX := bV; have dV := b4; have iP := df; have oI := dP; have HB := jr; have F8 := mI; clear bV b4 df dP jr mI; clear ho hb hg hat; obtain ⟨yy, yo, TL⟩ := Kd.R_slice F8.out; subst TL; have VC : qg.cell? ⟨cn, 0, none⟩ = some (.int .u32 bu) := (aA aX.out 0).trans rfl; have VB : qg.cell? ⟨cn, 1, none⟩ = some (.string bE) := (aA aX.out 1).trans rfl; have VA : qg.cell? ⟨cn, 2, none⟩ = some (.slice mq gu.length mh) := (aA aX.out 2).trans rfl; have Vz : qg.cell? ⟨cn, 3, none⟩ = some (.slice sv kM.length sh) := (aA aX.out 3).trans rfl; have Vy : qg.cell? ⟨cn, 4, none⟩ = some (.slice eP bL.length eI) := (aA aX.out 4).trans rfl; have UG := aq aX.out 0; have UF := aq aX.out 1; have UE := aq aX.out 2; have UD := aq aX.out 3; have UC := aq aX.out 4; have Vx : qg.cell? ⟨ev, 0, none⟩ = some (.int .u32 0) := (aA dV.out 0).trans rfl; have Vw : qg.cell? ⟨ev, 1, none⟩ = some (.string (⟨#[]⟩ : ByteArray)) := (aA dV.out 1).trans rfl; have Vv : qg.cell? ⟨ev, 2, none⟩ = some (.slice none 0 0) := (aA dV.out 2).trans rfl; have Vu : qg.cell? ⟨ev, 3, none⟩ = some (.slice none 0 0) := (aA dV.out 3).trans rfl; have Vt : qg.cell? ⟨ev, 4, none⟩ = some (.slice none 0 0) := (aA dV.out 4).trans rfl; have UB := aq dV.out 0; have UA := aq dV.out 1; have Uz := aq dV.out 2; have Uy := aq dV.out 3; have Ux := aq dV.out 4))
    refine bodyPost_ret (results_cell_row rfl _ _ ev 62 #[.int .u32 bu, .string bE, .slice mq gu.length mh, .slice sv kM.length sh, .slice yy qf.length yo] (0, 0) _ rfl (by (with_reducible repeat (first | refine aI ?_ _ | refine aT ?_ | refine aJ ?_ _)); refine fa (cs := #[.int .u32 bu, .string bE, .slice mq gu.length mh, .slice sv kM.length sh, .slice none 0 0]) ?_ 4 _ rfl; (with_reducible repeat (first | refine aI ?_ _ | refine aT ?_ | refine aJ ?_ _)); refine fa (cs := #[.int .u32 bu, .string bE, .slice mq gu.length mh, .slice none 0 0, .slice none 0 0]) ?_ 3 _ rfl; (with_reducible repeat (first | refine aI ?_ _ | refine aT ?_ | refine aJ ?_ _)); refine fa (cs := #[.int .u32 bu, .string bE, .slice none 0 0, .slice none 0 0, .slice none 0 0]) ?_ 2 _ rfl; (with_reducible repeat (first | refine aI ?_ _ | refine aT ?_ | refine aJ ?_ _)); refine fa (cs := #[.int .u32 bu, .string (⟨#[]⟩ : ByteArray), .slice none 0 0, .slice none 0 0, .slice none 0 0]) ?_ 1 _ rfl; (with_reducible repeat (first | refine aI ?_ _ | refine aT ?_ | refine aJ ?_ _)); refine fa (cs := #[.int .u32 0, .string (⟨#[]⟩ : ByteArray), .slice none 0 0, .slice none 0 0, .slice none 0 0]) ?_ 0 _ rfl; (with_reducible repeat (first | refine aI ?_ _ | refine aT ?_ | refine aJ ?_ _)); refine ma ?_ nQ.out _; (with_reducible repeat (first | refine aI ?_ _ | refine aT ?_ | refine aJ ?_ _)); exact dV.out) Try.underlying62 rfl (by kernel_rfl)) rfl ?_
    exact ⟨_, _, _, by first | rfl | (simp [bz, bx] <;> rfl) | (simp [*, bz, bx] <;> rfl), by (with_reducible repeat (first | apply Kd.R_alloc | apply Kd.R_drewN | apply Kd.R_drew)); exact Kd.R_mono (Kd.R_far (p := ⟨ev, 4, none⟩) (Kd.R_far (p := ⟨ev, 3, none⟩) (Kd.R_far (p := ⟨ev, 2, none⟩) (Kd.R_far (p := ⟨ev, 1, none⟩) (Kd.R_far (p := ⟨ev, 0, none⟩) (Kd.R_far (p := ⟨cn, 4, none⟩) (Kd.R_types (Kd.R_types iP.out aX.out (by decide)) dV.out (by decide)) (fun _ hk => hk.1.2) (.slice yy qf.length yo)) (fun _ hk => hk.2) (.int .u32 bu)) (fun _ hk => hk.2) (.string bE)) (fun _ hk => hk.2) (.slice mq gu.length mh)) (fun _ hk => hk.2) (.slice sv kM.length sh)) (fun _ hk => hk.2) (.slice yy qf.length yo)) (fun _ hk => hk.1.1.2), by (with_reducible repeat (first | apply Kd.R_alloc | apply Kd.R_drewN | apply Kd.R_drew)); exact Kd.R_mono (Kd.R_far (p := ⟨ev, 4, none⟩) (Kd.R_far (p := ⟨ev, 3, none⟩) (Kd.R_far (p := ⟨ev, 2, none⟩) (Kd.R_far (p := ⟨ev, 1, none⟩) (Kd.R_far (p := ⟨ev, 0, none⟩) (Kd.R_far (p := ⟨cn, 4, none⟩) (Kd.R_types (Kd.R_types oI.out aX.out (by decide)) dV.out (by decide)) (fun _ hk => hk.1.2) (.slice yy qf.length yo)) (fun _ hk => hk.2) (.int .u32 bu)) (fun _ hk => hk.2) (.string bE)) (fun _ hk => hk.2) (.slice mq gu.length mh)) (fun _ hk => hk.2) (.slice sv kM.length sh)) (fun _ hk => hk.2) (.slice yy qf.length yo)) (fun _ hk => hk.1.1), by (with_reducible repeat (first | apply Kd.R_alloc | apply Kd.R_drewN | apply Kd.R_drew)); exact Kd.R_mono (Kd.R_far (p := ⟨ev, 4, none⟩) (Kd.R_far (p := ⟨ev, 3, none⟩) (Kd.R_far (p := ⟨ev, 2, none⟩) (Kd.R_far (p := ⟨ev, 1, none⟩) (Kd.R_far (p := ⟨ev, 0, none⟩) (Kd.R_far (p := ⟨cn, 4, none⟩) (Kd.R_types (Kd.R_types F8.out aX.out (by decide)) dV.out (by decide)) (fun _ hk => hk.1.2) (.slice yy qf.length yo)) (fun _ hk => hk.2) (.int .u32 bu)) (fun _ hk => hk.2) (.string bE)) (fun _ hk => hk.2) (.slice mq gu.length mh)) (fun _ hk => hk.2) (.slice sv kM.length sh)) (fun _ hk => hk.2) (.slice yy qf.length yo)) (fun _ hk => trivial), by repeat (first | (with_reducible first | exact HB.out | apply af | apply ab | apply ai | refine aN ?_ iQ.out | refine aN ?_ kk.out) | exact HB.out)⟩
   ·rw [if_neg c4] at H
    exact absurd H (by simp)
  ·rw [if_neg c3] at H
   exact absurd H (by simp)
 ·rw [if_neg c2] at H
  exact absurd H (by simp)
end Go.Proofs.Ytemhalnhbgkbcaa.V
end

section
namespace Go.Proofs.Ytemhalnhbgkbcaa.V
abbrev ln := S76
abbrev dj (a : Int) (s : ByteArray) (vs vf va : Value) : List Value := [.int .u32 a, .string s, vs, vf, va]
theorem dM (a : Int) (s : ByteArray) {vs vf va : Value} (h1 : vs.oneCell' = true) (h2 : vf.oneCell' = true) (h3 : va.oneCell' = true) : ∀ u ∈ dj a s vs vf va, u.oneCell' = true := by
 intro u hu
 simp only [List.mem_cons, List.not_mem_nil, or_false] at hu
 rcases hu with rfl | rfl | rfl | rfl | rfl
 ·rfl
 ·rfl
 ·exact h1
 ·exact h2
 ·exact h3
structure RbR (W : World) (b : Bk) (M : List ln) (As : Option Addr) (cs : Nat) (Af : Option Addr) (cf : Nat) (Aa : Option Addr) (ca : Nat) : Prop where
 m : M = b.attrs.map vc
 sr : Kd.C (Kd.int .i64) W As b.slots.length b.slots
 sc : b.slots.length ≤ cs
 fr : Kd.C (Kd.int .i64) W Af b.free.length b.free
 fc : b.free.length ≤ cf
 ar : Kd.C ib W Aa M.length M
 ac : M.length ≤ ca
theorem RbR.below {W W1 : World} {b : Bk} {M : List ln} {As : Option Addr} {cs : Nat} {Af : Option Addr} {cf : Nat} {Aa : Option Addr} {ca : Nat} (h : RbR W b M As cs Af cf Aa ca) (hb : Below W.heap.size W W1) : RbR W1 b M As cs Af cf Aa ca := ⟨h.m, Kd.C_below h.sr hb, h.sc, Kd.C_below h.fr hb, h.fc, Kd.C_below h.ar hb, h.ac⟩
def ki (W : World) (v : Value) (b : Bk) : Prop := ∃ M As cs Af cf Aa ca, v = .agg (dj b.addr b.aff (.slice As b.slots.length cs) (.slice Af b.free.length cf) (.slice Aa M.length ca)).toArray ∧ RbR W b M As cs Af cf Aa ca
theorem ki.below {W W1 : World} {v : Value} {b : Bk} (h : ki W v b) (hb : Below W.heap.size W W1) : ki W1 v b := by
 obtain ⟨M, As, cs, Af, cf, Aa, ca, e, hr⟩ := h
 exact ⟨M, As, cs, Af, cf, Aa, ca, e, hr.below hb⟩
def eU (W : World) (base : Nat) (v : Value) (b : Bk) : Prop := ∃ vs vf va, v = .agg (dj b.addr b.aff vs vf va).toArray ∧ Kd.R (Kd.int .i64) 3 W base (fun _ => True) vs b.slots ∧ Kd.R (Kd.int .i64) 3 W base (fun _ => True) vf b.free ∧ Kd.R ib 76 W base (fun _ => True) va (b.attrs.map vc)
theorem eU.toV {W : World} {base : Nat} {v : Value} {b : Bk} (h : eU W base v b) : ki W v b := by
 obtain ⟨vs, vf, va, rfl, h1, h2, h3⟩ := h
 obtain ⟨As, cs, rfl, l1, c1⟩ := Kd.R_reads h1
 obtain ⟨Af, cf, rfl, l2, c2⟩ := Kd.R_reads h2
 obtain ⟨Aa, ca, rfl, l3, c3⟩ := Kd.R_reads h3
 exact ⟨_, As, cs, Af, cf, Aa, ca, rfl, rfl, c1, l1, c2, l2, c3, l3⟩
theorem eU.below {W W1 : World} {base : Nat} {v : Value} {b : Bk} (h : eU W base v b) (hb : Below W.heap.size W W1) : eU W1 base v b := by
 obtain ⟨vs, vf, va, rfl, h1, h2, h3⟩ := h
 exact ⟨vs, vf, va, rfl, Kd.R_below h1 hb, Kd.R_below h2 hb, Kd.R_below h3 hb⟩
theorem eU.lower {W : World} {base base' : Nat} {v : Value} {b : Bk} (h : eU W base v b) (hb : base' ≤ base) : eU W base' v b := by
 obtain ⟨vs, vf, va, rfl, h1, h2, h3⟩ := h
 exact ⟨vs, vf, va, rfl, Kd.R_lower h1 hb, Kd.R_lower h2 hb, Kd.R_lower h3 hb⟩
theorem Cv (b : Bk) (hs : b.slots.length ≤ 1000) (hf : b.free.length ≤ 5000) (M : List ln) (hm : M.length ≤ 1000) (As : Option Addr) (cs : Nat) (Af : Option Addr) (cf : Nat) (Aa : Option Addr) (ca : Nat) (w : World) (hr : RbR w b M As cs Af cf Aa ca) :
  Calls Try.prog 85 #[.agg (dj b.addr b.aff (.slice As b.slots.length cs) (.slice Af b.free.length cf) (.slice Aa M.length ca)).toArray] w fun e w' => ∃ vs vf va, e = .returned (.agg (dj b.addr b.aff vs vf va).toArray) ∧ Kd.R (Kd.int .i64) 3 w' w.heap.size (fun k => some k ≠ vf.ownBlock) vs b.slots ∧ Kd.R (Kd.int .i64) 3 w' w.heap.size (fun k => some k ≠ vs.ownBlock) vf b.free ∧ Kd.R ib 76 w' w.heap.size (fun _ => True) va M ∧ Below w.heap.size w w' := by
 have h : jW.f b.addr b.aff b.slots b.free M = some (b.addr, b.aff, b.slots, b.free, M) := by
  unfold jW.f
  simp only [Option.bind_some, List.nil_append, List.length_nil, Nat.zero_add]
  rw [if_pos (by omega), if_pos (by omega), if_pos (by omega)]
 exact jW.calls _ _ _ _ _ _ _ _ _ _ _ _ _ _ _ _ w hr.sr hr.sc hr.fr hr.fc hr.ar hr.ac h
theorem oE {k : IntKind} {e base n cap g : Nat} {ok : Nat → Prop} {W : World} {xs : List Int} (h : Kd.R (Kd.int k) e W base ok (.slice (some ⟨g, 0, none⟩) n cap) xs) (j : Nat) (hj : j < n) : W.cell? ⟨g, j, none⟩ = some (.int k (rd xs j)) ∧ W.frozen? ⟨g, j, none⟩ = false := by
 have hn := (Kd.R_reads' h).1
 obtain ⟨ad, eA, hx⟩ := Kd.at_int (Kd.R_reads' h).2.2 j (by omega) (by omega)
 cases eA
 rw [Int.toNat_natCast, add_plain] at hx
 refine ⟨hx, ?_⟩
 obtain ⟨ce, hcl, _, hcc, hcf⟩ := Kd.R_elem h 0 (j : Int) (by omega) (by omega)
 have h2 := hcf 0
 rwa [show ((j : Int).toNat * (Kd.int k).sz + 0) = j by show (j : Int).toNat * 1 + 0 = j; omega] at h2
theorem nO {k : IntKind} {e base n cap g : Nat} {ok : Nat → Prop} {W : World} {xs : List Int} (h : Kd.R (Kd.int k) e W base ok (.slice (some ⟨g, 0, none⟩) n cap) xs) (j : Nat) (hj : j < n) (x : Int) : Kd.R (Kd.int k) e (W.setCell ⟨g, j, none⟩ (.int k x)) base ok (.slice (some ⟨g, 0, none⟩) n cap) (xs.set j x) ∧ W.grownBy (W.setCell ⟨g, j, none⟩ (.int k x)) (some g) := by
 obtain ⟨ce, hcl, _, hcc, _⟩ := Kd.R_elem h 0 (j : Int) (by omega) (by omega)
 have hsg := Kd.R_seg h (j : Int) (by omega) (by omega) (seg := [.int k x]) (j := 0) (x' := x) (okp := fun _ => False) hcl hcc (Nat.le_refl 1) (by
  obtain ⟨u, rfl⟩ := List.length_eq_one_iff.1 (show ce.length = 1 from hcl)
  rfl) (fun _ h => h.elim)
 rw [show ((j : Int).toNat * (Kd.int k).sz + 0) = j by show (j : Int).toNat * 1 + 0 = j; omega, Int.toNat_natCast] at hsg
 exact hsg
theorem vX (l : List At) (a : At) (k : Nat) (hk : k < l.length) (h : sameAt (gh l k) a = false) : gf (l.take (k + 1)) a = gf (l.take k) a := by
 have e := uw l k hk
 unfold gf
 rw [e, List.findIdx?_append]
 have h2 : sameAt a (gh l k) = false := by rw [xK]; exact h
 cases hq : (l.take k).findIdx? (sameAt a) with
 | some i => rfl
 | none => simp [h2]
theorem Cl (l : List At) (a : At) (k : Nat) (hk : k < l.length) (h : sameAt (gh l k) a = true) (hn : (l.take k).any (sameAt (gh l k)) = false) : gf (l.take (k + 1)) a = some k := by
 have e := uw l k hk
 have ha : gh l k = a := (lG _ _).1 h
 unfold gf
 rw [e, List.findIdx?_append]
 have hq : (l.take k).findIdx? (sameAt a) = none := by
  rw [List.findIdx?_eq_none_iff]
  intro x hx
  rw [← ha]
  have h2 := List.any_eq_false.1 hn x hx
  simpa using h2
 rw [hq]
 have h3 : sameAt a (gh l k) = true := by rw [xK]; exact h
 simp [h3, List.length_take]
 omega
end Go.Proofs.Ytemhalnhbgkbcaa.V
end

section
namespace Go.Proofs.Ytemhalnhbgkbcaa.V
def RX (W : World) (b1 g : Nat) (b : Bk) : Prop := ∃ M vs vf va, M = b.attrs.map vc ∧ aH W g (dj b.addr b.aff vs vf va) 62 ∧ Kd.R (Kd.int .i64) 3 W b1 (fun _ => True) vs b.slots ∧ Kd.R (Kd.int .i64) 3 W b1 (fun _ => True) vf b.free ∧ Kd.R ib 76 W b1 (fun _ => True) va M
section
variable {W W1 : World} {b1 b2 g g' t : Nat} {b : Bk}
theorem RX.open (h : RX W b1 g b) : ∃ M As cs Af cf Aa ca, M = b.attrs.map vc ∧ aH W g (dj b.addr b.aff (.slice As b.slots.length cs) (.slice Af b.free.length cf) (.slice Aa M.length ca)) 62 ∧ Kd.R (Kd.int .i64) 3 W b1 (fun _ => True) (.slice As b.slots.length cs) b.slots ∧ Kd.R (Kd.int .i64) 3 W b1 (fun _ => True) (.slice Af b.free.length cf) b.free ∧ Kd.R ib 76 W b1 (fun _ => True) (.slice Aa M.length ca) M := by
 obtain ⟨M, vs, vf, va, hm, hx, hs, hf, ha⟩ := h
 obtain ⟨As, cs, rfl⟩ := Kd.R_slice hs
 obtain ⟨Af, cf, rfl⟩ := Kd.R_slice hf
 obtain ⟨Aa, ca, rfl⟩ := Kd.R_slice ha
 exact ⟨M, As, cs, Af, cf, Aa, ca, hm, hx, hs, hf, ha⟩
theorem RX.below (h : RX W b1 g b) (hb : Below W.heap.size W W1) : RX W1 b1 g b := by
 obtain ⟨M, vs, vf, va, hm, hx, hs, hf, ha⟩ := h
 exact ⟨M, vs, vf, va, hm, hx.below hb, Kd.R_below hs hb, Kd.R_below hf hb, Kd.R_below ha hb⟩
theorem RX.lower (h : RX W b1 g b) (hb : b2 ≤ b1) : RX W b2 g b := by
 obtain ⟨M, vs, vf, va, hm, hx, hs, hf, ha⟩ := h
 exact ⟨M, vs, vf, va, hm, hx, Kd.R_lower hs hb, Kd.R_lower hf hb, Kd.R_lower ha hb⟩
theorem RX.lt (h : RX W b1 g b) : g < W.heap.size := by
 obtain ⟨M, vs, vf, va, hm, hx, _⟩ := h
 exact hx.lt
theorem RX.box {cs : List Value} (h : RX W b1 g b) (hx' : aH W g' cs t) (ht : ∀ q, q ∈ [3, 76] → q ≠ t) (hne : g ≠ g') (hg : W.grownBy W1 (some g')) : RX W1 b1 g b := by
 obtain ⟨M, vs, vf, va, hm, hx, hs, hf, ha⟩ := h
 have h1 : ∀ q, q ∈ (3 : Nat) :: (Kd.int .i64).E → q ≠ t := fun q hq => by
  rcases List.mem_cons.1 hq with rfl | hq
  ·exact ht _ (by simp)
  ·cases hq
 exact ⟨M, vs, vf, va, hm, hx.grown hg (fun e => hne (Option.some.inj e)), bD hs hx' h1 hg, bD hf hx' h1 hg, bD ha hx' (fun q hq => by
  rcases List.mem_cons.1 hq with rfl | hq
  ·exact ht _ (by simp)
  ·cases hq) hg⟩
theorem RX.row {α : Type} {d : Kd α} {e base' : Nat} {ok : Nat → Prop} {v : Value} {xs : List α} (h : RX W b1 g b) (hr : d.R e W base' ok v xs) (he : e ≠ 62) (ht : ∀ q, q ∈ [3, 76] → q ≠ e) (hg : W.grownBy W1 v.ownBlock) : RX W1 b1 g b := by
 obtain ⟨M, vs, vf, va, hm, hx, hs, hf, ha⟩ := h
 have h1 : ∀ q, q ∈ (3 : Nat) :: (Kd.int .i64).E → q ≠ e := fun q hq => by
  rcases List.mem_cons.1 hq with rfl | hq
  ·exact ht _ (by simp)
  ·cases hq
 exact ⟨M, vs, vf, va, hm, hx.grown hg (hx.ne_row hr he), Kd.R_over hs hr h1 hg, Kd.R_over hf hr h1 hg, Kd.R_over ha hr (fun q hq => by
  rcases List.mem_cons.1 hq with rfl | hq
  ·exact ht _ (by simp)
  ·cases hq) hg⟩
theorem RX.addrCell (h : RX W b1 g b) : W.cell? ⟨g, 0, none⟩ = some (.int .u32 b.addr) := by
 obtain ⟨M, vs, vf, va, hm, hx, _⟩ := h
 exact hx.cell 0 _ rfl
end
theorem RX.stored {W W1 : World} {b1 g : Nat} {b : Bk} {vs vf va : Value} {sF : List Value} (hx : aH W g sF 62) (kp : aH W1 g (dj b.addr b.aff vs vf va) 62) (hs : Kd.R (Kd.int .i64) 3 W b1 (fun _ => True) vs b.slots) (hf : Kd.R (Kd.int .i64) 3 W b1 (fun _ => True) vf b.free) (ha : Kd.R ib 76 W b1 (fun _ => True) va (b.attrs.map vc)) (hg : W.grownBy W1 (some g)) : RX W1 b1 g b :=
 ⟨_, vs, vf, va, rfl, kp, bD hs hx (by decide) hg, bD hf hx (by decide) hg, bD ha hx (by decide) hg⟩
end Go.Proofs.Ytemhalnhbgkbcaa.V
end

