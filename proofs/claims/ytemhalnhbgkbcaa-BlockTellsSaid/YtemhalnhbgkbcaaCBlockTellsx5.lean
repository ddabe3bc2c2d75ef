/- The law BlockTells for every input: texts of ours, put together (part 6 of 16). No further condition. -/
import Derived.Test.YtemhalnhbgkbcaaCBlockTellsx2
import Derived.Test.YtemhalnhbgkbcaaCBlockTellsx3
import Derived.Test.YtemhalnhbgkbcaaCBlockTellsx4
set_option linter.unusedVariables false
set_option linter.unusedSimpArgs false
open Go.RowKit Go.Proofs.YtemhalnhbgkbcaaW.PrintWords Go.Proofs.YtemhalnhbgkbcaaW.PrintLast Go.Proofs.YtemhalnhbgkbcaaW.PrintMore Go.Proofs.Ytemhalnhbgkbcaa.Z
section
namespace Go.Proofs.Ytemhalnhbgkbcaa.V
attribute [local go_sem] ez ew fa e9 ec eb ey ev
def jH.f (bq : Int) (bz : ByteArray) (bJ : List Int) (cI : List Int) (bI : List (S76)) : Option (Int × ByteArray × List Int × List Int × (List (S76))) := (some (([] : List Int) : List Int)).bind fun lI => (if lI.length + bJ.length < 17592186044416 then ((some (([] : List Int) : List Int)).bind fun iZ => (if iZ.length + cI.length < 17592186044416 then ((some (([] : List (S76)) : List (S76))).bind fun fU => (if fU.length + bI.length < 4398046511104 then (some (bq, bz, (lI ++ bJ), (iZ ++ cI), (fU ++ bI))) else (none))) else (none))) else (none))
set_option maxHeartbeats 8000000 in
set_option maxRecDepth 100000 in
theorem jH.calls (bq : Int) (bz : ByteArray) (fo : Option Addr) (fg : Nat) (bJ : List Int) (eP : Option Addr) (eN : Nat) (cI : List Int) (eE : Option Addr) (er : Nat) (bI : List (S76)) (r1 : Int) (r2 : ByteArray) (r3 : List Int) (r4 : List Int) (r5 : List (S76)) (w : World) (qV : Kd.C (Kd.int .i64) w fo bJ.length bJ) (q9 : bJ.length ≤ fg) (qU : Kd.C (Kd.int .i64) w eP cI.length cI) (q8 : cI.length ≤ eN) (qT : Kd.C g8 w eE bI.length bI) (qZ : bI.length ≤ er) (h : jH.f bq bz bJ cI bI = some (r1, r2, r3, r4, r5)) :
  Calls Try.prog 85 #[.agg #[.int .u32 bq, .string bz, .slice fo bJ.length fg, .slice eP cI.length eN, .slice eE bI.length er]] w fun e w' => ∃ z7 z6 Eo : Value, e = .returned (.agg #[.int .u32 r1, .string r2, z7, z6, Eo]) ∧ Kd.R (Kd.int .i64) 3 w' w.heap.size (fun k_ => some k_ ≠ (z6 : Value).ownBlock) z7 r3 ∧ Kd.R (Kd.int .i64) 3 w' w.heap.size (fun k_ => some k_ ≠ (z7 : Value).ownBlock) z6 r4 ∧ Kd.R g8 76 w' w.heap.size (fun _ => True) Eo r5 ∧ Below w.heap.size w w' := by
 have Gp := Try.underlying62
 have pJ := ak qV
 have yf := ak q9
 clear qV q9
 have vr := ak qU
 have ye := ak q8
 clear qU q8
 have tu := ak qT
 have yd := ak qZ
 clear qT qZ
 have HB := ak (Below.refl w.heap.size w)
 have H : ((some (([] : List Int) : List Int)).bind fun lI => (if lI.length + bJ.length < 17592186044416 then ((some (([] : List Int) : List Int)).bind fun iZ => (if iZ.length + cI.length < 17592186044416 then ((some (([] : List (S76)) : List (S76))).bind fun fU => (if fU.length + bI.length < 4398046511104 then (some (bq, bz, (lI ++ bJ), (iZ ++ cI), (fU ++ bI))) else (none))) else (none))) else (none))) = some (r1, r2, r3, r4, r5) := h
 clear h
 obtain ⟨lI, sO⟩ : ∃ y_ : List Int, y_ = (([] : List Int)) := ⟨_, rfl⟩
 replace H : (if lI.length + bJ.length < 17592186044416 then ((some (([] : List Int) : List Int)).bind fun iZ => (if iZ.length + cI.length < 17592186044416 then ((some (([] : List (S76)) : List (S76))).bind fun fU => (if fU.length + bI.length < 4398046511104 then (some (bq, bz, (lI ++ bJ), (iZ ++ cI), (fU ++ bI))) else (none))) else (none))) else (none)) = some (r1, r2, r3, r4, r5) := by first | (rw [sO]; with_reducible exact H) | (have j5 := (Option.bind_some _ _).symm.trans H; rw [sO]; with_reducible exact j5) | (have j5 := (Option.bind_some _ _).symm.trans H; with_reducible exact j5) | with_reducible exact H | (rw [sO]; exact H) | exact H
 have Dl := ak sO
 clear sO
 by_cases c2 : lI.length + bJ.length < 17592186044416
 ·rw [if_pos c2] at H
  have Pn := ak c2
  clear c2
  obtain ⟨fV, sN⟩ : ∃ y_ : List Int, y_ = (lI ++ bJ) := ⟨_, rfl⟩
  replace H : ((some (([] : List Int) : List Int)).bind fun iZ => (if iZ.length + cI.length < 17592186044416 then ((some (([] : List (S76)) : List (S76))).bind fun fU => (if fU.length + bI.length < 4398046511104 then (some (bq, bz, fV, (iZ ++ cI), (fU ++ bI))) else (none))) else (none))) = some (r1, r2, r3, r4, r5) := by first | (rw [sN]; with_reducible exact H) | (have j5 := (Option.bind_some _ _).symm.trans H; rw [sN]; with_reducible exact j5) | (have j5 := (Option.bind_some _ _).symm.trans H; with_reducible exact j5) | with_reducible exact H | (rw [sN]; exact H) | exact H
  have KN := ak sN
  clear sN
  obtain ⟨iZ, sM⟩ : ∃ y_ : List Int, y_ = (([] : List Int)) := ⟨_, rfl⟩
  replace H : (if iZ.length + cI.length < 17592186044416 then ((some (([] : List (S76)) : List (S76))).bind fun fU => (if fU.length + bI.length < 4398046511104 then (some (bq, bz, fV, (iZ ++ cI), (fU ++ bI))) else (none))) else (none)) = some (r1, r2, r3, r4, r5) := by first | (rw [sM]; with_reducible exact H) | (have j5 := (Option.bind_some _ _).symm.trans H; rw [sM]; with_reducible exact j5) | (have j5 := (Option.bind_some _ _).symm.trans H; with_reducible exact j5) | with_reducible exact H | (rw [sM]; exact H) | exact H
  have Dk := ak sM
  clear sM
  by_cases c3 : iZ.length + cI.length < 17592186044416
  ·rw [if_pos c3] at H
   have Pm := ak c3
   clear c3
   obtain ⟨km, sL⟩ : ∃ y_ : List Int, y_ = (iZ ++ cI) := ⟨_, rfl⟩
   replace H : ((some (([] : List (S76)) : List (S76))).bind fun fU => (if fU.length + bI.length < 4398046511104 then (some (bq, bz, fV, km, (fU ++ bI))) else (none))) = some (r1, r2, r3, r4, r5) := by first | (rw [sL]; with_reducible exact H) | (have j5 := (Option.bind_some _ _).symm.trans H; rw [sL]; with_reducible exact j5) | (have j5 := (Option.bind_some _ _).symm.trans H; with_reducible exact j5) | with_reducible exact H | (rw [sL]; exact H) | exact H
   have KM := ak sL
   clear sL
   obtain ⟨fU, sK⟩ : ∃ y_ : List (S76), y_ = (([] : List (S76))) := ⟨_, rfl⟩
   replace H : (if fU.length + bI.length < 4398046511104 then (some (bq, bz, fV, km, (fU ++ bI))) else (none)) = some (r1, r2, r3, r4, r5) := by first | (rw [sK]; with_reducible exact H) | (have j5 := (Option.bind_some _ _).symm.trans H; rw [sK]; with_reducible exact j5) | (have j5 := (Option.bind_some _ _).symm.trans H; with_reducible exact j5) | with_reducible exact H | (rw [sK]; exact H) | exact H
   have Dj := ak sK
   clear sK
   by_cases c4 : fU.length + bI.length < 4398046511104
   ·rw [if_pos c4] at H
    have Pk := ak c4
    clear c4
    obtain ⟨oN, sJ⟩ : ∃ y_ : List (S76), y_ = (fU ++ bI) := ⟨_, rfl⟩
    replace H : (some (bq, bz, fV, km, oN)) = some (r1, r2, r3, r4, r5) := by first | (rw [sJ]; with_reducible exact H) | (have j5 := (Option.bind_some _ _).symm.trans H; rw [sJ]; with_reducible exact j5) | (have j5 := (Option.bind_some _ _).symm.trans H; with_reducible exact j5) | with_reducible exact H | (rw [sJ]; exact H) | exact H
    have KL := ak sJ
    clear sJ
    simp only [Option.some.injEq, Prod.mk.injEq] at H
    obtain ⟨rfl, rfl, rfl, rfl, rfl⟩ := H
    go_enter Try.func85, Try.ntmps85
    go_wp2_with (first | ((with_reducible refine ax (N := 1) rfl ?_); refine eX ?hg (N := 1) ?hd (cs := #[.int .u32 bq, .string bz, .slice fo bJ.length fg, .slice eP cI.length eN, .slice eE bI.length er]) (t := 62) ?hr ?_; (case hd => rfl); (case hg => rfl); (case hr => first | (go_simp; done) | (go_simp; rfl)); intro b6 hg w5 hbox hb; have cA := ak (bE (by repeat (first | (with_reducible first | exact HB.out | apply al | apply af | apply aq) | exact HB.out)) hb); have cP := ak (hbox); have dh := ak ((by rw [hg]; exact (bs (by repeat (first | (with_reducible first | exact HB.out | apply al | apply af | apply aq) | exact HB.out))) : w.heap.size ≤ b6)); have dN := ak ((by rw [hg]; exact (bs (by repeat (first | (with_reducible first | exact HB.out | apply al | apply af | apply aq) | exact HB.out))) : w.heap.size ≤ b6)); clear HB; have HB := cA; have a6 := cP; have RC := dh; have iA := dN; clear cA cP dh dN; clear hb hbox hg) | ((with_reducible refine ax (N := 2) rfl ?_); refine eX ?hg (N := 2) ?hd (cs := #[.int .u32 0, .string (⟨#[]⟩ : ByteArray), .slice none 0 0, .slice none 0 0, .slice none 0 0]) (t := 62) ?hr ?_; (case hd => rfl); (case hg => rfl); (case hr => first | (go_simp; done) | (go_simp; rfl)); intro ei hg w6 hbox hb; have cA := ak (eM (g := b6) (o := .cells #[.int .u32 bq, .string bz, .slice fo bJ.length fg, .slice eP cI.length eN, .slice eE bI.length er] 62 (0, 0)) (by (with_reducible repeat (first | refine aK ?_ _ | refine aT ?_ | refine aM ?_ _)); exact a6.out) hb); have cP := ak (bE (by repeat (first | (with_reducible first | exact HB.out | apply al | apply af | apply aq | refine aQ ?_ iA.out) | exact HB.out)) hb); have dh := ak (hbox); have dN := ak ((by rw [hg]; exact (bs (by repeat (first | (with_reducible first | exact HB.out | apply al | apply af | apply aq | refine aQ ?_ iA.out) | exact HB.out))) : w.heap.size ≤ ei)); have jb := ak ((by rw [hg]; exact (bs (by repeat (first | (with_reducible first | exact HB.out | apply al | apply af | apply aq | refine aQ ?_ iA.out) | exact HB.out))) : w.heap.size ≤ ei)); have lM := ak ((by rw [hg]; exact Nat.ne_of_lt (jJ (g := b6) (o := .cells #[.int .u32 bq, .string bz, .slice fo bJ.length fg, .slice eP cI.length eN, .slice eE bI.length er] 62 (0, 0)) (by (with_reducible repeat (first | refine aK ?_ _ | refine aT ?_ | refine aM ?_ _)); exact a6.out)) : b6 ≠ ei)); have oU := ak ((by rw [hg]; exact Nat.ne_of_gt (jJ (g := b6) (o := .cells #[.int .u32 bq, .string bz, .slice fo bJ.length fg, .slice eP cI.length eN, .slice eE bI.length er] 62 (0, 0)) (by (with_reducible repeat (first | refine aK ?_ _ | refine aT ?_ | refine aM ?_ _)); exact a6.out)) : ei ≠ b6)); clear a6; clear HB; have a6 := cA; have HB := cP; have dR := dh; have RB := dN; have jV := jb; have zJ := lM; have mT := oU; clear cA cP dh dN jb lM oU; clear hb hbox hg) | ((with_reducible refine ax (N := 3) rfl ?_); refine Kd.R_lit (Kd.int .i64) _ 3 ?hg (N := 3) ?hd (xs := ([] : List Int)) (inner := []) (ok := fun _ => True) (okp := fun _ => True) ?hr ?hp (fun _ hk => hk) trivial (Below.refl _ _) (Nat.le_refl _) (by simp) ?_; (case hd => rfl); (case hg => rfl); (case hr => first | (go_simp; done) | (go_simp; rfl)); (case hp => exact (db.none _ _)); intro K3 w7 vH hb J wE; clear J wE; (first | rw [← Dl.out] at vH | (simp only [Int.reduceToNat] at vH; rw [← Dl.out] at vH)); have cA := ak (Kd.R_lower vH (bs (by repeat (first | (with_reducible first | exact HB.out | apply al | apply af | apply aq | refine aQ ?_ iA.out | refine aQ ?_ jV.out) | exact HB.out)))); have cP := ak (eM (g := b6) (o := .cells #[.int .u32 bq, .string bz, .slice fo bJ.length fg, .slice eP cI.length eN, .slice eE bI.length er] 62 (0, 0)) (by (with_reducible repeat (first | refine aK ?_ _ | refine aT ?_ | refine aM ?_ _)); exact a6.out) hb); have dh := ak (eM (g := ei) (o := .cells #[.int .u32 0, .string (⟨#[]⟩ : ByteArray), .slice none 0 0, .slice none 0 0, .slice none 0 0] 62 (0, 0)) (by (with_reducible repeat (first | refine aK ?_ _ | refine aT ?_ | refine aM ?_ _)); exact dR.out) hb); have dN := ak (bE (by repeat (first | (with_reducible first | exact HB.out | apply al | apply af | apply aq | refine aQ ?_ iA.out | refine aQ ?_ jV.out) | exact HB.out)) hb); clear a6; clear dR; clear HB; have vu := cA; have a6 := cP; have dR := dh; have HB := dN; clear cA cP dh dN; clear hb vH; have TP := zJ.out; have TM := mT.out; have RA : w7.cell? ⟨b6, 0, none⟩ = some (.int .u32 bq) := (aC a6.out 0).trans rfl; have Rz : w7.cell? ⟨b6, 1, none⟩ = some (.string bz) := (aC a6.out 1).trans rfl; have Ry : w7.cell? ⟨b6, 2, none⟩ = some (.slice fo bJ.length fg) := (aC a6.out 2).trans rfl; have Rx : w7.cell? ⟨b6, 3, none⟩ = some (.slice eP cI.length eN) := (aC a6.out 3).trans rfl; have Rv : w7.cell? ⟨b6, 4, none⟩ = some (.slice eE bI.length er) := (aC a6.out 4).trans rfl; have QC := ao a6.out 0; have QB := ao a6.out 1; have QA := ao a6.out 2; have Qz := ao a6.out 3; have Qy := ao a6.out 4) | ((with_reducible refine cz (b := .append) (xs := #[.tmp 3, .tmp 5]) rfl ?_); at_builtin; refine Kd.R_append_rows (Kd.int .i64) (w0 := w) w.heap.size rfl (.tmp 3) (.tmp 5) 31 3 (.int .i64 0) 8 rfl Try.underlying31 zN rfl (by decide) (by omega) K3 lI bJ _ _ _ (fun _ => True) (fun _ => False) rfl rfl ?aO ?aR (fun _ _ h => h) (fun _ h => h.elim) ?aF ?aB ?aS ?aL ?_; (case aR => repeat (first | exact (Kd.C_below pJ.out HB.out) | (with_reducible refine Kd.C_alloc ?_ _) | (with_reducible refine Kd.C_drewN ?_ _) | (with_reducible refine Kd.C_drew ?_))); (case aB => exact (by repeat (first | (with_reducible first | exact HB.out | apply al | apply af | apply aq | refine aQ ?_ iA.out | refine aQ ?_ jV.out) | exact HB.out))); (case aF => exact (fun _ _ => trivial)); (case aO => exact (by (with_reducible repeat (first | apply Kd.R_alloc | apply Kd.R_drewN | apply Kd.R_drew)); exact vu.out)); (case aS => exact (bs (by repeat (first | (with_reducible first | exact HB.out | apply al | apply af | apply aq | refine aQ ?_ iA.out | refine aQ ?_ jV.out) | exact HB.out)))); (case aL => have := Pn.out; omega); intro RM En ho hb hg hat; rw [← KN.out] at ho; have cA := ak (jU (g := b6) (o := .cells #[.int .u32 bq, .string bz, .slice fo bJ.length fg, .slice eP cI.length eN, .slice eE bI.length er] 62 (0, 0)) (by (with_reducible repeat (first | refine aK ?_ _ | refine aT ?_ | refine aM ?_ _)); exact a6.out) hg (Kd.R_ne vu.out a6.out (by decide))); have cP := ak (jU (g := ei) (o := .cells #[.int .u32 0, .string (⟨#[]⟩ : ByteArray), .slice none 0 0, .slice none 0 0, .slice none 0 0] 62 (0, 0)) (by (with_reducible repeat (first | refine aK ?_ _ | refine aT ?_ | refine aM ?_ _)); exact dR.out) hg (Kd.R_ne vu.out dR.out (by decide))); have dh := ak (hb); have dN := ak (ho); clear a6; clear dR; clear HB; clear vu; have a6 := cA; have dR := cP; have HB := dh; have iz := dN; clear cA cP dh dN; clear ho hb hg hat; obtain ⟨lA, lu, Pa⟩ := Kd.R_slice iz.out; subst Pa; have Rl : En.cell? ⟨b6, 0, none⟩ = some (.int .u32 bq) := (aC a6.out 0).trans rfl; have Rk : En.cell? ⟨b6, 1, none⟩ = some (.string bz) := (aC a6.out 1).trans rfl; have Rj : En.cell? ⟨b6, 2, none⟩ = some (.slice fo bJ.length fg) := (aC a6.out 2).trans rfl; have Ri : En.cell? ⟨b6, 3, none⟩ = some (.slice eP cI.length eN) := (aC a6.out 3).trans rfl; have Rh : En.cell? ⟨b6, 4, none⟩ = some (.slice eE bI.length er) := (aC a6.out 4).trans rfl; have Qp := ao a6.out 0; have Qo := ao a6.out 1; have Qn := ao a6.out 2; have Qm := ao a6.out 3; have Ql := ao a6.out 4) | ((with_reducible refine ax (N := 8) rfl ?_); refine Kd.R_lit (Kd.int .i64) _ 3 ?hg (N := 8) ?hd (xs := ([] : List Int)) (inner := []) (ok := fun _ => True) (okp := fun _ => True) ?hr ?hp (fun _ hk => hk) trivial (Below.refl _ _) (Nat.le_refl _) (by simp) ?_; (case hd => rfl); (case hg => rfl); (case hr => first | (go_simp; done) | (go_simp; rfl)); (case hp => exact (db.none _ _)); intro K2 Em yB hb J wE; clear J wE; (first | rw [← Dk.out] at yB | (simp only [Int.reduceToNat] at yB; rw [← Dk.out] at yB)); have cA := ak (Kd.R_elder' (by (with_reducible repeat (first | apply Kd.R_alloc | apply Kd.R_drewN | apply Kd.R_drew)); exact (Kd.R_mono (Kd.R_far (p := ⟨b6, 2, none⟩) (Kd.R_types iz.out a6.out (by decide)) (fun _ hk => hk.2) (.slice lA fV.length lu)) (fun _ h_ => h_.1))) (Kd.R_base yB) hb); have cP := ak (Kd.R_lower (Kd.R_new' yB (Kd.R_lt (by (with_reducible repeat (first | apply Kd.R_alloc | apply Kd.R_drewN | apply Kd.R_drew)); exact (Kd.R_mono (Kd.R_far (p := ⟨b6, 2, none⟩) (Kd.R_types iz.out a6.out (by decide)) (fun _ hk => hk.2) (.slice lA fV.length lu)) (fun _ h_ => h_.1))))) (bs (by repeat (first | (with_reducible first | exact HB.out | apply al | apply af | apply aq | refine aQ ?_ iA.out | refine aQ ?_ jV.out) | exact HB.out)))); have dh := ak (eM (g := b6) (o := .cells #[.int .u32 bq, .string bz, .slice lA fV.length lu, .slice eP cI.length eN, .slice eE bI.length er] 62 (0, 0)) (by (with_reducible repeat (first | refine aK ?_ _ | refine aT ?_ | refine aM ?_ _)); refine eO (cs := #[.int .u32 bq, .string bz, .slice fo bJ.length fg, .slice eP cI.length eN, .slice eE bI.length er]) ?_ 2 _ rfl; (with_reducible repeat (first | refine aK ?_ _ | refine aT ?_ | refine aM ?_ _)); exact a6.out) hb); have dN := ak (eM (g := ei) (o := .cells #[.int .u32 0, .string (⟨#[]⟩ : ByteArray), .slice none 0 0, .slice none 0 0, .slice none 0 0] 62 (0, 0)) (by (with_reducible repeat (first | refine aK ?_ _ | refine aT ?_ | refine aM ?_ _)); refine ll ?_ mT.out _; (with_reducible repeat (first | refine aK ?_ _ | refine aT ?_ | refine aM ?_ _)); exact dR.out) hb); have jb := ak (bE (by repeat (first | (with_reducible first | exact HB.out | apply al | apply af | apply aq | refine aQ ?_ iA.out | refine aQ ?_ jV.out) | exact HB.out)) hb); clear iz; clear a6; clear dR; clear HB; have iz := cA; have vt := cP; have a6 := dh; have dR := dN; have HB := jb; clear cA cP dh dN jb; clear hb yB; have Re : Em.cell? ⟨b6, 0, none⟩ = some (.int .u32 bq) := (aC a6.out 0).trans rfl; have Rc : Em.cell? ⟨b6, 1, none⟩ = some (.string bz) := (aC a6.out 1).trans rfl; have Rb : Em.cell? ⟨b6, 2, none⟩ = some (.slice lA fV.length lu) := (aC a6.out 2).trans rfl; have Ra : Em.cell? ⟨b6, 3, none⟩ = some (.slice eP cI.length eN) := (aC a6.out 3).trans rfl; have Q9 : Em.cell? ⟨b6, 4, none⟩ = some (.slice eE bI.length er) := (aC a6.out 4).trans rfl; have Qi := ao a6.out 0; have Qh := ao a6.out 1; have Qg := ao a6.out 2; have Qf := ao a6.out 3; have Qe := ao a6.out 4) | ((with_reducible refine cz (b := .append) (xs := #[.tmp 8, .tmp 10]) rfl ?_); at_builtin; refine Kd.R_append_rows (Kd.int .i64) (w0 := w) w.heap.size rfl (.tmp 8) (.tmp 10) 31 3 (.int .i64 0) 8 rfl Try.underlying31 zN rfl (by decide) (by omega) K2 iZ cI _ _ _ (fun k_ => some k_ ≠ (.slice lA fV.length lu : Value).ownBlock) (fun _ => False) rfl rfl ?aO ?aR (fun _ _ h => h) (fun _ h => h.elim) ?aF ?aB ?aS ?aL ?_; (case aR => repeat (first | exact (Kd.C_below vr.out HB.out) | (with_reducible refine Kd.C_alloc ?_ _) | (with_reducible refine Kd.C_drewN ?_ _) | (with_reducible refine Kd.C_drew ?_))); (case aB => exact (by repeat (first | (with_reducible first | exact HB.out | apply al | apply af | apply aq | refine aQ ?_ iA.out | refine aQ ?_ jV.out) | exact HB.out))); (case aF => exact (fun k_ hk => Kd.fresh' (Kd.R_lt (by (with_reducible repeat (first | apply Kd.R_alloc | apply Kd.R_drewN | apply Kd.R_drew)); exact iz.out)) k_ hk)); (case aO => exact (by (with_reducible repeat (first | apply Kd.R_alloc | apply Kd.R_drewN | apply Kd.R_drew)); exact Kd.R_mono vt.out (fun _ hk => hk.2))); (case aS => exact (bs (by repeat (first | (with_reducible first | exact HB.out | apply al | apply af | apply aq | refine aQ ?_ iA.out | refine aQ ?_ jV.out) | exact HB.out)))); (case aL => have := Pm.out; omega); intro RL Ej ho hb hg hat; rw [← KM.out] at ho; have cA := ak (jU (g := b6) (o := .cells #[.int .u32 bq, .string bz, .slice lA fV.length lu, .slice eP cI.length eN, .slice eE bI.length er] 62 (0, 0)) (by (with_reducible repeat (first | refine aK ?_ _ | refine aT ?_ | refine aM ?_ _)); exact a6.out) hg (Kd.R_ne vt.out a6.out (by decide))); have cP := ak (jU (g := ei) (o := .cells #[.int .u32 0, .string (⟨#[]⟩ : ByteArray), .slice none 0 0, .slice none 0 0, .slice none 0 0] 62 (0, 0)) (by (with_reducible repeat (first | refine aK ?_ _ | refine aT ?_ | refine aM ?_ _)); exact dR.out) hg (Kd.R_ne vt.out dR.out (by decide))); have dh := ak (Kd.R_after (ok := (fun _ => True)) (by (with_reducible repeat (first | apply Kd.R_alloc | apply Kd.R_drewN | apply Kd.R_drew)); exact iz.out) hg hat); have dN := ak (hb); have jb := ak (ho); clear a6; clear dR; clear iz; clear HB; clear vt; have a6 := cA; have dR := cP; have iz := dh; have HB := dN; have nr := jb; clear cA cP dh dN jb; clear ho hb hg hat; obtain ⟨qD, qq, O7⟩ := Kd.R_slice nr.out; subst O7; have Ki : Ej.cell? ⟨b6, 0, none⟩ = some (.int .u32 bq) := (aC a6.out 0).trans rfl; have Kh : Ej.cell? ⟨b6, 1, none⟩ = some (.string bz) := (aC a6.out 1).trans rfl; have Kg : Ej.cell? ⟨b6, 2, none⟩ = some (.slice lA fV.length lu) := (aC a6.out 2).trans rfl; have Kf : Ej.cell? ⟨b6, 3, none⟩ = some (.slice eP cI.length eN) := (aC a6.out 3).trans rfl; have Ke : Ej.cell? ⟨b6, 4, none⟩ = some (.slice eE bI.length er) := (aC a6.out 4).trans rfl; have JY := ao a6.out 0; have JX := ao a6.out 1; have JW := ao a6.out 2; have JV := ao a6.out 3; have JU := ao a6.out 4) | ((with_reducible refine ax (N := 13) rfl ?_); refine Kd.R_lit g8 _ 76 ?hg (N := 13) ?hd (xs := ([] : List (S76))) (inner := []) (ok := fun _ => True) (okp := fun _ => True) ?hr ?hp (fun _ hk => hk) trivial (Below.refl _ _) (Nat.le_refl _) (by simp) ?_; (case hd => rfl); (case hg => rfl); (case hr => first | (go_simp; done) | (go_simp; rfl)); (case hp => exact (db.none _ _)); intro K1 tR AV hb J wE; clear J wE; (first | rw [← Dj.out] at AV | (simp only [Int.reduceToNat] at AV; rw [← Dj.out] at AV)); have cA := ak (Kd.R_below (by (with_reducible repeat (first | apply Kd.R_alloc | apply Kd.R_drewN | apply Kd.R_drew)); exact (Kd.R_mono (Kd.R_far (p := ⟨b6, 3, none⟩) (Kd.R_types iz.out a6.out (by decide)) (fun _ hk => hk.2) (.slice qD km.length qq)) (fun _ h_ => h_.1))) hb); have cP := ak (Kd.R_below (by (with_reducible repeat (first | apply Kd.R_alloc | apply Kd.R_drewN | apply Kd.R_drew)); exact (Kd.R_mono (Kd.R_far (p := ⟨b6, 3, none⟩) (Kd.R_types nr.out a6.out (by decide)) (fun _ hk => hk.2) (.slice qD km.length qq)) (fun _ h_ => h_.1))) hb); have dh := ak (Kd.R_lower AV (bs (by repeat (first | (with_reducible first | exact HB.out | apply al | apply af | apply aq | refine aQ ?_ iA.out | refine aQ ?_ jV.out) | exact HB.out)))); have dN := ak (eM (g := b6) (o := .cells #[.int .u32 bq, .string bz, .slice lA fV.length lu, .slice qD km.length qq, .slice eE bI.length er] 62 (0, 0)) (by (with_reducible repeat (first | refine aK ?_ _ | refine aT ?_ | refine aM ?_ _)); refine eO (cs := #[.int .u32 bq, .string bz, .slice lA fV.length lu, .slice eP cI.length eN, .slice eE bI.length er]) ?_ 3 _ rfl; (with_reducible repeat (first | refine aK ?_ _ | refine aT ?_ | refine aM ?_ _)); exact a6.out) hb); have jb := ak (eM (g := ei) (o := .cells #[.int .u32 0, .string (⟨#[]⟩ : ByteArray), .slice none 0 0, .slice none 0 0, .slice none 0 0] 62 (0, 0)) (by (with_reducible repeat (first | refine aK ?_ _ | refine aT ?_ | refine aM ?_ _)); refine ll ?_ mT.out _; (with_reducible repeat (first | refine aK ?_ _ | refine aT ?_ | refine aM ?_ _)); exact dR.out) hb); have lM := ak (bE (by repeat (first | (with_reducible first | exact HB.out | apply al | apply af | apply aq | refine aQ ?_ iA.out | refine aQ ?_ jV.out) | exact HB.out)) hb); clear iz; clear nr; clear a6; clear dR; clear HB; have iz := cA; have nr := cP; have pN := dh; have a6 := dN; have dR := jb; have HB := lM; clear cA cP dh dN jb lM; clear hb AV; have Kb : tR.cell? ⟨b6, 0, none⟩ = some (.int .u32 bq) := (aC a6.out 0).trans rfl; have Ka : tR.cell? ⟨b6, 1, none⟩ = some (.string bz) := (aC a6.out 1).trans rfl; have J9 : tR.cell? ⟨b6, 2, none⟩ = some (.slice lA fV.length lu) := (aC a6.out 2).trans rfl; have J8 : tR.cell? ⟨b6, 3, none⟩ = some (.slice qD km.length qq) := (aC a6.out 3).trans rfl; have J7 : tR.cell? ⟨b6, 4, none⟩ = some (.slice eE bI.length er) := (aC a6.out 4).trans rfl; have JT := ao a6.out 0; have JS := ao a6.out 1; have JR := ao a6.out 2; have JQ := ao a6.out 3; have JP := ao a6.out 4) | ((with_reducible refine cz (b := .append) (xs := #[.tmp 13, .tmp 15]) rfl ?_); at_builtin; refine Kd.R_append_rows g8 (w0 := w) w.heap.size rfl (.tmp 13) (.tmp 15) 49 76 (.agg #[(.string ⟨#[]⟩), (.string ⟨#[]⟩)]) 32 rfl Try.underlying49 Lk rfl (by decide) (by omega) K1 fU bI _ _ _ (fun _ => True) (fun _ => False) rfl rfl ?aO ?aR (fun _ _ h => h) (fun _ h => h.elim) ?aF ?aB ?aS ?aL ?_; (case aR => repeat (first | exact (Kd.C_below tu.out HB.out) | (with_reducible refine Kd.C_alloc ?_ _) | (with_reducible refine Kd.C_drewN ?_ _) | (with_reducible refine Kd.C_drew ?_))); (case aB => exact (by repeat (first | (with_reducible first | exact HB.out | apply al | apply af | apply aq | refine aQ ?_ iA.out | refine aQ ?_ jV.out) | exact HB.out))); (case aF => exact (fun _ _ => trivial)); (case aO => exact (by (with_reducible repeat (first | apply Kd.R_alloc | apply Kd.R_drewN | apply Kd.R_drew)); exact pN.out)); (case aS => exact (bs (by repeat (first | (with_reducible first | exact HB.out | apply al | apply af | apply aq | refine aQ ?_ iA.out | refine aQ ?_ jV.out) | exact HB.out)))); (case aL => have := Pk.out; omega); intro RK oO ho hb hg hat; rw [← KL.out] at ho; have cA := ak (jU (g := b6) (o := .cells #[.int .u32 bq, .string bz, .slice lA fV.length lu, .slice qD km.length qq, .slice eE bI.length er] 62 (0, 0)) (by (with_reducible repeat (first | refine aK ?_ _ | refine aT ?_ | refine aM ?_ _)); exact a6.out) hg (Kd.R_ne pN.out a6.out (by decide))); have cP := ak (jU (g := ei) (o := .cells #[.int .u32 0, .string (⟨#[]⟩ : ByteArray), .slice none 0 0, .slice none 0 0, .slice none 0 0] 62 (0, 0)) (by (with_reducible repeat (first | refine aK ?_ _ | refine aT ?_ | refine aM ?_ _)); exact dR.out) hg (Kd.R_ne pN.out dR.out (by decide))); have dh := ak (Kd.R_over' (by (with_reducible repeat (first | apply Kd.R_alloc | apply Kd.R_drewN | apply Kd.R_drew)); exact iz.out) (Kd.R_typed (by (with_reducible repeat (first | apply Kd.R_alloc | apply Kd.R_drewN | apply Kd.R_drew)); exact pN.out)) (by decide) hg); have dN := ak (Kd.R_over' (by (with_reducible repeat (first | apply Kd.R_alloc | apply Kd.R_drewN | apply Kd.R_drew)); exact nr.out) (Kd.R_typed (by (with_reducible repeat (first | apply Kd.R_alloc | apply Kd.R_drewN | apply Kd.R_drew)); exact pN.out)) (by decide) hg); have jb := ak (hb); have lM := ak (ho); clear a6; clear dR; clear iz; clear nr; clear HB; clear pN; have a6 := cA; have dR := cP; have iz := dh; have nr := dN; have HB := jb; have Dp := lM; clear cA cP dh dN jb lM; clear ho hb hg hat; obtain ⟨wg, vW, O4⟩ := Kd.R_slice Dp.out; subst O4; have QT : oO.cell? ⟨b6, 0, none⟩ = some (.int .u32 bq) := (aC a6.out 0).trans rfl; have QS : oO.cell? ⟨b6, 1, none⟩ = some (.string bz) := (aC a6.out 1).trans rfl; have QR : oO.cell? ⟨b6, 2, none⟩ = some (.slice lA fV.length lu) := (aC a6.out 2).trans rfl; have QQ : oO.cell? ⟨b6, 3, none⟩ = some (.slice qD km.length qq) := (aC a6.out 3).trans rfl; have QP : oO.cell? ⟨b6, 4, none⟩ = some (.slice eE bI.length er) := (aC a6.out 4).trans rfl; have PY := ao a6.out 0; have PX := ao a6.out 1; have PW := ao a6.out 2; have PV := ao a6.out 3; have PU := ao a6.out 4; have QO : oO.cell? ⟨ei, 0, none⟩ = some (.int .u32 0) := (aC dR.out 0).trans rfl; have QN : oO.cell? ⟨ei, 1, none⟩ = some (.string (⟨#[]⟩ : ByteArray)) := (aC dR.out 1).trans rfl; have QM : oO.cell? ⟨ei, 2, none⟩ = some (.slice none 0 0) := (aC dR.out 2).trans rfl; have QL : oO.cell? ⟨ei, 3, none⟩ = some (.slice none 0 0) := (aC dR.out 3).trans rfl; have QK : oO.cell? ⟨ei, 4, none⟩ = some (.slice none 0 0) := (aC dR.out 4).trans rfl; have PT := ao dR.out 0; have PS := ao dR.out 1; have PR := ao dR.out 2; have PQ := ao dR.out 3; have PO := ao dR.out 4))
    refine bodyPost_ret (results_cell_row rfl _ _ ei 62 #[.int .u32 bq, .string bz, .slice lA fV.length lu, .slice qD km.length qq, .slice wg oN.length vW] (0, 0) _ rfl (by (with_reducible repeat (first | refine aK ?_ _ | refine aT ?_ | refine aM ?_ _)); refine eO (cs := #[.int .u32 bq, .string bz, .slice lA fV.length lu, .slice qD km.length qq, .slice none 0 0]) ?_ 4 _ rfl; (with_reducible repeat (first | refine aK ?_ _ | refine aT ?_ | refine aM ?_ _)); refine eO (cs := #[.int .u32 bq, .string bz, .slice lA fV.length lu, .slice none 0 0, .slice none 0 0]) ?_ 3 _ rfl; (with_reducible repeat (first | refine aK ?_ _ | refine aT ?_ | refine aM ?_ _)); refine eO (cs := #[.int .u32 bq, .string bz, .slice none 0 0, .slice none 0 0, .slice none 0 0]) ?_ 2 _ rfl; (with_reducible repeat (first | refine aK ?_ _ | refine aT ?_ | refine aM ?_ _)); refine eO (cs := #[.int .u32 bq, .string (⟨#[]⟩ : ByteArray), .slice none 0 0, .slice none 0 0, .slice none 0 0]) ?_ 1 _ rfl; (with_reducible repeat (first | refine aK ?_ _ | refine aT ?_ | refine aM ?_ _)); refine eO (cs := #[.int .u32 0, .string (⟨#[]⟩ : ByteArray), .slice none 0 0, .slice none 0 0, .slice none 0 0]) ?_ 0 _ rfl; (with_reducible repeat (first | refine aK ?_ _ | refine aT ?_ | refine aM ?_ _)); refine ll ?_ mT.out _; (with_reducible repeat (first | refine aK ?_ _ | refine aT ?_ | refine aM ?_ _)); exact dR.out) Try.underlying62 rfl (by kernel_rfl)) rfl ?_
    exact ⟨_, _, _, by first | rfl | (simp [cw, ct] <;> rfl) | (simp [*, cw, ct] <;> rfl), by (with_reducible repeat (first | apply Kd.R_alloc | apply Kd.R_drewN | apply Kd.R_drew)); exact Kd.R_mono (Kd.R_far (p := ⟨ei, 4, none⟩) (Kd.R_far (p := ⟨ei, 3, none⟩) (Kd.R_far (p := ⟨ei, 2, none⟩) (Kd.R_far (p := ⟨ei, 1, none⟩) (Kd.R_far (p := ⟨ei, 0, none⟩) (Kd.R_far (p := ⟨b6, 4, none⟩) (Kd.R_types (Kd.R_types iz.out a6.out (by decide)) dR.out (by decide)) (fun _ hk => hk.1.2) (.slice wg oN.length vW)) (fun _ hk => hk.2) (.int .u32 bq)) (fun _ hk => hk.2) (.string bz)) (fun _ hk => hk.2) (.slice lA fV.length lu)) (fun _ hk => hk.2) (.slice qD km.length qq)) (fun _ hk => hk.2) (.slice wg oN.length vW)) (fun _ hk => hk.1.1.2), by (with_reducible repeat (first | apply Kd.R_alloc | apply Kd.R_drewN | apply Kd.R_drew)); exact Kd.R_mono (Kd.R_far (p := ⟨ei, 4, none⟩) (Kd.R_far (p := ⟨ei, 3, none⟩) (Kd.R_far (p := ⟨ei, 2, none⟩) (Kd.R_far (p := ⟨ei, 1, none⟩) (Kd.R_far (p := ⟨ei, 0, none⟩) (Kd.R_far (p := ⟨b6, 4, none⟩) (Kd.R_types (Kd.R_types nr.out a6.out (by decide)) dR.out (by decide)) (fun _ hk => hk.1.2) (.slice wg oN.length vW)) (fun _ hk => hk.2) (.int .u32 bq)) (fun _ hk => hk.2) (.string bz)) (fun _ hk => hk.2) (.slice lA fV.length lu)) (fun _ hk => hk.2) (.slice qD km.length qq)) (fun _ hk => hk.2) (.slice wg oN.length vW)) (fun _ hk => hk.1.1), by (with_reducible repeat (first | apply Kd.R_alloc | apply Kd.R_drewN | apply Kd.R_drew)); exact Kd.R_mono (Kd.R_far (p := ⟨ei, 4, none⟩) (Kd.R_far (p := ⟨ei, 3, none⟩) (Kd.R_far (p := ⟨ei, 2, none⟩) (Kd.R_far (p := ⟨ei, 1, none⟩) (Kd.R_far (p := ⟨ei, 0, none⟩) (Kd.R_far (p := ⟨b6, 4, none⟩) (Kd.R_types (Kd.R_types Dp.out a6.out (by decide)) dR.out (by decide)) (fun _ hk => hk.1.2) (.slice wg oN.length vW)) (fun _ hk => hk.2) (.int .u32 bq)) (fun _ hk => hk.2) (.string bz)) (fun _ hk => hk.2) (.slice lA fV.length lu)) (fun _ hk => hk.2) (.slice qD km.length qq)) (fun _ hk => hk.2) (.slice wg oN.length vW)) (fun _ hk => trivial), by repeat (first | (with_reducible first | exact HB.out | apply al | apply af | apply aq | refine aQ ?_ iA.out | refine aQ ?_ jV.out) | exact HB.out)⟩
   ·rw [if_neg c4] at H
    exact absurd H (by simp)
  ·rw [if_neg c3] at H
   exact absurd H (by simp)
 ·rw [if_neg c2] at H
  exact absurd H (by simp)
end Go.Proofs.Ytemhalnhbgkbcaa.V
end

section
namespace Go.Proofs.Ytemhalnhbgkbcaa.V
abbrev kz := S76
abbrev da (a : Int) (s : ByteArray) (vs vf va : Value) : List Value := [.int .u32 a, .string s, vs, vf, va]
theorem dJ (a : Int) (s : ByteArray) {vs vf va : Value} (h1 : vs.oneCell' = true) (h2 : vf.oneCell' = true) (h3 : va.oneCell' = true) : ∀ u ∈ da a s vs vf va, u.oneCell' = true := by
 intro u hu
 simp only [List.mem_cons, List.not_mem_nil, or_false] at hu
 rcases hu with rfl | rfl | rfl | rfl | rfl
 ·rfl
 ·rfl
 ·exact h1
 ·exact h2
 ·exact h3
structure RbR (W : World) (b : Bk) (M : List kz) (As : Option Addr) (cs : Nat) (Af : Option Addr) (cf : Nat) (Aa : Option Addr) (ca : Nat) : Prop where
 m : M = b.attrs.map vc
 sr : Kd.C (Kd.int .i64) W As b.slots.length b.slots
 sc : b.slots.length ≤ cs
 fr : Kd.C (Kd.int .i64) W Af b.free.length b.free
 fc : b.free.length ≤ cf
 ar : Kd.C g8 W Aa M.length M
 ac : M.length ≤ ca
theorem RbR.below {W W1 : World} {b : Bk} {M : List kz} {As : Option Addr} {cs : Nat} {Af : Option Addr} {cf : Nat} {Aa : Option Addr} {ca : Nat} (h : RbR W b M As cs Af cf Aa ca) (hb : Below W.heap.size W W1) : RbR W1 b M As cs Af cf Aa ca := ⟨h.m, Kd.C_below h.sr hb, h.sc, Kd.C_below h.fr hb, h.fc, Kd.C_below h.ar hb, h.ac⟩
def jd (W : World) (v : Value) (b : Bk) : Prop := ∃ M As cs Af cf Aa ca, v = .agg (da b.addr b.aff (.slice As b.slots.length cs) (.slice Af b.free.length cf) (.slice Aa M.length ca)).toArray ∧ RbR W b M As cs Af cf Aa ca
theorem jd.below {W W1 : World} {v : Value} {b : Bk} (h : jd W v b) (hb : Below W.heap.size W W1) : jd W1 v b := by
 obtain ⟨M, As, cs, Af, cf, Aa, ca, e, hr⟩ := h
 exact ⟨M, As, cs, Af, cf, Aa, ca, e, hr.below hb⟩
def eG (W : World) (base : Nat) (v : Value) (b : Bk) : Prop := ∃ vs vf va, v = .agg (da b.addr b.aff vs vf va).toArray ∧ Kd.R (Kd.int .i64) 3 W base (fun _ => True) vs b.slots ∧ Kd.R (Kd.int .i64) 3 W base (fun _ => True) vf b.free ∧ Kd.R g8 76 W base (fun _ => True) va (b.attrs.map vc)
theorem eG.toV {W : World} {base : Nat} {v : Value} {b : Bk} (h : eG W base v b) : jd W v b := by
 obtain ⟨vs, vf, va, rfl, h1, h2, h3⟩ := h
 obtain ⟨As, cs, rfl, l1, c1⟩ := Kd.R_reads h1
 obtain ⟨Af, cf, rfl, l2, c2⟩ := Kd.R_reads h2
 obtain ⟨Aa, ca, rfl, l3, c3⟩ := Kd.R_reads h3
 exact ⟨_, As, cs, Af, cf, Aa, ca, rfl, rfl, c1, l1, c2, l2, c3, l3⟩
theorem eG.below {W W1 : World} {base : Nat} {v : Value} {b : Bk} (h : eG W base v b) (hb : Below W.heap.size W W1) : eG W1 base v b := by
 obtain ⟨vs, vf, va, rfl, h1, h2, h3⟩ := h
 exact ⟨vs, vf, va, rfl, Kd.R_below h1 hb, Kd.R_below h2 hb, Kd.R_below h3 hb⟩
theorem eG.lower {W : World} {base base' : Nat} {v : Value} {b : Bk} (h : eG W base v b) (hb : base' ≤ base) : eG W base' v b := by
 obtain ⟨vs, vf, va, rfl, h1, h2, h3⟩ := h
 exact ⟨vs, vf, va, rfl, Kd.R_lower h1 hb, Kd.R_lower h2 hb, Kd.R_lower h3 hb⟩
theorem zP (b : Bk) (hs : b.slots.length ≤ 1000) (hf : b.free.length ≤ 5000) (M : List kz) (hm : M.length ≤ 1000) (As : Option Addr) (cs : Nat) (Af : Option Addr) (cf : Nat) (Aa : Option Addr) (ca : Nat) (w : World) (hr : RbR w b M As cs Af cf Aa ca) :
  Calls Try.prog 85 #[.agg (da b.addr b.aff (.slice As b.slots.length cs) (.slice Af b.free.length cf) (.slice Aa M.length ca)).toArray] w fun e w' => ∃ vs vf va, e = .returned (.agg (da b.addr b.aff vs vf va).toArray) ∧ Kd.R (Kd.int .i64) 3 w' w.heap.size (fun k => some k ≠ vf.ownBlock) vs b.slots ∧ Kd.R (Kd.int .i64) 3 w' w.heap.size (fun k => some k ≠ vs.ownBlock) vf b.free ∧ Kd.R g8 76 w' w.heap.size (fun _ => True) va M ∧ Below w.heap.size w w' := by
 have h : jH.f b.addr b.aff b.slots b.free M = some (b.addr, b.aff, b.slots, b.free, M) := by
  unfold jH.f
  simp only [Option.bind_some, List.nil_append, List.length_nil, Nat.zero_add]
  rw [if_pos (by omega), if_pos (by omega), if_pos (by omega)]
 exact jH.calls _ _ _ _ _ _ _ _ _ _ _ _ _ _ _ _ w hr.sr hr.sc hr.fr hr.fc hr.ar hr.ac h
theorem ln {k : IntKind} {e base n cap g : Nat} {ok : Nat → Prop} {W : World} {xs : List Int} (h : Kd.R (Kd.int k) e W base ok (.slice (some ⟨g, 0, none⟩) n cap) xs) (j : Nat) (hj : j < n) : W.cell? ⟨g, j, none⟩ = some (.int k (rd xs j)) ∧ W.frozen? ⟨g, j, none⟩ = false := by
 have hn := (Kd.R_reads' h).1
 obtain ⟨ad, eA, hx⟩ := Kd.at_int (Kd.R_reads' h).2.2 j (by omega) (by omega)
 cases eA
 rw [Int.toNat_natCast, add_plain] at hx
 refine ⟨hx, ?_⟩
 obtain ⟨ce, hcl, _, hcc, hcf⟩ := Kd.R_elem h 0 (j : Int) (by omega) (by omega)
 have h2 := hcf 0
 rwa [show ((j : Int).toNat * (Kd.int k).sz + 0) = j by show (j : Int).toNat * 1 + 0 = j; omega] at h2
theorem mQ {k : IntKind} {e base n cap g : Nat} {ok : Nat → Prop} {W : World} {xs : List Int} (h : Kd.R (Kd.int k) e W base ok (.slice (some ⟨g, 0, none⟩) n cap) xs) (j : Nat) (hj : j < n) (x : Int) : Kd.R (Kd.int k) e (W.setCell ⟨g, j, none⟩ (.int k x)) base ok (.slice (some ⟨g, 0, none⟩) n cap) (xs.set j x) ∧ W.grownBy (W.setCell ⟨g, j, none⟩ (.int k x)) (some g) := by
 obtain ⟨ce, hcl, _, hcc, _⟩ := Kd.R_elem h 0 (j : Int) (by omega) (by omega)
 have hsg := Kd.R_seg h (j : Int) (by omega) (by omega) (seg := [.int k x]) (j := 0) (x' := x) (okp := fun _ => False) hcl hcc (Nat.le_refl 1) (by
  obtain ⟨u, rfl⟩ := List.length_eq_one_iff.1 (show ce.length = 1 from hcl)
  rfl) (fun _ h => h.elim)
 rw [show ((j : Int).toNat * (Kd.int k).sz + 0) = j by show (j : Int).toNat * 1 + 0 = j; omega, Int.toNat_natCast] at hsg
 exact hsg
theorem tG (l : List At) (a : At) (k : Nat) (hk : k < l.length) (h : sameAt (gF l k) a = false) : fO (l.take (k + 1)) a = fO (l.take k) a := by
 have e := uU l k hk
 unfold fO
 rw [e, List.findIdx?_append]
 have h2 : sameAt a (gF l k) = false := by rw [se]; exact h
 cases hq : (l.take k).findIdx? (sameAt a) with
 | some i => rfl
 | none => simp [h2]
theorem zI (l : List At) (a : At) (k : Nat) (hk : k < l.length) (h : sameAt (gF l k) a = true) (hn : (l.take k).any (sameAt (gF l k)) = false) : fO (l.take (k + 1)) a = some k := by
 have e := uU l k hk
 have ha : gF l k = a := (gP _ _).1 h
 unfold fO
 rw [e, List.findIdx?_append]
 have hq : (l.take k).findIdx? (sameAt a) = none := by
  rw [List.findIdx?_eq_none_iff]
  intro x hx
  rw [← ha]
  have h2 := List.any_eq_false.1 hn x hx
  simpa using h2
 rw [hq]
 have h3 : sameAt a (gF l k) = true := by rw [se]; exact h
 simp [h3, List.length_take]
 omega
end Go.Proofs.Ytemhalnhbgkbcaa.V
end

section
namespace Go.Proofs.Ytemhalnhbgkbcaa.V
def RX (W : World) (b1 g : Nat) (b : Bk) : Prop := ∃ M vs vf va, M = b.attrs.map vc ∧ aH W g (da b.addr b.aff vs vf va) 62 ∧ Kd.R (Kd.int .i64) 3 W b1 (fun _ => True) vs b.slots ∧ Kd.R (Kd.int .i64) 3 W b1 (fun _ => True) vf b.free ∧ Kd.R g8 76 W b1 (fun _ => True) va M
section
variable {W W1 : World} {b1 b2 g g' t : Nat} {b : Bk}
theorem RX.open (h : RX W b1 g b) : ∃ M As cs Af cf Aa ca, M = b.attrs.map vc ∧ aH W g (da b.addr b.aff (.slice As b.slots.length cs) (.slice Af b.free.length cf) (.slice Aa M.length ca)) 62 ∧ Kd.R (Kd.int .i64) 3 W b1 (fun _ => True) (.slice As b.slots.length cs) b.slots ∧ Kd.R (Kd.int .i64) 3 W b1 (fun _ => True) (.slice Af b.free.length cf) b.free ∧ Kd.R g8 76 W b1 (fun _ => True) (.slice Aa M.length ca) M := by
 obtain ⟨M, vs, vf, va, hm, hx, hs, hf, ha⟩ := h
 obtain ⟨As, cs, rfl⟩ := Kd.R_slice hs
 obtain ⟨Af, cf, rfl⟩ := Kd.R_slice hf
 obtain ⟨Aa, ca, rfl⟩ := Kd.R_slice ha
 exact ⟨M, As, cs, Af, cf, Aa, ca, hm, hx, hs, hf, ha⟩
theorem RX.below (h : RX W b1 g b) (hb : Below W.heap.size W W1) : RX W1 b1 g b := by
 obtain ⟨M, vs, vf, va, hm, hx, hs, hf, ha⟩ := h
 exact ⟨M, vs, vf, va, hm, hx.below hb, Kd.R_below hs hb, Kd.R_below hf hb, Kd.R_below ha hb⟩
theorem RX.lower (h : RX W b1 g b) (hb : b2 ≤ b1) : RX W b2 g b := by
 obtain ⟨M, vs, vf, va, hm, hx, hs, hf, ha⟩ := h
 exact ⟨M, vs, vf, va, hm, hx, Kd.R_lower hs hb, Kd.R_lower hf hb, Kd.R_lower ha hb⟩
theorem RX.lt (h : RX W b1 g b) : g < W.heap.size := by
 obtain ⟨M, vs, vf, va, hm, hx, _⟩ := h
 exact hx.lt
theorem RX.box {cs : List Value} (h : RX W b1 g b) (hx' : aH W g' cs t) (ht : ∀ q, q ∈ [3, 76] → q ≠ t) (hne : g ≠ g') (hg : W.grownBy W1 (some g')) : RX W1 b1 g b := by
 obtain ⟨M, vs, vf, va, hm, hx, hs, hf, ha⟩ := h
 have h1 : ∀ q, q ∈ (3 : Nat) :: (Kd.int .i64).E → q ≠ t := fun q hq => by
  rcases List.mem_cons.1 hq with rfl | hq
  ·exact ht _ (by simp)
  ·cases hq
 exact ⟨M, vs, vf, va, hm, hx.grown hg (fun e => hne (Option.some.inj e)), bX hs hx' h1 hg, bX hf hx' h1 hg, bX ha hx' (fun q hq => by
  rcases List.mem_cons.1 hq with rfl | hq
  ·exact ht _ (by simp)
  ·cases hq) hg⟩
theorem RX.row {α : Type} {d : Kd α} {e base' : Nat} {ok : Nat → Prop} {v : Value} {xs : List α} (h : RX W b1 g b) (hr : d.R e W base' ok v xs) (he : e ≠ 62) (ht : ∀ q, q ∈ [3, 76] → q ≠ e) (hg : W.grownBy W1 v.ownBlock) : RX W1 b1 g b := by
 obtain ⟨M, vs, vf, va, hm, hx, hs, hf, ha⟩ := h
 have h1 : ∀ q, q ∈ (3 : Nat) :: (Kd.int .i64).E → q ≠ e := fun q hq => by
  rcases List.mem_cons.1 hq with rfl | hq
  ·exact ht _ (by simp)
  ·cases hq
 exact ⟨M, vs, vf, va, hm, hx.grown hg (hx.ne_row hr he), Kd.R_over hs hr h1 hg, Kd.R_over hf hr h1 hg, Kd.R_over ha hr (fun q hq => by
  rcases List.mem_cons.1 hq with rfl | hq
  ·exact ht _ (by simp)
  ·cases hq) hg⟩
theorem RX.addrCell (h : RX W b1 g b) : W.cell? ⟨g, 0, none⟩ = some (.int .u32 b.addr) := by
 obtain ⟨M, vs, vf, va, hm, hx, _⟩ := h
 exact hx.cell 0 _ rfl
end
theorem RX.stored {W W1 : World} {b1 g : Nat} {b : Bk} {vs vf va : Value} {qI : List Value} (hx : aH W g qI 62) (jf : aH W1 g (da b.addr b.aff vs vf va) 62) (hs : Kd.R (Kd.int .i64) 3 W b1 (fun _ => True) vs b.slots) (hf : Kd.R (Kd.int .i64) 3 W b1 (fun _ => True) vf b.free) (ha : Kd.R g8 76 W b1 (fun _ => True) va (b.attrs.map vc)) (hg : W.grownBy W1 (some g)) : RX W1 b1 g b :=
 ⟨_, vs, vf, va, rfl, jf, bX hs hx (by decide) hg, bX hf hx (by decide) hg, bX ha hx (by decide) hg⟩
end Go.Proofs.Ytemhalnhbgkbcaa.V
end

