/- The law BlockBack for every input: texts of ours, put together (part 6 of 16). No further condition. -/
import Derived.Test.YtemhalnhbgkbcaaCBlockBackx2
import Derived.Test.YtemhalnhbgkbcaaCBlockBackx3
import Derived.Test.YtemhalnhbgkbcaaCBlockBackx4
set_option linter.unusedVariables false
set_option linter.unusedSimpArgs false
open Go.RowKit Go.Proofs.YtemhalnhbgkbcaaW.PrintWords Go.Proofs.YtemhalnhbgkbcaaW.PrintLast Go.Proofs.YtemhalnhbgkbcaaW.PrintMore Go.Proofs.Ytemhalnhbgkbcaa.Z
section
namespace Go.Proofs.Ytemhalnhbgkbcaa.V
attribute [local go_sem] eH eF fk fj ei eh eG eE
def jL.f (br : Int) (bB : ByteArray) (bI : List Int) (cJ : List Int) (bH : List (S76)) : Option (Int × ByteArray × List Int × List Int × (List (S76))) := (some (([] : List Int) : List Int)).bind fun lL => (if lL.length + bI.length < 17592186044416 then ((some (([] : List Int) : List Int)).bind fun jb => (if jb.length + cJ.length < 17592186044416 then ((some (([] : List (S76)) : List (S76))).bind fun fW => (if fW.length + bH.length < 4398046511104 then (some (br, bB, (lL ++ bI), (jb ++ cJ), (fW ++ bH))) else (none))) else (none))) else (none))
set_option maxHeartbeats 8000000 in
set_option maxRecDepth 100000 in
theorem jL.calls (br : Int) (bB : ByteArray) (fv : Option Addr) (fp : Nat) (bI : List Int) (eY : Option Addr) (eW : Nat) (cJ : List Int) (eK : Option Addr) (eB : Nat) (bH : List (S76)) (r1 : Int) (r2 : ByteArray) (r3 : List Int) (r4 : List Int) (r5 : List (S76)) (w : World) (rf : Kd.C (Kd.int .i64) w fv bI.length bI) (rn : bI.length ≤ fp) (re : Kd.C (Kd.int .i64) w eY cJ.length cJ) (rm : cJ.length ≤ eW) (rb : Kd.C hH w eK bH.length bH) (rl : bH.length ≤ eB) (h : jL.f br bB bI cJ bH = some (r1, r2, r3, r4, r5)) :
  Calls Try.prog 85 #[.agg #[.int .u32 br, .string bB, .slice fv bI.length fp, .slice eY cJ.length eW, .slice eK bH.length eB]] w fun e w' => ∃ zl AE E2 : Value, e = .returned (.agg #[.int .u32 r1, .string r2, zl, AE, E2]) ∧ Kd.R (Kd.int .i64) 3 w' w.heap.size (fun k_ => some k_ ≠ (AE : Value).ownBlock) zl r3 ∧ Kd.R (Kd.int .i64) 3 w' w.heap.size (fun k_ => some k_ ≠ (zl : Value).ownBlock) AE r4 ∧ Kd.R hH 76 w' w.heap.size (fun _ => True) E2 r5 ∧ Below w.heap.size w w' := by
 have G3 := Try.underlying62
 have pT := ak rf
 have yz := ak rn
 clear rf rn
 have vF := ak re
 have yy := ak rm
 clear re rm
 have tJ := ak rb
 have yx := ak rl
 clear rb rl
 have HB := ak (Below.refl w.heap.size w)
 have H : ((some (([] : List Int) : List Int)).bind fun lL => (if lL.length + bI.length < 17592186044416 then ((some (([] : List Int) : List Int)).bind fun jb => (if jb.length + cJ.length < 17592186044416 then ((some (([] : List (S76)) : List (S76))).bind fun fW => (if fW.length + bH.length < 4398046511104 then (some (br, bB, (lL ++ bI), (jb ++ cJ), (fW ++ bH))) else (none))) else (none))) else (none))) = some (r1, r2, r3, r4, r5) := h
 clear h
 obtain ⟨lL, tb⟩ : ∃ y_ : List Int, y_ = (([] : List Int)) := ⟨_, rfl⟩
 replace H : (if lL.length + bI.length < 17592186044416 then ((some (([] : List Int) : List Int)).bind fun jb => (if jb.length + cJ.length < 17592186044416 then ((some (([] : List (S76)) : List (S76))).bind fun fW => (if fW.length + bH.length < 4398046511104 then (some (br, bB, (lL ++ bI), (jb ++ cJ), (fW ++ bH))) else (none))) else (none))) else (none)) = some (r1, r2, r3, r4, r5) := by first | (rw [tb]; with_reducible exact H) | (have kc := (Option.bind_some _ _).symm.trans H; rw [tb]; with_reducible exact kc) | (have kc := (Option.bind_some _ _).symm.trans H; with_reducible exact kc) | with_reducible exact H | (rw [tb]; exact H) | exact H
 have DM := ak tb
 clear tb
 by_cases c2 : lL.length + bI.length < 17592186044416
 ·rw [if_pos c2] at H
  have Qu := ak c2
  clear c2
  obtain ⟨fX, ta⟩ : ∃ y_ : List Int, y_ = (lL ++ bI) := ⟨_, rfl⟩
  replace H : ((some (([] : List Int) : List Int)).bind fun jb => (if jb.length + cJ.length < 17592186044416 then ((some (([] : List (S76)) : List (S76))).bind fun fW => (if fW.length + bH.length < 4398046511104 then (some (br, bB, fX, (jb ++ cJ), (fW ++ bH))) else (none))) else (none))) = some (r1, r2, r3, r4, r5) := by first | (rw [ta]; with_reducible exact H) | (have kc := (Option.bind_some _ _).symm.trans H; rw [ta]; with_reducible exact kc) | (have kc := (Option.bind_some _ _).symm.trans H; with_reducible exact kc) | with_reducible exact H | (rw [ta]; exact H) | exact H
  have Md := ak ta
  clear ta
  obtain ⟨jb, sZ⟩ : ∃ y_ : List Int, y_ = (([] : List Int)) := ⟨_, rfl⟩
  replace H : (if jb.length + cJ.length < 17592186044416 then ((some (([] : List (S76)) : List (S76))).bind fun fW => (if fW.length + bH.length < 4398046511104 then (some (br, bB, fX, (jb ++ cJ), (fW ++ bH))) else (none))) else (none)) = some (r1, r2, r3, r4, r5) := by first | (rw [sZ]; with_reducible exact H) | (have kc := (Option.bind_some _ _).symm.trans H; rw [sZ]; with_reducible exact kc) | (have kc := (Option.bind_some _ _).symm.trans H; with_reducible exact kc) | with_reducible exact H | (rw [sZ]; exact H) | exact H
  have DL := ak sZ
  clear sZ
  by_cases c3 : jb.length + cJ.length < 17592186044416
  ·rw [if_pos c3] at H
   have Qt := ak c3
   clear c3
   obtain ⟨ku, sY⟩ : ∃ y_ : List Int, y_ = (jb ++ cJ) := ⟨_, rfl⟩
   replace H : ((some (([] : List (S76)) : List (S76))).bind fun fW => (if fW.length + bH.length < 4398046511104 then (some (br, bB, fX, ku, (fW ++ bH))) else (none))) = some (r1, r2, r3, r4, r5) := by first | (rw [sY]; with_reducible exact H) | (have kc := (Option.bind_some _ _).symm.trans H; rw [sY]; with_reducible exact kc) | (have kc := (Option.bind_some _ _).symm.trans H; with_reducible exact kc) | with_reducible exact H | (rw [sY]; exact H) | exact H
   have Mc := ak sY
   clear sY
   obtain ⟨fW, sX⟩ : ∃ y_ : List (S76), y_ = (([] : List (S76))) := ⟨_, rfl⟩
   replace H : (if fW.length + bH.length < 4398046511104 then (some (br, bB, fX, ku, (fW ++ bH))) else (none)) = some (r1, r2, r3, r4, r5) := by first | (rw [sX]; with_reducible exact H) | (have kc := (Option.bind_some _ _).symm.trans H; rw [sX]; with_reducible exact kc) | (have kc := (Option.bind_some _ _).symm.trans H; with_reducible exact kc) | with_reducible exact H | (rw [sX]; exact H) | exact H
   have DK := ak sX
   clear sX
   by_cases c4 : fW.length + bH.length < 4398046511104
   ·rw [if_pos c4] at H
    have Qs := ak c4
    clear c4
    obtain ⟨o5, sW⟩ : ∃ y_ : List (S76), y_ = (fW ++ bH) := ⟨_, rfl⟩
    replace H : (some (br, bB, fX, ku, o5)) = some (r1, r2, r3, r4, r5) := by first | (rw [sW]; with_reducible exact H) | (have kc := (Option.bind_some _ _).symm.trans H; rw [sW]; with_reducible exact kc) | (have kc := (Option.bind_some _ _).symm.trans H; with_reducible exact kc) | with_reducible exact H | (rw [sW]; exact H) | exact H
    have Mb := ak sW
    clear sW
    simp only [Option.some.injEq, Prod.mk.injEq] at H
    obtain ⟨rfl, rfl, rfl, rfl, rfl⟩ := H
    go_enter Try.func85, Try.ntmps85
    go_wp2_with (first | ((with_reducible refine av (N := 1) rfl ?_); refine fb ?hg (N := 1) ?hd (cs := #[.int .u32 br, .string bB, .slice fv bI.length fp, .slice eY cJ.length eW, .slice eK bH.length eB]) (t := 62) ?hr ?_; (case hd => rfl); (case hg => rfl); (case hr => first | (go_simp; done) | (go_simp; rfl)); intro ch hg w5 hbox hb; have cD := ak (bE (by repeat (first | (with_reducible first | exact HB.out | apply al | apply af | apply aq) | exact HB.out)) hb); have cT := ak (hbox); have dk := ak ((by rw [hg]; exact (bs (by repeat (first | (with_reducible first | exact HB.out | apply al | apply af | apply aq) | exact HB.out))) : w.heap.size ≤ ch)); have dS := ak ((by rw [hg]; exact (bs (by repeat (first | (with_reducible first | exact HB.out | apply al | apply af | apply aq) | exact HB.out))) : w.heap.size ≤ ch)); clear HB; have HB := cD; have a6 := cT; have SF := dk; have iE := dS; clear cD cT dk dS; clear hb hbox hg) | ((with_reducible refine av (N := 2) rfl ?_); refine fb ?hg (N := 2) ?hd (cs := #[.int .u32 0, .string (⟨#[]⟩ : ByteArray), .slice none 0 0, .slice none 0 0, .slice none 0 0]) (t := 62) ?hr ?_; (case hd => rfl); (case hg => rfl); (case hr => first | (go_simp; done) | (go_simp; rfl)); intro eo hg w6 hbox hb; have cD := ak (eV (g := ch) (o := .cells #[.int .u32 br, .string bB, .slice fv bI.length fp, .slice eY cJ.length eW, .slice eK bH.length eB] 62 (0, 0)) (by (with_reducible repeat (first | refine aK ?_ _ | refine aT ?_ | refine aM ?_ _)); exact a6.out) hb); have cT := ak (bE (by repeat (first | (with_reducible first | exact HB.out | apply al | apply af | apply aq | refine aQ ?_ iE.out) | exact HB.out)) hb); have dk := ak (hbox); have dS := ak ((by rw [hg]; exact (bs (by repeat (first | (with_reducible first | exact HB.out | apply al | apply af | apply aq | refine aQ ?_ iE.out) | exact HB.out))) : w.heap.size ≤ eo)); have je := ak ((by rw [hg]; exact (bs (by repeat (first | (with_reducible first | exact HB.out | apply al | apply af | apply aq | refine aQ ?_ iE.out) | exact HB.out))) : w.heap.size ≤ eo)); have lP := ak ((by rw [hg]; exact Nat.ne_of_lt (jM (g := ch) (o := .cells #[.int .u32 br, .string bB, .slice fv bI.length fp, .slice eY cJ.length eW, .slice eK bH.length eB] 62 (0, 0)) (by (with_reducible repeat (first | refine aK ?_ _ | refine aT ?_ | refine aM ?_ _)); exact a6.out)) : ch ≠ eo)); have pa := ak ((by rw [hg]; exact Nat.ne_of_gt (jM (g := ch) (o := .cells #[.int .u32 br, .string bB, .slice fv bI.length fp, .slice eY cJ.length eW, .slice eK bH.length eB] 62 (0, 0)) (by (with_reducible repeat (first | refine aK ?_ _ | refine aT ?_ | refine aM ?_ _)); exact a6.out)) : eo ≠ ch)); clear a6; clear HB; have a6 := cD; have HB := cT; have dV := dk; have SE := dS; have j2 := je; have z3 := lP; have m4 := pa; clear cD cT dk dS je lP pa; clear hb hbox hg) | ((with_reducible refine av (N := 3) rfl ?_); refine Kd.R_lit (Kd.int .i64) _ 3 ?hg (N := 3) ?hd (xs := ([] : List Int)) (inner := []) (ok := fun _ => True) (okp := fun _ => True) ?hr ?hp (fun _ hk => hk) trivial (Below.refl _ _) (Nat.le_refl _) (by simp) ?_; (case hd => rfl); (case hg => rfl); (case hr => first | (go_simp; done) | (go_simp; rfl)); (case hp => exact (de.none _ _)); intro Mu w7 vU hb J wY; clear J wY; (first | rw [← DM.out] at vU | (simp only [Int.reduceToNat] at vU; rw [← DM.out] at vU)); have cD := ak (Kd.R_lower vU (bs (by repeat (first | (with_reducible first | exact HB.out | apply al | apply af | apply aq | refine aQ ?_ iE.out | refine aQ ?_ j2.out) | exact HB.out)))); have cT := ak (eV (g := ch) (o := .cells #[.int .u32 br, .string bB, .slice fv bI.length fp, .slice eY cJ.length eW, .slice eK bH.length eB] 62 (0, 0)) (by (with_reducible repeat (first | refine aK ?_ _ | refine aT ?_ | refine aM ?_ _)); exact a6.out) hb); have dk := ak (eV (g := eo) (o := .cells #[.int .u32 0, .string (⟨#[]⟩ : ByteArray), .slice none 0 0, .slice none 0 0, .slice none 0 0] 62 (0, 0)) (by (with_reducible repeat (first | refine aK ?_ _ | refine aT ?_ | refine aM ?_ _)); exact dV.out) hb); have dS := ak (bE (by repeat (first | (with_reducible first | exact HB.out | apply al | apply af | apply aq | refine aQ ?_ iE.out | refine aQ ?_ j2.out) | exact HB.out)) hb); clear a6; clear dV; clear HB; have vH := cD; have a6 := cT; have dV := dk; have HB := dS; clear cD cT dk dS; clear hb vU; have UX := z3.out; have UT := m4.out; have SD : w7.cell? ⟨ch, 0, none⟩ = some (.int .u32 br) := (aC a6.out 0).trans rfl; have SC : w7.cell? ⟨ch, 1, none⟩ = some (.string bB) := (aC a6.out 1).trans rfl; have SB : w7.cell? ⟨ch, 2, none⟩ = some (.slice fv bI.length fp) := (aC a6.out 2).trans rfl; have SA : w7.cell? ⟨ch, 3, none⟩ = some (.slice eY cJ.length eW) := (aC a6.out 3).trans rfl; have Sz : w7.cell? ⟨ch, 4, none⟩ = some (.slice eK bH.length eB) := (aC a6.out 4).trans rfl; have RF := ao a6.out 0; have RE := ao a6.out 1; have RD := ao a6.out 2; have RC := ao a6.out 3; have RB := ao a6.out 4) | ((with_reducible refine cC (b := .append) (xs := #[.tmp 3, .tmp 5]) rfl ?_); at_builtin; refine Kd.R_append_rows (Kd.int .i64) (w0 := w) w.heap.size rfl (.tmp 3) (.tmp 5) 31 3 (.int .i64 0) 8 rfl Try.underlying31 z7 rfl (by decide) (by omega) Mu lL bI _ _ _ (fun _ => True) (fun _ => False) rfl rfl ?aO ?aR (fun _ _ h => h) (fun _ h => h.elim) ?aF ?aB ?aS ?aL ?_; (case aR => repeat (first | exact (Kd.C_below pT.out HB.out) | (with_reducible refine Kd.C_alloc ?_ _) | (with_reducible refine Kd.C_drewN ?_ _) | (with_reducible refine Kd.C_drew ?_))); (case aB => exact (by repeat (first | (with_reducible first | exact HB.out | apply al | apply af | apply aq | refine aQ ?_ iE.out | refine aQ ?_ j2.out) | exact HB.out))); (case aF => exact (fun _ _ => trivial)); (case aO => exact (by (with_reducible repeat (first | apply Kd.R_alloc | apply Kd.R_drewN | apply Kd.R_drew)); exact vH.out)); (case aS => exact (bs (by repeat (first | (with_reducible first | exact HB.out | apply al | apply af | apply aq | refine aQ ?_ iE.out | refine aQ ?_ j2.out) | exact HB.out)))); (case aL => have := Qu.out; omega); intro SN E0 ho hb hg hat; rw [← Md.out] at ho; have cD := ak (jY (g := ch) (o := .cells #[.int .u32 br, .string bB, .slice fv bI.length fp, .slice eY cJ.length eW, .slice eK bH.length eB] 62 (0, 0)) (by (with_reducible repeat (first | refine aK ?_ _ | refine aT ?_ | refine aM ?_ _)); exact a6.out) hg (Kd.R_ne vH.out a6.out (by decide))); have cT := ak (jY (g := eo) (o := .cells #[.int .u32 0, .string (⟨#[]⟩ : ByteArray), .slice none 0 0, .slice none 0 0, .slice none 0 0] 62 (0, 0)) (by (with_reducible repeat (first | refine aK ?_ _ | refine aT ?_ | refine aM ?_ _)); exact dV.out) hg (Kd.R_ne vH.out dV.out (by decide))); have dk := ak (hb); have dS := ak (ho); clear a6; clear dV; clear HB; clear vH; have a6 := cD; have dV := cT; have HB := dk; have iD := dS; clear cD cT dk dS; clear ho hb hg hat; obtain ⟨lH, lC, Qg⟩ := Kd.R_slice iD.out; subst Qg; have Sp : E0.cell? ⟨ch, 0, none⟩ = some (.int .u32 br) := (aC a6.out 0).trans rfl; have So : E0.cell? ⟨ch, 1, none⟩ = some (.string bB) := (aC a6.out 1).trans rfl; have Sn : E0.cell? ⟨ch, 2, none⟩ = some (.slice fv bI.length fp) := (aC a6.out 2).trans rfl; have Sm : E0.cell? ⟨ch, 3, none⟩ = some (.slice eY cJ.length eW) := (aC a6.out 3).trans rfl; have Sl : E0.cell? ⟨ch, 4, none⟩ = some (.slice eK bH.length eB) := (aC a6.out 4).trans rfl; have Rq := ao a6.out 0; have Rp := ao a6.out 1; have Ro := ao a6.out 2; have Rn := ao a6.out 3; have Rm := ao a6.out 4) | ((with_reducible refine av (N := 8) rfl ?_); refine Kd.R_lit (Kd.int .i64) _ 3 ?hg (N := 8) ?hd (xs := ([] : List Int)) (inner := []) (ok := fun _ => True) (okp := fun _ => True) ?hr ?hp (fun _ hk => hk) trivial (Below.refl _ _) (Nat.le_refl _) (by simp) ?_; (case hd => rfl); (case hg => rfl); (case hr => first | (go_simp; done) | (go_simp; rfl)); (case hp => exact (de.none _ _)); intro Mt EZ yV hb J wY; clear J wY; (first | rw [← DL.out] at yV | (simp only [Int.reduceToNat] at yV; rw [← DL.out] at yV)); have cD := ak (Kd.R_elder' (by (with_reducible repeat (first | apply Kd.R_alloc | apply Kd.R_drewN | apply Kd.R_drew)); exact (Kd.R_mono (Kd.R_far (p := ⟨ch, 2, none⟩) (Kd.R_types iD.out a6.out (by decide)) (fun _ hk => hk.2) (.slice lH fX.length lC)) (fun _ h_ => h_.1))) (Kd.R_base yV) hb); have cT := ak (Kd.R_lower (Kd.R_new' yV (Kd.R_lt (by (with_reducible repeat (first | apply Kd.R_alloc | apply Kd.R_drewN | apply Kd.R_drew)); exact (Kd.R_mono (Kd.R_far (p := ⟨ch, 2, none⟩) (Kd.R_types iD.out a6.out (by decide)) (fun _ hk => hk.2) (.slice lH fX.length lC)) (fun _ h_ => h_.1))))) (bs (by repeat (first | (with_reducible first | exact HB.out | apply al | apply af | apply aq | refine aQ ?_ iE.out | refine aQ ?_ j2.out) | exact HB.out)))); have dk := ak (eV (g := ch) (o := .cells #[.int .u32 br, .string bB, .slice lH fX.length lC, .slice eY cJ.length eW, .slice eK bH.length eB] 62 (0, 0)) (by (with_reducible repeat (first | refine aK ?_ _ | refine aT ?_ | refine aM ?_ _)); refine eX (cs := #[.int .u32 br, .string bB, .slice fv bI.length fp, .slice eY cJ.length eW, .slice eK bH.length eB]) ?_ 2 _ rfl; (with_reducible repeat (first | refine aK ?_ _ | refine aT ?_ | refine aM ?_ _)); exact a6.out) hb); have dS := ak (eV (g := eo) (o := .cells #[.int .u32 0, .string (⟨#[]⟩ : ByteArray), .slice none 0 0, .slice none 0 0, .slice none 0 0] 62 (0, 0)) (by (with_reducible repeat (first | refine aK ?_ _ | refine aT ?_ | refine aM ?_ _)); refine lx ?_ m4.out _; (with_reducible repeat (first | refine aK ?_ _ | refine aT ?_ | refine aM ?_ _)); exact dV.out) hb); have je := ak (bE (by repeat (first | (with_reducible first | exact HB.out | apply al | apply af | apply aq | refine aQ ?_ iE.out | refine aQ ?_ j2.out) | exact HB.out)) hb); clear iD; clear a6; clear dV; clear HB; have iD := cD; have vG := cT; have a6 := dk; have dV := dS; have HB := je; clear cD cT dk dS je; clear hb yV; have Si : EZ.cell? ⟨ch, 0, none⟩ = some (.int .u32 br) := (aC a6.out 0).trans rfl; have Sh : EZ.cell? ⟨ch, 1, none⟩ = some (.string bB) := (aC a6.out 1).trans rfl; have Sg : EZ.cell? ⟨ch, 2, none⟩ = some (.slice lH fX.length lC) := (aC a6.out 2).trans rfl; have Sf : EZ.cell? ⟨ch, 3, none⟩ = some (.slice eY cJ.length eW) := (aC a6.out 3).trans rfl; have Se : EZ.cell? ⟨ch, 4, none⟩ = some (.slice eK bH.length eB) := (aC a6.out 4).trans rfl; have Rj := ao a6.out 0; have Ri := ao a6.out 1; have Rh := ao a6.out 2; have Rg := ao a6.out 3; have Rf := ao a6.out 4) | ((with_reducible refine cC (b := .append) (xs := #[.tmp 8, .tmp 10]) rfl ?_); at_builtin; refine Kd.R_append_rows (Kd.int .i64) (w0 := w) w.heap.size rfl (.tmp 8) (.tmp 10) 31 3 (.int .i64 0) 8 rfl Try.underlying31 z7 rfl (by decide) (by omega) Mt jb cJ _ _ _ (fun k_ => some k_ ≠ (.slice lH fX.length lC : Value).ownBlock) (fun _ => False) rfl rfl ?aO ?aR (fun _ _ h => h) (fun _ h => h.elim) ?aF ?aB ?aS ?aL ?_; (case aR => repeat (first | exact (Kd.C_below vF.out HB.out) | (with_reducible refine Kd.C_alloc ?_ _) | (with_reducible refine Kd.C_drewN ?_ _) | (with_reducible refine Kd.C_drew ?_))); (case aB => exact (by repeat (first | (with_reducible first | exact HB.out | apply al | apply af | apply aq | refine aQ ?_ iE.out | refine aQ ?_ j2.out) | exact HB.out))); (case aF => exact (fun k_ hk => Kd.fresh' (Kd.R_lt (by (with_reducible repeat (first | apply Kd.R_alloc | apply Kd.R_drewN | apply Kd.R_drew)); exact iD.out)) k_ hk)); (case aO => exact (by (with_reducible repeat (first | apply Kd.R_alloc | apply Kd.R_drewN | apply Kd.R_drew)); exact Kd.R_mono vG.out (fun _ hk => hk.2))); (case aS => exact (bs (by repeat (first | (with_reducible first | exact HB.out | apply al | apply af | apply aq | refine aQ ?_ iE.out | refine aQ ?_ j2.out) | exact HB.out)))); (case aL => have := Qt.out; omega); intro SM EW ho hb hg hat; rw [← Mc.out] at ho; have cD := ak (jY (g := ch) (o := .cells #[.int .u32 br, .string bB, .slice lH fX.length lC, .slice eY cJ.length eW, .slice eK bH.length eB] 62 (0, 0)) (by (with_reducible repeat (first | refine aK ?_ _ | refine aT ?_ | refine aM ?_ _)); exact a6.out) hg (Kd.R_ne vG.out a6.out (by decide))); have cT := ak (jY (g := eo) (o := .cells #[.int .u32 0, .string (⟨#[]⟩ : ByteArray), .slice none 0 0, .slice none 0 0, .slice none 0 0] 62 (0, 0)) (by (with_reducible repeat (first | refine aK ?_ _ | refine aT ?_ | refine aM ?_ _)); exact dV.out) hg (Kd.R_ne vG.out dV.out (by decide))); have dk := ak (Kd.R_after (ok := (fun _ => True)) (by (with_reducible repeat (first | apply Kd.R_alloc | apply Kd.R_drewN | apply Kd.R_drew)); exact iD.out) hg hat); have dS := ak (hb); have je := ak (ho); clear a6; clear dV; clear iD; clear HB; clear vG; have a6 := cD; have dV := cT; have iD := dk; have HB := dS; have nB := je; clear cD cT dk dS je; clear ho hb hg hat; obtain ⟨qM, qz, Qd⟩ := Kd.R_slice nB.out; subst Qd; have LG : EW.cell? ⟨ch, 0, none⟩ = some (.int .u32 br) := (aC a6.out 0).trans rfl; have LF : EW.cell? ⟨ch, 1, none⟩ = some (.string bB) := (aC a6.out 1).trans rfl; have LD : EW.cell? ⟨ch, 2, none⟩ = some (.slice lH fX.length lC) := (aC a6.out 2).trans rfl; have LC : EW.cell? ⟨ch, 3, none⟩ = some (.slice eY cJ.length eW) := (aC a6.out 3).trans rfl; have LB : EW.cell? ⟨ch, 4, none⟩ = some (.slice eK bH.length eB) := (aC a6.out 4).trans rfl; have Ln := ao a6.out 0; have Lm := ao a6.out 1; have Ll := ao a6.out 2; have Lk := ao a6.out 3; have Lj := ao a6.out 4) | ((with_reducible refine av (N := 13) rfl ?_); refine Kd.R_lit hH _ 76 ?hg (N := 13) ?hd (xs := ([] : List (S76))) (inner := []) (ok := fun _ => True) (okp := fun _ => True) ?hr ?hp (fun _ hk => hk) trivial (Below.refl _ _) (Nat.le_refl _) (by simp) ?_; (case hd => rfl); (case hg => rfl); (case hr => first | (go_simp; done) | (go_simp; rfl)); (case hp => exact (de.none _ _)); intro Ms ui Bt hb J wY; clear J wY; (first | rw [← DK.out] at Bt | (simp only [Int.reduceToNat] at Bt; rw [← DK.out] at Bt)); have cD := ak (Kd.R_below (by (with_reducible repeat (first | apply Kd.R_alloc | apply Kd.R_drewN | apply Kd.R_drew)); exact (Kd.R_mono (Kd.R_far (p := ⟨ch, 3, none⟩) (Kd.R_types iD.out a6.out (by decide)) (fun _ hk => hk.2) (.slice qM ku.length qz)) (fun _ h_ => h_.1))) hb); have cT := ak (Kd.R_below (by (with_reducible repeat (first | apply Kd.R_alloc | apply Kd.R_drewN | apply Kd.R_drew)); exact (Kd.R_mono (Kd.R_far (p := ⟨ch, 3, none⟩) (Kd.R_types nB.out a6.out (by decide)) (fun _ hk => hk.2) (.slice qM ku.length qz)) (fun _ h_ => h_.1))) hb); have dk := ak (Kd.R_lower Bt (bs (by repeat (first | (with_reducible first | exact HB.out | apply al | apply af | apply aq | refine aQ ?_ iE.out | refine aQ ?_ j2.out) | exact HB.out)))); have dS := ak (eV (g := ch) (o := .cells #[.int .u32 br, .string bB, .slice lH fX.length lC, .slice qM ku.length qz, .slice eK bH.length eB] 62 (0, 0)) (by (with_reducible repeat (first | refine aK ?_ _ | refine aT ?_ | refine aM ?_ _)); refine eX (cs := #[.int .u32 br, .string bB, .slice lH fX.length lC, .slice eY cJ.length eW, .slice eK bH.length eB]) ?_ 3 _ rfl; (with_reducible repeat (first | refine aK ?_ _ | refine aT ?_ | refine aM ?_ _)); exact a6.out) hb); have je := ak (eV (g := eo) (o := .cells #[.int .u32 0, .string (⟨#[]⟩ : ByteArray), .slice none 0 0, .slice none 0 0, .slice none 0 0] 62 (0, 0)) (by (with_reducible repeat (first | refine aK ?_ _ | refine aT ?_ | refine aM ?_ _)); refine lx ?_ m4.out _; (with_reducible repeat (first | refine aK ?_ _ | refine aT ?_ | refine aM ?_ _)); exact dV.out) hb); have lP := ak (bE (by repeat (first | (with_reducible first | exact HB.out | apply al | apply af | apply aq | refine aQ ?_ iE.out | refine aQ ?_ j2.out) | exact HB.out)) hb); clear iD; clear nB; clear a6; clear dV; clear HB; have iD := cD; have nB := cT; have pY := dk; have a6 := dS; have dV := je; have HB := lP; clear cD cT dk dS je lP; clear hb Bt; have LA : ui.cell? ⟨ch, 0, none⟩ = some (.int .u32 br) := (aC a6.out 0).trans rfl; have Lz : ui.cell? ⟨ch, 1, none⟩ = some (.string bB) := (aC a6.out 1).trans rfl; have Ly : ui.cell? ⟨ch, 2, none⟩ = some (.slice lH fX.length lC) := (aC a6.out 2).trans rfl; have Lx : ui.cell? ⟨ch, 3, none⟩ = some (.slice qM ku.length qz) := (aC a6.out 3).trans rfl; have Lw : ui.cell? ⟨ch, 4, none⟩ = some (.slice eK bH.length eB) := (aC a6.out 4).trans rfl; have Li := ao a6.out 0; have Lh := ao a6.out 1; have Lg := ao a6.out 2; have Lf := ao a6.out 3; have Le := ao a6.out 4) | ((with_reducible refine cC (b := .append) (xs := #[.tmp 13, .tmp 15]) rfl ?_); at_builtin; refine Kd.R_append_rows hH (w0 := w) w.heap.size rfl (.tmp 13) (.tmp 15) 49 76 (.agg #[(.string ⟨#[]⟩), (.string ⟨#[]⟩)]) 32 rfl Try.underlying49 MK rfl (by decide) (by omega) Ms fW bH _ _ _ (fun _ => True) (fun _ => False) rfl rfl ?aO ?aR (fun _ _ h => h) (fun _ h => h.elim) ?aF ?aB ?aS ?aL ?_; (case aR => repeat (first | exact (Kd.C_below tJ.out HB.out) | (with_reducible refine Kd.C_alloc ?_ _) | (with_reducible refine Kd.C_drewN ?_ _) | (with_reducible refine Kd.C_drew ?_))); (case aB => exact (by repeat (first | (with_reducible first | exact HB.out | apply al | apply af | apply aq | refine aQ ?_ iE.out | refine aQ ?_ j2.out) | exact HB.out))); (case aF => exact (fun _ _ => trivial)); (case aO => exact (by (with_reducible repeat (first | apply Kd.R_alloc | apply Kd.R_drewN | apply Kd.R_drew)); exact pY.out)); (case aS => exact (bs (by repeat (first | (with_reducible first | exact HB.out | apply al | apply af | apply aq | refine aQ ?_ iE.out | refine aQ ?_ j2.out) | exact HB.out)))); (case aL => have := Qs.out; omega); intro SL o6 ho hb hg hat; rw [← Mb.out] at ho; have cD := ak (jY (g := ch) (o := .cells #[.int .u32 br, .string bB, .slice lH fX.length lC, .slice qM ku.length qz, .slice eK bH.length eB] 62 (0, 0)) (by (with_reducible repeat (first | refine aK ?_ _ | refine aT ?_ | refine aM ?_ _)); exact a6.out) hg (Kd.R_ne pY.out a6.out (by decide))); have cT := ak (jY (g := eo) (o := .cells #[.int .u32 0, .string (⟨#[]⟩ : ByteArray), .slice none 0 0, .slice none 0 0, .slice none 0 0] 62 (0, 0)) (by (with_reducible repeat (first | refine aK ?_ _ | refine aT ?_ | refine aM ?_ _)); exact dV.out) hg (Kd.R_ne pY.out dV.out (by decide))); have dk := ak (Kd.R_over' (by (with_reducible repeat (first | apply Kd.R_alloc | apply Kd.R_drewN | apply Kd.R_drew)); exact iD.out) (Kd.R_typed (by (with_reducible repeat (first | apply Kd.R_alloc | apply Kd.R_drewN | apply Kd.R_drew)); exact pY.out)) (by decide) hg); have dS := ak (Kd.R_over' (by (with_reducible repeat (first | apply Kd.R_alloc | apply Kd.R_drewN | apply Kd.R_drew)); exact nB.out) (Kd.R_typed (by (with_reducible repeat (first | apply Kd.R_alloc | apply Kd.R_drewN | apply Kd.R_drew)); exact pY.out)) (by decide) hg); have je := ak (hb); have lP := ak (ho); clear a6; clear dV; clear iD; clear nB; clear HB; clear pY; have a6 := cD; have dV := cT; have iD := dk; have nB := dS; have HB := je; have DP := lP; clear cD cT dk dS je lP; clear ho hb hg hat; obtain ⟨wH, wv, Qa⟩ := Kd.R_slice DP.out; subst Qa; have RY : o6.cell? ⟨ch, 0, none⟩ = some (.int .u32 br) := (aC a6.out 0).trans rfl; have RW : o6.cell? ⟨ch, 1, none⟩ = some (.string bB) := (aC a6.out 1).trans rfl; have RV : o6.cell? ⟨ch, 2, none⟩ = some (.slice lH fX.length lC) := (aC a6.out 2).trans rfl; have RU : o6.cell? ⟨ch, 3, none⟩ = some (.slice qM ku.length qz) := (aC a6.out 3).trans rfl; have RT : o6.cell? ⟨ch, 4, none⟩ = some (.slice eK bH.length eB) := (aC a6.out 4).trans rfl; have QY := ao a6.out 0; have QX := ao a6.out 1; have QW := ao a6.out 2; have QV := ao a6.out 3; have QU := ao a6.out 4; have RS : o6.cell? ⟨eo, 0, none⟩ = some (.int .u32 0) := (aC dV.out 0).trans rfl; have RR : o6.cell? ⟨eo, 1, none⟩ = some (.string (⟨#[]⟩ : ByteArray)) := (aC dV.out 1).trans rfl; have RQ : o6.cell? ⟨eo, 2, none⟩ = some (.slice none 0 0) := (aC dV.out 2).trans rfl; have RP : o6.cell? ⟨eo, 3, none⟩ = some (.slice none 0 0) := (aC dV.out 3).trans rfl; have RO : o6.cell? ⟨eo, 4, none⟩ = some (.slice none 0 0) := (aC dV.out 4).trans rfl; have QT := ao dV.out 0; have QS := ao dV.out 1; have QR := ao dV.out 2; have QQ := ao dV.out 3; have QP := ao dV.out 4))
    refine bodyPost_ret (results_cell_row rfl _ _ eo 62 #[.int .u32 br, .string bB, .slice lH fX.length lC, .slice qM ku.length qz, .slice wH o5.length wv] (0, 0) _ rfl (by (with_reducible repeat (first | refine aK ?_ _ | refine aT ?_ | refine aM ?_ _)); refine eX (cs := #[.int .u32 br, .string bB, .slice lH fX.length lC, .slice qM ku.length qz, .slice none 0 0]) ?_ 4 _ rfl; (with_reducible repeat (first | refine aK ?_ _ | refine aT ?_ | refine aM ?_ _)); refine eX (cs := #[.int .u32 br, .string bB, .slice lH fX.length lC, .slice none 0 0, .slice none 0 0]) ?_ 3 _ rfl; (with_reducible repeat (first | refine aK ?_ _ | refine aT ?_ | refine aM ?_ _)); refine eX (cs := #[.int .u32 br, .string bB, .slice none 0 0, .slice none 0 0, .slice none 0 0]) ?_ 2 _ rfl; (with_reducible repeat (first | refine aK ?_ _ | refine aT ?_ | refine aM ?_ _)); refine eX (cs := #[.int .u32 br, .string (⟨#[]⟩ : ByteArray), .slice none 0 0, .slice none 0 0, .slice none 0 0]) ?_ 1 _ rfl; (with_reducible repeat (first | refine aK ?_ _ | refine aT ?_ | refine aM ?_ _)); refine eX (cs := #[.int .u32 0, .string (⟨#[]⟩ : ByteArray), .slice none 0 0, .slice none 0 0, .slice none 0 0]) ?_ 0 _ rfl; (with_reducible repeat (first | refine aK ?_ _ | refine aT ?_ | refine aM ?_ _)); refine lx ?_ m4.out _; (with_reducible repeat (first | refine aK ?_ _ | refine aT ?_ | refine aM ?_ _)); exact dV.out) Try.underlying62 rfl (by kernel_rfl)) rfl ?_
    exact ⟨_, _, _, by first | rfl | (simp [cy, cx] <;> rfl) | (simp [*, cy, cx] <;> rfl), by (with_reducible repeat (first | apply Kd.R_alloc | apply Kd.R_drewN | apply Kd.R_drew)); exact Kd.R_mono (Kd.R_far (p := ⟨eo, 4, none⟩) (Kd.R_far (p := ⟨eo, 3, none⟩) (Kd.R_far (p := ⟨eo, 2, none⟩) (Kd.R_far (p := ⟨eo, 1, none⟩) (Kd.R_far (p := ⟨eo, 0, none⟩) (Kd.R_far (p := ⟨ch, 4, none⟩) (Kd.R_types (Kd.R_types iD.out a6.out (by decide)) dV.out (by decide)) (fun _ hk => hk.1.2) (.slice wH o5.length wv)) (fun _ hk => hk.2) (.int .u32 br)) (fun _ hk => hk.2) (.string bB)) (fun _ hk => hk.2) (.slice lH fX.length lC)) (fun _ hk => hk.2) (.slice qM ku.length qz)) (fun _ hk => hk.2) (.slice wH o5.length wv)) (fun _ hk => hk.1.1.2), by (with_reducible repeat (first | apply Kd.R_alloc | apply Kd.R_drewN | apply Kd.R_drew)); exact Kd.R_mono (Kd.R_far (p := ⟨eo, 4, none⟩) (Kd.R_far (p := ⟨eo, 3, none⟩) (Kd.R_far (p := ⟨eo, 2, none⟩) (Kd.R_far (p := ⟨eo, 1, none⟩) (Kd.R_far (p := ⟨eo, 0, none⟩) (Kd.R_far (p := ⟨ch, 4, none⟩) (Kd.R_types (Kd.R_types nB.out a6.out (by decide)) dV.out (by decide)) (fun _ hk => hk.1.2) (.slice wH o5.length wv)) (fun _ hk => hk.2) (.int .u32 br)) (fun _ hk => hk.2) (.string bB)) (fun _ hk => hk.2) (.slice lH fX.length lC)) (fun _ hk => hk.2) (.slice qM ku.length qz)) (fun _ hk => hk.2) (.slice wH o5.length wv)) (fun _ hk => hk.1.1), by (with_reducible repeat (first | apply Kd.R_alloc | apply Kd.R_drewN | apply Kd.R_drew)); exact Kd.R_mono (Kd.R_far (p := ⟨eo, 4, none⟩) (Kd.R_far (p := ⟨eo, 3, none⟩) (Kd.R_far (p := ⟨eo, 2, none⟩) (Kd.R_far (p := ⟨eo, 1, none⟩) (Kd.R_far (p := ⟨eo, 0, none⟩) (Kd.R_far (p := ⟨ch, 4, none⟩) (Kd.R_types (Kd.R_types DP.out a6.out (by decide)) dV.out (by decide)) (fun _ hk => hk.1.2) (.slice wH o5.length wv)) (fun _ hk => hk.2) (.int .u32 br)) (fun _ hk => hk.2) (.string bB)) (fun _ hk => hk.2) (.slice lH fX.length lC)) (fun _ hk => hk.2) (.slice qM ku.length qz)) (fun _ hk => hk.2) (.slice wH o5.length wv)) (fun _ hk => trivial), by repeat (first | (with_reducible first | exact HB.out | apply al | apply af | apply aq | refine aQ ?_ iE.out | refine aQ ?_ j2.out) | exact HB.out)⟩
   ·rw [if_neg c4] at H
    exact absurd H (by simp)
  ·rw [if_neg c3] at H
   exact absurd H (by simp)
 ·rw [if_neg c2] at H
  exact absurd H (by simp)
end Go.Proofs.Ytemhalnhbgkbcaa.V
end

section
namespace Go.Proofs.Ytemhalnhbgkbcaa.V
abbrev kD := S76
abbrev dt (a : Int) (s : ByteArray) (vs vf va : Value) : List Value := [.int .u32 a, .string s, vs, vf, va]
theorem dO (a : Int) (s : ByteArray) {vs vf va : Value} (h1 : vs.oneCell' = true) (h2 : vf.oneCell' = true) (h3 : va.oneCell' = true) : ∀ u ∈ dt a s vs vf va, u.oneCell' = true := by
 intro u hu
 simp only [List.mem_cons, List.not_mem_nil, or_false] at hu
 rcases hu with rfl | rfl | rfl | rfl | rfl
 ·rfl
 ·rfl
 ·exact h1
 ·exact h2
 ·exact h3
structure RbR (W : World) (b : Bk) (M : List kD) (As : Option Addr) (cs : Nat) (Af : Option Addr) (cf : Nat) (Aa : Option Addr) (ca : Nat) : Prop where
 m : M = b.attrs.map vc
 sr : Kd.C (Kd.int .i64) W As b.slots.length b.slots
 sc : b.slots.length ≤ cs
 fr : Kd.C (Kd.int .i64) W Af b.free.length b.free
 fc : b.free.length ≤ cf
 ar : Kd.C hH W Aa M.length M
 ac : M.length ≤ ca
theorem RbR.below {W W1 : World} {b : Bk} {M : List kD} {As : Option Addr} {cs : Nat} {Af : Option Addr} {cf : Nat} {Aa : Option Addr} {ca : Nat} (h : RbR W b M As cs Af cf Aa ca) (hb : Below W.heap.size W W1) : RbR W1 b M As cs Af cf Aa ca := ⟨h.m, Kd.C_below h.sr hb, h.sc, Kd.C_below h.fr hb, h.fc, Kd.C_below h.ar hb, h.ac⟩
def jZ (W : World) (v : Value) (b : Bk) : Prop := ∃ M As cs Af cf Aa ca, v = .agg (dt b.addr b.aff (.slice As b.slots.length cs) (.slice Af b.free.length cf) (.slice Aa M.length ca)).toArray ∧ RbR W b M As cs Af cf Aa ca
theorem jZ.below {W W1 : World} {v : Value} {b : Bk} (h : jZ W v b) (hb : Below W.heap.size W W1) : jZ W1 v b := by
 obtain ⟨M, As, cs, Af, cf, Aa, ca, e, hr⟩ := h
 exact ⟨M, As, cs, Af, cf, Aa, ca, e, hr.below hb⟩
def eM (W : World) (base : Nat) (v : Value) (b : Bk) : Prop := ∃ vs vf va, v = .agg (dt b.addr b.aff vs vf va).toArray ∧ Kd.R (Kd.int .i64) 3 W base (fun _ => True) vs b.slots ∧ Kd.R (Kd.int .i64) 3 W base (fun _ => True) vf b.free ∧ Kd.R hH 76 W base (fun _ => True) va (b.attrs.map vc)
theorem eM.toV {W : World} {base : Nat} {v : Value} {b : Bk} (h : eM W base v b) : jZ W v b := by
 obtain ⟨vs, vf, va, rfl, h1, h2, h3⟩ := h
 obtain ⟨As, cs, rfl, l1, c1⟩ := Kd.R_reads h1
 obtain ⟨Af, cf, rfl, l2, c2⟩ := Kd.R_reads h2
 obtain ⟨Aa, ca, rfl, l3, c3⟩ := Kd.R_reads h3
 exact ⟨_, As, cs, Af, cf, Aa, ca, rfl, rfl, c1, l1, c2, l2, c3, l3⟩
theorem eM.below {W W1 : World} {base : Nat} {v : Value} {b : Bk} (h : eM W base v b) (hb : Below W.heap.size W W1) : eM W1 base v b := by
 obtain ⟨vs, vf, va, rfl, h1, h2, h3⟩ := h
 exact ⟨vs, vf, va, rfl, Kd.R_below h1 hb, Kd.R_below h2 hb, Kd.R_below h3 hb⟩
theorem eM.lower {W : World} {base base' : Nat} {v : Value} {b : Bk} (h : eM W base v b) (hb : base' ≤ base) : eM W base' v b := by
 obtain ⟨vs, vf, va, rfl, h1, h2, h3⟩ := h
 exact ⟨vs, vf, va, rfl, Kd.R_lower h1 hb, Kd.R_lower h2 hb, Kd.R_lower h3 hb⟩
theorem z9 (b : Bk) (hs : b.slots.length ≤ 1000) (hf : b.free.length ≤ 5000) (M : List kD) (hm : M.length ≤ 1000) (As : Option Addr) (cs : Nat) (Af : Option Addr) (cf : Nat) (Aa : Option Addr) (ca : Nat) (w : World) (hr : RbR w b M As cs Af cf Aa ca) :
  Calls Try.prog 85 #[.agg (dt b.addr b.aff (.slice As b.slots.length cs) (.slice Af b.free.length cf) (.slice Aa M.length ca)).toArray] w fun e w' => ∃ vs vf va, e = .returned (.agg (dt b.addr b.aff vs vf va).toArray) ∧ Kd.R (Kd.int .i64) 3 w' w.heap.size (fun k => some k ≠ vf.ownBlock) vs b.slots ∧ Kd.R (Kd.int .i64) 3 w' w.heap.size (fun k => some k ≠ vs.ownBlock) vf b.free ∧ Kd.R hH 76 w' w.heap.size (fun _ => True) va M ∧ Below w.heap.size w w' := by
 have h : jL.f b.addr b.aff b.slots b.free M = some (b.addr, b.aff, b.slots, b.free, M) := by
  unfold jL.f
  simp only [Option.bind_some, List.nil_append, List.length_nil, Nat.zero_add]
  rw [if_pos (by omega), if_pos (by omega), if_pos (by omega)]
 exact jL.calls _ _ _ _ _ _ _ _ _ _ _ _ _ _ _ _ w hr.sr hr.sc hr.fr hr.fc hr.ar hr.ac h
theorem ly {k : IntKind} {e base n cap g : Nat} {ok : Nat → Prop} {W : World} {xs : List Int} (h : Kd.R (Kd.int k) e W base ok (.slice (some ⟨g, 0, none⟩) n cap) xs) (j : Nat) (hj : j < n) : W.cell? ⟨g, j, none⟩ = some (.int k (rd xs j)) ∧ W.frozen? ⟨g, j, none⟩ = false := by
 have hn := (Kd.R_reads' h).1
 obtain ⟨ad, eA, hx⟩ := Kd.at_int (Kd.R_reads' h).2.2 j (by omega) (by omega)
 cases eA
 rw [Int.toNat_natCast, add_plain] at hx
 refine ⟨hx, ?_⟩
 obtain ⟨ce, hcl, _, hcc, hcf⟩ := Kd.R_elem h 0 (j : Int) (by omega) (by omega)
 have h2 := hcf 0
 rwa [show ((j : Int).toNat * (Kd.int k).sz + 0) = j by show (j : Int).toNat * 1 + 0 = j; omega] at h2
theorem m0 {k : IntKind} {e base n cap g : Nat} {ok : Nat → Prop} {W : World} {xs : List Int} (h : Kd.R (Kd.int k) e W base ok (.slice (some ⟨g, 0, none⟩) n cap) xs) (j : Nat) (hj : j < n) (x : Int) : Kd.R (Kd.int k) e (W.setCell ⟨g, j, none⟩ (.int k x)) base ok (.slice (some ⟨g, 0, none⟩) n cap) (xs.set j x) ∧ W.grownBy (W.setCell ⟨g, j, none⟩ (.int k x)) (some g) := by
 obtain ⟨ce, hcl, _, hcc, _⟩ := Kd.R_elem h 0 (j : Int) (by omega) (by omega)
 have hsg := Kd.R_seg h (j : Int) (by omega) (by omega) (seg := [.int k x]) (j := 0) (x' := x) (okp := fun _ => False) hcl hcc (Nat.le_refl 1) (by
  obtain ⟨u, rfl⟩ := List.length_eq_one_iff.1 (show ce.length = 1 from hcl)
  rfl) (fun _ h => h.elim)
 rw [show ((j : Int).toNat * (Kd.int k).sz + 0) = j by show (j : Int).toNat * 1 + 0 = j; omega, Int.toNat_natCast] at hsg
 exact hsg
theorem tW (l : List At) (a : At) (k : Nat) (hk : k < l.length) (h : sameAt (gH l k) a = false) : fJ (l.take (k + 1)) a = fJ (l.take k) a := by
 have e := sG l k hk
 unfold fJ
 rw [e, List.findIdx?_append]
 have h2 : sameAt a (gH l k) = false := by rw [vN]; exact h
 cases hq : (l.take k).findIdx? (sameAt a) with
 | some i => rfl
 | none => simp [h2]
theorem zZ (l : List At) (a : At) (k : Nat) (hk : k < l.length) (h : sameAt (gH l k) a = true) (hn : (l.take k).any (sameAt (gH l k)) = false) : fJ (l.take (k + 1)) a = some k := by
 have e := sG l k hk
 have ha : gH l k = a := (kx _ _).1 h
 unfold fJ
 rw [e, List.findIdx?_append]
 have hq : (l.take k).findIdx? (sameAt a) = none := by
  rw [List.findIdx?_eq_none_iff]
  intro x hx
  rw [← ha]
  have h2 := List.any_eq_false.1 hn x hx
  simpa using h2
 rw [hq]
 have h3 : sameAt a (gH l k) = true := by rw [vN]; exact h
 simp [h3, List.length_take]
 omega
end Go.Proofs.Ytemhalnhbgkbcaa.V
end

section
namespace Go.Proofs.Ytemhalnhbgkbcaa.V
def RX (W : World) (b1 g : Nat) (b : Bk) : Prop := ∃ M vs vf va, M = b.attrs.map vc ∧ aH W g (dt b.addr b.aff vs vf va) 62 ∧ Kd.R (Kd.int .i64) 3 W b1 (fun _ => True) vs b.slots ∧ Kd.R (Kd.int .i64) 3 W b1 (fun _ => True) vf b.free ∧ Kd.R hH 76 W b1 (fun _ => True) va M
section
variable {W W1 : World} {b1 b2 g g' t : Nat} {b : Bk}
theorem RX.open (h : RX W b1 g b) : ∃ M As cs Af cf Aa ca, M = b.attrs.map vc ∧ aH W g (dt b.addr b.aff (.slice As b.slots.length cs) (.slice Af b.free.length cf) (.slice Aa M.length ca)) 62 ∧ Kd.R (Kd.int .i64) 3 W b1 (fun _ => True) (.slice As b.slots.length cs) b.slots ∧ Kd.R (Kd.int .i64) 3 W b1 (fun _ => True) (.slice Af b.free.length cf) b.free ∧ Kd.R hH 76 W b1 (fun _ => True) (.slice Aa M.length ca) M := by
 obtain ⟨M, vs, vf, va, hm, hx, hs, hf, ha⟩ := h
 obtain ⟨As, cs, rfl⟩ := Kd.R_slice hs
 obtain ⟨Af, cf, rfl⟩ := Kd.R_slice hf
 obtain ⟨Aa, ca, rfl⟩ := Kd.R_slice ha
 exact ⟨M, As, cs, Af, cf, Aa, ca, hm, hx, hs, hf, ha⟩
theorem RX.below (h : RX W b1 g b) (hb : Below W.heap.size W W1) : RX W1 b1 g b := by
 obtain ⟨M, vs, vf, va, hm, hx, hs, hf, ha⟩ := h
 exact ⟨M, vs, vf, va, hm, hx.below hb, Kd.R_below hs hb, Kd.R_below hf hb, Kd.R_below ha hb⟩
theorem RX.lower (h : RX W b1 g b) (hb : b2 ≤ b1) : RX W b2 g b := by
 obtain ⟨M, vs, vf, va, hm, hx, hs, hf, ha⟩ := h
 exact ⟨M, vs, vf, va, hm, hx, Kd.R_lower hs hb, Kd.R_lower hf hb, Kd.R_lower ha hb⟩
theorem RX.lt (h : RX W b1 g b) : g < W.heap.size := by
 obtain ⟨M, vs, vf, va, hm, hx, _⟩ := h
 exact hx.lt
theorem RX.box {cs : List Value} (h : RX W b1 g b) (hx' : aH W g' cs t) (ht : ∀ q, q ∈ [3, 76] → q ≠ t) (hne : g ≠ g') (hg : W.grownBy W1 (some g')) : RX W1 b1 g b := by
 obtain ⟨M, vs, vf, va, hm, hx, hs, hf, ha⟩ := h
 have h1 : ∀ q, q ∈ (3 : Nat) :: (Kd.int .i64).E → q ≠ t := fun q hq => by
  rcases List.mem_cons.1 hq with rfl | hq
  ·exact ht _ (by simp)
  ·cases hq
 exact ⟨M, vs, vf, va, hm, hx.grown hg (fun e => hne (Option.some.inj e)), bY hs hx' h1 hg, bY hf hx' h1 hg, bY ha hx' (fun q hq => by
  rcases List.mem_cons.1 hq with rfl | hq
  ·exact ht _ (by simp)
  ·cases hq) hg⟩
theorem RX.row {α : Type} {d : Kd α} {e base' : Nat} {ok : Nat → Prop} {v : Value} {xs : List α} (h : RX W b1 g b) (hr : d.R e W base' ok v xs) (he : e ≠ 62) (ht : ∀ q, q ∈ [3, 76] → q ≠ e) (hg : W.grownBy W1 v.ownBlock) : RX W1 b1 g b := by
 obtain ⟨M, vs, vf, va, hm, hx, hs, hf, ha⟩ := h
 have h1 : ∀ q, q ∈ (3 : Nat) :: (Kd.int .i64).E → q ≠ e := fun q hq => by
  rcases List.mem_cons.1 hq with rfl | hq
  ·exact ht _ (by simp)
  ·cases hq
 exact ⟨M, vs, vf, va, hm, hx.grown hg (hx.ne_row hr he), Kd.R_over hs hr h1 hg, Kd.R_over hf hr h1 hg, Kd.R_over ha hr (fun q hq => by
  rcases List.mem_cons.1 hq with rfl | hq
  ·exact ht _ (by simp)
  ·cases hq) hg⟩
theorem RX.addrCell (h : RX W b1 g b) : W.cell? ⟨g, 0, none⟩ = some (.int .u32 b.addr) := by
 obtain ⟨M, vs, vf, va, hm, hx, _⟩ := h
 exact hx.cell 0 _ rfl
end
theorem RX.stored {W W1 : World} {b1 g : Nat} {b : Bk} {vs vf va : Value} {qS : List Value} (hx : aH W g qS 62) (lf : aH W1 g (dt b.addr b.aff vs vf va) 62) (hs : Kd.R (Kd.int .i64) 3 W b1 (fun _ => True) vs b.slots) (hf : Kd.R (Kd.int .i64) 3 W b1 (fun _ => True) vf b.free) (ha : Kd.R hH 76 W b1 (fun _ => True) va (b.attrs.map vc)) (hg : W.grownBy W1 (some g)) : RX W1 b1 g b :=
 ⟨_, vs, vf, va, rfl, lf, bY hs hx (by decide) hg, bY hf hx (by decide) hg, bY ha hx (by decide) hg⟩
end Go.Proofs.Ytemhalnhbgkbcaa.V
end

