/- The law ViewApart for every input: texts of ours, put together (part 11 of 16). No further condition. -/
import Derived.Test.YtndddnglapkplaaGreatDoorCViewApartx2
import Derived.Test.YtndddnglapkplaaGreatDoorCViewApartx5
import Derived.Test.YtndddnglapkplaaGreatDoorCViewApartx3
import Derived.Test.YtndddnglapkplaaGreatDoorCViewApartx9
import Derived.Test.YtndddnglapkplaaGreatDoorCViewApartw0
import Derived.Outline
import Derived.Test.YtndddnglapkplaaGreatDoorCViewApartx7
import Derived.Test.YtndddnglapkplaaGreatDoorCViewApartx8
set_option linter.unusedVariables false
set_option linter.unusedSimpArgs false
open Go.RowKit Go.Proofs.YtndddnglapkplaaGreatDoorW.PrintWords Go.Proofs.YtndddnglapkplaaGreatDoorW.PrintLast Go.Proofs.YtndddnglapkplaaGreatDoorW.PrintMore Go.Proofs.YtndddnglapkplaaGreatDoor.Z
section
namespace Go.Proofs.YtndddnglapkplaaGreatDoor.V
attribute [local go_sem] bI bG bP bO bw bu bH bF
attribute [local go_sem high] Od
mutual
def al.j0 : Nat → Bool → Int → ByteArray → List Int → List Int → List (S78) → Option (Bool)
 | 0, _, _, _, _, _, _ => none
 | k + 1, Ug, eW, eV, dZ, dQ, dI => if Ug = true then (some false) else (al.l0 k dI (dI.length : Int) 0 eW eV dZ dQ dI)
def al.l0 : Nat → List (S78) → Int → Int → Int → ByteArray → List Int → List Int → List (S78) → Option (Bool)
 | 0, _, _, _, _, _, _, _, _ => none
 | k + 1, pw, xm, mG, eW, eV, dZ, dQ, dI => if mG < xm then (if 0 ≤ mG then (if mG < (pw.length : Int) then ((eJ.f k ((bc pw mG).f0) ((bc pw mG).f1)).bind fun vk => (if vk = true then ((br.f k dZ (wrap64 (mG + 1))).bind fun mK => (al.j2 k mG pw xm mG (mK == 0) eW eV dZ dQ dI ((bc pw mG).f0) ((bc pw mG).f1))) else (al.j2 k mG pw xm mG true eW eV dZ dQ dI ((bc pw mG).f0) ((bc pw mG).f1)))) else (none)) else (none)) else (al.l2 k dZ (dZ.length : Int) 0 eW eV dZ dQ dI)
def al.j2 : Nat → Int → List (S78) → Int → Int → Bool → Int → ByteArray → List Int → List Int → List (S78) → ByteArray → ByteArray → Option (Bool)
 | 0, _, _, _, _, _, _, _, _, _, _, _, _ => none
 | k + 1, x3, pw, xm, mG, Uf, eW, eV, dZ, dQ, dI, pv, pt => if Uf = true then (some false) else (if 0 ≤ x3 then (if x3 ≤ (dI.length : Int) then ((some (dI.take (x3 : Int).toNat : List (S78))).bind fun dr => (al.l1 k pw xm mG dr (dr.length : Int) 0 eW eV dZ dQ dI pv pt)) else (none)) else (none))
def al.l1 : Nat → List (S78) → Int → Int → List (S78) → Int → Int → Int → ByteArray → List Int → List Int → List (S78) → ByteArray → ByteArray → Option (Bool)
 | 0, _, _, _, _, _, _, _, _, _, _, _, _, _ => none
 | k + 1, pw, xm, mG, Hp, Pr, Bq, eW, eV, dZ, dQ, dI, pv, pt => if Bq < Pr then (if 0 ≤ Bq then (if Bq < (Hp.length : Int) then (if ((((bc Hp Bq).f0).toList) == pv.toList && ((((bc Hp Bq).f1).toList) == pt.toList)) = true then (some false) else (al.l1 k pw xm mG Hp Pr (wrap64 (Bq + 1)) eW eV dZ dQ dI pv pt)) else (none)) else (none)) else (al.l0 k pw xm (wrap64 (mG + 1)) eW eV dZ dQ dI)
def al.l2 : Nat → List Int → Int → Int → Int → ByteArray → List Int → List Int → List (S78) → Option (Bool)
 | 0, _, _, _, _, _, _, _, _ => none
 | k + 1, tS, Bp, pq, eW, eV, dZ, dQ, dI => if pq < Bp then (if 0 ≤ pq then (if pq < (tS.length : Int) then (if (rd tS pq) < 0 then (al.j5 k pq (rd tS pq) tS Bp pq true eW eV dZ dQ dI) else (al.j5 k pq (rd tS pq) tS Bp pq (decide ((rd tS pq) > (dI.length : Int))) eW eV dZ dQ dI)) else (none)) else (none)) else (al.l3 k dQ (dQ.length : Int) 0)
def al.j5 : Nat → Int → Int → List Int → Int → Int → Bool → Int → ByteArray → List Int → List Int → List (S78) → Option (Bool)
 | 0, _, _, _, _, _, _, _, _, _, _, _ => none
 | k + 1, x7, x8, tS, Bp, pq, Ue, eW, eV, dZ, dQ, dI => if Ue = true then (some false) else (if x8 = 0 then ((br.f k dQ x7).bind fun kk => (if kk = 1 then (al.l2 k tS Bp (wrap64 (pq + 1)) eW eV dZ dQ dI) else (some false))) else ((br.f k dQ x7).bind fun kj => (if kj = 0 then (al.l2 k tS Bp (wrap64 (pq + 1)) eW eV dZ dQ dI) else (some false))))
def al.l3 : Nat → List Int → Int → Int → Option (Bool)
 | 0, _, _, _ => none
 | k + 1, Ho, Pq, Bo => if Bo < Pq then (if 0 ≤ Bo then (if Bo < (Ho.length : Int) then (if (rd Ho Bo) < 0 then (some false) else (if (rd Ho Bo) > 63 then (some false) else (al.l3 k Ho Pq (wrap64 (Bo + 1))))) else (none)) else (none)) else (some true)
end
def al.f (k : Nat) (aH : Int) (aC : ByteArray) (bJ : List Int) (bQ : List Int) (aV : List (S78)) : Option (Bool) := if (Int.tmod aH 64) = 0 then ((dt.f k aC).bind fun qp => (if qp = true then (if (aV.length : Int) > 64 then (al.j0 k true aH aC bJ bQ aV) else (al.j0 k ((bJ.length : Int) != 64) aH aC bJ bQ aV)) else (al.j0 k true aH aC bJ bQ aV))) else (al.j0 k true aH aC bJ bQ aV)
set_option maxHeartbeats 8000000 in
set_option maxRecDepth 100000 in
theorem al.calls (k : Nat) (aH : Int) (aC : ByteArray) (gy : Option Addr) (ff : Nat) (bJ : List Int) (eM : Option Addr) (eL : Nat) (bQ : List Int) (jU : Option Addr) (eP : Nat) (aV : List (S78)) (r : Bool) (w : World) (Ip : Kd.C (Kd.int .i64) w gy bJ.length bJ) (Iv : bJ.length ≤ ff) (Io : Kd.C (Kd.int .i64) w eM bQ.length bQ) (Iu : bQ.length ≤ eL) (Im : Kd.C lP w jU aV.length aV) (It : aV.length ≤ eP) (h : al.f k aH aC bJ bQ aV = some r) :
  Calls Tryz.prog 68 #[.agg #[.int .u32 aH, .string aC, .slice gy bJ.length ff, .slice eM bQ.length eL, .slice jU aV.length eP]] w fun e w' => e = .returned (.bool r) ∧ Below w.heap.size w w' := by
 have Xp := Tryz.underlying49
 have Qu := Tryz.underlying78
 have I5 := ak Ip
 have Pj := ak Iv
 clear Ip Iv
 have rO := ak Io
 have yw := ak Iu
 clear Io Iu
 have I4 := ak Im
 have Ph := ak It
 clear Im It
 have HB := ak (Below.refl w.heap.size w)
 have H : (if (Int.tmod aH 64) = 0 then ((dt.f k aC).bind fun qp => (if qp = true then (if (aV.length : Int) > 64 then (al.j0 k true aH aC bJ bQ aV) else (al.j0 k ((bJ.length : Int) != 64) aH aC bJ bQ aV)) else (al.j0 k true aH aC bJ bQ aV))) else (al.j0 k true aH aC bJ bQ aV)) = some r := h
 clear h
 have tl := ak H
 clear H
 go_enter Tryz.func68, Tryz.ntmps68
 go_upto_region 1 with (first | ((with_reducible refine aA (N := 1) rfl ?_); (try (refine cF (by rfl) ?_; dsimp only)); refine bl ?hg (N := 1) ?hd (cs := #[.int .u32 aH, .string aC, .slice gy bJ.length ff, .slice eM bQ.length eL, .slice jU aV.length eP]) (t := 49) ?hr ?_; (case hd => rfl); (case hg => rfl); (case hr => first | (go_simp; done) | (go_simp; rfl)); intro a7 hg w3 hbox hb; have av := ak (au (by repeat (first | (with_reducible first | exact HB.out | apply aa | apply J | apply ab) | exact HB.out)) hb); have az := ak (hbox); have aR := ak ((by rw [hg]; exact (ay (by repeat (first | (with_reducible first | exact HB.out | apply aa | apply J | apply ab) | exact HB.out))) : w.heap.size ≤ a7)); have bp := ak ((by rw [hg]; exact (ay (by repeat (first | (with_reducible first | exact HB.out | apply aa | apply J | apply ab) | exact HB.out))) : w.heap.size ≤ a7)); clear HB; have HB := av; have ax := az; have T8 := aR; have cX := bp; clear av az aR bp; clear hb hbox hg))
 (try simp only [Act.put, List.setIfInBounds_toArray, List.set_cons_zero, List.set_cons_succ])
 go_cut [33] (fun Ur wc => ∃ (kq : Nat) (yo : Bool), Ur = .bool yo ∧ Aside0 (al.j0 kq yo aH aC bJ bQ aV = some r) ∧ Aside0 (kq ≤ k) ∧ Aside0 (wc.heap[a7]? = some (.cells #[.int .u32 aH, .string aC, (.slice gy bJ.length ff), (.slice eM bQ.length eL), (.slice jU aV.length eP)] 49 (0, 0))) ∧ Aside0 (Below w.heap.size w wc))
 case first =>
  have H := tl.out
  clear tl
  by_cases c4 : (Int.tmod aH 64) = 0
  ·rw [if_pos c4] at H
   have fj : ((Int.tmod aH 64) == 0) = true := beq_iff_eq.mpr c4
   have sU : ((Int.tmod aH 64) != 0) = false := bne_eq_false_iff_eq.mpr c4
   clear c4
   (first | rw [fj] | (simp only [cp, cL]; rw [fj]) | skip)
   replace H := Option.bind_eq_some_iff.mp H
   obtain ⟨qp, qa, H⟩ := H
   replace H : (if qp = true then (if (aV.length : Int) > 64 then (al.j0 k true aH aC bJ bQ aV) else (al.j0 k ((bJ.length : Int) != 64) aH aC bJ bQ aV)) else (al.j0 k true aH aC bJ bQ aV)) = some r := H
   have A5 := ak qa
   clear qa
   by_cases c6 : qp = true
   ·subst c6
    have H1 : (if (aV.length : Int) > 64 then (al.j0 k true aH aC bJ bQ aV) else (al.j0 k ((bJ.length : Int) != 64) aH aC bJ bQ aV)) = some r := by rw [if_pos rfl] at H; exact H
    clear H
    have H := H1
    clear H1
    by_cases c7 : (aV.length : Int) > 64
    ·rw [if_pos c7] at H
     have nn : decide (64 < (aV.length : Int)) = true := decide_eq_true c7
     have uN : decide (64 < aV.length) = true := decide_eq_true (by omega)
     clear c7
     have H' := ak H
     clear H
     have vT : w3.cell? ⟨a7, 0, none⟩ = some (.int .u32 aH) := (aj ax.out 0).trans rfl
     have vS : w3.cell? ⟨a7, 1, none⟩ = some (.string aC) := (aj ax.out 1).trans rfl
     have LJ : w3.cell? ⟨a7, 2, none⟩ = some (.slice gy bJ.length ff) := (aj ax.out 2).trans rfl
     have Vd : w3.cell? ⟨a7, 3, none⟩ = some (.slice eM bQ.length eL) := (aj ax.out 3).trans rfl
     have Vc : w3.cell? ⟨a7, 4, none⟩ = some (.slice jU aV.length eP) := (aj ax.out 4).trans rfl
     have vR := ah ax.out 0
     have vQ := ah ax.out 1
     have LF := ah ax.out 2
     have UZ := ah ax.out 3
     have UY := ah ax.out 4
     go_wp2_with (first | (go_at_call 100; (with_reducible refine (dt.calls k aC true _ A5.out).mono ?_); rintro e w' ⟨rfl, ⟨nd, rfl⟩⟩))
     go_meet
     case rel => exact ⟨_, (true), (by first | rfl | (simp; done) | (simp [*]; done)), H', ⟨by first | omega | exact Nat.le_refl _⟩, ⟨by (with_reducible repeat (first | refine ae ?_ _ | refine ag ?_ | refine af ?_ _)); exact ax.out⟩, ⟨by repeat (first | (with_reducible first | exact HB.out | apply aa | apply J | apply ab | refine ai ?_ cX.out) | exact HB.out)⟩⟩
    ·rw [if_neg c7] at H
     have nn : decide (64 < (aV.length : Int)) = false := decide_eq_false c7
     have uN : decide (64 < aV.length) = false := decide_eq_false (by omega)
     clear c7
     have H' := ak H
     clear H
     have sG : w3.cell? ⟨a7, 0, none⟩ = some (.int .u32 aH) := (aj ax.out 0).trans rfl
     have sF : w3.cell? ⟨a7, 1, none⟩ = some (.string aC) := (aj ax.out 1).trans rfl
     have Vb : w3.cell? ⟨a7, 2, none⟩ = some (.slice gy bJ.length ff) := (aj ax.out 2).trans rfl
     have Va : w3.cell? ⟨a7, 3, none⟩ = some (.slice eM bQ.length eL) := (aj ax.out 3).trans rfl
     have U9 : w3.cell? ⟨a7, 4, none⟩ = some (.slice jU aV.length eP) := (aj ax.out 4).trans rfl
     have sE := ah ax.out 0
     have sD := ah ax.out 1
     have UX := ah ax.out 2
     have UW := ah ax.out 3
     have UU := ah ax.out 4
     go_wp2_with (first | (go_at_call 100; (with_reducible refine (dt.calls k aC true _ A5.out).mono ?_); rintro e w' ⟨rfl, ⟨nd, rfl⟩⟩))
     go_meet
     case rel => exact ⟨_, (((bJ.length : Int) != 64)), (by first | rfl | (simp; done) | (simp [*]; done)), H', ⟨by first | omega | exact Nat.le_refl _⟩, ⟨by (with_reducible repeat (first | refine ae ?_ _ | refine ag ?_ | refine af ?_ _)); exact ax.out⟩, ⟨by repeat (first | (with_reducible first | exact HB.out | apply aa | apply J | apply ab | refine ai ?_ cX.out) | exact HB.out)⟩⟩
   ·replace c6 := Bool.eq_false_iff.mpr c6
    subst c6
    have H1 : (al.j0 k true aH aC bJ bQ aV) = some r := by rw [if_neg (show ¬ (false = true) by decide)] at H; exact H
    clear H
    have H := H1
    clear H1
    have H' := ak H
    clear H
    have wS : w3.cell? ⟨a7, 0, none⟩ = some (.int .u32 aH) := (aj ax.out 0).trans rfl
    have wR : w3.cell? ⟨a7, 1, none⟩ = some (.string aC) := (aj ax.out 1).trans rfl
    have Kh : w3.cell? ⟨a7, 2, none⟩ = some (.slice gy bJ.length ff) := (aj ax.out 2).trans rfl
    have TX : w3.cell? ⟨a7, 3, none⟩ = some (.slice eM bQ.length eL) := (aj ax.out 3).trans rfl
    have TW : w3.cell? ⟨a7, 4, none⟩ = some (.slice jU aV.length eP) := (aj ax.out 4).trans rfl
    have wO := ah ax.out 0
    have wN := ah ax.out 1
    have JU := ah ax.out 2
    have Sv := ah ax.out 3
    have Su := ah ax.out 4
    go_wp2_with (first | (go_at_call 100; (with_reducible refine (dt.calls k aC false _ A5.out).mono ?_); rintro e w' ⟨rfl, ⟨nd, rfl⟩⟩))
    go_meet
    case rel => exact ⟨_, (true), (by first | rfl | (simp; done) | (simp [*]; done)), H', ⟨by first | omega | exact Nat.le_refl _⟩, ⟨by (with_reducible repeat (first | refine ae ?_ _ | refine ag ?_ | refine af ?_ _)); exact ax.out⟩, ⟨by repeat (first | (with_reducible first | exact HB.out | apply aa | apply J | apply ab | refine ai ?_ cX.out) | exact HB.out)⟩⟩
  ·rw [if_neg c4] at H
   have fj : ((Int.tmod aH 64) == 0) = false := beq_eq_false_iff_ne.mpr c4
   have sU : ((Int.tmod aH 64) != 0) = true := bne_iff_ne.mpr c4
   (first | rw [fj] | (simp only [cp, cL]; rw [fj]) | skip)
   have H' := ak H
   clear H
   have qL : w3.cell? ⟨a7, 0, none⟩ = some (.int .u32 aH) := (aj ax.out 0).trans rfl
   have qK : w3.cell? ⟨a7, 1, none⟩ = some (.string aC) := (aj ax.out 1).trans rfl
   have TV : w3.cell? ⟨a7, 2, none⟩ = some (.slice gy bJ.length ff) := (aj ax.out 2).trans rfl
   have TU : w3.cell? ⟨a7, 3, none⟩ = some (.slice eM bQ.length eL) := (aj ax.out 3).trans rfl
   have TT : w3.cell? ⟨a7, 4, none⟩ = some (.slice jU aV.length eP) := (aj ax.out 4).trans rfl
   have qJ := ah ax.out 0
   have qI := ah ax.out 1
   have St := ah ax.out 2
   have Ss := ah ax.out 3
   have Sr := ah ax.out 4
   go_wp2
   go_meet
   case rel => exact ⟨_, (true), (by first | rfl | (simp; done) | (simp [*]; done)), H', ⟨by first | omega | exact Nat.le_refl _⟩, ⟨by (with_reducible repeat (first | refine ae ?_ _ | refine ag ?_ | refine af ?_ _)); exact ax.out⟩, ⟨by repeat (first | (with_reducible first | exact HB.out | apply aa | apply J | apply ab | refine ai ?_ cX.out) | exact HB.out)⟩⟩
 case rest =>
  clear tl
  obtain ⟨kq, yo, rfl, HA, kN, ax, HB⟩ := hcut
  cases kq with
  | zero => exact absurd HA.out (by simp [al.j0])
  | succ oW =>
   have H := HA.out
   clear HA
   simp only [al.j0] at H
   by_cases ft : yo = true
   ·subst ft
    have H1 : (some false) = some r := by rw [if_pos rfl] at H; exact H
    clear H
    have H := H1
    clear H1
    obtain rfl := Option.some.inj H
    go_wp2
    go_ret
    exact ⟨by first | rfl | (simp [aq, ao] <;> rfl) | (simp [*, aq, ao] <;> rfl), by repeat (first | (with_reducible first | exact HB.out | apply aa | apply J | apply ab | refine ai ?_ cX.out) | exact HB.out)⟩
   ·replace ft := Bool.eq_false_iff.mpr ft
    subst ft
    have H1 : (al.l0 oW aV (aV.length : Int) 0 aH aC bJ bQ aV) = some r := by rw [if_neg (show ¬ (false = true) by decide)] at H; exact H
    clear H
    have H := H1
    clear H1
    have H' := ak H
    clear H
    have Kg : wc.cell? ⟨a7, 0, none⟩ = some (.int .u32 aH) := (aj ax.out 0).trans rfl
    have Kf : wc.cell? ⟨a7, 1, none⟩ = some (.string aC) := (aj ax.out 1).trans rfl
    have TR : wc.cell? ⟨a7, 2, none⟩ = some (.slice gy bJ.length ff) := (aj ax.out 2).trans rfl
    have TQ : wc.cell? ⟨a7, 3, none⟩ = some (.slice eM bQ.length eL) := (aj ax.out 3).trans rfl
    have TP : wc.cell? ⟨a7, 4, none⟩ = some (.slice jU aV.length eP) := (aj ax.out 4).trans rfl
    have JT := ah ax.out 0
    have JS := ah ax.out 1
    have Sp := ah ax.out 2
    have So := ah ax.out 3
    have Sn := ah ax.out 4
    go_wp2
    go_loopg [37] oW (fun kq v37 w' => ∃ (bh : Int), v37 = .int .i64 bh ∧ Aside0 (al.l0 kq aV (aV.length : Int) bh aH aC bJ bQ aV = some r) ∧ Aside0 (kq ≤ oW) ∧ Aside0 (w'.heap[a7]? = some (.cells #[.int .u32 aH, .string aC, (.slice gy bJ.length ff), (.slice eM bQ.length eL), (.slice jU aV.length eP)] 49 (0, 0))) ∧ Aside0 (Below w.heap.size w w'))
    case atStart => exact ⟨(0), (by first | rfl | (simp; done) | (simp [*]; done)), H', ⟨Nat.le_refl _⟩, ⟨by (with_reducible repeat (first | refine ae ?_ _ | refine ag ?_ | refine af ?_ _)); exact ax.out⟩, ⟨by repeat (first | (with_reducible first | exact HB.out | apply aa | apply J | apply ab | refine ai ?_ cX.out) | exact HB.out)⟩⟩
    case round =>
     clear H'
     obtain ⟨bh, rfl, HA, mC, ax, HB⟩ := hrel
     cases gk with
     | zero => exact absurd HA.out (by simp [al.l0])
     | succ k2 =>
      have H := HA.out
      clear HA
      simp only [al.l0] at H
      by_cases fD : bh < (aV.length : Int)
      ·rw [if_pos fD] at H
       have rL : decide (bh < (aV.length : Int)) = true := decide_eq_true fD
       clear fD
       by_cases kL : 0 ≤ bh
       ·rw [if_pos kL] at H
        have Dl : decide (0 ≤ bh) = true := decide_eq_true kL
        clear kL
        by_cases mS : bh < (aV.length : Int)
        ·rw [if_pos mS] at H
         have yv : decide (bh < (aV.length : Int)) = true := decide_eq_true mS
         clear mS
         have He := ak H
         clear H
         have yW : 0 ≤ (bh : Int) := of_decide_eq_true (by first | (with_reducible assumption) | assumption)
         have yQ : bh < (aV.length : Int) := of_decide_eq_true (by first | (with_reducible assumption) | assumption)
         obtain ⟨fm, Mb, sA, sy⟩ := wi I4.out bh yW yQ
         cases Mb
         replace sA := (HB.out.cell (World.block_lt_of_cell? w _ sA)).trans sA
         replace sy := (HB.out.cell (World.block_lt_of_cell? w _ sy)).trans sy
         replace yW := eq_true yW
         replace yQ := eq_true yQ
         go_upto_region 6 with (first | ((with_reducible refine aA (N := 4) rfl ?_); (try (refine cF (by rfl) ?_; dsimp only)); refine bl ?hg (N := 4) ?hd (cs := #[.string (⟨#[]⟩ : ByteArray), .string (⟨#[]⟩ : ByteArray)]) (t := 78) ?hr ?_; (case hd => rfl); (case hg => rfl); (case hr => first | (go_simp; done) | (go_simp; rfl)); intro dG hg tU hbox hb; have av := ak (aU (g := a7) (o := .cells #[.int .u32 aH, .string aC, .slice gy bJ.length ff, .slice eM bQ.length eL, .slice (some fm) aV.length eP] 49 (0, 0)) (by (with_reducible repeat (first | refine ae ?_ _ | refine ag ?_ | refine af ?_ _)); exact ax.out) hb); have az := ak (au (by repeat (first | (with_reducible first | exact HB.out | apply aa | apply J | apply ab | refine ai ?_ cX.out) | exact HB.out)) hb); have aR := ak (hbox); have bp := ak ((by rw [hg]; exact (ay (by repeat (first | (with_reducible first | exact HB.out | apply aa | apply J | apply ab | refine ai ?_ cX.out) | exact HB.out))) : w.heap.size ≤ dG)); have eh := ak ((by rw [hg]; exact (ay (by repeat (first | (with_reducible first | exact HB.out | apply aa | apply J | apply ab | refine ai ?_ cX.out) | exact HB.out))) : w.heap.size ≤ dG)); have eg := ak ((by rw [hg]; exact Nat.ne_of_lt (cJ (g := a7) (o := .cells #[.int .u32 aH, .string aC, .slice gy bJ.length ff, .slice eM bQ.length eL, .slice (some fm) aV.length eP] 49 (0, 0)) (by (with_reducible repeat (first | refine ae ?_ _ | refine ag ?_ | refine af ?_ _)); exact ax.out)) : a7 ≠ dG)); have ef := ak ((by rw [hg]; exact Nat.ne_of_gt (cJ (g := a7) (o := .cells #[.int .u32 aH, .string aC, .slice gy bJ.length ff, .slice eM bQ.length eL, .slice (some fm) aV.length eP] 49 (0, 0)) (by (with_reducible repeat (first | refine ae ?_ _ | refine ag ?_ | refine af ?_ _)); exact ax.out)) : dG ≠ a7)); clear ax; clear HB; have ax := av; have HB := az; have cE := aR; have T7 := bp; have gO := eh; have fh := eg; have iW := ef; clear av az aR bp eh eg ef; clear hb hbox hg; have WB := iW.out; have Wi := fh.out; have TH : tU.cell? ⟨dG, 0, none⟩ = some (.string (⟨#[]⟩ : ByteArray)) := (aj cE.out 0).trans rfl; have TG : tU.cell? ⟨dG, 1, none⟩ = some (.string (⟨#[]⟩ : ByteArray)) := (aj cE.out 1).trans rfl; have Sf := ah cE.out 0; have Se := ah cE.out 1))
         (try simp only [Act.put, List.setIfInBounds_toArray, List.set_cons_zero, List.set_cons_succ])
         go_cut [52] (fun Uq wc => ∃ (kq : Nat) (uY : Bool), Uq = .bool uY ∧ Aside0 (al.j2 kq bh aV (aV.length : Int) bh uY aH aC bJ bQ aV ((bc aV bh).f0) ((bc aV bh).f1) = some r) ∧ Aside0 (kq ≤ k2) ∧ Aside0 (wc.heap[a7]? = some (.cells #[.int .u32 aH, .string aC, (.slice gy bJ.length ff), (.slice eM bQ.length eL), (.slice (some fm) aV.length eP)] 49 (0, 0))) ∧ Aside0 (wc.heap[dG]? = some (.cells #[.string ((bc aV bh).f0), .string ((bc aV bh).f1)] 78 (0, 0))) ∧ Aside0 (Below w.heap.size w wc))
         case first =>
          have H := He.out
          clear He
          replace H := Option.bind_eq_some_iff.mp H
          obtain ⟨vk, Nx, H⟩ := H
          replace H : (if vk = true then ((br.f k2 bJ (wrap64 (bh + 1))).bind fun mK => (al.j2 k2 bh aV (aV.length : Int) bh (mK == 0) aH aC bJ bQ aV ((bc aV bh).f0) ((bc aV bh).f1))) else (al.j2 k2 bh aV (aV.length : Int) bh true aH aC bJ bQ aV ((bc aV bh).f0) ((bc aV bh).f1))) = some r := H
          have Qo := ak Nx
          clear Nx
          by_cases r8 : vk = true
          ·subst r8
           have H1 : ((br.f k2 bJ (wrap64 (bh + 1))).bind fun mK => (al.j2 k2 bh aV (aV.length : Int) bh (mK == 0) aH aC bJ bQ aV ((bc aV bh).f0) ((bc aV bh).f1))) = some r := by rw [if_pos rfl] at H; exact H
           clear H
           have H := H1
           clear H1
           replace H := Option.bind_eq_some_iff.mp H
           obtain ⟨mK, Nw, H⟩ := H
           replace H : (al.j2 k2 bh aV (aV.length : Int) bh (mK == 0) aH aC bJ bQ aV ((bc aV bh).f0) ((bc aV bh).f1)) = some r := H
           have VY := ak Nw
           clear Nw
           have H' := ak H
           clear H
           have Wz := iW.out
           have Wg := fh.out
           have BP : tU.cell? ⟨dG, 0, none⟩ = some (.string (⟨#[]⟩ : ByteArray)) := (aj cE.out 0).trans rfl
           have BO : tU.cell? ⟨dG, 1, none⟩ = some (.string (⟨#[]⟩ : ByteArray)) := (aj cE.out 1).trans rfl
           have BJ := ah cE.out 0
           have BI := ah cE.out 1
           go_wp2_with (first | ((with_reducible refine aD (f := 101) rfl ?_); refine bg (some 43) rfl rfl Tryz.func101 (by kernel_rfl) rfl #[.agg #[.string ((bc aV bh).f0), .string ((bc aV bh).f1)]] rfl (by (try simp only [List.map_toArray, List.map_cons, List.map_nil]); first | done | rfl | (simp only [List.length_drop, List.length_take]; rfl)) ?_; (with_reducible refine (eJ.calls k2 ((bc aV bh).f0) ((bc aV bh).f1) true _ Qo.out).mono ?_); rintro e xn ⟨rfl, hb⟩; refine ⟨_, rfl, ?_⟩; have av := ak (aU (g := a7) (o := .cells #[.int .u32 aH, .string aC, .slice gy bJ.length ff, .slice eM bQ.length eL, .slice (some fm) aV.length eP] 49 (0, 0)) (by (with_reducible repeat (first | refine ae ?_ _ | refine ag ?_ | refine af ?_ _)); refine cD ?_ fh.out _; (with_reducible repeat (first | refine ae ?_ _ | refine ag ?_ | refine af ?_ _)); refine cD ?_ fh.out _; (with_reducible repeat (first | refine ae ?_ _ | refine ag ?_ | refine af ?_ _)); exact ax.out) hb); have az := ak (aU (g := dG) (o := .cells #[.string ((bc aV bh).f0), .string ((bc aV bh).f1)] 78 (0, 0)) (by (with_reducible repeat (first | refine ae ?_ _ | refine ag ?_ | refine af ?_ _)); refine b7 (cs := #[.string ((bc aV bh).f0), .string (⟨#[]⟩ : ByteArray)]) ?_ 1 _ rfl; (with_reducible repeat (first | refine ae ?_ _ | refine ag ?_ | refine af ?_ _)); refine b7 (cs := #[.string (⟨#[]⟩ : ByteArray), .string (⟨#[]⟩ : ByteArray)]) ?_ 0 _ rfl; (with_reducible repeat (first | refine ae ?_ _ | refine ag ?_ | refine af ?_ _)); exact cE.out) hb); have aR := ak (au (by repeat (first | (with_reducible first | exact HB.out | apply aa | apply J | apply ab | refine ai ?_ cX.out | refine ai ?_ gO.out) | exact HB.out)) hb); clear ax; clear cE; clear HB; have ax := av; have cE := az; have HB := aR; clear av az aR; (try clear hb); (try clear bC); (try clear hk); (try clear hi); have TD : xn.cell? ⟨a7, 0, none⟩ = some (.int .u32 aH) := (aj ax.out 0).trans rfl; have TC : xn.cell? ⟨a7, 1, none⟩ = some (.string aC) := (aj ax.out 1).trans rfl; have TB : xn.cell? ⟨a7, 2, none⟩ = some (.slice gy bJ.length ff) := (aj ax.out 2).trans rfl; have Tz : xn.cell? ⟨a7, 3, none⟩ = some (.slice eM bQ.length eL) := (aj ax.out 3).trans rfl; have Ty : xn.cell? ⟨a7, 4, none⟩ = some (.slice (some fm) aV.length eP) := (aj ax.out 4).trans rfl; have Sb := ah ax.out 0; have Sa := ah ax.out 1; have R9 := ah ax.out 2; have R8 := ah ax.out 3; have R7 := ah ax.out 4) | (go_at_call 102; (with_reducible refine (br.calls k2 _ _ bJ (wrap64 (bh + 1)) mK _ ?side1 ?side2 VY.out).mono ?_); (case side1 => repeat (first | exact (Kd.C_below I5.out HB.out) | (with_reducible refine Kd.C_alloc ?_ _) | (with_reducible refine Kd.C_drewN ?_ _) | (with_reducible refine Kd.C_drew ?_))); (case side2 => exact Pj.out); rintro e w' ⟨rfl, ⟨nd, rfl⟩⟩))
           go_meet
           case rel => exact ⟨_, ((mK == 0)), (by first | rfl | (simp; done) | (simp [*]; done)), H', ⟨by have := kN.out; have := mC.out; first | omega | exact Nat.le_refl _⟩, ⟨by (with_reducible repeat (first | refine ae ?_ _ | refine ag ?_ | refine af ?_ _)); exact ax.out⟩, ⟨by (with_reducible repeat (first | refine ae ?_ _ | refine ag ?_ | refine af ?_ _)); exact cE.out⟩, ⟨by repeat (first | (with_reducible first | exact HB.out | apply aa | apply J | apply ab | refine ai ?_ cX.out | refine ai ?_ gO.out) | exact HB.out)⟩⟩
          ·replace r8 := Bool.eq_false_iff.mpr r8
           subst r8
           have H1 : (al.j2 k2 bh aV (aV.length : Int) bh true aH aC bJ bQ aV ((bc aV bh).f0) ((bc aV bh).f1)) = some r := by rw [if_neg (show ¬ (false = true) by decide)] at H; exact H
           clear H
           have H := H1
           clear H1
           have H' := ak H
           clear H
           have N7 := iW.out
           have N3 := fh.out
           have J2 : tU.cell? ⟨dG, 0, none⟩ = some (.string (⟨#[]⟩ : ByteArray)) := (aj cE.out 0).trans rfl
           have J1 : tU.cell? ⟨dG, 1, none⟩ = some (.string (⟨#[]⟩ : ByteArray)) := (aj cE.out 1).trans rfl
           have JH := ah cE.out 0
           have JG := ah cE.out 1
           go_wp2_with (first | ((with_reducible refine aD (f := 101) rfl ?_); refine bg (some 43) rfl rfl Tryz.func101 (by kernel_rfl) rfl #[.agg #[.string ((bc aV bh).f0), .string ((bc aV bh).f1)]] rfl (by (try simp only [List.map_toArray, List.map_cons, List.map_nil]); first | done | rfl | (simp only [List.length_drop, List.length_take]; rfl)) ?_; (with_reducible refine (eJ.calls k2 ((bc aV bh).f0) ((bc aV bh).f1) false _ Qo.out).mono ?_); rintro e XK ⟨rfl, hb⟩; refine ⟨_, rfl, ?_⟩; have av := ak (aU (g := a7) (o := .cells #[.int .u32 aH, .string aC, .slice gy bJ.length ff, .slice eM bQ.length eL, .slice (some fm) aV.length eP] 49 (0, 0)) (by (with_reducible repeat (first | refine ae ?_ _ | refine ag ?_ | refine af ?_ _)); refine cD ?_ fh.out _; (with_reducible repeat (first | refine ae ?_ _ | refine ag ?_ | refine af ?_ _)); refine cD ?_ fh.out _; (with_reducible repeat (first | refine ae ?_ _ | refine ag ?_ | refine af ?_ _)); exact ax.out) hb); have az := ak (aU (g := dG) (o := .cells #[.string ((bc aV bh).f0), .string ((bc aV bh).f1)] 78 (0, 0)) (by (with_reducible repeat (first | refine ae ?_ _ | refine ag ?_ | refine af ?_ _)); refine b7 (cs := #[.string ((bc aV bh).f0), .string (⟨#[]⟩ : ByteArray)]) ?_ 1 _ rfl; (with_reducible repeat (first | refine ae ?_ _ | refine ag ?_ | refine af ?_ _)); refine b7 (cs := #[.string (⟨#[]⟩ : ByteArray), .string (⟨#[]⟩ : ByteArray)]) ?_ 0 _ rfl; (with_reducible repeat (first | refine ae ?_ _ | refine ag ?_ | refine af ?_ _)); exact cE.out) hb); have aR := ak (au (by repeat (first | (with_reducible first | exact HB.out | apply aa | apply J | apply ab | refine ai ?_ cX.out | refine ai ?_ gO.out) | exact HB.out)) hb); clear ax; clear cE; clear HB; have ax := av; have cE := az; have HB := aR; clear av az aR; (try clear hb); (try clear bC); (try clear hk); (try clear hi)))
           go_meet
           case rel => exact ⟨_, (true), (by first | rfl | (simp; done) | (simp [*]; done)), H', ⟨by have := kN.out; have := mC.out; first | omega | exact Nat.le_refl _⟩, ⟨by (with_reducible repeat (first | refine ae ?_ _ | refine ag ?_ | refine af ?_ _)); exact ax.out⟩, ⟨by (with_reducible repeat (first | refine ae ?_ _ | refine ag ?_ | refine af ?_ _)); exact cE.out⟩, ⟨by repeat (first | (with_reducible first | exact HB.out | apply aa | apply J | apply ab | refine ai ?_ cX.out | refine ai ?_ gO.out) | exact HB.out)⟩⟩
         case rest =>
          clear He
          obtain ⟨kq, uY, rfl, HA, DJ, ax, cE, HB⟩ := hcut
          cases kq with
          | zero => exact absurd HA.out (by simp [al.j2])
          | succ C4 =>
           have H := HA.out
           clear HA
           simp only [al.j2] at H
           by_cases r7 : uY = true
           ·subst r7
            have H1 : (some false) = some r := by rw [if_pos rfl] at H; exact H
            clear H
            have H := H1
            clear H1
            obtain rfl := Option.some.inj H
            go_wp2
            go_ret
            exact ⟨by first | rfl | (simp [aq, ao] <;> rfl) | (simp [*, aq, ao] <;> rfl), by repeat (first | (with_reducible first | exact HB.out | apply aa | apply J | apply ab | refine ai ?_ cX.out | refine ai ?_ gO.out) | exact HB.out)⟩
           ·replace r7 := Bool.eq_false_iff.mpr r7
            subst r7
            have H1 : (if 0 ≤ bh then (if bh ≤ (aV.length : Int) then ((some (aV.take (bh : Int).toNat : List (S78))).bind fun dr => (al.l1 C4 aV (aV.length : Int) bh dr (dr.length : Int) 0 aH aC bJ bQ aV ((bc aV bh).f0) ((bc aV bh).f1))) else (none)) else (none)) = some r := by rw [if_neg (show ¬ (false = true) by decide)] at H; exact H
            clear H
            have H := H1
            clear H1
            by_cases qO : 0 ≤ bh
            ·rw [if_pos qO] at H
             have IS := eq_true qO
             have IQ : decide (0 ≤ bh) = true := decide_eq_true qO
             clear qO
             by_cases qN : bh ≤ (aV.length : Int)
             ·rw [if_pos qN] at H
              have IP := eq_true qN
              have IN : decide (bh ≤ (aV.length : Int)) = true := decide_eq_true qN
              clear qN
              obtain ⟨dr, qC⟩ : ∃ y_ : List (S78), y_ = (aV.take (bh : Int).toNat) := ⟨_, rfl⟩
              replace H : (al.l1 C4 aV (aV.length : Int) bh dr (dr.length : Int) 0 aH aC bJ bQ aV ((bc aV bh).f0) ((bc aV bh).f1)) = some r := by first | (rw [qC]; with_reducible exact H) | (have iO := (Option.bind_some _ _).symm.trans H; rw [qC]; with_reducible exact iO) | (have iO := (Option.bind_some _ _).symm.trans H; with_reducible exact iO) | with_reducible exact H | (rw [qC]; exact H) | exact H
              have Ck := ak qC
              clear qC
              have H' := ak H
              clear H
              have Wx := fh.out
              have We := iW.out
              have Tv : wc.cell? ⟨a7, 0, none⟩ = some (.int .u32 aH) := (aj ax.out 0).trans rfl
              have Tu : wc.cell? ⟨a7, 1, none⟩ = some (.string aC) := (aj ax.out 1).trans rfl
              have Tt : wc.cell? ⟨a7, 2, none⟩ = some (.slice gy bJ.length ff) := (aj ax.out 2).trans rfl
              have Ts : wc.cell? ⟨a7, 3, none⟩ = some (.slice eM bQ.length eL) := (aj ax.out 3).trans rfl
              have Tr : wc.cell? ⟨a7, 4, none⟩ = some (.slice (some fm) aV.length eP) := (aj ax.out 4).trans rfl
              have R4 := ah ax.out 0
              have R3 := ah ax.out 1
              have R2 := ah ax.out 2
              have R1 := ah ax.out 3
              have R0 := ah ax.out 4
              have K1 : (bh : Int) ≤ ((aV.length : Int) : Int) := of_decide_eq_true (by first | (with_reducible assumption) | assumption)
              obtain ⟨Xi, Is, _, N0, _⟩ := info_parts Lk
              have BF : aV.length ≤ eP := Ph.out
              have LV : Kd.C lP _ (some fm) aV.length aV := I4.out
              have LL := Me (P := Tryz.prog) 47 78 .i64 Tryz.underlying47 Is (some fm) aV.length eP bh (of_decide_eq_true (by first | (with_reducible assumption) | assumption)) K1 BF
              have Gn := Kd.C_take (m := (bh : Int).toNat) LV (by omega)
              have Gl : dr.length = (bh : Int).toNat := (by rw [Ck.out, List.length_take]; omega)
              rw [← Ck.out] at Gn
              rw [← Gl] at LL
              have Cm := ak Gn
              have TZ := ak (show dr.length ≤ eP from by omega)
              clear Gn LV BF Is N0
              have XC := ak Gl
              clear Gl
              replace K1 := eq_true K1
              go_wp2
              go_loopg [58] C4 (fun kq Up w' => ∃ (eu : Int), Up = .int .i64 eu ∧ Aside0 (al.l1 kq aV (aV.length : Int) bh dr (dr.length : Int) eu aH aC bJ bQ aV ((bc aV bh).f0) ((bc aV bh).f1) = some r) ∧ Aside0 (kq ≤ C4) ∧ Aside0 (w'.heap[a7]? = some (.cells #[.int .u32 aH, .string aC, (.slice gy bJ.length ff), (.slice eM bQ.length eL), (.slice (some fm) aV.length eP)] 49 (0, 0))) ∧ Aside0 (w'.heap[dG]? = some (.cells #[.string ((bc aV bh).f0), .string ((bc aV bh).f1)] 78 (0, 0))) ∧ Aside0 (Below w.heap.size w w'))
              case atStart => exact ⟨(0), (by first | rfl | (simp; done) | (simp [*]; done)), H', ⟨Nat.le_refl _⟩, ⟨by (with_reducible repeat (first | refine ae ?_ _ | refine ag ?_ | refine af ?_ _)); exact ax.out⟩, ⟨by (with_reducible repeat (first | refine ae ?_ _ | refine ag ?_ | refine af ?_ _)); exact cE.out⟩, ⟨by repeat (first | (with_reducible first | exact HB.out | apply aa | apply J | apply ab | refine ai ?_ cX.out | refine ai ?_ gO.out) | exact HB.out)⟩⟩
              case round =>
               clear H'
               obtain ⟨eu, rfl, HA, AI, ax, cE, HB⟩ := hrel
               cases gk with
               | zero => exact absurd HA.out (by simp [al.l1])
               | succ k4 =>
                have H := HA.out
                clear HA
                simp only [al.l1] at H
                by_cases pP : eu < (dr.length : Int)
                ·rw [if_pos pP] at H
                 have Dh : decide (eu < (dr.length : Int)) = true := decide_eq_true pP
                 clear pP
                 by_cases rZ : 0 ≤ eu
                 ·rw [if_pos rZ] at H
                  have IM : decide (0 ≤ eu) = true := decide_eq_true rZ
                  clear rZ
                  by_cases rY : eu < (dr.length : Int)
                  ·rw [if_pos rY] at H
                   have IL : decide (eu < (dr.length : Int)) = true := decide_eq_true rY
                   clear rY
                   by_cases mR : ((((bc dr eu).f0).toList) == ((bc aV bh).f0).toList && ((((bc dr eu).f1).toList) == ((bc aV bh).f1).toList)) = true
                   ·rw [if_pos mR] at H
                    have Dg : ((((bc dr eu).f0).toList) == ((bc aV bh).f0).toList && ((((bc dr eu).f1).toList) == ((bc aV bh).f1).toList)) = true := mR
                    (try (have Df : decide ((((bc dr eu).f0).toList) = ((bc aV bh).f0).toList && ((((bc dr eu).f1).toList) == ((bc aV bh).f1).toList)) = true := by simpa using mR))
                    (try (have OJ : ((((bc dr eu).f0).toList) == ((bc aV bh).f0).toList && ((((bc dr eu).f1).toList) == ((bc aV bh).f1).toList)) = true := by simpa using mR))
                    clear mR
                    obtain rfl := Option.some.inj H
                    have oR : 0 ≤ (eu : Int) := of_decide_eq_true (by first | (with_reducible assumption) | assumption)
                    have oO : eu < (dr.length : Int) := of_decide_eq_true (by first | (with_reducible assumption) | assumption)
                    obtain ⟨xd, zL, kY, kX⟩ := wi Cm.out eu oR oO
                    obtain rfl : fm = xd := (by injection zL)
                    replace kY := (HB.out.cell (World.block_lt_of_cell? w _ kY)).trans kY
                    replace kX := (HB.out.cell (World.block_lt_of_cell? w _ kX)).trans kX
                    replace oR := eq_true oR
                    replace oO := eq_true oO
                    go_wp2_with (first | ((with_reducible refine aA (N := 6) rfl ?_); (try (refine cF (by rfl) ?_; dsimp only)); refine bl ?hg (N := 6) ?hd (cs := #[.string (⟨#[]⟩ : ByteArray), .string (⟨#[]⟩ : ByteArray)]) (t := 78) ?hr ?_; (case hd => rfl); (case hg => rfl); (case hr => first | (go_simp; done) | (go_simp; rfl)); intro fR hg u0 hbox hb; have av := ak (aU (g := a7) (o := .cells #[.int .u32 aH, .string aC, .slice gy bJ.length ff, .slice eM bQ.length eL, .slice (some fm) aV.length eP] 49 (0, 0)) (by (with_reducible repeat (first | refine ae ?_ _ | refine ag ?_ | refine af ?_ _)); exact ax.out) hb); have az := ak (aU (g := dG) (o := .cells #[.string ((bc aV bh).f0), .string ((bc aV bh).f1)] 78 (0, 0)) (by (with_reducible repeat (first | refine ae ?_ _ | refine ag ?_ | refine af ?_ _)); exact cE.out) hb); have aR := ak (au (by repeat (first | (with_reducible first | exact HB.out | apply aa | apply J | apply ab | refine ai ?_ cX.out | refine ai ?_ gO.out) | exact HB.out)) hb); have bp := ak (hbox); have eh := ak ((by rw [hg]; exact (ay (by repeat (first | (with_reducible first | exact HB.out | apply aa | apply J | apply ab | refine ai ?_ cX.out | refine ai ?_ gO.out) | exact HB.out))) : w.heap.size ≤ fR)); have eg := ak ((by rw [hg]; exact (ay (by repeat (first | (with_reducible first | exact HB.out | apply aa | apply J | apply ab | refine ai ?_ cX.out | refine ai ?_ gO.out) | exact HB.out))) : w.heap.size ≤ fR)); have ef := ak ((by rw [hg]; exact Nat.ne_of_lt (cJ (g := a7) (o := .cells #[.int .u32 aH, .string aC, .slice gy bJ.length ff, .slice eM bQ.length eL, .slice (some fm) aV.length eP] 49 (0, 0)) (by (with_reducible repeat (first | refine ae ?_ _ | refine ag ?_ | refine af ?_ _)); exact ax.out)) : a7 ≠ fR)); have Ex := ak ((by rw [hg]; exact Nat.ne_of_gt (cJ (g := a7) (o := .cells #[.int .u32 aH, .string aC, .slice gy bJ.length ff, .slice eM bQ.length eL, .slice (some fm) aV.length eP] 49 (0, 0)) (by (with_reducible repeat (first | refine ae ?_ _ | refine ag ?_ | refine af ?_ _)); exact ax.out)) : fR ≠ a7)); have Ew := ak ((by rw [hg]; exact Nat.ne_of_lt (cJ (g := dG) (o := .cells #[.string ((bc aV bh).f0), .string ((bc aV bh).f1)] 78 (0, 0)) (by (with_reducible repeat (first | refine ae ?_ _ | refine ag ?_ | refine af ?_ _)); exact cE.out)) : dG ≠ fR)); have Eu := ak ((by rw [hg]; exact Nat.ne_of_gt (cJ (g := dG) (o := .cells #[.string ((bc aV bh).f0), .string ((bc aV bh).f1)] 78 (0, 0)) (by (with_reducible repeat (first | refine ae ?_ _ | refine ag ?_ | refine af ?_ _)); exact cE.out)) : fR ≠ dG)); clear ax; clear cE; clear HB; have ax := av; have cE := az; have HB := aR; have lB := bp; have KD := eh; have xj := eg; have ku := ef; have nY := Ex; have kt := Ew; have nX := Eu; clear av az aR bp eh eg ef Ex Ew Eu; clear hb hbox hg; have N5 := nY.out; have N1 := ku.out; have Wt := nX.out; have Wa := kt.out; have JY : u0.cell? ⟨fR, 0, none⟩ = some (.string (⟨#[]⟩ : ByteArray)) := (aj lB.out 0).trans rfl; have JX : u0.cell? ⟨fR, 1, none⟩ = some (.string (⟨#[]⟩ : ByteArray)) := (aj lB.out 1).trans rfl; have JD := ah lB.out 0; have JC := ah lB.out 1; have Ws := iW.out; have V8 := fh.out; have Te : u0.cell? ⟨dG, 0, none⟩ = some (.string ((bc aV bh).f0)) := (aj cE.out 0).trans rfl; have Td : u0.cell? ⟨dG, 1, none⟩ = some (.string ((bc aV bh).f1)) := (aj cE.out 1).trans rfl; have RN := ah cE.out 0; have RM := ah cE.out 1))
                    go_ret
                    exact ⟨by first | rfl | (simp [aq, ao] <;> rfl) | (simp [*, aq, ao] <;> rfl), by repeat (first | (with_reducible first | exact HB.out | apply aa | apply J | apply ab | refine ai ?_ cX.out | refine ai ?_ gO.out | refine ai ?_ xj.out) | exact HB.out)⟩
                   ·rw [if_neg mR] at H
                    have Dg : ((((bc dr eu).f0).toList) == ((bc aV bh).f0).toList && ((((bc dr eu).f1).toList) == ((bc aV bh).f1).toList)) = false := by simpa using mR
                    (try (have Df : decide ((((bc dr eu).f0).toList) = ((bc aV bh).f0).toList && ((((bc dr eu).f1).toList) == ((bc aV bh).f1).toList)) = false := by simpa using mR))
                    (try (have OJ : ((((bc dr eu).f0).toList) == ((bc aV bh).f0).toList && ((((bc dr eu).f1).toList) == ((bc aV bh).f1).toList)) = false := by simpa using mR))
                    (try (have WY : ¬ ((((bc dr eu).f0).toList) = ((bc aV bh).f0).toList && ((((bc dr eu).f1).toList) == ((bc aV bh).f1).toList)) := by simpa using mR))
                    clear mR
                    have H' := ak H
                    clear H
                    have oR : 0 ≤ (eu : Int) := of_decide_eq_true (by first | (with_reducible assumption) | assumption)
                    have oO : eu < (dr.length : Int) := of_decide_eq_true (by first | (with_reducible assumption) | assumption)
                    obtain ⟨xd, zL, kY, kX⟩ := wi Cm.out eu oR oO
                    obtain rfl : fm = xd := (by injection zL)
                    replace kY := (HB.out.cell (World.block_lt_of_cell? w _ kY)).trans kY
                    replace kX := (HB.out.cell (World.block_lt_of_cell? w _ kX)).trans kX
                    replace oR := eq_true oR
                    replace oO := eq_true oO
                    go_wp2_with (first | ((with_reducible refine aA (N := 6) rfl ?_); (try (refine cF (by rfl) ?_; dsimp only)); refine bl ?hg (N := 6) ?hd (cs := #[.string (⟨#[]⟩ : ByteArray), .string (⟨#[]⟩ : ByteArray)]) (t := 78) ?hr ?_; (case hd => rfl); (case hg => rfl); (case hr => first | (go_simp; done) | (go_simp; rfl)); intro fR hg Hq hbox hb; have av := ak (aU (g := a7) (o := .cells #[.int .u32 aH, .string aC, .slice gy bJ.length ff, .slice eM bQ.length eL, .slice (some fm) aV.length eP] 49 (0, 0)) (by (with_reducible repeat (first | refine ae ?_ _ | refine ag ?_ | refine af ?_ _)); exact ax.out) hb); have az := ak (aU (g := dG) (o := .cells #[.string ((bc aV bh).f0), .string ((bc aV bh).f1)] 78 (0, 0)) (by (with_reducible repeat (first | refine ae ?_ _ | refine ag ?_ | refine af ?_ _)); exact cE.out) hb); have aR := ak (au (by repeat (first | (with_reducible first | exact HB.out | apply aa | apply J | apply ab | refine ai ?_ cX.out | refine ai ?_ gO.out) | exact HB.out)) hb); have bp := ak (hbox); have eh := ak ((by rw [hg]; exact (ay (by repeat (first | (with_reducible first | exact HB.out | apply aa | apply J | apply ab | refine ai ?_ cX.out | refine ai ?_ gO.out) | exact HB.out))) : w.heap.size ≤ fR)); have eg := ak ((by rw [hg]; exact (ay (by repeat (first | (with_reducible first | exact HB.out | apply aa | apply J | apply ab | refine ai ?_ cX.out | refine ai ?_ gO.out) | exact HB.out))) : w.heap.size ≤ fR)); have ef := ak ((by rw [hg]; exact Nat.ne_of_lt (cJ (g := a7) (o := .cells #[.int .u32 aH, .string aC, .slice gy bJ.length ff, .slice eM bQ.length eL, .slice (some fm) aV.length eP] 49 (0, 0)) (by (with_reducible repeat (first | refine ae ?_ _ | refine ag ?_ | refine af ?_ _)); exact ax.out)) : a7 ≠ fR)); have Ex := ak ((by rw [hg]; exact Nat.ne_of_gt (cJ (g := a7) (o := .cells #[.int .u32 aH, .string aC, .slice gy bJ.length ff, .slice eM bQ.length eL, .slice (some fm) aV.length eP] 49 (0, 0)) (by (with_reducible repeat (first | refine ae ?_ _ | refine ag ?_ | refine af ?_ _)); exact ax.out)) : fR ≠ a7)); have Ew := ak ((by rw [hg]; exact Nat.ne_of_lt (cJ (g := dG) (o := .cells #[.string ((bc aV bh).f0), .string ((bc aV bh).f1)] 78 (0, 0)) (by (with_reducible repeat (first | refine ae ?_ _ | refine ag ?_ | refine af ?_ _)); exact cE.out)) : dG ≠ fR)); have Eu := ak ((by rw [hg]; exact Nat.ne_of_gt (cJ (g := dG) (o := .cells #[.string ((bc aV bh).f0), .string ((bc aV bh).f1)] 78 (0, 0)) (by (with_reducible repeat (first | refine ae ?_ _ | refine ag ?_ | refine af ?_ _)); exact cE.out)) : fR ≠ dG)); clear ax; clear cE; clear HB; have ax := av; have cE := az; have HB := aR; have lB := bp; have KD := eh; have xj := eg; have ku := ef; have nY := Ex; have kt := Ew; have nX := Eu; clear av az aR bp eh eg ef Ex Ew Eu; clear hb hbox hg; have Wq := nY.out; have V6 := ku.out; have Wp := nX.out; have V5 := kt.out; have Ta : Hq.cell? ⟨fR, 0, none⟩ = some (.string (⟨#[]⟩ : ByteArray)) := (aj lB.out 0).trans rfl; have S9 : Hq.cell? ⟨fR, 1, none⟩ = some (.string (⟨#[]⟩ : ByteArray)) := (aj lB.out 1).trans rfl; have RI := ah lB.out 0; have RH := ah lB.out 1; have Wo := iW.out; have V4 := fh.out; have JW : Hq.cell? ⟨dG, 0, none⟩ = some (.string ((bc aV bh).f0)) := (aj cE.out 0).trans rfl; have S8 : Hq.cell? ⟨dG, 1, none⟩ = some (.string ((bc aV bh).f1)) := (aj cE.out 1).trans rfl; have JB := ah cE.out 0; have RG := ah cE.out 1))
                    go_roundg k4
                    case measure => have := kN.out; have := mC.out; have := DJ.out; have := AI.out; omega
                    case rel => exact ⟨(wrap64 (eu + 1)), (by first | rfl | (simp; done) | (simp [*]; done)), H', ⟨by have := kN.out; have := mC.out; have := DJ.out; have := AI.out; omega⟩, ⟨by (with_reducible repeat (first | refine ae ?_ _ | refine ag ?_ | refine af ?_ _)); refine cD ?_ ku.out _; (with_reducible repeat (first | refine ae ?_ _ | refine ag ?_ | refine af ?_ _)); refine cD ?_ ku.out _; (with_reducible repeat (first | refine ae ?_ _ | refine ag ?_ | refine af ?_ _)); exact ax.out⟩, ⟨by (with_reducible repeat (first | refine ae ?_ _ | refine ag ?_ | refine af ?_ _)); refine cD ?_ kt.out _; (with_reducible repeat (first | refine ae ?_ _ | refine ag ?_ | refine af ?_ _)); refine cD ?_ kt.out _; (with_reducible repeat (first | refine ae ?_ _ | refine ag ?_ | refine af ?_ _)); exact cE.out⟩, ⟨by repeat (first | (with_reducible first | exact HB.out | apply aa | apply J | apply ab | refine ai ?_ cX.out | refine ai ?_ gO.out | refine ai ?_ xj.out) | exact HB.out)⟩⟩
                  ·rw [if_neg rY] at H
                   exact absurd H (by simp)
                 ·rw [if_neg rZ] at H
                  exact absurd H (by simp)
                ·rw [if_neg pP] at H
                 have Dh : decide (eu < (dr.length : Int)) = false := decide_eq_false pP
                 clear pP
                 have H' := ak H
                 clear H
                 go_wp2
                 go_roundg k4
                 case measure => have := kN.out; have := mC.out; have := DJ.out; have := AI.out; omega
                 case rel => exact ⟨(wrap64 (bh + 1)), (by first | rfl | (simp; done) | (simp [*]; done)), H', ⟨by have := kN.out; have := mC.out; have := DJ.out; have := AI.out; omega⟩, ⟨by (with_reducible repeat (first | refine ae ?_ _ | refine ag ?_ | refine af ?_ _)); exact ax.out⟩, ⟨by repeat (first | (with_reducible first | exact HB.out | apply aa | apply J | apply ab | refine ai ?_ cX.out | refine ai ?_ gO.out) | exact HB.out)⟩⟩
             ·rw [if_neg qN] at H
              exact absurd H (by simp)
            ·rw [if_neg qO] at H
             exact absurd H (by simp)
        ·rw [if_neg mS] at H
         exact absurd H (by simp)
       ·rw [if_neg kL] at H
        exact absurd H (by simp)
      ·rw [if_neg fD] at H
       have rL : decide (bh < (aV.length : Int)) = false := decide_eq_false fD
       clear fD
       have H' := ak H
       clear H
       have S7 : wr.cell? ⟨a7, 0, none⟩ = some (.int .u32 aH) := (aj ax.out 0).trans rfl
       have S6 : wr.cell? ⟨a7, 1, none⟩ = some (.string aC) := (aj ax.out 1).trans rfl
       have S5 : wr.cell? ⟨a7, 2, none⟩ = some (.slice gy bJ.length ff) := (aj ax.out 2).trans rfl
       have S4 : wr.cell? ⟨a7, 3, none⟩ = some (.slice eM bQ.length eL) := (aj ax.out 3).trans rfl
       have S3 : wr.cell? ⟨a7, 4, none⟩ = some (.slice jU aV.length eP) := (aj ax.out 4).trans rfl
       have RF := ah ax.out 0
       have RE := ah ax.out 1
       have RD := ah ax.out 2
       have RC := ah ax.out 3
       have RB := ah ax.out 4
       go_wp2
       go_loopg [70] k2 (fun kq v70 w' => ∃ (dw : Int), v70 = .int .i64 dw ∧ Aside0 (al.l2 kq bJ (bJ.length : Int) dw aH aC bJ bQ aV = some r) ∧ Aside0 (kq ≤ k2) ∧ Aside0 (w'.heap[a7]? = some (.cells #[.int .u32 aH, .string aC, (.slice gy bJ.length ff), (.slice eM bQ.length eL), (.slice jU aV.length eP)] 49 (0, 0))) ∧ Aside0 (Below w.heap.size w w'))
       case atStart => exact ⟨(0), (by first | rfl | (simp; done) | (simp [*]; done)), H', ⟨Nat.le_refl _⟩, ⟨by (with_reducible repeat (first | refine ae ?_ _ | refine ag ?_ | refine af ?_ _)); exact ax.out⟩, ⟨by repeat (first | (with_reducible first | exact HB.out | apply aa | apply J | apply ab | refine ai ?_ cX.out) | exact HB.out)⟩⟩
       case round =>
        clear H'
        obtain ⟨dw, rfl, HA, yc, ax, HB⟩ := hrel
        cases gk with
        | zero => exact absurd HA.out (by simp [al.l2])
        | succ k3 =>
         have H := HA.out
         clear HA
         simp only [al.l2] at H
         by_cases B7 : dw < (bJ.length : Int)
         ·rw [if_pos B7] at H
          have OC : decide (dw < (bJ.length : Int)) = true := decide_eq_true B7
          clear B7
          by_cases IK : 0 ≤ dw
          ·rw [if_pos IK] at H
           have WX : decide (0 ≤ dw) = true := decide_eq_true IK
           clear IK
           by_cases IJ : dw < (bJ.length : Int)
           ·rw [if_pos IJ] at H
            have WW : decide (dw < (bJ.length : Int)) = true := decide_eq_true IJ
            clear IJ
            have Hd := ak H
            clear H
            have yV : 0 ≤ (dw : Int) := of_decide_eq_true (by first | (with_reducible assumption) | assumption)
            have yP : dw < (bJ.length : Int) := of_decide_eq_true (by first | (with_reducible assumption) | assumption)
            obtain ⟨oF, Ma, sx⟩ := Kd.at_int I5.out dw yV yP
            cases Ma
            replace sx := (HB.out.cell (World.block_lt_of_cell? w _ sx)).trans sx
            replace yV := eq_true yV
            replace yP := eq_true yP
            go_upto_region 18 with (fail)
            go_cut [83] (fun Uo wc => ∃ (kq : Nat) (uX : Bool), Uo = .bool uX ∧ Aside0 (al.j5 kq dw (rd bJ dw) bJ (bJ.length : Int) dw uX aH aC bJ bQ aV = some r) ∧ Aside0 (kq ≤ k3) ∧ Aside0 (wc.heap[a7]? = some (.cells #[.int .u32 aH, .string aC, (.slice (some oF) bJ.length ff), (.slice eM bQ.length eL), (.slice jU aV.length eP)] 49 (0, 0))) ∧ Aside0 (Below w.heap.size w wc))
            case first =>
             have H := Hd.out
             clear Hd
             by_cases B0 : (rd bJ dw) < 0
             ·rw [if_pos B0] at H
              have wa : decide ((rd bJ dw) < 0) = true := decide_eq_true B0
              clear B0
              (first | rw [wa] | (simp only [cp, cL]; rw [wa]) | skip)
              have H' := ak H
              clear H
              go_wp2
              go_meet
              case rel => exact ⟨_, (true), (by first | rfl | (simp; done) | (simp [*]; done)), H', ⟨by have := kN.out; have := mC.out; have := yc.out; first | omega | exact Nat.le_refl _⟩, ⟨by (with_reducible repeat (first | refine ae ?_ _ | refine ag ?_ | refine af ?_ _)); exact ax.out⟩, ⟨by repeat (first | (with_reducible first | exact HB.out | apply aa | apply J | apply ab | refine ai ?_ cX.out) | exact HB.out)⟩⟩
             ·rw [if_neg B0] at H
              have wa : decide ((rd bJ dw) < 0) = false := decide_eq_false B0
              clear B0
              (first | rw [wa] | (simp only [cp, cL]; rw [wa]) | skip)
              have H' := ak H
              clear H
              have S1 : wr.cell? ⟨a7, 0, none⟩ = some (.int .u32 aH) := (aj ax.out 0).trans rfl
              have S0 : wr.cell? ⟨a7, 1, none⟩ = some (.string aC) := (aj ax.out 1).trans rfl
              have SZ : wr.cell? ⟨a7, 2, none⟩ = some (.slice (some oF) bJ.length ff) := (aj ax.out 2).trans rfl
              have SY : wr.cell? ⟨a7, 3, none⟩ = some (.slice eM bQ.length eL) := (aj ax.out 3).trans rfl
              have SX : wr.cell? ⟨a7, 4, none⟩ = some (.slice jU aV.length eP) := (aj ax.out 4).trans rfl
              have RA := ah ax.out 0
              have Rz := ah ax.out 1
              have Ry := ah ax.out 2
              have Rx := ah ax.out 3
              have Rv := ah ax.out 4
              go_wp2
              go_meet
              case rel => exact ⟨_, (decide ((rd bJ dw) > (aV.length : Int))), (by first | rfl | (simp; done) | (simp [*]; done)), H', ⟨by have := kN.out; have := mC.out; have := yc.out; first | omega | exact Nat.le_refl _⟩, ⟨by (with_reducible repeat (first | refine ae ?_ _ | refine ag ?_ | refine af ?_ _)); exact ax.out⟩, ⟨by repeat (first | (with_reducible first | exact HB.out | apply aa | apply J | apply ab | refine ai ?_ cX.out) | exact HB.out)⟩⟩
            case rest =>
             clear Hd
             obtain ⟨kq, uX, rfl, HA, DI, ax, HB⟩ := hcut
             cases kq with
             | zero => exact absurd HA.out (by simp [al.j5])
             | succ nW =>
              have H := HA.out
              clear HA
              simp only [al.j5] at H
              by_cases II : uX = true
              ·subst II
               have H1 : (some false) = some r := by rw [if_pos rfl] at H; exact H
               clear H
               have H := H1
               clear H1
               obtain rfl := Option.some.inj H
               go_wp2
               go_ret
               exact ⟨by first | rfl | (simp [aq, ao] <;> rfl) | (simp [*, aq, ao] <;> rfl), by repeat (first | (with_reducible first | exact HB.out | apply aa | apply J | apply ab | refine ai ?_ cX.out) | exact HB.out)⟩
              ·replace II := Bool.eq_false_iff.mpr II
               subst II
               have H1 : (if (rd bJ dw) = 0 then ((br.f nW bQ dw).bind fun kk => (if kk = 1 then (al.l2 nW bJ (bJ.length : Int) (wrap64 (dw + 1)) aH aC bJ bQ aV) else (some false))) else ((br.f nW bQ dw).bind fun kj => (if kj = 0 then (al.l2 nW bJ (bJ.length : Int) (wrap64 (dw + 1)) aH aC bJ bQ aV) else (some false)))) = some r := by rw [if_neg (show ¬ (false = true) by decide)] at H; exact H
               clear H
               have H := H1
               clear H1
               by_cases zQ : (rd bJ dw) = 0
               ·rw [if_pos zQ] at H
                have OB : ((rd bJ dw) == 0) = true := beq_iff_eq.mpr zQ
                have OA : ((rd bJ dw) != 0) = false := bne_eq_false_iff_eq.mpr zQ
                clear zQ
                replace H := Option.bind_eq_some_iff.mp H
                obtain ⟨kk, Nv, H⟩ := H
                replace H : (if kk = 1 then (al.l2 nW bJ (bJ.length : Int) (wrap64 (dw + 1)) aH aC bJ bQ aV) else (some false)) = some r := H
                have Qn := ak Nv
                clear Nv
                by_cases zP : kk = 1
                ·rw [if_pos zP] at H
                 have Oz : (kk == 1) = true := beq_iff_eq.mpr zP
                 have Oy : (kk != 1) = false := bne_eq_false_iff_eq.mpr zP
                 clear zP
                 have H' := ak H
                 clear H
                 have SW : wc.cell? ⟨a7, 0, none⟩ = some (.int .u32 aH) := (aj ax.out 0).trans rfl
                 have SV : wc.cell? ⟨a7, 1, none⟩ = some (.string aC) := (aj ax.out 1).trans rfl
                 have SU : wc.cell? ⟨a7, 2, none⟩ = some (.slice (some oF) bJ.length ff) := (aj ax.out 2).trans rfl
                 have SS : wc.cell? ⟨a7, 3, none⟩ = some (.slice eM bQ.length eL) := (aj ax.out 3).trans rfl
                 have SR : wc.cell? ⟨a7, 4, none⟩ = some (.slice jU aV.length eP) := (aj ax.out 4).trans rfl
                 have Ru := ah ax.out 0
                 have Rt := ah ax.out 1
                 have Rs := ah ax.out 2
                 have Rp := ah ax.out 3
                 have Ro := ah ax.out 4
                 go_wp2_with (first | ((with_reducible refine aD (f := 102) rfl ?_); refine bg (some 89) rfl rfl Tryz.func102 (by kernel_rfl) rfl #[.slice eM bQ.length eL, .int .i64 dw] rfl (by (try simp only [List.map_toArray, List.map_cons, List.map_nil]); first | done | rfl | (simp only [List.length_drop, List.length_take]; rfl)) ?_; (with_reducible refine (br.calls nW _ _ bQ dw kk _ ?side1 ?side2 Qn.out).mono ?_); (case side1 => repeat (first | exact (Kd.C_below rO.out HB.out) | (with_reducible refine Kd.C_alloc ?_ _) | (with_reducible refine Kd.C_drewN ?_ _) | (with_reducible refine Kd.C_drew ?_))); (case side2 => exact yw.out); rintro e w' ⟨rfl, ⟨nd, rfl⟩⟩; refine ⟨_, rfl, ?_⟩))
                 go_roundg nW
                 case measure => have := kN.out; have := mC.out; have := yc.out; have := DI.out; omega
                 case rel => exact ⟨(wrap64 (dw + 1)), (by first | rfl | (simp; done) | (simp [*]; done)), H', ⟨by have := kN.out; have := mC.out; have := yc.out; have := DI.out; omega⟩, ⟨by (with_reducible repeat (first | refine ae ?_ _ | refine ag ?_ | refine af ?_ _)); exact ax.out⟩, ⟨by repeat (first | (with_reducible first | exact HB.out | apply aa | apply J | apply ab | refine ai ?_ cX.out) | exact HB.out)⟩⟩
                ·rw [if_neg zP] at H
                 have Oz : (kk == 1) = false := beq_eq_false_iff_ne.mpr zP
                 have Oy : (kk != 1) = true := bne_iff_ne.mpr zP
                 obtain rfl := Option.some.inj H
                 have SQ : wc.cell? ⟨a7, 0, none⟩ = some (.int .u32 aH) := (aj ax.out 0).trans rfl
                 have SP : wc.cell? ⟨a7, 1, none⟩ = some (.string aC) := (aj ax.out 1).trans rfl
                 have SO : wc.cell? ⟨a7, 2, none⟩ = some (.slice (some oF) bJ.length ff) := (aj ax.out 2).trans rfl
                 have SN : wc.cell? ⟨a7, 3, none⟩ = some (.slice eM bQ.length eL) := (aj ax.out 3).trans rfl
                 have SM : wc.cell? ⟨a7, 4, none⟩ = some (.slice jU aV.length eP) := (aj ax.out 4).trans rfl
                 have Rn := ah ax.out 0
                 have Rm := ah ax.out 1
                 have Rl := ah ax.out 2
                 have Rk := ah ax.out 3
                 have Rj := ah ax.out 4
                 go_wp2_with (first | ((with_reducible refine aD (f := 102) rfl ?_); refine bg (some 89) rfl rfl Tryz.func102 (by kernel_rfl) rfl #[.slice eM bQ.length eL, .int .i64 dw] rfl (by (try simp only [List.map_toArray, List.map_cons, List.map_nil]); first | done | rfl | (simp only [List.length_drop, List.length_take]; rfl)) ?_; (with_reducible refine (br.calls nW _ _ bQ dw kk _ ?side1 ?side2 Qn.out).mono ?_); (case side1 => repeat (first | exact (Kd.C_below rO.out HB.out) | (with_reducible refine Kd.C_alloc ?_ _) | (with_reducible refine Kd.C_drewN ?_ _) | (with_reducible refine Kd.C_drew ?_))); (case side2 => exact yw.out); rintro e w' ⟨rfl, ⟨nd, rfl⟩⟩; refine ⟨_, rfl, ?_⟩))
                 go_ret
                 exact ⟨by first | rfl | (simp [aq, ao] <;> rfl) | (simp [*, aq, ao] <;> rfl), by repeat (first | (with_reducible first | exact HB.out | apply aa | apply J | apply ab | refine ai ?_ cX.out) | exact HB.out)⟩
               ·rw [if_neg zQ] at H
                have OB : ((rd bJ dw) == 0) = false := beq_eq_false_iff_ne.mpr zQ
                have OA : ((rd bJ dw) != 0) = true := bne_iff_ne.mpr zQ
                replace H := Option.bind_eq_some_iff.mp H
                obtain ⟨kj, Nu, H⟩ := H
                replace H : (if kj = 0 then (al.l2 nW bJ (bJ.length : Int) (wrap64 (dw + 1)) aH aC bJ bQ aV) else (some false)) = some r := H
                have Qm := ak Nu
                clear Nu
                by_cases zO : kj = 0
                ·rw [if_pos zO] at H
                 have Ox : (kj == 0) = true := beq_iff_eq.mpr zO
                 have Ow : (kj != 0) = false := bne_eq_false_iff_eq.mpr zO
                 clear zO
                 have H' := ak H
                 clear H
                 have SK : wc.cell? ⟨a7, 0, none⟩ = some (.int .u32 aH) := (aj ax.out 0).trans rfl
                 have SJ : wc.cell? ⟨a7, 1, none⟩ = some (.string aC) := (aj ax.out 1).trans rfl
                 have SI : wc.cell? ⟨a7, 2, none⟩ = some (.slice (some oF) bJ.length ff) := (aj ax.out 2).trans rfl
                 have SH : wc.cell? ⟨a7, 3, none⟩ = some (.slice eM bQ.length eL) := (aj ax.out 3).trans rfl
                 have SG : wc.cell? ⟨a7, 4, none⟩ = some (.slice jU aV.length eP) := (aj ax.out 4).trans rfl
                 have Ri := ah ax.out 0
                 have Rh := ah ax.out 1
                 have Rg := ah ax.out 2
                 have Rf := ah ax.out 3
                 have Re := ah ax.out 4
                 go_wp2_with (first | ((with_reducible refine aD (f := 102) rfl ?_); refine bg (some 89) rfl rfl Tryz.func102 (by kernel_rfl) rfl #[.slice eM bQ.length eL, .int .i64 dw] rfl (by (try simp only [List.map_toArray, List.map_cons, List.map_nil]); first | done | rfl | (simp only [List.length_drop, List.length_take]; rfl)) ?_; (with_reducible refine (br.calls nW _ _ bQ dw kj _ ?side1 ?side2 Qm.out).mono ?_); (case side1 => repeat (first | exact (Kd.C_below rO.out HB.out) | (with_reducible refine Kd.C_alloc ?_ _) | (with_reducible refine Kd.C_drewN ?_ _) | (with_reducible refine Kd.C_drew ?_))); (case side2 => exact yw.out); rintro e w' ⟨rfl, ⟨nd, rfl⟩⟩; refine ⟨_, rfl, ?_⟩))
                 go_roundg nW
                 case measure => have := kN.out; have := mC.out; have := yc.out; have := DI.out; omega
                 case rel => exact ⟨(wrap64 (dw + 1)), (by first | rfl | (simp; done) | (simp [*]; done)), H', ⟨by have := kN.out; have := mC.out; have := yc.out; have := DI.out; omega⟩, ⟨by (with_reducible repeat (first | refine ae ?_ _ | refine ag ?_ | refine af ?_ _)); exact ax.out⟩, ⟨by repeat (first | (with_reducible first | exact HB.out | apply aa | apply J | apply ab | refine ai ?_ cX.out) | exact HB.out)⟩⟩
                ·rw [if_neg zO] at H
                 have Ox : (kj == 0) = false := beq_eq_false_iff_ne.mpr zO
                 have Ow : (kj != 0) = true := bne_iff_ne.mpr zO
                 obtain rfl := Option.some.inj H
                 have SF : wc.cell? ⟨a7, 0, none⟩ = some (.int .u32 aH) := (aj ax.out 0).trans rfl
                 have SE : wc.cell? ⟨a7, 1, none⟩ = some (.string aC) := (aj ax.out 1).trans rfl
                 have SD : wc.cell? ⟨a7, 2, none⟩ = some (.slice (some oF) bJ.length ff) := (aj ax.out 2).trans rfl
                 have SC : wc.cell? ⟨a7, 3, none⟩ = some (.slice eM bQ.length eL) := (aj ax.out 3).trans rfl
                 have SB : wc.cell? ⟨a7, 4, none⟩ = some (.slice jU aV.length eP) := (aj ax.out 4).trans rfl
                 have Rc := ah ax.out 0
                 have Rb := ah ax.out 1
                 have Ra := ah ax.out 2
                 have Q9 := ah ax.out 3
                 have Q8 := ah ax.out 4
                 go_wp2_with (first | ((with_reducible refine aD (f := 102) rfl ?_); refine bg (some 89) rfl rfl Tryz.func102 (by kernel_rfl) rfl #[.slice eM bQ.length eL, .int .i64 dw] rfl (by (try simp only [List.map_toArray, List.map_cons, List.map_nil]); first | done | rfl | (simp only [List.length_drop, List.length_take]; rfl)) ?_; (with_reducible refine (br.calls nW _ _ bQ dw kj _ ?side1 ?side2 Qm.out).mono ?_); (case side1 => repeat (first | exact (Kd.C_below rO.out HB.out) | (with_reducible refine Kd.C_alloc ?_ _) | (with_reducible refine Kd.C_drewN ?_ _) | (with_reducible refine Kd.C_drew ?_))); (case side2 => exact yw.out); rintro e w' ⟨rfl, ⟨nd, rfl⟩⟩; refine ⟨_, rfl, ?_⟩))
                 go_ret
                 exact ⟨by first | rfl | (simp [aq, ao] <;> rfl) | (simp [*, aq, ao] <;> rfl), by repeat (first | (with_reducible first | exact HB.out | apply aa | apply J | apply ab | refine ai ?_ cX.out) | exact HB.out)⟩
           ·rw [if_neg IJ] at H
            exact absurd H (by simp)
          ·rw [if_neg IK] at H
           exact absurd H (by simp)
         ·rw [if_neg B7] at H
          have OC : decide (dw < (bJ.length : Int)) = false := decide_eq_false B7
          clear B7
          have H' := ak H
          clear H
          have SA : wr.cell? ⟨a7, 0, none⟩ = some (.int .u32 aH) := (aj ax.out 0).trans rfl
          have Sz : wr.cell? ⟨a7, 1, none⟩ = some (.string aC) := (aj ax.out 1).trans rfl
          have Sy : wr.cell? ⟨a7, 2, none⟩ = some (.slice gy bJ.length ff) := (aj ax.out 2).trans rfl
          have Sx : wr.cell? ⟨a7, 3, none⟩ = some (.slice eM bQ.length eL) := (aj ax.out 3).trans rfl
          have Sw : wr.cell? ⟨a7, 4, none⟩ = some (.slice jU aV.length eP) := (aj ax.out 4).trans rfl
          have Q7 := ah ax.out 0
          have Q6 := ah ax.out 1
          have Q5 := ah ax.out 2
          have Q4 := ah ax.out 3
          have Q3 := ah ax.out 4
          go_wp2
          go_loopg [96] k3 (fun kq Un w' => ∃ (fA : Int), Un = .int .i64 fA ∧ Aside0 (al.l3 kq bQ (bQ.length : Int) fA = some r) ∧ Aside0 (kq ≤ k3) ∧ Aside0 (w'.heap[a7]? = some (.cells #[.int .u32 aH, .string aC, (.slice gy bJ.length ff), (.slice eM bQ.length eL), (.slice jU aV.length eP)] 49 (0, 0))) ∧ Aside0 (Below w.heap.size w w'))
          case atStart => exact ⟨(0), (by first | rfl | (simp; done) | (simp [*]; done)), H', ⟨Nat.le_refl _⟩, ⟨by (with_reducible repeat (first | refine ae ?_ _ | refine ag ?_ | refine af ?_ _)); exact ax.out⟩, ⟨by repeat (first | (with_reducible first | exact HB.out | apply aa | apply J | apply ab | refine ai ?_ cX.out) | exact HB.out)⟩⟩
          case round =>
           clear H'
           obtain ⟨fA, rfl, HA, AI, ax, HB⟩ := hrel
           cases gk with
           | zero => exact absurd HA.out (by simp [al.l3])
           | succ k4 =>
            have H := HA.out
            clear HA
            simp only [al.l3] at H
            by_cases BZ : fA < (bQ.length : Int)
            ·rw [if_pos BZ] at H
             have Ov : decide (fA < (bQ.length : Int)) = true := decide_eq_true BZ
             clear BZ
             by_cases IH : 0 ≤ fA
             ·rw [if_pos IH] at H
              have WV : decide (0 ≤ fA) = true := decide_eq_true IH
              clear IH
              by_cases IG : fA < (bQ.length : Int)
              ·rw [if_pos IG] at H
               have WU : decide (fA < (bQ.length : Int)) = true := decide_eq_true IG
               clear IG
               by_cases BY : (rd bQ fA) < 0
               ·rw [if_pos BY] at H
                have Ou : decide ((rd bQ fA) < 0) = true := decide_eq_true BY
                clear BY
                obtain rfl := Option.some.inj H
                have kU : 0 ≤ (fA : Int) := of_decide_eq_true (by first | (with_reducible assumption) | assumption)
                have kS : fA < (bQ.length : Int) := of_decide_eq_true (by first | (with_reducible assumption) | assumption)
                obtain ⟨Cj, sN, gW⟩ := Kd.at_int rO.out fA kU kS
                cases sN
                replace gW := (HB.out.cell (World.block_lt_of_cell? w _ gW)).trans gW
                replace kU := eq_true kU
                replace kS := eq_true kS
                go_wp2
                go_ret
                exact ⟨by first | rfl | (simp [aq, ao] <;> rfl) | (simp [*, aq, ao] <;> rfl), by repeat (first | (with_reducible first | exact HB.out | apply aa | apply J | apply ab | refine ai ?_ cX.out) | exact HB.out)⟩
               ·rw [if_neg BY] at H
                have Ou : decide ((rd bQ fA) < 0) = false := decide_eq_false BY
                clear BY
                by_cases BX : (rd bQ fA) > 63
                ·rw [if_pos BX] at H
                 have Ot : decide (63 < (rd bQ fA)) = true := decide_eq_true BX
                 clear BX
                 obtain rfl := Option.some.inj H
                 have kU : 0 ≤ (fA : Int) := of_decide_eq_true (by first | (with_reducible assumption) | assumption)
                 have kS : fA < (bQ.length : Int) := of_decide_eq_true (by first | (with_reducible assumption) | assumption)
                 obtain ⟨Cj, sN, gW⟩ := Kd.at_int rO.out fA kU kS
                 cases sN
                 replace gW := (HB.out.cell (World.block_lt_of_cell? w _ gW)).trans gW
                 replace kU := eq_true kU
                 replace kS := eq_true kS
                 go_wp2
                 go_ret
                 exact ⟨by first | rfl | (simp [aq, ao] <;> rfl) | (simp [*, aq, ao] <;> rfl), by repeat (first | (with_reducible first | exact HB.out | apply aa | apply J | apply ab | refine ai ?_ cX.out) | exact HB.out)⟩
                ·rw [if_neg BX] at H
                 have Ot : decide (63 < (rd bQ fA)) = false := decide_eq_false BX
                 clear BX
                 have H' := ak H
                 clear H
                 have kU : 0 ≤ (fA : Int) := of_decide_eq_true (by first | (with_reducible assumption) | assumption)
                 have kS : fA < (bQ.length : Int) := of_decide_eq_true (by first | (with_reducible assumption) | assumption)
                 obtain ⟨Cj, sN, gW⟩ := Kd.at_int rO.out fA kU kS
                 cases sN
                 replace gW := (HB.out.cell (World.block_lt_of_cell? w _ gW)).trans gW
                 replace kU := eq_true kU
                 replace kS := eq_true kS
                 go_wp2
                 go_roundg k4
                 case measure => have := kN.out; have := mC.out; have := yc.out; have := AI.out; omega
                 case rel => exact ⟨(wrap64 (fA + 1)), (by first | rfl | (simp; done) | (simp [*]; done)), H', ⟨by have := kN.out; have := mC.out; have := yc.out; have := AI.out; omega⟩, ⟨by (with_reducible repeat (first | refine ae ?_ _ | refine ag ?_ | refine af ?_ _)); exact ax.out⟩, ⟨by repeat (first | (with_reducible first | exact HB.out | apply aa | apply J | apply ab | refine ai ?_ cX.out) | exact HB.out)⟩⟩
              ·rw [if_neg IG] at H
               exact absurd H (by simp)
             ·rw [if_neg IH] at H
              exact absurd H (by simp)
            ·rw [if_neg BZ] at H
             have Ov : decide (fA < (bQ.length : Int)) = false := decide_eq_false BZ
             clear BZ
             obtain rfl := Option.some.inj H
             go_wp2
             go_ret
             exact ⟨by first | rfl | (simp [aq, ao] <;> rfl) | (simp [*, aq, ao] <;> rfl), by repeat (first | (with_reducible first | exact HB.out | apply aa | apply J | apply ab | refine ai ?_ cX.out) | exact HB.out)⟩
end Go.Proofs.YtndddnglapkplaaGreatDoor.V
end

section
namespace Go.Proofs.YtndddnglapkplaaGreatDoor.V
def rN (b : Bk) (r : Bool) : Prop := ∃ k, al.f k b.addr b.aff b.slots b.free (b.attrs.map vc) = some r
theorem rh.R {W : World} {b : Bk} {A A' : Option Addr} {c c' : Nat} (h : BkR W b A c A' c') : rh W (.agg (en b.addr b.aff b.slots (.slice A b.free.length c) (.slice A' b.attrs.length c')).toArray) b := ⟨A, c, A', c', rfl, h⟩
theorem vA (b : Bk) (r : Bool) (h : rN b r) (M : List S78) (hM : M = b.attrs.map vc) (As Af Aa : Option Addr) (cs cf ca : Nat) (w : World)
  (h1 : Kd.C (Kd.int .i64) w As b.slots.length b.slots ∧ b.slots.length ≤ cs) (h2 : Kd.C (Kd.int .i64) w Af b.free.length b.free ∧ b.free.length ≤ cf) (h3 : Kd.C lP w Aa M.length M ∧ M.length ≤ ca) :
  Calls Tryz.prog 68 #[.agg #[.int .u32 b.addr, .string b.aff, .slice As b.slots.length cs, .slice Af b.free.length cf, .slice Aa M.length ca]] w fun e w' => e = .returned (.bool r) ∧ Below w.heap.size w w' := by
 obtain ⟨k, hk⟩ := h
 subst hM
 exact al.calls k _ _ As cs _ Af cf _ Aa ca _ r w h1.1 h1.2 h2.1 h2.2 h3.1 h3.2 hk
theorem KW (b : Bk) (hk : BkOk b) (hp : RightP b) (hsl : b.slots.length = 64) (t : ByteArray) (ht : strOfNums (lv b) = t) (M : List S78) (hM : M = b.attrs.map vc) (As Af Aa : Option Addr) (cs cf ca : Nat) (w : World)
  (h1 : Kd.C (Kd.int .i64) w As b.slots.length b.slots ∧ b.slots.length ≤ cs) (h2 : Kd.C (Kd.int .i64) w Af b.free.length b.free ∧ b.free.length ≤ cf) (h3 : Kd.C lP w Aa M.length M ∧ M.length ≤ ca) :
  Calls Tryz.prog 69 #[.agg #[.int .u32 b.addr, .string b.aff, .slice As b.slots.length cs, .slice Af b.free.length cf, .slice Aa M.length ca]] w fun e w' => e = .returned (.string t) ∧ Below w.heap.size w w' := by
 subst hM
 rw [← ht]
 exact FH b hk hp hsl As Af Aa cs cf ca w h1.1 h2.1 h3.1
end Go.Proofs.YtndddnglapkplaaGreatDoor.V
end

section
namespace Go.Proofs.YtndddnglapkplaaGreatDoor.V
theorem oM (l : List Int) (i : Nat) (h : i < l.length) : rd l (i : Int) = l[i] := by simp [rd, List.getD, h]
theorem tK (l : List Int) (hl : l.length ≤ 1000) (x : Int) (k : Nat) (hk : l.length < k) : br.f k l x = some ((l.count x : Nat) : Int) := by
 have key : ∀ (d k i c : Nat), i + d = l.length → d < k → c ≤ i → br.l0 k x (c : Int) l (l.length : Int) (i : Int) = some ((c + (l.drop i).count x : Nat) : Int) := by
  intro d
  induction d with
  | zero =>
   intro k i c hi hk hc
   obtain ⟨k, rfl⟩ : ∃ m, k = m + 1 := ⟨k - 1, by omega⟩
   rw [br.l0, if_neg (by omega), List.drop_of_length_le (by omega)]
   simp
  | succ d ih =>
   intro k i c hi hk hc
   obtain ⟨k, rfl⟩ : ∃ m, k = m + 1 := ⟨k - 1, by omega⟩
   have hil : i < l.length := by omega
   rw [br.l0, if_pos (by omega), if_pos (by omega), if_pos (by omega), oM l i hil, bM ((i : Int) + 1) (by omega) (by omega), bM ((c : Int) + 1) (by omega) (by omega), List.drop_eq_getElem_cons hil, List.count_cons]
   by_cases h : l[i] = x
   ·rw [if_pos h, show (c : Int) + 1 = ((c + 1 : Nat) : Int) by omega, show (i : Int) + 1 = ((i + 1 : Nat) : Int) by omega, ih k (i + 1) (c + 1) (by omega) (by omega) (by omega)]
    simp [h]
    omega
   ·rw [if_neg h, show (i : Int) + 1 = ((i + 1 : Nat) : Int) by omega, ih k (i + 1) c (by omega) (by omega) (by omega)]
    simp [h]
 unfold br.f
 rw [show (0 : Int) = ((0 : Nat) : Int) from rfl, key l.length k 0 0 (by omega) hk (by omega)]
 simp
theorem Jq (a : At) (h : gE a = true) (k : Nat) (hk : 65 ≤ k) : eJ.f k a.f0 a.f1 = some true := by
 unfold gE at h
 rw [Bool.and_eq_true] at h
 have h0 := eT h.1
 have h1 := eT h.2
 unfold eJ.f
 rw [tu a.f0 (by omega) k (by omega), Option.bind_some, if_pos h.1, tu a.f1 (by omega) k (by omega), Option.bind_some, h.2]
theorem Ek (s : ByteArray) (h : ko s = true) (k : Nat) (hk : 65 ≤ k) : dt.f k s = some true := by
 unfold dt.f
 by_cases h0 : s.toList = []
 ·rw [if_pos h0]
 ·unfold ko at h
  simp only [h0, decide_false, Bool.false_or] at h
  have h1 := eT h
  rw [if_neg h0, tu s (by omega) k (by omega), Option.bind_some, h]
section
variable (addr : Int) (aff : ByteArray) (sl fr : List Int) (M : List S78)
theorem FM (hf : ∀ x ∈ fr, 0 ≤ x ∧ x ≤ 63) (hl : fr.length ≤ 1000) : ∀ (d k i : Nat), i + d = fr.length → d < k → al.l3 k fr (fr.length : Int) (i : Int) = some true := by
 intro d
 induction d with
 | zero =>
  intro k i hi hk
  obtain ⟨k, rfl⟩ : ∃ m, k = m + 1 := ⟨k - 1, by omega⟩
  rw [al.l3, if_neg (by omega)]
 | succ d ih =>
  intro k i hi hk
  obtain ⟨k, rfl⟩ : ∃ m, k = m + 1 := ⟨k - 1, by omega⟩
  have hil : i < fr.length := by omega
  have hx := hf _ (List.getElem_mem hil)
  rw [al.l3, if_pos (by omega), if_pos (by omega), if_pos (by omega), oM fr i hil, if_neg (by omega), if_neg (by omega), bM ((i : Int) + 1) (by omega) (by omega), show (i : Int) + 1 = ((i + 1 : Nat) : Int) by omega]
  exact ih k (i + 1) (by omega) (by omega)
theorem FN (hf : ∀ x ∈ fr, 0 ≤ x ∧ x ≤ 63) (hl : fr.length ≤ 1000) (hsl : sl.length ≤ 1000) (hs : ∀ x ∈ sl, 0 ≤ x ∧ x ≤ (M.length : Int))
  (hc : ∀ (i : Nat) (h : i < sl.length), fr.count (i : Int) = if sl[i] = 0 then 1 else 0) : ∀ (d k i : Nat), i + d = sl.length → 2 * d + fr.length + 10 < k → al.l2 k sl (sl.length : Int) (i : Int) addr aff sl fr M = some true := by
 intro d
 induction d with
 | zero =>
  intro k i hi hk
  obtain ⟨k, rfl⟩ : ∃ m, k = m + 1 := ⟨k - 1, by omega⟩
  rw [al.l2, if_neg (by omega)]
  exact FM fr hf hl fr.length k 0 (by omega) (by omega)
 | succ d ih =>
  intro k i hi hk
  obtain ⟨k, rfl⟩ : ∃ m, k = m + 2 := ⟨k - 2, by omega⟩
  have hil : i < sl.length := by omega
  have hx := hs _ (List.getElem_mem hil)
  have hci := hc i hil
  rw [al.l2, if_pos (by omega), if_pos (by omega), if_pos (by omega), oM sl i hil, if_neg (by omega), al.j5, if_neg (by rw [decide_eq_true_eq]; omega), tK fr hl _ k (by omega), bM ((i : Int) + 1) (by omega) (by omega), show (i : Int) + 1 = ((i + 1 : Nat) : Int) by omega, hci]
  have e := ih k (i + 1) (by omega) (by omega)
  by_cases h0 : sl[i] = 0
  ·rw [if_pos h0, if_pos h0, Option.bind_some, if_pos (by rfl)]
   exact e
  ·rw [if_neg h0, if_neg h0, Option.bind_some, if_pos (by rfl)]
   exact e
theorem FO (i : Nat) (hi : i ≤ M.length) (hM : M.length ≤ 64) (f0 f1 : ByteArray) (hn : ∀ a ∈ M.take i, (a.f0.toList == f0.toList && a.f1.toList == f1.toList) = false) : ∀ (d k q : Nat), q + d = i →
  al.l1 (k + d + 1) M (M.length : Int) (i : Int) (M.take i) ((M.take i).length : Int) (q : Int) addr aff sl fr M f0 f1 = al.l0 k M (M.length : Int) ((i + 1 : Nat) : Int) addr aff sl fr M := by
 have hlen : (M.take i).length = i := by rw [List.length_take]; omega
 intro d
 induction d with
 | zero =>
  intro k q hq
  rw [al.l1, if_neg (by omega), bM ((i : Int) + 1) (by omega) (by omega), show (i : Int) + 1 = ((i + 1 : Nat) : Int) by omega]
 | succ d ih =>
  intro k q hq
  have hqi : q < (M.take i).length := by omega
  have hx := hn _ (List.getElem_mem hqi)
  have e : bc (M.take i) (q : Int) = (M.take i)[q] := by
   unfold bc
   rw [Int.toNat_natCast, List.getD, List.getElem?_eq_getElem hqi]
   rfl
  rw [show k + (d + 1) + 1 = (k + d + 1) + 1 by omega, al.l1, if_pos (by omega), if_pos (by omega), if_pos (by omega), e, hx, if_neg (by decide), bM ((q : Int) + 1) (by omega) (by omega), show (q : Int) + 1 = ((q + 1 : Nat) : Int) by omega]
  exact ih k (q + 1) (by omega)
theorem FP (hf : ∀ x ∈ fr, 0 ≤ x ∧ x ≤ 63) (hl : fr.length ≤ 100) (hsl : sl.length ≤ 100) (hs : ∀ x ∈ sl, 0 ≤ x ∧ x ≤ (M.length : Int))
  (hc : ∀ (i : Nat) (h : i < sl.length), fr.count (i : Int) = if sl[i] = 0 then 1 else 0) (hM : M.length ≤ 64)
  (hm : ∀ (i : Nat) (h : i < M.length), gE ⟨M[i].f0, M[i].f1⟩ = true) (hu : ∀ i, i < M.length → sl.count ((i + 1 : Nat) : Int) ≠ 0)
  (hn : ∀ (i : Nat) (h : i < M.length), ∀ a ∈ M.take i, (a.f0.toList == M[i].f0.toList && a.f1.toList == M[i].f1.toList) = false) : ∀ (d k i : Nat), i + d = M.length → 70 * d + 500 < k → al.l0 k M (M.length : Int) (i : Int) addr aff sl fr M = some true := by
 intro d
 induction d with
 | zero =>
  intro k i hi hk
  obtain ⟨k, rfl⟩ : ∃ m, k = m + 1 := ⟨k - 1, by omega⟩
  rw [al.l0, if_neg (by omega)]
  exact FN addr aff sl fr M hf (by omega) (by omega) hs hc sl.length k 0 (by omega) (by omega)
 | succ d ih =>
  intro k i hi hk
  have hil : i < M.length := by omega
  obtain ⟨k, rfl⟩ : ∃ m, k = (m + i + 1) + 2 := ⟨k - i - 3, by omega⟩
  have e : bc M (i : Int) = M[i] := by simp [bc, List.getD, hil]
  have hmay := Jq ⟨M[i].f0, M[i].f1⟩ (hm i hil) (k + i + 1 + 1) (by omega)
  have hcz : (((sl.count ((i + 1 : Nat) : Int) : Nat) : Int) == 0) = false := by
   rw [beq_eq_false_iff_ne]
   have := hu i hil
   omega
  rw [al.l0, if_pos (by omega), if_pos (by omega), if_pos (by omega), e, hmay, Option.bind_some, if_pos rfl, bM ((i : Int) + 1) (by omega) (by omega), show (i : Int) + 1 = ((i + 1 : Nat) : Int) by omega, tK sl (by omega) _ _ (by omega), Option.bind_some, hcz, al.j2, if_neg (by decide), if_pos (by omega), if_pos (by omega), Option.bind_some, Int.toNat_natCast]
  have e1 := FO addr aff sl fr M i (by omega) hM M[i].f0 M[i].f1 (hn i hil) i k 0 (by omega)
  rw [show ((0 : Nat) : Int) = 0 from rfl] at e1
  rw [e1]
  exact ih k (i + 1) (by omega) (by omega)
end
theorem ss {l : List Int} {x : Int} (h : x ∈ l) : l.count x ≠ 0 := by
 have := List.count_pos_iff.2 h
 omega
theorem Eg {b : Bk} (hk : BkOk b) (hp : RightP b) (hl : b.slots.length = 64) : rN b true := by
 have hfl := hp.free_len hl
 have hal := hp.na
 have hfree : ∀ (j : Nat) (h : j < b.free.length), (0 ≤ b.free[j] ∧ b.free[j] < 64) ∧ b.free[j] ∉ b.free.take j ∧ b.slots.getD (b.free[j]).toNat 0 = 0 := by
  intro j h
  have hb := hp.fr j h
  unfold jJ at hb
  rw [oM b.free j h] at hb
  simp only [Bool.or_eq_false_iff, decide_eq_false_iff_not, bne_eq_false_iff_eq] at hb
  have := hk.f8 _ (List.getElem_mem h)
  exact ⟨⟨by omega, by omega⟩, hb.2.1, hb.2.2⟩
 have hnd : b.free.Nodup := by
  rw [List.Nodup, List.pairwise_iff_getElem]
  intro i j hi hj hij e
  exact (hfree j hj).2.1 (by rw [← e, List.mem_take_iff_getElem]; exact ⟨i, by omega, rfl⟩)
 have Qz : ∀ x ∈ b.free, 0 ≤ x ∧ x ≤ 63 := by
  intro x hx
  obtain ⟨j, hj, rfl⟩ := List.getElem_of_mem hx
  have := (hfree j hj).1
  omega
 have hcount : ∀ (i : Nat) (h : i < b.slots.length), b.free.count (i : Int) = if b.slots[i] = 0 then 1 else 0 := by
  intro i h
  have LX : b.free.count (i : Int) ≤ 1 := List.nodup_iff_count.1 hnd _
  by_cases h0 : b.slots[i] = 0
  ·rw [if_pos h0]
   by_cases hm : (i : Int) ∈ b.free
   ·have := ss hm
    omega
   ·exfalso
    have hz : (((List.range b.slots.length).filter (fun j => b.slots.getD j 0 == 0)).map (fun j : Nat => (j : Int))).length = b.free.length := by
     rw [List.length_map, ← hp.zc, ← List.countP_eq_length_filter]
     have e : b.slots = (List.range b.slots.length).map (fun j => b.slots.getD j 0) := by
      apply List.ext_getElem
      ·simp
      ·intro q h1 h2
       simp [List.getD, h1]
     conv => rhs; rw [e]
     rw [List.countP_map]
     rfl
    have h2 : ((i : Int) :: b.free).length ≤ (((List.range b.slots.length).filter (fun j => b.slots.getD j 0 == 0)).map (fun j : Nat => (j : Int))).length := by
     refine ni _ _ (List.nodup_cons.2 ⟨hm, hnd⟩) (fun x hx => ?_)
     rcases List.mem_cons.1 hx with rfl | hx
     ·exact List.mem_map.2 ⟨i, List.mem_filter.2 ⟨List.mem_range.2 h, by simp [List.getD, h, h0]⟩, rfl⟩
     ·obtain ⟨j, hj, rfl⟩ := List.getElem_of_mem hx
      have hq := hfree j hj
      exact List.mem_map.2 ⟨(b.free[j]).toNat, List.mem_filter.2 ⟨List.mem_range.2 (by omega), by rw [hq.2.2]; rfl⟩, by omega⟩
    rw [hz, List.length_cons] at h2
    omega
  ·rw [if_neg h0]
   refine List.count_eq_zero.2 (fun hm => h0 ?_)
   obtain ⟨j, hj, e⟩ := List.getElem_of_mem hm
   have hq := (hfree j hj).2.2
   rw [e, Int.toNat_natCast] at hq
   simpa [List.getD, h] using hq
 have hused : ∀ i, i < b.attrs.length → b.slots.count ((i + 1 : Nat) : Int) ≠ 0 := by
  intro i hi
  by_cases hm : ((i + 1 : Nat) : Int) ∈ b.slots
  ·exact ss hm
  ·exfalso
   have h2 : ((i : Int) :: gG (ix b.slots)).length ≤ ((List.range b.attrs.length).map (fun j : Nat => (j : Int))).length := by
    refine ni _ _ (List.nodup_cons.2 ⟨fun hx => hm ?_, ub _ 64⟩) (fun x hx => ?_)
    ·obtain ⟨q, hq, pH, ht⟩ := nV _ _ _ hx
     unfold ix at ht
     rw [lO _ q pH, decide_eq_true_eq, List.mem_map] at ht
     obtain ⟨s, hs, he⟩ := ht
     have : s = ((i + 1 : Nat) : Int) := by omega
     exact this ▸ hs
    ·rcases List.mem_cons.1 hx with rfl | hx
     ·exact List.mem_map.2 ⟨i, List.mem_range.2 hi, rfl⟩
     ·obtain ⟨q, rfl, pH, ht⟩ := nV _ _ _ hx
      unfold ix at ht
      rw [lO _ q pH, decide_eq_true_eq, List.mem_map] at ht
      obtain ⟨s, hs, he⟩ := ht
      have := hp.sa s hs
      exact List.mem_map.2 ⟨q, List.mem_range.2 (by omega), rfl⟩
   rw [List.length_cons, hp.used, List.length_map, List.length_range] at h2
   omega
 have hML : (b.attrs.map vc).length = b.attrs.length := List.length_map ..
 have hat : ∀ (i : Nat) (h : i < b.attrs.length), ll b.attrs i = b.attrs[i] := by
  intro i h
  simp [ll, lN, List.getD, h]
 refine ⟨6000, ?_⟩
 have h0 := hp.first
 unfold nK at h0
 have hmod : Int.tmod b.addr 64 = 0 := by
  rw [Int.tmod_eq_emod_of_nonneg hk.a0]
  omega
 unfold al.f
 rw [if_pos hmod, Ek b.aff hp.owner 6000 (by omega), Option.bind_some, if_pos rfl, if_neg (by rw [hML]; omega), hl, show (((64 : Nat) : Int) != 64) = false from rfl, al.j0, if_neg (by decide)]
 refine FP b.addr b.aff b.slots b.free (b.attrs.map vc) Qz (by omega) (by omega) (fun x hx => ⟨(hk.s8 x hx).1, by rw [hML]; exact hp.sa x hx⟩) hcount (by omega) ?_ ?_ ?_ b.attrs.length 5999 0 (by omega) (by omega)
 ·intro i h
  have h' : i < b.attrs.length := by omega
  have := hp.may i h'
  rw [hat i h'] at this
  simpa [vc] using this
 ·intro i h
  exact hused i (by omega)
 ·intro i h a ha
  have h' : i < b.attrs.length := by omega
  have h3 := hp.nd i h'
  rw [hat i h', List.any_eq_false] at h3
  rw [← List.map_take] at ha
  obtain ⟨c, hc, rfl⟩ := List.mem_map.1 ha
  have h4 := h3 c hc
  rw [Bool.eq_false_iff]
  intro he
  apply h4
  unfold sameAt
  simp only [List.getElem_map, vc, Bool.and_eq_true, beq_iff_eq] at he ⊢
  exact ⟨he.1.symm, he.2.symm⟩
end Go.Proofs.YtndddnglapkplaaGreatDoor.V
end

section
namespace Go.Proofs.YtndddnglapkplaaGreatDoor.V
theorem uk {l : List Int} (h : dK l) : bytesOf (strOfNums l) = l := by
 unfold bytesOf
 rw [strOfNums_data, List.map_map]
 conv => rhs; rw [← List.map_id l]
 apply List.map_congr_left
 intro x hx
 have := h x hx
 simp only [Function.comp, id]
 rw [show (UInt8.ofNat x.toNat).toNat = x.toNat % 256 from rfl]
 omega
theorem AR (s : ByteArray) : strOfNums (bytesOf s) = s := by
 apply ByteArray.ext
 apply Array.ext'
 rw [strOfNums_data]
 unfold bytesOf
 rw [List.map_map]
 conv => rhs; rw [← List.map_id s.data.toList]
 apply List.map_congr_left
 intro b _
 simp
theorem DV {l : List Int} (h : dK l) : fZ (strOfNums l) = (l.length : Int) :: l := by
 unfold fZ
 rw [strOfNums_size, uk h]
theorem fI {l : List Int} {bad : Bool} {n : Int} (h : (aT l bad n).2.2 = false) : bad = false ∧ (((aT l bad n).1.length : Int) = n ∧ l = (aT l bad n).1 ++ (aT l bad n).2.1) := by
 unfold aT at h ⊢
 split
 ·rename_i hc
  obtain ⟨h1, h2, h3⟩ := hc
  refine ⟨h1, ?_, (List.take_append_drop _ _).symm⟩
  show ((l.take n.toNat).length : Int) = n
  rw [List.length_take]
  omega
 ·rename_i hc
  rw [if_neg hc] at h
  cases h
theorem tB {l : List Int} (h : dK l) (hl : (l.length : Int) = 1) : l = [((bj l : Nat) : Int)] := by
 match l, hl with
 | [x], _ =>
  have := h x (by simp)
  have e : ((x.toNat : Nat) : Int) = x := by omega
  simp [bj, e]
 | [], hl => simp at hl
 | _ :: _ :: _, hl => simp at hl; omega
theorem Kt {l : List Int} (h : dK l) (hl : (l.length : Int) = 4) : s5 (bj l) = l := by
 match l, hl with
 | [a, b, c, d], _ =>
  have ha := h a (by simp)
  have hb := h b (by simp)
  have hc := h c (by simp)
  have hd := h d (by simp)
  obtain ⟨a, rfl⟩ : ∃ n : Nat, a = n := ⟨a.toNat, by omega⟩
  obtain ⟨b, rfl⟩ : ∃ n : Nat, b = n := ⟨b.toNat, by omega⟩
  obtain ⟨c, rfl⟩ : ∃ n : Nat, c = n := ⟨c.toNat, by omega⟩
  obtain ⟨d, rfl⟩ : ∃ n : Nat, d = n := ⟨d.toNat, by omega⟩
  have e : bj [(a : Int), b, c, d] = ((a * 256 + b) * 256 + c) * 256 + d := by simp [bj]
  rw [e]
  unfold s5
  congr 1
  ·omega
  ·congr 1
   ·omega
   ·congr 1
    ·omega
    ·congr 1
     omega
 | [], hl => simp at hl
 | [_], hl => simp at hl
 | [_, _], hl => simp at hl
 | [_, _, _], hl => simp at hl
 | _ :: _ :: _ :: _ :: _ :: _, hl => simp at hl; omega
theorem rm {l : List Int} (hu : dK l) {bad : Bool} (h : (cH l bad).2.2 = false) : bad = false ∧ l = fZ (strOfNums (cH l bad).1) ++ (cH l bad).2.1 := by
 have Il := (cO hu bad 1).1
 have Lt := (cO hu bad 1).2
 have UJ : dK (cH l bad).1 := (cO Lt _ _).1
 rw [DV UJ]
 have h1 := fI (show (aT (aT l bad 1).2.1 ((aT l bad 1).2.2 || decide (64 < bj (aT l bad 1).1)) (bj (aT l bad 1).1 : Nat)).2.2 = false from h)
 obtain ⟨h2, h3, h4⟩ := h1
 rw [Bool.or_eq_false_iff] at h2
 obtain ⟨h5, h6, h7⟩ := fI h2.1
 have e := tB Il h6
 refine ⟨h5, ?_⟩
 have Vt : ((cH l bad).1.length : Int) = ((bj (aT l bad 1).1 : Nat) : Int) := h3
 have Vr : (aT l bad 1).2.1 = (cH l bad).1 ++ (cH l bad).2.1 := h4
 rw [Vt, List.cons_append, ← Vr]
 conv => lhs; rw [h7]
 conv => lhs; lhs; rw [e]
 rfl
theorem uo : ∀ (n : Nat) (l : List Int) (bad : Bool), dK l → (ej n l bad).2.2 = false → bad = false ∧ ((ej n l bad).1.length = n ∧ l = (ej n l bad).1.flatMap qi ++ (ej n l bad).2.1)
 | 0, l, bad, hu, h => ⟨h, rfl, by simp [ej]⟩
 | n + 1, l, bad, hu, h => by
  unfold ej at h ⊢
  cases bad with
  | true => simp at h
  | false =>
   simp only [Bool.false_eq_true, if_false] at h ⊢
   have Il := j3 hu false
   have Lt : dK (fF l).2.1 := j3 Il _
   obtain ⟨h1, h2, h3⟩ := uo n _ _ Lt h
   obtain ⟨h4, h5⟩ := rm Il (show (cH (cH l false).2.1 (cH l false).2.2).2.2 = false from h1)
   obtain ⟨h6, h7⟩ := rm hu h4
   refine ⟨trivial, by rw [List.length_cons, h2], ?_⟩
   rw [List.flatMap_cons, List.append_assoc, ← h3]
   have e : qi (pU l) = fZ (strOfNums (cH l false).1) ++ fZ (strOfNums (fF l).1) := rfl
   rw [e, List.append_assoc]
   have Vq : (cH l false).2.1 = fZ (strOfNums (fF l).1) ++ (fF l).2.1 := h5
   rw [← Vq]
   exact h7
theorem FU (s : ByteArray) (h : cy s = true) : lv (cQ s) = bytesOf s := by
 unfold cy ie at h
 simp only [Bool.and_eq_true, Bool.not_eq_true', decide_eq_true_eq, beq_iff_eq] at h
 obtain ⟨⟨Vo, X1⟩, h0, _⟩ := h
 have Vn : (r6 s).2.1 = [] := List.eq_nil_of_length_eq_zero (by omega)
 obtain ⟨b5, n6, e6⟩ := fI (show (aT (r5 s).2.1 (r5 s).2.2 (bj (r5 s).1 : Nat)).2.2 = false from Vo)
 obtain ⟨b4, n5, e5⟩ := fI (show (aT (r4 s).2.1 (r4 s).2.2 1).2.2 = false from b5)
 obtain ⟨b3, n4, e4⟩ := fI (show (aT (r3 s).2.1 (r3 s).2.2 64).2.2 = false from b4)
 have u3 := (cO (rk s) (r2 s).2.2 1).2
 obtain ⟨Mt, n3, e3⟩ := uo _ _ _ u3 (show (ej (bj (aT (r2 s).2.1 (r2 s).2.2 1).1) (aT (r2 s).2.1 (r2 s).2.2 1).2.1 (aT (r2 s).2.1 (r2 s).2.2 1).2.2).2.2 = false from b3)
 obtain ⟨b2, UB, Vy⟩ := fI Mt
 obtain ⟨b1, e2⟩ := rm (rl s) (show (cH (r1 s).2.1 (r1 s).2.2).2.2 = false from b2)
 obtain ⟨b0, n1, e1⟩ := fI (show (aT (r0 s).2.1 (r0 s).2.2 4).2.2 = false from b1)
 obtain ⟨_, n0, e0⟩ := fI (show (aT (bytesOf s) false 1).2.2 = false from b0)
 have E0 : bytesOf s = (r0 s).1 ++ (r0 s).2.1 := e0
 have E1 : (r0 s).2.1 = (r1 s).1 ++ (r1 s).2.1 := e1
 have E2 : (r1 s).2.1 = fZ (strOfNums (r2 s).1) ++ (r2 s).2.1 := e2
 have VX : (r2 s).2.1 = (aT (r2 s).2.1 (r2 s).2.2 1).1 ++ (aT (r2 s).2.1 (r2 s).2.2 1).2.1 := Vy
 have E3 : (aT (r2 s).2.1 (r2 s).2.2 1).2.1 = (r3 s).1.flatMap qi ++ (r3 s).2.1 := e3
 have E4 : (r3 s).2.1 = (r4 s).1 ++ (r4 s).2.1 := e4
 have E5 : (r4 s).2.1 = (r5 s).1 ++ (r5 s).2.1 := e5
 have E6 : (r5 s).2.1 = (r6 s).1 := by
  have : (r5 s).2.1 = (r6 s).1 ++ (r6 s).2.1 := e6
  rw [this, Vn, List.append_nil]
 have F0 : (r0 s).1 = [66] := by
  have := tB (cO (lx s) false 1).1 n0
  have Vu : bj (aT (bytesOf s) false 1).1 = 66 := h0
  rw [Vu] at this
  exact this
 have F1 : s5 (bj (r1 s).1) = (r1 s).1 := Kt (cO (py s) _ 4).1 n1
 have F3 : (aT (r2 s).2.1 (r2 s).2.2 1).1 = [((r3 s).1.length : Int)] := by
  have e := tB (cO (rk s) (r2 s).2.2 1).1 UB
  have e2 : (r3 s).1.length = bj (aT (r2 s).2.1 (r2 s).2.2 1).1 := n3
  rw [e2]
  exact e
 have F5 : (r5 s).1 = [((r6 s).1.length : Int)] := by
  have e := tB (cO (u6 s) (r4 s).2.2 1).1 n5
  have e2 : ((r6 s).1.length : Int) = ((bj (r5 s).1 : Nat) : Int) := n6
  rw [e2]
  exact e
 have F4 : j8 (List.replicate 64 0) (r4 s).1 = (r4 s).1 := by
  have e : ((r4 s).1.length : Int) = 64 := n4
  unfold j8
  rw [List.drop_of_length_le (by simp; omega), List.append_nil]
 have I : lv (cQ s) = (66 :: (s5 (bj (r1 s).1) ++ fZ (strOfNums (r2 s).1) ++ [((r3 s).1.length : Int)] ++ ((r3 s).1.take (r3 s).1.length).flatMap qi)) ++ j8 (List.replicate 64 0) (r4 s).1 ++ [((r6 s).1.length : Int)] ++ (r6 s).1 := rfl
 rw [I, List.take_of_length_le (Nat.le_refl _), F1, F4, E0, F0, E1, E2, VX, F3, E3, E4, E5, F5, E6]
 simp
end Go.Proofs.YtndddnglapkplaaGreatDoor.V
end

section
namespace Go.Proofs.YtndddnglapkplaaGreatDoor.V
attribute [local go_sem] bI bG bP bO bw bu bH bF
def iE.f (aH : Int) (aC : Int) (iS : Bool) : Option (Bool) := (db.f aH aC).bind fun qm => (if qm = true then (if aC ≥ 16 then (some (decide (aC ≤ 26))) else (some false)) else (some false))
set_option maxHeartbeats 8000000 in
set_option maxRecDepth 100000 in
theorem iE.calls (aH : Int) (aC : Int) (iS : Bool) (r : Bool) (w : World) (h : iE.f aH aC iS = some r) :
  Calls Tryz.prog 86 #[.agg #[.int .u32 aH, .int .i64 aC, .bool iS]] w fun e w' => e = .returned (.bool r) ∧ Below w.heap.size w w' := by
 have Xn := Tryz.underlying69
 have uH := Tryz.underlying67
 have HB := ak (Below.refl w.heap.size w)
 have H : ((db.f aH aC).bind fun qm => (if qm = true then (if aC ≥ 16 then (some (decide (aC ≤ 26))) else (some false)) else (some false))) = some r := h
 clear h
 replace H := Option.bind_eq_some_iff.mp H
 obtain ⟨qm, ek, H⟩ := H
 replace H : (if qm = true then (if aC ≥ 16 then (some (decide (aC ≤ 26))) else (some false)) else (some false)) = some r := H
 have A2 := ak ek
 clear ek
 by_cases c3 : qm = true
 ·subst c3
  have H1 : (if aC ≥ 16 then (some (decide (aC ≤ 26))) else (some false)) = some r := by rw [if_pos rfl] at H; exact H
  clear H
  have H := H1
  clear H1
  by_cases c4 : aC ≥ 16
  ·rw [if_pos c4] at H
   have fj : decide (16 ≤ aC) = true := decide_eq_true c4
   clear c4
   obtain rfl := Option.some.inj H
   go_enter Tryz.func86, Tryz.ntmps86
   go_wp2_with (first | ((with_reducible refine aA (N := 1) rfl ?_); refine bl ?hg (N := 1) ?hd (cs := #[.int .u32 aH, .int .i64 aC, .bool iS]) (t := 69) ?hr ?_; (case hd => rfl); (case hg => rfl); (case hr => first | (go_simp; done) | (go_simp; rfl)); intro dR hg w5 hbox hb; have av := ak (au (by repeat (first | (with_reducible first | exact HB.out | apply aa | apply J | apply ab) | exact HB.out)) hb); have az := ak (hbox); have aR := ak ((by rw [hg]; exact (ay (by repeat (first | (with_reducible first | exact HB.out | apply aa | apply J | apply ab) | exact HB.out))) : w.heap.size ≤ dR)); have bp := ak ((by rw [hg]; exact (ay (by repeat (first | (with_reducible first | exact HB.out | apply aa | apply J | apply ab) | exact HB.out))) : w.heap.size ≤ dR)); clear HB; have HB := av; have cG := az; have Cw := aR; have mE := bp; clear av az aR bp; clear hb hbox hg; have zw : w5.cell? ⟨dR, 0, none⟩ = some (.int .u32 aH) := (aj cG.out 0).trans rfl; have zv : w5.cell? ⟨dR, 1, none⟩ = some (.int .i64 aC) := (aj cG.out 1).trans rfl; have LK : w5.cell? ⟨dR, 2, none⟩ = some (.bool iS) := (aj cG.out 2).trans rfl; have zo := ah cG.out 0; have zn := ah cG.out 1; have LG := ah cG.out 2) | ((with_reducible refine aD (f := 75) rfl ?_); refine bg (some 5) rfl rfl Tryz.func75 (by kernel_rfl) rfl #[.agg #[.int .u32 aH, .int .i64 aC]] rfl (by (try simp only [List.map_toArray, List.map_cons, List.map_nil]); first | done | rfl | (simp only [List.length_drop, List.length_take]; rfl)) ?_; (with_reducible refine (db.calls aH aC true _ A2.out).mono ?_); rintro e w7 ⟨rfl, hb⟩; refine ⟨_, rfl, ?_⟩; have av := ak (aU (g := dR) (o := .cells #[.int .u32 aH, .int .i64 aC, .bool iS] 69 (0, 0)) (by (with_reducible repeat (first | refine ae ?_ _ | refine ag ?_ | refine af ?_ _)); exact cG.out) hb); have az := ak (au (by repeat (first | (with_reducible first | exact HB.out | apply aa | apply J | apply ab | refine ai ?_ mE.out) | exact HB.out)) hb); clear cG; clear HB; have cG := av; have HB := az; clear av az; (try clear hb); (try clear bC); (try clear hk); (try clear hi); have vT : w7.cell? ⟨dR, 0, none⟩ = some (.int .u32 aH) := (aj cG.out 0).trans rfl; have vS : w7.cell? ⟨dR, 1, none⟩ = some (.int .i64 aC) := (aj cG.out 1).trans rfl; have LJ : w7.cell? ⟨dR, 2, none⟩ = some (.bool iS) := (aj cG.out 2).trans rfl; have vR := ah cG.out 0; have vQ := ah cG.out 1; have LF := ah cG.out 2))
   go_ret
   exact ⟨by first | rfl | (simp [aq, ao] <;> rfl) | (simp [*, aq, ao] <;> rfl), by repeat (first | (with_reducible first | exact HB.out | apply aa | apply J | apply ab | refine ai ?_ mE.out) | exact HB.out)⟩
  ·rw [if_neg c4] at H
   have fj : decide (16 ≤ aC) = false := decide_eq_false c4
   clear c4
   obtain rfl := Option.some.inj H
   go_enter Tryz.func86, Tryz.ntmps86
   go_wp2_with (first | ((with_reducible refine aA (N := 1) rfl ?_); refine bl ?hg (N := 1) ?hd (cs := #[.int .u32 aH, .int .i64 aC, .bool iS]) (t := 69) ?hr ?_; (case hd => rfl); (case hg => rfl); (case hr => first | (go_simp; done) | (go_simp; rfl)); intro dR hg w9 hbox hb; have av := ak (au (by repeat (first | (with_reducible first | exact HB.out | apply aa | apply J | apply ab) | exact HB.out)) hb); have az := ak (hbox); have aR := ak ((by rw [hg]; exact (ay (by repeat (first | (with_reducible first | exact HB.out | apply aa | apply J | apply ab) | exact HB.out))) : w.heap.size ≤ dR)); have bp := ak ((by rw [hg]; exact (ay (by repeat (first | (with_reducible first | exact HB.out | apply aa | apply J | apply ab) | exact HB.out))) : w.heap.size ≤ dR)); clear HB; have HB := av; have cG := az; have Cw := aR; have mE := bp; clear av az aR bp; clear hb hbox hg; have wS : w9.cell? ⟨dR, 0, none⟩ = some (.int .u32 aH) := (aj cG.out 0).trans rfl; have wR : w9.cell? ⟨dR, 1, none⟩ = some (.int .i64 aC) := (aj cG.out 1).trans rfl; have Kh : w9.cell? ⟨dR, 2, none⟩ = some (.bool iS) := (aj cG.out 2).trans rfl; have wO := ah cG.out 0; have wN := ah cG.out 1; have JU := ah cG.out 2) | ((with_reducible refine aD (f := 75) rfl ?_); refine bg (some 5) rfl rfl Tryz.func75 (by kernel_rfl) rfl #[.agg #[.int .u32 aH, .int .i64 aC]] rfl (by (try simp only [List.map_toArray, List.map_cons, List.map_nil]); first | done | rfl | (simp only [List.length_drop, List.length_take]; rfl)) ?_; (with_reducible refine (db.calls aH aC true _ A2.out).mono ?_); rintro e rQ ⟨rfl, hb⟩; refine ⟨_, rfl, ?_⟩; have av := ak (aU (g := dR) (o := .cells #[.int .u32 aH, .int .i64 aC, .bool iS] 69 (0, 0)) (by (with_reducible repeat (first | refine ae ?_ _ | refine ag ?_ | refine af ?_ _)); exact cG.out) hb); have az := ak (au (by repeat (first | (with_reducible first | exact HB.out | apply aa | apply J | apply ab | refine ai ?_ mE.out) | exact HB.out)) hb); clear cG; clear HB; have cG := av; have HB := az; clear av az; (try clear hb); (try clear bC); (try clear hk); (try clear hi); have wQ : rQ.cell? ⟨dR, 0, none⟩ = some (.int .u32 aH) := (aj cG.out 0).trans rfl; have wP : rQ.cell? ⟨dR, 1, none⟩ = some (.int .i64 aC) := (aj cG.out 1).trans rfl; have TS : rQ.cell? ⟨dR, 2, none⟩ = some (.bool iS) := (aj cG.out 2).trans rfl; have wM := ah cG.out 0; have wL := ah cG.out 1; have Sq := ah cG.out 2))
   go_ret
   exact ⟨by first | rfl | (simp [aq, ao] <;> rfl) | (simp [*, aq, ao] <;> rfl), by repeat (first | (with_reducible first | exact HB.out | apply aa | apply J | apply ab | refine ai ?_ mE.out) | exact HB.out)⟩
 ·replace c3 := Bool.eq_false_iff.mpr c3
  subst c3
  have H1 : (some false) = some r := by rw [if_neg (show ¬ (false = true) by decide)] at H; exact H
  clear H
  have H := H1
  clear H1
  obtain rfl := Option.some.inj H
  go_enter Tryz.func86, Tryz.ntmps86
  go_wp2_with (first | ((with_reducible refine aA (N := 1) rfl ?_); refine bl ?hg (N := 1) ?hd (cs := #[.int .u32 aH, .int .i64 aC, .bool iS]) (t := 69) ?hr ?_; (case hd => rfl); (case hg => rfl); (case hr => first | (go_simp; done) | (go_simp; rfl)); intro dR hg oJ hbox hb; have av := ak (au (by repeat (first | (with_reducible first | exact HB.out | apply aa | apply J | apply ab) | exact HB.out)) hb); have az := ak (hbox); have aR := ak ((by rw [hg]; exact (ay (by repeat (first | (with_reducible first | exact HB.out | apply aa | apply J | apply ab) | exact HB.out))) : w.heap.size ≤ dR)); have bp := ak ((by rw [hg]; exact (ay (by repeat (first | (with_reducible first | exact HB.out | apply aa | apply J | apply ab) | exact HB.out))) : w.heap.size ≤ dR)); clear HB; have HB := av; have cG := az; have Cw := aR; have mE := bp; clear av az aR bp; clear hb hbox hg; have Ke : oJ.cell? ⟨dR, 0, none⟩ = some (.int .u32 aH) := (aj cG.out 0).trans rfl; have Kb : oJ.cell? ⟨dR, 1, none⟩ = some (.int .i64 aC) := (aj cG.out 1).trans rfl; have TO : oJ.cell? ⟨dR, 2, none⟩ = some (.bool iS) := (aj cG.out 2).trans rfl; have JR := ah cG.out 0; have JQ := ah cG.out 1; have Sm := ah cG.out 2) | ((with_reducible refine aD (f := 75) rfl ?_); refine bg (some 5) rfl rfl Tryz.func75 (by kernel_rfl) rfl #[.agg #[.int .u32 aH, .int .i64 aC]] rfl (by (try simp only [List.map_toArray, List.map_cons, List.map_nil]); first | done | rfl | (simp only [List.length_drop, List.length_take]; rfl)) ?_; (with_reducible refine (db.calls aH aC false _ A2.out).mono ?_); rintro e mI ⟨rfl, hb⟩; refine ⟨_, rfl, ?_⟩; have av := ak (aU (g := dR) (o := .cells #[.int .u32 aH, .int .i64 aC, .bool iS] 69 (0, 0)) (by (with_reducible repeat (first | refine ae ?_ _ | refine ag ?_ | refine af ?_ _)); exact cG.out) hb); have az := ak (au (by repeat (first | (with_reducible first | exact HB.out | apply aa | apply J | apply ab | refine ai ?_ mE.out) | exact HB.out)) hb); clear cG; clear HB; have cG := av; have HB := az; clear av az; (try clear hb); (try clear bC); (try clear hk); (try clear hi)))
  go_ret
  exact ⟨by first | rfl | (simp [aq, ao] <;> rfl) | (simp [*, aq, ao] <;> rfl), by repeat (first | (with_reducible first | exact HB.out | apply aa | apply J | apply ab | refine ai ?_ mE.out) | exact HB.out)⟩
end Go.Proofs.YtndddnglapkplaaGreatDoor.V
end

section
namespace Go.Proofs.YtndddnglapkplaaGreatDoor.V
def q2 (s : ByteArray) := aT (r1 s).2.1 (r1 s).2.2 1
def q3 (s : ByteArray) := aT (q2 s).2.1 (q2 s).2.2 1
def qA (a b : Nat) : Bool := kG a b && (decide (16 ≤ b) && decide (b ≤ 26))
def ru (s : ByteArray) : Bool := !(q3 s).2.2 && (((q3 s).2.1.length : Int) == 0)
def kT (s : ByteArray) : Bool := ru s && (decide (bj (r0 s).1 = 80) && (decide (bj (q3 s).1 ≤ 1) && qA (bj (r1 s).1) (bj (q2 s).1)))
theorem Hx (s : ByteArray) : dK (q2 s).2.1 := (cO (rl s) _ _).2
theorem F8 (s : ByteArray) : bj (q2 s).1 < 256 := mi (rl s) _
theorem F7 (s : ByteArray) : bj (q3 s).1 < 256 := mi (Hx s) _
theorem AX (a b : Nat) (ha : a < 4294967296) (o : Bool) : iE.f (a : Int) (b : Int) o = some (qA a b) := by
 unfold iE.f qA
 rw [Ib a ha, Option.bind_some]
 cases kG a b with
 | false => rfl
 | true =>
  rw [if_pos rfl, Bool.true_and]
  by_cases h : 16 ≤ b
  ·rw [if_pos (by omega), decide_eq_true h, Bool.true_and]
   congr 1
   rw [Bool.eq_iff_iff]
   simp
   omega
  ·rw [if_neg (by omega), decide_eq_false h]
   rfl
section
variable {g : Nat} {ok : Nat → Prop} {v : Value} {W : World}
theorem NK (s : ByteArray) (h : Rd W g ok v (r1 s).2.1 (r1 s).2.2) : Calls Tryz.prog 84 #[.pointer (some ⟨g, 0, none⟩), .int .i64 1] W fun e W' => ∃ v', e = .returned (.int .u64 (bj (q2 s).1 : Nat)) ∧ Rd W' g ok v' (q2 s).2.1 (q2 s).2.2 ∧ W.grownBy W' (some g) := qk (rl s) W h
theorem NJ (s : ByteArray) (h : Rd W g ok v (q2 s).2.1 (q2 s).2.2) : Calls Tryz.prog 84 #[.pointer (some ⟨g, 0, none⟩), .int .i64 1] W fun e W' => ∃ v', e = .returned (.int .u64 (bj (q3 s).1 : Nat)) ∧ Rd W' g ok v' (q3 s).2.1 (q3 s).2.2 ∧ W.grownBy W' (some g) := qk (Hx s) W h
theorem NI (s : ByteArray) (h : Rd W g ok v (q3 s).2.1 (q3 s).2.2) : Calls Tryz.prog 85 #[.pointer (some ⟨g, 0, none⟩)] W fun e W' => e = .returned (.bool (ru s)) ∧ Below W.heap.size W W' := uL W h
end
def pE : List Value := [.int .u32 0, .int .i64 0, .bool false]
theorem Cf (a b : Int) : Tryz.prog.built 67 [(0, .int .u32 a), (1, .int .i64 b)] = some [Value.int .u32 a, .int .i64 b].toArray := by kernel_rfl
theorem Ce (a b : Int) : Tryz.prog.built 69 [(0, .agg #[.int .u32 a, .int .i64 b])] = some [Value.int .u32 a, .int .i64 b, .bool false].toArray := by kernel_rfl
theorem z7 : ∀ a : Act, Tryz.prog.built 69 ((#[] : Array (Nat × Operand)).map fun (i, x) => (i, a.eval x)).toList = some pE.toArray := fun _ => by kernel_rfl
end Go.Proofs.YtndddnglapkplaaGreatDoor.V
end

section
namespace Go.Proofs.YtndddnglapkplaaGreatDoor.V
set_option maxHeartbeats 8000000 in
set_option maxRecDepth 100000 in
theorem sn (s : ByteArray) (hs : s.size ≤ 1000000) (w : World) :
  Calls Tryz.prog 53 #[.string s] w fun e w' => e = .returned (.tuple #[.agg #[.int .u32 (if kT s = true then (bj (r1 s).1 : Nat) else 0), .int .i64 (if kT s = true then (bj (q2 s).1 : Nat) else 0), .bool (kT s && decide (bj (q3 s).1 = 1))], .int .i64 (if kT s = true then 0 else 3)]) ∧ Below w.heap.size w w' := by
 have qH := tF s
 have mo := tE s
 have xO := F8 s
 have EO := F7 s
 have HN := ak (qc s hs)
 have H0 := ak (@CS · · · · s)
 have H1 := ak (@Hz · · · · s)
 have H2 := ak (@NK · · · · s)
 have H3 := ak (@NJ · · · · s)
 have HD := ak (@NI · · · · s)
 have HOK : Aside0 (kT s = (ru s && (decide (bj (r0 s).1 = 80) && (decide (bj (q3 s).1 ≤ 1) && qA (bj (r1 s).1) (bj (q2 s).1))))) := ⟨rfl⟩
 have HMY := ak (AX (bj (r1 s).1) (bj (q2 s).1) mo)
 generalize kT s = pok at HOK ⊢
 generalize ru s = bd at HD HOK
 generalize qA (bj (r1 s).1) (bj (q2 s).1) = bm at HOK HMY
 generalize bj (r0 s).1 = n0 at qH H0 HOK
 generalize bj (r1 s).1 = n1 at mo H1 HMY ⊢
 generalize bj (q2 s).1 = n2 at xO H2 HMY ⊢
 generalize bj (q3 s).1 = n3 at EO H3 HOK ⊢
 have kb := fun (w : World) => Lib.run_convert_string_bytes (P := Tryz.prog) w 9 61 5 s Tryz.underlying9 Tryz.underlying61 Tryz.underlying5
 obtain ⟨xS, Vl⟩ : ∃ xS, ((n0 : Int) != 80) = xS := ⟨_, rfl⟩
 obtain ⟨b1, h1⟩ : ∃ b1, decide ((n3 : Int) > 1) = b1 := ⟨_, rfl⟩
 obtain ⟨ob, hob⟩ : ∃ ob, ((n3 : Int) == 1) = ob := ⟨_, rfl⟩
 have HOB := ak (show decide (n3 = 1) = ob by rw [← hob, Bool.eq_iff_iff]; simp; omega)
 have uS := ak (show pok = (bd && (!xS && (!b1 && bm))) by
  rw [HOK.out, ← Vl, ← h1]
  congr 1
  congr 1
  ·rw [Bool.eq_iff_iff]; simp; omega
  ·congr 1
   rw [Bool.eq_iff_iff]; simp; omega)
 have X3 : decide ((1 : Int) < (n3 : Int)) = b1 := by rw [← h1]
 rw [HOB.out]
 clear HOK
 have hcs : (bd = true ∧ xS = false ∧ b1 = false ∧ bm = true) ∨ (pok = false ∧ (bd = false ∨ (bd = true ∧ xS = true) ∨ (bd = true ∧ xS = false ∧ b1 = true) ∨ (bd = true ∧ xS = false ∧ b1 = false ∧ bm = false))) := by
  rw [uS.out]
  cases bd <;> cases xS <;> cases b1 <;> cases bm <;> simp
 rcases hcs with ⟨rfl, rfl, rfl, rfl⟩ | ⟨rfl, hcs⟩
 ·obtain rfl : pok = true := by rw [uS.out]; rfl
  rw [if_pos rfl, if_pos rfl, if_pos rfl, Bool.true_and]
  go_enter Tryz.func53, Tryz.ntmps53
  go_wp2_with (first
   | (refine a6 (some 2) rfl rfl 69 rfl pE (fun _ => by kernel_rfl) ?_; intro g2 W1 dH fV aW; have HX := ak fV; have HB := ak aW; have fw := ak dH; clear fV aW dH)
   | (go_at_call 83; refine (HN.out _).mono ?_; rintro e W2 ⟨gr, v2, rfl, hJ, hgr, bC⟩; have HNE := ak (show g2 ≠ gr by have := HX.out.lt; omega); have HGR := ak (show w.heap.size ≤ gr by have := HB.out.size; omega); replace HX := ak (HX.out.below bC); replace HB := ak (HB.out.trans (bC.mono HB.out.size)); have xZ := ak hJ; have HSZ := ak (Nat.le_refl W2.heap.size); clear hJ hgr bC HN)
   | (go_at_call 84; refine (H0.out _ _ _ _ xZ.out).mono ?_; rintro e W3 ⟨v3, rfl, fB, dx⟩; have jZ := ak fB; clear xZ; replace HX := ak (HX.out.grown dx (fun e => HNE.out (Option.some.inj e))); replace HB := ak (HB.out.grown dx HB.out.size (by intro k hk; cases hk; exact HGR.out)); replace HSZ := ak (Nat.le_trans HSZ.out dx.size); clear fB dx)
   | (go_at_call 84; refine (H1.out _ _ _ _ jZ.out).mono ?_; rintro e W4 ⟨v4, rfl, fB, dx⟩; have jY := ak fB; clear jZ; replace HX := ak (HX.out.grown dx (fun e => HNE.out (Option.some.inj e))); replace HB := ak (HB.out.grown dx HB.out.size (by intro k hk; cases hk; exact HGR.out)); replace HSZ := ak (Nat.le_trans HSZ.out dx.size); clear fB dx)
   | (go_at_call 84; refine (H2.out _ _ _ _ jY.out).mono ?_; rintro e W5 ⟨v5, rfl, fB, dx⟩; have kM := ak fB; clear jY; replace HX := ak (HX.out.grown dx (fun e => HNE.out (Option.some.inj e))); replace HB := ak (HB.out.grown dx HB.out.size (by intro k hk; cases hk; exact HGR.out)); replace HSZ := ak (Nat.le_trans HSZ.out dx.size); clear fB dx)
   | ((with_reducible refine aA (N := 19) rfl ?_); refine eC rfl 67 #[(0, .tmp 15), (1, .tmp 18)] rfl [(0, .int .u32 (n1 : Int)), (1, .int .i64 (n2 : Int))] (by simp only [List.map_toArray, List.map_cons, List.map_nil]; rfl) [Value.int .u32 (n1 : Int), .int .i64 (n2 : Int)] (Cf _ _) ?_)
   | ((with_reducible refine aA (N := 20) rfl ?_); refine eC rfl 69 #[(0, .tmp 19)] rfl [(0, .agg #[.int .u32 (n1 : Int), .int .i64 (n2 : Int)])] (by simp only [List.map_toArray, List.map_cons, List.map_nil]; rfl) [Value.int .u32 (n1 : Int), .int .i64 (n2 : Int), .bool false] (Ce _ _) ?_)
   | (refine a6 (some 6) rfl rfl 69 rfl pE (fun _ => by kernel_rfl) ?_; intro g6 W6 jF jG dJ; have HY := ak jG; have nQ := ak (show w.heap.size ≤ g6 by have := HB.out.size; omega); have pg := ak (show g2 ≠ g6 by have := HX.out.lt; omega); have kH := ak (show gr ≠ g6 by have := kM.out.box.lt; omega); have Ay := ak (show ∀ k, ((W1.heap.size < k ∧ k ≠ gr) ∧ k < W2.heap.size) → some k ≠ some g6 from fun k hk e => by have := hk.2; have := HSZ.out; have := Option.some.inj e; omega); replace HX := ak (HX.out.below dJ); replace kM := ak (kM.out.below dJ); replace HB := ak (HB.out.trans (dJ.mono HB.out.size)); clear jG dJ jF)
   | (refine aM rfl 69 (.tmp 6) (.tmp 20) rfl g6 [Value.int .u32 (n1 : Int), .int .i64 (n2 : Int), .bool false] rfl rfl 69 _ HY.out 3 (by kernel_rfl) rfl rfl (by intro u hu; simp at hu; rcases hu with rfl | rfl | rfl <;> rfl) ?_; intro W7 xJ cz; replace HY := ak xJ; replace HX := ak (HX.out.grown cz (fun e => pg.out (Option.some.inj e))); replace kM := ak (kM.out.grown cz Ay.out (fun e => kH.out (Option.some.inj e))); replace HB := ak (HB.out.grown cz HB.out.size (by intro k hk; cases hk; exact nQ.out)); clear xJ cz)
   | (go_at_call 84; refine (H3.out _ _ _ _ kM.out).mono ?_; rintro e W8 ⟨v8, rfl, fB, dx⟩; have te := ak fB; clear kM; replace HX := ak (HX.out.grown dx (fun e => HNE.out (Option.some.inj e))); replace HY := ak (HY.out.grown dx (fun e => kH.out (Option.some.inj e).symm)); replace HB := ak (HB.out.grown dx HB.out.size (by intro k hk; cases hk; exact HGR.out)); have zr := HY.out.frozen 2; have mq := HY.out.cell 2 _ rfl; clear fB dx)
   | (generalize sK : W8.setCell ⟨g6, 2, none⟩ (.bool ob) = W9; go_at_call 85; have xI : bS W9 g6 [.int .u32 (n1 : Int), .int .i64 (n2 : Int), .bool ob] 69 := (by rw [← sK]; exact HY.out.set 2 (.bool ob)); have b9 : W8.grownBy W9 (some g6) := (by rw [← sK]; exact cS W8 g6 2 (.bool ob)); have td := ak (te.out.grown b9 Ay.out (fun e => kH.out (Option.some.inj e))); clear te; refine (HD.out _ _ _ _ td.out).mono ?_; rintro e mB ⟨rfl, rH⟩; replace HY := ak (xI.below rH); replace HX := ak ((HX.out.grown b9 (fun e => pg.out (Option.some.inj e))).below rH); have zE := HB.out.grown b9 HB.out.size (by intro k hk; cases hk; exact nQ.out); replace HB := ak (zE.trans (rH.mono zE.size)); clear xI b9 zE rH sK zr mq)
   | ((with_reducible refine aA (N := 38) rfl ?_); refine cF (by rfl) ?_; refine bN rfl 69 (.tmp 6) rfl g6 rfl _ _ _ HY.out Tryz.underlying69 rfl 3 (by kernel_rfl) rfl ?_)
   | (go_at_call 86; refine (iE.calls (n1 : Int) (n2 : Int) ob _ _ (HMY.out ob)).mono ?_; rintro e P7 ⟨rfl, rG⟩; replace HX := ak (HX.out.below rG); replace HY := ak (HY.out.below rG); replace HB := ak (HB.out.trans (rG.mono HB.out.size)); clear rG)
   | ((with_reducible refine aA (N := 42) rfl ?_); refine ev rfl 69 #[] rfl pE (z7 _) ?_)
   | (refine aM rfl 69 (.tmp 2) (.tmp 42) rfl g2 pE rfl rfl 69 _ HX.out 3 (by kernel_rfl) rfl rfl (by intro u hu; simp [pE] at hu; rcases hu with rfl | rfl | rfl <;> rfl) ?_; intro IX gp dp)
   | ((with_reducible refine aA (N := 43) rfl ?_); refine bN rfl 69 (.tmp 6) rfl g6 rfl _ _ _ HY.out Tryz.underlying69 rfl 3 (by kernel_rfl) rfl ?_)
   | (refine aM rfl 69 (.tmp 2) (.tmp 43) rfl g2 [Value.int .u32 (n1 : Int), .int .i64 (n2 : Int), .bool ob] rfl rfl 69 _ HX.out 3 (by kernel_rfl) rfl rfl (by intro u hu; simp at hu; rcases hu with rfl | rfl | rfl <;> rfl) ?_; intro IX gp dp))
  refine bodyPost_ret (bV rfl _ _ g2 69 _ (0, 0) _ rfl gp Tryz.underlying69 rfl (by kernel_rfl)) rfl ⟨rfl, HB.out.grown dp HB.out.size (by intro k hk; cases hk; exact fw.out)⟩
 ·rw [if_neg (by decide), if_neg (by decide), if_neg (by decide), Bool.false_and]
  rcases hcs with rfl | ⟨rfl, rfl⟩ | ⟨rfl, rfl, rfl⟩ | ⟨rfl, rfl, rfl, rfl⟩
  all_goals
   go_enter Tryz.func53, Tryz.ntmps53
   go_wp2_with (first
    | (refine a6 (some 2) rfl rfl 69 rfl pE (fun _ => by kernel_rfl) ?_; intro g2 W1 dH fV aW; have HX := ak fV; have HB := ak aW; have fw := ak dH; clear fV aW dH)
    | (go_at_call 83; refine (HN.out _).mono ?_; rintro e W2 ⟨gr, v2, rfl, hJ, hgr, bC⟩; have HNE := ak (show g2 ≠ gr by have := HX.out.lt; omega); have HGR := ak (show w.heap.size ≤ gr by have := HB.out.size; omega); replace HX := ak (HX.out.below bC); replace HB := ak (HB.out.trans (bC.mono HB.out.size)); have xZ := ak hJ; have HSZ := ak (Nat.le_refl W2.heap.size); clear hJ hgr bC HN)
    | (go_at_call 84; refine (H0.out _ _ _ _ xZ.out).mono ?_; rintro e W3 ⟨v3, rfl, fB, dx⟩; have jZ := ak fB; clear xZ; replace HX := ak (HX.out.grown dx (fun e => HNE.out (Option.some.inj e))); replace HB := ak (HB.out.grown dx HB.out.size (by intro k hk; cases hk; exact HGR.out)); replace HSZ := ak (Nat.le_trans HSZ.out dx.size); clear fB dx)
    | (go_at_call 84; refine (H1.out _ _ _ _ jZ.out).mono ?_; rintro e W4 ⟨v4, rfl, fB, dx⟩; have jY := ak fB; clear jZ; replace HX := ak (HX.out.grown dx (fun e => HNE.out (Option.some.inj e))); replace HB := ak (HB.out.grown dx HB.out.size (by intro k hk; cases hk; exact HGR.out)); replace HSZ := ak (Nat.le_trans HSZ.out dx.size); clear fB dx)
    | (go_at_call 84; refine (H2.out _ _ _ _ jY.out).mono ?_; rintro e W5 ⟨v5, rfl, fB, dx⟩; have kM := ak fB; clear jY; replace HX := ak (HX.out.grown dx (fun e => HNE.out (Option.some.inj e))); replace HB := ak (HB.out.grown dx HB.out.size (by intro k hk; cases hk; exact HGR.out)); replace HSZ := ak (Nat.le_trans HSZ.out dx.size); clear fB dx)
    | ((with_reducible refine aA (N := 19) rfl ?_); refine eC rfl 67 #[(0, .tmp 15), (1, .tmp 18)] rfl [(0, .int .u32 (n1 : Int)), (1, .int .i64 (n2 : Int))] (by simp only [List.map_toArray, List.map_cons, List.map_nil]; rfl) [Value.int .u32 (n1 : Int), .int .i64 (n2 : Int)] (Cf _ _) ?_)
    | ((with_reducible refine aA (N := 20) rfl ?_); refine eC rfl 69 #[(0, .tmp 19)] rfl [(0, .agg #[.int .u32 (n1 : Int), .int .i64 (n2 : Int)])] (by simp only [List.map_toArray, List.map_cons, List.map_nil]; rfl) [Value.int .u32 (n1 : Int), .int .i64 (n2 : Int), .bool false] (Ce _ _) ?_)
    | (refine a6 (some 6) rfl rfl 69 rfl pE (fun _ => by kernel_rfl) ?_; intro g6 W6 jF jG dJ; have HY := ak jG; have nQ := ak (show w.heap.size ≤ g6 by have := HB.out.size; omega); have pg := ak (show g2 ≠ g6 by have := HX.out.lt; omega); have kH := ak (show gr ≠ g6 by have := kM.out.box.lt; omega); have Ay := ak (show ∀ k, ((W1.heap.size < k ∧ k ≠ gr) ∧ k < W2.heap.size) → some k ≠ some g6 from fun k hk e => by have := hk.2; have := HSZ.out; have := Option.some.inj e; omega); replace HX := ak (HX.out.below dJ); replace kM := ak (kM.out.below dJ); replace HB := ak (HB.out.trans (dJ.mono HB.out.size)); clear jG dJ jF)
    | (refine aM rfl 69 (.tmp 6) (.tmp 20) rfl g6 [Value.int .u32 (n1 : Int), .int .i64 (n2 : Int), .bool false] rfl rfl 69 _ HY.out 3 (by kernel_rfl) rfl rfl (by intro u hu; simp at hu; rcases hu with rfl | rfl | rfl <;> rfl) ?_; intro W7 xJ cz; replace HY := ak xJ; replace HX := ak (HX.out.grown cz (fun e => pg.out (Option.some.inj e))); replace kM := ak (kM.out.grown cz Ay.out (fun e => kH.out (Option.some.inj e))); replace HB := ak (HB.out.grown cz HB.out.size (by intro k hk; cases hk; exact nQ.out)); clear xJ cz)
    | (go_at_call 84; refine (H3.out _ _ _ _ kM.out).mono ?_; rintro e W8 ⟨v8, rfl, fB, dx⟩; have te := ak fB; clear kM; replace HX := ak (HX.out.grown dx (fun e => HNE.out (Option.some.inj e))); replace HY := ak (HY.out.grown dx (fun e => kH.out (Option.some.inj e).symm)); replace HB := ak (HB.out.grown dx HB.out.size (by intro k hk; cases hk; exact HGR.out)); have zr := HY.out.frozen 2; have mq := HY.out.cell 2 _ rfl; clear fB dx)
    | (generalize sK : W8.setCell ⟨g6, 2, none⟩ (.bool ob) = W9; go_at_call 85; have xI : bS W9 g6 [.int .u32 (n1 : Int), .int .i64 (n2 : Int), .bool ob] 69 := (by rw [← sK]; exact HY.out.set 2 (.bool ob)); have b9 : W8.grownBy W9 (some g6) := (by rw [← sK]; exact cS W8 g6 2 (.bool ob)); have td := ak (te.out.grown b9 Ay.out (fun e => kH.out (Option.some.inj e))); clear te; refine (HD.out _ _ _ _ td.out).mono ?_; rintro e mB ⟨rfl, rH⟩; replace HY := ak (xI.below rH); replace HX := ak ((HX.out.grown b9 (fun e => pg.out (Option.some.inj e))).below rH); have zE := HB.out.grown b9 HB.out.size (by intro k hk; cases hk; exact nQ.out); replace HB := ak (zE.trans (rH.mono zE.size)); clear xI b9 zE rH sK zr mq)
    | ((with_reducible refine aA (N := 38) rfl ?_); refine cF (by rfl) ?_; refine bN rfl 69 (.tmp 6) rfl g6 rfl _ _ _ HY.out Tryz.underlying69 rfl 3 (by kernel_rfl) rfl ?_)
    | (go_at_call 86; refine (iE.calls (n1 : Int) (n2 : Int) ob _ _ (HMY.out ob)).mono ?_; rintro e P7 ⟨rfl, rG⟩; replace HX := ak (HX.out.below rG); replace HY := ak (HY.out.below rG); replace HB := ak (HB.out.trans (rG.mono HB.out.size)); clear rG)
    | ((with_reducible refine aA (N := 42) rfl ?_); refine ev rfl 69 #[] rfl pE (z7 _) ?_)
    | (refine aM rfl 69 (.tmp 2) (.tmp 42) rfl g2 pE rfl rfl 69 _ HX.out 3 (by kernel_rfl) rfl rfl (by intro u hu; simp [pE] at hu; rcases hu with rfl | rfl | rfl <;> rfl) ?_; intro IX gp dp)
    | ((with_reducible refine aA (N := 43) rfl ?_); refine bN rfl 69 (.tmp 6) rfl g6 rfl _ _ _ HY.out Tryz.underlying69 rfl 3 (by kernel_rfl) rfl ?_)
    | (refine aM rfl 69 (.tmp 2) (.tmp 43) rfl g2 [Value.int .u32 (n1 : Int), .int .i64 (n2 : Int), .bool ob] rfl rfl 69 _ HX.out 3 (by kernel_rfl) rfl rfl (by intro u hu; simp at hu; rcases hu with rfl | rfl | rfl <;> rfl) ?_; intro IX gp dp))
   refine bodyPost_ret (bV rfl _ _ g2 69 _ (0, 0) _ rfl gp Tryz.underlying69 rfl (by kernel_rfl)) rfl ⟨rfl, HB.out.grown dp HB.out.size (by intro k hk; cases hk; exact fw.out)⟩
end Go.Proofs.YtndddnglapkplaaGreatDoor.V
end

