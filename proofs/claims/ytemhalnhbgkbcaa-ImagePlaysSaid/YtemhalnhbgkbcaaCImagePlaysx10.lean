/- The law ImagePlays for every input: texts of ours, put together (part 11 of 17). No further condition. -/
import Derived.Test.YtemhalnhbgkbcaaCImagePlaysx2
import Derived.Test.YtemhalnhbgkbcaaCImagePlaysx6
import Derived.Test.YtemhalnhbgkbcaaCImagePlaysx8
import Derived.Test.YtemhalnhbgkbcaaCImagePlaysx7
import Derived.Test.YtemhalnhbgkbcaaCImagePlaysx9
import Derived.Outline
import Derived.Test.YtemhalnhbgkbcaaCImagePlaysx4
import Derived.Test.YtemhalnhbgkbcaaCImagePlaysx3
import Derived.Test.YtemhalnhbgkbcaaCImagePlaysw0
set_option linter.unusedVariables false
set_option linter.unusedSimpArgs false
open Go.RowKit Go.Proofs.YtemhalnhbgkbcaaW.PrintWords Go.Proofs.YtemhalnhbgkbcaaW.PrintLast Go.Proofs.YtemhalnhbgkbcaaW.PrintMore Go.Proofs.Ytemhalnhbgkbcaa.Z
section
namespace Go.Proofs.Ytemhalnhbgkbcaa.V
def p9 : Nat → Bk → Bk
 | 0, c => c
 | j + 1, c => p9 j (if dW c.slots j = true then c else kt c j)
theorem FX {k : IntKind} {e base : Nat} {ok : Nat → Prop} {W W1 : World} {v : Value} {xs : List Int} (h : Kd.R (Kd.int k) e W base ok v xs) {row : Option Nat} (hg : W.grownBy W1 row) (hne : ∀ q, v.ownBlock = some q → some q ≠ row) : Kd.R (Kd.int k) e W1 base ok v xs := by
 have h1 := Kd.R_flat (ok' := fun q => ok q ∧ some q = v.ownBlock) (fun {_ _ _ _} hx => hx) h (fun q hq ho => ⟨ho, hq.symm⟩)
 exact Kd.R_mono (Kd.R_grown h1 hg (fun q hq => hne q hq.2.symm)) (fun _ hq => hq.1)
theorem EL (l : List Int) (k : Nat) : dW l k = !decide (l.count ((k + 1 : Nat) : Int) = 0) := by
 unfold dW
 rw [Bool.eq_iff_iff, List.any_eq_true]
 constructor
 ·rintro ⟨s, hs, he⟩
  rw [beq_iff_eq] at he
  subst he
  have := List.count_pos_iff.2 hs
  rw [Bool.not_eq_true', decide_eq_false_iff_not]
  omega
 ·intro h
  simp only [Bool.not_eq_true', decide_eq_false_iff_not] at h
  have : 0 < l.count ((k + 1 : Nat) : Int) := by omega
  exact ⟨_, List.count_pos_iff.1 this, by rw [beq_iff_eq]⟩
theorem Ny {b : Bk} {k : Nat} (h : fV b.slots) : fV (kt b k).slots := by
 intro x hx
 obtain ⟨s, hs, rfl⟩ := List.mem_map.1 hx
 have := h s hs
 unfold lK
 split <;> omega
theorem Ko (b : Bk) (k : Nat) (h : k < b.attrs.length) : (kt b k).slots.length = b.slots.length ∧ (kt b k).free = b.free ∧ (kt b k).attrs.length + 1 = b.attrs.length := by
 refine ⟨by simp [kt], rfl, ?_⟩
 show (b.attrs.take k ++ b.attrs.drop (k + 1)).length + 1 = _
 rw [List.length_append, List.length_take, List.length_drop]
 omega
structure DropInv (bn : Bk) (k : Nat) (c : Bk) : Prop where
 eq : p9 k c = p9 bn.attrs.length bn
 le : k ≤ c.attrs.length
 a64 : c.attrs.length ≤ 64
 l64 : c.slots.length = 64
 s8 : fV c.slots
 fl : c.free.length ≤ 2000
theorem DropInv.ka {bn : Bk} {k : Nat} {c : Bk} (h : DropInv bn (k + 1) c) : k < c.attrs.length := by have := h.le; omega
theorem DropInv.keep {bn : Bk} {k : Nat} {c : Bk} (h : DropInv bn (k + 1) c) (hu : dW c.slots k = true) : DropInv bn k c := by
 refine ⟨?_, by have := h.le; omega, h.a64, h.l64, h.s8, h.fl⟩
 rw [← h.eq]
 show _ = p9 k (if dW c.slots k = true then c else kt c k)
 rw [if_pos hu]
theorem DropInv.drop {bn : Bk} {k : Nat} {c : Bk} (h : DropInv bn (k + 1) c) (hu : dW c.slots k = false) : DropInv bn k (kt c k) := by
 obtain ⟨h1, h2, h3⟩ := Ko c k h.ka
 refine ⟨?_, by have := h.le; omega, by have := h.a64; omega, by rw [h1]; exact h.l64, Ny h.s8, by rw [h2]; exact h.fl⟩
 rw [← h.eq]
 show _ = p9 k (if dW c.slots k = true then c else kt c k)
 rw [if_neg (by rw [hu]; decide)]
theorem Gw (b : Bk) (hl : b.slots.length = 64) (As : Option Addr) (cs : Nat) (hsr : b.slots.length ≤ cs) (k : Nat) (w : World) (hr : Kd.C (Kd.int .i64) w As b.slots.length b.slots) :
  Calls Try.prog 68 #[.slice As b.slots.length cs, .int .i64 (((k + 1 : Nat) : Int))] w fun e w' => e = .returned (.int .i64 ((b.slots.count ((k + 1 : Nat) : Int) : Nat) : Int)) ∧ Below w.heap.size w w' :=
 (cV.calls 100 As cs b.slots _ _ w hr hsr (NG b.slots (by omega) _ 100 (by omega))).mono (by
  rintro e w' ⟨rfl, ⟨nd, rfl⟩⟩
  exact ⟨rfl, ab (Below.refl _ _) nd⟩)
set_option maxHeartbeats 16000000 in
set_option maxRecDepth 100000 in
theorem rE (b : Bk) (hk : BkOk b) (hp : RightP b) (hl : b.slots.length = 64) (l : List Int) (hu : ∀ x ∈ l, 0 ≤ x ∧ x < 4294967296) (hll : l.length ≤ 1000) (Al : Option Addr) (cl : Nat) (v : Value) (w : World) (h : ki w v b) (hC : Kd.C (Kd.int .u32) w Al l.length l) :
  Calls Try.prog 84 #[v, .slice Al l.length cl] w fun e w' => ∃ v' vo, e = .returned (.tuple #[v', vo]) ∧ eU w' w.heap.size v' (p9 b.attrs.length (relL b l).1) ∧ Kd.R (Kd.int .u32) 46 w' w.heap.size (fun _ => True) vo (relL b l).2 ∧ Below w.heap.size w w' := by
 obtain ⟨M, Jv, IY, Jw, I2, Jx, I4, rfl, hr⟩ := h
 have hsum := hp.sum_le hk hl
 have hml : M.length = b.attrs.length := by rw [hr.m, List.length_map]
 have hrk := uG hk hp hl l
 have HRK := ak hrk
 have zN := ak hr.m
 have HML := ak hml
 have HR := ak hr
 have HL := ak hl
 have HK := ak hk
 have HU := ak hu
 have HC := ak hC
 have Dn : M.length ≤ 64 := by omega
 have HFL := ak (show b.free.length ≤ 64 by omega)
 have HCP := ak (fun w h => Cv b (by omega) (by omega) M (by omega) Jv IY Jw I2 Jx I4 w h)
 have ag := ak (Below.refl w.heap.size w)
 clear hr hl hml hsum hk hp hu hC hrk
 go_enter Try.func84, Try.ntmps84
 go_wp2_with (first
  | (refine aD rfl 62 (.tmp 0) rfl _ rfl ?_; intro gX W1 J aa I; have cg := ge ag J; have ao := ak (ag.out.trans (I.mono ag.out.size)); have aj := ak (aa); clear J aa I ag)
  | (refine au (some 4) rfl rfl 62 rfl dH (fun _ => by kernel_rfl) ?_; intro gZ W2 J aa I; have cb := ge ao J; have aG := ne aj J; have ay := mv I ao; have aw := mv I aj; have cD := ak (aa); clear J aa I ao aj)
  | ((with_reducible refine av (N := 12) rfl ?_); refine az rfl 62 (.tmp 2) rfl gX rfl _ _ _ aw.out Try.underlying62 rfl 5 (by kernel_rfl) rfl ?_)
  | (go_at_call 85; refine (HCP.out _ (HR.out.below ay.out)).mono ?_; rintro e W3 ⟨vs, vf, va, rfl, uY, dQ, eE, I⟩; obtain ⟨As, cs, rfl⟩ := Kd.R_slice uY; obtain ⟨Aa, ca, rfl⟩ := Kd.R_slice eE; obtain ⟨gs, rfl⟩ := sq uY (by have h_ := HL.out; omega); have HSP := ak (show vf.ownBlock ≠ some gs from fun e_ => uY.1 gs rfl e_.symm); obtain ⟨Af, cf, rfl⟩ := Kd.R_slice dQ; have HSZ := ak ay.out.size; have aE := mv I ay; have aC := mv I aw; have cd := mv I cD; have b6 := ak (Kd.R_mono (ok' := fun _ => True) uY (fun _ _ => trivial)); have cy := ak (Kd.R_mono (ok' := fun _ => True) dQ (fun _ _ => trivial)); have da := ak (eE); have cB := ak (I.size); clear uY dQ eE I ay aw cD)
  | (refine aK rfl 62 (.tmp 2) (.tmp 13) rfl gX (dj b.addr b.aff (.slice (some ⟨gs, 0, none⟩) b.slots.length cs) (.slice Af b.free.length cf) (.slice Aa M.length ca)) rfl rfl 62 _ aC.out 5 (by kernel_rfl) rfl rfl (dM _ _ rfl rfl rfl) ?_; intro W4 aa J; have a8 := gb aE cg J; have aY := ak (aa); have bd := gm cd aG J; have cw := gr b6 aC J; have cx := gr cy aC J; have cR := gr da aC J; have b5 := ak (Nat.le_trans cB.out J.size); clear aa J aE aC cd b6 cy da cB))
 obtain ⟨b1, bq⟩ : ∃ b1, b1 = W2.heap.size := ⟨_, rfl⟩
 rw [← bq] at cw cx cR b5 HSZ
 have bP := ak (show w.heap.size ≤ b1 from HSZ.out)
 have vT := bP
 clear bq HSZ
 go_loopw [6, 8, 9, 10, 16, 20] (fun q _ _ _ u _ W => ∃ (k : Nat) (A2 : Option Addr) (c2 : Nat), k ≤ l.length ∧ u = .int .i64 k ∧ Aside0 ((Value.slice A2 (relL b (l.take k)).1.free.length c2).ownBlock ≠ some gs) ∧ Aside0 (aH W gX (dj b.addr b.aff (.slice (some ⟨gs, 0, none⟩) b.slots.length cs) (.slice A2 (relL b (l.take k)).1.free.length c2) (.slice Aa M.length ca)) 62) ∧ Aside0 (Kd.R (Kd.int .i64) 3 W b1 (fun _ => True) (.slice (some ⟨gs, 0, none⟩) b.slots.length cs) (relL b (l.take k)).1.slots) ∧ Aside0 (Kd.R (Kd.int .i64) 3 W b1 (fun _ => True) (.slice A2 (relL b (l.take k)).1.free.length c2) (relL b (l.take k)).1.free) ∧ Aside0 (Kd.R ib 76 W b1 (fun _ => True) (.slice Aa M.length ca) M) ∧ Aside0 (Kd.R (Kd.int .u32) 46 W w.heap.size (fun _ => True) q (relL b (l.take k)).2) ∧ Aside0 (aH W gZ dH 62) ∧ Aside0 (b1 ≤ W.heap.size) ∧ Aside0 (Below w.heap.size w W)) (fun _ _ _ _ u _ _ => l.length - (intOf u).toNat)
 case atStart => exact ⟨0, Af, cf, by omega, rfl, HSP, aY, cw, cx, cR, ⟨Kd.R_nil _ _ _ _ _⟩, bd, b5, a8⟩
 case round =>
  clear HSP a8 aY bd cw cx cR b5
  obtain ⟨k, A2, c2, hk, rfl, HSP, aM, aV, bw, bS, bR, bC, iV, ag⟩ := hrel
  obtain ⟨W, rfl⟩ : ∃ W : World, W = wr := ⟨_, rfl⟩
  have hro := HRK.out k hk
  by_cases hkn : k < l.length
  ·have hkb : decide ((k : Int) < (l.length : Int)) = true := by simp; omega
   obtain ⟨ad, eA, hx⟩ := Kd.at_int (Kd.C_below HC.out ag.out) k (by omega) (by omega)
   cases eA
   rw [Int.toNat_natCast] at hx
   have p1 : ((k : Int) < (l.length : Int)) = True := eq_true (by omega)
   have hrd : rd l k = l[k] := by simp [rd, List.getD, hkn]
   have ir := HU.out _ (List.getElem_mem hkn)
   obtain ⟨x, hxx⟩ : ∃ x, l[k] = x := ⟨_, rfl⟩
   rw [hxx] at hrd ir
   rw [hrd] at hx
   have hsu := Bz b l k hkn x hxx
   obtain ⟨rs, hrs⟩ : ∃ rs, rs = relL b (l.take k) := ⟨_, rfl⟩
   rw [← hrs] at hro hsu aM aV bw bR HSP
   have hol := hro.ol
   have hfl := hro.fl
   have had := hro.addr
   have haf := hro.aff
   have hof := fun A c A' c' A2 c2 w h => rk rs.1 hro.l64 hro.s8 (by rw [hro.attrs]; exact hro.le) M A A' A2 c c' c2 w h x ir.1 ir.2
   have hmm : M = rs.1.attrs.map vc := by rw [hro.attrs]; exact zN.out
   have HSU := ak hsu
   have HLM := ak hro.l64
   obtain ⟨bm, oo⟩ := rs
   simp only at hol hfl hof aM aV bw bR HSP HLM hmm had haf
   have hln : b.slots.length = bm.slots.length := by rw [HLM.out, HL.out]
   rw [← had, ← haf, hln] at aM
   rw [hln] at aV
   obtain ⟨Ao, co, rfl⟩ := Kd.R_slice bR.out
   have HOF := ak hof
   have HMM := ak hmm
   have HOL := ak (show oo.length ≤ 1000 by omega)
   have HFLN := ak (show bm.free.length ≤ 2000 by have := HFL.out; omega)
   have HLN := ak hln
   have HAD := ak (show bm.addr = b.addr from had)
   have HAF := ak (show bm.aff = b.aff from haf)
   clear hro hrs hrd hxx hsu hol hfl hof hmm had haf hln
   cases hh : jQ bm x with
   | false =>
    have HH := ak hh
    have HEQ := ak (show relL b (l.take (k + 1)) = (bm, oo) by rw [HSU.out]; unfold relF; rw [if_neg (by rw [hh]; decide)])
    clear hh
    go_wp2_with (first
     | ((with_reducible refine av (N := 21) rfl ?_); refine az rfl 62 (.tmp 2) rfl gX rfl _ _ _ aM.out Try.underlying62 rfl 5 (by kernel_rfl) rfl ?_)
     | (go_at_call 62; refine (HOF.out _ _ _ _ _ _ _ (ki.of HMM.out aV.out bw.out bS.out)).mono ?_; rintro e W1 ⟨rfl, I⟩; rw [HH.out]; have aj := mv I aM; have bb := mv I aV; have bp := mv I bw; have bN := mv I bS; have cG := mv I bR; have bU := mv I bC; have j4 := ak (Nat.le_trans iV.out I.size); have ao := ak (ag.out.trans (I.mono ag.out.size)); clear I aM aV bw bS bR bC iV ag)
     | (refine au (some 9) rfl rfl 76 rfl [.string ⟨#[]⟩, .string ⟨#[]⟩] (fun _ => by kernel_rfl) ?_; intro gV W2 J aa I; have db := ge ao J; have fx := ne aj J; have ku := ne bU J; have aw := mv I aj; have bK := mv I bb; have bX := mv I bp; have cC := ak (Kd.R_mono (ok' := fun k_ => k_ ≠ gV) (Kd.R_below (Kd.R_bound bN.out) I) (fun k_ dc e_ => by have h_ := dc.2.2.1; omega)); have cJ := mv I cG; have cD := mv I bU; have cA := ak (Nat.le_trans j4.out I.size); have ay := mv I ao; have dJ := ak (aa); clear J aa I aj bb bp bN cG bU j4 ao)
     | (refine aK rfl 76 (.tmp 9) (.tmp 24) rfl gV [.string (nI bm x).f0, .string (nI bm x).f1] rfl rfl 76 _ dJ.out 2 (by kernel_rfl) rfl rfl (jx (nI bm x)) ?_; intro W3 aa J; have aC := gx aw dJ J; have b6 := gr bK dJ J; have cy := gr bX dJ J; have da := ak (Kd.R_mono (ok' := fun _ => True) (Kd.R_grown cC.out J (fun k_ dc e_ => dc (Option.some.inj e_))) (fun _ _ => trivial)); have fg := gr cJ dJ J; have cd := gx cD dJ J; have cB := ak (Nat.le_trans cA.out J.size); have aE := gb ay db J; have kF := ak (aa); clear aa J aw bK bX cC cJ cD cA ay dJ))
    go_roundw
    case rel => exact ⟨k + 1, A2, c2, by omega, by go_num, ⟨by rw [HEQ.out]; exact HSP.out⟩, ⟨by rw [HEQ.out, ← HAD.out, ← HAF.out, HLN.out]; exact aC.out⟩, ⟨by rw [HEQ.out, HLN.out]; exact b6.out⟩, ⟨by rw [HEQ.out]; exact cy.out⟩, da, ⟨by rw [HEQ.out]; exact fg.out⟩, cd, cB, aE⟩
    case measure => simp [intOf]; omega
   | true =>
    have HH := ak hh
    obtain ⟨Xc, Xb, qp, _⟩ := wN hh
    obtain ⟨j, hj⟩ : ∃ j : Nat, x - bm.addr = (j : Int) := ⟨(x - bm.addr).toNat, by omega⟩
    have HEQ := ak (show relL b (l.take (k + 1)) = (⟨bm.addr, bm.aff, bm.slots.set j 0, bm.free ++ [(j : Int)], bm.attrs⟩, oo ++ [x]) by
     rw [HSU.out]
     unfold relF
     rw [if_pos hh]
     show (_, _) = (_, _)
     rw [hj]
     rfl)
    have hjm : x % 64 = (j : Int) := by unfold b9 at qp; omega
    have hjt : x.tmod 64 = (j : Int) := by rw [Int.tmod_eq_emod_of_nonneg ir.1]; exact hjm
    have r9 : j < 64 := by omega
    have HJ := ak (show j < bm.slots.length by rw [HLM.out]; exact r9)
    have pj : ((j : Int) < (bm.slots.length : Int)) = True := eq_true (by have := HJ.out; omega)
    have yk : gX ≠ gs := fun e_ => (aM.out.ne_row aV.out (by decide)) (by rw [e_]; rfl)
    have GC : gs ≠ gX := fun e_ => yk e_.symm
    have HGS := ak (show gs < W.heap.size from Kd.R_lt aV.out gs rfl)
    obtain ⟨fr, hfr⟩ : ∃ fr, fr = bm.free ++ [(j : Int)] := ⟨_, rfl⟩
    obtain ⟨o1, eS⟩ : ∃ o1, o1 = oo ++ [x] := ⟨_, rfl⟩
    rw [← hfr, ← eS] at HEQ
    have HFR := ak hfr
    have ix := ak eS
    clear hh Xc Xb qp hj hfr eS
    go_wp2_with (first
     | ((with_reducible refine av (N := 21) rfl ?_); refine az rfl 62 (.tmp 2) rfl gX rfl _ _ _ aM.out Try.underlying62 rfl 5 (by kernel_rfl) rfl ?_)
     | (go_at_call 62; refine (HOF.out _ _ _ _ _ _ _ (ki.of HMM.out aV.out bw.out bS.out)).mono ?_; rintro e W1 ⟨rfl, I⟩; rw [HH.out]; have aj := mv I aM; have bb := mv I aV; have bp := mv I bw; have bN := mv I bS; have cG := mv I bR; have bU := mv I bC; have j4 := ak (Nat.le_trans iV.out I.size); have ao := ak (ag.out.trans (I.mono ag.out.size)); clear I aM aV bw bS bR bC iV ag)
     | (refine au (some 9) rfl rfl 76 rfl [.string ⟨#[]⟩, .string ⟨#[]⟩] (fun _ => by kernel_rfl) ?_; intro gV W2 J aa I; have db := ge ao J; have fx := ne aj J; have ku := ne bU J; have aw := mv I aj; have bK := mv I bb; have bX := mv I bp; have cC := ak (Kd.R_mono (ok' := fun k_ => k_ ≠ gV) (Kd.R_below (Kd.R_bound bN.out) I) (fun k_ dc e_ => by have h_ := dc.2.2.1; omega)); have cJ := mv I cG; have cD := mv I bU; have cA := ak (Nat.le_trans j4.out I.size); have ay := mv I ao; have dJ := ak (aa); clear J aa I aj bb bp bN cG bU j4 ao)
     | (refine aK rfl 76 (.tmp 9) (.tmp 24) rfl gV [.string (nI bm x).f0, .string (nI bm x).f1] rfl rfl 76 _ dJ.out 2 (by kernel_rfl) rfl rfl (jx (nI bm x)) ?_; intro W3 aa J; have aC := gx aw dJ J; have b6 := gr bK dJ J; have cy := gr bX dJ J; have da := ak (Kd.R_mono (ok' := fun _ => True) (Kd.R_grown cC.out J (fun k_ dc e_ => dc (Option.some.inj e_))) (fun _ _ => trivial)); have fg := gr cJ dJ J; have cd := gx cD dJ J; have cB := ak (Nat.le_trans cA.out J.size); have aE := gb ay db J; have kF := ak (aa); have kr := aC.out.cell 2 _ rfl; have pS := aC.out.cell 3 _ rfl; have rZ := (oE b6.out j HJ.out).1; have vC := (oE b6.out j HJ.out).2; clear aa J aw bK bX cC cJ cD cA ay dJ)
     | ((with_reducible refine bG (b := .append) (xs := #[.tmp 33, .tmp 37]) rfl ?_); at_builtin; generalize bY : W3.setCell ⟨gs, j, none⟩ (.int .i64 0) = W4; have nJ : W3.heap.size = W4.heap.size := (by rw [← bY]; simp [World.setCell]); have J : W3.grownBy W4 (some gs) := (by rw [← bY]; exact (nO b6.out j HJ.out 0).2); have aY := ak (aC.out.grown J (aC.out.ne_row b6.out (by decide))); have cw := ak ((nO b6.out j HJ.out 0).1); have cx := ak (FX cy.out J (fun q_ fR e_ => HSP.out (by rw [fR, e_]))); have cR := ak (Kd.R_over da.out b6.out (by decide) J); have mV := ak (Kd.R_over fg.out b6.out (by decide) J); have bd := ak (cd.out.grown J (cd.out.ne_row b6.out (by decide))); have b5 := ak (Nat.le_trans cB.out J.size); have a8 := ak (aE.out.grown J aE.out.size (by intro k hk; cases hk; exact Nat.le_trans vT.out (Kd.R_base b6.out gs rfl))); rw [bY] at cw; clear bY J aC b6 cy da fg cd cB aE kr pS rZ vC; have xc := ak (show bm.slots.length = (bm.slots.set j 0).length by rw [List.length_set]); have Ug := ak (show gs < W4.heap.size from Kd.R_lt cw.out gs rfl); refine Kd.R_append (Kd.int .i64) (w0 := W4) b1 rfl (.tmp 33) (.tmp 37) 31 3 (.int .i64 0) 8 rfl Try.underlying31 Dh rfl (by decide) (by omega) _ bm.free (j : Int) [.int .i64 (j : Int)] (fun _ => True) (fun _ => False) rfl (congrArg (fun n_ => Value.slice (some ⟨n_, 0, none⟩) 1 1) nJ) rfl (fun _ hk => hk.elim) (fun _ _ => trivial) cx.out (Below.refl _ _) b5.out (by have := HFLN.out; omega) ?_; intro v_ W5 aW I J fP; rw [← HFR.out] at aW; have T8 := ak (show v_.ownBlock ≠ some gs from fun e_ => by rcases fP with h_ | ⟨b_, h_, FG⟩; (· exact HSP.out (h_.symm.trans e_)); (· have Zt := Option.some.inj (h_.symm.trans e_); have Lt := Ug.out; omega)); have bc := ak (aY.out.grown J (aY.out.ne_row cx.out (by decide))); have cQ := ak (FX cw.out J (fun q_ fR e_ => HSP.out (e_.symm.trans fR.symm))); have cj := ak (aW); have cH := ak (Kd.R_over cR.out cx.out (by decide) J); have qG := ak (Kd.R_over mV.out cx.out (by decide) J); have bI := ak (bd.out.grown J (bd.out.ne_row cx.out (by decide))); have cY := ak (Nat.le_trans b5.out J.size); have bj := ak (a8.out.trans (I.mono bP.out)); obtain ⟨AF, cF, rfl⟩ := Kd.R_slice aW; have Rb := bc.out.cell 3 _ rfl; have Ra := bc.out.frozen 3; clear aW I J fP nJ aY cw cx cR mV bd b5 a8)
     | ((with_reducible refine bG (b := .append) (xs := #[.tmp 40, .tmp 42]) rfl ?_); at_builtin; generalize bY : W5.setCell ⟨gX, 3, none⟩ (.slice AF fr.length cF) = W6; have nJ : W5.heap.size = W6.heap.size := (by rw [← bY]; simp [World.setCell]); have J : W5.grownBy W6 (some gX) := (by rw [← bY]; exact bs _ _ _ _); have bl := ak (bc.out.set 3 (.slice AF fr.length cF)); have cZ := gr cQ bc J; have cU := gr cj bc J; have dE := gr cH bc J; have nC := gr qG bc J; have bW := gm bI aG J; have dh := ak (Nat.le_trans cY.out J.size); have bO := gb bj cg J; rw [bY] at bl; clear bY J bc cQ cj cH qG bI cY bj Rb Ra; refine Kd.R_append (Kd.int .u32) (w0 := w) w.heap.size rfl (.tmp 40) (.tmp 42) 77 46 (.int .u32 0) 4 rfl Try.underlying77 jL rfl (by decide) (by omega) _ oo x [.int .u32 x] (fun _ => True) (fun _ => False) rfl (congrArg (fun n_ => Value.slice (some ⟨n_, 0, none⟩) 1 1) nJ) rfl (fun _ hk => hk.elim) (fun _ _ => trivial) nC.out bO.out bO.out.size (by have := HOL.out; omega) ?_; intro v_ W7 aW I J fP; rw [← ix.out] at aW; have dI := ak (bl.out.grown J (bl.out.ne_row nC.out (by decide))); have gE := ak (Kd.R_over cZ.out nC.out (by decide) J); have fu := ak (Kd.R_over cU.out nC.out (by decide) J); have ky := ak (Kd.R_over dE.out nC.out (by decide) J); have kx := ak (aW); have dz := ak (bW.out.grown J (bW.out.ne_row nC.out (by decide))); have lf := ak (Nat.le_trans dh.out J.size); have ew := ak (I); obtain ⟨AO, cO, rfl⟩ := Kd.R_slice aW; clear aW I J fP nJ bl cZ cU dE nC bW dh bO))
    go_roundw
    case rel => exact ⟨k + 1, AF, cF, by omega, by go_num, ⟨by rw [HEQ.out]; exact T8.out⟩, ⟨by rw [HEQ.out, ← HAD.out, ← HAF.out, HLN.out]; exact dI.out⟩, ⟨by rw [HEQ.out, HLN.out]; exact gE.out⟩, ⟨by rw [HEQ.out]; exact fu.out⟩, ky, ⟨by rw [HEQ.out]; exact kx.out⟩, dz, lf, ew⟩
    case measure => simp [intOf]; omega
  ·obtain rfl : k = l.length := by omega
   have hkb : decide ((l.length : Int) < (l.length : Int)) = false := by simp
   rw [List.take_of_length_le (Nat.le_refl l.length)] at hro aM aV bw bR
   obtain ⟨bn, hbn⟩ : ∃ bn, bn = (relL b l).1 := ⟨_, rfl⟩
   obtain ⟨on, hon⟩ : ∃ on, on = (relL b l).2 := ⟨_, rfl⟩
   have HBN := ak hbn
   have HON := ak hon
   rw [← hbn] at aM aV bw
   rw [← hon] at bR
   obtain ⟨Ao, co, rfl⟩ := Kd.R_slice bR.out
   have HMA := ak (show M = bn.attrs.map vc by rw [hbn, hro.attrs]; exact zN.out)
   have KR := ak (show M.length = bn.attrs.length by rw [HMA.out, List.length_map])
   have had : b.addr = bn.addr := by rw [hbn, hro.addr]
   have haf : b.aff = bn.aff := by rw [hbn, hro.aff]
   have hln : b.slots.length = bn.slots.length := by rw [hbn, hro.l64, HL.out]
   have Tm := ak (show DropInv bn bn.attrs.length bn from ⟨rfl, Nat.le_refl _, by rw [← KR.out]; exact Dn, by rw [hbn]; exact hro.l64, by rw [hbn]; exact hro.s8, by have := HFL.out; have h_ := hro.fl; rw [← hbn] at h_; omega⟩)
   rw [had, haf, hln] at aM
   rw [hln] at aV
   obtain ⟨Mn, hMn⟩ : ∃ Mn, Mn = M.length := ⟨_, rfl⟩
   have HMN := ak hMn
   have Ps : Mn ≤ 64 := by omega
   have oR := aM.out.cell 4 _ rfl
   have HXN := ak (show RX W w.heap.size gX bn from ⟨M, _, _, _, HMA.out, aM.out, Kd.R_lower aV.out bP.out, Kd.R_lower bw.out bP.out, Kd.R_lower bS.out bP.out⟩)
   rw [← hMn] at oR
   clear hbn hon hro had haf hln aM aV bw bS iV hMn Dn
   go_wp2_with fail
   go_loopw [11] (fun u W => ∃ (z : Int) (k : Nat) (bm : Bk), u = .int .i64 z ∧ z = (k : Int) - 1 ∧ k ≤ 64 ∧ Aside0 (DropInv bn k bm) ∧ Aside0 (RX W w.heap.size gX bm) ∧ Aside0 (Kd.R (Kd.int .u32) 46 W w.heap.size (fun _ => True) (.slice Ao on.length co) on) ∧ Aside0 (aH W gZ dH 62) ∧ Aside0 (Below w.heap.size w W)) (fun u _ => (intOf u + 1).toNat)
   case atStart => exact ⟨_, Mn, bn, rfl, rfl, Ps, ⟨by rw [HMN.out, KR.out]; exact Tm.out⟩, HXN, bR, bC, ag⟩
   case round =>
    clear HXN bR bC ag Tm oR HMN Ps
    obtain ⟨z, k, bm, rfl, hz, YZ, HDI, aM, bR, bC, ag⟩ := hrel
    obtain ⟨W, rfl⟩ : ∃ W : World, W = wr := ⟨_, rfl⟩
    obtain ⟨M2, vs, vf, va, r8, hx, hs, hf, ha⟩ := aM.out
    obtain ⟨As, cs, rfl, lS, cS⟩ := Kd.R_reads hs
    obtain ⟨Af, cf, rfl⟩ := Kd.R_slice hf
    obtain ⟨Aa, ca, rfl⟩ := Kd.R_slice ha
    have fv := ak hx
    have zx := ak hs
    have lF := ak hf
    have xj := ak ha
    have Gg := ak cS
    have BZ := ak r8
    have kr := hx.cell 2 _ rfl
    clear r8 hx hs hf ha cS aM
    rcases k with _ | k
    ·obtain rfl : z = -1 := by omega
     have hkb : decide ((0 : Int) ≤ -1) = false := by decide
     clear hz
     have HE := ak (show p9 b.attrs.length (relL b l).1 = bm by have h_ := HDI.out.eq; rw [← HBN.out, ← HML.out, KR.out, ← h_]; rfl)
     go_wp2_with (first
      | ((with_reducible refine av (N := 62) rfl ?_); refine az rfl 62 (.tmp 2) rfl gX rfl _ _ _ fv.out Try.underlying62 rfl 5 (by kernel_rfl) rfl ?_)
      | (refine aK rfl 62 (.tmp 4) (.tmp 62) rfl gZ (dj bm.addr bm.aff (.slice As bm.slots.length cs) (.slice Af bm.free.length cf) (.slice Aa M2.length ca)) rfl rfl 62 _ bC.out 5 (by kernel_rfl) rfl rfl (dM _ _ rfl rfl rfl) ?_; intro W1 aa J; have aj := gn fv aG J; have bb := gr zx bC J; have bp := gr lF bC J; have bN := gr xj bC J; have cG := gr bR bC J; have bU := ak (aa); have ao := gb ag cb J; clear aa J fv zx lF xj bR bC ag kr))
     refine bodyPost_ret (eX rfl _ _ gZ 62 _ (0, 0) _ rfl bU.out Try.underlying62 rfl (by kernel_rfl)) rfl ⟨_, _, rfl, ?_, by rw [← HON.out]; exact cG.out, ao.out⟩
     rw [HE.out]
     exact ⟨_, _, _, rfl, bb.out, bp.out, by rw [← BZ.out]; exact bN.out⟩
    ·obtain rfl : z = (k : Int) := by omega
     have hkb : decide ((0 : Int) ≤ (k : Int)) = true := by simp
     clear hz
     have hdi := HDI.out
     obtain ⟨c, hc⟩ : ∃ c, c = bm.slots.count ((k + 1 : Nat) : Int) := ⟨_, rfl⟩
     have HCT := ak (fun w h => Gw bm hdi.l64 As cs lS k w h)
     rw [← hc] at HCT
     have HUC := ak (show dW bm.slots k = !decide (c = 0) by rw [hc]; exact EL _ _)
     have HC := ak (show c ≤ 64 by rw [hc]; have := List.count_le_length (a := ((k + 1 : Nat) : Int)) (l := bm.slots); have h_ := hdi.l64; omega)
     clear hc lS
     by_cases iR : c = 0
     ·have hcb : decide ((c : Int) = 0) = true := by subst iR; rfl
      have HU := ak (show dW bm.slots k = false by rw [HUC.out, iR]; rfl)
      have HDR := ak (fun v w h => Kq bm hdi.l64 hdi.s8 (by have := hdi.fl; omega) (by have := hdi.a64; omega) k hdi.ka v w h)
      have HDN := ak (show DropInv bn k (kt bm k) from hdi.drop HU.out)
      clear hdi
      go_wp2_with (first
       | (go_at_call 68; refine (HCT.out _ Gg.out).mono ?_; rintro e W1 ⟨rfl, I⟩; have aj := mv I fv; have bb := mv I zx; have bp := mv I lF; have bN := mv I xj; have cG := mv I bR; have bU := mv I bC; have ao := ak (ag.out.trans (I.mono ag.out.size)); clear I fv zx lF xj bR bC ag kr)
       | ((with_reducible refine av (N := 59) rfl ?_); refine az rfl 62 (.tmp 2) rfl gX rfl _ _ _ aj.out Try.underlying62 rfl 5 (by kernel_rfl) rfl ?_)
       | (go_at_call 108; refine (HDR.out _ _ ⟨M2, As, cs, Af, cf, Aa, ca, rfl, ki.of BZ.out bb.out bp.out bN.out⟩).mono ?_; rintro e W2 ⟨v9, rfl, eG, I⟩; have HSZ := ak ao.out.size; obtain ⟨nb, hnb⟩ : ∃ nb, nb = kt bm k := ⟨_, rfl⟩; rw [← hnb] at eG; have HNB := ak hnb; obtain ⟨wz, sx, sA, rfl, gz, fp, eH⟩ := eG; obtain ⟨A7, c7, rfl⟩ := Kd.R_slice gz; obtain ⟨A8, c8, rfl⟩ := Kd.R_slice fp; obtain ⟨NM, hNM⟩ : ∃ NM, NM = nb.attrs.map vc := ⟨_, rfl⟩; rw [← hNM] at eH; have HNM := ak hNM; obtain ⟨A9, c9, rfl⟩ := Kd.R_slice eH; have aw := mv I aj; have bK := ak (Kd.R_lower gz HSZ.out); have bX := ak (Kd.R_lower fp HSZ.out); have cC := ak (Kd.R_lower eH HSZ.out); have cJ := mv I cG; have cD := mv I bU; have ay := mv I ao; clear hNM hnb gz fp eH I aj bb bp bN cG bU ao)
       | (refine aK rfl 62 (.tmp 2) (.tmp 61) rfl gX (dj nb.addr nb.aff (.slice A7 nb.slots.length c7) (.slice A8 nb.free.length c8) (.slice A9 NM.length c9)) rfl rfl 62 _ aw.out 5 (by kernel_rfl) rfl rfl (dM _ _ rfl rfl rfl) ?_; intro W3 aa J; have aC := ak (aa); have b6 := gr bK aw J; have cy := gr bX aw J; have da := gr cC aw J; have fg := gr cJ aw J; have cd := gm cD aG J; have aE := gb ay cg J; clear aa J aw bK bX cC cJ cD ay))
      go_roundw
      case rel => exact ⟨_, k, nb, rfl, rfl, by omega, ⟨by rw [HNB.out]; exact HDN.out⟩, ⟨NM, _, _, _, HNM.out, aC.out, b6.out, cy.out, da.out⟩, fg, cd, aE⟩
      case measure => simp [intOf] <;> omega
     ·have hcb : decide ((c : Int) = 0) = false := by simp; omega
      have HDN := ak (show DropInv bn k bm from hdi.keep (by rw [HUC.out]; simp [iR]))
      clear hdi
      go_wp2_with (first
       | (go_at_call 68; refine (HCT.out _ Gg.out).mono ?_; rintro e W1 ⟨rfl, I⟩; have aj := mv I fv; have bb := mv I zx; have bp := mv I lF; have bN := mv I xj; have cG := mv I bR; have bU := mv I bC; have ao := ak (ag.out.trans (I.mono ag.out.size)); clear I fv zx lF xj bR bC ag kr))
      go_roundw
      case rel => exact ⟨_, k, bm, rfl, rfl, by omega, HDN, ⟨M2, _, _, _, BZ.out, aj.out, bb.out, bp.out, bN.out⟩, cG, bU, ao⟩
      case measure => simp [intOf] <;> omega
end Go.Proofs.Ytemhalnhbgkbcaa.V
end

section
namespace Go.Proofs.Ytemhalnhbgkbcaa.V
def pG (h n : ByteArray) (a : At) : Bool := (h.toList == (⟨#[]⟩ : ByteArray).toList || a.f0.toList == h.toList) && (n.toList == (⟨#[]⟩ : ByteArray).toList || a.f1.toList == n.toList)
theorem IW {l : List UInt8} (e : (l == (⟨#[]⟩ : ByteArray).toList) = true) : (l == []) = true ∧ l.isEmpty = true ∧ (l = []) = True := by
 have h : l = [] := by simpa using e
 subst h
 exact ⟨rfl, rfl, eq_true rfl⟩
theorem BT {l : List UInt8} (e : (l == (⟨#[]⟩ : ByteArray).toList) = false) : (l == []) = false ∧ l.isEmpty = false ∧ (l = []) = False := by
 have h : l ≠ [] := by
  rintro rfl
  simp at e
 refine ⟨by simpa using h, by simpa using h, eq_false h⟩
theorem IU {l m : List UInt8} (e : (l == m) = true) : (l = m) = True := eq_true (by simpa using e)
theorem Py {l m : List UInt8} (e : (l == m) = false) : (l = m) = False := eq_false (by simpa using e)
theorem OG {h n : ByteArray} {x : At} (e : pG h n x = true) : ((h.toList == (⟨#[]⟩ : ByteArray).toList) = true ∧ (n.toList == (⟨#[]⟩ : ByteArray).toList) = true) ∨ ((h.toList == (⟨#[]⟩ : ByteArray).toList) = false ∧ (x.f0.toList == h.toList) = true ∧ (n.toList == (⟨#[]⟩ : ByteArray).toList) = true) ∨ ((h.toList == (⟨#[]⟩ : ByteArray).toList) = true ∧ (n.toList == (⟨#[]⟩ : ByteArray).toList) = false ∧ (x.f1.toList == n.toList) = true) ∨ ((h.toList == (⟨#[]⟩ : ByteArray).toList) = false ∧ (x.f0.toList == h.toList) = true ∧ (n.toList == (⟨#[]⟩ : ByteArray).toList) = false ∧ (x.f1.toList == n.toList) = true) := by
 unfold pG at e
 cases h1 : (h.toList == (⟨#[]⟩ : ByteArray).toList) <;> cases h2 : (x.f0.toList == h.toList) <;> cases h3 : (n.toList == (⟨#[]⟩ : ByteArray).toList) <;> cases h4 : (x.f1.toList == n.toList) <;> simp_all
theorem Q5 {h n : ByteArray} {x : At} (e : pG h n x = false) : ((h.toList == (⟨#[]⟩ : ByteArray).toList) = false ∧ (x.f0.toList == h.toList) = false) ∨ ((h.toList == (⟨#[]⟩ : ByteArray).toList) = true ∧ (n.toList == (⟨#[]⟩ : ByteArray).toList) = false ∧ (x.f1.toList == n.toList) = false) ∨ ((h.toList == (⟨#[]⟩ : ByteArray).toList) = false ∧ (x.f0.toList == h.toList) = true ∧ (n.toList == (⟨#[]⟩ : ByteArray).toList) = false ∧ (x.f1.toList == n.toList) = false) := by
 unfold pG at e
 cases h1 : (h.toList == (⟨#[]⟩ : ByteArray).toList) <;> cases h2 : (x.f0.toList == h.toList) <;> cases h3 : (n.toList == (⟨#[]⟩ : ByteArray).toList) <;> cases h4 : (x.f1.toList == n.toList) <;> simp_all
theorem Pb {b : Bk} (hf : b9 b.addr = b.addr) (k : Nat) (hk : k < 64) : jQ b (b.addr + (k : Int)) = (b.slots.getD k 0 != 0) ∧ nI b (b.addr + (k : Int)) = if (b.slots.getD k 0 != 0) = true then lV b k else ⟨⟨#[]⟩, ⟨#[]⟩⟩ := by
 have e : b.addr + (k : Int) - b.addr = (k : Int) := by omega
 have h1 : b9 (b.addr + (k : Int)) = b.addr := by unfold b9 at hf ⊢; omega
 have h2 : jQ b (b.addr + (k : Int)) = (b.slots.getD k 0 != 0) := by
  unfold jQ
  rw [decide_eq_true h1, e, Int.toNat_natCast, Bool.true_and]
 refine ⟨h2, ?_⟩
 unfold nI
 rw [h2, e, Int.toNat_natCast]
set_option maxHeartbeats 16000000 in
set_option maxRecDepth 100000 in
theorem yH (b : Bk) (hk : BkOk b) (hp : RightP b) (hl : b.slots.length = 64) (h n : ByteArray) (v : Value) (w : World) (hV : ki w v b) :
  Calls Try.prog 63 #[v, .string h, .string n] w fun e w' => ∃ vo, e = .returned vo ∧ Kd.R (Kd.int .u32) 46 w' w.heap.size (fun _ => True) vo (eD b (pG h n) 64) ∧ Below w.heap.size w w' := by
 obtain ⟨M, As, cs, Af, cf, Aa, ca, rfl, hr⟩ := hV
 have hml : M.length = b.attrs.length := by rw [hr.m, List.length_map]
 have zN := ak hr.m
 have HR := ak hr
 have HL := ak hl
 have HK := ak hk
 have HP := ak hp
 have HOF := ak (fun w h x h0 h1 => rk b hl hk.s8 hp.sa M As Af Aa cs cf ca w h x h0 h1)
 have ag := ak (Below.refl w.heap.size w)
 have DG : 0 ≤ b.addr := hk.a0
 have lW : b.addr + 64 ≤ 4294967296 := by
  have h1 := hp.first
  have h2 := hk.a1
  unfold b9 at h1
  omega
 clear hr hl hml hp hk
 go_enter Try.func63, Try.ntmps63
 go_wp2_with (first
  | (refine aD rfl 62 (.tmp 0) rfl _ rfl ?_; intro gX W1 J aa I; have cg := ge ag J; have ao := ak (ag.out.trans (I.mono ag.out.size)); have aj := ak (aa); clear J aa I ag))
 go_loopw [7, 8, 9, 10] (fun q i _ _ W => ∃ k : Nat, k ≤ 64 ∧ i = .int .i64 k ∧ Aside0 (aH W gX (dj b.addr b.aff (.slice As b.slots.length cs) (.slice Af b.free.length cf) (.slice Aa M.length ca)) 62) ∧ Aside0 (Kd.R (Kd.int .u32) 46 W w.heap.size (fun _ => True) q (eD b (pG h n) k)) ∧ Aside0 (Below w.heap.size w W)) (fun _ i _ _ _ => 64 - (intOf i).toNat)
 case atStart => exact ⟨0, by omega, rfl, aj, ⟨Kd.R_nil _ _ _ _ _⟩, ao⟩
 case round =>
  clear ao aj
  obtain ⟨k, hk, rfl, aM, bR, ag⟩ := hrel
  obtain ⟨W, rfl⟩ : ∃ W : World, W = wr := ⟨_, rfl⟩
  have hul := jK b (pG h n) k
  have mg := aM.out.cell 0 _ rfl
  by_cases qJ : k < 64
  ·have hkb : decide ((k : Int) < 64) = true := by simp; omega
   have hus := tZ b (pG h n) k
   obtain ⟨oo, hoo⟩ : ∃ oo, oo = eD b (pG h n) k := ⟨_, rfl⟩
   rw [← hoo] at bR hus hul
   have HUL := ak (show oo.length ≤ 100 by omega)
   obtain ⟨Ll, FF⟩ := Pb HP.out.first k qJ
   have hof := fun w h => HOF.out w h (b.addr + (k : Int)) (by omega) (by omega)
   rw [Ll, FF] at hof
   obtain ⟨Ao, co, rfl⟩ := Kd.R_slice bR.out
   obtain ⟨hb, hhb⟩ : ∃ hb, hb = (b.slots.getD k 0 != 0) := ⟨_, rfl⟩
   rw [← hhb] at hof hus
   cases hb with
   | false =>
    rw [if_neg (by decide)] at hof
    have HUS := ak (show eD b (pG h n) (k + 1) = oo by rw [hus]; simp)
    have vR := ak hof
    clear hus hof hhb hoo hul Ll FF
    go_wp2_with (first
     | ((with_reducible refine av (N := 16) rfl ?_); refine az rfl 62 (.tmp 3) rfl gX rfl _ _ _ aM.out Try.underlying62 rfl 5 (by kernel_rfl) rfl ?_)
     | (go_at_call 62; refine (vR.out _ (HR.out.below ag.out)).mono ?_; rintro e W1 ⟨rfl, I⟩; have aj := mv I aM; have cG := mv I bR; have ao := ak (ag.out.trans (I.mono ag.out.size)); clear I aM bR ag mg)
     | (refine au (some 9) rfl rfl 76 rfl [.string ⟨#[]⟩, .string ⟨#[]⟩] (fun _ => by kernel_rfl) ?_; intro gV W2 J aa I; have db := ge ao J; have fx := ne aj J; have aw := mv I aj; have cJ := mv I cG; have ay := mv I ao; have dJ := ak (aa); clear J aa I aj cG ao)
     | (refine aK rfl 76 (.tmp 9) (.tmp 23) rfl gV [.string ⟨#[]⟩, .string ⟨#[]⟩] rfl rfl 76 _ dJ.out 2 (by kernel_rfl) rfl rfl (jx ⟨⟨#[]⟩, ⟨#[]⟩⟩) ?_; intro W3 aa J; have aC := gx aw dJ J; have fg := gr cJ dJ J; have aE := gb ay db J; have kF := ak (aa); have nx := aa.cell 0 _ rfl; have mf := aa.cell 1 _ rfl; clear aa J aw cJ ay dJ))
    go_roundw
    case rel => exact ⟨k + 1, by omega, by go_num, aC, ⟨by rw [HUS.out]; exact fg.out⟩, aE⟩
    case measure => simp [intOf]; omega
   | true =>
    rw [if_pos rfl] at hof
    obtain ⟨x, hx⟩ : ∃ x, x = lV b k := ⟨_, rfl⟩
    rw [← hx] at hof hus
    rw [Bool.true_and] at hus
    have vR := ak hof
    cases hpp : pG h n x with
    | true =>
     have HUS := ak (show eD b (pG h n) (k + 1) = oo ++ [b.addr + (k : Int)] by rw [hus, hpp]; rfl)
     have hcs := OG hpp
     clear hus hof hhb hoo hul Ll FF hx hpp
     obtain ⟨o1, eS⟩ : ∃ o1, o1 = oo ++ [b.addr + (k : Int)] := ⟨_, rfl⟩
     rw [← eS] at HUS
     have ix := ak eS
     clear eS
     rcases hcs with ⟨p1, p2⟩ | ⟨p1, p0, p2⟩ | ⟨p1, p2, p3⟩ | ⟨p1, p0, p2, p3⟩
     ·obtain ⟨e1, f1, g1⟩ := IW p1
      obtain ⟨e2, f2, g2⟩ := IW p2
      go_wp2_with (first
       | ((with_reducible refine av (N := 16) rfl ?_); refine az rfl 62 (.tmp 3) rfl gX rfl _ _ _ aM.out Try.underlying62 rfl 5 (by kernel_rfl) rfl ?_)
       | (go_at_call 62; refine (vR.out _ (HR.out.below ag.out)).mono ?_; rintro e W1 ⟨rfl, I⟩; have aj := mv I aM; have cG := mv I bR; have ao := ak (ag.out.trans (I.mono ag.out.size)); clear I aM bR ag mg)
       | (refine au (some 9) rfl rfl 76 rfl [.string ⟨#[]⟩, .string ⟨#[]⟩] (fun _ => by kernel_rfl) ?_; intro gV W2 J aa I; have db := ge ao J; have fx := ne aj J; have aw := mv I aj; have cJ := mv I cG; have ay := mv I ao; have dJ := ak (aa); clear J aa I aj cG ao)
       | (refine aK rfl 76 (.tmp 9) (.tmp 23) rfl gV [.string x.f0, .string x.f1] rfl rfl 76 _ dJ.out 2 (by kernel_rfl) rfl rfl (jx x) ?_; intro W3 aa J; have aC := gx aw dJ J; have fg := gr cJ dJ J; have aE := gb ay db J; have kF := ak (aa); have nx := aa.cell 0 _ rfl; have mf := aa.cell 1 _ rfl; have se := aC.out.cell 0 _ rfl; clear aa J aw cJ ay dJ)
       | ((with_reducible refine bG (b := .append) (xs := #[.tmp 46, .tmp 52]) rfl ?_); at_builtin; refine Kd.R_append (Kd.int .u32) (w0 := w) w.heap.size rfl (.tmp 46) (.tmp 52) 77 46 (.int .u32 0) 4 rfl Try.underlying77 jL rfl (by decide) (by omega) _ oo (b.addr + (k : Int)) [.int .u32 (b.addr + (k : Int))] (fun _ => True) (fun _ => False) rfl rfl rfl (fun _ hk => hk.elim) (fun _ _ => trivial) fg.out aE.out aE.out.size (by have := HUL.out; omega) ?_; intro v_ W4 aW I J fP; rw [← ix.out] at aW; have aY := ak (aC.out.grown J (aC.out.ne_row fg.out (by decide))); have mV := ak (aW); have a8 := ak (I); obtain ⟨AO, cO, rfl⟩ := Kd.R_slice aW; clear aW I J fP aC fg aE nx mf se))
      go_roundw
      case rel => exact ⟨k + 1, by omega, by go_num, aY, ⟨by rw [HUS.out]; exact mV.out⟩, a8⟩
      case measure => simp [intOf]; omega
     ·obtain ⟨e1, f1, g1⟩ := BT p1
      have g0 := IU p0
      obtain ⟨e2, f2, g2⟩ := IW p2
      go_wp2_with (first
       | ((with_reducible refine av (N := 16) rfl ?_); refine az rfl 62 (.tmp 3) rfl gX rfl _ _ _ aM.out Try.underlying62 rfl 5 (by kernel_rfl) rfl ?_)
       | (go_at_call 62; refine (vR.out _ (HR.out.below ag.out)).mono ?_; rintro e W1 ⟨rfl, I⟩; have aj := mv I aM; have cG := mv I bR; have ao := ak (ag.out.trans (I.mono ag.out.size)); clear I aM bR ag mg)
       | (refine au (some 9) rfl rfl 76 rfl [.string ⟨#[]⟩, .string ⟨#[]⟩] (fun _ => by kernel_rfl) ?_; intro gV W2 J aa I; have db := ge ao J; have fx := ne aj J; have aw := mv I aj; have cJ := mv I cG; have ay := mv I ao; have dJ := ak (aa); clear J aa I aj cG ao)
       | (refine aK rfl 76 (.tmp 9) (.tmp 23) rfl gV [.string x.f0, .string x.f1] rfl rfl 76 _ dJ.out 2 (by kernel_rfl) rfl rfl (jx x) ?_; intro W3 aa J; have aC := gx aw dJ J; have fg := gr cJ dJ J; have aE := gb ay db J; have kF := ak (aa); have nx := aa.cell 0 _ rfl; have mf := aa.cell 1 _ rfl; have se := aC.out.cell 0 _ rfl; clear aa J aw cJ ay dJ)
       | ((with_reducible refine bG (b := .append) (xs := #[.tmp 46, .tmp 52]) rfl ?_); at_builtin; refine Kd.R_append (Kd.int .u32) (w0 := w) w.heap.size rfl (.tmp 46) (.tmp 52) 77 46 (.int .u32 0) 4 rfl Try.underlying77 jL rfl (by decide) (by omega) _ oo (b.addr + (k : Int)) [.int .u32 (b.addr + (k : Int))] (fun _ => True) (fun _ => False) rfl rfl rfl (fun _ hk => hk.elim) (fun _ _ => trivial) fg.out aE.out aE.out.size (by have := HUL.out; omega) ?_; intro v_ W4 aW I J fP; rw [← ix.out] at aW; have aY := ak (aC.out.grown J (aC.out.ne_row fg.out (by decide))); have mV := ak (aW); have a8 := ak (I); obtain ⟨AO, cO, rfl⟩ := Kd.R_slice aW; clear aW I J fP aC fg aE nx mf se))
      go_roundw
      case rel => exact ⟨k + 1, by omega, by go_num, aY, ⟨by rw [HUS.out]; exact mV.out⟩, a8⟩
      case measure => simp [intOf]; omega
     ·obtain ⟨e1, f1, g1⟩ := IW p1
      obtain ⟨e2, f2, g2⟩ := BT p2
      have g3 := IU p3
      go_wp2_with (first
       | ((with_reducible refine av (N := 16) rfl ?_); refine az rfl 62 (.tmp 3) rfl gX rfl _ _ _ aM.out Try.underlying62 rfl 5 (by kernel_rfl) rfl ?_)
       | (go_at_call 62; refine (vR.out _ (HR.out.below ag.out)).mono ?_; rintro e W1 ⟨rfl, I⟩; have aj := mv I aM; have cG := mv I bR; have ao := ak (ag.out.trans (I.mono ag.out.size)); clear I aM bR ag mg)
       | (refine au (some 9) rfl rfl 76 rfl [.string ⟨#[]⟩, .string ⟨#[]⟩] (fun _ => by kernel_rfl) ?_; intro gV W2 J aa I; have db := ge ao J; have fx := ne aj J; have aw := mv I aj; have cJ := mv I cG; have ay := mv I ao; have dJ := ak (aa); clear J aa I aj cG ao)
       | (refine aK rfl 76 (.tmp 9) (.tmp 23) rfl gV [.string x.f0, .string x.f1] rfl rfl 76 _ dJ.out 2 (by kernel_rfl) rfl rfl (jx x) ?_; intro W3 aa J; have aC := gx aw dJ J; have fg := gr cJ dJ J; have aE := gb ay db J; have kF := ak (aa); have nx := aa.cell 0 _ rfl; have mf := aa.cell 1 _ rfl; have se := aC.out.cell 0 _ rfl; clear aa J aw cJ ay dJ)
       | ((with_reducible refine bG (b := .append) (xs := #[.tmp 46, .tmp 52]) rfl ?_); at_builtin; refine Kd.R_append (Kd.int .u32) (w0 := w) w.heap.size rfl (.tmp 46) (.tmp 52) 77 46 (.int .u32 0) 4 rfl Try.underlying77 jL rfl (by decide) (by omega) _ oo (b.addr + (k : Int)) [.int .u32 (b.addr + (k : Int))] (fun _ => True) (fun _ => False) rfl rfl rfl (fun _ hk => hk.elim) (fun _ _ => trivial) fg.out aE.out aE.out.size (by have := HUL.out; omega) ?_; intro v_ W4 aW I J fP; rw [← ix.out] at aW; have aY := ak (aC.out.grown J (aC.out.ne_row fg.out (by decide))); have mV := ak (aW); have a8 := ak (I); obtain ⟨AO, cO, rfl⟩ := Kd.R_slice aW; clear aW I J fP aC fg aE nx mf se))
      go_roundw
      case rel => exact ⟨k + 1, by omega, by go_num, aY, ⟨by rw [HUS.out]; exact mV.out⟩, a8⟩
      case measure => simp [intOf]; omega
     ·obtain ⟨e1, f1, g1⟩ := BT p1
      have g0 := IU p0
      obtain ⟨e2, f2, g2⟩ := BT p2
      have g3 := IU p3
      go_wp2_with (first
       | ((with_reducible refine av (N := 16) rfl ?_); refine az rfl 62 (.tmp 3) rfl gX rfl _ _ _ aM.out Try.underlying62 rfl 5 (by kernel_rfl) rfl ?_)
       | (go_at_call 62; refine (vR.out _ (HR.out.below ag.out)).mono ?_; rintro e W1 ⟨rfl, I⟩; have aj := mv I aM; have cG := mv I bR; have ao := ak (ag.out.trans (I.mono ag.out.size)); clear I aM bR ag mg)
       | (refine au (some 9) rfl rfl 76 rfl [.string ⟨#[]⟩, .string ⟨#[]⟩] (fun _ => by kernel_rfl) ?_; intro gV W2 J aa I; have db := ge ao J; have fx := ne aj J; have aw := mv I aj; have cJ := mv I cG; have ay := mv I ao; have dJ := ak (aa); clear J aa I aj cG ao)
       | (refine aK rfl 76 (.tmp 9) (.tmp 23) rfl gV [.string x.f0, .string x.f1] rfl rfl 76 _ dJ.out 2 (by kernel_rfl) rfl rfl (jx x) ?_; intro W3 aa J; have aC := gx aw dJ J; have fg := gr cJ dJ J; have aE := gb ay db J; have kF := ak (aa); have nx := aa.cell 0 _ rfl; have mf := aa.cell 1 _ rfl; have se := aC.out.cell 0 _ rfl; clear aa J aw cJ ay dJ)
       | ((with_reducible refine bG (b := .append) (xs := #[.tmp 46, .tmp 52]) rfl ?_); at_builtin; refine Kd.R_append (Kd.int .u32) (w0 := w) w.heap.size rfl (.tmp 46) (.tmp 52) 77 46 (.int .u32 0) 4 rfl Try.underlying77 jL rfl (by decide) (by omega) _ oo (b.addr + (k : Int)) [.int .u32 (b.addr + (k : Int))] (fun _ => True) (fun _ => False) rfl rfl rfl (fun _ hk => hk.elim) (fun _ _ => trivial) fg.out aE.out aE.out.size (by have := HUL.out; omega) ?_; intro v_ W4 aW I J fP; rw [← ix.out] at aW; have aY := ak (aC.out.grown J (aC.out.ne_row fg.out (by decide))); have mV := ak (aW); have a8 := ak (I); obtain ⟨AO, cO, rfl⟩ := Kd.R_slice aW; clear aW I J fP aC fg aE nx mf se))
      go_roundw
      case rel => exact ⟨k + 1, by omega, by go_num, aY, ⟨by rw [HUS.out]; exact mV.out⟩, a8⟩
      case measure => simp [intOf]; omega
    | false =>
     have HUS := ak (show eD b (pG h n) (k + 1) = oo by rw [hus, hpp]; simp)
     have hcs := Q5 hpp
     clear hus hof hhb hoo hul Ll FF hx hpp
     rcases hcs with ⟨p1, p0⟩ | ⟨p1, p2, p3⟩ | ⟨p1, p0, p2, p3⟩
     ·obtain ⟨e1, f1, g1⟩ := BT p1
      have g0 := Py p0
      go_wp2_with (first
       | ((with_reducible refine av (N := 16) rfl ?_); refine az rfl 62 (.tmp 3) rfl gX rfl _ _ _ aM.out Try.underlying62 rfl 5 (by kernel_rfl) rfl ?_)
       | (go_at_call 62; refine (vR.out _ (HR.out.below ag.out)).mono ?_; rintro e W1 ⟨rfl, I⟩; have aj := mv I aM; have cG := mv I bR; have ao := ak (ag.out.trans (I.mono ag.out.size)); clear I aM bR ag mg)
       | (refine au (some 9) rfl rfl 76 rfl [.string ⟨#[]⟩, .string ⟨#[]⟩] (fun _ => by kernel_rfl) ?_; intro gV W2 J aa I; have db := ge ao J; have fx := ne aj J; have aw := mv I aj; have cJ := mv I cG; have ay := mv I ao; have dJ := ak (aa); clear J aa I aj cG ao)
       | (refine aK rfl 76 (.tmp 9) (.tmp 23) rfl gV [.string x.f0, .string x.f1] rfl rfl 76 _ dJ.out 2 (by kernel_rfl) rfl rfl (jx x) ?_; intro W3 aa J; have aC := gx aw dJ J; have fg := gr cJ dJ J; have aE := gb ay db J; have kF := ak (aa); have nx := aa.cell 0 _ rfl; have mf := aa.cell 1 _ rfl; clear aa J aw cJ ay dJ))
      go_roundw
      case rel => exact ⟨k + 1, by omega, by go_num, aC, ⟨by rw [HUS.out]; exact fg.out⟩, aE⟩
      case measure => simp [intOf]; omega
     ·obtain ⟨e1, f1, g1⟩ := IW p1
      obtain ⟨e2, f2, g2⟩ := BT p2
      have g3 := Py p3
      go_wp2_with (first
       | ((with_reducible refine av (N := 16) rfl ?_); refine az rfl 62 (.tmp 3) rfl gX rfl _ _ _ aM.out Try.underlying62 rfl 5 (by kernel_rfl) rfl ?_)
       | (go_at_call 62; refine (vR.out _ (HR.out.below ag.out)).mono ?_; rintro e W1 ⟨rfl, I⟩; have aj := mv I aM; have cG := mv I bR; have ao := ak (ag.out.trans (I.mono ag.out.size)); clear I aM bR ag mg)
       | (refine au (some 9) rfl rfl 76 rfl [.string ⟨#[]⟩, .string ⟨#[]⟩] (fun _ => by kernel_rfl) ?_; intro gV W2 J aa I; have db := ge ao J; have fx := ne aj J; have aw := mv I aj; have cJ := mv I cG; have ay := mv I ao; have dJ := ak (aa); clear J aa I aj cG ao)
       | (refine aK rfl 76 (.tmp 9) (.tmp 23) rfl gV [.string x.f0, .string x.f1] rfl rfl 76 _ dJ.out 2 (by kernel_rfl) rfl rfl (jx x) ?_; intro W3 aa J; have aC := gx aw dJ J; have fg := gr cJ dJ J; have aE := gb ay db J; have kF := ak (aa); have nx := aa.cell 0 _ rfl; have mf := aa.cell 1 _ rfl; clear aa J aw cJ ay dJ))
      go_roundw
      case rel => exact ⟨k + 1, by omega, by go_num, aC, ⟨by rw [HUS.out]; exact fg.out⟩, aE⟩
      case measure => simp [intOf]; omega
     ·obtain ⟨e1, f1, g1⟩ := BT p1
      have g0 := IU p0
      obtain ⟨e2, f2, g2⟩ := BT p2
      have g3 := Py p3
      go_wp2_with (first
       | ((with_reducible refine av (N := 16) rfl ?_); refine az rfl 62 (.tmp 3) rfl gX rfl _ _ _ aM.out Try.underlying62 rfl 5 (by kernel_rfl) rfl ?_)
       | (go_at_call 62; refine (vR.out _ (HR.out.below ag.out)).mono ?_; rintro e W1 ⟨rfl, I⟩; have aj := mv I aM; have cG := mv I bR; have ao := ak (ag.out.trans (I.mono ag.out.size)); clear I aM bR ag mg)
       | (refine au (some 9) rfl rfl 76 rfl [.string ⟨#[]⟩, .string ⟨#[]⟩] (fun _ => by kernel_rfl) ?_; intro gV W2 J aa I; have db := ge ao J; have fx := ne aj J; have aw := mv I aj; have cJ := mv I cG; have ay := mv I ao; have dJ := ak (aa); clear J aa I aj cG ao)
       | (refine aK rfl 76 (.tmp 9) (.tmp 23) rfl gV [.string x.f0, .string x.f1] rfl rfl 76 _ dJ.out 2 (by kernel_rfl) rfl rfl (jx x) ?_; intro W3 aa J; have aC := gx aw dJ J; have fg := gr cJ dJ J; have aE := gb ay db J; have kF := ak (aa); have nx := aa.cell 0 _ rfl; have mf := aa.cell 1 _ rfl; clear aa J aw cJ ay dJ))
      go_roundw
      case rel => exact ⟨k + 1, by omega, by go_num, aC, ⟨by rw [HUS.out]; exact fg.out⟩, aE⟩
      case measure => simp [intOf]; omega
  ·obtain rfl : k = 64 := by omega
   have hkb : decide (((64 : Nat) : Int) < 64) = false := by decide
   go_wp2_with fail
   go_ret
   exact ⟨_, rfl, bR.out, ag.out⟩
end Go.Proofs.Ytemhalnhbgkbcaa.V
end

section
namespace Go.Proofs.Ytemhalnhbgkbcaa.V
structure RG0 (b : Bk) : Prop where
 a0 : 0 ≤ b.addr
 a1 : b.addr < 4294967296
 first : b9 b.addr = b.addr
 owner : fS b.aff = true
 na : b.attrs.length ≤ 64
 l64 : b.slots.length = 64
 s0 : ∀ s ∈ b.slots, 0 ≤ s ∧ s ≤ (b.attrs.length : Int)
 may : ∀ a ∈ b.attrs, ep a = true
 nd : b.attrs.Nodup
 f0 : ∀ f ∈ b.free, 0 ≤ f ∧ f < 64 ∧ b.slots.getD f.toNat 0 = 0
 fnd : b.free.Nodup
 zc : b.slots.countP (fun x => x == 0) = b.free.length
structure RG (b : Bk) : Prop extends RG0 b where
 used : ∀ k, k < b.attrs.length → dW b.slots k = true
theorem JB (l : List Int) (k : Nat) (hk : k < 64) : (gp l).testBit k = dW l k := by
 have h1 : (gp l).testBit k = decide ((k : Int) ∈ l.map (fun s => s - 1)) := p6 _ k hk
 rw [h1]
 unfold dW
 rw [Bool.eq_iff_iff, decide_eq_true_eq, List.any_eq_true, List.mem_map]
 constructor
 ·rintro ⟨s, hs, he⟩
  exact ⟨s, hs, by rw [beq_iff_eq]; omega⟩
 ·rintro ⟨s, hs, he⟩
  rw [beq_iff_eq] at he
  exact ⟨s, hs, by omega⟩
theorem E4 (l : List Int) : (iH (gp l)).length = ((List.range 64).filter (dW l)).length := by
 unfold iH kA
 rw [List.length_map]
 congr 1
 apply List.filter_congr
 intro k hk
 exact JB l k (List.mem_range.1 hk)
theorem MD {l : List Int} {n k : Nat} (h : ∀ s ∈ l, s ≤ (n : Int)) (hu : dW l k = true) : k < n := by
 unfold dW at hu
 rw [List.any_eq_true] at hu
 obtain ⟨s, hs, he⟩ := hu
 rw [beq_iff_eq] at he
 have := h s hs
 omega
theorem yX (p : Nat → Bool) (n m : Nat) (hnm : n ≤ m) (h : ∀ k, p k = true → k < n) : ((List.range m).filter p).length = ((List.range n).filter p).length := by
 obtain ⟨d, rfl⟩ := Nat.le.dest hnm
 clear hnm
 induction d with
 | zero => rfl
 | succ d ih =>
  rw [show n + (d + 1) = (n + d) + 1 from rfl, List.range_succ, List.filter_append, List.length_append, ih]
  have : p (n + d) = false := by
   cases e : p (n + d) with
   | false => rfl
   | true => have := h _ e; omega
  simp [this]
theorem filter_all {p : Nat → Bool} {n : Nat} : ((List.range n).filter p).length = n ↔ ∀ k, k < n → p k = true := by
 constructor
 ·intro h
  have h2 : ((List.range n).filter p).length = (List.range n).length := by rw [h, List.length_range]
  rw [List.length_filter_eq_length_iff] at h2
  exact fun k hk => h2 k (List.mem_range.2 hk)
 ·intro h
  have h2 : ((List.range n).filter p) = List.range n := List.filter_eq_self.2 (fun k hk => h k (List.mem_range.1 hk))
  rw [h2, List.length_range]
theorem CH {b : Bk} (hn : b.attrs.length ≤ 64) (h : ∀ s ∈ b.slots, s ≤ (b.attrs.length : Int)) : (iH (gp b.slots)).length = b.attrs.length ↔ ∀ k, k < b.attrs.length → dW b.slots k = true := by
 rw [E4, yX _ b.attrs.length 64 hn (fun k hk => MD h hk), filter_all]
theorem C4 (l : List At) : xV l ↔ l.Nodup := by
 unfold xV
 constructor
 ·intro h
  rw [List.nodup_iff_pairwise_ne, List.pairwise_iff_getElem]
  intro i j hi hj hij e
  have h1 := h j hj
  rw [List.any_eq_false] at h1
  refine h1 l[i] (List.mem_take_iff_getElem.2 ⟨i, by omega, rfl⟩) ?_
  rw [m2 _ _ hj, ← e]
  exact pY _
 ·intro h j hj
  rw [List.any_eq_false]
  intro x hx hs
  rw [lG, m2 _ _ hj] at hs
  obtain ⟨i, hi, he⟩ := List.mem_take_iff_getElem.1 hx
  rw [List.nodup_iff_pairwise_ne, List.pairwise_iff_getElem] at h
  exact h i j (by omega) hj (by omega) (by rw [he, hs])
theorem xn (l : List Int) (j : Nat) (h : j < l.length) : rd l (j : Int) = l[j] := by simp [rd, List.getD, h]
theorem RG.of {b : Bk} (hk : BkOk b) (hl : b.slots.length = 64) (h : dC b = true) : RG b := by
 have hp := im h
 have hs : ∀ s ∈ b.slots, 0 ≤ s ∧ s ≤ (b.attrs.length : Int) := fun s hs => ⟨(hk.s8 s hs).1, hp.sa s hs⟩
 refine ⟨⟨hk.a0, hk.a1, hp.first, hp.owner, hp.na, hl, hs, ?_, (C4 _).1 hp.nd, ?_, ?_, hp.zc⟩, (CH hp.na hp.sa).1 hp.used⟩
 ·intro a ha
  obtain ⟨j, hj, rfl⟩ := List.mem_iff_getElem.1 ha
  have := hp.may j hj
  rwa [m2 _ _ hj] at this
 ·intro f hf
  obtain ⟨j, hj, rfl⟩ := List.mem_iff_getElem.1 hf
  have := pU hp hk j hj
  rw [xn _ _ hj] at this
  exact ⟨this.1, this.2.1, this.2.2.2⟩
 ·rw [List.nodup_iff_pairwise_ne, List.pairwise_iff_getElem]
  intro i j hi hj hij e
  have := pU hp hk j hj
  rw [xn _ _ hj] at this
  exact this.2.2.1 (List.mem_take_iff_getElem.2 ⟨i, by omega, e⟩)
theorem RG0.ok {b : Bk} (h : RG0 b) : BkOk b := ⟨h.a0, h.a1, fun s hs => by have := h.s0 s hs; have := h.na; omega, fun f hf => by have := h.f0 f hf; omega⟩
theorem RG.right {b : Bk} (h : RG b) : dC b = true := by
 have hs : ∀ s ∈ b.slots, s ≤ (b.attrs.length : Int) := fun s hs => (h.s0 s hs).2
 unfold dC kK kW
 simp only [Bool.and_eq_true, decide_eq_true_eq, List.all_eq_true, beq_iff_eq, List.mem_range, Bool.not_eq_true']
 refine ⟨h.first, h.owner, h.na, ⟨hs, fun j hj => ⟨?_, (C4 _).2 h.nd j hj⟩, (CH h.na hs).2 h.used⟩, fun j hj => ?_, h.zc⟩
 ·rw [m2 _ _ hj]
  exact h.may _ (List.getElem_mem hj)
 ·unfold jw
  rw [xn _ _ hj]
  have h1 := h.f0 _ (List.getElem_mem hj)
  simp only [Bool.or_eq_false_iff, decide_eq_false_iff_not, bne_eq_false_iff_eq]
  refine ⟨by omega, fun hm => ?_, h1.2.2⟩
  obtain ⟨i, hi, he⟩ := List.mem_take_iff_getElem.1 hm
  have hnd := h.fnd
  rw [List.nodup_iff_pairwise_ne, List.pairwise_iff_getElem] at hnd
  exact hnd i j (by omega) hj (by omega) he
theorem Hb {b : Bk} (h : RG0 b) (i : Nat) (hi : i < 64) (hz : b.slots.getD i 0 = 0) : (i : Int) ∈ b.free := by
 apply Classical.byContradiction
 intro hn
 have h1 : ((i : Int) :: b.free).Nodup := List.nodup_cons.2 ⟨hn, h.fnd⟩
 have h2 := h1.length_le_of_subset (l₂ := (((List.range 64).filter (fun k => b.slots.getD k 0 == 0)).map (fun k : Nat => (k : Int)))) (by
  intro x hx
  rw [List.mem_map]
  rcases List.mem_cons.1 hx with rfl | hx
  ·exact ⟨i, List.mem_filter.2 ⟨List.mem_range.2 hi, by rw [hz]; rfl⟩, rfl⟩
  ·have := h.f0 x hx
   exact ⟨x.toNat, List.mem_filter.2 ⟨List.mem_range.2 (by omega), by rw [this.2.2]; rfl⟩, by omega⟩)
 have h3 : ((List.range 64).filter (fun k => b.slots.getD k 0 == 0)).length = b.slots.countP (fun x => x == 0) := by
  have e : b.slots = (List.range 64).map (fun k => b.slots.getD k 0) := by
   apply List.ext_getElem
   ·simp [h.l64]
   ·intro k h1 h2
    simp [List.getD, h1]
  conv => rhs; rw [e]
  rw [List.countP_map, List.countP_eq_length_filter]
  rfl
 rw [List.length_cons, List.length_map, h3, h.zc] at h2
 omega
end Go.Proofs.Ytemhalnhbgkbcaa.V
end

section
namespace Go.Proofs.Ytemhalnhbgkbcaa.V
theorem getD_set_ne {l : List Int} {i j : Nat} (x : Int) (h : i ≠ j) : (l.set i x).getD j 0 = l.getD j 0 := by
 simp [List.getD, List.getElem?_set_ne h]
theorem Fa {l : List Int} {i : Nat} (x : Int) (h : i < l.length) : (l.set i x).getD i 0 = x := by
 simp [List.getD, h]
theorem getD_eq {l : List Int} {i : Nat} (h : i < l.length) : l.getD i 0 = l[i] := by simp [List.getD, h]
theorem countP_set {l : List Int} {i : Nat} (x : Int) (h : i < l.length) (h0 : l.getD i 0 = 0) (hx : x ≠ 0) : (l.set i x).countP (fun s => s == 0) + 1 = l.countP (fun s => s == 0) := by
 rw [getD_eq h] at h0
 rw [List.countP_set h]
 have h1 : 1 ≤ l.countP (fun s => s == 0) := by
  rw [Nat.one_le_iff_ne_zero, Ne, List.countP_eq_zero]
  intro hc
  exact hc _ (List.getElem_mem h) (by rw [h0]; rfl)
 rw [h0]
 have e1 : ((0 : Int) == 0) = true := rfl
 have e2 : (x == 0) = false := by simpa using hx
 rw [e1, e2]
 simp
 omega
theorem Fb {l : List Int} {i : Nat} (h : i < l.length) (h0 : l.getD i 0 ≠ 0) : (l.set i 0).countP (fun s => s == 0) = l.countP (fun s => s == 0) + 1 := by
 rw [getD_eq h] at h0
 rw [List.countP_set h]
 have e1 : ((0 : Int) == 0) = true := rfl
 have e2 : (l[i] == 0) = false := by simpa using h0
 rw [e1, e2]
 simp
theorem CG {l : List Int} {i k : Nat} (x : Int) (h : i < l.length) (h0 : l.getD i 0 = 0) (hu : dW l k = true) : dW (l.set i x) k = true := by
 rw [getD_eq h] at h0
 unfold dW at hu ⊢
 rw [List.any_eq_true] at hu ⊢
 obtain ⟨s, hs, he⟩ := hu
 refine ⟨s, ?_, he⟩
 obtain ⟨j, hj, rfl⟩ := List.mem_iff_getElem.1 hs
 have hne : i ≠ j := by
  rintro rfl
  rw [beq_iff_eq, h0] at he
  omega
 exact List.mem_iff_getElem.2 ⟨j, by simpa using hj, by rw [List.getElem_set_ne hne]⟩
theorem ym {l : List Int} (h : l.Nodup) {i : Int} (hi : i ∈ l) : (l.filter (fun x => x != i)).length + 1 = l.length := by
 induction l with
 | nil => cases hi
 | cons y l ih =>
  rw [List.nodup_cons] at h
  by_cases e : y = i
  ·subst e
   have : l.filter (fun x => x != y) = l := List.filter_eq_self.2 (fun x hx => by
    have : x ≠ y := fun e => h.1 (e ▸ hx)
    simpa using this)
   simp [this]
  ·rcases List.mem_cons.1 hi with e2 | hi
   ·exact absurd e2.symm e
   ·have := ih h.2 hi
    have e3 : (y != i) = true := by simpa using e
    simp only [List.filter_cons, e3, if_true, List.length_cons]
    omega
theorem RG.sum {b : Bk} (h : RG b) : b.attrs.length + b.free.length ≤ 64 := (im h.right).sum_le h.ok h.l64
theorem OK {l : List At} {a : At} : (∃ i, i < l.length ∧ eQ l a = i + 1 ∧ eu l a = l) ∨ (a ∉ l ∧ eQ l a = l.length + 1 ∧ eu l a = l ++ [a]) := by
 unfold eQ eu
 cases h : gf l a with
 | some i => exact Or.inl ⟨i, yi h, rfl, rfl⟩
 | none =>
  refine Or.inr ⟨fun hm => ?_, rfl, rfl⟩
  unfold gf at h
  rw [List.findIdx?_eq_none_iff] at h
  have := h a hm
  rw [pY] at this
  cases this
theorem RG.give {b : Bk} (h : RG b) (i : Nat) (hi : i < 64) (hz : b.slots.getD i 0 = 0) (a : At) (ha : ep a = true) : RG (fT b i a) := by
 have hil : i < b.slots.length := by rw [h.l64]; exact hi
 have hfr := Hb h.toRG0 i hi hz
 have hsum := h.sum
 have hfl : 1 ≤ b.free.length := List.length_pos_of_mem hfr
 have hfe := ym h.fnd hfr
 have DA : ∀ f ∈ (fT b i a).free, 0 ≤ f ∧ f < 64 ∧ (fT b i a).slots.getD f.toNat 0 = 0 := by
  intro f hf
  obtain ⟨hf, hne⟩ := List.mem_filter.1 hf
  have h1 := h.f0 f hf
  have YQ : f ≠ (i : Int) := by simpa using hne
  refine ⟨h1.1, h1.2.1, ?_⟩
  show (b.slots.set i _).getD f.toNat 0 = 0
  rw [getD_set_ne _ (by omega)]
  exact h1.2.2
 have hnz : ((eQ b.attrs a : Nat) : Int) ≠ 0 := by have := Fv b.attrs a; omega
 have hzc : (fT b i a).slots.countP (fun x => x == 0) = (fT b i a).free.length := by
  have := countP_set (x := ((eQ b.attrs a : Nat) : Int)) hil hz hnz
  have qH := h.zc
  show (b.slots.set i _).countP _ = (b.free.filter _).length
  omega
 have hl : (fT b i a).slots.length = 64 := by show (b.slots.set i _).length = 64; rw [List.length_set]; exact h.l64
 rcases @OK b.attrs a with ⟨m, hm, hn, had⟩ | ⟨hnm, hn, had⟩
 ·have e : (fT b i a).attrs = b.attrs := had
  refine ⟨⟨h.a0, h.a1, h.first, h.owner, by rw [e]; exact h.na, hl, ?_, by rw [e]; exact h.may, by rw [e]; exact h.nd, DA, h.fnd.filter _, hzc⟩, ?_⟩
  ·intro s hs
   rw [e]
   rcases List.mem_or_eq_of_mem_set hs with hs | rfl
   ·exact h.s0 s hs
   ·rw [hn]; omega
  ·intro k hk
   rw [e] at hk
   exact CG _ hil hz (h.used k hk)
 ·have e : (fT b i a).attrs = b.attrs ++ [a] := had
  have el : (fT b i a).attrs.length = b.attrs.length + 1 := by rw [e]; simp
  refine ⟨⟨h.a0, h.a1, h.first, h.owner, by omega, hl, ?_, ?_, ?_, DA, h.fnd.filter _, hzc⟩, ?_⟩
  ·intro s hs
   rw [el]
   rcases List.mem_or_eq_of_mem_set hs with hs | rfl
   ·have := h.s0 s hs; omega
   ·rw [hn]; omega
  ·rw [e]
   intro x hx
   rcases List.mem_append.1 hx with hx | hx
   ·exact h.may x hx
   ·rw [List.mem_singleton.1 hx]; exact ha
  ·rw [e, List.nodup_append]
   refine ⟨h.nd, by simp, ?_⟩
   intro x hx y hy e2
   rw [List.mem_singleton.1 hy] at e2
   exact hnm (e2 ▸ hx)
  ·intro k hk
   rw [el] at hk
   rcases Nat.lt_or_ge k b.attrs.length with h1 | h1
   ·exact CG _ hil hz (h.used k h1)
   ·obtain rfl : k = b.attrs.length := by omega
    show dW (b.slots.set i ((eQ b.attrs a : Nat) : Int)) _ = true
    unfold dW
    rw [List.any_eq_true]
    exact ⟨_, List.mem_set hil _, by rw [hn, beq_iff_eq]⟩
theorem RG.asg {b : Bk} (h : RG b) (a : At) (ha : ep a = true) : ∀ k, k ≤ b.free.length → RG (fq b k a) := by
 have hp := im h.right
 intro k
 induction k with
 | zero => intro _; rw [KA]; exact h
 | succ k ih =>
  intro hk
  have h1 := ih (by omega)
  have h2 := pU hp h.ok k (by omega)
  have h3 := Ep b k a (by omega)
  rw [← DJ hp h.ok k (by omega) a]
  refine h1.give _ (by omega) ?_ a ha
  have h4 := h1.f0 (rd (fq b k a).free 0) (by
   have h5 := xn (fq b k a).free 0 h3.1
   have h6 : rd (fq b k a).free ((0 : Nat) : Int) = rd (fq b k a).free 0 := rfl
   rw [h6] at h5
   rw [h5]
   exact List.getElem_mem _)
  rw [h3.2] at h4
  exact h4.2.2
theorem RG.own {b : Bk} (h : RG b) (s : ByteArray) (hs : fS s = true) : RG (Gy b s) :=
 ⟨⟨h.a0, h.a1, h.first, hs, h.na, h.l64, h.s0, h.may, h.nd, h.f0, h.fnd, h.zc⟩, h.used⟩
end Go.Proofs.Ytemhalnhbgkbcaa.V
end

section
namespace Go.Proofs.Ytemhalnhbgkbcaa.V
theorem RG0.relF {s : Bk × List Int} (h : RG0 s.1) (x : Int) : RG0 (relF s x).1 := by
 unfold V.relF
 split
 ·rename_i hh
  obtain ⟨h1, h2, h3, h4⟩ := wN hh
  obtain ⟨b, o⟩ := s
  simp only at h h1 h2 h3 h4 ⊢
  obtain ⟨j, hj⟩ : ∃ j : Nat, x - b.addr = (j : Int) := ⟨(x - b.addr).toNat, by omega⟩
  rw [hj] at h4 h2 ⊢
  rw [Int.toNat_natCast] at h4 ⊢
  have hjl : j < b.slots.length := by rw [h.l64]; omega
  have lT : b.slots.getD j 0 ≠ 0 := by simpa using h4
  have hnf : (j : Int) ∉ b.free := fun hm => lT (by have := (h.f0 _ hm).2.2; rwa [Int.toNat_natCast] at this)
  refine ⟨h.a0, h.a1, h.first, h.owner, h.na, by rw [List.length_set]; exact h.l64, ?_, h.may, h.nd, ?_, ?_, ?_⟩
  ·intro s hs
   rcases List.mem_or_eq_of_mem_set hs with hs | rfl
   ·exact h.s0 s hs
   ·omega
  ·intro f hf
   rcases List.mem_append.1 hf with hf | hf
   ·have h5 := h.f0 f hf
    refine ⟨h5.1, h5.2.1, ?_⟩
    have hne : j ≠ f.toNat := by
     rintro rfl
     exact lT h5.2.2
    rw [getD_set_ne _ hne]
    exact h5.2.2
   ·rw [List.mem_singleton.1 hf]
    refine ⟨by omega, by omega, ?_⟩
    rw [Int.toNat_natCast, Fa _ hjl]
  ·rw [List.nodup_append]
   refine ⟨h.fnd, by simp, ?_⟩
   intro y hy z hz e
   rw [List.mem_singleton.1 hz] at e
   exact hnf (e ▸ hy)
  ·rw [Fb hjl lT, List.length_append, List.length_singleton, h.zc]
 ·exact h
theorem RG0.relL {b : Bk} (h : RG0 b) (l : List Int) : RG0 (relL b l).1 := by
 unfold V.relL
 suffices hh : ∀ s : Bk × List Int, RG0 s.1 → RG0 (l.foldl V.relF s).1 from hh (b, []) h
 induction l with
 | nil => exact fun s hs => hs
 | cons x l ih => exact fun s hs => ih _ (hs.relF x)
theorem qO (l : List Int) {j k : Nat} (h : j ≤ k) : fF l j ≤ fF l k := by
 obtain ⟨d, rfl⟩ := Nat.le.dest h
 clear h
 induction d with
 | zero => exact Nat.le_refl _
 | succ d ih => rw [show j + (d + 1) = (j + d) + 1 from rfl, j3]; omega
theorem JL (l : List Int) : ∀ (n k : Nat), k < fF l n → ∃ j, j < n ∧ dW l j = true ∧ fF l j = k := by
 intro n
 induction n with
 | zero => intro k h; cases h
 | succ n ih =>
  intro k h
  rw [j3] at h
  rcases Nat.lt_or_ge k (fF l n) with h1 | h1
  ·obtain ⟨j, hj, h2⟩ := ih k h1
   exact ⟨j, by omega, h2⟩
  ·cases hu : dW l n with
   | true => rw [hu, if_pos rfl] at h; exact ⟨n, by omega, hu, by omega⟩
   | false => rw [hu, if_neg (by decide)] at h; omega
theorem Dd (b : Bk) : (jf b b.attrs.length).Sublist b.attrs := by
 have e : b.attrs = (List.range b.attrs.length).map (gh b.attrs) := by
  apply List.ext_getElem
  ·simp
  ·intro k h1 h2
   simp [m2 _ _ h1]
 unfold jf
 conv => rhs; rw [e]
 exact (List.filter_sublist).map _
theorem JK {l : List Int} {s : Int} (h : s ∈ l) (h0 : 1 ≤ s) : 1 ≤ fF l s.toNat := by
 have h1 := rv l s h h0
 have h2 := j3 l (s.toNat - 1)
 rw [h1, if_pos rfl, Nat.sub_add_cancel (by omega)] at h2
 omega
theorem RG0.cmp {b : Bk} (h : RG0 b) : RG (lu b) := by
 have hkl : (lu b).attrs.length = fF b.slots b.attrs.length := mJ _ _
 have hz : ∀ s ∈ b.slots, ((fF b.slots s.toNat : Nat) : Int) = 0 ↔ s = 0 := by
  intro s hs
  constructor
  ·intro e
   rcases Int.lt_or_le 0 s with h1 | h1
   ·have := JK hs h1; omega
   ·have := h.s0 s hs; omega
  ·rintro rfl
   rfl
 refine ⟨⟨h.a0, h.a1, h.first, h.owner, ?_, by show (b.slots.map _).length = 64; rw [List.length_map]; exact h.l64, ?_, ?_, ?_, ?_, h.fnd, ?_⟩, ?_⟩
 ·rw [hkl]; have := ye b.slots b.attrs.length; have := h.na; omega
 ·intro s hs
  obtain ⟨t, ht, rfl⟩ := List.mem_map.1 hs
  have h1 := h.s0 t ht
  have h2 := qO b.slots (show t.toNat ≤ b.attrs.length by omega)
  rw [hkl]
  omega
 ·exact fun a ha => h.may a ((Dd b).subset ha)
 ·exact h.nd.sublist (Dd b)
 ·intro f hf
  have h1 := h.f0 f hf
  refine ⟨h1.1, h1.2.1, ?_⟩
  have hfl : f.toNat < b.slots.length := by rw [h.l64]; omega
  show (b.slots.map _).getD f.toNat 0 = 0
  rw [getD_eq (by rw [List.length_map]; exact hfl), List.getElem_map, ← getD_eq hfl, h1.2.2]
  rfl
 ·show (b.slots.map _).countP _ = b.free.length
  rw [List.countP_map, ← h.zc]
  apply List.countP_congr
  intro s hs
  simp only [Function.comp, beq_iff_eq]
  exact hz s hs
 ·intro k hk
  rw [hkl] at hk
  obtain ⟨j, hj, hu, hr⟩ := JL _ _ _ hk
  unfold dW at hu ⊢
  rw [List.any_eq_true] at hu ⊢
  obtain ⟨s, hs, he⟩ := hu
  rw [beq_iff_eq] at he
  refine ⟨_, List.mem_map.2 ⟨s, hs, rfl⟩, ?_⟩
  rw [beq_iff_eq, he, Int.toNat_natCast, j3, if_pos, hr]
  unfold dW
  rw [List.any_eq_true]
  exact ⟨s, hs, by rw [beq_iff_eq]; exact he⟩
theorem RG.rel {b : Bk} (h : RG b) (l : List Int) : RG (nP b l) := (h.toRG0.relL l).cmp
def CP (l : List Int) (j : Nat) (s : Int) : Int := if s ≤ (j : Int) then s else (j : Int) + ((fF l s.toNat - fF l j : Nat) : Int)
def iN (b : Bk) (j : Nat) : Bk := ⟨b.addr, b.aff, b.slots.map (CP b.slots j), b.free, b.attrs.take j ++ (jf b b.attrs.length).drop (fF b.slots j)⟩
theorem JV (b : Bk) (j d : Nat) : ∃ r, jf b (j + d) = jf b j ++ r := by
 induction d with
 | zero => exact ⟨[], by simp⟩
 | succ d ih =>
  obtain ⟨r, hr⟩ := ih
  exact ⟨_, by rw [show j + (d + 1) = (j + d) + 1 from rfl, qR, hr, List.append_assoc]⟩
theorem Kk {b : Bk} (h : ∀ s ∈ b.slots, s ≤ (b.attrs.length : Int)) : iN b b.attrs.length = b := by
 obtain ⟨a, f, s, fr, at_⟩ := b
 unfold iN
 congr 1
 ·conv => rhs; rw [← List.map_id s]
  apply List.map_congr_left
  intro x hx
  unfold CP
  rw [if_pos (h x hx)]
  rfl
 ·show at_.take at_.length ++ _ = at_
  rw [List.take_length, ← mJ, List.drop_length, List.append_nil]
theorem IP {b : Bk} (h : ∀ s ∈ b.slots, 0 ≤ s) : iN b 0 = lu b := by
 unfold iN lu
 congr 1
 apply List.map_congr_left
 intro x hx
 have h0 := h x hx
 unfold CP
 split
 ·have : x = 0 := by omega
  subst this
  rfl
 ·rw [show fF b.slots 0 = 0 from rfl]
  simp
theorem K9 {l : List Int} {j : Nat} {s : Int} (hs : s ∈ l) : CP l (j + 1) s = ((j + 1 : Nat) : Int) ↔ s = ((j + 1 : Nat) : Int) := by
 unfold CP
 split
 ·exact Iff.rfl
 ·rename_i h1
  have h2 := qO l (show j + 1 ≤ s.toNat - 1 by omega)
  have h3 := rv l s hs (by omega)
  have h4 := j3 l (s.toNat - 1)
  rw [h3, if_pos rfl, Nat.sub_add_cancel (by omega)] at h4
  constructor
  ·intro e; omega
  ·intro e; omega
theorem IQ (b : Bk) (j : Nat) : dW (iN b (j + 1)).slots j = dW b.slots j := by
 unfold dW
 rw [Bool.eq_iff_iff, List.any_eq_true, List.any_eq_true]
 constructor
 ·rintro ⟨s, hs, he⟩
  obtain ⟨t, ht, rfl⟩ := List.mem_map.1 hs
  rw [beq_iff_eq] at he
  exact ⟨t, ht, by rw [beq_iff_eq]; exact (K9 ht).1 he⟩
 ·rintro ⟨s, hs, he⟩
  rw [beq_iff_eq] at he
  exact ⟨_, List.mem_map.2 ⟨s, hs, rfl⟩, by rw [beq_iff_eq]; exact (K9 hs).2 he⟩
theorem DV {b : Bk} {j : Nat} (hj : j < b.attrs.length) (hu : dW b.slots j = true) : (jf b b.attrs.length).drop (fF b.slots j) = gh b.attrs j :: (jf b b.attrs.length).drop (fF b.slots (j + 1)) := by
 obtain ⟨d, hd⟩ := Nat.le.dest (show j + 1 ≤ b.attrs.length from hj)
 obtain ⟨r, hr⟩ := JV b (j + 1) d
 rw [hd] at hr
 rw [hr, qR, hu, if_pos rfl, j3, hu, if_pos rfl, List.append_assoc, ← mJ b j, List.drop_left]
 rw [show (jf b j).length + 1 = (jf b j ++ [gh b.attrs j]).length by simp, ← List.append_assoc, List.drop_left]
 rfl
theorem IS {b : Bk} (j : Nat) (hj : j < b.attrs.length) : (if dW (iN b (j + 1)).slots j = true then iN b (j + 1) else kt (iN b (j + 1)) j) = iN b j := by
 rw [IQ]
 cases hu : dW b.slots j with
 | true =>
  rw [if_pos rfl]
  unfold iN
  congr 1
  ·apply List.map_congr_left
   intro s hs
   unfold CP
   have h1 := j3 b.slots j
   rw [hu, if_pos rfl] at h1
   by_cases a1 : s ≤ (j : Int)
   ·rw [if_pos (by omega), if_pos a1]
   ·rw [if_neg a1]
    by_cases a2 : s ≤ ((j + 1 : Nat) : Int)
    ·rw [if_pos a2]
     have : s.toNat = j + 1 := by omega
     rw [this]
     omega
    ·rw [if_neg a2]
     have h2 := qO b.slots (show j + 1 ≤ s.toNat by omega)
     omega
  ·rw [DV hj hu, uw _ _ hj]
   simp
 | false =>
  rw [if_neg (by decide)]
  have h1 : fF b.slots (j + 1) = fF b.slots j := by
   rw [j3, hu, if_neg (by decide)]
   rfl
  unfold iN kt
  simp only
  congr 1
  ·rw [List.map_map]
   apply List.map_congr_left
   intro s hs
   have hns : s ≠ ((j + 1 : Nat) : Int) := by
    rintro rfl
    have := rv b.slots _ hs (by omega)
    rw [Int.toNat_natCast, Nat.add_sub_cancel, hu] at this
    cases this
   simp only [Function.comp]
   unfold lK CP
   rw [h1]
   by_cases a1 : s ≤ (j : Int)
   ·rw [if_pos a1, if_pos (show s ≤ ((j + 1 : Nat) : Int) by omega), if_neg (by omega)]
   ·rw [if_neg a1, if_neg (show ¬ s ≤ ((j + 1 : Nat) : Int) by omega)]
    have h2 := qO b.slots (show j + 1 ≤ s.toNat - 1 by omega)
    have h3 := rv b.slots s hs (by omega)
    have h4 := j3 b.slots (s.toNat - 1)
    rw [h3, if_pos rfl, Nat.sub_add_cancel (by omega)] at h4
    rw [if_pos (by omega)]
    omega
  ·rw [h1]
   have e1 : (b.attrs.take (j + 1)).length = j + 1 := by rw [List.length_take]; omega
   rw [List.take_append_of_le_length (by omega), List.take_take, Nat.min_eq_left (by omega), show j + 1 = (b.attrs.take (j + 1)).length from e1.symm, e1, List.drop_append_of_le_length (by omega), List.drop_eq_nil_of_le (by omega), List.nil_append]
theorem IX {b : Bk} : ∀ j, j ≤ b.attrs.length → p9 j (iN b j) = iN b 0 := by
 intro j
 induction j with
 | zero => intro _; rfl
 | succ j ih =>
  intro h
  show p9 j (if dW (iN b (j + 1)).slots j = true then iN b (j + 1) else kt (iN b (j + 1)) j) = _
  rw [IS j (by omega)]
  exact ih (by omega)
theorem yn {b : Bk} (h : RG b) (l : List Int) : p9 b.attrs.length (relL b l).1 = nP b l := by
 have h1 := h.toRG0.relL l
 have h2 := (yI b l).1
 unfold nP
 rw [← h2, ← IP (fun s hs => (h1.s0 s hs).1), ← IX (b := (relL b l).1) _ (Nat.le_refl _), Kk (fun s hs => (h1.s0 s hs).2)]
end Go.Proofs.Ytemhalnhbgkbcaa.V
end

section
namespace Go.Proofs.Ytemhalnhbgkbcaa.V
theorem bJ {P : Program} {ops : Array Oper} {Q : Exit → Act → World → Prop} {oi : Oper} {a : Act} {w : World} {K : Act → World → Prop} (hw : Region.wanted oi (yielded ops a.tmps) = true) (hN : oi.dst = none) (ty : TypeId) (x y : Operand) (ho : oi.op = .store ty x y)
  (g : Nat) (cs : List Value) (hx : a.eval x = .pointer (some ⟨g, 0, none⟩)) (hy : a.eval y = .agg cs.toArray)
  (t : Nat) (sF : List Value) (hb : aH w g sF t) (n : Nat) (hi : (P.info? ty).map (·.size) = some n) (hn : cs.length = n) (hold : sF.length = n) (h1 : ∀ v ∈ cs, v.oneCell' = true)
  (h : ∀ W1, aH W1 g cs t → w.grownBy W1 (some g) → K a W1) : if Region.wanted oi (yielded ops a.tmps) = true then Oper.wp P oi a w K Q else K (a.put none undef) w := by
 have hrun : (execOp a.eval oi).run P w = .ok .skip (w.setRow g cs.toArray) := by
  unfold execOp
  simp only [ho, hx, hy, Instr.storeAt, Instr.sureAddr, Sem.run_bind, Sem.run_pure, Result.andThen_ok, run_storeVar_row w g t ty sF.toArray cs.toArray hb (by rw [hi]; simp [hn]) (by simp; omega) (by rw [Array.all_eq_true_iff_forall_mem]; intro v hv; exact h1 v (by simpa using hv))]
 exact qN hw hN hrun (h _ (setRow_heap w g sF.toArray cs.toArray t (0, 0) hb) (rB w g _))
theorem dO {P : Program} {ops : Array Oper} {Q : Exit → Act → World → Prop} {oi : Oper} {a : Act} {w : World} {K : Act → World → Prop} (hw : Region.wanted oi (yielded ops a.tmps) = true) (ty : TypeId) (ho : oi.op = .alloc ty) (cs : List Value) (hz : ∀ w, (zeroValue ty).run P w = .ok (.agg cs.toArray) w)
  (h : ∀ g W1, w.heap.size ≤ g → aH W1 g cs ty → Below w.heap.size w W1 → K (a.put oi.dst (.pointer (some ⟨g, 0, none⟩))) W1) : if Region.wanted oi (yielded ops a.tmps) = true then Oper.wp P oi a w K Q else K (a.put oi.dst undef) w := by
 have := h w.heap.size (w.alloc (.cells cs.toArray ty)) (Nat.le_refl _) (heap_alloc_new w _) (af (Below.refl _ _) _)
 rw [if_pos hw]
 unfold Oper.wp execOp
 simp only [ho, Instr.alloc, newVar, newRow, newObj, Value.cells, Sem.run_bind, hz, Result.andThen_ok]
 exact this
end Go.Proofs.Ytemhalnhbgkbcaa.V
end

section
namespace Go.Proofs.Ytemhalnhbgkbcaa.V
set_option maxHeartbeats 16000000 in
set_option maxRecDepth 100000 in
theorem GZ (b : Bk) (hk : BkOk b) (x q : Int) (pb : Bool) (a : At) (hpl : ∀ (v : Value) (w : World), iz w v b → Calls Try.prog 92 #[v, .int .u32 x] w fun e w' => e = .returned (.tuple #[.int .i64 q, .bool pb]) ∧ Below w.heap.size w w') (hno : (dC b && (ep a && pb)) = false) (v : Value) (w : World) (h : iz w v b) :
  Calls Try.prog 51 #[v, .int .u32 x, eT a] w fun e w' => ∃ v', e = .returned (.tuple #[v', .int .i64 1]) ∧ ey w' w.heap.size v' km ∧ Below w.heap.size w w' := by
 obtain ⟨A, c, A', c', rfl, hr⟩ := h
 have HL := ak hr.l64
 have HR := ak hr
 have HK := ak hk
 have ag := ak (Below.refl w.heap.size w)
 have HPL := ak hpl
 clear hr hk hpl
 cases hrt : dC b with
 | false =>
  have HRT := ak hrt
  clear hrt hno
  go_enter Try.func51, Try.ntmps51
  go_wp2_with (first
   | (refine aD rfl 57 (.tmp 0) rfl _ rfl ?_; intro gX W1 J aa I; have cg := ge ag J; have ao := ak (ag.out.trans (I.mono ag.out.size)); have aj := ak (aa); clear J aa I ag)
   | (refine aD rfl 85 (.tmp 2) rfl _ rfl ?_; intro gA W2 J aa I; have ld := ge ao J; have eO := ne aj J; have ay := mv I ao; have aw := mv I aj; have cr := ak (aa); clear J aa I ao aj)
   | (refine au (some 6) rfl rfl 57 rfl a6 bT ?_; intro gZ W3 J aa I; have cb := ge ay J; have aG := ne aw J; have gD := ne cr J; have aE := mv I ay; have aC := mv I aw; have dm := mv I cr; have cd := ak (aa); clear J aa I ay aw cr)
   | ((with_reducible refine av (N := 11) rfl ?_); refine az rfl 57 (.tmp 3) rfl gX rfl _ _ _ aC.out Try.underlying57 rfl 68 (by kernel_rfl) (ah _ _ _ _ _ HL.out) ?_)
   | (go_at_call 92; refine (HPL.out _ _ ⟨A, c, A', c', rfl, HR.out.below aE.out⟩).mono ?_; rintro e W4 ⟨rfl, I⟩; have a8 := mv I aE; have aY := mv I aC; have dK := mv I dm; have bd := mv I cd; clear I aE aC dm cd)
   | ((with_reducible refine av (N := 17) rfl ?_); obtain ⟨gI, J⟩ : ∃ g_, g_ = W4.heap.size := ⟨_, rfl⟩; rw [← J]; generalize bY : W4.alloc (.cells #[.int .i64 q] 3) = W5; have I : Below W4.heap.size W4 W5 := (by rw [← bY]; exact af (Below.refl _ _) _); have aa : aH W5 gI [.int .i64 q] 3 := (by rw [← bY, J]; exact heap_alloc_new W4 _); have fX : W4.heap.size ≤ gI := Nat.le_of_eq J.symm; have xD := ge a8 fX; have mT := ne aY fX; have vO := ne dK fX; have vI := ne bd fX; have bj := mv I a8; have bc := mv I aY; have eZ := mv I dK; have bI := mv I bd; have j6 := ak (aa); clear bY I aa fX J a8 aY dK bd; refine az rfl 57 (.tmp 3) rfl gX rfl _ _ _ bc.out Try.underlying57 rfl 68 (by kernel_rfl) (ah _ _ _ _ _ HL.out) ?_)
   | (go_at_call 48; refine (ee b HK.out _ _ ⟨A, c, A', c', rfl, HR.out.below bj.out⟩).mono ?_; rintro e W6 ⟨rfl, I⟩; rw [HRT.out]; have bO := mv I bj; have bl := mv I bc; have fK := mv I eZ; have bW := mv I bI; have lD := mv I j6; clear I bj bc eZ bI j6)
   | (refine fE rfl 57 #[] rfl a6 kZ ?_)
   | (refine aK rfl 57 (.tmp 6) (.tmp 29) rfl gZ a6 rfl rfl 57 _ bW.out 68 (by kernel_rfl) rfl rfl ij ?_; intro W7 aa J; have ew := gb bO cb J; have dI := gn bl aG J; have kI := gx fK bW J; have dz := ak (aa); have lg := gx lD bW J; clear aa J bO bl fK bW lD))
  exact bodyPost_ret (eX rfl _ _ gZ 57 _ (0, 0) _ rfl dz.out Try.underlying57 rfl (by simp only [List.size_toArray]; exact ch _ rfl)) rfl ⟨_, rfl, mr _ _, ew.out⟩
 | true =>
  have HRT := ak hrt
  cases hm : ep a with
  | false =>
   have HMY := ak hm
   clear hrt hno hm
   go_enter Try.func51, Try.ntmps51
   go_wp2_with (first
    | (refine aD rfl 57 (.tmp 0) rfl _ rfl ?_; intro gX W1 J aa I; have cg := ge ag J; have ao := ak (ag.out.trans (I.mono ag.out.size)); have aj := ak (aa); clear J aa I ag)
    | (refine aD rfl 85 (.tmp 2) rfl _ rfl ?_; intro gA W2 J aa I; have ld := ge ao J; have eO := ne aj J; have ay := mv I ao; have aw := mv I aj; have cr := ak (aa); clear J aa I ao aj)
    | (refine au (some 6) rfl rfl 57 rfl a6 bT ?_; intro gZ W3 J aa I; have cb := ge ay J; have aG := ne aw J; have gD := ne cr J; have aE := mv I ay; have aC := mv I aw; have dm := mv I cr; have cd := ak (aa); clear J aa I ay aw cr)
    | ((with_reducible refine av (N := 11) rfl ?_); refine az rfl 57 (.tmp 3) rfl gX rfl _ _ _ aC.out Try.underlying57 rfl 68 (by kernel_rfl) (ah _ _ _ _ _ HL.out) ?_)
    | (go_at_call 92; refine (HPL.out _ _ ⟨A, c, A', c', rfl, HR.out.below aE.out⟩).mono ?_; rintro e W4 ⟨rfl, I⟩; have a8 := mv I aE; have aY := mv I aC; have dK := mv I dm; have bd := mv I cd; clear I aE aC dm cd)
    | ((with_reducible refine av (N := 17) rfl ?_); obtain ⟨gI, J⟩ : ∃ g_, g_ = W4.heap.size := ⟨_, rfl⟩; rw [← J]; generalize bY : W4.alloc (.cells #[.int .i64 q] 3) = W5; have I : Below W4.heap.size W4 W5 := (by rw [← bY]; exact af (Below.refl _ _) _); have aa : aH W5 gI [.int .i64 q] 3 := (by rw [← bY, J]; exact heap_alloc_new W4 _); have fX : W4.heap.size ≤ gI := Nat.le_of_eq J.symm; have xD := ge a8 fX; have mT := ne aY fX; have vO := ne dK fX; have vI := ne bd fX; have bj := mv I a8; have bc := mv I aY; have eZ := mv I dK; have bI := mv I bd; have j6 := ak (aa); clear bY I aa fX J a8 aY dK bd; refine az rfl 57 (.tmp 3) rfl gX rfl _ _ _ bc.out Try.underlying57 rfl 68 (by kernel_rfl) (ah _ _ _ _ _ HL.out) ?_)
    | (go_at_call 48; refine (ee b HK.out _ _ ⟨A, c, A', c', rfl, HR.out.below bj.out⟩).mono ?_; rintro e W6 ⟨rfl, I⟩; rw [HRT.out]; have bO := mv I bj; have bl := mv I bc; have fK := mv I eZ; have bW := mv I bI; have lD := mv I j6; clear I bj bc eZ bI j6)
    | ((with_reducible refine av (N := 21) rfl ?_); refine eK (by rfl) ?_; refine az rfl 85 (.tmp 5) rfl gA rfl _ _ _ fK.out Try.underlying85 rfl 2 (by kernel_rfl) rfl ?_)
    | (go_at_call 88; refine (jR a _).mono ?_; rintro e W7 ⟨rfl, I⟩; rw [HMY.out]; have ew := mv I bO; have dI := mv I bl; have kI := mv I fK; have dz := mv I bW; have lg := mv I lD; clear I bO bl fK bW lD)
    | (refine fE rfl 57 #[] rfl a6 kZ ?_)
    | (refine aK rfl 57 (.tmp 6) (.tmp 29) rfl gZ a6 rfl rfl 57 _ dz.out 68 (by kernel_rfl) rfl rfl ij ?_; intro W8 aa J; have iM := gb ew cb J; have iK := gn dI aG J; have EH := gx kI dz J; have jc := ak (aa); have yw := gx lg dz J; clear aa J ew dI kI dz lg))
   exact bodyPost_ret (eX rfl _ _ gZ 57 _ (0, 0) _ rfl jc.out Try.underlying57 rfl (by simp only [List.size_toArray]; exact ch _ rfl)) rfl ⟨_, rfl, mr _ _, iM.out⟩
  | true =>
   have HMY := ak hm
   rw [hrt, hm] at hno
   obtain rfl : pb = false := by simpa using hno
   clear hrt hno hm
   go_enter Try.func51, Try.ntmps51
   go_wp2_with (first
    | (refine aD rfl 57 (.tmp 0) rfl _ rfl ?_; intro gX W1 J aa I; have cg := ge ag J; have ao := ak (ag.out.trans (I.mono ag.out.size)); have aj := ak (aa); clear J aa I ag)
    | (refine aD rfl 85 (.tmp 2) rfl _ rfl ?_; intro gA W2 J aa I; have ld := ge ao J; have eO := ne aj J; have ay := mv I ao; have aw := mv I aj; have cr := ak (aa); clear J aa I ao aj)
    | (refine au (some 6) rfl rfl 57 rfl a6 bT ?_; intro gZ W3 J aa I; have cb := ge ay J; have aG := ne aw J; have gD := ne cr J; have aE := mv I ay; have aC := mv I aw; have dm := mv I cr; have cd := ak (aa); clear J aa I ay aw cr)
    | ((with_reducible refine av (N := 11) rfl ?_); refine az rfl 57 (.tmp 3) rfl gX rfl _ _ _ aC.out Try.underlying57 rfl 68 (by kernel_rfl) (ah _ _ _ _ _ HL.out) ?_)
    | (go_at_call 92; refine (HPL.out _ _ ⟨A, c, A', c', rfl, HR.out.below aE.out⟩).mono ?_; rintro e W4 ⟨rfl, I⟩; have a8 := mv I aE; have aY := mv I aC; have dK := mv I dm; have bd := mv I cd; clear I aE aC dm cd)
    | ((with_reducible refine av (N := 17) rfl ?_); obtain ⟨gI, J⟩ : ∃ g_, g_ = W4.heap.size := ⟨_, rfl⟩; rw [← J]; generalize bY : W4.alloc (.cells #[.int .i64 q] 3) = W5; have I : Below W4.heap.size W4 W5 := (by rw [← bY]; exact af (Below.refl _ _) _); have aa : aH W5 gI [.int .i64 q] 3 := (by rw [← bY, J]; exact heap_alloc_new W4 _); have fX : W4.heap.size ≤ gI := Nat.le_of_eq J.symm; have xD := ge a8 fX; have mT := ne aY fX; have vO := ne dK fX; have vI := ne bd fX; have bj := mv I a8; have bc := mv I aY; have eZ := mv I dK; have bI := mv I bd; have j6 := ak (aa); clear bY I aa fX J a8 aY dK bd; refine az rfl 57 (.tmp 3) rfl gX rfl _ _ _ bc.out Try.underlying57 rfl 68 (by kernel_rfl) (ah _ _ _ _ _ HL.out) ?_)
    | (go_at_call 48; refine (ee b HK.out _ _ ⟨A, c, A', c', rfl, HR.out.below bj.out⟩).mono ?_; rintro e W6 ⟨rfl, I⟩; rw [HRT.out]; have bO := mv I bj; have bl := mv I bc; have fK := mv I eZ; have bW := mv I bI; have lD := mv I j6; clear I bj bc eZ bI j6)
    | ((with_reducible refine av (N := 21) rfl ?_); refine eK (by rfl) ?_; refine az rfl 85 (.tmp 5) rfl gA rfl _ _ _ fK.out Try.underlying85 rfl 2 (by kernel_rfl) rfl ?_)
    | (go_at_call 88; refine (jR a _).mono ?_; rintro e W7 ⟨rfl, I⟩; rw [HMY.out]; have ew := mv I bO; have dI := mv I bl; have kI := mv I fK; have dz := mv I bW; have lg := mv I lD; clear I bO bl fK bW lD)
    | (refine fE rfl 57 #[] rfl a6 kZ ?_)
    | (refine aK rfl 57 (.tmp 6) (.tmp 29) rfl gZ a6 rfl rfl 57 _ dz.out 68 (by kernel_rfl) rfl rfl ij ?_; intro W8 aa J; have iM := gb ew cb J; have iK := gn dI aG J; have EH := gx kI dz J; have jc := ak (aa); have yw := gx lg dz J; clear aa J ew dI kI dz lg))
   exact bodyPost_ret (eX rfl _ _ gZ 57 _ (0, 0) _ rfl jc.out Try.underlying57 rfl (by simp only [List.size_toArray]; exact ch _ rfl)) rfl ⟨_, rfl, mr _ _, iM.out⟩
set_option maxHeartbeats 16000000 in
set_option maxRecDepth 100000 in
theorem Br (b : Bk) (hk : BkOk b) (x : Int) (j : Nat) (hj : j < 64) (a : At) (hpl : ∀ (v : Value) (w : World), iz w v b → Calls Try.prog 92 #[v, .int .u32 x] w fun e w' => e = .returned (.tuple #[.int .i64 (j : Int), .bool true]) ∧ Below w.heap.size w w') (hrt : dC b = true) (hm : ep a = true) (hne : (b.slots.getD j 0 != 0) = true) (v : Value) (w : World) (h : iz w v b) :
  Calls Try.prog 51 #[v, .int .u32 x, eT a] w fun e w' => ∃ v', e = .returned (.tuple #[v', .int .i64 11]) ∧ ey w' w.heap.size v' km ∧ Below w.heap.size w w' := by
 obtain ⟨A, c, A', c', rfl, hr⟩ := h
 have HL := ak hr.l64
 have HR := ak hr
 have HK := ak hk
 have ag := ak (Below.refl w.heap.size w)
 have HPL := ak hpl
 have HRT := ak hrt
 have HMY := ak hm
 obtain ⟨m, hmm⟩ : ∃ m, b.slots.getD j 0 = m := ⟨_, rfl⟩
 have HM := ak hmm
 rw [hmm] at hne
 clear hr hk hpl hrt hm hmm
 go_enter Try.func51, Try.ntmps51
 go_wp2_with (first
  | (refine aD rfl 57 (.tmp 0) rfl _ rfl ?_; intro gX W1 J aa I; have cg := ge ag J; have ao := ak (ag.out.trans (I.mono ag.out.size)); have aj := ak (aa); clear J aa I ag)
  | (refine aD rfl 85 (.tmp 2) rfl _ rfl ?_; intro gA W2 J aa I; have ld := ge ao J; have eO := ne aj J; have ay := mv I ao; have aw := mv I aj; have cr := ak (aa); clear J aa I ao aj)
  | (refine au (some 6) rfl rfl 57 rfl a6 bT ?_; intro gZ W3 J aa I; have cb := ge ay J; have aG := ne aw J; have gD := ne cr J; have aE := mv I ay; have aC := mv I aw; have dm := mv I cr; have cd := ak (aa); clear J aa I ay aw cr)
  | ((with_reducible refine av (N := 11) rfl ?_); refine az rfl 57 (.tmp 3) rfl gX rfl _ _ _ aC.out Try.underlying57 rfl 68 (by kernel_rfl) (ah _ _ _ _ _ HL.out) ?_)
  | (go_at_call 92; refine (HPL.out _ _ ⟨A, c, A', c', rfl, HR.out.below aE.out⟩).mono ?_; rintro e W4 ⟨rfl, I⟩; have a8 := mv I aE; have aY := mv I aC; have dK := mv I dm; have bd := mv I cd; clear I aE aC dm cd)
  | ((with_reducible refine av (N := 17) rfl ?_); obtain ⟨gI, J⟩ : ∃ g_, g_ = W4.heap.size := ⟨_, rfl⟩; rw [← J]; generalize bY : W4.alloc (.cells #[.int .i64 (j : Int)] 3) = W5; have I : Below W4.heap.size W4 W5 := (by rw [← bY]; exact af (Below.refl _ _) _); have aa : aH W5 gI [.int .i64 (j : Int)] 3 := (by rw [← bY, J]; exact heap_alloc_new W4 _); have fX : W4.heap.size ≤ gI := Nat.le_of_eq J.symm; have xD := ge a8 fX; have mT := ne aY fX; have vO := ne dK fX; have vI := ne bd fX; have bj := mv I a8; have bc := mv I aY; have eZ := mv I dK; have bI := mv I bd; have j6 := ak (aa); clear bY I aa fX J a8 aY dK bd; refine az rfl 57 (.tmp 3) rfl gX rfl _ _ _ bc.out Try.underlying57 rfl 68 (by kernel_rfl) (ah _ _ _ _ _ HL.out) ?_)
  | (go_at_call 48; refine (ee b HK.out _ _ ⟨A, c, A', c', rfl, HR.out.below bj.out⟩).mono ?_; rintro e W6 ⟨rfl, I⟩; rw [HRT.out]; have bO := mv I bj; have bl := mv I bc; have fK := mv I eZ; have bW := mv I bI; have lD := mv I j6; clear I bj bc eZ bI j6)
  | ((with_reducible refine av (N := 21) rfl ?_); refine eK (by rfl) ?_; refine az rfl 85 (.tmp 5) rfl gA rfl _ _ _ fK.out Try.underlying85 rfl 2 (by kernel_rfl) rfl ?_)
  | (go_at_call 88; refine (jR a _).mono ?_; rintro e W7 ⟨rfl, I⟩; rw [HMY.out]; have ew := mv I bO; have dI := mv I bl; have kI := mv I fK; have dz := mv I bW; have lg := mv I lD; have J9 := lg.out.cell 0 _ rfl; have se := (show W7.cell? ⟨gX, 2 + j, none⟩ = some (.int .u8 m) from by have h_ := dI.out.slot HL.out j hj; rwa [HM.out] at h_); clear I bO bl fK bW lD)
  | (refine fE rfl 57 #[] rfl a6 kZ ?_)
  | (refine aK rfl 57 (.tmp 6) (.tmp 36) rfl gZ a6 rfl rfl 57 _ dz.out 68 (by kernel_rfl) rfl rfl ij ?_; intro W8 aa J; have iM := gb ew cb J; have iK := gn dI aG J; have EH := gx kI dz J; have jc := ak (aa); have yw := gx lg dz J; clear aa J ew dI kI dz lg J9 se))
 exact bodyPost_ret (eX rfl _ _ gZ 57 _ (0, 0) _ rfl jc.out Try.underlying57 rfl (by simp only [List.size_toArray]; exact ch _ rfl)) rfl ⟨_, rfl, mr _ _, iM.out⟩
def qw.T7 : Bool × List (List Nat × List Nat) := (true, [([], []), ([], []), ([1], [1]), ([], []), ([3, 0, 0, 1, 2], [0, 3]), ([4, 2, 2, 0, 1, 2], [2, 4])])
def qw.B7 : List Nat := [0, 0, 2, 0, 15, 31]
theorem qw.tab7 : ed .any (opsOf Try.f51 7) = qw.T7 := by kernel_rfl
theorem qw.bits7 : dL qw.T7.2 qw.B7 = true := by kernel_rfl
set_option maxHeartbeats 16000000 in
set_option maxRecDepth 100000 in
theorem Eo (b : Bk) (hk : BkOk b) (x : Int) (j : Nat) (hj : j < 64) (a : At) (hpl : ∀ (v : Value) (w : World), iz w v b → Calls Try.prog 92 #[v, .int .u32 x] w fun e w' => e = .returned (.tuple #[.int .i64 (j : Int), .bool true]) ∧ Below w.heap.size w w') (hrt : dC b = true) (hm : ep a = true) (hz : b.slots.getD j 0 = 0) (v : Value) (w : World) (h : iz w v b) :
  Calls Try.prog 51 #[v, .int .u32 x, eT a] w fun e w' => ∃ v', e = .returned (.tuple #[v', .int .i64 0]) ∧ ey w' w.heap.size v' (fT b j a) ∧ Below w.heap.size w w' := by
 obtain ⟨A, c, A', c', rfl, hr⟩ := h
 have HL := ak hr.l64
 have HR := ak hr
 have HK := ak hk
 have ag := ak (Below.refl w.heap.size w)
 have HPL := ak hpl
 have hp := im hrt
 have hsum := hp.sum_le hk HL.out
 have HRT := ak hrt
 have HMY := ak hm
 have HM := ak hz
 have HFL := ak (show b.free.length ≤ 64 by omega)
 have HAL := ak (show b.attrs.length ≤ 100 by omega)
 have HCP := ak (m0 b (by omega) (by omega))
 clear hr hk hpl hrt hm hz hp hsum
 go_enter Try.func51, Try.ntmps51
 go_wp2_with (first
  | (refine aD rfl 57 (.tmp 0) rfl _ rfl ?_; intro gX W1 J aa I; have cg := ge ag J; have ao := ak (ag.out.trans (I.mono ag.out.size)); have aj := ak (aa); clear J aa I ag)
  | (refine aD rfl 85 (.tmp 2) rfl _ rfl ?_; intro gA W2 J aa I; have ld := ge ao J; have eO := ne aj J; have ay := mv I ao; have aw := mv I aj; have cr := ak (aa); clear J aa I ao aj)
  | (refine au (some 6) rfl rfl 57 rfl a6 bT ?_; intro gZ W3 J aa I; have cb := ge ay J; have aG := ne aw J; have gD := ne cr J; have aE := mv I ay; have aC := mv I aw; have dm := mv I cr; have cd := ak (aa); clear J aa I ay aw cr)
  | ((with_reducible refine av (N := 11) rfl ?_); refine az rfl 57 (.tmp 3) rfl gX rfl _ _ _ aC.out Try.underlying57 rfl 68 (by kernel_rfl) (ah _ _ _ _ _ HL.out) ?_)
  | (go_at_call 92; refine (HPL.out _ _ ⟨A, c, A', c', rfl, HR.out.below aE.out⟩).mono ?_; rintro e W4 ⟨rfl, I⟩; have a8 := mv I aE; have aY := mv I aC; have dK := mv I dm; have bd := mv I cd; clear I aE aC dm cd)
  | ((with_reducible refine av (N := 17) rfl ?_); obtain ⟨gI, J⟩ : ∃ g_, g_ = W4.heap.size := ⟨_, rfl⟩; rw [← J]; generalize bY : W4.alloc (.cells #[.int .i64 (j : Int)] 3) = W5; have I : Below W4.heap.size W4 W5 := (by rw [← bY]; exact af (Below.refl _ _) _); have aa : aH W5 gI [.int .i64 (j : Int)] 3 := (by rw [← bY, J]; exact heap_alloc_new W4 _); have fX : W4.heap.size ≤ gI := Nat.le_of_eq J.symm; have xD := ge a8 fX; have mT := ne aY fX; have vO := ne dK fX; have vI := ne bd fX; have bj := mv I a8; have bc := mv I aY; have eZ := mv I dK; have bI := mv I bd; have j6 := ak (aa); clear bY I aa fX J a8 aY dK bd; refine az rfl 57 (.tmp 3) rfl gX rfl _ _ _ bc.out Try.underlying57 rfl 68 (by kernel_rfl) (ah _ _ _ _ _ HL.out) ?_)
  | (go_at_call 48; refine (ee b HK.out _ _ ⟨A, c, A', c', rfl, HR.out.below bj.out⟩).mono ?_; rintro e W6 ⟨rfl, I⟩; rw [HRT.out]; have bO := mv I bj; have bl := mv I bc; have fK := mv I eZ; have bW := mv I bI; have lD := mv I j6; clear I bj bc eZ bI j6)
  | ((with_reducible refine av (N := 21) rfl ?_); refine eK (by rfl) ?_; refine az rfl 85 (.tmp 5) rfl gA rfl _ _ _ fK.out Try.underlying85 rfl 2 (by kernel_rfl) rfl ?_)
  | (go_at_call 88; refine (jR a _).mono ?_; rintro e W7 ⟨rfl, I⟩; rw [HMY.out]; have ew := mv I bO; have dI := mv I bl; have kI := mv I fK; have dz := mv I bW; have lg := mv I lD; have J9 := lg.out.cell 0 _ rfl; have se := (show W7.cell? ⟨gX, 2 + j, none⟩ = some (.int .u8 0) from by have h_ := dI.out.slot HL.out j hj; rwa [HM.out] at h_); clear I bO bl fK bW lD)
  | ((with_reducible refine av (N := 37) rfl ?_); refine az rfl 57 (.tmp 3) rfl gX rfl _ _ _ dI.out Try.underlying57 rfl 68 (by kernel_rfl) (ah _ _ _ _ _ HL.out) ?_)
  | (go_at_call 89; refine (HCP.out _ _ ⟨A, c, A', c', rfl, HR.out.below ew.out⟩).mono ?_; rintro e W8 ⟨v5, rfl, ou, I⟩; obtain ⟨wM, vf, va, rfl, lU, mM⟩ := ou; obtain ⟨Af, cf, rfl⟩ := Kd.R_slice lU; obtain ⟨Aa, ca, rfl⟩ := Kd.R_slice mM; have HSZ := ak ew.out.size; have vP := ak (show gX < W7.heap.size from dI.out.lt); have oV := ak (show gA < W7.heap.size from kI.out.lt); have oU := ak (show gZ < W7.heap.size from dz.out.lt); have Lz := ak (show gI < W7.heap.size from lg.out.lt); have iM := mv I ew; have iK := mv I dI; have EH := mv I kI; have jc := mv I dz; have yw := mv I lg; have kH := ak (lU); have kG := ak (mM); have mo := ak (I.size); clear wM lU mM I ew dI kI dz lg J9 se)
  | (refine aK rfl 57 (.tmp 3) (.tmp 38) rfl gX (aU b.addr b.aff b.slots (.slice Af b.free.length cf) (.slice Aa b.attrs.length ca)) rfl rfl 57 _ iK.out 68 (by kernel_rfl) (ah _ _ _ _ _ HL.out) (ah _ _ _ _ _ HL.out) (b7 _ _ _ _ _ rfl rfl) ?_; intro W9 aa J; have lO := gb iM cg J; have lM := ak (OC.stored HL.out iK.out aa kH.out kG.out J); have QQ := gx EH iK J; have ml := gm jc aG J; have EC := gx yw iK J; have od := gr kH iK J; have oc := gr kG iK J; have lN := ak (Nat.le_trans mo.out J.size); clear aa J iM iK EH jc yw kH kG mo))
 obtain ⟨b1, bq⟩ : ∃ b1, b1 = W7.heap.size := ⟨_, rfl⟩
 rw [← bq] at lM lN vP oV oU Lz HSZ
 have bP := ak (show w.heap.size ≤ b1 from HSZ.out)
 clear bq HSZ
 have al : Below W9.heap.size W9 W9.drew := br (Below.refl _ _)
 have pD := mv al lO; have nR := mv al lM; have G8 := mv al QQ; have oW := mv al ml; have tF := mv al EC; have o8 := ak (Nat.le_trans lN.out al.size)
 clear al lO lM QQ ml EC lN
 have pj : ((j : Int) < 64) = True := eq_true (by omega)
 refine dd (n := 6) (S := fun w' => w'.cell? ⟨gI, 0, none⟩ = some (.int .i64 (j : Int)) ∧ w'.cell? ⟨gA, 0, none⟩ = some (.string a.f0) ∧ w'.cell? ⟨gA, 1, none⟩ = some (.string a.f1)) (ds := [5]) #[false, false, false, false, false, false] (by kernel_rfl) rfl rfl ⟨tF.out.cell 0 _ rfl, G8.out.cell 0 _ rfl, G8.out.cell 1 _ rfl⟩ (fun hHeld => ?_); refine bQ qw.tab7 qw.bits7 (fun ae bA => ?_)
 refine tk 0 ae.out bA.out hHeld ?_ (hv := by intro w' aZ; obtain ⟨s0, s1, s2⟩ := aZ; go_simp; with_reducible rfl)
 refine tk 1 ae.out bA.out hHeld ?_ (hv := by intro w' aZ; obtain ⟨s0, s1, s2⟩ := aZ; go_simp; with_reducible rfl)
 refine pu 3 ae.out ?_
 refine on 2 ae.out (fun K hK => ?_)
 refine gs Try.func90 #[.pointer (some ⟨gX, 0, none⟩), .agg #[.string a.f0, .string a.f1]] (qP b HAL.out a gX b1 w.heap.size _ cg.out bP.out o8.out nR.out) ?_
 rintro e V1 ⟨rfl, aW, I, dc⟩
 refine ⟨_, rfl, ?_⟩
 obtain ⟨QT, PN, QS, PM, js, _, _⟩ := nR.out.open; have tV := ak (pD.out.trans I); have oY := ak (aW); have CA := ak (aH.added G8.out (Ne.symm eO.out) oV.out dc); have tf := ak (aH.added oW.out (Ne.symm aG.out) oU.out dc); have rj := ak (aH.added tF.out (Ne.symm mT.out) Lz.out dc); have tr := ak (Nat.le_trans o8.out dc.1); clear aW I dc
 refine kn hK ⟨rj.out.cell 0 _ rfl, CA.out.cell 0 _ rfl, CA.out.cell 1 _ rfl⟩ (fun hHeld => ?_)
 clear hK K
 refine pu 4 ae.out ?_
 refine vz (i := 5) (N := none) #[true, true, true, true, true, true] rfl rfl (oP ae.out (by kernel_rfl)) (by decide) (fun K hK => ?_)
 have nN := (show OC V1 b1 gX ⟨b.addr, b.aff, b.slots, b.free, eu b.attrs a⟩ from oY.out).slotCell j hj; have nJ := oY.out.frozen (2 + j)
 refine qN (w1 := ?_) (by rfl) rfl ?_ ?_
 rotate_left
 ·go_simp
  rfl
 refine hK.out _ _ ?_
 clear hK K
 refine dn ae.out ?_
 clear nN nJ hHeld
 obtain ⟨_, _, _, _, js, _, _⟩ := oY.out.open; generalize bY : V1.setCell ⟨gX, 2 + j, none⟩ (.int .u8 (eQ b.attrs a : Nat)) = Je; have J : V1.grownBy Je (some gX) := (by rw [← bY]; exact bs _ _ _ _); have tU := gb tV cg J; have oX := ak (OC.slot oY.out j hj (eQ b.attrs a : Nat)); have YM := gm CA eO J; have q8 := gm tf aG J; have qd := gm rj mT J; have rf := ak (Nat.le_trans tr.out J.size); rw [bY] at oX; clear bY J tV oY CA tf rj tr js
 obtain ⟨bm, hbm⟩ : ∃ bm : Bk, bm = ⟨b.addr, b.aff, b.slots.set j (eQ b.attrs a : Nat), b.free, eu b.attrs a⟩ := ⟨_, rfl⟩
 have HGV := ak (show fT b j a = ⟨bm.addr, bm.aff, bm.slots, bm.free.filter (gg (j : Int)), bm.attrs⟩ by rw [hbm]; rfl)
 have HFR := ak (show bm.free = b.free by rw [hbm])
 rw [← hbm] at oX
 clear hbm
 obtain ⟨A1, c1, A2, c2, hxx, mL, lW⟩ := oX.out.open
 have GF := hxx.cell 66 _ (fI _ _ _ _ _ oX.out.l64)
 have xY := ak oX.out.l64
 have HXX := ak hxx
 have jt := ak mL
 have kz := ak lW
 clear hxx mL lW
 obtain ⟨fd, hfd⟩ : ∃ fd, fd = bm.free.filter (gg (j : Int)) := ⟨_, rfl⟩
 have HFD := ak hfd
 clear hfd
 go_wp2_with (first
  | (go_at_call 93; refine (Bj bm.free (by rw [HFR.out]; exact HK.out.f8) (by rw [HFR.out]; have := HFL.out; omega) A1 c1 (j : Int) gI b1 _ jt.out qd.out rf.out).mono ?_; rintro e V3 ⟨v3, rfl, aW, I, dc⟩; have AD := ak (tU.out.trans (I.mono bP.out)); have qc := ak (aH.keeps HXX.out dc (HXX.out.ne_row jt.out (by decide))); have zf := ak (aH.keeps q8.out dc (q8.out.ne_row jt.out (by decide))); have zU := ak (aH.keeps qd.out dc (qd.out.ne_row jt.out (by decide))); have zw := ak (Nat.le_trans rf.out dc.1); have z6 := ak (aW); have zY := ak (Kd.R_keptrow kz.out jt.out (by decide) dc); rw [← HFD.out] at aW; obtain ⟨A3, c3, rfl⟩ := Kd.R_slice aW; have nN := qc.out.cell 66 _ (fI _ _ _ _ _ xY.out); have nJ := qc.out.frozen 66; clear GF aW I dc tU HXX q8 qd rf jt kz)
  | ((with_reducible refine av (N := 49) rfl ?_); generalize bY : V3.setCell ⟨gX, 66, none⟩ (.slice A3 fd.length c3) = Jc; have J : V3.grownBy Jc (some gX) := (by rw [← bY]; exact bs _ _ _ _); have AB := gb AD cg J; have tl := ak (qc.out.set 66 (.slice A3 fd.length c3)); have te := gm zf aG J; have zT := gx zU qc J; have zv := ak (Nat.le_trans zw.out J.size); have z5 := gr z6 qc J; have zX := gr zY qc J; rw [bY] at tl; clear bY J AD qc zf zU zw z6 zY nN nJ; rw [k8 _ _ _ _ _ xY.out] at tl; refine az rfl 57 (.tmp 3) rfl gX rfl _ _ _ tl.out Try.underlying57 rfl 68 (by kernel_rfl) (ah _ _ _ _ _ xY.out) ?_)
  | (refine aK rfl 57 (.tmp 6) (.tmp 49) rfl gZ (aU bm.addr bm.aff bm.slots (.slice A3 fd.length c3) (.slice A2 bm.attrs.length c2)) rfl rfl 57 _ te.out 68 (by kernel_rfl) (ah _ _ _ _ _ xY.out) rfl (b7 _ _ _ _ _ rfl rfl) ?_; intro PX aa J; have Sr := gb AB cb J; have YI := gn tl aG J; have So := ak (aa); have YL := gx zT te J; have YK := ak (Nat.le_trans zv.out J.size); have Sq := gr z5 te J; have Sp := gr zX te J; clear aa J AB tl te zT zv z5 zX))
 refine bodyPost_ret (eX rfl _ _ gZ 57 _ (0, 0) _ rfl So.out Try.underlying57 rfl (by simp only [List.size_toArray]; exact ch _ (ah _ _ _ _ _ xY.out))) rfl ⟨_, rfl, ?_, Sr.out⟩
 have hff := Sq.out
 rw [← HFD.out] at hff
 rw [HGV.out, ← HFD.out]
 exact ⟨xY.out, _, _, rfl, Kd.R_lower hff bP.out, Kd.R_lower Sp.out bP.out⟩
def qD (b : Bk) (x : Int) (a : At) : Bool := dC b && (ep a && decide (b9 x = b.addr))
def pV (b : Bk) (x : Int) : Bool := b.slots.getD (x - b.addr).toNat 0 != 0
def sm (b : Bk) (x : Int) (a : At) : Int := if qD b x a = true then (if pV b x = true then 11 else 0) else 1
def nX (b : Bk) (x : Int) (a : At) : Bk := if qD b x a = true then (if pV b x = true then km else fT b (x - b.addr).toNat a) else km
theorem oT (b : Bk) (hk : BkOk b) (x : Int) (h0 : 0 ≤ x) (h1 : x < 4294967296) (a : At) (v : Value) (w : World) (h : iz w v b) :
  Calls Try.prog 51 #[v, .int .u32 x, eT a] w fun e w' => ∃ v', e = .returned (.tuple #[v', .int .i64 (sm b x a)]) ∧ ey w' w.heap.size v' (nX b x a) ∧ Below w.heap.size w w' := by
 have hpl := fun v w h => BD b hk x h0 h1 v w h
 cases ho : qD b x a with
 | false =>
  have e1 : sm b x a = 1 := by unfold sm; rw [ho]; rfl
  have e2 : nX b x a = km := by unfold nX; rw [ho]; rfl
  rw [e1, e2]
  exact GZ b hk x _ _ a hpl ho v w h
 | true =>
  have ho' := ho
  unfold qD at ho'
  simp only [Bool.and_eq_true, decide_eq_true_eq] at ho'
  obtain ⟨hr, hm, hf⟩ := ho'
  have hj : (x - b.addr).toNat < 64 ∧ ((x - b.addr).toNat : Int) = x - b.addr := by
   unfold b9 at hf
   omega
  rw [if_pos hf, decide_eq_true hf, ← hj.2] at hpl
  cases ht : pV b x with
  | true =>
   have e1 : sm b x a = 11 := by unfold sm; rw [ho, ht]; rfl
   have e2 : nX b x a = km := by unfold nX; rw [ho, ht]; rfl
   rw [e1, e2]
   exact Br b hk x _ hj.1 a hpl hr hm ht v w h
  | false =>
   have e1 : sm b x a = 0 := by unfold sm; rw [ho, ht]; rfl
   have e2 : nX b x a = fT b (x - b.addr).toNat a := by unfold nX; rw [ho, ht]; rfl
   rw [e1, e2]
   exact Eo b hk x _ hj.1 a hpl hr hm (by unfold pV at ht; simpa using ht) v w h
end Go.Proofs.Ytemhalnhbgkbcaa.V
end

section
namespace Go.Proofs.Ytemhalnhbgkbcaa.V
theorem Ih (f0 f1 : ByteArray) (h0 : f0.size ≤ 9223372036854775807) (h1 : f1.size ≤ 9223372036854775807) (k : Nat) (hk : 9223372036854775808 ≤ k) : ko.f k f0 f1 = some (ep ⟨f0, f1⟩) := by
 unfold ko.f ep
 rw [Gx f0 h0 k (by omega), Option.bind_some]
 cases hr : fD f0 with
 | true => rw [if_pos rfl, Gx f1 h1 k (by omega), Option.bind_some, Bool.true_and]
 | false => rw [if_neg (by decide), Bool.false_and]
theorem EW (s : ByteArray) (hs : s.size ≤ 9223372036854775807) (k : Nat) (hk : 9223372036854775808 ≤ k) : jq.f k s = some (fS s) := by
 unfold jq.f fS
 by_cases h0 : s.toList = []
 ·rw [if_pos h0]; simp [h0]
 ·rw [if_neg h0, Gx s hs k (by omega), Option.bind_some]; simp [h0]
section
variable (addr : Int) (aff : ByteArray) (sl fr : List Int) (M : List S76)
end
end Go.Proofs.Ytemhalnhbgkbcaa.V
end

section
namespace Go.Proofs.Ytemhalnhbgkbcaa.V
set_option maxHeartbeats 4000000 in
set_option maxRecDepth 100000 in
theorem pO (v : Value) (w : World) (h : iz w v km) : Calls Try.prog 43 #[v] w fun e w' => e = .returned (.bool true) ∧ Below w.heap.size w w' := by
 have hzv := fun W => (mr W 0).toV
 have hsm := CR km (by decide) (by decide)
 have hl : km.slots.length = 64 := rfl
 generalize km = z at h hzv hsm hl
 obtain ⟨A, c, A', c', rfl, hr⟩ := h
 have HR := ak hr
 have HZV := ak hzv
 have HSM := ak hsm
 have HL := ak hl
 clear hzv hsm hl hr
 go_enter Try.func43, Try.ntmps43
 go_wp2_with (first
  | (refine aD rfl 57 (.tmp 0) rfl _ rfl ?_; intro g W1 hg hbx bq; have g8 := ak hbx; have mU := ak (HR.out.below bq); have bP := ak bq; clear hbx bq hg)
  | (refine az rfl 57 (.tmp 1) rfl g rfl _ _ _ g8.out Try.underlying57 rfl 68 (by kernel_rfl) (ah _ _ _ _ _ HL.out) ?_)
  | (refine fE rfl 57 #[] rfl a6 kZ ?_)
  | (go_at_call 40; refine (HSM.out _ _ _ ⟨A, c, A', c', rfl, mU.out⟩ (HZV.out _)).mono ?_; rintro e W2 ⟨rfl, dD⟩; have gl := ak (bP.out.trans (dD.mono bP.out.size)); clear dD))
 go_ret
 exact ⟨rfl, gl.out⟩
end Go.Proofs.Ytemhalnhbgkbcaa.V
end

