/- The law ViewApart for every input: texts of ours, put together (part 14 of 16). No further condition. -/
import Derived.Test.YtndddnglapkplaaGreatDoorCViewApartx2
import Derived.Test.YtndddnglapkplaaGreatDoorCViewApartx5
import Derived.Test.YtndddnglapkplaaGreatDoorCViewApartx12
import Derived.Test.YtndddnglapkplaaGreatDoorCViewApartx9
import Derived.Outline
import Derived.Test.YtndddnglapkplaaGreatDoorCViewApartx3
import Derived.Test.YtndddnglapkplaaGreatDoorCViewApartw0
import Derived.Test.YtndddnglapkplaaGreatDoorCViewApartx8
import Derived.Test.YtndddnglapkplaaGreatDoorCViewApartx10
import Derived.WideMake
import Derived.Laws.IdiomRangeMap
set_option linter.unusedVariables false
set_option linter.unusedSimpArgs false
open Go.RowKit Go.Proofs.YtndddnglapkplaaGreatDoorW.PrintWords Go.Proofs.YtndddnglapkplaaGreatDoorW.PrintLast Go.Proofs.YtndddnglapkplaaGreatDoorW.PrintMore Go.Proofs.YtndddnglapkplaaGreatDoor.Z
section
namespace Go.Proofs.YtndddnglapkplaaGreatDoor.V
section
variable {g : Nat} {ok : Nat → Prop} {v : Value} {W : World}
theorem NP (s : ByteArray) (h : Rd W g ok v (r0 s).2.1 (r0 s).2.2) : Calls Tryz.prog 84 #[.pointer (some ⟨g, 0, none⟩), .int .i64 2] W fun e W' => ∃ v', e = .returned (.int .u64 (bj (c1 s).1 : Nat)) ∧ Rd W' g ok v' (c1 s).2.1 (c1 s).2.2 ∧ W.grownBy W' (some g) := u5 2 (by omega) (by omega) (py s) W h
theorem NL {l : List Int} (hl : dK l) (h : Rd W g ok v l false) : Calls Tryz.prog 84 #[.pointer (some ⟨g, 0, none⟩), .int .i64 4] W fun e W' => ∃ v', e = .returned (.int .u64 (bj (k9 l).1 : Nat)) ∧ Rd W' g ok v' (k9 l).2.1 (k9 l).2.2 ∧ W.grownBy W' (some g) := u5 4 (by omega) (by omega) hl W h
theorem NM {l : List Int} (hl : dK l) (h : Rd W g ok v (k9 l).2.1 (k9 l).2.2) : Calls Tryz.prog 84 #[.pointer (some ⟨g, 0, none⟩), .int .i64 2] W fun e W' => ∃ v', e = .returned (.int .u64 (bj (lF l).1 : Nat)) ∧ Rd W' g ok v' (lF l).2.1 (lF l).2.2 ∧ W.grownBy W' (some g) := u5 2 (by omega) (by omega) (tq hl) W h
theorem NO (s : ByteArray) (h : Rd W g ok v (rc s).2.1 (rc s).2.2) : Calls Tryz.prog 85 #[.pointer (some ⟨g, 0, none⟩)] W fun e W' => e = .returned (.bool (tL s)) ∧ Below W.heap.size W W' := uL W h
end
def kI : List Value := [.slice none 0 0]
theorem GK (a : Int) : Tryz.prog.built 145 [(0, .int .u32 a)] = some [Value.int .u32 a, .int .i64 0].toArray := by kernel_rfl
theorem Cd : ∀ a : Act, Tryz.prog.built 99 ((#[] : Array (Nat × Operand)).map fun (i, x) => (i, a.eval x)).toList = some kI.toArray := fun _ => by kernel_rfl
def qY (s : ByteArray) (w : World) (e : Ending) (w' : World) : Prop := ∃ v, e = .returned (.tuple #[.agg #[v], .int .i64 (if pO s = true then 0 else 3)]) ∧ Kd.R rC 145 w' w.heap.size (fun _ => True) v (if pO s = true then (rc s).1 else []) ∧ Below w.heap.size w w'
theorem Lw {s : ByteArray} {w w' : World} {e : Ending} (he : e = .returned (.tuple #[.agg kI.toArray, .int .i64 3])) (h : pO s = false) (hb : Below w.heap.size w w') : qY s w e w' := by
 unfold qY
 subst he
 rw [h]
 exact ⟨_, rfl, Kd.R_nil _ _ _ _ _, hb⟩
theorem JA {s : ByteArray} {w w' : World} {e : Ending} {bb : Nat} {v : Value} {M : List Cn} (hen : e = .returned (.tuple #[.agg #[v], .int .i64 0])) (h : pO s = true) (hM : M = (rc s).1) (h1 : w.heap.size ≤ bb)
  (ha : Kd.R rC 145 w' bb (fun _ => True) v M) (hb : Below w.heap.size w w') : qY s w e w' := by
 unfold qY
 subst hen
 subst hM
 rw [h]
 exact ⟨_, rfl, Kd.R_lower ha h1, hb⟩
theorem Rd.blk {W W1 : World} {g : Nat} {ok : Nat → Prop} {v : Value} {l : List Int} {bad : Bool} {bb x : Nat} (h : Rd W g ok v l bad) (hg : W.grownBy W1 (some x)) (ho : ∀ k, ok k → k < bb) (h1 : g < bb) (h2 : bb ≤ x) : Rd W1 g ok v l bad :=
 h.grown hg (fun k hk e => by have := ho k hk; have := Option.some.inj e; omega) (fun e => by have := Option.some.inj e; omega)
theorem Rd.row {α : Type} {d : Kd α} {e : Nat} {W W1 : World} {g : Nat} {ok Lb : Nat → Prop} {v u : Value} {l : List Int} {xs : List α} {bad : Bool} {bb : Nat} (h : Rd W g ok v l bad) (hr : d.R e W bb Lb u xs) (hg : W.grownBy W1 u.ownBlock) (ho : ∀ k, ok k → k < bb) (h1 : g < bb) : Rd W1 g ok v l bad :=
 h.grown hg (fun k hk e => by have := ho k hk; have := Kd.R_base hr _ e.symm; omega) (fun e => by have := Kd.R_base hr _ e.symm; omega)
theorem bS.blk {W W1 : World} {g t x bb : Nat} {cs : List Value} (h : bS W g cs t) (hg : W.grownBy W1 (some x)) (h1 : g < bb) (h2 : bb ≤ x) : bS W1 g cs t := h.grown hg (fun e => by have := Option.some.inj e; omega)
theorem bS.row {α : Type} {d : Kd α} {e : Nat} {W W1 : World} {g t bb : Nat} {cs : List Value} {ok : Nat → Prop} {u : Value} {xs : List α} (h : bS W g cs t) (hr : d.R e W bb ok u xs) (hg : W.grownBy W1 u.ownBlock) (h1 : g < bb) : bS W1 g cs t := h.grown hg (fun e => by have := Kd.R_base hr _ e.symm; omega)
set_option maxHeartbeats 8000000 in
set_option maxRecDepth 100000 in
theorem EL (s : ByteArray) (hs : s.size ≤ 1000000) (w : World) :
  Calls Tryz.prog 59 #[.string s] w (qY s w) := by
 have qH := tF s
 have mo := Er s
 have HN := ak (qc s hs)
 have wq := ak (Hy s)
 have HOK : Aside0 (pO s = (tL s && (decide (bj (r0 s).1 = 72) && sm (rc s).1))) := ⟨rfl⟩
 have HRC : Aside0 (gz (bj (c1 s).1) (c1 s).2.1 (c1 s).2.2 = rc s) := ⟨rfl⟩
 have HCO := ak (NT s)
 have HCL := ak (KZ s)
 have H0 := ak (@CS · · · · s)
 have H1 := ak (@NP · · · · s)
 have HD := ak (@NO · · · · s)
 generalize bj (r0 s).1 = n0 at qH H0 HOK
 generalize hp : c1 s = p at H1 HRC mo wq
 obtain ⟨Lp, lp, badp⟩ := p
 dsimp only at H1 HRC mo wq
 generalize bj Lp = n1 at H1 HRC mo
 have kb := fun (w : World) => Lib.run_convert_string_bytes (P := Tryz.prog) w 9 61 5 s Tryz.underlying9 Tryz.underlying61 Tryz.underlying5
 clear hp
 go_enter Tryz.func59, Tryz.ntmps59
 go_wp2_with (first
  | (refine a6 (some 2) rfl rfl 99 rfl kI (fun _ => by kernel_rfl) ?_; intro g2 W1 dH fV aW; have fv := ak fV; have cP := ak aW; have fw := ak dH; clear fV aW dH)
  | (refine a6 (some 4) rfl rfl 99 rfl kI (fun _ => by kernel_rfl) ?_; intro g4 W2 da zy bC; have jX := ak zy; have iR := ak (fv.out.below bC); have pj := ak (show w.heap.size ≤ g4 by have := cP.out.size; omega); have th := ak (show g2 ≠ g4 by have := fv.out.lt; omega); have fx := ak (cP.out.trans (bC.mono cP.out.size)); clear zy bC da fv cP)
  | (go_at_call 83; refine (HN.out _).mono ?_; rintro e W3 ⟨gr, v2, rfl, hJ, hgr, bC⟩; have HRB := ak hJ.box.lt; obtain ⟨okp, hokp⟩ : ∃ okp : Nat → Prop, okp = (fun k => (W2.heap.size < k ∧ k ≠ gr) ∧ k < W3.heap.size) := ⟨_, rfl⟩; rw [← hokp] at hJ; have xZ := ak hJ; have kv := ak (iR.out.below bC); have pV := ak (jX.out.below bC); have iw := ak (fx.out.trans (bC.mono fx.out.size)); have HGR := ak (show w.heap.size ≤ gr by have := fx.out.size; omega); have DF := ak (show g2 ≠ gr by have := iR.out.lt; omega); have AA := ak (show g4 ≠ gr by have := jX.out.lt; omega); have QV := ak (show ∀ k, okp k → some k ≠ some g4 from fun k hk e => by rw [hokp] at hk; have := jX.out.lt; have := Option.some.inj e; omega); have HOKB := ak (show ∀ k, okp k → k < W3.heap.size from fun k hk => by rw [hokp] at hk; exact hk.2); have HXB := ak kv.out.lt; have HYB := ak pV.out.lt; have M1 := ak (Nat.le_refl W3.heap.size); have HWB := ak iw.out.size; clear hokp; generalize hbb : W3.heap.size = bb at HOKB HRB HXB HYB M1 HWB; clear hJ hgr bC HN iR jX fx)
  | (go_at_call 84; refine (H0.out _ _ _ _ xZ.out).mono ?_; rintro e W4 ⟨v4, rfl, xN, da⟩; have jZ := ak xN; have mY := ak (kv.out.grown da (fun e => DF.out (Option.some.inj e))); have Av := ak (pV.out.grown da (fun e => AA.out (Option.some.inj e))); have jR := ak (iw.out.grown da iw.out.size (by intro k hk; cases hk; exact HGR.out)); have M0 := ak (show bb ≤ W4.heap.size by have := da.size; omega); clear xN da xZ kv pV iw M1 hbb)
  | (go_at_call 84; refine (H1.out _ _ _ _ jZ.out).mono ?_; rintro e W5 ⟨v5, rfl, sB, fQ⟩; have jY := ak sB; have lq := ak (mY.out.grown fQ (fun e => DF.out (Option.some.inj e))); have wo := ak (Av.out.grown fQ (fun e => AA.out (Option.some.inj e))); have fJ := ak (jR.out.grown fQ jR.out.size (by intro k hk; cases hk; exact HGR.out)); have MZ := ak (Nat.le_trans M0.out fQ.size); clear sB fQ jZ mY Av jR M0))
 clear H0 H1
 go_loopw [7, 8] (fun nv _ W => ∃ (m : Nat) (l2 : List Int) (gZ : Bool) (acc : List Cn) (va v2 : Value), m + acc.length = n1 ∧ nv = .int .u64 ((m : Nat) : Int) ∧ Aside0 (bS W g4 [va] 99) ∧ Aside0 (Kd.R rC 145 W bb (fun _ => True) va acc) ∧ Aside0 (Rd W gr okp v2 l2 gZ) ∧ Aside0 (bS W g2 kI 99) ∧ Aside0 (dK l2) ∧ Aside0 (Below w.heap.size w W) ∧ Aside0 (bb ≤ W.heap.size) ∧ Aside0 (rc s = (acc ++ (gz m l2 gZ).1, (gz m l2 gZ).2))) (fun nv _ _ => (intOf nv).toNat)
 case atStart => exact ⟨n1, lp, badp, [], _, v5, by simp, rfl, wo, ⟨Kd.R_nil _ _ _ _ _⟩, jY, lq, wq, fJ, MZ, ⟨by rw [HRC.out, List.nil_append]⟩⟩
 case round =>
  clear wo jY lq wq fJ MZ HRC
  obtain ⟨m, l2, gZ, acc, va, v2, hm, rfl, HY, HA, HQ, HX, HU, HB, HS, HE⟩ := hrel
  obtain ⟨W, rfl⟩ : ∃ W : World, W = wr := ⟨_, rfl⟩
  obtain ⟨Ao, co, rfl⟩ := Kd.R_slice HA.out
  by_cases hgo : 0 < m ∧ gZ = false
  ·obtain ⟨ER, rfl⟩ := hgo
   obtain ⟨m, rfl⟩ : ∃ q, m = q + 1 := ⟨m - 1, by omega⟩
   have hgt : decide (((m + 1 : Nat) : Int) > 0) = true := by rw [decide_eq_true_eq]; omega
   have LD : decide ((0 : Int) < ((m + 1 : Nat) : Int)) = true := by rw [decide_eq_true_eq]; omega
   have n9 := ak (show rc s = (acc ++ (qg l2 :: (gz m (lF l2).2.1 (lF l2).2.2).1), (gz m (lF l2).2.1 (lF l2).2.2).2) from HE.out)
   have yb := ak (fun (W : World) (v : Value) (h : Rd W gr okp v l2 false) => NL HU.out h)
   have AD := ak (fun (W : World) (v : Value) (h : Rd W gr okp v (k9 l2).2.1 (k9 l2).2.2) => NM HU.out h)
   have mU := ak (Bx HU.out)
   have ES : bj (k9 l2).1 < 4294967296 := BC HU.out false
   have ET : bj (lF l2).1 < 65536 := wI (tq HU.out) _
   have HAT : Aside0 (qg l2 = ⟨((bj (k9 l2).1 : Nat) : Int), ((bj (lF l2).1 : Nat) : Int)⟩) := ⟨rfl⟩
   generalize qg l2 = P5 at n9 HAT
   generalize lF l2 = q2 at n9 AD mU HAT ET
   generalize k9 l2 = q0 at yb AD HAT ES
   obtain ⟨b0, l4, d4⟩ := q0
   obtain ⟨b1, l5, d5⟩ := q2
   dsimp only at yb AD mU HAT ES ET
   generalize bj b0 = x0 at yb HAT ES
   generalize bj b1 = x1 at AD HAT ET
   obtain rfl := HAT.out
   obtain ⟨L, hL⟩ : ∃ L : List Cn, L = acc ++ [(⟨(x0 : Int), (x1 : Int)⟩ : Cn)] := ⟨_, rfl⟩
   have HL := ak hL
   have hac : acc.length ≤ 65535 := by omega
   clear HU HE hL ER
   go_wp2_with (first
    | (go_at_call 95; refine (jP _ HQ.out).mono ?_; rintro e W1 ⟨rfl, aW⟩; have jZ := ak (HQ.out.below aW); have gH := ak (HY.out.below aW); have fv := ak (HX.out.below aW); have jm := ak (Kd.R_below HA.out aW); have lD := ak (Nat.le_trans HS.out aW.size); have cP := ak (HB.out.trans (aW.mono HB.out.size)); clear aW HQ HY HX HA HS HB)
    | (go_at_call 84; refine (yb.out _ _ jZ.out).mono ?_; rintro e W2 ⟨v3, rfl, hJ, dH⟩; have jY := ak hJ; have jX := ak (gH.out.grown dH (fun e => AA.out (Option.some.inj e))); have iR := ak (fv.out.grown dH (fun e => DF.out (Option.some.inj e))); have lr := ak (oG jm.out dH HRB.out); have mV := ak (Nat.le_trans lD.out dH.size); have fx := ak (cP.out.grown dH cP.out.size (by intro k hk; cases hk; exact HGR.out)); clear hJ dH jZ gH fv jm lD cP)
    | ((with_reducible refine aA (N := 28) rfl ?_); refine eC rfl 145 #[(0, .tmp 27)] rfl [(0, .int .u32 (x0 : Int))] (by simp only [List.map_toArray, List.map_cons, List.map_nil]; rfl) [Value.int .u32 (x0 : Int), .int .i64 0] (GK _) ?_)
    | (refine a6 (some 8) rfl rfl 145 rfl [.int .u32 0, .int .i64 0] (fun _ => by kernel_rfl) ?_; intro ga W3 hga EI gP; have HGA := ak (show bb ≤ ga from Nat.le_trans mV.out hga); have P9 := ak EI; have kM := ak (jY.out.below gP); have pV := ak (jX.out.below gP); have kv := ak (iR.out.below gP); have uz := ak (Kd.R_below (Kd.R_mono (ok' := fun k => k ≠ ga) (Kd.R_bound lr.out) (fun k hk => by have := hk.2.2.1; omega)) gP); have xY := ak (Nat.le_trans mV.out gP.size); have iw := ak (fx.out.trans (gP.mono fx.out.size)); clear EI gP hga jY jX iR lr mV fx)
    | (refine aM rfl 145 (.tmp 8) (.tmp 28) rfl ga [.int .u32 (x0 : Int), .int .i64 0] rfl rfl 145 _ P9.out 2 (by kernel_rfl) rfl rfl (by intro u hu; simp at hu; rcases hu with rfl | rfl <;> rfl) ?_; intro W4 dj da; have Fs := ak dj; have te := ak (kM.out.blk da HOKB.out HRB.out HGA.out); have Av := ak (pV.out.blk da HYB.out HGA.out); have mY := ak (kv.out.blk da HXB.out HGA.out); have nS := ak (Kd.R_grown uz.out da (fun k hk e => hk (Option.some.inj e))); have Fu := ak (Nat.le_trans xY.out da.size); have jR := ak (iw.out.grown da iw.out.size (by intro k hk; cases hk; exact Nat.le_trans HWB.out HGA.out)); clear dj da P9 kM pV kv uz xY iw)
    | (go_at_call 84; refine (AD.out _ _ te.out).mono ?_; rintro e W5 ⟨v4, rfl, sB, fQ⟩; have td := ak sB; have wo := ak (Av.out.grown fQ (fun e => AA.out (Option.some.inj e))); have lq := ak (mY.out.grown fQ (fun e => DF.out (Option.some.inj e))); have Qk := ak (oG nS.out fQ HRB.out); have IZ := ak (Fs.out.grown fQ (fun e => by have := HGA.out; have := HRB.out; have := Option.some.inj e; omega)); have Qa := ak (Nat.le_trans Fu.out fQ.size); have fJ := ak (jR.out.grown fQ jR.out.size (by intro k hk; cases hk; exact HGR.out)); have LH := IZ.out.frozen 1; have LN := IZ.out.cell 1 _ rfl; have hcy := (show bS (W5.setCell ⟨ga, 1, none⟩ (.int .i64 (x1 : Int))) g4 _ _ from wo.out.far (p := ⟨ga, 1, none⟩) (show g4 ≠ ga by have := HYB.out; have := HGA.out; omega) _).cell 0 _ rfl; clear sB fQ te Av mY nS Fu jR Fs)
    | (generalize zC : W5.setCell ⟨ga, 1, none⟩ (.int .i64 (x1 : Int)) = W6 at hcy ⊢; have zB : bS W6 ga [.int .u32 (x0 : Int), .int .i64 (x1 : Int)] 145 := (by rw [← zC]; exact IZ.out.set 1 (.int .i64 (x1 : Int))); have hgS : W5.grownBy W6 (some ga) := (by rw [← zC]; exact cS W5 ga 1 (.int .i64 (x1 : Int))); refine bN rfl 145 (.tmp 8) rfl ga rfl _ _ _ zB Tryz.underlying145 rfl 2 (by kernel_rfl) rfl ?_; have Fv := ak (td.out.blk hgS HOKB.out HRB.out HGA.out); have xX := ak (wo.out.blk hgS HYB.out HGA.out); have n7 := ak (lq.out.blk hgS HXB.out HGA.out); have wv := ak (Kd.R_grown Qk.out hgS (fun k hk e => hk (Option.some.inj e))); have HLT := zB.lt; have M3 := ak (Nat.le_trans Qa.out hgS.size); have lT := ak (fJ.out.grown hgS fJ.out.size (by intro k hk; cases hk; exact Nat.le_trans HWB.out HGA.out)); clear hgS LH LN zC zB hcy td wo lq Qk Qa fJ IZ)
    | ((with_reducible refine ei (b := .append) (xs := #[.tmp 34, .tmp 36]) rfl ?_); at_builtin; refine Kd.R_append rC (w0 := W6) bb rfl (.tmp 34) (.tmp 36) 97 145 (.agg #[.int .u32 0, .int .i64 0]) 16 rfl Tryz.underlying97 Jz rfl (by decide) (by omega) _ acc ⟨(x0 : Int), (x1 : Int)⟩ [.int .u32 (x0 : Int), .int .i64 (x1 : Int)] (fun k => k ≠ ga) (fun _ => False) rfl rfl (Gg _ _ _ _) (fun _ h => h.elim) (fun k hk => by omega) wv.out (Below.refl _ _) M3.out (by omega) ?_; intro v7 w7 mX lR cz uK; rw [← HL.out] at mX; have I7 := ak (Fv.out.row wv.out cz HOKB.out HRB.out); have s9 := ak (xX.out.row wv.out cz HYB.out); have pf := ak (n7.out.row wv.out cz HXB.out); have ra := ak (Kd.R_mono (ok' := fun _ => True) mX (fun _ _ => trivial)); have VQ := ak (Nat.le_trans M3.out lR.size); have kO := ak (lT.out.trans (lR.mono HWB.out)); obtain ⟨A7, c7, rfl⟩ := Kd.R_slice mX; have PR := s9.out.frozen 0; have BQ := s9.out.cell 0 _ rfl; clear mX lR cz uK Fv xX n7 wv M3 lT))
   have uu := ak (show bS (w7.setCell ⟨g4, 0, none⟩ (.slice A7 L.length c7)) g4 [.slice A7 L.length c7] 99 from s9.out.set 0 (.slice A7 L.length c7))
   have hgS := cS w7 g4 0 (.slice A7 L.length c7)
   have Cp := ak (I7.out.grown hgS (fun k hk => QV.out k hk) (fun e => AA.out (Option.some.inj e).symm))
   have Np := ak (oG ra.out hgS HYB.out)
   have nN := ak (pf.out.grown hgS (fun e => th.out (Option.some.inj e)))
   have VP := ak (Nat.le_trans VQ.out hgS.size)
   have ia := ak (kO.out.grown hgS kO.out.size (by intro k hk; cases hk; exact pj.out))
   clear hgS
   go_roundw
   case rel => exact ⟨m, l5, d5, L, _, v4, by rw [HL.out, List.length_append, List.length_singleton]; omega, by go_num, uu, Np, Cp, nN, mU, ia, VP, ⟨by rw [n9.out, HL.out]; simp⟩⟩
   case measure => simp [intOf]
  ·have hEx : rc s = (acc, l2, gZ) ∧ (m = 0 ∨ (0 < m ∧ gZ = true)) := by
    rcases Nat.eq_zero_or_pos m with rfl | hm
    ·exact ⟨by rw [HE.out]; simp [gz], .inl rfl⟩
    ·obtain ⟨m, rfl⟩ : ∃ q, m = q + 1 := ⟨m - 1, by omega⟩
     have hbad : gZ = true := by
      cases gZ with
      | true => rfl
      | false => exact absurd ⟨hm, rfl⟩ hgo
     subst hbad
     exact ⟨by rw [HE.out]; simp [gz], .inr ⟨hm, rfl⟩⟩
   obtain ⟨BK, hcase⟩ := hEx
   have HMR := ak (show acc = (rc s).1 by rw [BK])
   have HRT := ak (FQ HCO.out HCL.out)
   rw [← HMR.out] at HRT HOK
   have hD := (@HD.out)
   rw [BK] at hD
   dsimp only at hD
   have HD' := ak hD
   clear hD BK HE hgo HD
   generalize sm acc = rt at HRT HOK
   generalize tL s = bd at HD' HOK
   obtain ⟨Ag, Vm⟩ : ∃ Ag, ((n0 : Int) != 72) = Ag := ⟨_, rfl⟩
   have uS := ak (show pO s = (bd && (!Ag && rt)) by
    rw [HOK.out, ← Vm]
    congr 1
    congr 1
    rw [Bool.eq_iff_iff]; simp; omega)
   have hcs : (bd = true ∧ Ag = false ∧ rt = true ∧ pO s = true) ∨ (pO s = false ∧ (bd = false ∨ (bd = true ∧ Ag = true) ∨ (bd = true ∧ Ag = false ∧ rt = false))) := by
    rw [uS.out]
    cases bd <;> cases Ag <;> cases rt <;> simp
   clear HOK uS
   rcases hcase with rfl | ⟨ER, rfl⟩
   rotate_left
   obtain ⟨m, rfl⟩ : ∃ q, m = q + 1 := ⟨m - 1, by omega⟩
   have hgt : decide (((m + 1 : Nat) : Int) > 0) = true := by rw [decide_eq_true_eq]; omega
   have LD : decide ((0 : Int) < ((m + 1 : Nat) : Int)) = true := by rw [decide_eq_true_eq]; omega
   clear hm ER
   rotate_left
   have hgt : decide (((0 : Nat) : Int) > 0) = false := by decide
   have LD : decide ((0 : Int) < ((0 : Nat) : Int)) = false := by decide
   clear hm
   all_goals
    rcases hcs with ⟨rfl, rfl, rfl, hok⟩ | ⟨hno, hcs⟩
    ·have QW := ak hok
     clear hok
     go_wp2_with (first
      | (go_at_call 95; refine (jP _ HQ.out).mono ?_; rintro e W1 ⟨rfl, aW⟩; replace HQ := ak (HQ.out.below aW); replace HY := ak (HY.out.below aW); replace HX := ak (HX.out.below aW); replace HA := ak (Kd.R_below HA.out aW); replace HB := ak (HB.out.trans (aW.mono HB.out.size)); clear aW)
      | (go_at_call 85; refine (HD'.out _ _ _ _ HQ.out).mono ?_; rintro e W2 ⟨rfl, aW⟩; replace HY := ak (HY.out.below aW); replace HX := ak (HX.out.below aW); replace HA := ak (Kd.R_below HA.out aW); replace HB := ak (HB.out.trans (aW.mono HB.out.size)); clear aW)
      | ((with_reducible refine aA (N := 47) rfl ?_); refine cF (by rfl) ?_; refine bN rfl 99 (.tmp 4) rfl g4 rfl _ _ _ HY.out Tryz.underlying99 rfl 1 (by kernel_rfl) rfl ?_)
      | (go_at_call 96; refine (bz.calls 65537 Ao co acc _ _ (gh HA.out).1 (gh HA.out).2 HRT.out).mono ?_; rintro e W3 ⟨rfl, aW⟩; replace HY := ak (HY.out.below aW); replace HX := ak (HX.out.below aW); replace HA := ak (Kd.R_below HA.out aW); replace HB := ak (HB.out.trans (aW.mono HB.out.size)); clear aW)
      | ((with_reducible refine aA (N := 51) rfl ?_); refine ev rfl 99 #[] rfl kI (Cd _) ?_)
      | (refine aM rfl 99 (.tmp 2) (.tmp 51) rfl g2 kI rfl rfl 99 _ HX.out 1 (by kernel_rfl) rfl rfl (by intro u hu; simp [kI] at hu; subst hu; rfl) ?_; intro W9 gp dp)
      | ((with_reducible refine aA (N := 52) rfl ?_); refine bN rfl 99 (.tmp 4) rfl g4 rfl _ _ _ HY.out Tryz.underlying99 rfl 1 (by kernel_rfl) rfl ?_)
      | (refine aM rfl 99 (.tmp 2) (.tmp 52) rfl g2 [.slice Ao acc.length co] rfl rfl 99 _ HX.out 1 (by kernel_rfl) rfl rfl (by intro u hu; simp at hu; subst hu; rfl) ?_; intro W9 gp dp))
     exact bodyPost_ret (bV rfl _ _ g2 99 _ (0, 0) _ rfl gp Tryz.underlying99 rfl (by kernel_rfl)) rfl (JA rfl QW.out HMR.out HWB.out (oG HA.out dp HXB.out) (HB.out.grown dp HB.out.size (by intro k hk; cases hk; exact fw.out)))
    ·have HNO := ak hno
     clear hno
     rcases hcs with rfl | ⟨rfl, rfl⟩ | ⟨rfl, rfl, rfl⟩
     all_goals
      go_wp2_with (first
       | (go_at_call 95; refine (jP _ HQ.out).mono ?_; rintro e W1 ⟨rfl, aW⟩; replace HQ := ak (HQ.out.below aW); replace HY := ak (HY.out.below aW); replace HX := ak (HX.out.below aW); replace HA := ak (Kd.R_below HA.out aW); replace HB := ak (HB.out.trans (aW.mono HB.out.size)); clear aW)
       | (go_at_call 85; refine (HD'.out _ _ _ _ HQ.out).mono ?_; rintro e W2 ⟨rfl, aW⟩; replace HY := ak (HY.out.below aW); replace HX := ak (HX.out.below aW); replace HA := ak (Kd.R_below HA.out aW); replace HB := ak (HB.out.trans (aW.mono HB.out.size)); clear aW)
       | ((with_reducible refine aA (N := 47) rfl ?_); refine cF (by rfl) ?_; refine bN rfl 99 (.tmp 4) rfl g4 rfl _ _ _ HY.out Tryz.underlying99 rfl 1 (by kernel_rfl) rfl ?_)
       | (go_at_call 96; refine (bz.calls 65537 Ao co acc _ _ (gh HA.out).1 (gh HA.out).2 HRT.out).mono ?_; rintro e W3 ⟨rfl, aW⟩; replace HY := ak (HY.out.below aW); replace HX := ak (HX.out.below aW); replace HA := ak (Kd.R_below HA.out aW); replace HB := ak (HB.out.trans (aW.mono HB.out.size)); clear aW)
       | ((with_reducible refine aA (N := 51) rfl ?_); refine ev rfl 99 #[] rfl kI (Cd _) ?_)
       | (refine aM rfl 99 (.tmp 2) (.tmp 51) rfl g2 kI rfl rfl 99 _ HX.out 1 (by kernel_rfl) rfl rfl (by intro u hu; simp [kI] at hu; subst hu; rfl) ?_; intro W9 gp dp)
       | ((with_reducible refine aA (N := 52) rfl ?_); refine bN rfl 99 (.tmp 4) rfl g4 rfl _ _ _ HY.out Tryz.underlying99 rfl 1 (by kernel_rfl) rfl ?_)
       | (refine aM rfl 99 (.tmp 2) (.tmp 52) rfl g2 [.slice Ao acc.length co] rfl rfl 99 _ HX.out 1 (by kernel_rfl) rfl rfl (by intro u hu; simp at hu; subst hu; rfl) ?_; intro W9 gp dp))
      exact bodyPost_ret (bV rfl _ _ g2 99 _ (0, 0) _ rfl gp Tryz.underlying99 rfl (by kernel_rfl)) rfl (Lw rfl HNO.out (HB.out.grown dp HB.out.size (by intro k hk; cases hk; exact fw.out)))
end Go.Proofs.YtndddnglapkplaaGreatDoor.V
end

section
namespace Go.Proofs.YtndddnglapkplaaGreatDoor.V
theorem CL {P : Program} {ops : Array Oper} {Q : Exit → Act → World → Prop} {oi : Oper} {a : Act} {w : World} {K : Act → World → Prop} (hw : Region.wanted oi (yielded ops a.tmps) = true) (hN : oi.dst = none) (ty : TypeId) (x y : Operand) (ho : oi.op = .store ty x y)
  (g : Nat) (cs : List Value) (hx : a.eval x = .pointer (some ⟨g, 0, none⟩)) (hy : a.eval y = .agg cs.toArray)
  (t : Nat) (nZ : List Value) (hb : bS w g nZ t) (n : Nat) (hi : (P.info? ty).map (·.size) = some n) (hn : cs.length = n) (hold : nZ.length = n) (h1 : ∀ v ∈ cs, v.oneCell' = true)
  (h : ∀ W1, bS W1 g cs t → w.grownBy W1 (some g) → K a W1) : if Region.wanted oi (yielded ops a.tmps) = true then Oper.wp P oi a w K Q else K (a.put none undef) w := by
 have hrun : (execOp a.eval oi).run P w = .ok .skip (w.setRow g cs.toArray) := by
  unfold execOp
  simp only [ho, hx, hy, Instr.storeAt, Instr.sureAddr, Sem.run_bind, Sem.run_pure, Result.andThen_ok, run_storeVar_row w g t ty nZ.toArray cs.toArray hb (by rw [hi]; simp [hn]) (by simp; omega) (by rw [Array.all_eq_true_iff_forall_mem]; intro v hv; exact h1 v (by simpa using hv))]
 exact tt hw hN hrun (h _ (setRow_heap w g nZ.toArray cs.toArray t (0, 0) hb) (oL w g _))
theorem xw {P : Program} {ops : Array Oper} {Q : Exit → Act → World → Prop} {oi : Oper} {a : Act} {w : World} {K : Act → World → Prop} (hw : Region.wanted oi (yielded ops a.tmps) = true) (ty : TypeId) (ho : oi.op = .alloc ty) (cs : List Value) (hz : ∀ w, (zeroValue ty).run P w = .ok (.agg cs.toArray) w)
  (h : ∀ g W1, w.heap.size ≤ g → bS W1 g cs ty → Below w.heap.size w W1 → K (a.put oi.dst (.pointer (some ⟨g, 0, none⟩))) W1) : if Region.wanted oi (yielded ops a.tmps) = true then Oper.wp P oi a w K Q else K (a.put oi.dst undef) w := by
 have := h w.heap.size (w.alloc (.cells cs.toArray ty)) (Nat.le_refl _) (heap_alloc_new w _) (aa (Below.refl _ _) _)
 rw [if_pos hw]
 unfold Oper.wp execOp
 simp only [ho, Instr.alloc, newVar, newRow, newObj, Value.cells, Sem.run_bind, hz, Result.andThen_ok]
 exact this
end Go.Proofs.YtndddnglapkplaaGreatDoor.V
end

section
namespace Go.Proofs.YtndddnglapkplaaGreatDoor.V
attribute [local go_sem] bI bG bP bO bw bu bH bF
def iF.f (a0 : ByteArray) : Option (ByteArray × Bool) := (eO.f a0 (⟨#[104, 97, 110, 100, 108, 101, 47]⟩ : ByteArray)).bind fun qU => (some (qU.1, qU.2))
set_option maxHeartbeats 8000000 in
set_option maxRecDepth 100000 in
theorem iF.calls (a0 : ByteArray) (r1 : ByteArray) (r2 : Bool) (w : World) (h : iF.f a0 = some (r1, r2)) :
  Calls Tryz.prog 58 #[.string a0] w fun e w' => e = .returned (.tuple #[.string r1, .bool r2]) ∧ Below w.heap.size w w' := by
 have HB := ak (Below.refl w.heap.size w)
 have H : ((eO.f a0 (⟨#[104, 97, 110, 100, 108, 101, 47]⟩ : ByteArray)).bind fun qU => (some (qU.1, qU.2))) = some (r1, r2) := h
 clear h
 replace H := Option.bind_eq_some_iff.mp H
 obtain ⟨⟨D5, D4⟩, ek, H⟩ := H
 replace H : (some (D5, D4)) = some (r1, r2) := H
 have A2 := ak ek
 clear ek
 simp only [Option.some.injEq, Prod.mk.injEq] at H
 obtain ⟨rfl, rfl⟩ := H
 go_enter Tryz.func58, Tryz.ntmps58
 go_wp2_with (first | ((with_reducible refine aD (f := 94) rfl ?_); refine bg (some 5) rfl rfl Tryz.func94 (by kernel_rfl) rfl #[.string a0, .string (⟨#[104, 97, 110, 100, 108, 101, 47]⟩ : ByteArray)] rfl (by (try simp only [List.map_toArray, List.map_cons, List.map_nil]); first | done | rfl | (simp only [List.length_drop, List.length_take]; rfl)) ?_; (with_reducible refine (eO.calls a0 (⟨#[104, 97, 110, 100, 108, 101, 47]⟩ : ByteArray) D5 D4 _ A2.out).mono ?_); rintro e w3 ⟨rfl, hb⟩; refine ⟨_, rfl, ?_⟩; have av := ak (au (by repeat (first | (with_reducible first | exact HB.out | apply aa | apply J | apply ab) | exact HB.out)) hb); clear HB; have HB := av; clear av; (try clear hb); (try clear bC); (try clear hk); (try clear hi)))
 go_ret2
 exact ⟨by first | rfl | (simp [aq, ao] <;> rfl) | (simp [*, aq, ao] <;> rfl), by repeat (first | (with_reducible first | exact HB.out | apply aa | apply J | apply ab) | exact HB.out)⟩
end Go.Proofs.YtndddnglapkplaaGreatDoor.V
end

section
namespace Go.Proofs.YtndddnglapkplaaGreatDoor.V
attribute [local go_sem] bI bG bP bO bw bu bH bF
def jD.f (a0 : ByteArray) : Option (ByteArray × Bool) := (eO.f a0 (⟨#[110, 111, 100, 101, 47]⟩ : ByteArray)).bind fun qT => (some (qT.1, qT.2))
set_option maxHeartbeats 8000000 in
set_option maxRecDepth 100000 in
theorem jD.calls (a0 : ByteArray) (r1 : ByteArray) (r2 : Bool) (w : World) (h : jD.f a0 = some (r1, r2)) :
  Calls Tryz.prog 60 #[.string a0] w fun e w' => e = .returned (.tuple #[.string r1, .bool r2]) ∧ Below w.heap.size w w' := by
 have HB := ak (Below.refl w.heap.size w)
 have H : ((eO.f a0 (⟨#[110, 111, 100, 101, 47]⟩ : ByteArray)).bind fun qT => (some (qT.1, qT.2))) = some (r1, r2) := h
 clear h
 replace H := Option.bind_eq_some_iff.mp H
 obtain ⟨⟨D3, D2⟩, ek, H⟩ := H
 replace H : (some (D3, D2)) = some (r1, r2) := H
 have A2 := ak ek
 clear ek
 simp only [Option.some.injEq, Prod.mk.injEq] at H
 obtain ⟨rfl, rfl⟩ := H
 go_enter Tryz.func60, Tryz.ntmps60
 go_wp2_with (first | ((with_reducible refine aD (f := 94) rfl ?_); refine bg (some 5) rfl rfl Tryz.func94 (by kernel_rfl) rfl #[.string a0, .string (⟨#[110, 111, 100, 101, 47]⟩ : ByteArray)] rfl (by (try simp only [List.map_toArray, List.map_cons, List.map_nil]); first | done | rfl | (simp only [List.length_drop, List.length_take]; rfl)) ?_; (with_reducible refine (eO.calls a0 (⟨#[110, 111, 100, 101, 47]⟩ : ByteArray) D3 D2 _ A2.out).mono ?_); rintro e w3 ⟨rfl, hb⟩; refine ⟨_, rfl, ?_⟩; have av := ak (au (by repeat (first | (with_reducible first | exact HB.out | apply aa | apply J | apply ab) | exact HB.out)) hb); clear HB; have HB := av; clear av; (try clear hb); (try clear bC); (try clear hk); (try clear hi)))
 go_ret2
 exact ⟨by first | rfl | (simp [aq, ao] <;> rfl) | (simp [*, aq, ao] <;> rfl), by repeat (first | (with_reducible first | exact HB.out | apply aa | apply J | apply ab) | exact HB.out)⟩
end Go.Proofs.YtndddnglapkplaaGreatDoor.V
end

section
namespace Go.Proofs.YtndddnglapkplaaGreatDoor.V
attribute [local go_sem] bI bG bP bO bw bu bH bF
def fi.f (a0 : ByteArray) (a1 : Int) (a2 : Int) : Option (Int × Bool) := if (a0.size : Int) = 2 then (if 0 < (a0.size : Int) then (if (bt a0 0) = a1 then (if 1 < (a0.size : Int) then (if (bt a0 1) > a2 then (some (0, false)) else (some (wrap64 (bt a0 1), true))) else (none)) else (some (0, false))) else (none)) else (some (0, false))
set_option maxHeartbeats 8000000 in
set_option maxRecDepth 100000 in
theorem fi.calls (a0 : ByteArray) (a1 : Int) (a2 : Int) (r1 : Int) (r2 : Bool) (w : World) (h : fi.f a0 a1 a2 = some (r1, r2)) :
  Calls Tryz.prog 93 #[.string a0, .int .u8 a1, .int .u8 a2] w fun e w' => e = .returned (.tuple #[.int .i64 r1, .bool r2]) ∧ Drawn0 w w' := by
 have H : (if (a0.size : Int) = 2 then (if 0 < (a0.size : Int) then (if (bt a0 0) = a1 then (if 1 < (a0.size : Int) then (if (bt a0 1) > a2 then (some (0, false)) else (some (wrap64 (bt a0 1), true))) else (none)) else (some (0, false))) else (none)) else (some (0, false))) = some (r1, r2) := h
 clear h
 by_cases c4 : (a0.size : Int) = 2
 ·rw [if_pos c4] at H
  have fj : ((a0.size : Int) == 2) = true := beq_iff_eq.mpr c4
  have sU : ((a0.size : Int) != 2) = false := bne_eq_false_iff_eq.mpr c4
  clear c4
  by_cases c5 : 0 < (a0.size : Int)
  ·rw [if_pos c5] at H
   have mb : decide (0 < (a0.size : Int)) = true := decide_eq_true c5
   have sS : decide (0 < a0.size) = true := decide_eq_true (by omega)
   clear c5
   by_cases c7 : (bt a0 0) = a1
   ·rw [if_pos c7] at H
    have nn : ((bt a0 0) == a1) = true := beq_iff_eq.mpr c7
    have uN : ((bt a0 0) != a1) = false := bne_eq_false_iff_eq.mpr c7
    clear c7
    by_cases c8 : 1 < (a0.size : Int)
    ·rw [if_pos c8] at H
     have ma : decide (1 < (a0.size : Int)) = true := decide_eq_true c8
     have rK : decide (1 < a0.size) = true := decide_eq_true (by omega)
     clear c8
     by_cases c10 : (bt a0 1) > a2
     ·rw [if_pos c10] at H
      have tN : decide (a2 < (bt a0 1)) = true := decide_eq_true c10
      clear c10
      simp only [Option.some.injEq, Prod.mk.injEq] at H
      obtain ⟨rfl, rfl⟩ := H
      have p6 : 0 ≤ (0 : Int) := (by omega)
      have q6 : 0 < a0.size := (by have : (0 : Int) < (a0.size : Int) := of_decide_eq_true (by first | (with_reducible assumption) | assumption); omega)
      have Lo : ∀ h : 0 < a0.size, ((a0[0]'h).toNat : Int) = bt a0 0 := cb a0 0
      clear p6
      have Pu : (0 < (a0.size : Int)) = True := eq_true (of_decide_eq_true (by first | (with_reducible assumption) | assumption))
      replace q6 := eq_true q6
      have p9 : 0 ≤ (1 : Int) := (by omega)
      have q9 : 1 < a0.size := (by have : (1 : Int) < (a0.size : Int) := of_decide_eq_true (by first | (with_reducible assumption) | assumption); omega)
      have gp : ∀ h : 1 < a0.size, ((a0[1]'h).toNat : Int) = bt a0 1 := cb a0 1
      clear p9
      have Uy : (1 < (a0.size : Int)) = True := eq_true (of_decide_eq_true (by first | (with_reducible assumption) | assumption))
      replace q9 := eq_true q9
      go_enter Tryz.func93, Tryz.ntmps93
      go_wp2
      go_ret2
      exact ⟨by first | rfl | (simp; done) | (simp [*]; done), by repeat (first | exact Drawn0.refl _ | apply Drawn0.step)⟩
     ·rw [if_neg c10] at H
      have tN : decide (a2 < (bt a0 1)) = false := decide_eq_false c10
      clear c10
      simp only [Option.some.injEq, Prod.mk.injEq] at H
      obtain ⟨rfl, rfl⟩ := H
      have p6 : 0 ≤ (0 : Int) := (by omega)
      have q6 : 0 < a0.size := (by have : (0 : Int) < (a0.size : Int) := of_decide_eq_true (by first | (with_reducible assumption) | assumption); omega)
      have Lo : ∀ h : 0 < a0.size, ((a0[0]'h).toNat : Int) = bt a0 0 := cb a0 0
      clear p6
      have Pu : (0 < (a0.size : Int)) = True := eq_true (of_decide_eq_true (by first | (with_reducible assumption) | assumption))
      replace q6 := eq_true q6
      have p9 : 0 ≤ (1 : Int) := (by omega)
      have q9 : 1 < a0.size := (by have : (1 : Int) < (a0.size : Int) := of_decide_eq_true (by first | (with_reducible assumption) | assumption); omega)
      have gp : ∀ h : 1 < a0.size, ((a0[1]'h).toNat : Int) = bt a0 1 := cb a0 1
      clear p9
      have Uy : (1 < (a0.size : Int)) = True := eq_true (of_decide_eq_true (by first | (with_reducible assumption) | assumption))
      replace q9 := eq_true q9
      have Uz : 0 ≤ (1 : Int) := (by omega)
      have Pw : 1 < a0.size := (by have : (1 : Int) < (a0.size : Int) := of_decide_eq_true (by first | (with_reducible assumption) | assumption); omega)
      have Xk : ∀ h : 1 < a0.size, ((a0[1]'h).toNat : Int) = bt a0 1 := cb a0 1
      clear Uz
      have Xh : (1 < (a0.size : Int)) = True := eq_true (of_decide_eq_true (by first | (with_reducible assumption) | assumption))
      replace Pw := eq_true Pw
      go_enter Tryz.func93, Tryz.ntmps93
      go_wp2
      go_ret2
      exact ⟨by first | rfl | (simp; done) | (simp [*]; done), by repeat (first | exact Drawn0.refl _ | apply Drawn0.step)⟩
    ·rw [if_neg c8] at H
     exact absurd H (by simp)
   ·rw [if_neg c7] at H
    have nn : ((bt a0 0) == a1) = false := beq_eq_false_iff_ne.mpr c7
    have uN : ((bt a0 0) != a1) = true := bne_iff_ne.mpr c7
    simp only [Option.some.injEq, Prod.mk.injEq] at H
    obtain ⟨rfl, rfl⟩ := H
    have p6 : 0 ≤ (0 : Int) := (by omega)
    have q6 : 0 < a0.size := (by have : (0 : Int) < (a0.size : Int) := of_decide_eq_true (by first | (with_reducible assumption) | assumption); omega)
    have Lo : ∀ h : 0 < a0.size, ((a0[0]'h).toNat : Int) = bt a0 0 := cb a0 0
    clear p6
    have Pu : (0 < (a0.size : Int)) = True := eq_true (of_decide_eq_true (by first | (with_reducible assumption) | assumption))
    replace q6 := eq_true q6
    go_enter Tryz.func93, Tryz.ntmps93
    go_wp2
    go_ret2
    exact ⟨by first | rfl | (simp; done) | (simp [*]; done), by repeat (first | exact Drawn0.refl _ | apply Drawn0.step)⟩
  ·rw [if_neg c5] at H
   exact absurd H (by simp)
 ·rw [if_neg c4] at H
  have fj : ((a0.size : Int) == 2) = false := beq_eq_false_iff_ne.mpr c4
  have sU : ((a0.size : Int) != 2) = true := bne_iff_ne.mpr c4
  simp only [Option.some.injEq, Prod.mk.injEq] at H
  obtain ⟨rfl, rfl⟩ := H
  go_enter Tryz.func93, Tryz.ntmps93
  go_wp2
  go_ret2
  exact ⟨by first | rfl | (simp; done) | (simp [*]; done), by repeat (first | exact Drawn0.refl _ | apply Drawn0.step)⟩
end Go.Proofs.YtndddnglapkplaaGreatDoor.V
end

section
namespace Go.Proofs.YtndddnglapkplaaGreatDoor.V
attribute [local go_sem] bI bG bP bO bw bu bH bF
def kR.f (a0 : ByteArray) : Option (Int × Int) := (fi.f a0 65 3).bind fun nt => (if nt.2 = true then (if nt.1 < 1 then (some (0, 3)) else (some (nt.1, 0))) else (some (0, 3)))
set_option maxHeartbeats 8000000 in
set_option maxRecDepth 100000 in
theorem kR.calls (a0 : ByteArray) (r1 : Int) (r2 : Int) (w : World) (h : kR.f a0 = some (r1, r2)) :
  Calls Tryz.prog 57 #[.string a0] w fun e w' => e = .returned (.tuple #[.int .i64 r1, .int .i64 r2]) ∧ Drawn0 w w' := by
 have H : ((fi.f a0 65 3).bind fun nt => (if nt.2 = true then (if nt.1 < 1 then (some (0, 3)) else (some (nt.1, 0))) else (some (0, 3)))) = some (r1, r2) := h
 clear h
 replace H := Option.bind_eq_some_iff.mp H
 obtain ⟨⟨lK, D6⟩, ek, H⟩ := H
 replace H : (if D6 = true then (if lK < 1 then (some (0, 3)) else (some (lK, 0))) else (some (0, 3))) = some (r1, r2) := H
 have A2 := ak ek
 clear ek
 by_cases c3 : D6 = true
 ·subst c3
  have H1 : (if lK < 1 then (some (0, 3)) else (some (lK, 0))) = some (r1, r2) := by rw [if_pos rfl] at H; exact H
  clear H
  have H := H1
  clear H1
  by_cases c4 : lK < 1
  ·rw [if_pos c4] at H
   have fj : decide (lK < 1) = true := decide_eq_true c4
   clear c4
   simp only [Option.some.injEq, Prod.mk.injEq] at H
   obtain ⟨rfl, rfl⟩ := H
   go_enter Tryz.func57, Tryz.ntmps57
   go_wp2_with (first | ((with_reducible refine aD (f := 93) rfl ?_); refine bg (some 8) rfl rfl Tryz.func93 (by kernel_rfl) rfl #[.string a0, .int .u8 65, .int .u8 3] rfl (by (try simp only [List.map_toArray, List.map_cons, List.map_nil]); first | done | rfl | (simp only [List.length_drop, List.length_take]; rfl)) ?_; (with_reducible refine (fi.calls a0 65 3 lK true _ A2.out).mono ?_); rintro e w' ⟨rfl, ⟨nd, rfl⟩⟩; refine ⟨_, rfl, ?_⟩))
   go_ret2
   exact ⟨by first | rfl | (simp; done) | (simp [*]; done), by repeat (first | exact Drawn0.refl _ | apply Drawn0.step)⟩
  ·rw [if_neg c4] at H
   have fj : decide (lK < 1) = false := decide_eq_false c4
   clear c4
   simp only [Option.some.injEq, Prod.mk.injEq] at H
   obtain ⟨rfl, rfl⟩ := H
   go_enter Tryz.func57, Tryz.ntmps57
   go_wp2_with (first | ((with_reducible refine aD (f := 93) rfl ?_); refine bg (some 8) rfl rfl Tryz.func93 (by kernel_rfl) rfl #[.string a0, .int .u8 65, .int .u8 3] rfl (by (try simp only [List.map_toArray, List.map_cons, List.map_nil]); first | done | rfl | (simp only [List.length_drop, List.length_take]; rfl)) ?_; (with_reducible refine (fi.calls a0 65 3 lK true _ A2.out).mono ?_); rintro e w' ⟨rfl, ⟨nd, rfl⟩⟩; refine ⟨_, rfl, ?_⟩))
   go_ret2
   exact ⟨by first | rfl | (simp; done) | (simp [*]; done), by repeat (first | exact Drawn0.refl _ | apply Drawn0.step)⟩
 ·replace c3 := Bool.eq_false_iff.mpr c3
  subst c3
  have H1 : (some (0, 3)) = some (r1, r2) := by rw [if_neg (show ¬ (false = true) by decide)] at H; exact H
  clear H
  have H := H1
  clear H1
  simp only [Option.some.injEq, Prod.mk.injEq] at H
  obtain ⟨rfl, rfl⟩ := H
  go_enter Tryz.func57, Tryz.ntmps57
  go_wp2_with (first | ((with_reducible refine aD (f := 93) rfl ?_); refine bg (some 8) rfl rfl Tryz.func93 (by kernel_rfl) rfl #[.string a0, .int .u8 65, .int .u8 3] rfl (by (try simp only [List.map_toArray, List.map_cons, List.map_nil]); first | done | rfl | (simp only [List.length_drop, List.length_take]; rfl)) ?_; (with_reducible refine (fi.calls a0 65 3 lK false _ A2.out).mono ?_); rintro e w' ⟨rfl, ⟨nd, rfl⟩⟩; refine ⟨_, rfl, ?_⟩))
  go_ret2
  exact ⟨by first | rfl | (simp; done) | (simp [*]; done), by repeat (first | exact Drawn0.refl _ | apply Drawn0.step)⟩
end Go.Proofs.YtndddnglapkplaaGreatDoor.V
end

section
namespace Go.Proofs.YtndddnglapkplaaGreatDoor.V
attribute [local go_sem] bI bG bP bO bw bu bH bF
def km.f (a0 : ByteArray) : Option (Bool × Int) := (fi.f a0 78 1).bind fun qS => (if qS.2 = true then (some ((qS.1 == 1), 0)) else (some (false, 3)))
set_option maxHeartbeats 8000000 in
set_option maxRecDepth 100000 in
theorem km.calls (a0 : ByteArray) (r1 : Bool) (r2 : Int) (w : World) (h : km.f a0 = some (r1, r2)) :
  Calls Tryz.prog 61 #[.string a0] w fun e w' => e = .returned (.tuple #[.bool r1, .int .i64 r2]) ∧ Drawn0 w w' := by
 have H : ((fi.f a0 78 1).bind fun qS => (if qS.2 = true then (some ((qS.1 == 1), 0)) else (some (false, 3)))) = some (r1, r2) := h
 clear h
 replace H := Option.bind_eq_some_iff.mp H
 obtain ⟨⟨vn, D1⟩, ek, H⟩ := H
 replace H : (if D1 = true then (some ((vn == 1), 0)) else (some (false, 3))) = some (r1, r2) := H
 have A2 := ak ek
 clear ek
 by_cases c3 : D1 = true
 ·subst c3
  have H1 : (some ((vn == 1), 0)) = some (r1, r2) := by rw [if_pos rfl] at H; exact H
  clear H
  have H := H1
  clear H1
  simp only [Option.some.injEq, Prod.mk.injEq] at H
  obtain ⟨rfl, rfl⟩ := H
  go_enter Tryz.func61, Tryz.ntmps61
  go_wp2_with (first | ((with_reducible refine aD (f := 93) rfl ?_); refine bg (some 8) rfl rfl Tryz.func93 (by kernel_rfl) rfl #[.string a0, .int .u8 78, .int .u8 1] rfl (by (try simp only [List.map_toArray, List.map_cons, List.map_nil]); first | done | rfl | (simp only [List.length_drop, List.length_take]; rfl)) ?_; (with_reducible refine (fi.calls a0 78 1 vn true _ A2.out).mono ?_); rintro e w' ⟨rfl, ⟨nd, rfl⟩⟩; refine ⟨_, rfl, ?_⟩))
  go_ret2
  exact ⟨by first | rfl | (simp; done) | (simp [*]; done), by repeat (first | exact Drawn0.refl _ | apply Drawn0.step)⟩
 ·replace c3 := Bool.eq_false_iff.mpr c3
  subst c3
  have H1 : (some (false, 3)) = some (r1, r2) := by rw [if_neg (show ¬ (false = true) by decide)] at H; exact H
  clear H
  have H := H1
  clear H1
  simp only [Option.some.injEq, Prod.mk.injEq] at H
  obtain ⟨rfl, rfl⟩ := H
  go_enter Tryz.func61, Tryz.ntmps61
  go_wp2_with (first | ((with_reducible refine aD (f := 93) rfl ?_); refine bg (some 8) rfl rfl Tryz.func93 (by kernel_rfl) rfl #[.string a0, .int .u8 78, .int .u8 1] rfl (by (try simp only [List.map_toArray, List.map_cons, List.map_nil]); first | done | rfl | (simp only [List.length_drop, List.length_take]; rfl)) ?_; (with_reducible refine (fi.calls a0 78 1 vn false _ A2.out).mono ?_); rintro e w' ⟨rfl, ⟨nd, rfl⟩⟩; refine ⟨_, rfl, ?_⟩))
  go_ret2
  exact ⟨by first | rfl | (simp; done) | (simp [*]; done), by repeat (first | exact Drawn0.refl _ | apply Drawn0.step)⟩
end Go.Proofs.YtndddnglapkplaaGreatDoor.V
end

section
namespace Go.Proofs.YtndddnglapkplaaGreatDoor.V
theorem yE (s : ByteArray) (a m : Int) : ∃ r b, fi.f s a m = some (r, b) := by
 unfold fi.f
 by_cases h : (s.size : Int) = 2
 ·rw [if_pos h, if_pos (by omega)]
  by_cases h2 : bt s 0 = a
  ·rw [if_pos h2, if_pos (by omega)]
   by_cases h3 : bt s 1 > m
   ·rw [if_pos h3]; exact ⟨_, _, rfl⟩
   ·rw [if_neg h3]; exact ⟨_, _, rfl⟩
  ·rw [if_neg h2]; exact ⟨_, _, rfl⟩
 ·rw [if_neg h]; exact ⟨_, _, rfl⟩
theorem yM (s : ByteArray) : ∃ r1 r2, kR.f s = some (r1, r2) := by
 obtain ⟨r, b, h⟩ := yE s 65 3
 unfold kR.f
 rw [h, Option.bind_some]
 split
 ·split
  ·exact ⟨_, _, rfl⟩
  ·exact ⟨_, _, rfl⟩
 ·exact ⟨_, _, rfl⟩
theorem yk (s : ByteArray) : ∃ r1 r2, km.f s = some (r1, r2) := by
 obtain ⟨r, b, h⟩ := yE s 78 1
 unfold km.f
 rw [h, Option.bind_some]
 split
 ·exact ⟨_, _, rfl⟩
 ·exact ⟨_, _, rfl⟩
def rS (key val : ByteArray) (rev : Int) : Value := .agg #[.string key, .string val, .int .i64 rev]
set_option maxHeartbeats 4000000 in
set_option maxRecDepth 100000 in
theorem Jf (key val : ByteArray) (rev : Int) (v : Value) (w : World) (h : iB.f 4 key = some (⟨#[]⟩, 0, false)) :
  Calls Tryz.prog 31 #[v, rS key val rev] w fun e w' => e = .returned (.bool false) ∧ Below w.heap.size w w' := by
 obtain ⟨r1, r2, hr⟩ := yM val
 have HO := ak h
 have HR := ak hr
 clear h hr
 unfold rS
 go_enter Tryz.func31, Tryz.ntmps31
 go_wp2_with (first
  | (refine fL rfl 58 (.tmp 1) rfl _ rfl ?_; intro g W1 hg hbx aW; have HB := ak aW; have HX := ak hbx; have gX := hbx.cell 0 _ rfl; clear hg hbx aW)
  | (go_at_call 56; refine (iB.calls 4 key _ _ _ _ HO.out).mono ?_; rintro e W2 ⟨rfl, hb⟩; replace HX := ak (HX.out.below hb); replace HB := ak (HB.out.trans (hb.mono HB.out.size)); have mr := HX.out.cell 1 _ rfl; clear hb gX)
  | (go_at_call 57; refine (kR.calls val r1 r2 _ HR.out).mono ?_; rintro e W3 ⟨rfl, ⟨nd, rfl⟩⟩))
 go_ret
 exact ⟨rfl, J HB.out _⟩
set_option maxHeartbeats 4000000 in
set_option maxRecDepth 100000 in
theorem FA (key val : ByteArray) (rev : Int) (v : Value) (w : World) (h : jD.f key = some (⟨#[]⟩, false)) :
  Calls Tryz.prog 33 #[v, rS key val rev] w fun e w' => e = .returned (.bool false) ∧ Below w.heap.size w w' := by
 obtain ⟨r1, r2, hr⟩ := yk val
 have HO := ak h
 have HR := ak hr
 clear h hr
 unfold rS
 go_enter Tryz.func33, Tryz.ntmps33
 go_wp2_with (first
  | (refine fL rfl 58 (.tmp 1) rfl _ rfl ?_; intro g W1 hg hbx aW; have HB := ak aW; have HX := ak hbx; have gX := hbx.cell 0 _ rfl; clear hg hbx aW)
  | (go_at_call 60; refine (jD.calls key _ _ _ HO.out).mono ?_; rintro e W2 ⟨rfl, hb⟩; replace HX := ak (HX.out.below hb); replace HB := ak (HB.out.trans (hb.mono HB.out.size)); have mr := HX.out.cell 1 _ rfl; clear hb gX)
  | (go_at_call 61; refine (km.calls val r1 r2 _ HR.out).mono ?_; rintro e W3 ⟨rfl, ⟨nd, rfl⟩⟩))
 go_ret
 exact ⟨rfl, J HB.out _⟩
set_option maxHeartbeats 4000000 in
set_option maxRecDepth 100000 in
theorem CD (key val : ByteArray) (hv : val.size ≤ 1000000) (rev : Int) (v : Value) (w : World) (h : iF.f key = some (⟨#[]⟩, false)) :
  Calls Tryz.prog 32 #[v, rS key val rev] w fun e w' => e = .returned (.bool false) ∧ Below w.heap.size w w' := by
 have HO := ak h
 obtain ⟨er, L, hr⟩ : ∃ (er : Int) (L : List Cn), ∀ w, Calls Tryz.prog 59 #[.string val] w fun e w' => ∃ v, e = .returned (.tuple #[.agg #[v], .int .i64 er]) ∧ Kd.R rC 145 w' w.heap.size (fun _ => True) v L ∧ Below w.heap.size w w' := ⟨_, _, EL val hv⟩
 have HR := ak hr
 clear h hr
 unfold rS
 go_enter Tryz.func32, Tryz.ntmps32
 go_wp2_with (first
  | (refine fL rfl 58 (.tmp 1) rfl _ rfl ?_; intro g W1 hg hbx aW; have HB := ak aW; have HX := ak hbx; have gX := hbx.cell 0 _ rfl; clear hg hbx aW)
  | (go_at_call 58; refine (iF.calls key _ _ _ HO.out).mono ?_; rintro e W2 ⟨rfl, hb⟩; replace HX := ak (HX.out.below hb); replace HB := ak (HB.out.trans (hb.mono HB.out.size)); have mr := HX.out.cell 1 _ rfl; clear hb gX)
  | (go_at_call 59; refine (HR.out _).mono ?_; rintro e W3 ⟨vh, rfl, hh, hb⟩; replace HB := ak (HB.out.trans (hb.mono HB.out.size)); obtain ⟨Ah, ch, rfl⟩ := Kd.R_slice hh; have hz := HB.out.size; clear hb hh mr)
  | (refine a6 (some 7) rfl rfl 99 rfl kI (fun _ => by kernel_rfl) ?_; intro g7 W4 cz sJ hb; have HY := ak sJ; have HG := ak (Nat.le_trans hz cz); replace HB := ak (HB.out.trans (hb.mono HB.out.size)); clear hb sJ cz hz)
  | (refine aM rfl 99 (.tmp 7) (.tmp 19) rfl g7 _ rfl rfl 99 _ HY.out 1 (by kernel_rfl) rfl rfl (by intro u hu; simp at hu; subst hu; rfl) ?_; intro W5 UH fQ; replace HB := ak (HB.out.grown fQ HB.out.size (by intro k hk; cases hk; exact HG.out)); clear UH fQ))
 go_ret
 exact ⟨rfl, HB.out⟩
set_option maxHeartbeats 4000000 in
set_option maxRecDepth 100000 in
theorem yC (key val : ByteArray) (hv : val.size ≤ 1000000) (rev : Int) (v : Value) (w : World) (h : ey.f 4 key = some (0, 0, false)) :
  Calls Tryz.prog 29 #[v, rS key val rev] w fun e w' => e = .returned (.bool false) ∧ Below w.heap.size w w' := by
 have HO := ak h
 have HR := sn val hv
 generalize (if kT val = true then ((bj (r1 val).1 : Nat) : Int) else 0) = x1 at HR
 generalize (if kT val = true then ((bj (q2 val).1 : Nat) : Int) else 0) = x2 at HR
 generalize (kT val && decide (bj (q3 val).1 = 1)) = x3 at HR
 generalize (if kT val = true then (0 : Int) else 3) = x4 at HR
 have HRR := ak HR
 clear h HR
 unfold rS
 go_enter Tryz.func29, Tryz.ntmps29
 go_wp2_with (first
  | (refine fL rfl 58 (.tmp 1) rfl _ rfl ?_; intro g W1 hg hbx aW; have HB := ak aW; have HX := ak hbx; have gX := hbx.cell 0 _ rfl; clear hg hbx aW)
  | (go_at_call 52; refine (ey.calls 4 key _ _ _ _ HO.out).mono ?_; rintro e W2 ⟨rfl, hb⟩; replace HX := ak (HX.out.below hb); replace HB := ak (HB.out.trans (hb.mono HB.out.size)); clear hb gX)
  | (refine a6 (some 5) rfl rfl 67 rfl [.int .u32 0, .int .i64 0] (fun _ => by kernel_rfl) ?_; intro g5 W3 fQ o7 hb; have HY := ak o7; have uw := ak (Nat.le_trans HB.out.size fQ); have HNE := ak (show g ≠ g5 by have := HX.out.lt; omega); replace HX := ak (HX.out.below hb); replace HB := ak (HB.out.trans (hb.mono HB.out.size)); clear hb o7 fQ)
  | (refine aM rfl 67 (.tmp 5) (.tmp 13) rfl g5 _ rfl rfl 67 _ HY.out 2 (by kernel_rfl) rfl rfl (by intro u hu; simp at hu; rcases hu with rfl | rfl <;> rfl) ?_; intro W4 Ih da; replace HX := ak (HX.out.grown da (fun e => HNE.out (Option.some.inj e))); replace HB := ak (HB.out.grown da HB.out.size (by intro k hk; cases hk; exact uw.out)); have mr := HX.out.cell 1 _ rfl; clear Ih da)
  | (go_at_call 53; refine (HRR.out _).mono ?_; rintro e W5 ⟨rfl, hb⟩; replace HB := ak (HB.out.trans (hb.mono HB.out.size)); clear hb mr)
  | (refine a6 (some 7) rfl rfl 69 rfl pE (fun _ => by kernel_rfl) ?_; intro g7 W6 cz jG hb; have HZ := ak jG; have fU := ak (Nat.le_trans HB.out.size cz); replace HB := ak (HB.out.trans (hb.mono HB.out.size)); clear hb jG cz)
  | (refine aM rfl 69 (.tmp 7) (.tmp 19) rfl g7 _ rfl rfl 69 _ HZ.out 3 (by kernel_rfl) rfl rfl (by intro u hu; simp at hu; rcases hu with rfl | rfl | rfl <;> rfl) ?_; intro W7 Ig cz; replace HB := ak (HB.out.grown cz HB.out.size (by intro k hk; cases hk; exact fU.out)); clear Ig cz))
 go_ret
 exact ⟨rfl, HB.out⟩
end Go.Proofs.YtndddnglapkplaaGreatDoor.V
end

section
namespace Go.Proofs.YtndddnglapkplaaGreatDoor.V
theorem Jx : (Tryz.prog.info? 64).map (fun i => (i.zero, i.size, i.bytes)) = some (some (.agg ju.toArray), 68, 136) := by kernel_rfl
def e8 (vp vb m1 m2 m3 : Value) : List Value := [vp, vb, m1, m2, m3]
def Fp (val : ByteArray) (bo : Bool) (x : Int) (gv : Nat) (vp m1 m2 m3 : Value) (w : World) (e : Ending) (w' : World) : Prop :=
 e = .returned (.bool (bo && (cy val && ((if cy val = true then (cQ val).addr else 0) == x)))) ∧ (∃ A n c, bS w' gv (e8 vp (.slice A n c) m1 m2 m3) 30) ∧ w.grownBy w' (some gv)
theorem zF : ∀ (l : List Value) (k : Nat) (z : Array Value), k + l.length = z.size → (l.zipIdx k).foldl (fun (cs : Array Value) (x : Value × Nat) => cs.setIfInBounds x.2 x.1) z = (z.toList.take k ++ l).toArray
 | [], k, z, h => by
  simp only [List.zipIdx_nil, List.foldl_nil, List.append_nil]
  rw [List.take_of_length_le (by simpa using (show z.size ≤ k by simpa using Nat.le_of_eq h.symm))]
 | x :: l, k, z, h => by
  rw [List.zipIdx_cons, List.foldl_cons, zF l (k + 1) (z.setIfInBounds k x) (by simp at h ⊢; omega)]
  have hk : k < z.toList.length := by simp at h ⊢; omega
  have e : (z.setIfInBounds k x).toList = z.toList.set k x := by simp
  rw [e, List.take_succ_eq_append_getElem (by simpa using hk), List.getElem_set_self, List.take_set_of_le (Nat.le_refl k), List.append_assoc]
  rfl
theorem CQ (W : World) (cs : List Value) (hl : cs.length = 68) : (Instr.buildSlice 25 1 #[(0, .agg cs.toArray)]).run Tryz.prog W = .ok (.slice (some ⟨W.heap.size, 0, none⟩) 1 1) (W.alloc (.cells cs.toArray 64)) := by
 have h1 : ¬ (¬ cs.length = 68 ∨ 68 < cs.length) := by omega
 go_simp
 rw [zF cs 0 _ (by simp [hl])]
 simp only [List.take_zero, List.nil_append]
theorem yh {o : Oper} {a : Act} {W : World} (x : Operand) (ho : o.op = .buildSlice 25 1 #[(0, x)]) (cs : List Value) (hx : a.eval x = .agg cs.toArray) (hl : cs.length = 68) :
  (execOp a.eval o).run Tryz.prog W = .ok (.value (.slice (some ⟨W.heap.size, 0, none⟩) 1 1)) (W.alloc (.cells cs.toArray 64)) := by
 unfold execOp
 simp only [ho, List.map_toArray, List.map_cons, List.map_nil, hx, Sem.run_bind, CQ W cs hl, Result.andThen_ok, Sem.run_pure]
def px.T5 : Bool × List (List Nat × List Nat) := (true, [([], []), ([], []), ([1], [1]), ([2], [2]), ([3], [3]), ([], []), ([5], [5]), ([4, 6], [4, 6]), ([0, 0, 1, 2, 3, 4, 5, 6, 7], [0]), ([8, 0, 1, 2, 3, 4, 5, 6, 7], [8]), ([9, 7, 7, 0, 1, 2, 3, 4, 5, 6, 7], [7, 9])])
def px.B5 : List Nat := [0, 0, 2, 6, 14, 0, 32, 126, 255, 511, 1023]
theorem px.tab5 : dS .any (opsOf Tryz.f30 5) = px.T5 := by kernel_rfl
theorem px.bits5 : ew px.T5.2 px.B5 = true := by kernel_rfl
set_option maxHeartbeats 8000000 in
set_option maxRecDepth 100000 in
theorem sg (key val : ByteArray) (hv : val.size ≤ 1000000) (rev x : Int) (bo : Bool) (h : gC.f 4 key = some (x, bo)) (gv : Nat) (vp m1 m2 m3 : Value) (w : World) (hx : bS w gv (e8 vp (.slice none 0 0) m1 m2 m3) 30) :
  Calls Tryz.prog 30 #[.pointer (some ⟨gv, 0, none⟩), rS key val rev] w (Fp val bo x gv vp m1 m2 m3 w) := by
 have HO := ak h
 have hlt := hx.lt
 have HV := ak hx
 obtain ⟨er, b0, hr, her, iv⟩ : ∃ (er : Int) (b0 : Bk), (∀ w, Calls Tryz.prog 55 #[.string val] w fun e w' => ∃ v, e = .returned (.tuple #[v, .int .i64 er]) ∧ rh w' v b0 ∧ Below w.heap.size w w') ∧ er = (if cy val = true then 0 else 3) ∧ b0 = (if cy val = true then cQ val else KK) := ⟨_, _, FV val hv, rfl, rfl⟩
 have HR := ak hr
 have HIS : Aside0 ((bo && (cy val && ((if cy val = true then (cQ val).addr else 0) == x))) = (bo && (!(er != 0) && !(b0.addr != x)))) := ⟨by
  rw [her, iv]
  cases cy val with
  | true => simp [bne]
  | false => simp [bne]⟩
 obtain ⟨be, hbe⟩ : ∃ b, (er != 0) = b := ⟨_, rfl⟩
 obtain ⟨ba, hba⟩ : ∃ b, (b0.addr != x) = b := ⟨_, rfl⟩
 have HPO : Aside0 (∀ (e : Ending) (w' : World), e = .returned (.bool (bo && (!be && !ba))) → (∃ A n c, bS w' gv (e8 vp (.slice A n c) m1 m2 m3) 30) → w.grownBy w' (some gv) → Fp val bo x gv vp m1 m2 m3 w e w') := ⟨fun e w' h1 h2 h3 => ⟨by rw [HIS.out, hbe, hba]; exact h1, h2, h3⟩⟩
 clear h hr her iv HIS hx
 have hcs : (bo = true ∧ be = false ∧ ba = false) ∨ (bo = false ∨ (bo = true ∧ be = true) ∨ (bo = true ∧ be = false ∧ ba = true)) := by
  cases bo <;> cases be <;> cases ba <;> simp
 unfold rS
 rcases hcs with ⟨rfl, rfl, rfl⟩ | hcs
 ·go_enter Tryz.func30, Tryz.ntmps30
  go_wp2_with (first
   | (refine fL rfl 58 (.tmp 1) rfl _ rfl ?_; intro g W1 hg hbx aW; have HB := ak aW; have HX := ak hbx; have gX := hbx.cell 0 _ rfl; clear hg hbx aW)
   | (go_at_call 54; refine (gC.calls 4 key _ _ _ HO.out).mono ?_; rintro e W2 ⟨rfl, hb⟩; replace HX := ak (HX.out.below hb); replace HB := ak (HB.out.trans (hb.mono HB.out.size)); have mr := HX.out.cell 1 _ rfl; clear hb gX)
   | (go_at_call 55; refine (HR.out _).mono ?_; rintro e W3 ⟨v0, rfl, Lr, hb⟩; obtain ⟨A, c, A', c', rfl, hbr⟩ := Lr; have HL := ak hbr.l64; replace HB := ak (HB.out.trans (hb.mono HB.out.size)); clear hb mr hbr)
   | (refine a6 (some 7) rfl rfl 64 rfl ju uW ?_; intro g7 W4 cz sJ hb; have HZ := ak sJ; have fU := ak (Nat.le_trans HB.out.size cz); replace HB := ak (HB.out.trans (hb.mono HB.out.size)); clear hb sJ cz)
   | (refine aM rfl 64 (.tmp 7) (.tmp 19) rfl g7 (en b0.addr b0.aff b0.slots (.slice A b0.free.length c) (.slice A' b0.attrs.length c')) rfl rfl 64 _ HZ.out 68 (by kernel_rfl) (fl _ _ _ _ _ HL.out) rfl (oE _ _ _ _ _ rfl rfl) ?_; intro W5 EG fQ; replace HB := ak (HB.out.grown fQ HB.out.size (by intro k hk; cases hk; exact fU.out)); replace HZ := ak EG; have jt := HZ.out.cell 0 _ rfl; clear EG fQ))
  have hbd : Below W5.heap.size W5 W5.drew := dq (Below.refl _ _)
  have Ax := ak ((HV.out.below HB.out).below hbd)
  have Ar := ak (HZ.out.below hbd)
  have pk := ak (dq HB.out)
  have VS := ak (show gv ≠ g7 by have := fU.out; omega)
  clear hbd HV HZ HB jt
  refine ee (n := 11) (S := fun w' => w'.cell? ⟨gv, 1, none⟩ = some (.slice none 0 0) ∧ bS w' g7 (en b0.addr b0.aff b0.slots (.slice A b0.free.length c) (.slice A' b0.attrs.length c')) 64) (ds := [10]) #[false, false, false, false, false, false, false, false, false, false, false] (by kernel_rfl) rfl rfl ⟨Ax.out.cell 1 _ rfl, Ar.out⟩ (fun hHeld => ?_); refine cV px.tab5 px.bits5 (fun an cj => ?_)
  refine pu 0 an.out ?_
  refine pu 1 an.out ?_
  refine pu 2 an.out ?_
  refine pu 3 an.out ?_
  refine tk 4 an.out cj.out hHeld ?_ (hv := by intro w' dg; obtain ⟨s0, s1⟩ := dg; go_simp; with_reducible rfl)
  refine tk 5 an.out cj.out hHeld ?_ (hv := by exact fun _ dg => kQ 64 (.tmp 7) rfl g7 rfl _ _ _ dg.2 Tryz.underlying64 rfl (by rw [fl _ _ _ _ _ HL.out]; kernel_rfl))
  refine on 6 an.out (fun K hK => ?_)
  refine oe (v := .slice (some ⟨W5.drew.heap.size, 0, none⟩) 1 1) (w1 := W5.drew.alloc (.cells (en b0.addr b0.aff b0.slots (.slice A b0.free.length c) (.slice A' b0.attrs.length c')).toArray 64)) (by rfl) (yh (.tmp 38) rfl _ rfl (fl _ _ _ _ _ HL.out)) ?_
  have MT := ak (Ax.out.alloc (.cells (en b0.addr b0.aff b0.slots (.slice A b0.free.length c) (.slice A' b0.attrs.length c')).toArray 64))
  have wm := ak (Ar.out.alloc (.cells (en b0.addr b0.aff b0.slots (.slice A b0.free.length c) (.slice A' b0.attrs.length c')).toArray 64))
  refine kn hK ⟨MT.out.cell 1 _ rfl, wm.out⟩ (fun hHeld => ?_)
  clear hK K
  refine on 7 an.out (fun K hK => ?_)
  refine Kd.R_append_step (Kd.raw 68) (w0 := W5.drew) W5.drew.heap.size (by rfl) (.tmp 37) (.tmp 39) 25 64 (.agg ju.toArray) 136 rfl Tryz.underlying25 Jx rfl (by decide) (by omega) (.slice none 0 0) [] (en b0.addr b0.aff b0.slots (.slice A b0.free.length c) (.slice A' b0.attrs.length c')) (en b0.addr b0.aff b0.slots (.slice A b0.free.length c) (.slice A' b0.attrs.length c')) (fun _ => True) (fun _ => False) rfl rfl ⟨rfl, fl _ _ _ _ _ HL.out, oE _ _ _ _ _ rfl rfl⟩ (fun _ h => h.elim) (fun _ _ => trivial) (Kd.R_nil _ _ _ _ _) (Below.refl _ _) (Nat.le_refl _) (by simp) ?_
  intro v8 w8 mO hO b9 uJ
  have uv := ak (Ax.out.below hO)
  have ur := ak (Ar.out.below hO)
  have ia := ak (pk.out.trans (hO.mono pk.out.size))
  obtain ⟨A8, c8, rfl⟩ := Kd.R_slice mO
  clear mO hO b9 uJ
  refine kn hK ⟨uv.out.cell 1 _ rfl, ur.out⟩ (fun hHeld => ?_)
  clear hK K
  refine pu 8 an.out ?_
  refine pu 9 an.out ?_
  refine vG (i := 10) (N := none) #[true, true, true, true, true, true, true, true, true, true, true] rfl rfl (oS an.out (by kernel_rfl)) (by decide) (fun K hK => ?_)
  have zs := uv.out.frozen 1; have mr := uv.out.cell 1 _ rfl
  refine tt (w1 := ?_) (by rfl) rfl ?_ ?_
  rotate_left
  ·go_simp
   rfl
  refine hK.out _ _ ?_
  clear hK K
  refine dn an.out ?_
  go_wp2
  go_ret
  have hgS := cS w8 gv 1 (.slice A8 [en b0.addr b0.aff b0.slots (.slice A b0.free.length c) (.slice A' b0.attrs.length c')].length c8)
  exact HPO.out _ _ rfl ⟨_, _, _, uv.out.set 1 _⟩ ((df ia.out _).trans hgS)
 ·rcases hcs with rfl | ⟨rfl, rfl⟩ | ⟨rfl, rfl, rfl⟩
  all_goals
   go_enter Tryz.func30, Tryz.ntmps30
   go_wp2_with (first
    | (refine fL rfl 58 (.tmp 1) rfl _ rfl ?_; intro g W1 hg hbx aW; have HB := ak aW; have HX := ak hbx; have gX := hbx.cell 0 _ rfl; clear hg hbx aW)
    | (go_at_call 54; refine (gC.calls 4 key _ _ _ HO.out).mono ?_; rintro e W2 ⟨rfl, hb⟩; replace HX := ak (HX.out.below hb); replace HB := ak (HB.out.trans (hb.mono HB.out.size)); have mr := HX.out.cell 1 _ rfl; clear hb gX)
    | (go_at_call 55; refine (HR.out _).mono ?_; rintro e W3 ⟨v0, rfl, Lr, hb⟩; obtain ⟨A, c, A', c', rfl, hbr⟩ := Lr; have HL := ak hbr.l64; replace HB := ak (HB.out.trans (hb.mono HB.out.size)); clear hb mr hbr)
    | (refine a6 (some 7) rfl rfl 64 rfl ju uW ?_; intro g7 W4 cz sJ hb; have HZ := ak sJ; have fU := ak (Nat.le_trans HB.out.size cz); replace HB := ak (HB.out.trans (hb.mono HB.out.size)); clear hb sJ cz)
    | (refine aM rfl 64 (.tmp 7) (.tmp 19) rfl g7 (en b0.addr b0.aff b0.slots (.slice A b0.free.length c) (.slice A' b0.attrs.length c')) rfl rfl 64 _ HZ.out 68 (by kernel_rfl) (fl _ _ _ _ _ HL.out) rfl (oE _ _ _ _ _ rfl rfl) ?_; intro W5 EG fQ; replace HB := ak (HB.out.grown fQ HB.out.size (by intro k hk; cases hk; exact fU.out)); replace HZ := ak EG; have jt := HZ.out.cell 0 _ rfl; clear EG fQ))
   go_ret
   exact HPO.out _ _ rfl ⟨_, _, _, HV.out.below HB.out⟩ (df HB.out _)
end Go.Proofs.YtndddnglapkplaaGreatDoor.V
end

section
namespace Go.Proofs.YtndddnglapkplaaGreatDoor.V
section
variable {P : Program} {ops : Array Oper} {rest : List Oper} {o : Oper} {a : Act} {w : World} {Q : Exit → Act → World → Prop}
theorem qv (hgd : o.guard = none) {v : Value} {w1 : World} (hrun : (execOp a.eval o).run P w = .ok (.value v) w1) (h : wpList P ops Q rest (a.put o.dst v) w1) : wpList P ops Q (o :: rest) a w := by
 refine wpList_plain hgd fun K hK => ?_
 unfold Oper.wp
 rw [hrun]
 exact hK _ _ h
theorem Jj (hgd : o.guard = none) {w1 : World} (hrun : (execOp a.eval o).run P w = .ok .skip w1) (h : wpList P ops Q rest (a.put o.dst undef) w1) : wpList P ops Q (o :: rest) a w := by
 refine wpList_plain hgd fun K hK => ?_
 unfold Oper.wp
 rw [hrun]
 exact hK _ _ h
theorem gg (hgd : o.guard = none) (ty : TypeId) (ho : o.op = .makeMap ty none)
  (h : ∀ g W1, w.heap.size ≤ g → W1.heap[g]? = some (.map #[] 0) → Below w.heap.size w W1 → wpList P ops Q rest (a.put o.dst (.map (some g))) W1) : wpList P ops Q (o :: rest) a w := by
 refine qv hgd (v := .map (some w.heap.size)) (w1 := w.alloc (.map #[] 0)) ?_ (h _ _ (Nat.le_refl _) (heap_alloc_new w _) (aa (Below.refl _ _) _))
 unfold execOp
 simp only [ho, Option.map_none, Sem.run_bind, run_makeMap, Result.andThen_ok, Sem.run_pure]
theorem kB (hgd : o.guard = none) (ty : TypeId) (x y : Operand) (ho : o.op = .lookup ty x y false) (m k : Value) (hx : a.eval x = m) (hy : a.eval y = k) {v : Value} (hl : (Instr.lookup ty m k false).run P w = .ok v w)
  (h : wpList P ops Q rest (a.put o.dst v) w) : wpList P ops Q (o :: rest) a w := by
 refine qv hgd (v := v) (w1 := w) ?_ h
 unfold execOp
 simp only [ho, hx, hy, Sem.run_bind, hl, Result.andThen_ok, Sem.run_pure]
theorem mZ (hgd : o.guard = none) (ty : TypeId) (x y z : Operand) (ho : o.op = .mapUpdate ty x y z) (m k u : Value) (hx : a.eval x = m) (hy : a.eval y = k) (hz : a.eval z = u) {w1 : World} (hl : (Instr.mapUpdate ty m k u).run P w = .ok () w1)
  (h : wpList P ops Q rest (a.put o.dst undef) w1) : wpList P ops Q (o :: rest) a w := by
 refine Jj hgd (w1 := w1) ?_ h
 unfold execOp
 simp only [ho, hx, hy, hz, Sem.run_bind, hl, Result.andThen_ok, Sem.run_pure]
end
theorem CN {W : World} {g : Nat} (s : ByteArray) (h : W.heap[g]? = some (.map #[] 0)) : (Instr.lookup 92 (.map (some g)) (.string s) false).run Tryz.prog W = .ok (.int .i64 0) W := by
 have hf : Instr.findNow .string (.string s) ([] : List MapEntry) 0 = some none := rfl
 have hc : (Instr.checkKey true 10000 9 (.string s)).run Tryz.prog W = .ok () W := MapKept.run_checkKey (k := .string s) Tryz.underlying9 (by simp [MapKept.IsKey]) true 9999
 unfold Instr.lookup
 simp only [Sem.run_bind, run_underlying Tryz.underlying92, Result.andThen_ok, MapKept.run_getObj_map h, Sem.run_pure]
 rw [show (#[] : Array MapEntry).isEmpty = true from rfl, hc]
 simp only [Result.andThen_ok, MapKept.run_findKey Tryz.underlying9 hf]
 simp [CA]
theorem CM {W : World} {g : Nat} (s : ByteArray) (h : W.heap[g]? = some (.map #[⟨.string s, .int .i64 1, 0⟩] 1)) : (Instr.lookup 92 (.map (some g)) (.string s) false).run Tryz.prog W = .ok (.int .i64 1) W := by
 have hf : Instr.findNow .string (.string s) ([⟨.string s, .int .i64 1, 0⟩] : List MapEntry) 0 = some (some (0, .int .i64 1)) := by
  unfold Instr.findNow Instr.sameNow
  dsimp only
  rw [show (s == s) = true from (MapKept.bytes_beq s s).2 rfl]
 have hc : (Instr.checkKey false 10000 9 (.string s)).run Tryz.prog W = .ok () W := MapKept.run_checkKey (k := .string s) Tryz.underlying9 (by simp [MapKept.IsKey]) false 9999
 unfold Instr.lookup
 simp only [Sem.run_bind, run_underlying Tryz.underlying92, Result.andThen_ok, MapKept.run_getObj_map h, Sem.run_pure]
 rw [show (#[⟨.string s, .int .i64 1, 0⟩] : Array MapEntry).isEmpty = false from rfl, hc]
 simp only [Result.andThen_ok, MapKept.run_findKey Tryz.underlying9 hf]
 simp
theorem wD {W : World} {g : Nat} (s : ByteArray) (h : W.heap[g]? = some (.map #[] 0)) : ∃ W1, (Instr.mapUpdate 92 (.map (some g)) (.string s) (.int .i64 1)).run Tryz.prog W = .ok () W1 ∧ W1.heap[g]? = some (.map #[⟨.string s, .int .i64 1, 0⟩] 1) ∧ W.grownBy W1 (some g) := by
 have hlt : g < W.heap.size := (Array.getElem?_eq_some_iff.1 h).1
 refine ⟨_, run_mapUpdate_first W 92 9 3 g 0 s (.int .i64 1) Tryz.underlying92 Tryz.underlying9 h, by simp [hlt], ⟨rfl, rfl, rfl, by simp, fun k _ hk => ?_⟩⟩
 show (W.heap.setIfInBounds g _)[k]? = _
 rw [Array.getElem?_setIfInBounds_ne (fun e => hk (by rw [e]))]
def nC.T5 : Bool × List (List Nat × List Nat) := (true, [([], []), ([], []), ([1], [1]), ([2], [2]), ([3], [3]), ([], []), ([5], [5]), ([4, 6], [4, 6]), ([0, 0, 1, 2, 3, 4, 5, 6, 7], [0]), ([8, 0, 1, 2, 3, 4, 5, 6, 7], [8]), ([9, 7, 7, 0, 1, 2, 3, 4, 5, 6, 7], [7, 9])])
def nC.B5 : List Nat := [0, 0, 2, 6, 14, 0, 32, 126, 255, 511, 1023]
theorem nC.tab5 : dS .any (opsOf Tryz.f29 5) = nC.T5 := by kernel_rfl
theorem nC.bits5 : ew nC.T5.2 nC.B5 = true := by kernel_rfl
set_option maxHeartbeats 8000000 in
set_option maxRecDepth 100000 in
theorem AP (key val : ByteArray) (rev x1 x2 : Int) (x3 : Bool) (h : ey.f 4 key = some (x1, x2, true)) (hr : ∀ w, Calls Tryz.prog 53 #[.string val] w fun e w' => e = .returned (.tuple #[.agg #[.int .u32 x1, .int .i64 x2, .bool x3], .int .i64 0]) ∧ Below w.heap.size w w') (gv : Nat) (vb m1 m2 m3 : Value) (w : World) (hx : bS w gv (e8 (.slice none 0 0) vb m1 m2 m3) 30) :
  Calls Tryz.prog 29 #[.pointer (some ⟨gv, 0, none⟩), rS key val rev] w fun e w' => e = .returned (.bool true) ∧ (∃ A c, bS w' gv (e8 (.slice A 1 c) vb m1 m2 m3) 30 ∧ Kd.R xF 69 w' w.heap.size (fun _ => True) (.slice A 1 c) [⟨⟨x1, x2⟩, x3⟩]) ∧ w.grownBy w' (some gv) := by
 have HO := ak h
 have hlt := hx.lt
 have HV := ak hx
 have HRR := ak hr
 clear h hr hx
 have XX : (x1 == x1) = true := beq_self_eq_true _
 have PJ : (x2 == x2) = true := beq_self_eq_true _
 unfold rS
 go_enter Tryz.func29, Tryz.ntmps29
 go_wp2_with (first
  | (refine fL rfl 58 (.tmp 1) rfl _ rfl ?_; intro g W1 hg hbx aW; have HB := ak aW; have HX := ak hbx; have gX := hbx.cell 0 _ rfl; clear hg hbx aW)
  | (go_at_call 52; refine (ey.calls 4 key _ _ _ _ HO.out).mono ?_; rintro e W2 ⟨rfl, hb⟩; replace HX := ak (HX.out.below hb); replace HB := ak (HB.out.trans (hb.mono HB.out.size)); clear hb gX)
  | (refine a6 (some 5) rfl rfl 67 rfl [.int .u32 0, .int .i64 0] (fun _ => by kernel_rfl) ?_; intro g5 W3 fQ o7 hb; have HY := ak o7; have uw := ak (Nat.le_trans HB.out.size fQ); have HNE := ak (show g ≠ g5 by have := HX.out.lt; omega); replace HX := ak (HX.out.below hb); replace HB := ak (HB.out.trans (hb.mono HB.out.size)); clear hb o7 fQ)
  | (refine aM rfl 67 (.tmp 5) (.tmp 13) rfl g5 [.int .u32 x1, .int .i64 x2] rfl rfl 67 _ HY.out 2 (by kernel_rfl) rfl rfl (by intro u hu; simp at hu; rcases hu with rfl | rfl <;> rfl) ?_; intro W4 Ih da; replace HX := ak (HX.out.grown da (fun e => HNE.out (Option.some.inj e))); replace HB := ak (HB.out.grown da HB.out.size (by intro k hk; cases hk; exact uw.out)); replace HY := ak Ih; have mr := HX.out.cell 1 _ rfl; clear Ih da)
  | (go_at_call 53; refine (HRR.out _).mono ?_; rintro e W5 ⟨rfl, hb⟩; replace HY := ak (HY.out.below hb); replace HB := ak (HB.out.trans (hb.mono HB.out.size)); clear hb mr)
  | (refine a6 (some 7) rfl rfl 69 rfl pE (fun _ => by kernel_rfl) ?_; intro g7 W6 cz jG hb; have HZ := ak jG; have fU := ak (Nat.le_trans HB.out.size cz); have QX := ak (show g5 ≠ g7 by have := HY.out.lt; omega); replace HY := ak (HY.out.below hb); replace HB := ak (HB.out.trans (hb.mono HB.out.size)); clear hb jG cz)
  | (refine aM rfl 69 (.tmp 7) (.tmp 19) rfl g7 [.int .u32 x1, .int .i64 x2, .bool x3] rfl rfl 69 _ HZ.out 3 (by kernel_rfl) rfl rfl (by intro u hu; simp at hu; rcases hu with rfl | rfl | rfl <;> rfl) ?_; intro W7 Ig cz; replace HY := ak (HY.out.grown cz (fun e => QX.out (Option.some.inj e))); replace HB := ak (HB.out.grown cz HB.out.size (by intro k hk; cases hk; exact fU.out)); replace HZ := ak Ig; clear Ig cz)
  | ((with_reducible refine aA (N := 29) rfl ?_); refine cF (by rfl) ?_; refine lV rfl 67 (.tmp 28) rfl g7 0 rfl 69 _ [.int .u32 x1, .int .i64 x2] _ HZ.out (by intro j v hv; match j, hv with | 0, hv => exact hv | 1, hv => exact hv) Tryz.underlying67 rfl (by kernel_rfl) ?_)
  | ((with_reducible refine aA (N := 30) rfl ?_); refine cF (by rfl) ?_; refine bN rfl 67 (.tmp 5) rfl g5 rfl _ _ _ HY.out Tryz.underlying67 rfl 2 (by kernel_rfl) rfl ?_))
 have hbd : Below W7.heap.size W7 W7.drew := dq (Below.refl _ _)
 have Ax := ak ((HV.out.below HB.out).below hbd)
 have Ar := ak (HZ.out.below hbd)
 have pk := ak (dq HB.out)
 have VS := ak (show gv ≠ g7 by have := fU.out; omega)
 clear hbd HV HZ HB
 refine ee (n := 11) (S := fun w' => w'.cell? ⟨gv, 0, none⟩ = some (.slice none 0 0) ∧ bS w' g7 [.int .u32 x1, .int .i64 x2, .bool x3] 69) (ds := [10]) #[false, false, false, false, false, false, false, false, false, false, false] (by kernel_rfl) rfl rfl ⟨Ax.out.cell 0 _ rfl, Ar.out⟩ (fun hHeld => ?_); refine cV nC.tab5 nC.bits5 (fun an cj => ?_)
 refine pu 0 an.out ?_
 refine pu 1 an.out ?_
 refine pu 2 an.out ?_
 refine pu 3 an.out ?_
 refine tk 4 an.out cj.out hHeld ?_ (hv := by intro w' dg; obtain ⟨s0, s1⟩ := dg; go_simp; with_reducible rfl)
 refine tk 5 an.out cj.out hHeld ?_ (hv := by exact fun _ dg => kQ 69 (.tmp 7) rfl g7 rfl _ _ _ dg.2 Tryz.underlying69 rfl (by kernel_rfl))
 refine on 6 an.out (fun K hK => ?_)
 have MT := ak (Ax.out.alloc (.cells [Value.int .u32 x1, .int .i64 x2, .bool x3].toArray 69)); have wm := ak (Ar.out.alloc (.cells [Value.int .u32 x1, .int .i64 x2, .bool x3].toArray 69))
 refine oe (v := .slice (some ⟨W7.drew.heap.size, 0, none⟩) 1 1) (w1 := W7.drew.alloc (.cells [Value.int .u32 x1, .int .i64 x2, .bool x3].toArray 69)) (by rfl) ?_ ?_
 ·go_simp
  try rfl
 refine kn hK ⟨MT.out.cell 0 _ rfl, wm.out⟩ (fun hHeld => ?_)
 clear hK K
 refine on 7 an.out (fun K hK => ?_)
 refine Kd.R_append_step xF (w0 := W7.drew) W7.drew.heap.size (by rfl) (.tmp 37) (.tmp 39) 24 69 (.agg #[.int .u32 0, .int .i64 0, .bool false]) 24 rfl Tryz.underlying24 Ll rfl (by decide) (by omega) (.slice none 0 0) [] ⟨⟨x1, x2⟩, x3⟩ [.int .u32 x1, .int .i64 x2, .bool x3] (fun _ => True) (fun _ => False) rfl rfl (Jv _ _ _ _) (fun _ h => h.elim) (fun _ _ => trivial) (Kd.R_nil _ _ _ _ _) (Below.refl _ _) (Nat.le_refl _) (by simp) ?_
 intro v8 w8 mO hO b9 uJ
 have uv := ak (Ax.out.below hO)
 have ur := ak (Ar.out.below hO)
 have ia := ak (pk.out.trans (hO.mono pk.out.size))
 obtain ⟨A8, c8, rfl⟩ := Kd.R_slice mO
 have Cq := ak (Kd.R_lower mO pk.out.size)
 clear mO hO b9 uJ
 refine kn hK ⟨uv.out.cell 0 _ rfl, ur.out⟩ (fun hHeld => ?_)
 clear hK K
 refine pu 8 an.out ?_
 refine pu 9 an.out ?_
 refine vG (i := 10) (N := none) #[true, true, true, true, true, true, true, true, true, true, true] rfl rfl (oS an.out (by kernel_rfl)) (by decide) (fun K hK => ?_)
 have zs := uv.out.frozen 0; have mr := uv.out.cell 0 _ rfl
 refine tt (w1 := ?_) (by rfl) rfl ?_ ?_
 rotate_left
 ·go_simp
  rfl
 refine hK.out _ _ ?_
 clear hK K
 refine dn an.out ?_
 go_wp2
 go_ret
 have hgS := cS w8 gv 0 (.slice A8 1 c8)
 exact ⟨rfl, ⟨A8, c8, uv.out.set 0 _, cR Cq.out uv.out (by decide) hgS⟩, (df ia.out _).trans hgS⟩
end Go.Proofs.YtndddnglapkplaaGreatDoor.V
end

section
namespace Go.Proofs.YtndddnglapkplaaGreatDoor.V
attribute [local go_sem] bI bG bP bO bw bu bH bF
def iY.f (aH : ByteArray) (aC : ByteArray) (iS : Int) : Option (Bool) := if aH.toList = ([108, 111, 99, 107] : List UInt8) then (some (aC.toList == ([76] : List UInt8))) else (some false)
set_option maxHeartbeats 8000000 in
set_option maxRecDepth 100000 in
theorem iY.calls (aH : ByteArray) (aC : ByteArray) (iS : Int) (r : Bool) (w : World) (h : iY.f aH aC iS = some r) :
  Calls Tryz.prog 28 #[.agg #[.string aH, .string aC, .int .i64 iS]] w fun e w' => e = .returned (.bool r) ∧ Below w.heap.size w w' := by
 have Xo := Tryz.underlying58
 have HB := ak (Below.refl w.heap.size w)
 have H : (if aH.toList = ([108, 111, 99, 107] : List UInt8) then (some (aC.toList == ([76] : List UInt8))) else (some false)) = some r := h
 clear h
 by_cases c2 : aH.toList = ([108, 111, 99, 107] : List UInt8)
 ·rw [if_pos c2] at H
  have gY : (aH.toList == ([108, 111, 99, 107] : List UInt8)) = true := beq_iff_eq.mpr c2
  have sV : (aH.toList != ([108, 111, 99, 107] : List UInt8)) = false := bne_eq_false_iff_eq.mpr c2
  clear c2
  obtain rfl := Option.some.inj H
  go_enter Tryz.func28, Tryz.ntmps28
  go_wp2_with (first | ((with_reducible refine aA (N := 1) rfl ?_); refine bl ?hg (N := 1) ?hd (cs := #[.string aH, .string aC, .int .i64 iS]) (t := 58) ?hr ?_; (case hd => rfl); (case hg => rfl); (case hr => first | (go_simp; done) | (go_simp; rfl)); intro jH hg w3 hbox hb; have av := ak (au (by repeat (first | (with_reducible first | exact HB.out | apply aa | apply J | apply ab) | exact HB.out)) hb); have az := ak (hbox); have aR := ak ((by rw [hg]; exact (ay (by repeat (first | (with_reducible first | exact HB.out | apply aa | apply J | apply ab) | exact HB.out))) : w.heap.size ≤ jH)); have bp := ak ((by rw [hg]; exact (ay (by repeat (first | (with_reducible first | exact HB.out | apply aa | apply J | apply ab) | exact HB.out))) : w.heap.size ≤ jH)); clear HB; have HB := av; have iH := az; have KG := aR; have xk := bp; clear av az aR bp; clear hb hbox hg; have Vi : w3.cell? ⟨jH, 0, none⟩ = some (.string aH) := (aj iH.out 0).trans rfl; have Vh : w3.cell? ⟨jH, 1, none⟩ = some (.string aC) := (aj iH.out 1).trans rfl; have Vg : w3.cell? ⟨jH, 2, none⟩ = some (.int .i64 iS) := (aj iH.out 2).trans rfl; have U4 := ah iH.out 0; have U3 := ah iH.out 1; have U2 := ah iH.out 2))
  go_ret
  exact ⟨by first | rfl | (simp [aq, ao] <;> rfl) | (simp [*, aq, ao] <;> rfl), by repeat (first | (with_reducible first | exact HB.out | apply aa | apply J | apply ab | refine ai ?_ xk.out) | exact HB.out)⟩
 ·rw [if_neg c2] at H
  have gY : (aH.toList == ([108, 111, 99, 107] : List UInt8)) = false := beq_eq_false_iff_ne.mpr c2
  have sV : (aH.toList != ([108, 111, 99, 107] : List UInt8)) = true := bne_iff_ne.mpr c2
  obtain rfl := Option.some.inj H
  go_enter Tryz.func28, Tryz.ntmps28
  go_wp2_with (first | ((with_reducible refine aA (N := 1) rfl ?_); refine bl ?hg (N := 1) ?hd (cs := #[.string aH, .string aC, .int .i64 iS]) (t := 58) ?hr ?_; (case hd => rfl); (case hg => rfl); (case hr => first | (go_simp; done) | (go_simp; rfl)); intro jH hg w5 hbox hb; have av := ak (au (by repeat (first | (with_reducible first | exact HB.out | apply aa | apply J | apply ab) | exact HB.out)) hb); have az := ak (hbox); have aR := ak ((by rw [hg]; exact (ay (by repeat (first | (with_reducible first | exact HB.out | apply aa | apply J | apply ab) | exact HB.out))) : w.heap.size ≤ jH)); have bp := ak ((by rw [hg]; exact (ay (by repeat (first | (with_reducible first | exact HB.out | apply aa | apply J | apply ab) | exact HB.out))) : w.heap.size ≤ jH)); clear HB; have HB := av; have iH := az; have KG := aR; have xk := bp; clear av az aR bp; clear hb hbox hg; have zw : w5.cell? ⟨jH, 0, none⟩ = some (.string aH) := (aj iH.out 0).trans rfl; have zv : w5.cell? ⟨jH, 1, none⟩ = some (.string aC) := (aj iH.out 1).trans rfl; have LK : w5.cell? ⟨jH, 2, none⟩ = some (.int .i64 iS) := (aj iH.out 2).trans rfl; have zo := ah iH.out 0; have zn := ah iH.out 1; have LG := ah iH.out 2))
  go_ret
  exact ⟨by first | rfl | (simp [aq, ao] <;> rfl) | (simp [*, aq, ao] <;> rfl), by repeat (first | (with_reducible first | exact HB.out | apply aa | apply J | apply ab | refine ai ?_ xk.out) | exact HB.out)⟩
end Go.Proofs.YtndddnglapkplaaGreatDoor.V
end

section
namespace Go.Proofs.YtndddnglapkplaaGreatDoor.V
def lG : List Value := [.slice none 0 0, .slice none 0 0, .map none, .map none, .map none]
theorem Ch (a b c : Nat) : Tryz.prog.built 30 [(2, .map (some a)), (3, .map (some b)), (4, .map (some c))] = some (e8 (.slice none 0 0) (.slice none 0 0) (.map (some a)) (.map (some b)) (.map (some c))).toArray := by kernel_rfl
theorem GI : ∀ a : Act, Tryz.prog.built 30 ((#[] : Array (Nat × Operand)).map fun (i, x) => (i, a.eval x)).toList = some lG.toArray := fun _ => by kernel_rfl
def tP (val : ByteArray) (bo : Bool) (x : Int) : Bool := bo && (cy val && ((if cy val = true then (cQ val).addr else 0) == x))
set_option maxHeartbeats 8000000 in
set_option maxRecDepth 100000 in
theorem of_block (key val : ByteArray) (hv : val.size ≤ 1000000) (rev x : Int) (bo : Bool) (hlk : iY.f key val rev = some false) (hpo : ey.f 4 key = some (0, 0, false)) (hbo : gC.f 4 key = some (x, bo)) (hao : iB.f 4 key = some (⟨#[]⟩, 0, false)) (hho : iF.f key = some (⟨#[]⟩, false)) (hno : jD.f key = some (⟨#[]⟩, false))
  (A : Option Addr) (c : Nat) (w : World) (hC : Kd.C vI w A 1 [⟨key, val, rev⟩]) (hc : 1 ≤ c) :
  Calls Tryz.prog 7 #[.slice A 1 c] w fun e w' => (∃ A1 n1 c1 A2 n2 c2 q1 q2 q3, e = .returned (.tuple #[.agg (e8 (.slice A1 n1 c1) (.slice A2 n2 c2) (.map q1) (.map q2) (.map q3)).toArray, .int .i64 (if tP val bo x = true then 0 else 3)])) ∧ Below w.heap.size w w' := by
 have HC := ak hC
 have HLK := ak hlk
 have HPN := ak hpo
 have HBO := ak hbo
 have HAN := ak hao
 have HHN := ak hho
 have HNN := ak hno
 have HIS : Aside0 ((bo && (cy val && ((if cy val = true then (cQ val).addr else 0) == x))) = tP val bo x) := ⟨rfl⟩
 generalize tP val bo x = bi at HIS ⊢
 clear hC hlk hpo hbo hao hho hno
 go_enter Tryz.func7, Tryz.ntmps7
 go_wp2_with (first
  | (refine a6 (some 2) rfl rfl 30 rfl lG (fun _ => by kernel_rfl) ?_; intro g2 W1 dH fV aW; have HX := ak fV; have HB := ak aW; have fw := ak dH; clear fV aW dH)
  | ((with_reducible refine aA (N := 8) rfl ?_); refine gg rfl 26 rfl ?_; intro o1 W2 fK iu hb; replace HX := ak (HX.out.below hb); replace HB := ak (HB.out.trans (hb.mono HB.out.size)); clear hb fK iu)
  | ((with_reducible refine aA (N := 9) rfl ?_); refine gg rfl 27 rfl ?_; intro o2 W3 fK iu hb; replace HX := ak (HX.out.below hb); replace HB := ak (HB.out.trans (hb.mono HB.out.size)); clear hb fK iu)
  | ((with_reducible refine aA (N := 10) rfl ?_); refine gg rfl 28 rfl ?_; intro o3 W4 fK iu hb; replace HX := ak (HX.out.below hb); replace HB := ak (HB.out.trans (hb.mono HB.out.size)); clear hb fK iu)
  | ((with_reducible refine aA (N := 11) rfl ?_); refine eC rfl 30 #[(2, .tmp 8), (3, .tmp 9), (4, .tmp 10)] rfl [(2, .map (some o1)), (3, .map (some o2)), (4, .map (some o3))] (by simp only [List.map_toArray, List.map_cons, List.map_nil]; rfl) (e8 (.slice none 0 0) (.slice none 0 0) (.map (some o1)) (.map (some o2)) (.map (some o3))) (Ch _ _ _) ?_)
  | (refine a6 (some 4) rfl rfl 30 rfl lG (fun _ => by kernel_rfl) ?_; intro g4 W5 da sI hb; have HV := ak sI; have pj := ak (Nat.le_trans HB.out.size da); have th := ak (show g2 ≠ g4 by have := HX.out.lt; omega); replace HX := ak (HX.out.below hb); replace HB := ak (HB.out.trans (hb.mono HB.out.size)); clear hb sI da)
  | (refine aM rfl 30 (.tmp 4) (.tmp 11) rfl g4 (e8 (.slice none 0 0) (.slice none 0 0) (.map (some o1)) (.map (some o2)) (.map (some o3))) rfl rfl 30 _ HV.out 5 (by kernel_rfl) rfl rfl (by intro u hu; simp [e8] at hu; rcases hu with rfl | rfl | rfl | rfl | rfl <;> rfl) ?_; intro W6 EJ jF; replace HV := ak EJ; replace HX := ak (HX.out.grown jF (fun e => th.out (Option.some.inj e))); replace HB := ak (HB.out.grown jF HB.out.size (by intro k hk; cases hk; exact pj.out)); clear EJ jF)
  | ((with_reducible refine aA (N := 12) rfl ?_); refine gg rfl 92 rfl ?_; intro ms W7 hms iu hb; have HM := ak iu; have HGM := ak (Nat.le_trans HB.out.size hms); have DD := ak (show g4 ≠ ms by have := HV.out.lt; omega); have DG := ak (show g2 ≠ ms by have := HX.out.lt; omega); replace HX := ak (HX.out.below hb); replace HV := ak (HV.out.below hb); replace HB := ak (HB.out.trans (hb.mono HB.out.size)); clear hb hms iu))
 have P4 : decide ((0 : Int) < 1) = true := by decide
 cases bi with
 | true =>
  go_loopw [7, 15] (fun _ i V => ∃ j : Nat, j ≤ 1 ∧ i = .int .i64 j ∧ ((j = 0 ∧ V = W7) ∨ (j = 1 ∧ Aside0 (∃ A1 n1 c1, bS V g4 (e8 (.slice none 0 0) (.slice A1 n1 c1) (.map (some o1)) (.map (some o2)) (.map (some o3))) 30) ∧ Aside0 (bS V g2 lG 30) ∧ Aside0 (Below w.heap.size w V)))) (fun _ i _ => 1 - (intOf i).toNat)
  case atStart => exact ⟨0, by omega, rfl, .inl ⟨rfl, rfl⟩⟩
  case round =>
   obtain ⟨j, hj, rfl, hcase⟩ := hrel
   rcases hcase with ⟨rfl, rfl⟩ | ⟨rfl, HVE, HXE, HBE⟩
   ·obtain ⟨ad, eA, iP, ml, qF⟩ := Ai (Kd.C_below HC.out HB.out) 0 (by omega) (by decide)
    cases eA
    rw [show qy [(⟨key, val, rev⟩ : S58)] 0 = ⟨key, val, rev⟩ from rfl] at iP ml qF
    have had : ad.add ((0 : Int).toNat * 3) = ad := by simp [Addr.add]
    rw [had] at iP ml qF
    dsimp only at iP ml qF
    clear had
    go_wp2_with (first
     | (refine a6 (some 7) rfl rfl 58 rfl [.string ⟨#[]⟩, .string ⟨#[]⟩, .int .i64 0] (fun _ => by kernel_rfl) ?_; intro g7 W8 cz sH hb; have HI := ak sH; have fU := ak (Nat.le_trans HB.out.size cz); have tg := ak (show g4 ≠ g7 by have := HV.out.lt; omega); have AB := ak (show g2 ≠ g7 by have := HX.out.lt; omega); have tf := ak (show ms ≠ g7 by have := (Array.getElem?_eq_some_iff.1 HM.out).1; omega); have nP := ak ((hb.block ms (Array.getElem?_eq_some_iff.1 HM.out).1).trans HM.out); replace HX := ak (HX.out.below hb); replace HV := ak (HV.out.below hb); replace HB := ak (HB.out.trans (hb.mono HB.out.size)); clear hb sH cz HM)
     | (refine aM rfl 58 (.tmp 7) (.tmp 18) rfl g7 [.string key, .string val, .int .i64 rev] rfl rfl 58 _ HI.out 3 (by kernel_rfl) rfl rfl (by intro u hu; simp at hu; rcases hu with rfl | rfl | rfl <;> rfl) ?_; intro W9 xP dp; replace HI := ak xP; have ti := ak ((dp.block ms (Array.getElem?_eq_some_iff.1 nP.out).1 (fun e => tf.out (Option.some.inj e))).trans nP.out); replace HX := ak (HX.out.grown dp (fun e => AB.out (Option.some.inj e))); replace HV := ak (HV.out.grown dp (fun e => tg.out (Option.some.inj e))); replace HB := ak (HB.out.grown dp HB.out.size (by intro k hk; cases hk; exact fU.out)); have rW := HI.out.cell 0 _ rfl; clear xP dp nP)
     | ((with_reducible refine aA (N := 22) rfl ?_); refine kB rfl 92 (.tmp 19) (.tmp 21) rfl (.map (some ms)) (.string key) rfl rfl (CN key ti.out) ?_)
     | (at_mapUpdate; obtain ⟨mB, nI, sC, iL⟩ := wD key ti.out; refine mZ rfl 92 (.tmp 19) (.tmp 21) (.tmp 23) rfl (.map (some ms)) (.string key) (.int .i64 1) rfl rfl rfl nI ?_; have AG := ak sC; replace HI := ak (HI.out.grown iL (fun e => tf.out (Option.some.inj e).symm)); replace HX := ak (HX.out.grown iL (fun e => DG.out (Option.some.inj e))); replace HV := ak (HV.out.grown iL (fun e => DD.out (Option.some.inj e))); replace HB := ak (HB.out.grown iL HB.out.size (by intro k hk; cases hk; exact HGM.out)); clear rW nI sC iL ti; have rW := HI.out.cell 0 _ rfl)
     | ((with_reducible refine aA (N := 27) rfl ?_); refine kB rfl 92 (.tmp 24) (.tmp 26) rfl (.map (some ms)) (.string key) rfl rfl (CM key AG.out) ?_; clear rW)
     | ((with_reducible refine aA (N := 30) rfl ?_); refine cF (by rfl) ?_; refine bN rfl 58 (.tmp 7) rfl g7 rfl _ _ _ HI.out Tryz.underlying58 rfl 3 (by kernel_rfl) rfl ?_)
     | (go_at_call 28; refine (iY.calls key val rev _ _ HLK.out).mono ?_; rintro e V1 ⟨rfl, hb⟩; replace HI := ak (HI.out.below hb); replace HX := ak (HX.out.below hb); replace HV := ak (HV.out.below hb); replace HB := ak (HB.out.trans (hb.mono HB.out.size)); clear hb)
     | ((with_reducible refine aA (N := 34) rfl ?_); refine cF (by rfl) ?_; refine bN rfl 58 (.tmp 7) rfl g7 rfl _ _ _ HI.out Tryz.underlying58 rfl 3 (by kernel_rfl) rfl ?_)
     | (go_at_call 29; refine (yC key val hv rev _ _ HPN.out).mono ?_; rintro e V2 ⟨rfl, hb⟩; replace HI := ak (HI.out.below hb); replace HX := ak (HX.out.below hb); replace HV := ak (HV.out.below hb); replace HB := ak (HB.out.trans (hb.mono HB.out.size)); clear hb)
     | ((with_reducible refine aA (N := 39) rfl ?_); refine cF (by rfl) ?_; refine bN rfl 58 (.tmp 7) rfl g7 rfl _ _ _ HI.out Tryz.underlying58 rfl 3 (by kernel_rfl) rfl ?_)
     | (go_at_call 30; refine (sg key val hv rev x bo HBO.out g4 _ _ _ _ _ HV.out).mono ?_; rintro e V3 ⟨rfl, ⟨A1, n1, c1, ue⟩, hg⟩; rw [HIS.out]; have HVV := ak ue; replace HI := ak (HI.out.grown hg (fun e => tg.out (Option.some.inj e).symm)); replace HX := ak (HX.out.grown hg (fun e => th.out (Option.some.inj e))); replace HB := ak (HB.out.grown hg HB.out.size (by intro k hk; cases hk; exact pj.out)); clear ue hg HV))
    go_roundw
    case rel => exact ⟨1, by omega, by go_num, .inr ⟨rfl, ⟨⟨_, _, _, HVV.out⟩⟩, HX, HB⟩⟩
    case measure => simp [intOf]
   ·clear HX HV HB HM
    have HX := HXE
    have HB := HBE
    obtain ⟨A1, n1, c1, hvv⟩ := HVE.out
    have HVV := ak hvv
    clear hvv HXE HBE HVE
    go_wp2_with (first
     | ((with_reducible refine aA (N := 61) rfl ?_); refine bN rfl 30 (.tmp 4) rfl g4 rfl _ _ _ HVV.out Tryz.underlying30 rfl 5 (by kernel_rfl) rfl ?_)
     | (refine aM rfl 30 (.tmp 2) (.tmp 61) rfl g2 (e8 (.slice none 0 0) (.slice A1 n1 c1) (.map (some o1)) (.map (some o2)) (.map (some o3))) rfl rfl 30 _ HX.out 5 (by kernel_rfl) rfl rfl (by intro u hu; simp [e8] at hu; rcases hu with rfl | rfl | rfl | rfl | rfl <;> rfl) ?_; intro Z9 gp dp))
    exact bodyPost_ret (bV rfl _ _ g2 30 _ (0, 0) _ rfl gp Tryz.underlying30 rfl (by kernel_rfl)) rfl ⟨⟨_, _, _, _, _, _, _, _, _, rfl⟩, (HB.out.grown dp HB.out.size (by intro k hk; cases hk; exact fw.out))⟩
 | false =>
  go_loopw [7, 15] (fun _ i V => ∃ j : Nat, j ≤ 1 ∧ i = .int .i64 j ∧ ((j = 0 ∧ V = W7) ∨ (j = 1 ∧ False))) (fun _ i _ => 1 - (intOf i).toNat)
  case atStart => exact ⟨0, by omega, rfl, .inl ⟨rfl, rfl⟩⟩
  case round =>
   obtain ⟨j, hj, rfl, hcase⟩ := hrel
   rcases hcase with ⟨rfl, rfl⟩ | ⟨rfl, hF⟩
   ·obtain ⟨ad, eA, iP, ml, qF⟩ := Ai (Kd.C_below HC.out HB.out) 0 (by omega) (by decide)
    cases eA
    rw [show qy [(⟨key, val, rev⟩ : S58)] 0 = ⟨key, val, rev⟩ from rfl] at iP ml qF
    have had : ad.add ((0 : Int).toNat * 3) = ad := by simp [Addr.add]
    rw [had] at iP ml qF
    dsimp only at iP ml qF
    clear had
    go_wp2_with (first
     | (refine a6 (some 7) rfl rfl 58 rfl [.string ⟨#[]⟩, .string ⟨#[]⟩, .int .i64 0] (fun _ => by kernel_rfl) ?_; intro g7 W8 cz sH hb; have HI := ak sH; have fU := ak (Nat.le_trans HB.out.size cz); have tg := ak (show g4 ≠ g7 by have := HV.out.lt; omega); have AB := ak (show g2 ≠ g7 by have := HX.out.lt; omega); have tf := ak (show ms ≠ g7 by have := (Array.getElem?_eq_some_iff.1 HM.out).1; omega); have nP := ak ((hb.block ms (Array.getElem?_eq_some_iff.1 HM.out).1).trans HM.out); replace HX := ak (HX.out.below hb); replace HV := ak (HV.out.below hb); replace HB := ak (HB.out.trans (hb.mono HB.out.size)); clear hb sH cz HM)
     | (refine aM rfl 58 (.tmp 7) (.tmp 18) rfl g7 [.string key, .string val, .int .i64 rev] rfl rfl 58 _ HI.out 3 (by kernel_rfl) rfl rfl (by intro u hu; simp at hu; rcases hu with rfl | rfl | rfl <;> rfl) ?_; intro W9 xP dp; replace HI := ak xP; have ti := ak ((dp.block ms (Array.getElem?_eq_some_iff.1 nP.out).1 (fun e => tf.out (Option.some.inj e))).trans nP.out); replace HX := ak (HX.out.grown dp (fun e => AB.out (Option.some.inj e))); replace HV := ak (HV.out.grown dp (fun e => tg.out (Option.some.inj e))); replace HB := ak (HB.out.grown dp HB.out.size (by intro k hk; cases hk; exact fU.out)); have rW := HI.out.cell 0 _ rfl; clear xP dp nP)
     | ((with_reducible refine aA (N := 22) rfl ?_); refine kB rfl 92 (.tmp 19) (.tmp 21) rfl (.map (some ms)) (.string key) rfl rfl (CN key ti.out) ?_)
     | (at_mapUpdate; obtain ⟨mB, nI, sC, iL⟩ := wD key ti.out; refine mZ rfl 92 (.tmp 19) (.tmp 21) (.tmp 23) rfl (.map (some ms)) (.string key) (.int .i64 1) rfl rfl rfl nI ?_; have AG := ak sC; replace HI := ak (HI.out.grown iL (fun e => tf.out (Option.some.inj e).symm)); replace HX := ak (HX.out.grown iL (fun e => DG.out (Option.some.inj e))); replace HV := ak (HV.out.grown iL (fun e => DD.out (Option.some.inj e))); replace HB := ak (HB.out.grown iL HB.out.size (by intro k hk; cases hk; exact HGM.out)); clear rW nI sC iL ti; have rW := HI.out.cell 0 _ rfl)
     | ((with_reducible refine aA (N := 27) rfl ?_); refine kB rfl 92 (.tmp 24) (.tmp 26) rfl (.map (some ms)) (.string key) rfl rfl (CM key AG.out) ?_; clear rW)
     | ((with_reducible refine aA (N := 30) rfl ?_); refine cF (by rfl) ?_; refine bN rfl 58 (.tmp 7) rfl g7 rfl _ _ _ HI.out Tryz.underlying58 rfl 3 (by kernel_rfl) rfl ?_)
     | (go_at_call 28; refine (iY.calls key val rev _ _ HLK.out).mono ?_; rintro e V1 ⟨rfl, hb⟩; replace HI := ak (HI.out.below hb); replace HX := ak (HX.out.below hb); replace HV := ak (HV.out.below hb); replace HB := ak (HB.out.trans (hb.mono HB.out.size)); clear hb)
     | ((with_reducible refine aA (N := 34) rfl ?_); refine cF (by rfl) ?_; refine bN rfl 58 (.tmp 7) rfl g7 rfl _ _ _ HI.out Tryz.underlying58 rfl 3 (by kernel_rfl) rfl ?_)
     | (go_at_call 29; refine (yC key val hv rev _ _ HPN.out).mono ?_; rintro e V2 ⟨rfl, hb⟩; replace HI := ak (HI.out.below hb); replace HX := ak (HX.out.below hb); replace HV := ak (HV.out.below hb); replace HB := ak (HB.out.trans (hb.mono HB.out.size)); clear hb)
     | ((with_reducible refine aA (N := 39) rfl ?_); refine cF (by rfl) ?_; refine bN rfl 58 (.tmp 7) rfl g7 rfl _ _ _ HI.out Tryz.underlying58 rfl 3 (by kernel_rfl) rfl ?_)
     | (go_at_call 30; refine (sg key val hv rev x bo HBO.out g4 _ _ _ _ _ HV.out).mono ?_; rintro e V3 ⟨rfl, ⟨A1, n1, c1, ue⟩, hg⟩; rw [HIS.out]; have HVV := ak ue; replace HI := ak (HI.out.grown hg (fun e => tg.out (Option.some.inj e).symm)); replace HX := ak (HX.out.grown hg (fun e => th.out (Option.some.inj e))); replace HB := ak (HB.out.grown hg HB.out.size (by intro k hk; cases hk; exact pj.out)); clear ue hg HV)
     | ((with_reducible refine aA (N := 44) rfl ?_); refine cF (by rfl) ?_; refine bN rfl 58 (.tmp 7) rfl g7 rfl _ _ _ HI.out Tryz.underlying58 rfl 3 (by kernel_rfl) rfl ?_)
     | (go_at_call 31; refine (Jf key val rev _ _ HAN.out).mono ?_; rintro e V2 ⟨rfl, hb⟩; replace HI := ak (HI.out.below hb); replace HX := ak (HX.out.below hb); replace HVV := ak (HVV.out.below hb); replace HB := ak (HB.out.trans (hb.mono HB.out.size)); clear hb)
     | ((with_reducible refine aA (N := 49) rfl ?_); refine cF (by rfl) ?_; refine bN rfl 58 (.tmp 7) rfl g7 rfl _ _ _ HI.out Tryz.underlying58 rfl 3 (by kernel_rfl) rfl ?_)
     | (go_at_call 32; refine (CD key val hv rev _ _ HHN.out).mono ?_; rintro e V2 ⟨rfl, hb⟩; replace HI := ak (HI.out.below hb); replace HX := ak (HX.out.below hb); replace HVV := ak (HVV.out.below hb); replace HB := ak (HB.out.trans (hb.mono HB.out.size)); clear hb)
     | ((with_reducible refine aA (N := 54) rfl ?_); refine cF (by rfl) ?_; refine bN rfl 58 (.tmp 7) rfl g7 rfl _ _ _ HI.out Tryz.underlying58 rfl 3 (by kernel_rfl) rfl ?_)
     | (go_at_call 33; refine (FA key val rev _ _ HNN.out).mono ?_; rintro e V2 ⟨rfl, hb⟩; replace HI := ak (HI.out.below hb); replace HX := ak (HX.out.below hb); replace HVV := ak (HVV.out.below hb); replace HB := ak (HB.out.trans (hb.mono HB.out.size)); clear hb)
     | ((with_reducible refine aA (N := 59) rfl ?_); refine ev rfl 30 #[] rfl lG (GI _) ?_)
     | (refine aM rfl 30 (.tmp 2) (.tmp 59) rfl g2 lG rfl rfl 30 _ HX.out 5 (by kernel_rfl) rfl rfl (by intro u hu; simp [lG] at hu; rcases hu with rfl | rfl | rfl | rfl | rfl <;> rfl) ?_; intro Z9 gp dp))
    exact bodyPost_ret (bV rfl _ _ g2 30 _ (0, 0) _ rfl gp Tryz.underlying30 rfl (by kernel_rfl)) rfl ⟨⟨_, _, _, _, _, _, _, _, _, rfl⟩, (HB.out.grown dp HB.out.size (by intro k hk; cases hk; exact fw.out))⟩
   ·exact hF.elim
set_option maxHeartbeats 8000000 in
set_option maxRecDepth 100000 in
theorem Jo (key val : ByteArray) (rev x1 x2 : Int) (x3 : Bool) (hlk : iY.f key val rev = some false) (hpo : ey.f 4 key = some (x1, x2, true)) (hr : ∀ w, Calls Tryz.prog 53 #[.string val] w fun e w' => e = .returned (.tuple #[.agg #[.int .u32 x1, .int .i64 x2, .bool x3], .int .i64 0]) ∧ Below w.heap.size w w')
  (A : Option Addr) (c : Nat) (w : World) (hC : Kd.C vI w A 1 [⟨key, val, rev⟩]) (hc : 1 ≤ c) :
  Calls Tryz.prog 7 #[.slice A 1 c] w fun e w' => ∃ A1 c1 o1 o2 o3, e = .returned (.tuple #[.agg (e8 (.slice A1 1 c1) (.slice none 0 0) (.map (some o1)) (.map (some o2)) (.map (some o3))).toArray, .int .i64 0]) ∧ Kd.R xF 69 w' w.heap.size (fun _ => True) (.slice A1 1 c1) [⟨⟨x1, x2⟩, x3⟩] ∧ Below w.heap.size w w' := by
 have HC := ak hC
 have HLK := ak hlk
 have HPO := ak hpo
 have HRP := ak hr
 clear hC hlk hpo hr
 go_enter Tryz.func7, Tryz.ntmps7
 go_wp2_with (first
  | (refine a6 (some 2) rfl rfl 30 rfl lG (fun _ => by kernel_rfl) ?_; intro g2 W1 dH fV aW; have HX := ak fV; have HB := ak aW; have fw := ak dH; clear fV aW dH)
  | ((with_reducible refine aA (N := 8) rfl ?_); refine gg rfl 26 rfl ?_; intro o1 W2 fK iu hb; replace HX := ak (HX.out.below hb); replace HB := ak (HB.out.trans (hb.mono HB.out.size)); clear hb fK iu)
  | ((with_reducible refine aA (N := 9) rfl ?_); refine gg rfl 27 rfl ?_; intro o2 W3 fK iu hb; replace HX := ak (HX.out.below hb); replace HB := ak (HB.out.trans (hb.mono HB.out.size)); clear hb fK iu)
  | ((with_reducible refine aA (N := 10) rfl ?_); refine gg rfl 28 rfl ?_; intro o3 W4 fK iu hb; replace HX := ak (HX.out.below hb); replace HB := ak (HB.out.trans (hb.mono HB.out.size)); clear hb fK iu)
  | ((with_reducible refine aA (N := 11) rfl ?_); refine eC rfl 30 #[(2, .tmp 8), (3, .tmp 9), (4, .tmp 10)] rfl [(2, .map (some o1)), (3, .map (some o2)), (4, .map (some o3))] (by simp only [List.map_toArray, List.map_cons, List.map_nil]; rfl) (e8 (.slice none 0 0) (.slice none 0 0) (.map (some o1)) (.map (some o2)) (.map (some o3))) (Ch _ _ _) ?_)
  | (refine a6 (some 4) rfl rfl 30 rfl lG (fun _ => by kernel_rfl) ?_; intro g4 W5 da sI hb; have HV := ak sI; have pj := ak (Nat.le_trans HB.out.size da); have th := ak (show g2 ≠ g4 by have := HX.out.lt; omega); replace HX := ak (HX.out.below hb); replace HB := ak (HB.out.trans (hb.mono HB.out.size)); clear hb sI da)
  | (refine aM rfl 30 (.tmp 4) (.tmp 11) rfl g4 (e8 (.slice none 0 0) (.slice none 0 0) (.map (some o1)) (.map (some o2)) (.map (some o3))) rfl rfl 30 _ HV.out 5 (by kernel_rfl) rfl rfl (by intro u hu; simp [e8] at hu; rcases hu with rfl | rfl | rfl | rfl | rfl <;> rfl) ?_; intro W6 EJ jF; replace HV := ak EJ; replace HX := ak (HX.out.grown jF (fun e => th.out (Option.some.inj e))); replace HB := ak (HB.out.grown jF HB.out.size (by intro k hk; cases hk; exact pj.out)); clear EJ jF)
  | ((with_reducible refine aA (N := 12) rfl ?_); refine gg rfl 92 rfl ?_; intro ms W7 hms iu hb; have HM := ak iu; have HGM := ak (Nat.le_trans HB.out.size hms); have DD := ak (show g4 ≠ ms by have := HV.out.lt; omega); have DG := ak (show g2 ≠ ms by have := HX.out.lt; omega); replace HX := ak (HX.out.below hb); replace HV := ak (HV.out.below hb); replace HB := ak (HB.out.trans (hb.mono HB.out.size)); clear hb hms iu))
 have P4 : decide ((0 : Int) < 1) = true := by decide
 go_loopw [7, 15] (fun _ i V => ∃ j : Nat, j ≤ 1 ∧ i = .int .i64 j ∧ ((j = 0 ∧ V = W7) ∨ (j = 1 ∧ Aside0 (∃ A1 c1, bS V g4 (e8 (.slice A1 1 c1) (.slice none 0 0) (.map (some o1)) (.map (some o2)) (.map (some o3))) 30 ∧ Kd.R xF 69 V w.heap.size (fun _ => True) (.slice A1 1 c1) [⟨⟨x1, x2⟩, x3⟩]) ∧ Aside0 (bS V g2 lG 30) ∧ Aside0 (Below w.heap.size w V)))) (fun _ i _ => 1 - (intOf i).toNat)
 case atStart => exact ⟨0, by omega, rfl, .inl ⟨rfl, rfl⟩⟩
 case round =>
  obtain ⟨j, hj, rfl, hcase⟩ := hrel
  rcases hcase with ⟨rfl, rfl⟩ | ⟨rfl, HVE, HXE, HBE⟩
  ·obtain ⟨ad, eA, iP, ml, qF⟩ := Ai (Kd.C_below HC.out HB.out) 0 (by omega) (by decide)
   cases eA
   rw [show qy [(⟨key, val, rev⟩ : S58)] 0 = ⟨key, val, rev⟩ from rfl] at iP ml qF
   have had : ad.add ((0 : Int).toNat * 3) = ad := by simp [Addr.add]
   rw [had] at iP ml qF
   dsimp only at iP ml qF
   clear had
   go_wp2_with (first
    | (refine a6 (some 7) rfl rfl 58 rfl [.string ⟨#[]⟩, .string ⟨#[]⟩, .int .i64 0] (fun _ => by kernel_rfl) ?_; intro g7 W8 cz sH hb; have HI := ak sH; have fU := ak (Nat.le_trans HB.out.size cz); have tg := ak (show g4 ≠ g7 by have := HV.out.lt; omega); have AB := ak (show g2 ≠ g7 by have := HX.out.lt; omega); have tf := ak (show ms ≠ g7 by have := (Array.getElem?_eq_some_iff.1 HM.out).1; omega); have nP := ak ((hb.block ms (Array.getElem?_eq_some_iff.1 HM.out).1).trans HM.out); replace HX := ak (HX.out.below hb); replace HV := ak (HV.out.below hb); replace HB := ak (HB.out.trans (hb.mono HB.out.size)); clear hb sH cz HM)
    | (refine aM rfl 58 (.tmp 7) (.tmp 18) rfl g7 [.string key, .string val, .int .i64 rev] rfl rfl 58 _ HI.out 3 (by kernel_rfl) rfl rfl (by intro u hu; simp at hu; rcases hu with rfl | rfl | rfl <;> rfl) ?_; intro W9 xP dp; replace HI := ak xP; have ti := ak ((dp.block ms (Array.getElem?_eq_some_iff.1 nP.out).1 (fun e => tf.out (Option.some.inj e))).trans nP.out); replace HX := ak (HX.out.grown dp (fun e => AB.out (Option.some.inj e))); replace HV := ak (HV.out.grown dp (fun e => tg.out (Option.some.inj e))); replace HB := ak (HB.out.grown dp HB.out.size (by intro k hk; cases hk; exact fU.out)); have rW := HI.out.cell 0 _ rfl; clear xP dp nP)
    | ((with_reducible refine aA (N := 22) rfl ?_); refine kB rfl 92 (.tmp 19) (.tmp 21) rfl (.map (some ms)) (.string key) rfl rfl (CN key ti.out) ?_)
    | (at_mapUpdate; obtain ⟨mB, nI, sC, iL⟩ := wD key ti.out; refine mZ rfl 92 (.tmp 19) (.tmp 21) (.tmp 23) rfl (.map (some ms)) (.string key) (.int .i64 1) rfl rfl rfl nI ?_; have AG := ak sC; replace HI := ak (HI.out.grown iL (fun e => tf.out (Option.some.inj e).symm)); replace HX := ak (HX.out.grown iL (fun e => DG.out (Option.some.inj e))); replace HV := ak (HV.out.grown iL (fun e => DD.out (Option.some.inj e))); replace HB := ak (HB.out.grown iL HB.out.size (by intro k hk; cases hk; exact HGM.out)); clear rW nI sC iL ti; have rW := HI.out.cell 0 _ rfl)
    | ((with_reducible refine aA (N := 27) rfl ?_); refine kB rfl 92 (.tmp 24) (.tmp 26) rfl (.map (some ms)) (.string key) rfl rfl (CM key AG.out) ?_; clear rW)
    | ((with_reducible refine aA (N := 30) rfl ?_); refine cF (by rfl) ?_; refine bN rfl 58 (.tmp 7) rfl g7 rfl _ _ _ HI.out Tryz.underlying58 rfl 3 (by kernel_rfl) rfl ?_)
    | (go_at_call 28; refine (iY.calls key val rev _ _ HLK.out).mono ?_; rintro e V1 ⟨rfl, hb⟩; replace HI := ak (HI.out.below hb); replace HX := ak (HX.out.below hb); replace HV := ak (HV.out.below hb); replace HB := ak (HB.out.trans (hb.mono HB.out.size)); clear hb)
    | ((with_reducible refine aA (N := 34) rfl ?_); refine cF (by rfl) ?_; refine bN rfl 58 (.tmp 7) rfl g7 rfl _ _ _ HI.out Tryz.underlying58 rfl 3 (by kernel_rfl) rfl ?_)
    | (go_at_call 29; refine (AP key val rev x1 x2 x3 HPO.out HRP.out g4 _ _ _ _ _ HV.out).mono ?_; rintro e V3 ⟨rfl, ⟨A1, c1, ue, PM⟩, hg⟩; have HVV := ak ue; have HPR := ak (Kd.R_lower PM HB.out.size); replace HI := ak (HI.out.grown hg (fun e => tg.out (Option.some.inj e).symm)); replace HX := ak (HX.out.grown hg (fun e => th.out (Option.some.inj e))); replace HB := ak (HB.out.grown hg HB.out.size (by intro k hk; cases hk; exact pj.out)); clear ue PM hg HV))
   go_roundw
   case rel => exact ⟨1, by omega, by go_num, .inr ⟨rfl, ⟨⟨_, _, HVV.out, HPR.out⟩⟩, HX, HB⟩⟩
   case measure => simp [intOf]
  ·clear HX HV HB HM
   have HX := HXE
   have HB := HBE
   obtain ⟨A1, c1, hvv, hpr⟩ := HVE.out
   have HVV := ak hvv
   have HPR := ak hpr
   clear hvv hpr HXE HBE HVE
   go_wp2_with (first
    | ((with_reducible refine aA (N := 61) rfl ?_); refine bN rfl 30 (.tmp 4) rfl g4 rfl _ _ _ HVV.out Tryz.underlying30 rfl 5 (by kernel_rfl) rfl ?_)
    | (refine aM rfl 30 (.tmp 2) (.tmp 61) rfl g2 (e8 (.slice A1 1 c1) (.slice none 0 0) (.map (some o1)) (.map (some o2)) (.map (some o3))) rfl rfl 30 _ HX.out 5 (by kernel_rfl) rfl rfl (by intro u hu; simp [e8] at hu; rcases hu with rfl | rfl | rfl | rfl | rfl <;> rfl) ?_; intro Z9 gp dp))
   exact bodyPost_ret (bV rfl _ _ g2 30 _ (0, 0) _ rfl gp Tryz.underlying30 rfl (by kernel_rfl)) rfl ⟨_, _, _, _, _, rfl, cR HPR.out HX.out (by decide) dp, (HB.out.grown dp HB.out.size (by intro k hk; cases hk; exact fw.out))⟩
end Go.Proofs.YtndddnglapkplaaGreatDoor.V
end

section
namespace Go.Proofs.YtndddnglapkplaaGreatDoor.V
section
variable {P : Program} {ops : Array Oper} {rest : List Oper} {o : Oper} {a : Act} {w : World} {Q : Exit → Act → World → Prop}
theorem AT (hgd : o.guard = none) (ty k e : TypeId) (x : Operand) (ho : o.op = .range ty x) (m : Nat) (hx : a.eval x = .map (some m)) (ht : P.underlying ty = some (.map k e)) (hm : w.heap[m]? = some (.map #[] 0))
  (h : ∀ g W1, (∀ ty, (Instr.next (.pointer (some ⟨g, 0, none⟩)) false ty).run P W1 = .ok (.tuple #[.bool false]) W1) → Below w.heap.size w W1 → wpList P ops Q rest (a.put o.dst (.pointer (some ⟨g, 0, none⟩))) W1) : wpList P ops Q (o :: rest) a w := by
 refine qv hgd ?_ (h w.heap.size (w.alloc (.mapIter (some m) 0 #[] 0)) (fun ty => ?_) (aa (Below.refl _ _) _))
 ·unfold execOp
  simp only [ho, hx, Sem.run_bind, run_range_map w ty k e m #[] 0 ht hm, Result.andThen_ok, Sem.run_pure]
 ·rcases run_next_map (P := P) w ty m 0 0 #[] #[] 0 hm (by simp) (Nat.le_refl _) with h | ⟨e, he, _⟩
  ·exact h.2
  ·simp [leftOf] at he
theorem D7 (hgd : o.guard = none) (x : Operand) (ho : o.op = .next x false) (g : Nat) (hx : a.eval x = .pointer (some ⟨g, 0, none⟩)) (hn : ∀ ty, (Instr.next (.pointer (some ⟨g, 0, none⟩)) false ty).run P w = .ok (.tuple #[.bool false]) w)
  (h : wpList P ops Q rest (a.put o.dst (.tuple #[.bool false])) w) : wpList P ops Q (o :: rest) a w := by
 refine qv hgd ?_ h
 unfold execOp
 simp only [ho, hx, Sem.run_bind, hn, Result.andThen_ok, Sem.run_pure]
end
set_option maxHeartbeats 4000000 in
set_option maxRecDepth 100000 in
theorem CE (vp m1 m2 m3 : Value) (w : World) :
  Calls Tryz.prog 22 #[.agg (e8 vp (.slice none 0 0) m1 m2 m3).toArray] w fun e w' => ∃ m, e = .returned (.map (some m)) ∧ w'.heap[m]? = some (.map #[] 0) ∧ Below w.heap.size w w' := by
 have X4 : decide ((0 : Int) < 0) = false := by decide
 go_enter Tryz.func22, Tryz.ntmps22
 go_wp2_with (first
  | (refine fL rfl 30 (.tmp 0) rfl (e8 vp (.slice none 0 0) m1 m2 m3) rfl ?_; intro g W1 hg hbx aW; have HB := ak aW; have HX := ak hbx; clear hg hbx aW)
  | ((with_reducible refine aA (N := 8) rfl ?_); refine gg rfl 83 rfl ?_; intro m W2 fK iu hb; replace HX := ak (HX.out.below hb); replace HB := ak (HB.out.trans (hb.mono HB.out.size)); have HM := ak iu; have ml := HX.out.cell 1 _ rfl; clear hb fK iu))
 go_loopw [5, 12] (fun _ i V => i = .int .i64 0 ∧ V = W2) (fun _ _ _ => 1)
 case atStart => exact ⟨rfl, rfl⟩
 case round =>
  obtain ⟨rfl, rfl⟩ := hrel
  go_wp2
  go_ret
  exact ⟨_, rfl, HM.out, HB.out⟩
theorem KT : lZ.f 167772160 26 = some 64 := by kernel_rfl
set_option maxHeartbeats 8000000 in
set_option maxRecDepth 100000 in
theorem DQ (A : Option Addr) (c : Nat) (m1 m2 m3 : Value) (w : World) (hp : Kd.C xF w A 1 [⟨⟨167772160, 26⟩, true⟩]) (hc : 1 ≤ c) :
  Calls Tryz.prog 26 #[.agg (e8 (.slice A 1 c) (.slice none 0 0) m1 m2 m3).toArray] w fun e w' => e = .returned (.int .i64 64) ∧ Below w.heap.size w w' := by
 have HC := ak hp
 clear hp
 have P4 : decide ((0 : Int) < 1) = true := by decide
 go_enter Tryz.func26, Tryz.ntmps26
 go_wp2_with (first
  | (refine fL rfl 30 (.tmp 0) rfl (e8 (.slice A 1 c) (.slice none 0 0) m1 m2 m3) rfl ?_; intro g W1 hg hbx aW; have HB := ak aW; have HX := ak hbx; clear hg hbx aW)
  | ((with_reducible refine aA (N := 8) rfl ?_); refine bN rfl 30 (.tmp 1) rfl g rfl _ _ _ HX.out Tryz.underlying30 rfl 5 (by kernel_rfl) rfl ?_)
  | (go_at_call 22; refine (CE _ _ _ _ _).mono ?_; rintro e W2 ⟨m, rfl, hm, hb⟩; replace HX := ak (HX.out.below hb); replace HB := ak (HB.out.trans (hb.mono HB.out.size)); have HM := ak hm; have iP := HX.out.cell 0 _ rfl; clear hb hm))
 go_loopw [3, 6, 7, 13] (fun n _ _ i V => ∃ j : Nat, j ≤ 1 ∧ i = .int .i64 j ∧ ((j = 0 ∧ n = .int .i64 0 ∧ V = W2) ∨ (j = 1 ∧ n = .int .i64 64 ∧ Aside0 (Below w.heap.size w V)))) (fun _ _ _ i _ => 1 - (intOf i).toNat)
 case atStart => exact ⟨0, by omega, rfl, .inl ⟨rfl, rfl, rfl⟩⟩
 case round =>
  obtain ⟨j, hj, rfl, hcase⟩ := hrel
  rcases hcase with ⟨rfl, rfl, rfl⟩ | ⟨rfl, rfl, cP⟩
  ·obtain ⟨ad, eA, vM, xK, Ii⟩ := Mw (Kd.C_below HC.out HB.out) 0 (by omega) (by decide)
   cases eA
   rw [show vB [(⟨⟨167772160, 26⟩, true⟩ : S69)] 0 = ⟨⟨167772160, 26⟩, true⟩ from rfl] at vM xK Ii
   have had : ad.add ((0 : Int).toNat * 3) = ad := by simp [Addr.add]
   rw [had] at vM xK Ii
   dsimp only at vM xK Ii
   clear had
   go_wp2_with (first
    | (refine a6 (some 6) rfl rfl 69 rfl pE (fun _ => by kernel_rfl) ?_; intro g6 W3 jF hbx hb; have HZ := ak hbx; have nQ := ak (Nat.le_trans HB.out.size jF); have Ng := ak ((hb.block m (Array.getElem?_eq_some_iff.1 HM.out).1).trans HM.out); have HNM := ak (show m ≠ g6 by have := (Array.getElem?_eq_some_iff.1 HM.out).1; omega); replace HB := ak (HB.out.trans (hb.mono HB.out.size)); clear hb hbx jF HM)
    | (refine aM rfl 69 (.tmp 6) (.tmp 16) rfl g6 [.int .u32 167772160, .int .i64 26, .bool true] rfl rfl 69 _ HZ.out 3 (by kernel_rfl) rfl rfl (by intro u hu; simp at hu; rcases hu with rfl | rfl | rfl <;> rfl) ?_; intro W4 Py da; replace HZ := ak Py; have AF := ak ((da.block m (Array.getElem?_eq_some_iff.1 Ng.out).1 (fun e => HNM.out (Option.some.inj e))).trans Ng.out); replace HB := ak (HB.out.grown da HB.out.size (by intro k hk; cases hk; exact nQ.out)); have nG := HZ.out.cell 2 _ rfl; clear Py da Ng)
    | ((with_reducible refine aA (N := 22) rfl ?_); refine lV rfl 67 (.tmp 21) rfl g6 0 rfl 69 _ [.int .u32 167772160, .int .i64 26] _ HZ.out (by intro j v hv; match j, hv with | 0, hv => exact hv | 1, hv => exact hv) Tryz.underlying67 rfl (by kernel_rfl) ?_; clear nG)
    | (go_at_call 51; refine (lZ.calls 167772160 26 64 _ KT).mono ?_; rintro e W5 ⟨rfl, hb⟩; have Qf := ak ((hb.block m (Array.getElem?_eq_some_iff.1 AF.out).1).trans AF.out); replace HB := ak (HB.out.trans (hb.mono HB.out.size)); clear hb AF)
    | ((with_reducible refine aA (N := 26) rfl ?_); refine AT rfl 83 41 81 (.tmp 25) rfl m rfl Tryz.underlying83 Qf.out ?_; intro gi W6 hit hb; have HI := ak hit; replace HB := ak (HB.out.trans (hb.mono HB.out.size)); clear hb hit Qf))
   go_frame
   go_loopw [3, 7] (fun n _ V => n = .int .i64 64 ∧ V = W6) (fun _ _ _ => 1)
   case atStart => exact ⟨rfl, rfl⟩
   case round =>
    obtain ⟨rfl, rfl⟩ := hrel
    go_wp2_with (first
     | ((with_reducible refine aA (N := 27) rfl ?_); refine D7 rfl (.tmp 26) rfl gi rfl HI.out ?_))
    go_roundw
    case rel => exact ⟨1, by omega, by go_num, .inr ⟨rfl, rfl, HB⟩⟩
    case measure => simp [intOf]
  ·go_wp2
   go_ret
   exact ⟨rfl, cP.out⟩
theorem lu (W : World) (key val : ByteArray) (rev : Int) : Kd.C vI (W.alloc (.cells #[.string key, .string val, .int .i64 rev] 58)) (some ⟨W.heap.size, 0, none⟩) 1 [⟨key, val, rev⟩] := by
 refine ⟨rfl, by omega, fun _ => ⟨_, rfl, fun j p hj => ?_⟩⟩
 match j, hj with
 | 0, hj =>
  obtain rfl : (⟨key, val, rev⟩ : S58) = p := by simpa using hj
  refine ⟨[.string key, .string val, .int .i64 rev], rfl, Li _ _, fun i u hu => ?_⟩
  have hb : bS (W.alloc (.cells #[.string key, .string val, .int .i64 rev] 58)) W.heap.size [.string key, .string val, .int .i64 rev] 58 := heap_alloc_new W _
  have h := hb.cell i u hu
  rw [add_plain]
  rw [show 0 * (vI).sz + i = i by omega]
  exact h
def tH : ByteArray := ⟨#[112, 111, 111, 108, 47, 49, 48, 46, 48, 46, 48, 46, 48, 45, 50, 54]⟩
def mP : ByteArray := ⟨#[80, 10, 0, 0, 0, 26, 1]⟩
theorem Kk : tH = yt ++ cY 167772160 26 := by
 apply fy
 rw [fg, j7]
 decide
theorem LZ : kT mP = true ∧ (bj (r1 mP).1 = 167772160 ∧ (bj (q2 mP).1 = 26 ∧ bj (q3 mP).1 = 1)) := by
 refine ⟨?_, ?_, ?_, ?_⟩
 ·kernel_rfl
 ·kernel_rfl
 ·kernel_rfl
 ·kernel_rfl
theorem Kj (w : World) : Calls Tryz.prog 53 #[.string mP] w fun e w' => e = .returned (.tuple #[.agg #[.int .u32 167772160, .int .i64 26, .bool true], .int .i64 0]) ∧ Below w.heap.size w w' := by
 obtain ⟨h1, h2, h3, h4⟩ := LZ
 have h := sn mP (by decide) w
 rw [h1, h2, h3, h4] at h
 exact h
set_option maxHeartbeats 8000000 in
set_option maxRecDepth 100000 in
theorem fX (w : World) : Calls Tryz.prog 10 #[] w fun e w' => e = .returned (.bool true) ∧ Below w.heap.size w w' := by
 have HOF := ak (fun (A : Option Addr) (c : Nat) (w : World) (hC : Kd.C vI w A 1 [⟨tH, mP, 1⟩]) (hc : 1 ≤ c) => Jo tH mP 1 167772160 26 true (by unfold iY.f; rw [if_neg (by rw [ByteArray.toList_eq]; decide)]) (by rw [Kk]; exact Eo 167772160 26 (by omega) (by omega) (by decide) 4 (by omega)) Kj A c w hC hc)
 have HIT := ak (fun W => lu W tH mP 1)
 have hk : (⟨#[112, 111, 111, 108, 47, 49, 48, 46, 48, 46, 48, 46, 48, 45, 50, 54]⟩ : ByteArray) = tH := rfl
 have hv : (⟨#[80, 10, 0, 0, 0, 26, 1]⟩ : ByteArray) = mP := rfl
 have HK := ak hk
 have HV := ak hv
 clear hk hv
 generalize tH = key at HOF HIT HK
 generalize mP = val at HOF HIT HV
 go_enter Tryz.func10, Tryz.ntmps10
 go_wp2_with (first
  | (go_at_call 7; rw [HK.out, HV.out]; refine (HOF.out _ _ _ (HIT.out _) (Nat.le_refl _)).mono ?_; rintro e W1 ⟨A1, c1, o1, o2, o3, rfl, hp, hb⟩; have HB := ak ((aa (Below.refl _ _) _).trans (hb.mono (by simp))); have HP := ak hp; clear hb hp)
  | (refine a6 (some 1) rfl rfl 30 rfl lG (fun _ => by kernel_rfl) ?_; intro g1 W2 dh hbx hb; have HZ := ak hbx; have nR := ak (Nat.le_trans HB.out.size dh); replace HB := ak (HB.out.trans (hb.mono HB.out.size)); replace HP := ak (Kd.R_below HP.out hb); clear hb hbx dh)
  | (refine aM rfl 30 (.tmp 1) (.tmp 7) rfl g1 (e8 (.slice A1 1 c1) (.slice none 0 0) (.map (some o1)) (.map (some o2)) (.map (some o3))) rfl rfl 30 _ HZ.out 5 (by kernel_rfl) rfl rfl (by intro u hu; simp [e8] at hu; rcases hu with rfl | rfl | rfl | rfl | rfl <;> rfl) ?_; intro W3 Pz dx; replace HB := ak (HB.out.grown dx HB.out.size (by intro k hk; cases hk; exact nR.out)); replace HP := ak (cR HP.out HZ.out (by decide) dx); replace HZ := ak Pz; clear Pz dx)
  | ((with_reducible refine aA (N := 12) rfl ?_); refine cF (by rfl) ?_; refine bN rfl 30 (.tmp 1) rfl g1 rfl _ _ _ HZ.out Tryz.underlying30 rfl 5 (by kernel_rfl) rfl ?_)
  | (go_at_call 26; refine (DQ _ _ _ _ _ _ (Kd.R_reads' HP.out).2.2 (Kd.R_reads' HP.out).2.1).mono ?_; rintro e W4 ⟨rfl, hb⟩; replace HZ := ak (HZ.out.below hb); replace HB := ak (HB.out.trans (hb.mono HB.out.size)); have jt := HZ.out.cell 0 _ rfl; clear hb))
 go_ret
 exact ⟨rfl, HB.out⟩
end Go.Proofs.YtndddnglapkplaaGreatDoor.V
end

section
namespace Go.Proofs.YtndddnglapkplaaGreatDoor.V
def eF.f (a0 : ByteArray) : Option (Int × ByteArray × List Int × List Int × (List (S78)) × Bool) := if a0.size ≤ 1000000 then some (if cy a0 = true then (cQ a0).addr else 0, if cy a0 = true then (cQ a0).aff else ⟨#[]⟩, if cy a0 = true then (cQ a0).slots else [], if cy a0 = true then (cQ a0).free else [], if cy a0 = true then (cQ a0).attrs.map vc else [], cy a0) else none
theorem eF.calls (a0 : ByteArray) (r1 : Int) (r2 : ByteArray) (r3 : List Int) (r4 : List Int) (r5 : List (S78)) (r6 : Bool) (w : World) (h : eF.f a0 = some (r1, r2, r3, r4, r5, r6)) :
  Calls Tryz.prog 40 #[.string a0] w fun e w' => ∃ DS DR Hv : Value, e = .returned (.tuple #[.agg #[.int .u32 r1, .string r2, DS, DR, Hv], .bool r6]) ∧ Kd.R (Kd.int .i64) 3 w' w.heap.size (fun k_ => some k_ ≠ (DR : Value).ownBlock) DS r3 ∧ Kd.R (Kd.int .i64) 3 w' w.heap.size (fun k_ => some k_ ≠ (DS : Value).ownBlock) DR r4 ∧ Kd.R lP 78 w' w.heap.size (fun _ => True) Hv r5 ∧ Below w.heap.size w w' := by
 unfold eF.f at h
 split at h
 ·rename_i hs
  have h := Option.some.inj h
  simp only [Prod.mk.injEq] at h
  obtain ⟨rfl, rfl, rfl, rfl, rfl, rfl⟩ := h
  refine (GC a0 hs w).mono ?_
  rintro e w' ⟨vs, vf, va, h1, ⟨h2, h3, h4⟩, h5⟩
  exact ⟨vs, vf, va, h1, h2, h3, h4, h5⟩
 ·cases h
end Go.Proofs.YtndddnglapkplaaGreatDoor.V
end

