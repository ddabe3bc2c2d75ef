/- The law BlockPlays for every input: texts of ours, put together (part 6 of 17). No further condition. -/
import Derived.Test.YtemhalnhbgkbcaaCBlockPlaysx2
import Derived.Test.YtemhalnhbgkbcaaCBlockPlaysx4
import Derived.Outline
import Derived.Test.YtemhalnhbgkbcaaCBlockPlaysw1
import Derived.Test.YtemhalnhbgkbcaaCBlockPlaysx3
import Derived.Lib.SliceRun
set_option linter.unusedVariables false
set_option linter.unusedSimpArgs false
open Go.RowKit Go.Proofs.YtemhalnhbgkbcaaW.PrintWords Go.Proofs.YtemhalnhbgkbcaaW.PrintLast Go.Proofs.YtemhalnhbgkbcaaW.PrintMore Go.Proofs.Ytemhalnhbgkbcaa.Z
section
namespace Go.Proofs.Ytemhalnhbgkbcaa.V
def vc (a : At) : S76 := ⟨a.f0, a.f1⟩
def dW : List Value := [.int .u32 0, .string ⟨#[]⟩, .slice none 0 0, .slice none 0 0, .slice none 0 0]
theorem xp : (Try.prog.info? 3).map (fun i => (i.zero, i.size, i.bytes)) = some (some (.int .i64 0), 1, 8) := by kernel_rfl
theorem vY : (Try.prog.info? 76).map (fun i => (i.zero, i.size, i.bytes)) = some (some (.agg #[.string ⟨#[]⟩, .string ⟨#[]⟩]), 2, 32) := by kernel_rfl
theorem Re (x : Int) (s : ByteArray) : Try.prog.built 62 [(0, .int .u32 x), (1, .string s)] = some [Value.int .u32 x, .string s, .slice none 0 0, .slice none 0 0, .slice none 0 0].toArray := by kernel_rfl
theorem vM {α β : Type} {d : Kd α} {d' : Kd β} {e e' b1 base : Nat} {W w1 : World} {ok ok' : Nat → Prop} {u v : Value} {xs : List α} {ys : List β} (h : d.R e W base ok u xs) (ho : ∀ k, ok k → k < b1) (hv : d'.R e' W b1 ok' v ys) (hg : W.grownBy w1 v.ownBlock) : d.R e w1 base ok u xs :=
 Kd.R_grown h hg (fun k hk he => by have := ho k hk; have := Kd.R_base hv k he.symm; omega)
set_option maxHeartbeats 8000000 in
set_option maxRecDepth 100000 in
theorem IK (b : Bk) (hk : BkOk b) (hfl : b.free.length ≤ 1000) (hal : b.attrs.length ≤ 1000) (v : Value) (w : World) (h : jb w v b) :
  Calls Try.prog 36 #[v] w fun e w' => ∃ vs vf va, e = .returned (.agg #[.int .u32 b.addr, .string b.aff, vs, vf, va]) ∧ Kd.R (Kd.int .i64) 3 w' w.heap.size (fun _ => True) vs b.slots ∧ Kd.R (Kd.int .i64) 3 w' w.heap.size (fun _ => True) vf b.free ∧ Kd.R ia 76 w' w.heap.size (fun _ => True) va (b.attrs.map vc) ∧ Below w.heap.size w w' := by
 obtain ⟨A, c, A', c', rfl, hr⟩ := h
 have HL := ak hr.l64
 have HR := ak hr
 have HK := ak hk
 have hnf : b.free.length ≤ 9223372036854775807 := hr.fr.2.1
 have hna : b.attrs.length ≤ 9223372036854775807 := hr.ar.2.1
 have HLN := ak (show (Try.prog.info? 47).map (·.size) = some (b.slots.map (Value.int .u8)).length by rw [List.length_map, hr.l64]; kernel_rfl)
 have HBT := ak (Re b.addr b.aff)
 clear hr hk
 go_enter Try.func36, Try.ntmps36
 go_wp2_with (first
  | (refine aV rfl 57 (.tmp 0) rfl _ rfl ?_; intro g W1 hg hbx cI; have gl := ak hbx; have cG := ak cI; clear hbx cI hg)
  | (refine aH (some 2) rfl rfl 62 rfl dW (fun _ => by kernel_rfl) ?_; intro g2 W2 Ji Eh eX; have gD := ak (gl.out.below eX); have qT := ak Eh; have jk := ak (cG.out.trans (eX.mono cG.out.size)); have AX := ak (show w.heap.size ≤ g2 by have := cG.out.size; omega); have ah8 := ak (show g ≠ g2 by have := gl.out.lt; omega); have h0 := gD.out.cell 0 _ rfl; have h1 := gD.out.cell 1 _ rfl; clear Eh eX Ji gl cG)
  | ((with_reducible refine aJ (N := 14) rfl ?_); refine Fp rfl 62 #[(0, .tmp 11), (1, .tmp 13)] rfl [(0, .int .u32 b.addr), (1, .string b.aff)] (by simp only [List.map_toArray, List.map_cons, List.map_nil]; rfl) [Value.int .u32 b.addr, .string b.aff, .slice none 0 0, .slice none 0 0, .slice none 0 0] HBT.out ?_)
  | (refine aH (some 3) rfl rfl 62 rfl dW (fun _ => by kernel_rfl) ?_; intro g3 W3 Cw QN iP; have n6 := ak (gD.out.below iP); have tD := ak (qT.out.below iP); have CD := ak QN; have ja := ak (jk.out.trans (iP.mono jk.out.size)); have MR := ak (show w.heap.size ≤ g3 by have := jk.out.size; omega); have KZ := ak (show g ≠ g3 by have := gD.out.lt; omega); have H7 := ak (show g2 ≠ g3 by have := qT.out.lt; omega); clear QN iP Cw gD qT jk h0 h1)
  | (refine a7 rfl 62 (.tmp 3) (.tmp 14) rfl g3 [Value.int .u32 b.addr, .string b.aff, .slice none 0 0, .slice none 0 0, .slice none 0 0] rfl rfl 62 _ CD.out 5 (by kernel_rfl) rfl rfl (by intro u hu; simp at hu; rcases hu with rfl | rfl | rfl | rfl | rfl <;> rfl) ?_; intro W4 TG pz; have o7 := ak TG; have sT := ak (n6.out.grown pz (fun e => KZ.out (Option.some.inj e))); have tC := ak (tD.out.grown pz (fun e => H7.out (Option.some.inj e))); have m0 := ak (ja.out.grown pz ja.out.size (by intro k hk; cases hk; exact MR.out)); clear TG pz n6 tD CD ja)
  | (refine fN rfl 47 (.tmp 15) rfl g 2 rfl 57 _ (b.slots.map (Value.int .u8)) (.array 64 5) sT.out (mf _ _ _ _ _ HL.out) Try.underlying47 rfl HLN.out ?_))
 go_loopw [5, 17] (fun _ i W => ∃ k : Nat, k ≤ 64 ∧ i = .int .i64 k ∧ ∃ vs, Aside0 (aX W g3 [.int .u32 b.addr, .string b.aff, vs, .slice none 0 0, .slice none 0 0] 62) ∧ Aside0 (Kd.R (Kd.int .i64) 3 W w.heap.size (fun _ => True) vs (b.slots.take k)) ∧ Aside0 (aX W g2 dW 62) ∧ Aside0 (aX W g (bk b.addr b.aff b.slots (.slice A b.free.length c) (.slice A' b.attrs.length c')) 57) ∧ Aside0 (Below w.heap.size w W)) (fun _ i _ => 64 - (intOf i).toNat)
 case atStart => exact ⟨0, by omega, rfl, _, o7, ⟨Kd.R_nil _ _ _ _ _⟩, tC, sT, m0⟩
 case round =>
  clear o7 tC sT m0
  obtain ⟨k, hk, rfl, vs, HZ, HS, HY, HX, HB⟩ := hrel
  obtain ⟨W, rfl⟩ : ∃ W : World, W = wr := ⟨_, rfl⟩
  by_cases p8 : k < 64
  ·have hkb : decide ((k : Int) < 64) = true := by simp; omega
   have hkl : k < b.slots.length := by have := HL.out; omega
   obtain ⟨m, hm⟩ : ∃ m : Nat, rd b.slots k = (m : Int) := ⟨(rd b.slots k).toNat, by have := (lG HK.out.s8 k).1; omega⟩
   have sB : m < 256 := by have := (lG HK.out.s8 k).2; omega
   have hix := fun w => qe b.slots HL.out k p8 w
   have zI : b.slots.getD k 0 = (m : Int) := by rw [← hm]; simp [rd]
   rw [zI] at hix
   obtain ⟨L, hL⟩ : ∃ L : List Int, L = b.slots.take (k + 1) := ⟨_, rfl⟩
   have HLq := ak hL
   have HT := ak (show L = b.slots.take k ++ [(m : Int)] by rw [hL, List.take_add_one, List.getElem?_eq_getElem hkl, ← zI]; simp [List.getD, hkl])
   clear hL hm zI
   have hlen : (b.slots.take k).length ≤ 64 := by simp; omega
   have ZL := HZ.out.cell 2 _ rfl
   go_wp2_with (first | ((with_reducible refine cy (b := .append) (xs := #[.tmp 21, .tmp 24]) rfl ?_); at_builtin; refine Kd.R_append (Kd.int .i64) (w0 := w) w.heap.size rfl (.tmp 21) (.tmp 24) 31 3 (.int .i64 0) 8 rfl Try.underlying31 xp rfl (by decide) (by omega) vs (b.slots.take k) (m : Int) [.int .i64 (m : Int)] (fun _ => True) (fun _ => False) rfl rfl rfl (fun _ hk => hk.elim) (fun _ _ => trivial) HS.out HB.out HB.out.size (by omega) ?_; intro v1 w1 fT cI l6 qg; have yJ := ak (HZ.out.grown l6 (HZ.out.ne_row HS.out (by decide))); have gl := ak (HX.out.grown l6 (HX.out.ne_row HS.out (by decide))); have ny := ak (HY.out.grown l6 (HY.out.ne_row HS.out (by decide))); rw [← HT.out] at fT; have Ru := ak fT; have cG := ak cI; obtain ⟨A1, c1, rfl⟩ := Kd.R_slice fT; have vJ := yJ.out.cell 2 _ rfl; have np := yJ.out.frozen 2; clear fT cI l6 qg ZL HZ HX HY HS HB))
   have sS := ak (show aX (w1.setCell ⟨g3, 2, none⟩ (.slice A1 L.length c1)) g3 [.int .u32 b.addr, .string b.aff, .slice A1 L.length c1, .slice none 0 0, .slice none 0 0] 62 from yJ.out.set 2 (.slice A1 L.length c1))
   go_roundw
   case rel => exact ⟨k + 1, by omega, by go_num, _, sS, ⟨by rw [← HLq.out]; exact bO Ru.out yJ.out (by decide) (bP _ _ _ _)⟩, ⟨ny.out.far (p := ⟨g3, 2, none⟩) H7.out _⟩, ⟨gl.out.far (p := ⟨g3, 2, none⟩) KZ.out _⟩, ⟨Below.setCell cG.out (p := ⟨g3, 2, none⟩) MR.out _⟩⟩
   case measure => simp [intOf]; omega
  ·obtain rfl : k = 64 := by omega
   rw [show ((64 : Nat) : Int) = (64 : Int) from rfl]
   have hkb : decide ((64 : Int) < 64) = false := by decide
   rw [show b.slots.take 64 = b.slots from List.take_of_length_le (by have := HL.out; omega)] at HS
   have Gb := HX.out.cell 66 _ (gF _ _ _ _ _ HL.out)
   obtain ⟨As, cs, rfl⟩ := Kd.R_slice HS.out
   have HS' := ak (Kd.R_mono (ok' := fun k => k < W.heap.size) (Kd.R_bound HS.out) (fun k hk => hk.2.2.1))
   have HSZ := ak (Nat.le_refl W.heap.size)
   have JP := HB.out.size
   obtain ⟨b1, cI⟩ : ∃ b1, b1 = W.heap.size := ⟨_, rfl⟩
   rw [← cI] at HS' JP
   have HSZ := ak (show b1 ≤ W.heap.size by omega)
   have HWB := ak JP
   have HRF := ak (HR.out.below HB.out)
   clear HS cI JP
   go_wp2_with fail
   clear Gb
   go_loopw [7, 31] (fun _ i V => ∃ k : Nat, k ≤ b.free.length ∧ i = .int .i64 k ∧ ∃ vf, Aside0 (aX V g3 [.int .u32 b.addr, .string b.aff, .slice As b.slots.length cs, vf, .slice none 0 0] 62) ∧ Aside0 (Kd.R (Kd.int .i64) 3 V w.heap.size (fun k => k < b1) (.slice As b.slots.length cs) b.slots) ∧ Aside0 (Kd.R (Kd.int .i64) 3 V b1 (fun _ => True) vf (b.free.take k)) ∧ Aside0 (aX V g2 dW 62) ∧ Aside0 (aX V g (bk b.addr b.aff b.slots (.slice A b.free.length c) (.slice A' b.attrs.length c')) 57) ∧ Aside0 (b1 ≤ V.heap.size) ∧ Aside0 (Below w.heap.size w V)) (fun _ i _ => b.free.length - (intOf i).toNat)
   case atStart => exact ⟨0, by omega, rfl, _, HZ, HS', ⟨Kd.R_nil _ _ _ _ _⟩, HY, HX, HSZ, HB⟩
   case round =>
    clear HZ HS' HY HX HSZ HB HRF
    obtain ⟨k, hk, rfl, vf, HZ, HS, HF, HY, HX, HSZ, HB⟩ := hrel
    obtain ⟨V, rfl⟩ : ∃ V : World, V = wr := ⟨_, rfl⟩
    by_cases hkn : k < b.free.length
    ·have hkb : decide ((k : Int) < (b.free.length : Int)) = true := by simp; omega
     obtain ⟨ad, eA, hx⟩ := Kd.at_int (HR.out.below HB.out).fr k (by omega) (by omega)
     cases eA
     rw [Int.toNat_natCast] at hx
     have p1 : ((k : Int) < (b.free.length : Int)) = True := eq_true (by omega)
     obtain ⟨m, hm⟩ : ∃ m : Nat, rd b.free k = (m : Int) := ⟨(rd b.free k).toNat, by have := (lG HK.out.f8 k).1; omega⟩
     have sB : m < 256 := by have := (lG HK.out.f8 k).2; omega
     rw [hm] at hx
     obtain ⟨L, hL⟩ : ∃ L : List Int, L = b.free.take (k + 1) := ⟨_, rfl⟩
     have HLq := ak hL
     have HT := ak (show L = b.free.take k ++ [(m : Int)] by rw [hL, List.take_add_one, List.getElem?_eq_getElem hkn, ← hm]; simp [rd, List.getD, hkn])
     clear hL hm
     have hlen : (b.free.take k).length ≤ k := by simp; omega
     have ZK := HZ.out.cell 3 _ rfl
     go_wp2_with (first | ((with_reducible refine cy (b := .append) (xs := #[.tmp 36, .tmp 39]) rfl ?_); at_builtin; refine Kd.R_append (Kd.int .i64) (w0 := V) b1 rfl (.tmp 36) (.tmp 39) 31 3 (.int .i64 0) 8 rfl Try.underlying31 xp rfl (by decide) (by omega) vf (b.free.take k) (m : Int) [.int .i64 (m : Int)] (fun _ => True) (fun _ => False) rfl rfl rfl (fun _ hk => hk.elim) (fun _ _ => trivial) HF.out (Below.refl _ _) HSZ.out (by omega) ?_; intro v1 w1 fT cI l6 qg; have yJ := ak (HZ.out.grown l6 (HZ.out.ne_row HF.out (by decide))); have gl := ak (HX.out.grown l6 (HX.out.ne_row HF.out (by decide))); have ny := ak (HY.out.grown l6 (HY.out.ne_row HF.out (by decide))); have Ru := ak (vM HS.out (fun _ h => h) HF.out l6); rw [← HT.out] at fT; have j3 := ak fT; have cG := ak (HB.out.trans (cI.mono HWB.out)); have UM := ak (Nat.le_trans HSZ.out cI.size); obtain ⟨A1, c1, rfl⟩ := Kd.R_slice fT; have vJ := yJ.out.cell 3 _ rfl; have np := yJ.out.frozen 3; clear fT cI l6 qg ZK HZ HX HY HS HF HB HSZ hx))
     have sS := ak (show aX (w1.setCell ⟨g3, 3, none⟩ (.slice A1 L.length c1)) g3 [.int .u32 b.addr, .string b.aff, .slice As b.slots.length cs, .slice A1 L.length c1, .slice none 0 0] 62 from yJ.out.set 3 (.slice A1 L.length c1))
     have HBS := ak (Below.setCell cG.out (p := ⟨g3, 3, none⟩) MR.out (.slice A1 L.length c1))
     have hgS := bP w1 g3 3 (.slice A1 L.length c1)
     have UL := ak (Nat.le_trans UM.out hgS.size)
     have xJ := ak (bO Ru.out yJ.out (by decide) hgS)
     have lO := ak (bO j3.out yJ.out (by decide) hgS)
     clear hgS
     go_roundw
     case rel => exact ⟨k + 1, by omega, by go_num, _, sS, xJ, ⟨by rw [← HLq.out]; exact lO.out⟩, ⟨ny.out.far (p := ⟨g3, 3, none⟩) H7.out _⟩, ⟨gl.out.far (p := ⟨g3, 3, none⟩) KZ.out _⟩, UL, HBS⟩
     case measure => simp [intOf]; omega
    ·obtain rfl : k = b.free.length := by omega
     have hkb : decide ((b.free.length : Int) < (b.free.length : Int)) = false := by simp
     rw [List.take_of_length_le (Nat.le_refl b.free.length)] at HF
     have rj := HX.out.cell 67 _ (gv _ _ _ _ _ HL.out)
     obtain ⟨Af, cf, rfl⟩ := Kd.R_slice HF.out
     have HF' := ak (Kd.R_lower HF.out HWB.out)
     have HS' := ak (Kd.R_mono (ok' := fun _ => True) HS.out (fun _ _ => trivial))
     clear HF HS HSZ
     go_wp2_with fail
     clear rj
     go_loopw [9, 46] (fun _ i U => ∃ k : Nat, k ≤ b.attrs.length ∧ i = .int .i64 k ∧ ∃ va, Aside0 (aX U g3 [.int .u32 b.addr, .string b.aff, .slice As b.slots.length cs, .slice Af b.free.length cf, va] 62) ∧ Aside0 (Kd.R (Kd.int .i64) 3 U w.heap.size (fun _ => True) (.slice As b.slots.length cs) b.slots) ∧ Aside0 (Kd.R (Kd.int .i64) 3 U w.heap.size (fun _ => True) (.slice Af b.free.length cf) b.free) ∧ Aside0 (Kd.R ia 76 U w.heap.size (fun _ => True) va ((b.attrs.take k).map vc)) ∧ Aside0 (aX U g2 dW 62) ∧ Aside0 (Below w.heap.size w U)) (fun _ i _ => b.attrs.length - (intOf i).toNat)
     case atStart => exact ⟨0, by omega, rfl, _, HZ, HS', HF', ⟨Kd.R_nil _ _ _ _ _⟩, HY, HB⟩
     case round =>
      clear HZ HS' HF' HY HX HB
      obtain ⟨k, hk, rfl, va, HZ, HS, HF, HA, HY, HB⟩ := hrel
      obtain ⟨U, rfl⟩ : ∃ U : World, U = wr := ⟨_, rfl⟩
      by_cases hkn : k < b.attrs.length
      ·have hkb : decide ((k : Int) < (b.attrs.length : Int)) = true := by simp; omega
       obtain ⟨ad, eA, kE, mq⟩ := nv (HR.out.below HB.out).ar k (by omega) (by omega)
       cases eA
       rw [Int.toNat_natCast] at kE mq
       have p1 : ((k : Int) < (b.attrs.length : Int)) = True := eq_true (by omega)
       obtain ⟨a, ha⟩ : ∃ a, dE b.attrs (k : Int) = a := ⟨_, rfl⟩
       rw [ha] at kE mq
       have Ej : b.attrs[k] = a := by rw [← ha]; simp [dE, List.getD, hkn]
       obtain ⟨L, hL⟩ : ∃ L : List S76, L = (b.attrs.take (k + 1)).map vc := ⟨_, rfl⟩
       obtain ⟨M, hM⟩ : ∃ M : List S76, M = (b.attrs.take k).map vc := ⟨_, rfl⟩
       have HLq := ak hL
       have HT := ak (show L = M ++ [vc a] by rw [hL, hM, List.take_add_one, List.getElem?_eq_getElem hkn, Ej]; simp)
       have hml : M.length ≤ k := by rw [hM]; simp; omega
       rw [← hM] at HA
       clear hL hM ha Ej
       obtain ⟨Am, cm, rfl⟩ := Kd.R_slice HA.out
       go_wp2_with (first
        | (refine aH (some 9) rfl rfl 85 rfl [.string ⟨#[]⟩, .string ⟨#[]⟩] (fun _ => by kernel_rfl) ?_; intro ga W3 hga ja yW)
        | (refine a7 rfl 85 (.tmp 9) (.tmp 49) rfl ga [.string a.f0, .string a.f1] rfl rfl 85 _ ja 2 (by kernel_rfl) rfl rfl (by intro u hu; simp at hu; rcases hu with rfl | rfl <;> rfl) ?_; intro W4 m0 D4; have qU := ak m0; have hbW : Below U.heap.size U W4 := yW.grown D4 yW.size (fun q hq => by cases hq; exact hga); have vN := ak (bA HB.out hbW); have LS := ak (HZ.out.below hbW); have TW := ak (Kd.R_below HS.out hbW); have JO := ak (Kd.R_below HF.out hbW); have GO := ak (Kd.R_below HA.out hbW); have rk := ak (HY.out.below hbW); have ZJ := LS.out.cell 4 _ rfl; have Lh := qU.out.cell 0 _ rfl; have zF := qU.out.cell 1 _ rfl; clear ja m0 hga yW D4 hbW kE mq HA HZ HS HF HY HB)
        | ((with_reducible refine cy (b := .append) (xs := #[.tmp 51, .tmp 57]) rfl ?_); at_builtin; refine Kd.R_append ia (w0 := w) w.heap.size rfl (.tmp 51) (.tmp 57) 49 76 (.agg #[.string ⟨#[]⟩, .string ⟨#[]⟩]) 32 rfl Try.underlying49 vY rfl (by decide) (by omega) _ M (vc a) [.string a.f0, .string a.f1] (fun _ => True) (fun _ => False) rfl rfl (yc _ _ _ _) (fun _ h => h.elim) (fun _ _ => trivial) GO.out vN.out vN.out.size (by omega) ?_; intro v8 w8 sA pE tq KA; rw [← HT.out] at sA; have yI := ak (LS.out.grown tq (LS.out.ne_row GO.out (by decide))); have LX := ak (rk.out.grown tq (rk.out.ne_row GO.out (by decide))); have Mc := ak (Kd.R_over TW.out GO.out (by decide) tq); have RM := ak (Kd.R_over JO.out GO.out (by decide) tq); have E7 := ak sA; have R4 := ak pE; obtain ⟨A8, c8, rfl⟩ := Kd.R_slice sA; have hc8 := yI.out.cell 4 _ rfl; have TN := yI.out.frozen 4; clear sA pE tq KA ZJ LS TW JO GO rk vN Lh zF))
       have Z8 := ak (show aX (w8.setCell ⟨g3, 4, none⟩ (.slice A8 L.length c8)) g3 [.int .u32 b.addr, .string b.aff, .slice As b.slots.length cs, .slice Af b.free.length cf, .slice A8 L.length c8] 62 from yI.out.set 4 (.slice A8 L.length c8))
       go_roundw
       case rel => exact ⟨k + 1, by omega, by go_num, _, Z8, ⟨bO Mc.out yI.out (by decide) (bP _ _ _ _)⟩, ⟨bO RM.out yI.out (by decide) (bP _ _ _ _)⟩, ⟨by rw [← HLq.out]; exact bO E7.out yI.out (by decide) (bP _ _ _ _)⟩, ⟨LX.out.far (p := ⟨g3, 4, none⟩) H7.out _⟩, ⟨Below.setCell R4.out (p := ⟨g3, 4, none⟩) MR.out _⟩⟩
       case measure => simp [intOf]; omega
      ·obtain rfl : k = b.attrs.length := by omega
       have hkb : decide ((b.attrs.length : Int) < (b.attrs.length : Int)) = false := by simp
       rw [List.take_of_length_le (Nat.le_refl b.attrs.length)] at HA
       obtain ⟨LA, hLA⟩ : ∃ LA, LA = b.attrs.map vc := ⟨_, rfl⟩
       have HLA := ak hLA
       rw [← hLA] at HA
       clear hLA
       obtain ⟨Aa, ca, rfl⟩ := Kd.R_slice HA.out
       go_wp2_with (first
        | (refine aN rfl 62 (.tmp 3) rfl g3 rfl _ _ _ HZ.out Try.underlying62 rfl 5 (by kernel_rfl) rfl ?_)
        | (refine a7 rfl 62 (.tmp 2) (.tmp 61) rfl g2 [.int .u32 b.addr, .string b.aff, .slice As b.slots.length cs, .slice Af b.free.length cf, .slice Aa LA.length ca] rfl rfl 62 _ HY.out 5 (by kernel_rfl) rfl rfl (by intro u hu; simp at hu; rcases hu with rfl | rfl | rfl | rfl | rfl <;> rfl) ?_; intro W6 Bx pw))
       refine bodyPost_ret (results_cell_row rfl _ _ g2 62 _ (0, 0) _ rfl Bx Try.underlying62 rfl (by kernel_rfl)) rfl ⟨_, _, _, rfl, bO HS.out HY.out (by decide) pw, bO HF.out HY.out (by decide) pw, ?_, HB.out.grown pw HB.out.size (by intro k hk; cases hk; exact AX.out)⟩
       rw [← HLA.out]
       exact bO HA.out HY.out (by decide) pw
end Go.Proofs.Ytemhalnhbgkbcaa.V
end

section
namespace Go.Proofs.Ytemhalnhbgkbcaa.V
def Hb (b : Bk) (s : ByteArray) : Bk := ⟨b.addr, s, b.slots, b.free, b.attrs⟩
set_option maxHeartbeats 8000000 in
set_option maxRecDepth 100000 in
theorem FZ (b : Bk) (hk : BkOk b) (hfl : b.free.length ≤ 1000) (hal : b.attrs.length ≤ 1000) (s : ByteArray) (v : Value) (w : World) (h : jb w v b) :
  Calls Try.prog 55 #[v, .string s] w fun e w' => ∃ v', e = .returned (.tuple #[v', .int .i64 (if (eE b && gg s) = true then 0 else 1)]) ∧ eP w' w.heap.size v' (if (eE b && gg s) = true then Hb b s else kC) ∧ Below w.heap.size w w' := by
 obtain ⟨A, c, A', c', rfl, hr⟩ := h
 have HL := ak hr.l64
 have HR := ak hr
 have HK := ak hk
 have lO := ak (BH s)
 have HCP := ak (nO b (by omega) (by omega))
 have CH := ak (ao b.addr b.aff b.slots (.slice A b.free.length c) (.slice A' b.attrs.length c') hr.l64)
 clear hr hk
 cases hrt : eE b with
 | false =>
  have HRT := ak hrt
  clear hrt
  simp only [Bool.false_and, Bool.false_eq_true, if_false]
  go_enter Try.func55, Try.ntmps55
  go_wp2_with (first
   | (refine aV rfl 57 (.tmp 0) rfl _ rfl ?_; intro g W1 hg hbx cI; have gl := ak hbx; have cG := ak cI; clear hbx cI hg)
   | (refine aH (some 4) rfl rfl 57 rfl bu b6 ?_; intro g4 W2 pz xq eX; have gD := ak (gl.out.below eX); have qT := ak xq; have jk := ak (cG.out.trans (eX.mono cG.out.size)); have AW := ak (show w.heap.size ≤ g4 by have := cG.out.size; omega); clear xq eX pz gl cG)
   | ((with_reducible refine aJ (N := 6) rfl ?_); refine aN rfl 57 (.tmp 2) rfl g rfl _ _ _ gD.out Try.underlying57 rfl 68 (by kernel_rfl) CH.out ?_)
   | (go_at_call 48; refine (e8 b HK.out _ _ ⟨A, c, A', c', rfl, HR.out.below jk.out⟩).mono ?_; rintro e W3 ⟨rfl, iP⟩; rw [HRT.out]; have tD := ak (qT.out.below iP); have ja := ak (jk.out.trans (iP.mono jk.out.size)); clear iP)
   | (refine gz rfl 57 #[] rfl bu mD ?_)
   | (refine a7 rfl 57 (.tmp 4) (.tmp 14) rfl g4 bu rfl rfl 57 _ tD.out 68 (by kernel_rfl) rfl rfl jU ?_; intro W4 Y1 pz))
  exact bodyPost_ret (gB rfl _ _ g4 57 _ (0, 0) _ rfl Y1 Try.underlying57 rfl (by simp only [List.size_toArray]; exact dc _ rfl)) rfl ⟨_, rfl, oC _ _, ja.out.grown pz ja.out.size (by intro k hk; cases hk; exact AW.out)⟩
 | true =>
  have HRT := ak hrt
  clear hrt
  cases ho : gg s with
  | false =>
   rw [ho] at lO
   clear ho
   simp only [Bool.and_false, Bool.false_eq_true, if_false]
   go_enter Try.func55, Try.ntmps55
   go_wp2_with (first
    | (refine aV rfl 57 (.tmp 0) rfl _ rfl ?_; intro g W1 hg hbx cI; have gl := ak hbx; have cG := ak cI; clear hbx cI hg)
    | (refine aH (some 4) rfl rfl 57 rfl bu b6 ?_; intro g4 W2 pz xq eX; have gD := ak (gl.out.below eX); have qT := ak xq; have jk := ak (cG.out.trans (eX.mono cG.out.size)); have AW := ak (show w.heap.size ≤ g4 by have := cG.out.size; omega); clear xq eX pz gl cG)
    | ((with_reducible refine aJ (N := 6) rfl ?_); refine aN rfl 57 (.tmp 2) rfl g rfl _ _ _ gD.out Try.underlying57 rfl 68 (by kernel_rfl) CH.out ?_)
    | (go_at_call 48; refine (e8 b HK.out _ _ ⟨A, c, A', c', rfl, HR.out.below jk.out⟩).mono ?_; rintro e W3 ⟨rfl, iP⟩; rw [HRT.out]; have tD := ak (qT.out.below iP); have ja := ak (jk.out.trans (iP.mono jk.out.size)); clear iP)
    | (go_at_call 79; refine (il.calls _ _ _ lO.out).mono ?_; rintro e W4 ⟨rfl, sH⟩; have tC := ak (tD.out.below sH); have m0 := ak (ja.out.trans (sH.mono ja.out.size)); clear sH)
    | (refine gz rfl 57 #[] rfl bu mD ?_)
    | (refine a7 rfl 57 (.tmp 4) (.tmp 14) rfl g4 bu rfl rfl 57 _ tC.out 68 (by kernel_rfl) rfl rfl jU ?_; intro W5 Ct Jh))
   exact bodyPost_ret (gB rfl _ _ g4 57 _ (0, 0) _ rfl Ct Try.underlying57 rfl (by simp only [List.size_toArray]; exact dc _ rfl)) rfl ⟨_, rfl, oC _ _, m0.out.grown Jh m0.out.size (by intro k hk; cases hk; exact AW.out)⟩
  | true =>
   rw [ho] at lO
   clear ho
   simp only [Bool.and_self, if_true]
   go_enter Try.func55, Try.ntmps55
   go_wp2_with (first
    | (refine aV rfl 57 (.tmp 0) rfl _ rfl ?_; intro g W1 hg hbx cI; have gl := ak hbx; have cG := ak cI; have HG := ak hg; clear hbx cI hg)
    | (refine aH (some 4) rfl rfl 57 rfl bu b6 ?_; intro g4 W2 pz xq eX; have gD := ak (gl.out.below eX); have qT := ak xq; have jk := ak (cG.out.trans (eX.mono cG.out.size)); have AW := ak (show w.heap.size ≤ g4 by have := cG.out.size; omega); have HNE := ak (show g ≠ g4 by have := gl.out.lt; omega); clear xq eX pz gl cG)
    | ((with_reducible refine aJ (N := 6) rfl ?_); refine aN rfl 57 (.tmp 2) rfl g rfl _ _ _ gD.out Try.underlying57 rfl 68 (by kernel_rfl) CH.out ?_)
    | (go_at_call 48; refine (e8 b HK.out _ _ ⟨A, c, A', c', rfl, HR.out.below jk.out⟩).mono ?_; rintro e W3 ⟨rfl, iP⟩; rw [HRT.out]; have n6 := ak (gD.out.below iP); have tD := ak (qT.out.below iP); have ja := ak (jk.out.trans (iP.mono jk.out.size)); clear iP gD)
    | (go_at_call 79; refine (il.calls _ _ _ lO.out).mono ?_; rintro e W4 ⟨rfl, sH⟩; have sT := ak (n6.out.below sH); have tC := ak (tD.out.below sH); have m0 := ak (ja.out.trans (sH.mono ja.out.size)); clear sH n6)
    | ((with_reducible refine aJ (N := 15) rfl ?_); refine aN rfl 57 (.tmp 2) rfl g rfl _ _ _ sT.out Try.underlying57 rfl 68 (by kernel_rfl) CH.out ?_)
    | (go_at_call 89; refine (HCP.out _ _ ⟨A, c, A', c', rfl, HR.out.below m0.out⟩).mono ?_; rintro e W5 ⟨v5, rfl, xw, Cx⟩; obtain ⟨xy, vf, va, rfl, nn, nr⟩ := xw; have xI := ak (sT.out.below Cx); have rk := ak (tC.out.below Cx); have JO := ak (Kd.R_lower nn m0.out.size); have Uc := ak (Kd.R_lower nr m0.out.size); have vN := ak (m0.out.trans (Cx.mono m0.out.size)); obtain ⟨Af, cf, rfl⟩ := Kd.R_slice nn; obtain ⟨Aa, ca, rfl⟩ := Kd.R_slice nr; clear nn nr Cx sT xy)
    | (refine a7 rfl 57 (.tmp 2) (.tmp 16) rfl g (bk b.addr b.aff b.slots (.slice Af b.free.length cf) (.slice Aa b.attrs.length ca)) rfl rfl 57 _ xI.out 68 (by kernel_rfl) (ao _ _ _ _ _ HL.out) (ao _ _ _ _ _ HL.out) (cA _ _ _ _ _ rfl rfl) ?_; intro W6 TH pw; have GH := ak TH; have TV := ak (rk.out.grown pw (fun e => HNE.out (Option.some.inj e).symm)); have T0 := ak (bO JO.out xI.out (by decide) pw); have Ub := ak (bO Uc.out xI.out (by decide) pw); have Bx := ak (vN.out.grown pw vN.out.size (by intro k hk; cases hk; exact HG.out)); have ZI := GH.out.cell 1 _ rfl; have Zq := GH.out.frozen 1; clear TH pw xI rk JO Uc vN)
    | (generalize QO : W6.setCell ⟨g, 1, none⟩ (.string s) = W7; have Qt : aX W7 g (bk b.addr s b.slots (.slice Af b.free.length cf) (.slice Aa b.attrs.length ca)) 57 := (by rw [← QO]; exact GH.out.set 1 (.string s)); have yD : W6.grownBy W7 (some g) := (by rw [← QO]; exact bP W6 g 1 (.string s)); refine aN rfl 57 (.tmp 2) rfl g rfl _ _ _ Qt Try.underlying57 rfl 68 (by kernel_rfl) (ao _ _ _ _ _ HL.out) ?_; have HX7 := ak Qt; have Rp := ak (TV.out.grown yD (fun e => HNE.out (Option.some.inj e).symm)); have HF7 := ak (bO T0.out GH.out (by decide) yD); have yM := ak (bO Ub.out GH.out (by decide) yD); have Ua := ak (Bx.out.grown yD Bx.out.size (by intro k hk; cases hk; exact HG.out)); clear QO Qt yD ZI Zq GH TV T0 Ub Bx)
    | (refine a7 rfl 57 (.tmp 4) (.tmp 19) rfl g4 (bk b.addr s b.slots (.slice Af b.free.length cf) (.slice Aa b.attrs.length ca)) rfl rfl 57 _ Rp.out 68 (by kernel_rfl) (ao _ _ _ _ _ HL.out) rfl (cA _ _ _ _ _ rfl rfl) ?_; intro W8 Y0 tq))
   exact bodyPost_ret (gB rfl _ _ g4 57 _ (0, 0) _ rfl Y0 Try.underlying57 rfl (by simp only [List.size_toArray]; exact dc _ (ao _ _ _ _ _ HL.out))) rfl ⟨_, rfl, ⟨HL.out, _, _, rfl, bO HF7.out Rp.out (by decide) tq, bO yM.out Rp.out (by decide) tq⟩, Ua.out.grown tq Ua.out.size (by intro k hk; cases hk; exact AW.out)⟩
end Go.Proofs.Ytemhalnhbgkbcaa.V
end

section
namespace Go.Proofs.Ytemhalnhbgkbcaa.V
def ou.T1 : Bool × List (List Nat × List Nat) := (true, [([], []), ([0], [0]), ([], []), ([2], [2]), ([1, 3], [1, 3])])
def ou.B1 : List Nat := [0, 1, 0, 4, 15]
theorem ou.tab1 : eI .any (opsOf Try.f92 1) = ou.T1 := by kernel_rfl
theorem ou.bits1 : eb ou.T1.2 ou.B1 = true := by kernel_rfl
set_option maxHeartbeats 4000000 in
set_option maxRecDepth 100000 in
theorem Cl (b : Bk) (hk : BkOk b) (a : Int) (h0 : 0 ≤ a) (h1 : a < 4294967296) (v : Value) (w : World) (h : jb w v b) :
  Calls Try.prog 92 #[v, .int .u32 a] w fun e w' => e = .returned (.tuple #[.int .i64 (if cC a = b.addr then a - b.addr else 0), .bool (decide (cC a = b.addr))]) ∧ Below w.heap.size w w' := by
 obtain ⟨A, c, A', c', rfl, hr⟩ := h
 have HF := ak (BS a h0 h1)
 have mw := hk.a0
 have cI := hk.a1
 obtain ⟨f, hf⟩ : ∃ f, f = cC a := ⟨_, rfl⟩
 have HFE := ak hf
 rw [← hf] at HF ⊢
 have ha := b.addr
 obtain ⟨ba, hba⟩ : ∃ ba, ba = b.addr := ⟨_, rfl⟩
 have hsub : f = ba → 0 ≤ a - ba ∧ a - ba < 64 := by
  intro e
  rw [← e, hf]
  unfold cC
  omega
 clear hr hf
 by_cases he : f = b.addr
 ·have q1 : (f == b.addr) = true := by rw [beq_iff_eq]; exact he
  have q2 : (f != b.addr) = false := by rw [bne, q1]; rfl
  rw [if_pos he, decide_eq_true he]
  have hsb := hsub (by rw [hba]; exact he)
  rw [hba] at hsb
  clear hsub hba he
  go_enter Try.func92, Try.ntmps92
  go_wp2_with (first
   | (refine aV rfl 57 (.tmp 0) rfl _ rfl ?_; intro g W1 hg hbx cI; have HX := ak (hbx.below (bL (Below.refl _ _))); have HB := ak (bL cI); clear hbx cI hg))
  refine dR (n := 5) (S := fun w' => w'.cell? ⟨g, 0, none⟩ = some (.int .u32 b.addr)) (ds := []) #[false, false, false, false, false] (by kernel_rfl) rfl rfl (HX.out.cell 0 _ rfl) (fun hHeld => ?_); refine b5 ou.tab1 ou.bits1 (fun ag bM => ?_)
  refine pu 0 ag.out ?_
  refine pu 2 ag.out ?_
  refine tk 3 ag.out bM.out hHeld ?_ (hv := by intro w' bj; have s0 := bj; go_simp; with_reducible rfl)
  refine on 1 ag.out (fun K hK => ?_)
  refine gs Try.func80 #[.int .u32 a] (im.calls _ _ _ HF.out) ?_
  rintro e V3 ⟨rfl, iP⟩
  refine ⟨_, rfl, ?_⟩
  have n6 := ak (HX.out.below iP); have ja := ak (HB.out.trans (iP.mono HB.out.size)); clear iP
  refine kn hK (n6.out.cell 0 _ rfl) (fun hHeld => ?_)
  clear hK K
  refine pu 4 ag.out ?_
  refine dn ag.out ?_
  have jC := n6.out.cell 0 _ rfl
  go_wp2
  go_ret2
  exact ⟨rfl, ja.out⟩
 ·have q1 : (f == b.addr) = false := by rw [beq_eq_false_iff_ne]; exact he
  have q2 : (f != b.addr) = true := by rw [bne, q1]; rfl
  rw [if_neg he, decide_eq_false he]
  clear hsub hba he
  go_enter Try.func92, Try.ntmps92
  go_wp2_with (first
   | (refine aV rfl 57 (.tmp 0) rfl _ rfl ?_; intro g W1 hg hbx cI; have HX := ak (hbx.below (bL (Below.refl _ _))); have HB := ak (bL cI); clear hbx cI hg))
  refine dR (n := 5) (S := fun w' => w'.cell? ⟨g, 0, none⟩ = some (.int .u32 b.addr)) (ds := []) #[false, false, false, false, false] (by kernel_rfl) rfl rfl (HX.out.cell 0 _ rfl) (fun hHeld => ?_); refine b5 ou.tab1 ou.bits1 (fun ag bM => ?_)
  refine pu 0 ag.out ?_
  refine pu 2 ag.out ?_
  refine tk 3 ag.out bM.out hHeld ?_ (hv := by intro w' bj; have s0 := bj; go_simp; with_reducible rfl)
  refine on 1 ag.out (fun K hK => ?_)
  refine gs Try.func80 #[.int .u32 a] (im.calls _ _ _ HF.out) ?_
  rintro e V3 ⟨rfl, iP⟩
  refine ⟨_, rfl, ?_⟩
  have n6 := ak (HX.out.below iP); have ja := ak (HB.out.trans (iP.mono HB.out.size)); clear iP
  refine kn hK (n6.out.cell 0 _ rfl) (fun hHeld => ?_)
  clear hK K
  refine pu 4 ag.out ?_
  refine dn ag.out ?_
  go_wp2
  go_ret2
  exact ⟨rfl, ja.out⟩
end Go.Proofs.Ytemhalnhbgkbcaa.V
end

section
namespace Go.Proofs.Ytemhalnhbgkbcaa.V
attribute [local go_sem] dA dy ed ec cP cN dz dx
attribute [local go_sem high] Ho
def cz.l0 : Nat → List (S85) → Int → Int → ByteArray → ByteArray → Option (Int)
 | 0, _, _, _, _, _ => none
 | k + 1, x0, x7, x8, zn, zm => if x8 < x7 then (if 0 ≤ x8 then (if x8 < (x0.length : Int) then (if (zn.toList == (((dE x0 x8).f0).toList) && (zm.toList == (((dE x0 x8).f1).toList))) = true then (some x8) else (cz.l0 k x0 x7 (wrap64 (x8 + 1)) zn zm)) else (none)) else (none)) else (some (-1))
def cz.f (k : Nat) (l0 : List (S85)) (lZ : ByteArray) (lY : ByteArray) : Option (Int) := cz.l0 k l0 (l0.length : Int) 0 lZ lY
theorem cz.mono_l : ∀ k, (∀ y0 y1 y2 y3 y4, aC (cz.l0 k y0 y1 y2 y3 y4) (cz.l0 (k + 1) y0 y1 y2 y3 y4))
 | 0 => fun _ _ _ _ _ r h => by simp [cz.l0] at h
 | k + 1 => by
  have cE := cz.mono_l k
  ·intro y0 y1 y2 y3 y4
   unfold cz.l0
   repeat' first
   | (with_reducible exact cE _ _ _ _ _)
   | (with_reducible exact aC.refl _)
   | (with_reducible exact aC.none _)
   | (with_reducible refine aC.ite ?_ ?_)
   | (with_reducible refine aC.bind ?_ (fun _ => ?_))
   | exact cE _ _ _ _ _
   | exact aC.none _
   | refine aC.ite ?_ ?_
   | refine aC.bind ?_ (fun _ => ?_)
theorem cz.mono : ∀ a0 a1 a2 k, aC (cz.f k a0 a1 a2) (cz.f (k + 1) a0 a1 a2) := by
 intro a0 a1 a2 k
 have cE := cz.mono_l k
 unfold cz.f
 repeat' first
   | (with_reducible exact cE _ _ _ _ _)
   | (with_reducible exact aC.refl _)
   | (with_reducible exact aC.none _)
   | (with_reducible refine aC.ite ?_ ?_)
   | (with_reducible refine aC.bind ?_ (fun _ => ?_))
   | exact cE _ _ _ _ _
   | exact aC.none _
   | refine aC.ite ?_ ?_
   | refine aC.bind ?_ (fun _ => ?_)
set_option maxHeartbeats 8000000 in
set_option maxRecDepth 100000 in
theorem cz.calls (k : Nat) (A0 : Option Addr) (c0 : Nat) (l0 : List (S85)) (lZ : ByteArray) (lY : ByteArray) (r : Int) (w : World) (lM : Kd.C lf w A0 l0.length l0) (jC : l0.length ≤ c0) (h : cz.f k l0 lZ lY = some r) :
  Calls Try.prog 110 #[.slice A0 l0.length c0, .agg #[.string lZ, .string lY]] w fun e w' => e = .returned (.int .i64 r) ∧ Below w.heap.size w w' := by
 have Kq := Try.underlying85
 have n7 := ak lM
 have xT := ak jC
 clear lM jC
 have HB := ak (Below.refl w.heap.size w)
 have H : (cz.l0 k l0 (l0.length : Int) 0 lZ lY) = some r := h
 clear h
 have H' := ak H
 clear H
 go_enter Try.func110, Try.ntmps110
 go_wp2_with (first | ((with_reducible refine aJ (N := 3) rfl ?_); refine eY ?hg (N := 3) ?hd (cs := #[.string lZ, .string lY]) (t := 85) ?hr ?_; (case hd => rfl); (case hg => rfl); (case hr => first | (go_simp; done) | (go_simp; rfl)); intro jE hg w3 hbox hb; have bR := ak (bA (by repeat (first | (with_reducible first | exact HB.out | apply af | apply ab | apply ai) | exact HB.out)) hb); have bX := ak (hbox); have dh := ak ((by rw [hg]; exact (bo (by repeat (first | (with_reducible first | exact HB.out | apply af | apply ab | apply ai) | exact HB.out))) : w.heap.size ≤ jE)); have dX := ak ((by rw [hg]; exact (bo (by repeat (first | (with_reducible first | exact HB.out | apply af | apply ab | apply ai) | exact HB.out))) : w.heap.size ≤ jE)); clear HB; have HB := bR; have jK := bX; have Fe := dh; have qn := dX; clear bR bX dh dX; clear hb hbox hg))
 repeat (go_quiet (first | ((with_reducible refine aJ (N := 3) rfl ?_); refine eY ?hg (N := 3) ?hd (cs := #[.string lZ, .string lY]) (t := 85) ?hr ?_; (case hd => rfl); (case hg => rfl); (case hr => first | (go_simp; done) | (go_simp; rfl)); intro jE hg w3 hbox hb; have bR := ak (bA (by repeat (first | (with_reducible first | exact HB.out | apply af | apply ab | apply ai) | exact HB.out)) hb); have bX := ak (hbox); have dh := ak ((by rw [hg]; exact (bo (by repeat (first | (with_reducible first | exact HB.out | apply af | apply ab | apply ai) | exact HB.out))) : w.heap.size ≤ jE)); have dX := ak ((by rw [hg]; exact (bo (by repeat (first | (with_reducible first | exact HB.out | apply af | apply ab | apply ai) | exact HB.out))) : w.heap.size ≤ jE)); clear HB; have HB := bR; have jK := bX; have Fe := dh; have qn := dX; clear bR bX dh dX; clear hb hbox hg)); try go_wp2_with (first | ((with_reducible refine aJ (N := 3) rfl ?_); refine eY ?hg (N := 3) ?hd (cs := #[.string lZ, .string lY]) (t := 85) ?hr ?_; (case hd => rfl); (case hg => rfl); (case hr => first | (go_simp; done) | (go_simp; rfl)); intro jE hg w3 hbox hb; have bR := ak (bA (by repeat (first | (with_reducible first | exact HB.out | apply af | apply ab | apply ai) | exact HB.out)) hb); have bX := ak (hbox); have dh := ak ((by rw [hg]; exact (bo (by repeat (first | (with_reducible first | exact HB.out | apply af | apply ab | apply ai) | exact HB.out))) : w.heap.size ≤ jE)); have dX := ak ((by rw [hg]; exact (bo (by repeat (first | (with_reducible first | exact HB.out | apply af | apply ab | apply ai) | exact HB.out))) : w.heap.size ≤ jE)); clear HB; have HB := bR; have jK := bX; have Fe := dh; have qn := dX; clear bR bX dh dX; clear hb hbox hg)))
 go_loopg [8] k (fun kq v8 w' => ∃ (fo : Int), v8 = .int .i64 fo ∧ Aside0 (cz.l0 kq l0 (l0.length : Int) fo lZ lY = some r) ∧ Aside0 (kq ≤ k) ∧ Aside0 (w'.heap[jE]? = some (.cells #[.string lZ, .string lY] 85 (0, 0))) ∧ Aside0 (Below w.heap.size w w'))
 case atStart => exact ⟨(0), (by first | rfl | (simp; done) | (simp [*]; done)), H', ⟨Nat.le_refl _⟩, ⟨by (with_reducible repeat (first | refine ax ?_ _ | refine aG ?_ | refine ay ?_ _)); exact jK.out⟩, ⟨by repeat (first | (with_reducible first | exact HB.out | apply af | apply ab | apply ai | refine aD ?_ qn.out) | exact HB.out)⟩⟩
 case round =>
  clear H'
  obtain ⟨fo, rfl, HA, dq, jK, HB⟩ := hrel
  cases gk with
  | zero => exact absurd HA.out (by simp [cz.l0])
  | succ k1 =>
   have H := HA.out
   clear HA
   simp only [cz.l0] at H
   by_cases c4 : fo < (l0.length : Int)
   ·rw [if_pos c4] at H
    have jG : decide (fo < (l0.length : Int)) = true := decide_eq_true c4
    clear c4
    by_cases c5 : 0 ≤ fo
    ·rw [if_pos c5] at H
     have zb : decide (0 ≤ fo) = true := decide_eq_true c5
     clear c5
     by_cases c6 : fo < (l0.length : Int)
     ·rw [if_pos c6] at H
      have oK : decide (fo < (l0.length : Int)) = true := decide_eq_true c6
      clear c6
      by_cases c7 : (lZ.toList == (((dE l0 fo).f0).toList) && (lY.toList == (((dE l0 fo).f1).toList))) = true
      ·rw [if_pos c7] at H
       have lh : (lZ.toList == (((dE l0 fo).f0).toList) && (lY.toList == (((dE l0 fo).f1).toList))) = true := c7
       (try (have Hr : decide (lZ.toList = (((dE l0 fo).f0).toList) && (lY.toList == (((dE l0 fo).f1).toList))) = true := by simpa using c7))
       (try (have UD : (lZ.toList == (((dE l0 fo).f0).toList) && (lY.toList == (((dE l0 fo).f1).toList))) = true := by simpa using c7))
       clear c7
       obtain rfl := Option.some.inj H
       have Ed : wr.cell? ⟨jE, 0, none⟩ = some (.string lZ) := (al jK.out 0).trans rfl
       have Ec : wr.cell? ⟨jE, 1, none⟩ = some (.string lY) := (al jK.out 1).trans rfl
       have D6 := aj jK.out 0
       have D5 := aj jK.out 1
       have qd : 0 ≤ (fo : Int) := of_decide_eq_true (by first | (with_reducible assumption) | assumption)
       have qc : fo < (l0.length : Int) := of_decide_eq_true (by first | (with_reducible assumption) | assumption)
       obtain ⟨KQ, BT, mb, ma⟩ := nv n7.out fo qd qc
       cases BT
       replace mb := (HB.out.cell (World.block_lt_of_cell? w _ mb)).trans mb
       replace ma := (HB.out.cell (World.block_lt_of_cell? w _ ma)).trans ma
       replace qd := eq_true qd
       replace qc := eq_true qc
       go_wp2
       repeat (go_quiet (fail); try go_wp2)
       go_ret
       exact ⟨by first | rfl | (simp [bf, bd] <;> rfl) | (simp [*, bf, bd] <;> rfl), by repeat (first | (with_reducible first | exact HB.out | apply af | apply ab | apply ai | refine aD ?_ qn.out) | exact HB.out)⟩
      ·rw [if_neg c7] at H
       have lh : (lZ.toList == (((dE l0 fo).f0).toList) && (lY.toList == (((dE l0 fo).f1).toList))) = false := by simpa using c7
       (try (have Hr : decide (lZ.toList = (((dE l0 fo).f0).toList) && (lY.toList == (((dE l0 fo).f1).toList))) = false := by simpa using c7))
       (try (have UD : (lZ.toList == (((dE l0 fo).f0).toList) && (lY.toList == (((dE l0 fo).f1).toList))) = false := by simpa using c7))
       (try (have ah5 : ¬ (lZ.toList = (((dE l0 fo).f0).toList) && (lY.toList == (((dE l0 fo).f1).toList))) := by simpa using c7))
       clear c7
       have H' := ak H
       clear H
       have QG : wr.cell? ⟨jE, 0, none⟩ = some (.string lZ) := (al jK.out 0).trans rfl
       have QF : wr.cell? ⟨jE, 1, none⟩ = some (.string lY) := (al jK.out 1).trans rfl
       have QD := aj jK.out 0
       have QC := aj jK.out 1
       have qd : 0 ≤ (fo : Int) := of_decide_eq_true (by first | (with_reducible assumption) | assumption)
       have qc : fo < (l0.length : Int) := of_decide_eq_true (by first | (with_reducible assumption) | assumption)
       obtain ⟨KQ, BT, mb, ma⟩ := nv n7.out fo qd qc
       cases BT
       replace mb := (HB.out.cell (World.block_lt_of_cell? w _ mb)).trans mb
       replace ma := (HB.out.cell (World.block_lt_of_cell? w _ ma)).trans ma
       replace qd := eq_true qd
       replace qc := eq_true qc
       go_wp2
       repeat (go_quiet (fail); try go_wp2)
       go_roundg k1
       case measure => have := dq.out; omega
       case rel => exact ⟨(wrap64 (fo + 1)), (by first | rfl | (simp; done) | (simp [*]; done)), H', ⟨by have := dq.out; omega⟩, ⟨by (with_reducible repeat (first | refine ax ?_ _ | refine aG ?_ | refine ay ?_ _)); exact jK.out⟩, ⟨by repeat (first | (with_reducible first | exact HB.out | apply af | apply ab | apply ai | refine aD ?_ qn.out) | exact HB.out)⟩⟩
     ·rw [if_neg c6] at H
      exact absurd H (by simp)
    ·rw [if_neg c5] at H
     exact absurd H (by simp)
   ·rw [if_neg c4] at H
    have jG : decide (fo < (l0.length : Int)) = false := decide_eq_false c4
    clear c4
    obtain rfl := Option.some.inj H
    go_wp2
    repeat (go_quiet (fail); try go_wp2)
    go_ret
    exact ⟨by first | rfl | (simp [bf, bd] <;> rfl) | (simp [*, bf, bd] <;> rfl), by repeat (first | (with_reducible first | exact HB.out | apply af | apply ab | apply ai | refine aD ?_ qn.out) | exact HB.out)⟩
end Go.Proofs.Ytemhalnhbgkbcaa.V
end

section
namespace Go.Proofs.Ytemhalnhbgkbcaa.V
def OC (W : World) (b1 g : Nat) (b : Bk) : Prop := b.slots.length = 64 ∧ ∃ vf va, aX W g (bk b.addr b.aff b.slots vf va) 57 ∧ Kd.R (Kd.int .u8) 5 W b1 (fun _ => True) vf b.free ∧ Kd.R lf 85 W b1 (fun _ => True) va b.attrs
def iF (S : Nat → Prop) (W W' : World) : Prop := W.heap.size ≤ W'.heap.size ∧ ∀ k, k < W.heap.size → ¬ S k → W'.heap[k]? = W.heap[k]?
def Ie (W : World) (b1 g : Nat) (k : Nat) : Prop := k = g ∨ b1 ≤ k ∧ ∃ cells, W.heap[k]? = some (.cells cells 85 (0, 0))
def g5 (l : List At) (a : At) : Option Nat := l.findIdx? (sameAt a)
def ft (l : List At) (a : At) : Nat := match g5 l a with | some i => i + 1 | none => l.length + 1
def eZ (l : List At) (a : At) : List At := match g5 l a with | some _ => l | none => l ++ [a]
theorem N5 (l : List At) (hl : l.length ≤ 1000) (a : At) : cz.f (l.length + 5) l a.f0 a.f1 = some (match g5 l a with | some i => (i : Int) | none => -1) := by
 have key : ∀ (d i k : Nat), i + d = l.length → d < k → cz.l0 k l (l.length : Int) (i : Int) a.f0 a.f1 = some (match (l.drop i).findIdx? (sameAt a) with | some j => ((i + j : Nat) : Int) | none => -1) := by
  intro d
  induction d with
  | zero =>
   intro i k hi hk
   obtain ⟨k, rfl⟩ : ∃ m, k = m + 1 := ⟨k - 1, by omega⟩
   rw [cz.l0, if_neg (by omega), List.drop_of_length_le (by omega)]
   rfl
  | succ d ih =>
   intro i k hi hk
   obtain ⟨k, rfl⟩ : ∃ m, k = m + 1 := ⟨k - 1, by omega⟩
   have hil : i < l.length := by omega
   have e : dE l (i : Int) = l[i] := by simp [dE, List.getD, hil]
   rw [cz.l0, if_pos (by omega), if_pos (by omega), if_pos (by omega), e, List.drop_eq_getElem_cons hil, List.findIdx?_cons]
   cases h : sameAt a l[i] with
   | true =>
    have h' : (a.f0.toList == l[i].f0.toList && a.f1.toList == l[i].f1.toList) = true := h
    rw [h', if_pos rfl]
    simp
   | false =>
    have h' : (a.f0.toList == l[i].f0.toList && a.f1.toList == l[i].f1.toList) = false := h
    rw [h', if_neg (by decide), iC ((i : Int) + 1) (by omega) (by omega), show (i : Int) + 1 = ((i + 1 : Nat) : Int) by omega, ih (i + 1) k (by omega) (by omega)]
    cases (l.drop (i + 1)).findIdx? (sameAt a) with
    | none => rfl
    | some j =>
     show some ((i + 1 + j : Nat) : Int) = some ((i + (j + 1) : Nat) : Int)
     rw [show i + 1 + j = i + (j + 1) by omega]
 unfold cz.f
 rw [show (0 : Int) = ((0 : Nat) : Int) from rfl, key l.length 0 _ (by omega) (by omega), List.drop_zero]
 unfold g5
 cases l.findIdx? (sameAt a) with
 | none => rfl
 | some j => simp
theorem yU {l : List At} {a : At} {i : Nat} (h : g5 l a = some i) : i < l.length := by
 unfold g5 at h
 rw [List.findIdx?_eq_some_iff_getElem] at h
 exact h.1
def mJ.T1 : Bool × List (List Nat × List Nat) := (true, [([], []), ([0], [0]), ([1], [1]), ([2], [2]), ([], []), ([3, 4], [3, 4]), ([5, 5, 0, 1, 2, 3, 4, 5], [5])])
def mJ.B1 : List Nat := [0, 1, 3, 7, 0, 31, 63]
theorem mJ.tab1 : eI .any (opsOf Try.f90 1) = mJ.T1 := by kernel_rfl
theorem mJ.bits1 : eb mJ.T1.2 mJ.B1 = true := by kernel_rfl
def oW.T4 : Bool × List (List Nat × List Nat) := (true, [([], []), ([], []), ([1], [1]), ([2], [2]), ([3], [3]), ([], []), ([5], [5]), ([4, 6], [4, 6]), ([0, 0, 1, 2, 3, 4, 5, 6, 7], [0]), ([8, 0, 1, 2, 3, 4, 5, 6, 7], [8]), ([9, 7, 7, 0, 1, 2, 3, 4, 5, 6, 7], [7, 9])])
def oW.B4 : List Nat := [0, 0, 2, 6, 14, 0, 32, 126, 255, 511, 1023]
theorem oW.tab4 : eI .any (opsOf Try.f90 4) = oW.T4 := by kernel_rfl
theorem oW.bits4 : eb oW.T4.2 oW.B4 = true := by kernel_rfl
set_option maxHeartbeats 4000000 in
set_option maxRecDepth 100000 in
theorem rp (b : Bk) (hal : b.attrs.length ≤ 100) (a : At) (g b1 base : Nat) (W : World) (hbg : base ≤ g) (hbb : base ≤ b1) (Kz : b1 ≤ W.heap.size) (h : OC W b1 g b) :
  Calls Try.prog 90 #[.pointer (some ⟨g, 0, none⟩), .agg #[.string a.f0, .string a.f1]] W fun e W' => e = .returned (.int .u8 (ft b.attrs a : Nat)) ∧ OC W' b1 g ⟨b.addr, b.aff, b.slots, b.free, eZ b.attrs a⟩ ∧ Below base W W' ∧ iF (Ie W b1 g) W W' := by
 obtain ⟨hl, vf, va, hx, hf, ha⟩ := h
 have HG := ak hbg
 have HBB := ak hbb
 have HBW := ak Kz
 have hbase : base ≤ W.heap.size := Nat.le_trans hbb Kz
 have HROW := ak (show ∀ k, va.ownBlock = some k → Ie W b1 g k from fun k hk => by
  obtain ⟨hr, _⟩ := Kd.R_bound ha
  obtain ⟨_, h2, _, q, hq, h3⟩ := hr k hk
  refine Or.inr ⟨h2, ?_⟩
  rcases List.mem_cons.1 hq with rfl | hq
  ·exact h3
  ·cases hq)
 have HL := ak hl
 have hfi := N5 b.attrs (by omega) a
 obtain ⟨A, c, rfl⟩ := Kd.R_slice ha
 obtain ⟨Af, cf, rfl⟩ := Kd.R_slice hf
 have HX := ak hx
 have HF := ak hf
 have HA := ak ha
 obtain ⟨A0, c0, hq, hcc, hC⟩ := Kd.R_reads ha
 cases hq
 have HCC := ak hcc
 have HC := ak hC
 clear hbg hbb Kz hl hx hf ha hcc hC
 cases hi : g5 b.attrs a with
 | some i =>
  have hil := yU hi
  have e1 : ft b.attrs a = i + 1 := by unfold ft; rw [hi]
  have e2 : eZ b.attrs a = b.attrs := by unfold eZ; rw [hi]
  rw [hi] at hfi
  rw [e1, e2]
  have HFI := ak hfi
  have hneg : decide ((i : Int) < 0) = false := decide_eq_false (by omega)
  clear hfi hi e1 e2
  go_enter Try.func90, Try.ntmps90
  go_wp2_with (first
   | (refine aV rfl 85 (.tmp 1) rfl _ rfl ?_; intro ga W1 hga hbx cI; have hbd : Below W.heap.size W W1.drew := bL cI; have ny := ak (hbx.below (bL (Below.refl _ _))); have gl := ak (HX.out.below hbd); have j3 := ak (Kd.R_below HF.out hbd); have kZ := ak (Kd.R_below HA.out hbd); have GQ := ak (Kd.C_below HC.out hbd); have cG := ak (hbd.mono hbase); have HBD := ak hbd; have HGA := ak hga; clear hbx cI hga hbd))
  refine dR (n := 7) (S := fun w' => w'.cell? ⟨g, 67, none⟩ = some (.slice A b.attrs.length c) ∧ w'.cell? ⟨ga, 0, none⟩ = some (.string a.f0) ∧ w'.cell? ⟨ga, 1, none⟩ = some (.string a.f1)) (ds := []) #[false, false, false, false, false, false, false] (by kernel_rfl) rfl rfl ⟨gl.out.cell 67 _ (gv _ _ _ _ _ HL.out), ny.out.cell 0 _ rfl, ny.out.cell 1 _ rfl⟩ (fun hHeld => ?_); refine b5 mJ.tab1 mJ.bits1 (fun ag bM => ?_)
  refine pu 0 ag.out ?_
  refine pu 1 ag.out ?_
  refine pu 2 ag.out ?_
  refine tk 3 ag.out bM.out hHeld ?_ (hv := by intro w' bj; obtain ⟨s0, s1, s2⟩ := bj; go_simp; with_reducible rfl)
  refine tk 4 ag.out bM.out hHeld ?_ (hv := by intro w' bj; obtain ⟨s0, s1, s2⟩ := bj; go_simp; with_reducible rfl)
  refine on 5 ag.out (fun K hK => ?_)
  refine gs Try.func110 #[.slice A b.attrs.length c, .agg #[.string a.f0, .string a.f1]] (cz.calls _ A c b.attrs a.f0 a.f1 _ _ GQ.out HCC.out HFI.out) ?_
  rintro e V3 ⟨rfl, iP⟩
  refine ⟨_, rfl, ?_⟩
  have n6 := ak (gl.out.below iP); have tD := ak (ny.out.below iP); have ja := ak (cG.out.trans (iP.mono (Nat.le_trans hbase cG.out.size))); skip
  refine kn hK ⟨n6.out.cell 67 _ (gv _ _ _ _ _ HL.out), tD.out.cell 0 _ rfl, tD.out.cell 1 _ rfl⟩ (fun hHeld => ?_)
  clear hK K
  refine pu 6 ag.out ?_
  refine dn ag.out ?_
  have hbd : Below W1.drew.heap.size W1.drew V3 := iP
  go_wp2
  go_ret
  exact ⟨by simp, ⟨HL.out, _, _, n6.out, Kd.R_below j3.out hbd, Kd.R_below kZ.out hbd⟩, ja.out, Nat.le_trans HBD.out.size hbd.size, fun k hk _ => (hbd.block k (Nat.lt_of_lt_of_le hk HBD.out.size)).trans (HBD.out.block k hk)⟩
 | none =>
  have e1 : ft b.attrs a = b.attrs.length + 1 := by unfold ft; rw [hi]
  have e2 : eZ b.attrs a = b.attrs ++ [a] := by unfold eZ; rw [hi]
  rw [hi] at hfi
  rw [e1, e2]
  have HFI := ak hfi
  obtain ⟨L, hL⟩ : ∃ L, L = b.attrs ++ [a] := ⟨_, rfl⟩
  have HLL := ak hL
  rw [← hL]
  clear hfi hi e1 e2 hL
  go_enter Try.func90, Try.ntmps90
  go_wp2_with (first
   | (refine aV rfl 85 (.tmp 1) rfl _ rfl ?_; intro ga W1 hga hbx cI; have hbd : Below W.heap.size W W1.drew := bL cI; have ny := ak (hbx.below (bL (Below.refl _ _))); have gl := ak (HX.out.below hbd); have j3 := ak (Kd.R_below HF.out hbd); have kZ := ak (Kd.R_below HA.out hbd); have GQ := ak (Kd.C_below HC.out hbd); have cG := ak (hbd.mono hbase); have HBD := ak hbd; have HGA := ak hga; clear hbx cI hga hbd))
  refine dR (n := 7) (S := fun w' => w'.cell? ⟨g, 67, none⟩ = some (.slice A b.attrs.length c) ∧ w'.cell? ⟨ga, 0, none⟩ = some (.string a.f0) ∧ w'.cell? ⟨ga, 1, none⟩ = some (.string a.f1)) (ds := []) #[false, false, false, false, false, false, false] (by kernel_rfl) rfl rfl ⟨gl.out.cell 67 _ (gv _ _ _ _ _ HL.out), ny.out.cell 0 _ rfl, ny.out.cell 1 _ rfl⟩ (fun hHeld => ?_); refine b5 mJ.tab1 mJ.bits1 (fun ag bM => ?_)
  refine pu 0 ag.out ?_
  refine pu 1 ag.out ?_
  refine pu 2 ag.out ?_
  refine tk 3 ag.out bM.out hHeld ?_ (hv := by intro w' bj; obtain ⟨s0, s1, s2⟩ := bj; go_simp; with_reducible rfl)
  refine tk 4 ag.out bM.out hHeld ?_ (hv := by intro w' bj; obtain ⟨s0, s1, s2⟩ := bj; go_simp; with_reducible rfl)
  refine on 5 ag.out (fun K hK => ?_)
  refine gs Try.func110 #[.slice A b.attrs.length c, .agg #[.string a.f0, .string a.f1]] (cz.calls _ A c b.attrs a.f0 a.f1 _ _ GQ.out HCC.out HFI.out) ?_
  rintro e V3 ⟨rfl, iP⟩
  refine ⟨_, rfl, ?_⟩
  have n6 := ak (gl.out.below iP); have tD := ak (ny.out.below iP); have ja := ak (cG.out.trans (iP.mono (Nat.le_trans hbase cG.out.size))); skip
  refine kn hK ⟨n6.out.cell 67 _ (gv _ _ _ _ _ HL.out), tD.out.cell 0 _ rfl, tD.out.cell 1 _ rfl⟩ (fun hHeld => ?_)
  clear hK K
  refine pu 6 ag.out ?_
  refine dn ag.out ?_
  have hbd : Below W1.drew.heap.size W1.drew V3.drew := bL iP
  have sT := ak (gl.out.below hbd)
  have tC := ak (ny.out.below hbd)
  have HF4 := ak (Kd.R_below j3.out hbd)
  have qU := ak (Kd.R_below kZ.out hbd)
  have m0 := ak (bL ja.out)
  have Fb := ak (show Below W.heap.size W V3.drew from HBD.out.trans (hbd.mono HBD.out.size))
  have HS4 := ak (show b1 ≤ V3.drew.heap.size from Nat.le_trans HBW.out Fb.out.size)
  have Kx := n6.out.cell 67 _ (gv _ _ _ _ _ HL.out)
  go_wp2_with fail
  clear Kx
  refine dR (n := 11) (S := fun w' => w'.cell? ⟨g, 67, none⟩ = some (.slice A b.attrs.length c) ∧ w'.cell? ⟨ga, 0, none⟩ = some (.string a.f0) ∧ w'.cell? ⟨ga, 1, none⟩ = some (.string a.f1)) (ds := [10]) #[false, false, false, false, false, false, false, false, false, false, false] (by kernel_rfl) rfl rfl ⟨sT.out.cell 67 _ (gv _ _ _ _ _ HL.out), tC.out.cell 0 _ rfl, tC.out.cell 1 _ rfl⟩ (fun hHeld => ?_); refine b5 oW.tab4 oW.bits4 (fun ag bM => ?_)
  refine pu 0 ag.out ?_
  refine pu 1 ag.out ?_
  refine pu 2 ag.out ?_
  refine pu 3 ag.out ?_
  refine tk 4 ag.out bM.out hHeld ?_ (hv := by intro w' bj; obtain ⟨s0, s1, s2⟩ := bj; go_simp; with_reducible rfl)
  refine tk 5 ag.out bM.out hHeld ?_ (hv := by intro w' bj; obtain ⟨s0, s1, s2⟩ := bj; go_simp; with_reducible rfl)
  refine on 6 ag.out (fun K hK => ?_)
  have xI := ak (sT.out.alloc (.cells [Value.string a.f0, .string a.f1].toArray 85)); have rk := ak (tC.out.alloc (.cells [Value.string a.f0, .string a.f1].toArray 85))
  refine zL (v := .slice (some ⟨V3.drew.heap.size, 0, none⟩) 1 1) (w1 := V3.drew.alloc (.cells [Value.string a.f0, .string a.f1].toArray 85)) (by rfl) ?_ ?_
  ·go_simp
   try rfl
  refine kn hK ⟨xI.out.cell 67 _ (gv _ _ _ _ _ HL.out), rk.out.cell 0 _ rfl, rk.out.cell 1 _ rfl⟩ (fun hHeld => ?_)
  clear hK K
  refine on 7 ag.out (fun K hK => ?_)
  refine Kd.R_append_step lf (w0 := V3.drew) b1 (by rfl) (.tmp 23) (.tmp 25) 55 85 (.agg #[.string ⟨#[]⟩, .string ⟨#[]⟩]) 32 rfl Try.underlying55 BN rfl (by decide) (by omega) _ b.attrs a [.string a.f0, .string a.f1] (fun _ => True) (fun _ => False) rfl rfl (BK _ _ _ _) (fun _ h => h.elim) (fun _ _ => trivial) qU.out (Below.refl _ _) HS4.out (by omega) ?_
  intro v8 w8 sA pE tq KA
  rw [← HLL.out] at sA
  have GG := ak (sT.out.grown tq (sT.out.ne_row qU.out (by decide)))
  have RM := ak (Kd.R_over HF4.out qU.out (by decide) tq)
  have HA8 := ak sA
  have R4 := ak (m0.out.trans (pE.mono HBB.out))
  have RB := ak tq
  have LX := ak (tC.out.grown tq (fun e => by have := Kd.R_lt HA.out _ e.symm; have := HGA.out; omega))
  obtain ⟨A8, c8, rfl⟩ := Kd.R_slice sA
  clear sA pE KA
  refine kn hK ⟨GG.out.cell 67 _ (gv _ _ _ _ _ HL.out), LX.out.cell 0 _ rfl, LX.out.cell 1 _ rfl⟩ (fun hHeld => ?_)
  clear hK K
  refine pu 8 ag.out ?_
  refine pu 9 ag.out ?_
  refine vW (i := 10) (N := none) #[true, true, true, true, true, true, true, true, true, true, true] rfl rfl (ph ag.out (by kernel_rfl)) (by decide) (fun K hK => ?_)
  have Us := GG.out.frozen 67; have Kx := GG.out.cell 67 _ (gv _ _ _ _ _ HL.out)
  refine rm (w1 := ?_) (by rfl) rfl ?_ ?_
  rotate_left
  ·go_simp
   rfl
  refine hK.out _ _ ?_
  clear hK K
  refine dn ag.out ?_
  have Z9 : aX (w8.setCell ⟨g, 67, none⟩ (.slice A8 L.length c8)) g (bk b.addr b.aff b.slots (.slice Af b.free.length cf) (.slice A8 L.length c8)) 57 := by
   have := GG.out.set 67 (.slice A8 L.length c8)
   rwa [we _ _ _ _ _ HL.out] at this
  go_wp2
  go_ret
  refine ⟨by simp, ⟨HL.out, _, _, Z9, bO RM.out GG.out (by decide) (bP _ _ _ _), bO HA8.out GG.out (by decide) (bP _ _ _ _)⟩, Below.setCell R4.out (p := ⟨g, 67, none⟩) HG.out _, ?_, fun k hk hns => ?_⟩
  ·have h1 := Fb.out.size
   have h2 := RB.out.size
   have h3 := (bP w8 g 67 (.slice A8 L.length c8)).size
   omega
  ·have h1 := Fb.out.block k hk
   have h2 := RB.out.block k (Nat.lt_of_lt_of_le hk Fb.out.size) (fun e => hns (HROW.out k e.symm))
   have h3 := (bP w8 g 67 (.slice A8 L.length c8)).block k (Nat.lt_of_lt_of_le hk (Nat.le_trans Fb.out.size RB.out.size)) (fun e => hns (Or.inl (Option.some.inj e)))
   exact h3.trans (h2.trans h1)
end Go.Proofs.Ytemhalnhbgkbcaa.V
end

section
namespace Go.Proofs.Ytemhalnhbgkbcaa.V
theorem iF.of_below {S : Nat → Prop} {W W1 : World} (h : Below W.heap.size W W1) : iF S W W1 := ⟨h.size, fun k hk _ => h.block k hk⟩
theorem iF.trans {S : Nat → Prop} {W W1 W2 : World} (h : iF S W W1) (k : iF S W1 W2) : iF S W W2 := ⟨Nat.le_trans h.1 k.1, fun q hq hs => (k.2 q (Nat.lt_of_lt_of_le hq h.1) hs).trans (h.2 q hq hs)⟩
theorem iF.of_grown {S : Nat → Prop} {W W1 : World} {row : Option Nat} (h : W.grownBy W1 row) (hs : ∀ k, some k = row → S k) : iF S W W1 := ⟨h.size, fun k hk hn => h.block k hk (fun e => hn (hs k e))⟩
theorem aX.keeps {S : Nat → Prop} {W W1 : World} {g t : Nat} {cs : List Value} (h : aX W g cs t) (hk : iF S W W1) (hs : ¬ S g) : aX W1 g cs t := (hk.2 g h.lt hs).trans h
theorem Kd.R_keeps {α : Type} {d : Kd α} {e base : Nat} {ok S : Nat → Prop} {W W1 : World} {v : Value} {xs : List α} (h : d.R e W base ok v xs) (hk : iF S W W1) (hs : ∀ k, ok k → k < W.heap.size → base ≤ k → (∃ q, q ∈ e :: d.E ∧ ∃ cells, W.heap[k]? = some (.cells cells q (0, 0))) → ¬ S k) : d.R e W1 base ok v xs :=
 Kd.R_mono (Kd.R_move (Kd.R_bound h) (fun k ⟨h1, h2, h3, h4⟩ => hk.2 k h3 (hs k h1 h3 h2 h4))) (fun _ hk => hk.1)
theorem Kd.R_keptrow {α β : Type} {d : Kd α} {d' : Kd β} {e e' base base' : Nat} {ok ok' : Nat → Prop} {W W1 : World} {u v : Value} {xs : List α} {ys : List β} (h : d.R e W base ok u xs) (hr : d'.R e' W base' ok' v ys) (ht : ∀ q, q ∈ e :: d.E → q ≠ e') (hk : iF (fun k => some k = v.ownBlock) W W1) : d.R e W1 base ok u xs :=
 Kd.R_keeps h hk (fun k _ _ _ ⟨q, hq, cells, hc⟩ hs => by
  obtain ⟨_, _, ho, _⟩ := hr
  obtain ⟨c2, h2⟩ := oV ho k hs.symm
  rw [h2] at hc
  injection hc with hc
  injection hc with _ hc
  exact ht q hq hc.symm)
theorem Kd.R_added {α : Type} {d : Kd α} {e base b1 g : Nat} {ok : Nat → Prop} {W W1 : World} {v : Value} {xs : List α} {cs : List Value} (h : d.R e W base ok v xs) (hx : aX W g cs 57) (ht : ∀ q, q ∈ e :: d.E → q ≠ 57 ∧ q ≠ 85) (hk : iF (Ie W b1 g) W W1) : d.R e W1 base ok v xs :=
 Kd.R_keeps h hk (fun k _ _ _ ⟨q, hq, cells, hc⟩ hs => by
  rcases hs with rfl | ⟨_, c2, h2⟩
  ·unfold aX at hx
   rw [hx] at hc
   injection hc with hc
   injection hc with _ hc
   exact (ht q hq).1 hc.symm
  ·rw [h2] at hc
   injection hc with hc
   injection hc with _ hc
   exact (ht q hq).2 hc.symm)
theorem aX.added {W W1 : World} {b1 g g' t : Nat} {cs : List Value} (h : aX W g' cs t) (hne : g' ≠ g) (hlt : g' < b1) (hk : iF (Ie W b1 g) W W1) : aX W1 g' cs t :=
 h.keeps hk (fun hs => by
  rcases hs with e | ⟨e, _⟩
  ·exact hne e
  ·omega)
section
variable {W W1 : World} {b1 b2 g g' t : Nat} {b : Bk}
theorem OC.open (h : OC W b1 g b) : ∃ A c A' c', aX W g (bk b.addr b.aff b.slots (.slice A b.free.length c) (.slice A' b.attrs.length c')) 57 ∧ Kd.R (Kd.int .u8) 5 W b1 (fun _ => True) (.slice A b.free.length c) b.free ∧ Kd.R lf 85 W b1 (fun _ => True) (.slice A' b.attrs.length c') b.attrs := by
 obtain ⟨_, vf, va, hx, hf, ha⟩ := h
 obtain ⟨A, c, rfl⟩ := Kd.R_slice hf
 obtain ⟨A', c', rfl⟩ := Kd.R_slice ha
 exact ⟨A, c, A', c', hx, hf, ha⟩
theorem OC.l64 (h : OC W b1 g b) : b.slots.length = 64 := h.1
theorem OC.below (h : OC W b1 g b) (hb : Below W.heap.size W W1) : OC W1 b1 g b := by
 obtain ⟨hl, vf, va, hx, hf, ha⟩ := h
 exact ⟨hl, vf, va, hx.below hb, Kd.R_below hf hb, Kd.R_below ha hb⟩
theorem OC.drew (h : OC W b1 g b) : OC W.drew b1 g b := h.below (bL (Below.refl _ _))
theorem OC.lower (h : OC W b1 g b) (hb : b2 ≤ b1) : OC W b2 g b := by
 obtain ⟨hl, vf, va, hx, hf, ha⟩ := h
 exact ⟨hl, vf, va, hx, Kd.R_lower hf hb, Kd.R_lower ha hb⟩
theorem OC.lt (h : OC W b1 g b) : g < W.heap.size := by
 obtain ⟨A, c, A', c', hx, _, _⟩ := h.open
 exact hx.lt
theorem OC.box {cs : List Value} (h : OC W b1 g b) (hx' : aX W g' cs t) (ht : ∀ q, q ∈ [5, 85] → q ≠ t) (hne : g ≠ g') (hg : W.grownBy W1 (some g')) : OC W1 b1 g b := by
 obtain ⟨hl, vf, va, hx, hf, ha⟩ := h
 exact ⟨hl, vf, va, hx.grown hg (fun e => hne (Option.some.inj e)), bO hf hx' (fun q hq => by
  rcases List.mem_cons.1 hq with rfl | hq
  ·exact ht _ (by simp)
  ·cases hq) hg, bO ha hx' (fun q hq => by
  rcases List.mem_cons.1 hq with rfl | hq
  ·exact ht _ (by simp)
  ·cases hq) hg⟩
theorem OC.row {α : Type} {d : Kd α} {e base' : Nat} {ok : Nat → Prop} {v : Value} {xs : List α} (h : OC W b1 g b) (hr : d.R e W base' ok v xs) (he : e ≠ 57) (ht : ∀ q, q ∈ [5, 85] → q ≠ e) (hg : W.grownBy W1 v.ownBlock) : OC W1 b1 g b := by
 obtain ⟨hl, vf, va, hx, hf, ha⟩ := h
 exact ⟨hl, vf, va, hx.grown hg (hx.ne_row hr he), Kd.R_over hf hr (fun q hq => by
  rcases List.mem_cons.1 hq with rfl | hq
  ·exact ht _ (by simp)
  ·cases hq) hg, Kd.R_over ha hr (fun q hq => by
  rcases List.mem_cons.1 hq with rfl | hq
  ·exact ht _ (by simp)
  ·cases hq) hg⟩
theorem OC.slot (h : OC W b1 g b) (i : Nat) (hi : i < 64) (x : Int) : OC (W.setCell ⟨g, 2 + i, none⟩ (.int .u8 x)) b1 g ⟨b.addr, b.aff, b.slots.set i x, b.free, b.attrs⟩ := by
 obtain ⟨hl, vf, va, hx, hf, ha⟩ := h
 refine ⟨by simpa using hl, vf, va, ?_, bO hf hx (by decide) (bP _ _ _ _), bO ha hx (by decide) (bP _ _ _ _)⟩
 have := hx.set (2 + i) (.int .u8 x)
 rwa [sL _ _ _ _ _ hl i hi] at this
theorem OC.stored {vf va : Value} {td : List Value} (hl : b.slots.length = 64) (hx : aX W g td 57) (mq : aX W1 g (bk b.addr b.aff b.slots vf va) 57) (hf : Kd.R (Kd.int .u8) 5 W b1 (fun _ => True) vf b.free) (ha : Kd.R lf 85 W b1 (fun _ => True) va b.attrs) (hg : W.grownBy W1 (some g)) : OC W1 b1 g b :=
 ⟨hl, vf, va, mq, bO hf hx (by decide) hg, bO ha hx (by decide) hg⟩
theorem OC.slotCell (h : OC W b1 g b) (i : Nat) (hi : i < 64) : W.cell? ⟨g, 2 + i, none⟩ = some (.int .u8 (b.slots.getD i 0)) := by
 obtain ⟨A, c, A', c', hx, _, _⟩ := h.open
 exact hx.cell _ _ (EX _ _ _ _ _ h.l64 i hi)
theorem OC.frozen (h : OC W b1 g b) (j : Nat) : W.frozen? ⟨g, j, none⟩ = false := by
 obtain ⟨A, c, A', c', hx, _, _⟩ := h.open
 exact hx.frozen _
theorem OC.addrCell (h : OC W b1 g b) : W.cell? ⟨g, 0, none⟩ = some (.int .u32 b.addr) := by
 obtain ⟨A, c, A', c', hx, _, _⟩ := h.open
 exact hx.cell 0 _ rfl
end
end Go.Proofs.Ytemhalnhbgkbcaa.V
end

section
namespace Go.Proofs.Ytemhalnhbgkbcaa.V
def rW (l is : List Int) (x : Int) : List Int := is.foldl (fun l i => l.set i.toNat x) l
theorem yu (l is : List Int) (i x : Int) : rW l (is ++ [i]) x = (rW l is x).set i.toNat x := by simp [rW]
theorem CM (l is : List Int) (x : Int) : (rW l is x).length = l.length := by
 induction is generalizing l with
 | nil => rfl
 | cons i is ih =>
  show (rW (l.set i.toNat x) is x).length = _
  rw [ih, List.length_set]
theorem vQ (l : List Int) (k : Nat) (h : k < l.length) : l.take (k + 1) = l.take k ++ [rd l k] := by
 rw [List.take_add_one, List.getElem?_eq_getElem h]
 simp [rd, List.getD, h]
def eM (b : Bk) (n : Nat) (a : At) : Bk := ⟨b.addr, b.aff, rW b.slots (b.free.take n) (ft b.attrs a : Nat), b.free, if n = 0 then b.attrs else eZ b.attrs a⟩
def fF (b : Bk) (n : Nat) (a : At) : Bk := ⟨b.addr, b.aff, rW b.slots (b.free.take n) (ft b.attrs a : Nat), b.free.drop n, if n = 0 then b.attrs else eZ b.attrs a⟩
def fU (b : Bk) (n : Nat) : List Int := (b.free.take n).map (fun i => b.addr + i)
theorem F3 (l : List At) (a : At) : g5 (eZ l a) a = some (ft l a - 1) := by
 unfold eZ ft
 cases h : g5 l a with
 | some i =>
  show g5 l a = some (i + 1 - 1)
  rw [h]
  rfl
 | none =>
  show g5 (l ++ [a]) a = some (l.length + 1 - 1)
  unfold g5 at h ⊢
  rw [List.findIdx?_append, h]
  simp [qo]
theorem F0 (l : List At) (a : At) : 1 ≤ ft l a := by
 unfold ft
 cases g5 l a <;> simp
theorem num_add (l : List At) (a : At) : ft (eZ l a) a = ft l a := by
 have h := F3 l a
 have hp := F0 l a
 unfold ft at h hp ⊢
 rw [h]
 show _ - 1 + 1 = _
 omega
theorem add_add (l : List At) (a : At) : eZ (eZ l a) a = eZ l a := by
 have h := F3 l a
 generalize eZ l a = m at h ⊢
 unfold eZ
 rw [h]
theorem rC (l : List At) (a : At) : (eZ l a).length ≤ l.length + 1 := by
 unfold eZ
 cases h : g5 l a with
 | some i => show l.length ≤ _; omega
 | none => simp
def gE (b : Bk) (i : Nat) (a : At) : Bk := ⟨b.addr, b.aff, b.slots.set i (ft b.attrs a : Nat), b.free.filter (fun x => x != (i : Int)), eZ b.attrs a⟩
theorem qx (b : Bk) (n : Nat) (a : At) (h : n < b.free.length) : eM b (n + 1) a = ⟨b.addr, b.aff, (eM b n a).slots.set (rd b.free n).toNat (ft (eM b n a).attrs a : Nat), b.free, eZ (eM b n a).attrs a⟩ := by
 unfold eM
 by_cases h0 : n = 0
 ·subst h0
  simp only [vQ b.free 0 h, yu, if_true, List.take_zero]
  rfl
 ·simp only [vQ b.free n h, yu, if_neg h0, if_neg (show ¬ n + 1 = 0 by omega), num_add, add_add]
theorem qw (b : Bk) (n : Nat) (h : n < b.free.length) : fU b (n + 1) = fU b n ++ [b.addr + rd b.free n] := by
 unfold fU
 rw [vQ b.free n h]
 simp
theorem jr (b : Bk) (n : Nat) (h : n ≤ b.free.length) : (fU b n).length = n := by
 unfold fU
 rw [List.length_map, List.length_take]
 omega
def ku (b : Bk) (x : Int) : Bool := decide (cC x = b.addr) && (b.slots.getD (x - b.addr).toNat 0 != 0)
def relF (s : Bk × List Int) (x : Int) : Bk × List Int := if ku s.1 x = true then (⟨s.1.addr, s.1.aff, s.1.slots.set (x - s.1.addr).toNat 0, s.1.free ++ [x - s.1.addr], s.1.attrs⟩, s.2 ++ [x]) else s
def relL (b : Bk) (l : List Int) : Bk × List Int := l.foldl relF (b, [])
theorem Ci (b : Bk) (l : List Int) (x : Int) : relL b (l ++ [x]) = relF (relL b l) x := by simp [relL]
theorem G5 (s : Bk × List Int) (x : Int) : (relF s x).1.attrs = s.1.attrs ∧ (relF s x).1.addr = s.1.addr ∧ (relF s x).1.aff = s.1.aff ∧ (relF s x).1.slots.length = s.1.slots.length := by
 unfold relF
 split <;> simp
theorem zv (b : Bk) (l : List Int) : (relL b l).1.attrs = b.attrs ∧ (relL b l).1.addr = b.addr ∧ (relL b l).1.aff = b.aff ∧ (relL b l).1.slots.length = b.slots.length := by
 unfold relL
 suffices h : ∀ (s : Bk × List Int), (l.foldl relF s).1.attrs = s.1.attrs ∧ (l.foldl relF s).1.addr = s.1.addr ∧ (l.foldl relF s).1.aff = s.1.aff ∧ (l.foldl relF s).1.slots.length = s.1.slots.length from h (b, [])
 induction l with
 | nil => intro s; exact ⟨rfl, rfl, rfl, rfl⟩
 | cons x l ih =>
  intro s
  have h1 := ih (relF s x)
  have h2 := G5 s x
  exact ⟨h1.1.trans h2.1, h1.2.1.trans h2.2.1, h1.2.2.1.trans h2.2.2.1, h1.2.2.2.trans h2.2.2.2⟩
def eL (l : List Int) (k : Nat) : Bool := l.any (fun s => s == ((k + 1 : Nat) : Int))
def fZ (l : List Int) (k : Nat) : Nat := ((List.range k).filter (eL l)).length
def jM (b : Bk) (k : Nat) : List At := ((List.range k).filter (eL b.slots)).map (iR b.attrs)
def lP (b : Bk) : Bk := ⟨b.addr, b.aff, b.slots.map (fun s => ((fZ b.slots s.toNat : Nat) : Int)), b.free, jM b b.attrs.length⟩
def mV (b : Bk) (l : List Int) : Bk := lP (relL b l).1
theorem nf (b : Bk) (k : Nat) : (jM b k).length = fZ b.slots k := by simp [jM, fZ]
theorem yQ (l : List Int) (k : Nat) : fZ l k ≤ k := by
 unfold fZ
 exact Nat.le_trans (List.length_filter_le _ _) (by simp)
theorem kF (l : List Int) (k : Nat) : fZ l (k + 1) = fZ l k + if eL l k = true then 1 else 0 := by
 unfold fZ
 rw [List.range_succ, List.filter_append, List.length_append]
 cases h : eL l k <;> simp [h]
theorem rq (b : Bk) (k : Nat) : jM b (k + 1) = jM b k ++ if eL b.slots k = true then [iR b.attrs k] else [] := by
 unfold jM
 rw [List.range_succ, List.filter_append, List.map_append]
 cases h : eL b.slots k <;> simp [h]
def mu (b : Bk) (i : Nat) : At := iR b.attrs (b.slots.getD i 0 - 1).toNat
def fb (b : Bk) (p : At → Bool) (n : Nat) : List Int := (((List.range n).filter (fun i => b.slots.getD i 0 != 0 && p (mu b i))).map (fun i : Nat => b.addr + (i : Int)))
theorem ux (b : Bk) (p : At → Bool) (n : Nat) : fb b p (n + 1) = fb b p n ++ if (b.slots.getD n 0 != 0 && p (mu b n)) = true then [b.addr + (n : Int)] else [] := by
 unfold fb
 rw [List.range_succ, List.filter_append, List.map_append]
 cases h : (b.slots.getD n 0 != 0 && p (mu b n)) <;> simp only [List.filter_cons, h, List.filter_nil] <;> simp
theorem km (b : Bk) (p : At → Bool) (n : Nat) : (fb b p n).length ≤ n := by
 unfold fb
 rw [List.length_map]
 exact Nat.le_trans (List.length_filter_le _ _) (by simp)
end Go.Proofs.Ytemhalnhbgkbcaa.V
end

section
namespace Go.Proofs.Ytemhalnhbgkbcaa.V
abbrev Q9 (g : Nat) : Value := .func (.func 94) #[] #[.pointer (some ⟨g, 0, none⟩)]
set_option maxHeartbeats 8000000 in
set_option maxRecDepth 100000 in
theorem C6 (x i : Int) (hx : 0 ≤ x) (Li : x < 256) (g : Nat) (w : World) (h : aX w g [.int .i64 i] 3) :
  Calls Try.prog 94 #[.int .u8 x, .pointer (some ⟨g, 0, none⟩)] w fun e w' => e = .returned (.bool (x == i)) ∧ Below w.heap.size w w' := by
 have hc := h.cell 0 _ rfl
 clear h
 go_enter Try.func94, Try.ntmps94
 go_wp2
 go_ret
 exact ⟨rfl, Below.refl _ _⟩
def uD (xs : List Int) (i : Int) : Option Nat := xs.findIdx? (fun x => x == i)
theorem I4 {xs : List Int} {i : Int} (h : uD xs i = none) : ∀ x ∈ xs, (x == i) = false := by
 unfold uD at h
 rw [List.findIdx?_eq_none_iff] at h
 intro x hx
 simpa using h x hx
theorem I3 {xs : List Int} {i : Int} {k : Nat} (h : uD xs i = some k) : ∃ hk : k < xs.length, (xs[k] == i) = true ∧ ∀ j (hj : j < k), (xs[j] == i) = false := by
 unfold uD at h
 rw [List.findIdx?_eq_some_iff_getElem] at h
 obtain ⟨h1, h2, h3⟩ := h
 exact ⟨h1, h2, fun j hj => by simpa using h3 j hj⟩
theorem N6 (xs : List Int) (i : Int) (k : Nat) (hk : k < xs.length) (h : (xs[k] == i) = true) (hn : ∀ j (hj : j < k), (xs[j] == i) = false) : uD xs i = some k := by
 unfold uD
 rw [List.findIdx?_eq_some_iff_getElem]
 exact ⟨hk, h, fun j hj => by simpa using hn j hj⟩
theorem Km (xs : List Int) (i : Int) (hn : ∀ j (hj : j < xs.length), (xs[j] == i) = false) : uD xs i = none := by
 unfold uD
 rw [List.findIdx?_eq_none_iff]
 intro x hx
 obtain ⟨j, hj, rfl⟩ := List.mem_iff_getElem.1 hx
 simpa using hn j hj
def uC (o : Option Nat) : Int := match o with | some k => (k : Int) | none => -1
set_option maxHeartbeats 8000000 in
set_option maxRecDepth 100000 in
theorem CT (xs : List Int) (hu : pI xs) (hl : xs.length ≤ 1000) (A : Option Addr) (c : Nat) (i : Int) (g : Nat) (w : World) (hC : Kd.C (Kd.int .u8) w A xs.length xs) (hX : aX w g [.int .i64 i] 3) :
  Calls Try.prog 111 #[.slice A xs.length c, Q9 g] w fun e w' => e = .returned (.int .i64 (uC (uD xs i))) ∧ Below w.heap.size w w' := by
 have HC := ak hC
 have HX := ak hX
 have HU := ak hu
 clear hC hX hu
 go_enter Try.func111, Try.ntmps111
 go_wp2
 go_loopw [5, 8] (fun _ i' W => ∃ k : Nat, k ≤ xs.length ∧ i' = .int .i64 k ∧ Aside0 (∀ j (hj : j < xs.length), j < k → (xs[j] == i) = false) ∧ Aside0 (Below w.heap.size w W)) (fun _ i' _ => xs.length - (intOf i').toNat)
 case atStart => exact ⟨0, by omega, rfl, ⟨fun j _ hj => absurd hj (Nat.not_lt_zero _)⟩, ⟨Below.refl _ _⟩⟩
 case round =>
  obtain ⟨k, hk, rfl, HN, HB⟩ := hrel
  obtain ⟨W, rfl⟩ : ∃ W : World, W = wr := ⟨_, rfl⟩
  by_cases hkn : k < xs.length
  ·have hkb : decide ((k : Int) < (xs.length : Int)) = true := by simp; omega
   obtain ⟨ad, eA, hx⟩ := Kd.at_int (Kd.C_below HC.out HB.out) k (by omega) (by omega)
   cases eA
   rw [Int.toNat_natCast] at hx
   have p1 : ((k : Int) < (xs.length : Int)) = True := eq_true (by omega)
   have hrd : rd xs k = xs[k] := by simp [rd, List.getD, hkn]
   have h0 := (lG HU.out k).1
   have h1 := (lG HU.out k).2
   obtain ⟨x, hxx⟩ : ∃ x, x = rd xs k := ⟨_, rfl⟩
   rw [← hxx] at hx h0 h1 hrd
   have HXK := ak hrd
   clear hrd hxx
   cases hq : (x == i) with
   | true =>
    have HQ := ak hq
    clear hq
    go_wp2_with (go_at_call 94; refine (C6 x i h0 h1 g _ (HX.out.below HB.out)).mono ?_; rintro e W1 ⟨rfl, cI⟩; rw [HQ.out]; have cG := ak (HB.out.trans (cI.mono HB.out.size)); clear cI)
    go_ret
    exact ⟨by rw [N6 xs i k hkn (by rw [← HXK.out]; exact HQ.out) (fun j hj => HN.out j (by omega) hj)]; rfl, cG.out⟩
   | false =>
    have HQ := ak hq
    clear hq
    go_wp2_with (go_at_call 94; refine (C6 x i h0 h1 g _ (HX.out.below HB.out)).mono ?_; rintro e W1 ⟨rfl, cI⟩; rw [HQ.out]; have cG := ak (HB.out.trans (cI.mono HB.out.size)); clear cI)
    go_roundw
    case rel => exact ⟨k + 1, by omega, by go_num, ⟨fun j hj hjk => by
     rcases Nat.lt_or_ge j k with h | h
     ·exact HN.out j hj h
     ·obtain rfl : j = k := by omega
      rw [← HXK.out]
      exact HQ.out⟩, cG⟩
    case measure => simp [intOf]; omega
  ·obtain rfl : k = xs.length := by omega
   have hkb : decide ((xs.length : Int) < (xs.length : Int)) = false := by simp
   go_wp2
   go_ret
   exact ⟨by rw [Km xs i (fun j hj => HN.out j hj hj)]; rfl, HB.out⟩
end Go.Proofs.Ytemhalnhbgkbcaa.V
end

section
namespace Go.Proofs.Ytemhalnhbgkbcaa.V
attribute [local go_sem] dA dy ed ec cP cN dz dx
def kD.f (a6 : Int) (a8 : ByteArray) (aW : List Int) (bb : List Int) (aE : List (S76)) : Option (Int × ByteArray × List Int × List Int × (List (S76))) := (some (([] : List Int) : List Int)).bind fun m3 => (if m3.length + aW.length < 17592186044416 then ((some (([] : List Int) : List Int)).bind fun jV => (if jV.length + bb.length < 17592186044416 then ((some (([] : List (S76)) : List (S76))).bind fun g9 => (if g9.length + aE.length < 4398046511104 then (some (a6, a8, (m3 ++ aW), (jV ++ bb), (g9 ++ aE))) else (none))) else (none))) else (none))
set_option maxHeartbeats 8000000 in
set_option maxRecDepth 100000 in
theorem kD.calls (a6 : Int) (a8 : ByteArray) (dV : Option Addr) (dB : Nat) (aW : List Int) (cV : Option Addr) (cT : Nat) (bb : List Int) (dU : Option Addr) (cJ : Nat) (aE : List (S76)) (r1 : Int) (r2 : ByteArray) (r3 : List Int) (r4 : List Int) (r5 : List (S76)) (w : World) (pv : Kd.C (Kd.int .i64) w dV aW.length aW) (pD : aW.length ≤ dB) (pr : Kd.C (Kd.int .i64) w cV bb.length bb) (pC : bb.length ≤ cT) (pq : Kd.C ia w dU aE.length aE) (pB : aE.length ≤ cJ) (h : kD.f a6 a8 aW bb aE = some (r1, r2, r3, r4, r5)) :
  Calls Try.prog 85 #[.agg #[.int .u32 a6, .string a8, .slice dV aW.length dB, .slice cV bb.length cT, .slice dU aE.length cJ]] w fun e w' => ∃ Dn Dm Is : Value, e = .returned (.agg #[.int .u32 r1, .string r2, Dn, Dm, Is]) ∧ Kd.R (Kd.int .i64) 3 w' w.heap.size (fun k_ => some k_ ≠ (Dm : Value).ownBlock) Dn r3 ∧ Kd.R (Kd.int .i64) 3 w' w.heap.size (fun k_ => some k_ ≠ (Dn : Value).ownBlock) Dm r4 ∧ Kd.R ia 76 w' w.heap.size (fun _ => True) Is r5 ∧ Below w.heap.size w w' := by
 have Hf := Try.underlying62
 have oG := ak pv
 have wz := ak pD
 clear pv pD
 have mY := ak pr
 have qC := ak pC
 clear pr pC
 have qA := ak pq
 have wy := ak pB
 clear pq pB
 have HB := ak (Below.refl w.heap.size w)
 have H : ((some (([] : List Int) : List Int)).bind fun m3 => (if m3.length + aW.length < 17592186044416 then ((some (([] : List Int) : List Int)).bind fun jV => (if jV.length + bb.length < 17592186044416 then ((some (([] : List (S76)) : List (S76))).bind fun g9 => (if g9.length + aE.length < 4398046511104 then (some (a6, a8, (m3 ++ aW), (jV ++ bb), (g9 ++ aE))) else (none))) else (none))) else (none))) = some (r1, r2, r3, r4, r5) := h
 clear h
 obtain ⟨m3, vx⟩ : ∃ y_ : List Int, y_ = (([] : List Int)) := ⟨_, rfl⟩
 replace H : (if m3.length + aW.length < 17592186044416 then ((some (([] : List Int) : List Int)).bind fun jV => (if jV.length + bb.length < 17592186044416 then ((some (([] : List (S76)) : List (S76))).bind fun g9 => (if g9.length + aE.length < 4398046511104 then (some (a6, a8, (m3 ++ aW), (jV ++ bb), (g9 ++ aE))) else (none))) else (none))) else (none)) = some (r1, r2, r3, r4, r5) := by first | (rw [vx]; with_reducible exact H) | (have fx := (Option.bind_some _ _).symm.trans H; rw [vx]; with_reducible exact fx) | (have fx := (Option.bind_some _ _).symm.trans H; with_reducible exact fx) | with_reducible exact H | (rw [vx]; exact H) | exact H
 have GB := ak vx
 clear vx
 by_cases c2 : m3.length + aW.length < 17592186044416
 ·rw [if_pos c2] at H
  have KV := ak c2
  clear c2
  obtain ⟨hH, vv⟩ : ∃ y_ : List Int, y_ = (m3 ++ aW) := ⟨_, rfl⟩
  replace H : ((some (([] : List Int) : List Int)).bind fun jV => (if jV.length + bb.length < 17592186044416 then ((some (([] : List (S76)) : List (S76))).bind fun g9 => (if g9.length + aE.length < 4398046511104 then (some (a6, a8, hH, (jV ++ bb), (g9 ++ aE))) else (none))) else (none))) = some (r1, r2, r3, r4, r5) := by first | (rw [vv]; with_reducible exact H) | (have fx := (Option.bind_some _ _).symm.trans H; rw [vv]; with_reducible exact fx) | (have fx := (Option.bind_some _ _).symm.trans H; with_reducible exact fx) | with_reducible exact H | (rw [vv]; exact H) | exact H
  have PC := ak vv
  clear vv
  obtain ⟨jV, vu⟩ : ∃ y_ : List Int, y_ = (([] : List Int)) := ⟨_, rfl⟩
  replace H : (if jV.length + bb.length < 17592186044416 then ((some (([] : List (S76)) : List (S76))).bind fun g9 => (if g9.length + aE.length < 4398046511104 then (some (a6, a8, hH, (jV ++ bb), (g9 ++ aE))) else (none))) else (none)) = some (r1, r2, r3, r4, r5) := by first | (rw [vu]; with_reducible exact H) | (have fx := (Option.bind_some _ _).symm.trans H; rw [vu]; with_reducible exact fx) | (have fx := (Option.bind_some _ _).symm.trans H; with_reducible exact fx) | with_reducible exact H | (rw [vu]; exact H) | exact H
  have GA := ak vu
  clear vu
  by_cases c3 : jV.length + bb.length < 17592186044416
  ·rw [if_pos c3] at H
   have UJ := ak c3
   clear c3
   obtain ⟨ly, vt⟩ : ∃ y_ : List Int, y_ = (jV ++ bb) := ⟨_, rfl⟩
   replace H : ((some (([] : List (S76)) : List (S76))).bind fun g9 => (if g9.length + aE.length < 4398046511104 then (some (a6, a8, hH, ly, (g9 ++ aE))) else (none))) = some (r1, r2, r3, r4, r5) := by first | (rw [vt]; with_reducible exact H) | (have fx := (Option.bind_some _ _).symm.trans H; rw [vt]; with_reducible exact fx) | (have fx := (Option.bind_some _ _).symm.trans H; with_reducible exact fx) | with_reducible exact H | (rw [vt]; exact H) | exact H
   have PB := ak vt
   clear vt
   obtain ⟨g9, vr⟩ : ∃ y_ : List (S76), y_ = (([] : List (S76))) := ⟨_, rfl⟩
   replace H : (if g9.length + aE.length < 4398046511104 then (some (a6, a8, hH, ly, (g9 ++ aE))) else (none)) = some (r1, r2, r3, r4, r5) := by first | (rw [vr]; with_reducible exact H) | (have fx := (Option.bind_some _ _).symm.trans H; rw [vr]; with_reducible exact fx) | (have fx := (Option.bind_some _ _).symm.trans H; with_reducible exact fx) | with_reducible exact H | (rw [vr]; exact H) | exact H
   have Gz := ak vr
   clear vr
   by_cases c4 : g9.length + aE.length < 4398046511104
   ·rw [if_pos c4] at H
    have KU := ak c4
    clear c4
    obtain ⟨qE, vn⟩ : ∃ y_ : List (S76), y_ = (g9 ++ aE) := ⟨_, rfl⟩
    replace H : (some (a6, a8, hH, ly, qE)) = some (r1, r2, r3, r4, r5) := by first | (rw [vn]; with_reducible exact H) | (have fx := (Option.bind_some _ _).symm.trans H; rw [vn]; with_reducible exact fx) | (have fx := (Option.bind_some _ _).symm.trans H; with_reducible exact fx) | with_reducible exact H | (rw [vn]; exact H) | exact H
    have PA := ak vn
    clear vn
    simp only [Option.some.injEq, Prod.mk.injEq] at H
    obtain ⟨rfl, rfl, rfl, rfl, rfl⟩ := H
    go_enter Try.func85, Try.ntmps85
    go_wp2_with (first | ((with_reducible refine aJ (N := 1) rfl ?_); refine eY ?hg (N := 1) ?hd (cs := #[.int .u32 a6, .string a8, .slice dV aW.length dB, .slice cV bb.length cT, .slice dU aE.length cJ]) (t := 62) ?hr ?_; (case hd => rfl); (case hg => rfl); (case hr => first | (go_simp; done) | (go_simp; rfl)); intro cR hg w5 hbox hb; have bR := ak (bA (by repeat (first | (with_reducible first | exact HB.out | apply af | apply ab | apply ai) | exact HB.out)) hb); have bX := ak (hbox); have dh := ak ((by rw [hg]; exact (bo (by repeat (first | (with_reducible first | exact HB.out | apply af | apply ab | apply ai) | exact HB.out))) : w.heap.size ≤ cR)); have dX := ak ((by rw [hg]; exact (bo (by repeat (first | (with_reducible first | exact HB.out | apply af | apply ab | apply ai) | exact HB.out))) : w.heap.size ≤ cR)); clear HB; have HB := bR; have bp := bX; have Ys := dh; have jo := dX; clear bR bX dh dX; clear hb hbox hg) | ((with_reducible refine aJ (N := 2) rfl ?_); refine eY ?hg (N := 2) ?hd (cs := #[.int .u32 0, .string (⟨#[]⟩ : ByteArray), .slice none 0 0, .slice none 0 0, .slice none 0 0]) (t := 62) ?hr ?_; (case hd => rfl); (case hg => rfl); (case hr => first | (go_simp; done) | (go_simp; rfl)); intro e6 hg w6 hbox hb; have bR := ak (eh (g := cR) (o := .cells #[.int .u32 a6, .string a8, .slice dV aW.length dB, .slice cV bb.length cT, .slice dU aE.length cJ] 62 (0, 0)) (by (with_reducible repeat (first | refine ax ?_ _ | refine aG ?_ | refine ay ?_ _)); exact bp.out) hb); have bX := ak (bA (by repeat (first | (with_reducible first | exact HB.out | apply af | apply ab | apply ai | refine aD ?_ jo.out) | exact HB.out)) hb); have dh := ak (hbox); have dX := ak ((by rw [hg]; exact (bo (by repeat (first | (with_reducible first | exact HB.out | apply af | apply ab | apply ai | refine aD ?_ jo.out) | exact HB.out))) : w.heap.size ≤ e6)); have iE := ak ((by rw [hg]; exact (bo (by repeat (first | (with_reducible first | exact HB.out | apply af | apply ab | apply ai | refine aD ?_ jo.out) | exact HB.out))) : w.heap.size ≤ e6)); have kL := ak ((by rw [hg]; exact Nat.ne_of_lt (gu (g := cR) (o := .cells #[.int .u32 a6, .string a8, .slice dV aW.length dB, .slice cV bb.length cT, .slice dU aE.length cJ] 62 (0, 0)) (by (with_reducible repeat (first | refine ax ?_ _ | refine aG ?_ | refine ay ?_ _)); exact bp.out)) : cR ≠ e6)); have l5 := ak ((by rw [hg]; exact Nat.ne_of_gt (gu (g := cR) (o := .cells #[.int .u32 a6, .string a8, .slice dV aW.length dB, .slice cV bb.length cT, .slice dU aE.length cJ] 62 (0, 0)) (by (with_reducible repeat (first | refine ax ?_ _ | refine aG ?_ | refine ay ?_ _)); exact bp.out)) : e6 ≠ cR)); clear bp; clear HB; have bp := bR; have HB := bX; have eK := dh; have Yr := dX; have kQ := iE; have CV := kL; have oD := l5; clear bR bX dh dX iE kL l5; clear hb hbox hg) | ((with_reducible refine aJ (N := 3) rfl ?_); refine Kd.R_lit (Kd.int .i64) _ 3 ?hg (N := 3) ?hd (xs := ([] : List Int)) (inner := []) (ok := fun _ => True) (okp := fun _ => True) ?hr ?hp (fun _ hk => hk) trivial (Below.refl _ _) (Nat.le_refl _) (by simp) ?_; (case hd => rfl); (case hg => rfl); (case hr => first | (go_simp; done) | (go_simp; rfl)); (case hp => exact (dF.none _ _)); intro P6 w7 sA hb J ry; clear J ry; (first | rw [← GB.out] at sA | (simp only [Int.reduceToNat] at sA; rw [← GB.out] at sA)); have bR := ak (Kd.R_lower sA (bo (by repeat (first | (with_reducible first | exact HB.out | apply af | apply ab | apply ai | refine aD ?_ jo.out | refine aD ?_ kQ.out) | exact HB.out)))); have bX := ak (eh (g := cR) (o := .cells #[.int .u32 a6, .string a8, .slice dV aW.length dB, .slice cV bb.length cT, .slice dU aE.length cJ] 62 (0, 0)) (by (with_reducible repeat (first | refine ax ?_ _ | refine aG ?_ | refine ay ?_ _)); exact bp.out) hb); have dh := ak (eh (g := e6) (o := .cells #[.int .u32 0, .string (⟨#[]⟩ : ByteArray), .slice none 0 0, .slice none 0 0, .slice none 0 0] 62 (0, 0)) (by (with_reducible repeat (first | refine ax ?_ _ | refine aG ?_ | refine ay ?_ _)); exact eK.out) hb); have dX := ak (bA (by repeat (first | (with_reducible first | exact HB.out | apply af | apply ab | apply ai | refine aD ?_ jo.out | refine aD ?_ kQ.out) | exact HB.out)) hb); clear bp; clear eK; clear HB; have yl := bR; have bp := bX; have eK := dh; have HB := dX; clear bR bX dh dX; clear hb sA; have ag4 := CV.out; have ag1 := oD.out; have Pe : w7.cell? ⟨cR, 0, none⟩ = some (.int .u32 a6) := (al bp.out 0).trans rfl; have Pd : w7.cell? ⟨cR, 1, none⟩ = some (.string a8) := (al bp.out 1).trans rfl; have Pc : w7.cell? ⟨cR, 2, none⟩ = some (.slice dV aW.length dB) := (al bp.out 2).trans rfl; have Pb : w7.cell? ⟨cR, 3, none⟩ = some (.slice cV bb.length cT) := (al bp.out 3).trans rfl; have Pa : w7.cell? ⟨cR, 4, none⟩ = some (.slice dU aE.length cJ) := (al bp.out 4).trans rfl; have OH := aj bp.out 0; have OG := aj bp.out 1; have OF := aj bp.out 2; have OE := aj bp.out 3; have OD := aj bp.out 4) | ((with_reducible refine cy (b := .append) (xs := #[.tmp 3, .tmp 5]) rfl ?_); at_builtin; refine Kd.R_append_rows (Kd.int .i64) (w0 := w) w.heap.size rfl (.tmp 3) (.tmp 5) 31 3 (.int .i64 0) 8 rfl Try.underlying31 ye rfl (by decide) (by omega) P6 m3 aW _ _ _ (fun _ => True) (fun _ => False) rfl rfl ?aO ?aR (fun _ _ h => h) (fun _ h => h.elim) ?aF ?aB ?aS ?aL ?_; (case aR => repeat (first | exact (Kd.C_below oG.out HB.out) | (with_reducible refine Kd.C_alloc ?_ _) | (with_reducible refine Kd.C_drewN ?_ _) | (with_reducible refine Kd.C_drew ?_))); (case aB => exact (by repeat (first | (with_reducible first | exact HB.out | apply af | apply ab | apply ai | refine aD ?_ jo.out | refine aD ?_ kQ.out) | exact HB.out))); (case aF => exact (fun _ _ => trivial)); (case aO => exact (by (with_reducible repeat (first | apply Kd.R_alloc | apply Kd.R_drewN | apply Kd.R_drew)); exact yl.out)); (case aS => exact (bo (by repeat (first | (with_reducible first | exact HB.out | apply af | apply ab | apply ai | refine aD ?_ jo.out | refine aD ?_ kQ.out) | exact HB.out)))); (case aL => have := KV.out; omega); intro YH Ir ho hb hg hat; rw [← PC.out] at ho; have bR := ak (kP (g := cR) (o := .cells #[.int .u32 a6, .string a8, .slice dV aW.length dB, .slice cV bb.length cT, .slice dU aE.length cJ] 62 (0, 0)) (by (with_reducible repeat (first | refine ax ?_ _ | refine aG ?_ | refine ay ?_ _)); exact bp.out) hg (Kd.R_ne yl.out bp.out (by decide))); have bX := ak (kP (g := e6) (o := .cells #[.int .u32 0, .string (⟨#[]⟩ : ByteArray), .slice none 0 0, .slice none 0 0, .slice none 0 0] 62 (0, 0)) (by (with_reducible repeat (first | refine ax ?_ _ | refine aG ?_ | refine ay ?_ _)); exact eK.out) hg (Kd.R_ne yl.out eK.out (by decide))); have dh := ak (hb); have dX := ak (ho); clear bp; clear eK; clear HB; clear yl; have bp := bR; have eK := bX; have HB := dh; have jn := dX; clear bR bX dh dX; clear ho hb hg hat; obtain ⟨mT, mQ, UC⟩ := Kd.R_slice jn.out; subst UC; have O6 : Ir.cell? ⟨cR, 0, none⟩ = some (.int .u32 a6) := (al bp.out 0).trans rfl; have O5 : Ir.cell? ⟨cR, 1, none⟩ = some (.string a8) := (al bp.out 1).trans rfl; have O4 : Ir.cell? ⟨cR, 2, none⟩ = some (.slice dV aW.length dB) := (al bp.out 2).trans rfl; have O3 : Ir.cell? ⟨cR, 3, none⟩ = some (.slice cV bb.length cT) := (al bp.out 3).trans rfl; have O2 : Ir.cell? ⟨cR, 4, none⟩ = some (.slice dU aE.length cJ) := (al bp.out 4).trans rfl; have Oy := aj bp.out 0; have Ox := aj bp.out 1; have Ow := aj bp.out 2; have Ov := aj bp.out 3; have Ou := aj bp.out 4) | ((with_reducible refine aJ (N := 8) rfl ?_); refine Kd.R_lit (Kd.int .i64) _ 3 ?hg (N := 8) ?hd (xs := ([] : List Int)) (inner := []) (ok := fun _ => True) (okp := fun _ => True) ?hr ?hp (fun _ hk => hk) trivial (Below.refl _ _) (Nat.le_refl _) (by simp) ?_; (case hd => rfl); (case hg => rfl); (case hr => first | (go_simp; done) | (go_simp; rfl)); (case hp => exact (dF.none _ _)); intro P5 FV BO hb J ry; clear J ry; (first | rw [← GA.out] at BO | (simp only [Int.reduceToNat] at BO; rw [← GA.out] at BO)); have bR := ak (Kd.R_elder' (by (with_reducible repeat (first | apply Kd.R_alloc | apply Kd.R_drewN | apply Kd.R_drew)); exact (Kd.R_mono (Kd.R_far (p := ⟨cR, 2, none⟩) (Kd.R_types jn.out bp.out (by decide)) (fun _ hk => hk.2) (.slice mT hH.length mQ)) (fun _ h_ => h_.1))) (Kd.R_base BO) hb); have bX := ak (Kd.R_lower (Kd.R_new' BO (Kd.R_lt (by (with_reducible repeat (first | apply Kd.R_alloc | apply Kd.R_drewN | apply Kd.R_drew)); exact (Kd.R_mono (Kd.R_far (p := ⟨cR, 2, none⟩) (Kd.R_types jn.out bp.out (by decide)) (fun _ hk => hk.2) (.slice mT hH.length mQ)) (fun _ h_ => h_.1))))) (bo (by repeat (first | (with_reducible first | exact HB.out | apply af | apply ab | apply ai | refine aD ?_ jo.out | refine aD ?_ kQ.out) | exact HB.out)))); have dh := ak (eh (g := cR) (o := .cells #[.int .u32 a6, .string a8, .slice mT hH.length mQ, .slice cV bb.length cT, .slice dU aE.length cJ] 62 (0, 0)) (by (with_reducible repeat (first | refine ax ?_ _ | refine aG ?_ | refine ay ?_ _)); refine e7 (cs := #[.int .u32 a6, .string a8, .slice dV aW.length dB, .slice cV bb.length cT, .slice dU aE.length cJ]) ?_ 2 _ rfl; (with_reducible repeat (first | refine ax ?_ _ | refine aG ?_ | refine ay ?_ _)); exact bp.out) hb); have dX := ak (eh (g := e6) (o := .cells #[.int .u32 0, .string (⟨#[]⟩ : ByteArray), .slice none 0 0, .slice none 0 0, .slice none 0 0] 62 (0, 0)) (by (with_reducible repeat (first | refine ax ?_ _ | refine aG ?_ | refine ay ?_ _)); refine iG ?_ oD.out _; (with_reducible repeat (first | refine ax ?_ _ | refine aG ?_ | refine ay ?_ _)); exact eK.out) hb); have iE := ak (bA (by repeat (first | (with_reducible first | exact HB.out | apply af | apply ab | apply ai | refine aD ?_ jo.out | refine aD ?_ kQ.out) | exact HB.out)) hb); clear jn; clear bp; clear eK; clear HB; have jn := bR; have yk := bX; have bp := dh; have eK := dX; have HB := iE; clear bR bX dh dX iE; clear hb BO; have Yh : FV.cell? ⟨cR, 0, none⟩ = some (.int .u32 a6) := (al bp.out 0).trans rfl; have Yg : FV.cell? ⟨cR, 1, none⟩ = some (.string a8) := (al bp.out 1).trans rfl; have Yf : FV.cell? ⟨cR, 2, none⟩ = some (.slice mT hH.length mQ) := (al bp.out 2).trans rfl; have Ye : FV.cell? ⟨cR, 3, none⟩ = some (.slice cV bb.length cT) := (al bp.out 3).trans rfl; have Yd : FV.cell? ⟨cR, 4, none⟩ = some (.slice dU aE.length cJ) := (al bp.out 4).trans rfl; have Wz := aj bp.out 0; have Wy := aj bp.out 1; have Wx := aj bp.out 2; have Ww := aj bp.out 3; have Wv := aj bp.out 4) | ((with_reducible refine cy (b := .append) (xs := #[.tmp 8, .tmp 10]) rfl ?_); at_builtin; refine Kd.R_append_rows (Kd.int .i64) (w0 := w) w.heap.size rfl (.tmp 8) (.tmp 10) 31 3 (.int .i64 0) 8 rfl Try.underlying31 ye rfl (by decide) (by omega) P5 jV bb _ _ _ (fun k_ => some k_ ≠ (.slice mT hH.length mQ : Value).ownBlock) (fun _ => False) rfl rfl ?aO ?aR (fun _ _ h => h) (fun _ h => h.elim) ?aF ?aB ?aS ?aL ?_; (case aR => repeat (first | exact (Kd.C_below mY.out HB.out) | (with_reducible refine Kd.C_alloc ?_ _) | (with_reducible refine Kd.C_drewN ?_ _) | (with_reducible refine Kd.C_drew ?_))); (case aB => exact (by repeat (first | (with_reducible first | exact HB.out | apply af | apply ab | apply ai | refine aD ?_ jo.out | refine aD ?_ kQ.out) | exact HB.out))); (case aF => exact (fun k_ hk => Kd.fresh' (Kd.R_lt (by (with_reducible repeat (first | apply Kd.R_alloc | apply Kd.R_drewN | apply Kd.R_drew)); exact jn.out)) k_ hk)); (case aO => exact (by (with_reducible repeat (first | apply Kd.R_alloc | apply Kd.R_drewN | apply Kd.R_drew)); exact Kd.R_mono yk.out (fun _ hk => hk.2))); (case aS => exact (bo (by repeat (first | (with_reducible first | exact HB.out | apply af | apply ab | apply ai | refine aD ?_ jo.out | refine aD ?_ kQ.out) | exact HB.out)))); (case aL => have := UJ.out; omega); intro YG Ip ho hb hg hat; rw [← PB.out] at ho; have bR := ak (kP (g := cR) (o := .cells #[.int .u32 a6, .string a8, .slice mT hH.length mQ, .slice cV bb.length cT, .slice dU aE.length cJ] 62 (0, 0)) (by (with_reducible repeat (first | refine ax ?_ _ | refine aG ?_ | refine ay ?_ _)); exact bp.out) hg (Kd.R_ne yk.out bp.out (by decide))); have bX := ak (kP (g := e6) (o := .cells #[.int .u32 0, .string (⟨#[]⟩ : ByteArray), .slice none 0 0, .slice none 0 0, .slice none 0 0] 62 (0, 0)) (by (with_reducible repeat (first | refine ax ?_ _ | refine aG ?_ | refine ay ?_ _)); exact eK.out) hg (Kd.R_ne yk.out eK.out (by decide))); have dh := ak (Kd.R_after (ok := (fun _ => True)) (by (with_reducible repeat (first | apply Kd.R_alloc | apply Kd.R_drewN | apply Kd.R_drew)); exact jn.out) hg hat); have dX := ak (hb); have iE := ak (ho); clear bp; clear eK; clear jn; clear HB; clear yk; have bp := bR; have eK := bX; have jn := dh; have HB := dX; have o8 := iE; clear bR bX dh dX iE; clear ho hb hg hat; obtain ⟨sU, sI, UA⟩ := Kd.R_slice o8.out; subst UA; have OW : Ip.cell? ⟨cR, 0, none⟩ = some (.int .u32 a6) := (al bp.out 0).trans rfl; have OV : Ip.cell? ⟨cR, 1, none⟩ = some (.string a8) := (al bp.out 1).trans rfl; have OU : Ip.cell? ⟨cR, 2, none⟩ = some (.slice mT hH.length mQ) := (al bp.out 2).trans rfl; have OT : Ip.cell? ⟨cR, 3, none⟩ = some (.slice cV bb.length cT) := (al bp.out 3).trans rfl; have OS : Ip.cell? ⟨cR, 4, none⟩ = some (.slice dU aE.length cJ) := (al bp.out 4).trans rfl; have Ol := aj bp.out 0; have Oj := aj bp.out 1; have Oi := aj bp.out 2; have Oh := aj bp.out 3; have Og := aj bp.out 4) | ((with_reducible refine aJ (N := 13) rfl ?_); refine Kd.R_lit ia _ 76 ?hg (N := 13) ?hd (xs := ([] : List (S76))) (inner := []) (ok := fun _ => True) (okp := fun _ => True) ?hr ?hp (fun _ hk => hk) trivial (Below.refl _ _) (Nat.le_refl _) (by simp) ?_; (case hd => rfl); (case hg => rfl); (case hr => first | (go_simp; done) | (go_simp; rfl)); (case hp => exact (dF.none _ _)); intro P4 wX D0 hb J ry; clear J ry; (first | rw [← Gz.out] at D0 | (simp only [Int.reduceToNat] at D0; rw [← Gz.out] at D0)); have bR := ak (Kd.R_below (by (with_reducible repeat (first | apply Kd.R_alloc | apply Kd.R_drewN | apply Kd.R_drew)); exact (Kd.R_mono (Kd.R_far (p := ⟨cR, 3, none⟩) (Kd.R_types jn.out bp.out (by decide)) (fun _ hk => hk.2) (.slice sU ly.length sI)) (fun _ h_ => h_.1))) hb); have bX := ak (Kd.R_below (by (with_reducible repeat (first | apply Kd.R_alloc | apply Kd.R_drewN | apply Kd.R_drew)); exact (Kd.R_mono (Kd.R_far (p := ⟨cR, 3, none⟩) (Kd.R_types o8.out bp.out (by decide)) (fun _ hk => hk.2) (.slice sU ly.length sI)) (fun _ h_ => h_.1))) hb); have dh := ak (Kd.R_lower D0 (bo (by repeat (first | (with_reducible first | exact HB.out | apply af | apply ab | apply ai | refine aD ?_ jo.out | refine aD ?_ kQ.out) | exact HB.out)))); have dX := ak (eh (g := cR) (o := .cells #[.int .u32 a6, .string a8, .slice mT hH.length mQ, .slice sU ly.length sI, .slice dU aE.length cJ] 62 (0, 0)) (by (with_reducible repeat (first | refine ax ?_ _ | refine aG ?_ | refine ay ?_ _)); refine e7 (cs := #[.int .u32 a6, .string a8, .slice mT hH.length mQ, .slice cV bb.length cT, .slice dU aE.length cJ]) ?_ 3 _ rfl; (with_reducible repeat (first | refine ax ?_ _ | refine aG ?_ | refine ay ?_ _)); exact bp.out) hb); have iE := ak (eh (g := e6) (o := .cells #[.int .u32 0, .string (⟨#[]⟩ : ByteArray), .slice none 0 0, .slice none 0 0, .slice none 0 0] 62 (0, 0)) (by (with_reducible repeat (first | refine ax ?_ _ | refine aG ?_ | refine ay ?_ _)); refine iG ?_ oD.out _; (with_reducible repeat (first | refine ax ?_ _ | refine aG ?_ | refine ay ?_ _)); exact eK.out) hb); have kL := ak (bA (by repeat (first | (with_reducible first | exact HB.out | apply af | apply ab | apply ai | refine aD ?_ jo.out | refine aD ?_ kQ.out) | exact HB.out)) hb); clear jn; clear o8; clear bp; clear eK; clear HB; have jn := bR; have o8 := bX; have rN := dh; have bp := dX; have eK := iE; have HB := kL; clear bR bX dh dX iE kL; clear hb D0; have OP : wX.cell? ⟨cR, 0, none⟩ = some (.int .u32 a6) := (al bp.out 0).trans rfl; have OO : wX.cell? ⟨cR, 1, none⟩ = some (.string a8) := (al bp.out 1).trans rfl; have ON : wX.cell? ⟨cR, 2, none⟩ = some (.slice mT hH.length mQ) := (al bp.out 2).trans rfl; have OM : wX.cell? ⟨cR, 3, none⟩ = some (.slice sU ly.length sI) := (al bp.out 3).trans rfl; have OL : wX.cell? ⟨cR, 4, none⟩ = some (.slice dU aE.length cJ) := (al bp.out 4).trans rfl; have Od := aj bp.out 0; have Oc := aj bp.out 1; have Ob := aj bp.out 2; have Oa := aj bp.out 3; have N9 := aj bp.out 4) | ((with_reducible refine cy (b := .append) (xs := #[.tmp 13, .tmp 15]) rfl ?_); at_builtin; refine Kd.R_append_rows ia (w0 := w) w.heap.size rfl (.tmp 13) (.tmp 15) 49 76 (.agg #[(.string ⟨#[]⟩), (.string ⟨#[]⟩)]) 32 rfl Try.underlying49 I2 rfl (by decide) (by omega) P4 g9 aE _ _ _ (fun _ => True) (fun _ => False) rfl rfl ?aO ?aR (fun _ _ h => h) (fun _ h => h.elim) ?aF ?aB ?aS ?aL ?_; (case aR => repeat (first | exact (Kd.C_below qA.out HB.out) | (with_reducible refine Kd.C_alloc ?_ _) | (with_reducible refine Kd.C_drewN ?_ _) | (with_reducible refine Kd.C_drew ?_))); (case aB => exact (by repeat (first | (with_reducible first | exact HB.out | apply af | apply ab | apply ai | refine aD ?_ jo.out | refine aD ?_ kQ.out) | exact HB.out))); (case aF => exact (fun _ _ => trivial)); (case aO => exact (by (with_reducible repeat (first | apply Kd.R_alloc | apply Kd.R_drewN | apply Kd.R_drew)); exact rN.out)); (case aS => exact (bo (by repeat (first | (with_reducible first | exact HB.out | apply af | apply ab | apply ai | refine aD ?_ jo.out | refine aD ?_ kQ.out) | exact HB.out)))); (case aL => have := KU.out; omega); intro YF qF ho hb hg hat; rw [← PA.out] at ho; have bR := ak (kP (g := cR) (o := .cells #[.int .u32 a6, .string a8, .slice mT hH.length mQ, .slice sU ly.length sI, .slice dU aE.length cJ] 62 (0, 0)) (by (with_reducible repeat (first | refine ax ?_ _ | refine aG ?_ | refine ay ?_ _)); exact bp.out) hg (Kd.R_ne rN.out bp.out (by decide))); have bX := ak (kP (g := e6) (o := .cells #[.int .u32 0, .string (⟨#[]⟩ : ByteArray), .slice none 0 0, .slice none 0 0, .slice none 0 0] 62 (0, 0)) (by (with_reducible repeat (first | refine ax ?_ _ | refine aG ?_ | refine ay ?_ _)); exact eK.out) hg (Kd.R_ne rN.out eK.out (by decide))); have dh := ak (Kd.R_over' (by (with_reducible repeat (first | apply Kd.R_alloc | apply Kd.R_drewN | apply Kd.R_drew)); exact jn.out) (Kd.R_typed (by (with_reducible repeat (first | apply Kd.R_alloc | apply Kd.R_drewN | apply Kd.R_drew)); exact rN.out)) (by decide) hg); have dX := ak (Kd.R_over' (by (with_reducible repeat (first | apply Kd.R_alloc | apply Kd.R_drewN | apply Kd.R_drew)); exact o8.out) (Kd.R_typed (by (with_reducible repeat (first | apply Kd.R_alloc | apply Kd.R_drewN | apply Kd.R_drew)); exact rN.out)) (by decide) hg); have iE := ak (hb); have kL := ak (ho); clear bp; clear eK; clear jn; clear o8; clear HB; clear rN; have bp := bR; have eK := bX; have jn := dh; have o8 := dX; have HB := iE; have GJ := kL; clear bR bX dh dX iE kL; clear ho hb hg hat; obtain ⟨zi, yZ, Ux⟩ := Kd.R_slice GJ.out; subst Ux; have OK : qF.cell? ⟨cR, 0, none⟩ = some (.int .u32 a6) := (al bp.out 0).trans rfl; have OJ : qF.cell? ⟨cR, 1, none⟩ = some (.string a8) := (al bp.out 1).trans rfl; have XZ : qF.cell? ⟨cR, 2, none⟩ = some (.slice mT hH.length mQ) := (al bp.out 2).trans rfl; have XY : qF.cell? ⟨cR, 3, none⟩ = some (.slice sU ly.length sI) := (al bp.out 3).trans rfl; have XX : qF.cell? ⟨cR, 4, none⟩ = some (.slice dU aE.length cJ) := (al bp.out 4).trans rfl; have N8 := aj bp.out 0; have N7 := aj bp.out 1; have Wh := aj bp.out 2; have Wg := aj bp.out 3; have Wf := aj bp.out 4; have XW : qF.cell? ⟨e6, 0, none⟩ = some (.int .u32 0) := (al eK.out 0).trans rfl; have XV : qF.cell? ⟨e6, 1, none⟩ = some (.string (⟨#[]⟩ : ByteArray)) := (al eK.out 1).trans rfl; have XU : qF.cell? ⟨e6, 2, none⟩ = some (.slice none 0 0) := (al eK.out 2).trans rfl; have XT : qF.cell? ⟨e6, 3, none⟩ = some (.slice none 0 0) := (al eK.out 3).trans rfl; have XS : qF.cell? ⟨e6, 4, none⟩ = some (.slice none 0 0) := (al eK.out 4).trans rfl; have We := aj eK.out 0; have Wd := aj eK.out 1; have Wc := aj eK.out 2; have Wb := aj eK.out 3; have Wa := aj eK.out 4))
    refine bodyPost_ret (results_cell_row rfl _ _ e6 62 #[.int .u32 a6, .string a8, .slice mT hH.length mQ, .slice sU ly.length sI, .slice zi qE.length yZ] (0, 0) _ rfl (by (with_reducible repeat (first | refine ax ?_ _ | refine aG ?_ | refine ay ?_ _)); refine e7 (cs := #[.int .u32 a6, .string a8, .slice mT hH.length mQ, .slice sU ly.length sI, .slice none 0 0]) ?_ 4 _ rfl; (with_reducible repeat (first | refine ax ?_ _ | refine aG ?_ | refine ay ?_ _)); refine e7 (cs := #[.int .u32 a6, .string a8, .slice mT hH.length mQ, .slice none 0 0, .slice none 0 0]) ?_ 3 _ rfl; (with_reducible repeat (first | refine ax ?_ _ | refine aG ?_ | refine ay ?_ _)); refine e7 (cs := #[.int .u32 a6, .string a8, .slice none 0 0, .slice none 0 0, .slice none 0 0]) ?_ 2 _ rfl; (with_reducible repeat (first | refine ax ?_ _ | refine aG ?_ | refine ay ?_ _)); refine e7 (cs := #[.int .u32 a6, .string (⟨#[]⟩ : ByteArray), .slice none 0 0, .slice none 0 0, .slice none 0 0]) ?_ 1 _ rfl; (with_reducible repeat (first | refine ax ?_ _ | refine aG ?_ | refine ay ?_ _)); refine e7 (cs := #[.int .u32 0, .string (⟨#[]⟩ : ByteArray), .slice none 0 0, .slice none 0 0, .slice none 0 0]) ?_ 0 _ rfl; (with_reducible repeat (first | refine ax ?_ _ | refine aG ?_ | refine ay ?_ _)); refine iG ?_ oD.out _; (with_reducible repeat (first | refine ax ?_ _ | refine aG ?_ | refine ay ?_ _)); exact eK.out) Try.underlying62 rfl (by kernel_rfl)) rfl ?_
    exact ⟨_, _, _, by first | rfl | (simp [bf, bd] <;> rfl) | (simp [*, bf, bd] <;> rfl), by (with_reducible repeat (first | apply Kd.R_alloc | apply Kd.R_drewN | apply Kd.R_drew)); exact Kd.R_mono (Kd.R_far (p := ⟨e6, 4, none⟩) (Kd.R_far (p := ⟨e6, 3, none⟩) (Kd.R_far (p := ⟨e6, 2, none⟩) (Kd.R_far (p := ⟨e6, 1, none⟩) (Kd.R_far (p := ⟨e6, 0, none⟩) (Kd.R_far (p := ⟨cR, 4, none⟩) (Kd.R_types (Kd.R_types jn.out bp.out (by decide)) eK.out (by decide)) (fun _ hk => hk.1.2) (.slice zi qE.length yZ)) (fun _ hk => hk.2) (.int .u32 a6)) (fun _ hk => hk.2) (.string a8)) (fun _ hk => hk.2) (.slice mT hH.length mQ)) (fun _ hk => hk.2) (.slice sU ly.length sI)) (fun _ hk => hk.2) (.slice zi qE.length yZ)) (fun _ hk => hk.1.1.2), by (with_reducible repeat (first | apply Kd.R_alloc | apply Kd.R_drewN | apply Kd.R_drew)); exact Kd.R_mono (Kd.R_far (p := ⟨e6, 4, none⟩) (Kd.R_far (p := ⟨e6, 3, none⟩) (Kd.R_far (p := ⟨e6, 2, none⟩) (Kd.R_far (p := ⟨e6, 1, none⟩) (Kd.R_far (p := ⟨e6, 0, none⟩) (Kd.R_far (p := ⟨cR, 4, none⟩) (Kd.R_types (Kd.R_types o8.out bp.out (by decide)) eK.out (by decide)) (fun _ hk => hk.1.2) (.slice zi qE.length yZ)) (fun _ hk => hk.2) (.int .u32 a6)) (fun _ hk => hk.2) (.string a8)) (fun _ hk => hk.2) (.slice mT hH.length mQ)) (fun _ hk => hk.2) (.slice sU ly.length sI)) (fun _ hk => hk.2) (.slice zi qE.length yZ)) (fun _ hk => hk.1.1), by (with_reducible repeat (first | apply Kd.R_alloc | apply Kd.R_drewN | apply Kd.R_drew)); exact Kd.R_mono (Kd.R_far (p := ⟨e6, 4, none⟩) (Kd.R_far (p := ⟨e6, 3, none⟩) (Kd.R_far (p := ⟨e6, 2, none⟩) (Kd.R_far (p := ⟨e6, 1, none⟩) (Kd.R_far (p := ⟨e6, 0, none⟩) (Kd.R_far (p := ⟨cR, 4, none⟩) (Kd.R_types (Kd.R_types GJ.out bp.out (by decide)) eK.out (by decide)) (fun _ hk => hk.1.2) (.slice zi qE.length yZ)) (fun _ hk => hk.2) (.int .u32 a6)) (fun _ hk => hk.2) (.string a8)) (fun _ hk => hk.2) (.slice mT hH.length mQ)) (fun _ hk => hk.2) (.slice sU ly.length sI)) (fun _ hk => hk.2) (.slice zi qE.length yZ)) (fun _ hk => trivial), by repeat (first | (with_reducible first | exact HB.out | apply af | apply ab | apply ai | refine aD ?_ jo.out | refine aD ?_ kQ.out) | exact HB.out)⟩
   ·rw [if_neg c4] at H
    exact absurd H (by simp)
  ·rw [if_neg c3] at H
   exact absurd H (by simp)
 ·rw [if_neg c2] at H
  exact absurd H (by simp)
end Go.Proofs.Ytemhalnhbgkbcaa.V
end

section
namespace Go.Proofs.Ytemhalnhbgkbcaa.V
attribute [local go_sem] dA dy ed ec cP cN dz dx
theorem Lu (d : Nat) (w : World) (x0 y0 : ByteArray) (x1 y1 : ByteArray) :
  (Op.equalIn (d + 2) 76 (.agg #[.string x0, .string x1]) (.agg #[.string y0, .string y1])).run Try.prog w = .ok (x0.toList == y0.toList && (x1.toList == y1.toList)) w := by
 refine Jp Try.underlying76 (by kernel_rfl) ?_
 refine Er (by rfl) (by go_simp; rfl) (by go_simp; rfl) (by go_simp) ?_
 exact Ep (by rfl) (by go_simp; rfl) (by go_simp; rfl) (by go_simp)
end Go.Proofs.Ytemhalnhbgkbcaa.V
end

section
namespace Go.Proofs.Ytemhalnhbgkbcaa.V
abbrev lN := S76
abbrev dH (a : Int) (s : ByteArray) (vs vf va : Value) : List Value := [.int .u32 a, .string s, vs, vf, va]
theorem et (a : Int) (s : ByteArray) {vs vf va : Value} (h1 : vs.oneCell' = true) (h2 : vf.oneCell' = true) (h3 : va.oneCell' = true) : ∀ u ∈ dH a s vs vf va, u.oneCell' = true := by
 intro u hu
 simp only [List.mem_cons, List.not_mem_nil, or_false] at hu
 rcases hu with rfl | rfl | rfl | rfl | rfl
 ·rfl
 ·rfl
 ·exact h1
 ·exact h2
 ·exact h3
structure RbR (W : World) (b : Bk) (M : List lN) (As : Option Addr) (cs : Nat) (Af : Option Addr) (cf : Nat) (Aa : Option Addr) (ca : Nat) : Prop where
 m : M = b.attrs.map vc
 sr : Kd.C (Kd.int .i64) W As b.slots.length b.slots
 sc : b.slots.length ≤ cs
 fr : Kd.C (Kd.int .i64) W Af b.free.length b.free
 fc : b.free.length ≤ cf
 ar : Kd.C ia W Aa M.length M
 ac : M.length ≤ ca
theorem RbR.below {W W1 : World} {b : Bk} {M : List lN} {As : Option Addr} {cs : Nat} {Af : Option Addr} {cf : Nat} {Aa : Option Addr} {ca : Nat} (h : RbR W b M As cs Af cf Aa ca) (hb : Below W.heap.size W W1) : RbR W1 b M As cs Af cf Aa ca := ⟨h.m, Kd.C_below h.sr hb, h.sc, Kd.C_below h.fr hb, h.fc, Kd.C_below h.ar hb, h.ac⟩
def jL (W : World) (v : Value) (b : Bk) : Prop := ∃ M As cs Af cf Aa ca, v = .agg (dH b.addr b.aff (.slice As b.slots.length cs) (.slice Af b.free.length cf) (.slice Aa M.length ca)).toArray ∧ RbR W b M As cs Af cf Aa ca
theorem jL.below {W W1 : World} {v : Value} {b : Bk} (h : jL W v b) (hb : Below W.heap.size W W1) : jL W1 v b := by
 obtain ⟨M, As, cs, Af, cf, Aa, ca, e, hr⟩ := h
 exact ⟨M, As, cs, Af, cf, Aa, ca, e, hr.below hb⟩
def fw (W : World) (base : Nat) (v : Value) (b : Bk) : Prop := ∃ vs vf va, v = .agg (dH b.addr b.aff vs vf va).toArray ∧ Kd.R (Kd.int .i64) 3 W base (fun _ => True) vs b.slots ∧ Kd.R (Kd.int .i64) 3 W base (fun _ => True) vf b.free ∧ Kd.R ia 76 W base (fun _ => True) va (b.attrs.map vc)
theorem fw.toV {W : World} {base : Nat} {v : Value} {b : Bk} (h : fw W base v b) : jL W v b := by
 obtain ⟨vs, vf, va, rfl, h1, h2, h3⟩ := h
 obtain ⟨As, cs, rfl, l1, c1⟩ := Kd.R_reads h1
 obtain ⟨Af, cf, rfl, l2, c2⟩ := Kd.R_reads h2
 obtain ⟨Aa, ca, rfl, l3, c3⟩ := Kd.R_reads h3
 exact ⟨_, As, cs, Af, cf, Aa, ca, rfl, rfl, c1, l1, c2, l2, c3, l3⟩
theorem fw.below {W W1 : World} {base : Nat} {v : Value} {b : Bk} (h : fw W base v b) (hb : Below W.heap.size W W1) : fw W1 base v b := by
 obtain ⟨vs, vf, va, rfl, h1, h2, h3⟩ := h
 exact ⟨vs, vf, va, rfl, Kd.R_below h1 hb, Kd.R_below h2 hb, Kd.R_below h3 hb⟩
theorem fw.lower {W : World} {base base' : Nat} {v : Value} {b : Bk} (h : fw W base v b) (hb : base' ≤ base) : fw W base' v b := by
 obtain ⟨vs, vf, va, rfl, h1, h2, h3⟩ := h
 exact ⟨vs, vf, va, rfl, Kd.R_lower h1 hb, Kd.R_lower h2 hb, Kd.R_lower h3 hb⟩
theorem C5 (b : Bk) (hs : b.slots.length ≤ 1000) (hf : b.free.length ≤ 5000) (M : List lN) (hm : M.length ≤ 1000) (As : Option Addr) (cs : Nat) (Af : Option Addr) (cf : Nat) (Aa : Option Addr) (ca : Nat) (w : World) (hr : RbR w b M As cs Af cf Aa ca) :
  Calls Try.prog 85 #[.agg (dH b.addr b.aff (.slice As b.slots.length cs) (.slice Af b.free.length cf) (.slice Aa M.length ca)).toArray] w fun e w' => ∃ vs vf va, e = .returned (.agg (dH b.addr b.aff vs vf va).toArray) ∧ Kd.R (Kd.int .i64) 3 w' w.heap.size (fun k => some k ≠ vf.ownBlock) vs b.slots ∧ Kd.R (Kd.int .i64) 3 w' w.heap.size (fun k => some k ≠ vs.ownBlock) vf b.free ∧ Kd.R ia 76 w' w.heap.size (fun _ => True) va M ∧ Below w.heap.size w w' := by
 have h : kD.f b.addr b.aff b.slots b.free M = some (b.addr, b.aff, b.slots, b.free, M) := by
  unfold kD.f
  simp only [Option.bind_some, List.nil_append, List.length_nil, Nat.zero_add]
  rw [if_pos (by omega), if_pos (by omega), if_pos (by omega)]
 exact kD.calls _ _ _ _ _ _ _ _ _ _ _ _ _ _ _ _ w hr.sr hr.sc hr.fr hr.fc hr.ar hr.ac h
theorem mK {k : IntKind} {e base n cap g : Nat} {ok : Nat → Prop} {W : World} {xs : List Int} (h : Kd.R (Kd.int k) e W base ok (.slice (some ⟨g, 0, none⟩) n cap) xs) (j : Nat) (hj : j < n) : W.cell? ⟨g, j, none⟩ = some (.int k (rd xs j)) ∧ W.frozen? ⟨g, j, none⟩ = false := by
 have hn := (Kd.R_reads' h).1
 obtain ⟨ad, eA, hx⟩ := Kd.at_int (Kd.R_reads' h).2.2 j (by omega) (by omega)
 cases eA
 rw [Int.toNat_natCast, add_plain] at hx
 refine ⟨hx, ?_⟩
 obtain ⟨ce, hcl, _, hcc, hcf⟩ := Kd.R_elem h 0 (j : Int) (by omega) (by omega)
 have h2 := hcf 0
 rwa [show ((j : Int).toNat * (Kd.int k).sz + 0) = j by show (j : Int).toNat * 1 + 0 = j; omega] at h2
theorem oA {k : IntKind} {e base n cap g : Nat} {ok : Nat → Prop} {W : World} {xs : List Int} (h : Kd.R (Kd.int k) e W base ok (.slice (some ⟨g, 0, none⟩) n cap) xs) (j : Nat) (hj : j < n) (x : Int) : Kd.R (Kd.int k) e (W.setCell ⟨g, j, none⟩ (.int k x)) base ok (.slice (some ⟨g, 0, none⟩) n cap) (xs.set j x) ∧ W.grownBy (W.setCell ⟨g, j, none⟩ (.int k x)) (some g) := by
 obtain ⟨ce, hcl, _, hcc, _⟩ := Kd.R_elem h 0 (j : Int) (by omega) (by omega)
 have hsg := Kd.R_seg h (j : Int) (by omega) (by omega) (seg := [.int k x]) (j := 0) (x' := x) (okp := fun _ => False) hcl hcc (Nat.le_refl 1) (by
  obtain ⟨u, rfl⟩ := List.length_eq_one_iff.1 (show ce.length = 1 from hcl)
  rfl) (fun _ h => h.elim)
 rw [show ((j : Int).toNat * (Kd.int k).sz + 0) = j by show (j : Int).toNat * 1 + 0 = j; omega, Int.toNat_natCast] at hsg
 exact hsg
theorem wE (l : List At) (a : At) (k : Nat) (hk : k < l.length) (h : sameAt (iR l k) a = false) : g5 (l.take (k + 1)) a = g5 (l.take k) a := by
 have e := xZ l k hk
 unfold g5
 rw [e, List.findIdx?_append]
 have h2 : sameAt a (iR l k) = false := by rw [yv]; exact h
 cases hq : (l.take k).findIdx? (sameAt a) with
 | some i => rfl
 | none => simp [h2]
theorem CU (l : List At) (a : At) (k : Nat) (hk : k < l.length) (h : sameAt (iR l k) a = true) (hn : (l.take k).any (sameAt (iR l k)) = false) : g5 (l.take (k + 1)) a = some k := by
 have e := xZ l k hk
 have ha : iR l k = a := (l8 _ _).1 h
 unfold g5
 rw [e, List.findIdx?_append]
 have hq : (l.take k).findIdx? (sameAt a) = none := by
  rw [List.findIdx?_eq_none_iff]
  intro x hx
  rw [← ha]
  have h2 := List.any_eq_false.1 hn x hx
  simpa using h2
 rw [hq]
 have h3 : sameAt a (iR l k) = true := by rw [yv]; exact h
 simp [h3, List.length_take]
 omega
end Go.Proofs.Ytemhalnhbgkbcaa.V
end

section
namespace Go.Proofs.Ytemhalnhbgkbcaa.V
def RX (W : World) (b1 g : Nat) (b : Bk) : Prop := ∃ M vs vf va, M = b.attrs.map vc ∧ aX W g (dH b.addr b.aff vs vf va) 62 ∧ Kd.R (Kd.int .i64) 3 W b1 (fun _ => True) vs b.slots ∧ Kd.R (Kd.int .i64) 3 W b1 (fun _ => True) vf b.free ∧ Kd.R ia 76 W b1 (fun _ => True) va M
section
variable {W W1 : World} {b1 b2 g g' t : Nat} {b : Bk}
theorem RX.open (h : RX W b1 g b) : ∃ M As cs Af cf Aa ca, M = b.attrs.map vc ∧ aX W g (dH b.addr b.aff (.slice As b.slots.length cs) (.slice Af b.free.length cf) (.slice Aa M.length ca)) 62 ∧ Kd.R (Kd.int .i64) 3 W b1 (fun _ => True) (.slice As b.slots.length cs) b.slots ∧ Kd.R (Kd.int .i64) 3 W b1 (fun _ => True) (.slice Af b.free.length cf) b.free ∧ Kd.R ia 76 W b1 (fun _ => True) (.slice Aa M.length ca) M := by
 obtain ⟨M, vs, vf, va, hm, hx, hs, hf, ha⟩ := h
 obtain ⟨As, cs, rfl⟩ := Kd.R_slice hs
 obtain ⟨Af, cf, rfl⟩ := Kd.R_slice hf
 obtain ⟨Aa, ca, rfl⟩ := Kd.R_slice ha
 exact ⟨M, As, cs, Af, cf, Aa, ca, hm, hx, hs, hf, ha⟩
theorem RX.below (h : RX W b1 g b) (hb : Below W.heap.size W W1) : RX W1 b1 g b := by
 obtain ⟨M, vs, vf, va, hm, hx, hs, hf, ha⟩ := h
 exact ⟨M, vs, vf, va, hm, hx.below hb, Kd.R_below hs hb, Kd.R_below hf hb, Kd.R_below ha hb⟩
theorem RX.lower (h : RX W b1 g b) (hb : b2 ≤ b1) : RX W b2 g b := by
 obtain ⟨M, vs, vf, va, hm, hx, hs, hf, ha⟩ := h
 exact ⟨M, vs, vf, va, hm, hx, Kd.R_lower hs hb, Kd.R_lower hf hb, Kd.R_lower ha hb⟩
theorem RX.lt (h : RX W b1 g b) : g < W.heap.size := by
 obtain ⟨M, vs, vf, va, hm, hx, _⟩ := h
 exact hx.lt
theorem RX.box {cs : List Value} (h : RX W b1 g b) (hx' : aX W g' cs t) (ht : ∀ q, q ∈ [3, 76] → q ≠ t) (hne : g ≠ g') (hg : W.grownBy W1 (some g')) : RX W1 b1 g b := by
 obtain ⟨M, vs, vf, va, hm, hx, hs, hf, ha⟩ := h
 have h1 : ∀ q, q ∈ (3 : Nat) :: (Kd.int .i64).E → q ≠ t := fun q hq => by
  rcases List.mem_cons.1 hq with rfl | hq
  ·exact ht _ (by simp)
  ·cases hq
 exact ⟨M, vs, vf, va, hm, hx.grown hg (fun e => hne (Option.some.inj e)), bO hs hx' h1 hg, bO hf hx' h1 hg, bO ha hx' (fun q hq => by
  rcases List.mem_cons.1 hq with rfl | hq
  ·exact ht _ (by simp)
  ·cases hq) hg⟩
theorem RX.row {α : Type} {d : Kd α} {e base' : Nat} {ok : Nat → Prop} {v : Value} {xs : List α} (h : RX W b1 g b) (hr : d.R e W base' ok v xs) (he : e ≠ 62) (ht : ∀ q, q ∈ [3, 76] → q ≠ e) (hg : W.grownBy W1 v.ownBlock) : RX W1 b1 g b := by
 obtain ⟨M, vs, vf, va, hm, hx, hs, hf, ha⟩ := h
 have h1 : ∀ q, q ∈ (3 : Nat) :: (Kd.int .i64).E → q ≠ e := fun q hq => by
  rcases List.mem_cons.1 hq with rfl | hq
  ·exact ht _ (by simp)
  ·cases hq
 exact ⟨M, vs, vf, va, hm, hx.grown hg (hx.ne_row hr he), Kd.R_over hs hr h1 hg, Kd.R_over hf hr h1 hg, Kd.R_over ha hr (fun q hq => by
  rcases List.mem_cons.1 hq with rfl | hq
  ·exact ht _ (by simp)
  ·cases hq) hg⟩
theorem RX.addrCell (h : RX W b1 g b) : W.cell? ⟨g, 0, none⟩ = some (.int .u32 b.addr) := by
 obtain ⟨M, vs, vf, va, hm, hx, _⟩ := h
 exact hx.cell 0 _ rfl
end
theorem RX.stored {W W1 : World} {b1 g : Nat} {b : Bk} {vs vf va : Value} {td : List Value} (hx : aX W g td 62) (mq : aX W1 g (dH b.addr b.aff vs vf va) 62) (hs : Kd.R (Kd.int .i64) 3 W b1 (fun _ => True) vs b.slots) (hf : Kd.R (Kd.int .i64) 3 W b1 (fun _ => True) vf b.free) (ha : Kd.R ia 76 W b1 (fun _ => True) va (b.attrs.map vc)) (hg : W.grownBy W1 (some g)) : RX W1 b1 g b :=
 ⟨_, vs, vf, va, rfl, mq, bO hs hx (by decide) hg, bO hf hx (by decide) hg, bO ha hx (by decide) hg⟩
end Go.Proofs.Ytemhalnhbgkbcaa.V
end

