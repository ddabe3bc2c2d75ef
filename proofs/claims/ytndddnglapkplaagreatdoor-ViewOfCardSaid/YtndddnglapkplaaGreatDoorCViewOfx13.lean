/- The law ViewOf for every input: texts of ours, put together (part 14 of 17). No further condition. -/
import Derived.Test.YtndddnglapkplaaGreatDoorCViewOfx2
import Derived.Test.YtndddnglapkplaaGreatDoorCViewOfx5
import Derived.Test.YtndddnglapkplaaGreatDoorCViewOfx8
import Derived.Outline
import Derived.Test.YtndddnglapkplaaGreatDoorCViewOfx12
import Derived.BigGuard
import Derived.Test.YtndddnglapkplaaGreatDoorCViewOfx10
import Derived.Test.YtndddnglapkplaaGreatDoorCViewOfx3
set_option linter.unusedVariables false
set_option linter.unusedSimpArgs false
set_option linter.unusedSectionVars false
open Go.RowKit Go.Proofs.YtndddnglapkplaaGreatDoorW.PrintWords Go.Proofs.YtndddnglapkplaaGreatDoorW.PrintLast Go.Proofs.YtndddnglapkplaaGreatDoorW.PrintMore Go.Proofs.YtndddnglapkplaaGreatDoor.Z
namespace Go.Proofs.YtndddnglapkplaaGreatDoor.V
section
set_option maxHeartbeats 8000000 in
set_option maxRecDepth 100000 in
theorem LF (b : Bk) (hk : BkOk b) (hfl : b.free.length ≤ 1000) (hal : b.attrs.length ≤ 1000) (v : Value) (w : World) (h : sm w v b) :
  Calls Tryz.prog 20 #[v] w fun e w' => ∃ vs vf va, e = .returned (.agg #[.int .u32 b.addr, .string b.aff, vs, vf, va]) ∧ Kd.R (Kd.int .i64) 3 w' w.heap.size (fun _ => True) vs b.slots ∧ Kd.R (Kd.int .i64) 3 w' w.heap.size (fun _ => True) vf b.free ∧ Kd.R iZ 78 w' w.heap.size (fun _ => True) va (b.attrs.map vc) ∧ Below w.heap.size w w' := by
 obtain ⟨A, c, A', c', rfl, hr⟩ := h
 have HL := ak hr.l64
 have HR := ak hr
 have HK := ak hk
 have hnf : b.free.length ≤ 9223372036854775807 := hr.fr.2.1
 have hna : b.attrs.length ≤ 9223372036854775807 := hr.ar.2.1
 have HLN := ak (show (Tryz.prog.info? 60).map (·.size) = some (b.slots.map (Value.int .u8)).length by rw [List.length_map, hr.l64]; kernel_rfl)
 have HBT := ak (MT b.addr b.aff)
 clear hr hk
 go_enter Tryz.func20, Tryz.ntmps20
 go_wp2_with (first
  | (refine cH rfl 64 (.tmp 0) rfl _ rfl ?_; intro g W1 hg hbx aw; have eM := ak hbx; have bR := ak aw; clear hbx aw hg)
  | (refine aE (some 2) rfl rfl 49 rfl gw (fun _ => by kernel_rfl) ?_; intro g2 W2 dz tY aU; have iO := ak (eM.out.below aU); have kp := ak tY; have dW := ak (bR.out.trans (aU.mono bR.out.size)); have fR := ak (show w.heap.size ≤ g2 by have := bR.out.size; omega); have aU3 := ak (show g ≠ g2 by have := eM.out.lt; omega); have h0 := iO.out.cell 0 _ rfl; have h1 := iO.out.cell 1 _ rfl; clear tY aU dz eM bR)
  | ((with_reducible refine af (N := 14) rfl ?_); refine dh rfl 49 #[(0, .tmp 11), (1, .tmp 13)] rfl [(0, .int .u32 b.addr), (1, .string b.aff)] (by simp only [List.map_toArray, List.map_cons, List.map_nil]; rfl) [Value.int .u32 b.addr, .string b.aff, .slice none 0 0, .slice none 0 0, .slice none 0 0] HBT.out ?_)
  | (refine aE (some 3) rfl rfl 49 rfl gw (fun _ => by kernel_rfl) ?_; intro g3 W3 dd j8 fy; have kV := ak (iO.out.below fy); have sk := ak (kp.out.below fy); have Gy := ak j8; have ep := ak (dW.out.trans (fy.mono dW.out.size)); have uo := ak (show w.heap.size ≤ g3 by have := dW.out.size; omega); have O4 := ak (show g ≠ g3 by have := iO.out.lt; omega); have KE := ak (show g2 ≠ g3 by have := kp.out.lt; omega); clear j8 fy dd iO kp dW h0 h1)
  | (refine ay rfl 49 (.tmp 3) (.tmp 14) rfl g3 [Value.int .u32 b.addr, .string b.aff, .slice none 0 0, .slice none 0 0, .slice none 0 0] rfl rfl 49 _ Gy.out 5 (by kernel_rfl) rfl rfl (by intro u hu; simp at hu; rcases hu with rfl | rfl | rfl | rfl | rfl <;> rfl) ?_; intro W4 Me cQ; have DV := ak Me; have nT := ak (kV.out.grown cQ (fun e => O4.out (Option.some.inj e))); have zT := ak (sk.out.grown cQ (fun e => KE.out (Option.some.inj e))); have iQ := ak (ep.out.grown cQ ep.out.size (by intro k hk; cases hk; exact uo.out)); clear Me cQ kV sk Gy ep)
  | (refine kv rfl 60 (.tmp 15) rfl g 2 rfl 64 _ (b.slots.map (Value.int .u8)) (.array 64 5) nT.out (Ay _ _ _ _ _ HL.out) Tryz.underlying60 rfl HLN.out ?_))
 go_loopw [5, 17] (fun _ i W => ∃ k : Nat, k ≤ 64 ∧ i = .int .i64 k ∧ ∃ vs, Aside0 (bC W g3 [.int .u32 b.addr, .string b.aff, vs, .slice none 0 0, .slice none 0 0] 49) ∧ Aside0 (Kd.R (Kd.int .i64) 3 W w.heap.size (fun _ => True) vs (b.slots.take k)) ∧ Aside0 (bC W g2 gw 49) ∧ Aside0 (bC W g (eY b.addr b.aff b.slots (.slice A b.free.length c) (.slice A' b.attrs.length c')) 64) ∧ Aside0 (Below w.heap.size w W)) (fun _ i _ => 64 - (intOf i).toNat)
 case atStart => exact ⟨0, by omega, rfl, _, DV, ⟨Kd.R_nil _ _ _ _ _⟩, zT, nT, iQ⟩
 case round =>
  clear DV zT nT iQ
  obtain ⟨k, hk, rfl, vs, HZ, HS, HY, HX, HB⟩ := hrel
  obtain ⟨W, rfl⟩ : ∃ W : World, W = wr := ⟨_, rfl⟩
  by_cases Ug : k < 64
  ·have hkb : decide ((k : Int) < 64) = true := by simp; omega
   have hkl : k < b.slots.length := by have := HL.out; omega
   obtain ⟨m, hm⟩ : ∃ m : Nat, rd b.slots k = (m : Int) := ⟨(rd b.slots k).toNat, by have := (iA HK.out.s8 k).1; omega⟩
   have Fz : m < 256 := by have := (iA HK.out.s8 k).2; omega
   have hix := fun w => Cg b.slots HL.out k Ug w
   have xI : b.slots.getD k 0 = (m : Int) := by rw [← hm]; simp [rd]
   rw [xI] at hix
   obtain ⟨L, hL⟩ : ∃ L : List Int, L = b.slots.take (k + 1) := ⟨_, rfl⟩
   have HLq := ak hL
   have HT := ak (show L = b.slots.take k ++ [(m : Int)] by rw [hL, List.take_add_one, List.getElem?_eq_getElem hkl, ← xI]; simp [List.getD, hkl])
   clear hL hm xI
   have hlen : (b.slots.take k).length ≤ 64 := by simp; omega
   have jc := HZ.out.cell 2 _ rfl
   go_wp2_with (first | ((with_reducible refine cx (b := .append) (xs := #[.tmp 21, .tmp 24]) rfl ?_); at_builtin; refine Kd.R_append (Kd.int .i64) (w0 := w) w.heap.size rfl (.tmp 21) (.tmp 24) 46 3 (.int .i64 0) 8 rfl Tryz.underlying46 Bj rfl (by decide) (by omega) vs (b.slots.take k) (m : Int) [.int .i64 (m : Int)] (fun _ => True) (fun _ => False) rfl rfl rfl (fun _ hk => hk.elim) (fun _ _ => trivial) HS.out HB.out HB.out.size (by omega) ?_; intro v1 w1 fx aw cj j9; have zS := ak (HZ.out.grown cj (HZ.out.ne_row HS.out (by decide))); have eM := ak (HX.out.grown cj (HX.out.ne_row HS.out (by decide))); have fQ := ak (HY.out.grown cj (HY.out.ne_row HS.out (by decide))); rw [← HT.out] at fx; have lT := ak fx; have bR := ak aw; obtain ⟨A1, c1, rfl⟩ := Kd.R_slice fx; have iv := zS.out.cell 2 _ rfl; have xJ := zS.out.frozen 2; clear fx aw cj j9 jc HZ HX HY HS HB))
   have BX := ak (show bC (w1.setCell ⟨g3, 2, none⟩ (.slice A1 L.length c1)) g3 [.int .u32 b.addr, .string b.aff, .slice A1 L.length c1, .slice none 0 0, .slice none 0 0] 49 from zS.out.set 2 (.slice A1 L.length c1))
   go_roundw
   case rel => exact ⟨k + 1, by omega, by go_num, _, BX, ⟨by rw [← HLq.out]; exact bS lT.out zS.out (by decide) (b8 _ _ _ _)⟩, ⟨fQ.out.far (p := ⟨g3, 2, none⟩) KE.out _⟩, ⟨eM.out.far (p := ⟨g3, 2, none⟩) O4.out _⟩, ⟨Below.setCell bR.out (p := ⟨g3, 2, none⟩) uo.out _⟩⟩
   case measure => simp [intOf]; omega
  ·obtain rfl : k = 64 := by omega
   rw [show ((64 : Nat) : Int) = (64 : Int) from rfl]
   have hkb : decide ((64 : Int) < 64) = false := by decide
   rw [show b.slots.take 64 = b.slots from List.take_of_length_le (by have := HL.out; omega)] at HS
   have pz := HX.out.cell 66 _ (Gh _ _ _ _ _ HL.out)
   obtain ⟨As, cs, rfl⟩ := Kd.R_slice HS.out
   have HS' := ak (Kd.R_mono (ok' := fun k => k < W.heap.size) (Kd.R_bound HS.out) (fun k hk => hk.2.2.1))
   have HSZ := ak (Nat.le_refl W.heap.size)
   have jg := HB.out.size
   obtain ⟨b1, aw⟩ : ∃ b1, b1 = W.heap.size := ⟨_, rfl⟩
   rw [← aw] at HS' jg
   have HSZ := ak (show b1 ≤ W.heap.size by omega)
   have HWB := ak jg
   have HRF := ak (HR.out.below HB.out)
   clear HS aw jg
   go_wp2_with fail
   clear pz
   go_loopw [7, 31] (fun _ i V => ∃ k : Nat, k ≤ b.free.length ∧ i = .int .i64 k ∧ ∃ vf, Aside0 (bC V g3 [.int .u32 b.addr, .string b.aff, .slice As b.slots.length cs, vf, .slice none 0 0] 49) ∧ Aside0 (Kd.R (Kd.int .i64) 3 V w.heap.size (fun k => k < b1) (.slice As b.slots.length cs) b.slots) ∧ Aside0 (Kd.R (Kd.int .i64) 3 V b1 (fun _ => True) vf (b.free.take k)) ∧ Aside0 (bC V g2 gw 49) ∧ Aside0 (bC V g (eY b.addr b.aff b.slots (.slice A b.free.length c) (.slice A' b.attrs.length c')) 64) ∧ Aside0 (b1 ≤ V.heap.size) ∧ Aside0 (Below w.heap.size w V)) (fun _ i _ => b.free.length - (intOf i).toNat)
   case atStart => exact ⟨0, by omega, rfl, _, HZ, HS', ⟨Kd.R_nil _ _ _ _ _⟩, HY, HX, HSZ, HB⟩
   case round =>
    clear HZ HS' HY HX HSZ HB HRF
    obtain ⟨k, hk, rfl, vf, HZ, HS, HF, HY, HX, HSZ, HB⟩ := hrel
    obtain ⟨V, rfl⟩ : ∃ V : World, V = wr := ⟨_, rfl⟩
    by_cases hkn : k < b.free.length
    ·have hkb : decide ((k : Int) < (b.free.length : Int)) = true := by simp; omega
     obtain ⟨ad, eA, hx⟩ := Kd.at_int (HR.out.below HB.out).fr k (by omega) (by omega)
     cases eA
     rw [Int.toNat_natCast] at hx
     have p1 : ((k : Int) < (b.free.length : Int)) = True := eq_true (by omega)
     obtain ⟨m, hm⟩ : ∃ m : Nat, rd b.free k = (m : Int) := ⟨(rd b.free k).toNat, by have := (iA HK.out.f8 k).1; omega⟩
     have Fz : m < 256 := by have := (iA HK.out.f8 k).2; omega
     rw [hm] at hx
     obtain ⟨L, hL⟩ : ∃ L : List Int, L = b.free.take (k + 1) := ⟨_, rfl⟩
     have HLq := ak hL
     have HT := ak (show L = b.free.take k ++ [(m : Int)] by rw [hL, List.take_add_one, List.getElem?_eq_getElem hkn, ← hm]; simp [rd, List.getD, hkn])
     clear hL hm
     have hlen : (b.free.take k).length ≤ k := by simp; omega
     have xK := HZ.out.cell 3 _ rfl
     go_wp2_with (first | ((with_reducible refine cx (b := .append) (xs := #[.tmp 36, .tmp 39]) rfl ?_); at_builtin; refine Kd.R_append (Kd.int .i64) (w0 := V) b1 rfl (.tmp 36) (.tmp 39) 46 3 (.int .i64 0) 8 rfl Tryz.underlying46 Bj rfl (by decide) (by omega) vf (b.free.take k) (m : Int) [.int .i64 (m : Int)] (fun _ => True) (fun _ => False) rfl rfl rfl (fun _ hk => hk.elim) (fun _ _ => trivial) HF.out (Below.refl _ _) HSZ.out (by omega) ?_; intro v1 w1 fx aw cj j9; have zS := ak (HZ.out.grown cj (HZ.out.ne_row HF.out (by decide))); have eM := ak (HX.out.grown cj (HX.out.ne_row HF.out (by decide))); have fQ := ak (HY.out.grown cj (HY.out.ne_row HF.out (by decide))); have lT := ak (I5 HS.out (fun _ h => h) HF.out cj); rw [← HT.out] at fx; have wV := ak fx; have bR := ak (HB.out.trans (aw.mono HWB.out)); have ab3 := ak (Nat.le_trans HSZ.out aw.size); obtain ⟨A1, c1, rfl⟩ := Kd.R_slice fx; have iv := zS.out.cell 3 _ rfl; have xJ := zS.out.frozen 3; clear fx aw cj j9 xK HZ HX HY HS HF HB HSZ hx))
     have BX := ak (show bC (w1.setCell ⟨g3, 3, none⟩ (.slice A1 L.length c1)) g3 [.int .u32 b.addr, .string b.aff, .slice As b.slots.length cs, .slice A1 L.length c1, .slice none 0 0] 49 from zS.out.set 3 (.slice A1 L.length c1))
     have HBS := ak (Below.setCell bR.out (p := ⟨g3, 3, none⟩) uo.out (.slice A1 L.length c1))
     have hgS := b8 w1 g3 3 (.slice A1 L.length c1)
     have ab2 := ak (Nat.le_trans ab3.out hgS.size)
     have oF := ak (bS lT.out zS.out (by decide) hgS)
     have xO := ak (bS wV.out zS.out (by decide) hgS)
     clear hgS
     go_roundw
     case rel => exact ⟨k + 1, by omega, by go_num, _, BX, oF, ⟨by rw [← HLq.out]; exact xO.out⟩, ⟨fQ.out.far (p := ⟨g3, 3, none⟩) KE.out _⟩, ⟨eM.out.far (p := ⟨g3, 3, none⟩) O4.out _⟩, ab2, HBS⟩
     case measure => simp [intOf]; omega
    ·obtain rfl : k = b.free.length := by omega
     have hkb : decide ((b.free.length : Int) < (b.free.length : Int)) = false := by simp
     rw [List.take_of_length_le (Nat.le_refl b.free.length)] at HF
     have FR := HX.out.cell 67 _ (si _ _ _ _ _ HL.out)
     obtain ⟨Af, cf, rfl⟩ := Kd.R_slice HF.out
     have HF' := ak (Kd.R_lower HF.out HWB.out)
     have HS' := ak (Kd.R_mono (ok' := fun _ => True) HS.out (fun _ _ => trivial))
     clear HF HS HSZ
     go_wp2_with fail
     clear FR
     go_loopw [9, 46] (fun _ i U => ∃ k : Nat, k ≤ b.attrs.length ∧ i = .int .i64 k ∧ ∃ va, Aside0 (bC U g3 [.int .u32 b.addr, .string b.aff, .slice As b.slots.length cs, .slice Af b.free.length cf, va] 49) ∧ Aside0 (Kd.R (Kd.int .i64) 3 U w.heap.size (fun _ => True) (.slice As b.slots.length cs) b.slots) ∧ Aside0 (Kd.R (Kd.int .i64) 3 U w.heap.size (fun _ => True) (.slice Af b.free.length cf) b.free) ∧ Aside0 (Kd.R iZ 78 U w.heap.size (fun _ => True) va ((b.attrs.take k).map vc)) ∧ Aside0 (bC U g2 gw 49) ∧ Aside0 (Below w.heap.size w U)) (fun _ i _ => b.attrs.length - (intOf i).toNat)
     case atStart => exact ⟨0, by omega, rfl, _, HZ, HS', HF', ⟨Kd.R_nil _ _ _ _ _⟩, HY, HB⟩
     case round =>
      clear HZ HS' HF' HY HX HB
      obtain ⟨k, hk, rfl, va, HZ, HS, HF, HA, HY, HB⟩ := hrel
      obtain ⟨U, rfl⟩ : ∃ U : World, U = wr := ⟨_, rfl⟩
      by_cases hkn : k < b.attrs.length
      ·have hkb : decide ((k : Int) < (b.attrs.length : Int)) = true := by simp; omega
       obtain ⟨ad, eA, j7, eD⟩ := MV (HR.out.below HB.out).ar k (by omega) (by omega)
       cases eA
       rw [Int.toNat_natCast] at j7 eD
       have p1 : ((k : Int) < (b.attrs.length : Int)) = True := eq_true (by omega)
       obtain ⟨a, ha⟩ : ∃ a, mf b.attrs (k : Int) = a := ⟨_, rfl⟩
       rw [ha] at j7 eD
       have Yz : b.attrs[k] = a := by rw [← ha]; simp [mf, List.getD, hkn]
       obtain ⟨L, hL⟩ : ∃ L : List S78, L = (b.attrs.take (k + 1)).map vc := ⟨_, rfl⟩
       obtain ⟨M, hM⟩ : ∃ M : List S78, M = (b.attrs.take k).map vc := ⟨_, rfl⟩
       have HLq := ak hL
       have HT := ak (show L = M ++ [vc a] by rw [hL, hM, List.take_add_one, List.getElem?_eq_getElem hkn, Yz]; simp)
       have hml : M.length ≤ k := by rw [hM]; simp; omega
       rw [← hM] at HA
       clear hL hM ha Yz
       obtain ⟨Am, cm, rfl⟩ := Kd.R_slice HA.out
       go_wp2_with (first
        | (refine aE (some 9) rfl rfl 81 rfl [.string ⟨#[]⟩, .string ⟨#[]⟩] (fun _ => by kernel_rfl) ?_; intro ga W3 hga ep tZ)
        | (refine ay rfl 81 (.tmp 9) (.tmp 49) rfl ga [.string a.f0, .string a.f1] rfl rfl 81 _ ep 2 (by kernel_rfl) rfl rfl (by intro u hu; simp at hu; rcases hu with rfl | rfl <;> rfl) ?_; intro W4 iQ yp; have pO := ak iQ; have hbW : Below U.heap.size U W4 := tZ.grown yp tZ.size (fun q hq => by cases hq; exact hga); have lK := ak (dj HB.out hbW); have BW := ak (HZ.out.below hbW); have M5 := ak (Kd.R_below HS.out hbW); have Y3 := ak (Kd.R_below HF.out hbW); have BZ := ak (Kd.R_below HA.out hbW); have wS := ak (HY.out.below hbW); have PR := BW.out.cell 4 _ rfl; have iM := pO.out.cell 0 _ rfl; have lu := pO.out.cell 1 _ rfl; clear ep iQ hga tZ yp hbW j7 eD HA HZ HS HF HY HB)
        | ((with_reducible refine cx (b := .append) (xs := #[.tmp 51, .tmp 57]) rfl ?_); at_builtin; refine Kd.R_append iZ (w0 := w) w.heap.size rfl (.tmp 51) (.tmp 57) 47 78 (.agg #[.string ⟨#[]⟩, .string ⟨#[]⟩]) 32 rfl Tryz.underlying47 Fk rfl (by decide) (by omega) _ M (vc a) [.string a.f0, .string a.f1] (fun _ => True) (fun _ => False) rfl rfl (Im _ _ _ _) (fun _ h => h.elim) (fun _ _ => trivial) BZ.out lK.out lK.out.size (by omega) ?_; intro v8 w8 gR fU dG lW; rw [← HT.out] at gR; have sj := ak (BW.out.grown dG (BW.out.ne_row BZ.out (by decide))); have xM := ak (wS.out.grown dG (wS.out.ne_row BZ.out (by decide))); have VJ := ak (Kd.R_over M5.out BZ.out (by decide) dG); have HF8 := ak (Kd.R_over Y3.out BZ.out (by decide) dG); have GG := ak gR; have jN := ak fU; obtain ⟨A8, c8, rfl⟩ := Kd.R_slice gR; have hc8 := sj.out.cell 4 _ rfl; have hf8 := sj.out.frozen 4; clear gR fU dG lW PR BW M5 Y3 BZ wS lK iM lu))
       have xL := ak (show bC (w8.setCell ⟨g3, 4, none⟩ (.slice A8 L.length c8)) g3 [.int .u32 b.addr, .string b.aff, .slice As b.slots.length cs, .slice Af b.free.length cf, .slice A8 L.length c8] 49 from sj.out.set 4 (.slice A8 L.length c8))
       go_roundw
       case rel => exact ⟨k + 1, by omega, by go_num, _, xL, ⟨bS VJ.out sj.out (by decide) (b8 _ _ _ _)⟩, ⟨bS HF8.out sj.out (by decide) (b8 _ _ _ _)⟩, ⟨by rw [← HLq.out]; exact bS GG.out sj.out (by decide) (b8 _ _ _ _)⟩, ⟨xM.out.far (p := ⟨g3, 4, none⟩) KE.out _⟩, ⟨Below.setCell jN.out (p := ⟨g3, 4, none⟩) uo.out _⟩⟩
       case measure => simp [intOf]; omega
      ·obtain rfl : k = b.attrs.length := by omega
       have hkb : decide ((b.attrs.length : Int) < (b.attrs.length : Int)) = false := by simp
       rw [List.take_of_length_le (Nat.le_refl b.attrs.length)] at HA
       obtain ⟨LA, hLA⟩ : ∃ LA, LA = b.attrs.map vc := ⟨_, rfl⟩
       have HLA := ak hLA
       rw [← hLA] at HA
       clear hLA
       obtain ⟨Aa, ca, rfl⟩ := Kd.R_slice HA.out
       go_wp2_with (first
        | (refine a7 rfl 49 (.tmp 3) rfl g3 rfl _ _ _ HZ.out Tryz.underlying49 rfl 5 (by kernel_rfl) rfl ?_)
        | (refine ay rfl 49 (.tmp 2) (.tmp 61) rfl g2 [.int .u32 b.addr, .string b.aff, .slice As b.slots.length cs, .slice Af b.free.length cf, .slice Aa LA.length ca] rfl rfl 49 _ HY.out 5 (by kernel_rfl) rfl rfl (by intro u hu; simp at hu; rcases hu with rfl | rfl | rfl | rfl | rfl <;> rfl) ?_; intro W6 nM jD))
       refine bodyPost_ret (results_cell_row rfl _ _ g2 49 _ (0, 0) _ rfl nM Tryz.underlying49 rfl (by kernel_rfl)) rfl ⟨_, _, _, rfl, bS HS.out HY.out (by decide) jD, bS HF.out HY.out (by decide) jD, ?_, HB.out.grown jD HB.out.size (by intro k hk; cases hk; exact fR.out)⟩
       rw [← HLA.out]
       exact bS HA.out HY.out (by decide) jD
end
section
def pV : List Value := [.slice none 0 0, .slice none 0 0, .map none, .map none, .map none]
theorem St (a b c : Nat) : Tryz.prog.built 30 [(2, .map (some a)), (3, .map (some b)), (4, .map (some c))] = some (sE (.slice none 0 0) (.slice none 0 0) (.map (some a)) (.map (some b)) (.map (some c))).toArray := by kernel_rfl
theorem Ge : ∀ a : Act, Tryz.prog.built 30 ((#[] : Array (Nat × Operand)).map fun (i, x) => (i, a.eval x)).toList = some pV.toArray := fun _ => by kernel_rfl
structure VwV (W : World) (Ap Ab : Option Addr) (cp cb m1 m2 m3 : Nat) (V : VS) : Prop where
 pr : Kd.C Bg W Ap V.pools.length V.pools
 pc : V.pools.length ≤ cp
 br : Kd.C (Kd.raw 68) W Ab V.bcs.length (V.bcs.map Prod.fst)
 bc : V.bcs.length ≤ cb
 am : eR sA W m1 V.am
 hm : eR Value.string W m2 V.hm
 nm : eR Value.string W m3 V.nm
 inn : V.inner W
theorem DU.below {W W1 : World} {v : Value} {l : List Cn} (h : DU W v l) (hb : Below W.heap.size W W1) : DU W1 v l := by
 obtain ⟨A, c, e, hc, hC⟩ := h
 exact ⟨A, c, e, hc, Kd.C_below hC hb⟩
theorem VwV.below {W W1 : World} {Ap Ab : Option Addr} {cp cb m1 m2 m3 : Nat} {V : VS} (h : VwV W Ap Ab cp cb m1 m2 m3 V) (hb : Below W.heap.size W W1) : VwV W1 Ap Ab cp cb m1 m2 m3 V :=
 ⟨Kd.C_below h.pr hb, h.pc, Kd.C_below h.br hb, h.bc, h.am.below hb, h.hm.below hb, h.nm.below hb, fun p hp => (h.inn.1 p hp).below hb, fun p hp => (h.inn.2 p hp).below hb⟩
def mO (Ap Ab : Option Addr) (cp cb m1 m2 m3 : Nat) (V : VS) : List Value := sE (.slice Ap V.pools.length cp) (.slice Ab V.bcs.length cb) (.map (some m1)) (.map (some m2)) (.map (some m3))
section
variable {W W1 : World} {gv base : Nat} {ok zy : Nat → Prop} {V : VS}
theorem Vw.below (h : Vw W gv base ok V) (hb : Below W.heap.size W W1) : Vw W1 gv base ok V := by
 obtain ⟨vp, vb, m1, m2, m3, fp, h⟩ := h
 exact ⟨_, _, _, _, _, _, h.below hb⟩
theorem Vw.grown (h : Vw W gv base ok V) {r : Option Nat} (hg : W.grownBy W1 r) (hr : ∀ k, r = some k → k < base ∨ ¬ ok k) : Vw W1 gv base ok V := by
 obtain ⟨vp, vb, m1, m2, m3, fp, h⟩ := h
 exact ⟨_, _, _, _, _, _, h.grown hg hr⟩
theorem Vw.shut {g2 ms g : Nat} (h : Vw W gv base (fun k => k ≠ g2 ∧ k ≠ ms) V) (hg : W.heap.size ≤ g) : Vw W gv base (fun k => k ≠ g2 ∧ k ≠ ms ∧ k ≠ g) V := by
 obtain ⟨vp, vb, m1, m2, m3, fp, h⟩ := h
 exact ⟨_, _, _, _, _, _, h.move (Nat.le_refl _) (fun _ _ _ _ => rfl) (fun k _ hk hl => ⟨hk.1, hk.2, fun e => by omega⟩)⟩
theorem Vw.mono (h : Vw W gv base ok V) (ho : ∀ k, ok k → zy k) : Vw W gv base zy V := by
 obtain ⟨vp, vb, m1, m2, m3, fp, h⟩ := h
 exact ⟨_, _, _, _, _, _, h.move (Nat.le_refl _) (fun _ _ _ _ => rfl) (fun k _ hk _ => ho k hk)⟩
theorem Vw.reads (h : Vw W gv base ok V) : ∃ Ap cp Ab cb m1 m2 m3, VwV W Ap Ab cp cb m1 m2 m3 V ∧ bC W gv (mO Ap Ab cp cb m1 m2 m3 V) 30 ∧ ∀ {g : Nat} {W2 : World}, W.grownBy W2 (some g) → (g < base ∨ ¬ ok g) → VwV W2 Ap Ab cp cb m1 m2 m3 V := by
 obtain ⟨vp, vb, m1, m2, m3, fp, h⟩ := h
 obtain ⟨Ap, cp, rfl, h1, h2⟩ := Kd.R_reads h.pr
 obtain ⟨Ab, cb, rfl, h3, h4⟩ := Kd.R_reads h.br
 rw [List.length_map] at h3 h4
 have hb := h.box
 rw [List.length_map] at hb
 have mk : ∀ {W2 : World}, VwC W2 gv base ok V (.slice Ap V.pools.length cp) (.slice Ab (V.bcs.map Prod.fst).length cb) m1 m2 m3 fp → VwV W2 Ap Ab cp cb m1 m2 m3 V := fun {W2} h => by
  obtain ⟨_, _, e1, _, g2⟩ := Kd.R_reads h.pr
  cases e1
  obtain ⟨_, _, e1, _, g4⟩ := Kd.R_reads h.br
  cases e1
  rw [List.length_map] at g4
  exact ⟨g2, h1, g4, h3, h.am, h.hm, h.nm, dY.now h.inn⟩
 exact ⟨Ap, cp, Ab, cb, m1, m2, m3, mk h, hb, fun {g W2} hg hn => mk (h.grown hg (fun k hk => by cases hk; exact hn))⟩
end
theorem DL {κ : Type} [DecidableEq κ] (k : κ) (v : Value) (l : List (κ × Value)) : (dx k (pW l k v) 0).map Prod.snd = some v := by
 have gen : ∀ (l : List (κ × Value)) (i : Nat), (dx k l i = none → (dx k (l ++ [(k, v)]) i).map Prod.snd = some v) ∧ (∀ j u, dx k l i = some (j, u) → (dx k (l.modify (j - i) (fun p => (p.1, v))) i).map Prod.snd = some v) := by
  intro l
  induction l with
  | nil => exact fun i => ⟨fun _ => by simp [dx], fun j u h => by cases h⟩
  | cons p l ih =>
   intro i
   refine ⟨fun h => ?_, fun j u h => ?_⟩
   ·unfold dx at h
    split at h
    ·cases h
    ·next hk =>
     rw [List.cons_append]
     unfold dx
     rw [if_neg hk]
     exact (ih (i + 1)).1 h
   ·unfold dx at h
    split at h
    ·next hk =>
     cases h
     rw [Nat.sub_self, List.modify_zero_cons]
     unfold dx
     rw [if_pos hk]
     rfl
    ·next hk =>
     have hj := (xl h).1
     rw [show j - i = (j - (i + 1)) + 1 by omega, List.modify_succ_cons]
     unfold dx
     rw [if_neg hk]
     exact (ih (i + 1)).2 j u h
 unfold pW
 cases h : dx k l 0 with
 | none => exact (gen l 0).1 h
 | some q => exact (gen l 0).2 q.1 q.2 h
def nb (l : List It) : List (ByteArray × Value) := l.map fun x => (x.f0, .int .i64 1)
theorem Df {l : List It} {key : ByteArray} (h : ∀ x ∈ l, x.f0 ≠ key) : dx key (nb l) 0 = none := xm (fun p hp e => by
 obtain ⟨x, hx, rfl⟩ := List.mem_map.1 hp
 exact h x hx e.symm)
theorem De {key : ByteArray} : ∀ {l : List It} {i : Nat}, (∃ x ∈ l, x.f0 = key) → (dx key (nb l) i).map Prod.snd = some (.int .i64 1)
 | [], _, h => by obtain ⟨x, hx, _⟩ := h; cases hx
 | y :: l, i, h => by
  show (dx key ((y.f0, Value.int .i64 1) :: nb l) i).map Prod.snd = _
  unfold dx
  by_cases hk : key = y.f0
  ·rw [if_pos hk]; rfl
  ·rw [if_neg hk]
   obtain ⟨x, hx, he⟩ := h
   rcases List.mem_cons.1 hx with rfl | hx
   ·exact absurd he.symm hk
   ·exact De ⟨x, hx, he⟩
theorem uH {W : World} {g : Nat} {l : List (ByteArray × Value)} {key : ByteArray} (h : eR Value.string W g l) {n : Int} (hn : ((dx key l 0).map Prod.snd).getD (.int .i64 0) = .int .i64 n) : (Instr.lookup 92 (.map (some g)) (.string key) false).run Tryz.prog W = .ok (.int .i64 n) W := by
 rw [Ds ya Tryz.underlying92 (z := .int .i64 0) (fun _ => by kernel_rfl) h key false, if_neg (by decide), hn]
def Gs (l : List It) (w : World) (e : Ending) (w' : World) : Prop :=
 (if iE l = true then ∃ Ap Ab cp cb m1 m2 m3 V, e = .returned (.tuple #[.agg (mO Ap Ab cp cb m1 m2 m3 V).toArray, .int .i64 0]) ∧ VwV w' Ap Ab cp cb m1 m2 m3 V ∧ VSof V (l.map gP)
  else e = .returned (.tuple #[.agg pV.toArray, .int .i64 3])) ∧ Below w.heap.size w w'
theorem KS {l : List It} {w w' : World} {e : Ending} (he : e = .returned (.tuple #[.agg pV.toArray, .int .i64 3])) (h : iE l = false) (hb : Below w.heap.size w w') : Gs l w e w' := ⟨by rw [h]; exact he, hb⟩
theorem QL {l : List It} {w w' : World} {e : Ending} {Ap Ab : Option Addr} {cp cb m1 m2 m3 : Nat} {V : VS} (he : e = .returned (.tuple #[.agg (mO Ap Ab cp cb m1 m2 m3 V).toArray, .int .i64 0])) (h : iE l = true) (hv : VwV w' Ap Ab cp cb m1 m2 m3 V) (hs : VSof V (l.map gP)) (hb : Below w.heap.size w w') : Gs l w e w' := ⟨by rw [h]; exact ⟨_, _, _, _, _, _, _, _, he, hv, hs⟩, hb⟩
set_option maxHeartbeats 16000000 in
set_option maxRecDepth 100000 in
theorem Cb (l : List It) (hl : l.length ≤ 1000) (hz : ∀ x ∈ l, x.f0.size ≤ 1000 ∧ x.f1.size ≤ 1000000) (A : Option Addr) (c : Nat) (w : World) (hC : Kd.C rB w A l.length l) (hc : l.length ≤ c) :
  Calls Tryz.prog 7 #[.slice A l.length c] w (Gs l w) := by
 have HC := ak hC
 have HZ := ak hz
 clear hC hz
 go_enter Tryz.func7, Tryz.ntmps7
 go_wp2_with (first
  | (refine aE (some 2) rfl rfl 30 rfl pV (fun _ => by kernel_rfl) ?_; intro g2 W1 dz cP aw; have HX := ak cP; have HB := ak aw; have fR := ak dz; clear cP aw dz)
  | ((with_reducible refine af (N := 8) rfl ?_); refine mZ rfl 26 rfl ?_; intro o1 W2 fx lv hb; have kg := ak (eR.new (enc := sA) lv); have mw := ak (show w.heap.size ≤ o1 ∧ g2 < o1 by have := HB.out.size; have := HX.out.lt; omega); replace HX := ak (HX.out.below hb); replace HB := ak (HB.out.trans (hb.mono HB.out.size)); clear hb fx lv)
  | ((with_reducible refine af (N := 9) rfl ?_); refine mZ rfl 27 rfl ?_; intro o2 W3 fx lv hb; have sJ := ak (eR.new (enc := Value.string) lv); have nL := ak (show o1 < o2 by have := kg.out.lt; omega); replace kg := ak (kg.out.below hb); replace HX := ak (HX.out.below hb); replace HB := ak (HB.out.trans (hb.mono HB.out.size)); clear hb fx lv)
  | ((with_reducible refine af (N := 10) rfl ?_); refine mZ rfl 28 rfl ?_; intro o3 W4 fx lv hb; have xN := ak (eR.new (enc := Value.string) lv); have qA := ak (show o2 < o3 by have := sJ.out.lt; omega); replace kg := ak (kg.out.below hb); replace sJ := ak (sJ.out.below hb); replace HX := ak (HX.out.below hb); replace HB := ak (HB.out.trans (hb.mono HB.out.size)); clear hb fx lv)
  | ((with_reducible refine af (N := 11) rfl ?_); refine dh rfl 30 #[(2, .tmp 8), (3, .tmp 9), (4, .tmp 10)] rfl [(2, .map (some o1)), (3, .map (some o2)), (4, .map (some o3))] (by simp only [List.map_toArray, List.map_cons, List.map_nil]; rfl) (sE (.slice none 0 0) (.slice none 0 0) (.map (some o1)) (.map (some o2)) (.map (some o3))) (St _ _ _) ?_)
  | (refine aE (some 4) rfl rfl 30 rfl pV (fun _ => by kernel_rfl) ?_; intro g4 W5 cQ FL hb; have HV := ak FL; have jf := ak (show o3 < g4 by have := xN.out.lt; omega); replace kg := ak (kg.out.below hb); replace sJ := ak (sJ.out.below hb); replace xN := ak (xN.out.below hb); replace HX := ak (HX.out.below hb); replace HB := ak (HB.out.trans (hb.mono HB.out.size)); clear hb FL cQ)
  | (refine ay rfl 30 (.tmp 4) (.tmp 11) rfl g4 (sE (.slice none 0 0) (.slice none 0 0) (.map (some o1)) (.map (some o2)) (.map (some o3))) rfl rfl 30 _ HV.out 5 (by kernel_rfl) rfl rfl (by intro u hu; simp [sE] at hu; rcases hu with rfl | rfl | rfl | rfl | rfl <;> rfl) ?_; intro W6 Ym jD; replace HV := ak Ym; have HNG := ak (show w.heap.size ≤ g4 ∧ g2 < g4 ∧ o1 < g4 ∧ o2 < g4 by have := jf.out; have := mw.out; have := nL.out; have := qA.out; omega); replace HX := ak (HX.out.grown jD (fun e => by have := HNG.out; have := Option.some.inj e; omega)); replace kg := ak (kg.out.grown jD (fun e => by have := HNG.out; have := Option.some.inj e; omega)); replace sJ := ak (sJ.out.grown jD (fun e => by have := HNG.out; have := Option.some.inj e; omega)); replace xN := ak (xN.out.grown jD (fun e => by have := jf.out; have := Option.some.inj e; omega)); replace HB := ak (HB.out.grown jD HB.out.size (by intro k hk; cases hk; exact HNG.out.1)); clear Ym jD)
  | ((with_reducible refine af (N := 12) rfl ?_); refine mZ rfl 92 rfl ?_; intro ms W7 hms lv hb; have HM := ak (eR.new (enc := Value.string) lv); have HGM := ak (show g4 < ms by have := HV.out.lt; omega); replace kg := ak (kg.out.below hb); replace sJ := ak (sJ.out.below hb); replace xN := ak (xN.out.below hb); replace HX := ak (HX.out.below hb); replace HV := ak (HV.out.below hb); replace HB := ak (HB.out.trans (hb.mono HB.out.size)); clear hb hms lv))
 have O5 := ak (show w.heap.size ≤ ms by have := HGM.out; have := HNG.out; omega)
 have pL := ak (show g2 < ms by have := HGM.out; have := HNG.out; omega)
 have HVW : Aside0 (Vw W7 g4 w.heap.size (fun k => k ≠ g2 ∧ k ≠ ms) ⟨[], [], [], [], []⟩) := ⟨⟨.slice none 0 0, .slice none 0 0, o1, o2, o3, fun _ => False, HV.out, Kd.R_nil _ _ _ _ _, Kd.R_nil _ _ _ _ _, kg.out, sJ.out, xN.out, fun W' _ => ⟨fun p hp => (by cases hp), fun p hp => (by cases hp)⟩, fun _ h => h.elim,
  by have := HNG.out; have := HGM.out; refine ⟨by omega, ⟨by omega, by omega⟩, fun h => h⟩, by have := HNG.out; have := HGM.out; have := mw.out; refine ⟨by omega, ⟨by omega, by omega⟩, fun h => h⟩, by have := HNG.out; have := HGM.out; have := mw.out; have := nL.out; refine ⟨by omega, ⟨by omega, by omega⟩, fun h => h⟩, by have := HNG.out; have := HGM.out; have := mw.out; have := nL.out; have := qA.out; have := jf.out; refine ⟨by omega, ⟨by omega, by omega⟩, fun h => h⟩, by have := nL.out; omega, by have := nL.out; have := qA.out; omega, by have := qA.out; omega⟩⟩
 clear HV kg sJ xN mw nL qA jf HGM HNG
 go_loopw [7, 15] (fun _ i Z => ∃ j : Nat, j ≤ l.length ∧ i = .int .i64 j ∧ Aside0 (∀ i, i < j → lX l i = true) ∧ Aside0 (∃ V, VSof V ((l.take j).map gP) ∧ Vw Z g4 w.heap.size (fun k => k ≠ g2 ∧ k ≠ ms) V) ∧ Aside0 (bC Z g2 pV 30) ∧ Aside0 (eR Value.string Z ms (nb (l.take j))) ∧ Aside0 (Below w.heap.size w Z)) (fun _ i _ => l.length - (intOf i).toNat)
 case atStart => exact ⟨0, by omega, rfl, ⟨fun i hi => by omega⟩, ⟨⟨_, VSof.nil, HVW.out⟩⟩, HX, HM, HB⟩
 case round =>
  clear HVW HX HM HB
  obtain ⟨j, hj, rfl, HFI, HVV, HX, HM, HB⟩ := hrel
  obtain ⟨Z, rfl⟩ : ∃ Z : World, Z = wr := ⟨_, rfl⟩
  obtain ⟨V, hVS, hV⟩ := HVV.out
  have HV := ak hV
  clear hV HVV
  by_cases hjn : j < l.length
  ·have hjb : decide ((j : Int) < (l.length : Int)) = true := by simp; omega
   obtain ⟨ad, eA, j7, eD, ji⟩ := U8 (Kd.C_below HC.out HB.out) j (by omega) (by omega)
   cases eA
   rw [Int.toNat_natCast] at j7 eD ji
   have p1 : ((j : Int) < (l.length : Int)) = True := eq_true (by omega)
   have hsz := HZ.out (ir l (j : Int)) (by simp [ir, List.getD, hjn])
   have htk := QQ l j hjn
   obtain ⟨sn, hsn⟩ : ∃ b, uI l j = b := ⟨_, rfl⟩
   have hno := fun h => CL hjn (show lX l j = false from h)
   have hfi : lX l j = (!sn && !(gP (ir l (j : Int))).isNo) := by unfold lX; rw [hsn]
   have hsd : sn = false → ∀ x ∈ l.take j, x.f0 ≠ (ir l (j : Int)).f0 := fun h => Hy (hsn.trans h)
   have hse : sn = true → ∃ x ∈ l.take j, x.f0 = (ir l (j : Int)).f0 := fun h => by
    rw [← hsn] at h
    unfold uI at h
    obtain ⟨x, hx, he⟩ := List.any_eq_true.1 h
    exact ⟨x, hx, of_decide_eq_true he⟩
   have hts : ∀ x ∈ l.take j, x.f0.size ≤ 1000 := fun x hx => (HZ.out x (List.mem_of_mem_take hx)).1
   have htl : (l.take j).length ≤ 1000 := by rw [List.length_take]; omega
   generalize ir l (j : Int) = x at j7 eD ji hsz htk hfi hsd hse
   obtain ⟨key, val, rev⟩ := x
   dsimp only at j7 eD ji hsz hsd hse
   have HTK := ak htk
   clear hsn htk
   cases sn with
   | true =>
    have wT := ak (fun (Y : World) (hm : eR Value.string Y ms (nb (l.take j))) => uH hm (n := 1) (by rw [De (hse rfl)]; rfl))
    have je := ak (fun (Y : World) (hm : eR Value.string Y ms (pW (nb (l.take j)) key (.int .i64 2))) => uH hm (n := 2) (by rw [DL]; rfl))
    have HNO := ak (hno (by rw [hfi]; rfl))
    clear hsz hfi hsd hse hts htl hVS hno HTK HFI
    go_wp2_with (first
     | go_big_skip
     | (refine aE (some 7) rfl rfl 58 rfl [.string ⟨#[]⟩, .string ⟨#[]⟩, .int .i64 0] (fun _ => by kernel_rfl) ?_; intro g7 W8 dq yv hb; have HI := ak yv; have iP := ak (show g2 < g7 ∧ ms < g7 ∧ w.heap.size ≤ g7 by have := HX.out.lt; have := HM.out.lt; have := HB.out.size; omega); replace HV := ak ((HV.out.shut dq).below hb); replace HM := ak (HM.out.below hb); replace HX := ak (HX.out.below hb); replace HB := ak (HB.out.trans (hb.mono HB.out.size)); clear hb yv dq)
     | (refine ay rfl 58 (.tmp 7) (.tmp 18) rfl g7 [.string key, .string val, .int .i64 rev] rfl rfl 58 _ HI.out 3 (by kernel_rfl) rfl rfl (by intro u hu; simp at hu; rcases hu with rfl | rfl | rfl <;> rfl) ?_; intro W9 DG cI; replace HI := ak DG; replace HV := ak (HV.out.grown cI (fun k hk => .inr (fun h => h.2.2 (Option.some.inj hk).symm))); replace HM := ak (HM.out.grown cI (fun e => by have := iP.out; have := Option.some.inj e; omega)); replace HX := ak (HX.out.grown cI (fun e => by have := iP.out; have := Option.some.inj e; omega)); replace HB := ak (HB.out.grown cI HB.out.size (by intro k hk; cases hk; exact iP.out.2.2)); have kU := HI.out.cell 0 _ rfl; clear DG cI)
     | ((with_reducible refine af (N := 22) rfl ?_); refine mE rfl 92 (.tmp 19) (.tmp 21) rfl (.map (some ms)) (.string key) rfl rfl (wT.out _ HM.out) ?_)
     | (at_mapUpdate; obtain ⟨vq, jb, nt, gJ⟩ := qK ya Tryz.underlying92 HM.out key (.int .i64 2); refine lg rfl 92 (.tmp 19) (.tmp 21) (.tmp 23) rfl (.map (some ms)) (.string key) (.int .i64 2) rfl rfl rfl jb ?_; replace HM := ak nt; replace HI := ak (HI.out.grown gJ (fun e => by have := iP.out; have := Option.some.inj e; omega)); replace HX := ak (HX.out.grown gJ (fun e => by have := pL.out; have := Option.some.inj e; omega)); replace HV := ak (HV.out.grown gJ (fun k hk => .inr (fun h => h.2.1 (Option.some.inj hk).symm))); replace HB := ak (HB.out.grown gJ HB.out.size (by intro k hk; cases hk; exact O5.out)); clear kU jb nt gJ; have kU := HI.out.cell 0 _ rfl)
     | ((with_reducible refine af (N := 27) rfl ?_); refine mE rfl 92 (.tmp 24) (.tmp 26) rfl (.map (some ms)) (.string key) rfl rfl (je.out _ HM.out) ?_; clear kU)
     | ((with_reducible refine af (N := 59) rfl ?_); refine dE rfl 30 #[] rfl pV (Ge _) ?_)
     | (refine ay rfl 30 (.tmp 2) (.tmp 59) rfl g2 pV rfl rfl 30 _ HX.out 5 (by kernel_rfl) rfl rfl (by intro u hu; simp [pV] at hu; rcases hu with rfl | rfl | rfl | rfl | rfl <;> rfl) ?_; intro Z9 eP cI))
    exact bodyPost_ret (bT rfl _ _ g2 30 _ (0, 0) _ rfl eP Tryz.underlying30 rfl (by kernel_rfl)) rfl (KS rfl HNO.out (HB.out.grown cI HB.out.size (by intro k hk; cases hk; exact fR.out)))
   | false =>
    have hsd := hsd rfl
    have wT := ak (fun (Y : World) (hm : eR Value.string Y ms (nb (l.take j))) => uH hm (n := 0) (by rw [Df hsd]; rfl))
    have je := ak (fun (Y : World) (hm : eR Value.string Y ms (pW (nb (l.take j)) key (.int .i64 1))) => uH hm (n := 1) (by rw [DL]; rfl))
    have HUP := ak (show pW (nb (l.take j)) key (.int .i64 1) = nb (l.take (j + 1)) by
     unfold pW
     rw [Df hsd, HTK.out]
     unfold nb
     rw [List.map_append]
     rfl)
    have hln := hVS.lens
    rw [List.length_map] at hln
    have hst : (l.take (j + 1)).map gP = (l.take j).map gP ++ [dt key val] := by rw [HTK.out, List.map_append]; rfl
    have hna : gy key val = true → ∀ p ∈ V.affs, p.1 ≠ ((oA key).1, (oA key).2.1) := by rw [hVS.affs]; exact Gl hts hsz.1 hsd
    have hnh : ic key val = true → ∀ p ∈ V.hcs, p.1 ≠ (oN fa key).1 := fun h p hp => Fy hsd h (p.1, p.2.2) (by rw [← hVS.hnds]; exact List.mem_map_of_mem hp)
    have hnn : isNode key val = true → ∀ p ∈ V.nodes, p.1 ≠ (oN iT key).1 := by rw [hVS.nodes]; exact Dp hsd
    have HLK := ak (TM key val rev)
    have hfr : ∀ {g7 : Nat} {Y : World}, g2 < Y.heap.size ∧ ms < Y.heap.size ∧ g7 < Y.heap.size → ∀ k, Y.heap.size ≤ k → k ≠ g2 ∧ k ≠ ms ∧ k ≠ g7 := fun {_ _} h k hk => by omega
    have hisno : (gP ⟨key, val, rev⟩).isNo = _ := WH key val
    rw [hisno] at hfi
    have Qv := ak (show gf key val = true → VSof V ((l.take (j + 1)).map gP) from fun h => by rw [hst]; exact hVS.lock h)
    have pN := ak (show gf key val = false → ∀ (g7 : Nat) (Y : World), Vw Y g4 w.heap.size (fun k => k ≠ g2 ∧ k ≠ ms ∧ k ≠ g7) V → (g2 < Y.heap.size ∧ ms < Y.heap.size ∧ g7 < Y.heap.size) → w.heap.size ≤ Y.heap.size → Calls Tryz.prog 29 #[.pointer (some ⟨g4, 0, none⟩), tJ key val rev] Y (fun e Y' => ∃ V1, (eT key val = true → VSof V1 ((l.take (j + 1)).map gP)) ∧ oD (eT key val) V1 V Y g4 w.heap.size (fun k => k ≠ g2 ∧ k ≠ ms ∧ k ≠ g7) e Y') from fun h0 _ Y h1 h2 h3 => (QK key val hsz.1 hsz.2 rev _ _ _ V Y h1 (hfr h2) h3 (by omega)).mono (fun e Y' hp => ⟨_, fun h => by rw [hst]; exact hVS.pool h0 h, hp⟩))
    have nV := ak (show gf key val = false → eT key val = false → ∀ (g7 : Nat) (Y : World), Vw Y g4 w.heap.size (fun k => k ≠ g2 ∧ k ≠ ms ∧ k ≠ g7) V → (g2 < Y.heap.size ∧ ms < Y.heap.size ∧ g7 < Y.heap.size) → w.heap.size ≤ Y.heap.size → Calls Tryz.prog 30 #[.pointer (some ⟨g4, 0, none⟩), tJ key val rev] Y (fun e Y' => ∃ V1, (ie key val = true → VSof V1 ((l.take (j + 1)).map gP)) ∧ oD (ie key val) V1 V Y g4 w.heap.size (fun k => k ≠ g2 ∧ k ≠ ms ∧ k ≠ g7) e Y') from fun h0 YK _ Y h1 h2 h3 => (Nl key val hsz.1 hsz.2 rev _ _ _ V Y h1 (hfr h2) h3 (by omega)).mono (fun e Y' hp => by obtain ⟨cs, hp⟩ := hp; exact ⟨_, fun h => by rw [hst]; exact hVS.blk h0 YK h cs, hp⟩))
    have oG := ak (show gf key val = false → eT key val = false → ie key val = false → ∀ (g7 : Nat) (Y : World), Vw Y g4 w.heap.size (fun k => k ≠ g2 ∧ k ≠ ms ∧ k ≠ g7) V → (g2 < Y.heap.size ∧ ms < Y.heap.size ∧ g7 < Y.heap.size) → w.heap.size ≤ Y.heap.size → Calls Tryz.prog 31 #[.pointer (some ⟨g4, 0, none⟩), tJ key val rev] Y (fun e Y' => ∃ V1, (gy key val = true → VSof V1 ((l.take (j + 1)).map gP)) ∧ oD (gy key val) V1 V Y g4 w.heap.size (fun k => k ≠ g2 ∧ k ≠ ms ∧ k ≠ g7) e Y') from fun h0 BH MB _ Y h1 h2 h3 => (Te key val hsz.1 rev _ _ _ V Y h1 (hfr h2) h3 hna).mono (fun e Y' hp => ⟨_, fun h => by rw [hst]; exact hVS.aff h0 BH MB h, hp⟩))
    have my := ak (show gf key val = false → eT key val = false → ie key val = false → gy key val = false → ∀ (g7 : Nat) (Y : World), Vw Y g4 w.heap.size (fun k => k ≠ g2 ∧ k ≠ ms ∧ k ≠ g7) V → (g2 < Y.heap.size ∧ ms < Y.heap.size ∧ g7 < Y.heap.size) → w.heap.size ≤ Y.heap.size → Calls Tryz.prog 32 #[.pointer (some ⟨g4, 0, none⟩), tJ key val rev] Y (fun e Y' => ∃ V1, (ic key val = true → VSof V1 ((l.take (j + 1)).map gP)) ∧ oD (ic key val) V1 V Y g4 w.heap.size (fun k => k ≠ g2 ∧ k ≠ ms ∧ k ≠ g7) e Y') from fun h0 BH MB UH _ Y h1 h2 h3 => (KU key val hsz.1 hsz.2 rev _ _ _ V Y h1 (hfr h2) h3 hnh).mono (fun e Y' hp => by obtain ⟨u, hp⟩ := hp; exact ⟨_, fun h => by rw [hst]; exact hVS.hnd h0 BH MB UH h u, hp⟩))
    have qD := ak (show gf key val = false → eT key val = false → ie key val = false → gy key val = false → ic key val = false → ∀ (g7 : Nat) (Y : World), Vw Y g4 w.heap.size (fun k => k ≠ g2 ∧ k ≠ ms ∧ k ≠ g7) V → (g2 < Y.heap.size ∧ ms < Y.heap.size ∧ g7 < Y.heap.size) → w.heap.size ≤ Y.heap.size → Calls Tryz.prog 33 #[.pointer (some ⟨g4, 0, none⟩), tJ key val rev] Y (fun e Y' => ∃ V1, (isNode key val = true → VSof V1 ((l.take (j + 1)).map gP)) ∧ oD (isNode key val) V1 V Y g4 w.heap.size (fun k => k ≠ g2 ∧ k ≠ ms ∧ k ≠ g7) e Y') from fun h0 BH MB UH h04 _ Y h1 h2 h3 => (QM key val hsz.1 rev _ _ _ V Y h1 (hfr h2) h3 hnn).mono (fun e Y' hp => ⟨_, fun h => by rw [hst]; exact hVS.node h0 BH MB UH h04 h, hp⟩))
    generalize gf key val = b0 at HLK Qv pN nV oG my qD hfi
    generalize eT key val = b1 at pN nV oG my qD hfi
    generalize ie key val = b2 at nV oG my qD hfi
    generalize gy key val = b3 at oG my qD hfi
    generalize ic key val = b4 at my qD hfi
    generalize isNode key val = b5 at qD hfi
    have HS := Qv
    have hcs : (lX l j = true ∧ (b0 = true ∨ (b0 = false ∧ b1 = true) ∨ (b0 = false ∧ b1 = false ∧ b2 = true) ∨ (b0 = false ∧ b1 = false ∧ b2 = false ∧ b3 = true) ∨ (b0 = false ∧ b1 = false ∧ b2 = false ∧ b3 = false ∧ b4 = true) ∨ (b0 = false ∧ b1 = false ∧ b2 = false ∧ b3 = false ∧ b4 = false ∧ b5 = true))) ∨ (iE l = false ∧ b0 = false ∧ b1 = false ∧ b2 = false ∧ b3 = false ∧ b4 = false ∧ b5 = false) := by
     clear HLK HS Qv pN nV oG my qD
     cases b0 <;> cases b1 <;> cases b2 <;> cases b3 <;> cases b4 <;> cases b5 <;> first | exact .inr ⟨hno (hfi.trans rfl), rfl, rfl, rfl, rfl, rfl, rfl⟩ | exact .inl ⟨hfi.trans rfl, by decide⟩
    have HVO := HV
    clear hsz hsd hse hts htl hVS hno hfi hln hst hna hnh hnn hfr hisno Qv HTK HVO
    rcases hcs with ⟨hfj, hcs⟩ | ⟨hnog, rfl, rfl, rfl, rfl, rfl, rfl⟩
    ·have HFJ := ak hfj
     clear hfj
     rcases hcs with rfl | ⟨rfl, rfl⟩ | ⟨rfl, rfl, rfl⟩ | ⟨rfl, rfl, rfl, rfl⟩ | ⟨rfl, rfl, rfl, rfl, rfl⟩ | ⟨rfl, rfl, rfl, rfl, rfl, rfl⟩
     all_goals
      (try replace pN := ak (pN.out rfl))
      (try replace nV := ak (nV.out rfl rfl))
      (try replace oG := ak (oG.out rfl rfl rfl))
      (try replace my := ak (my.out rfl rfl rfl rfl))
      (try replace qD := ak (qD.out rfl rfl rfl rfl rfl))
      go_wp2_with (first
       | go_big_skip
       | (refine aE (some 7) rfl rfl 58 rfl [.string ⟨#[]⟩, .string ⟨#[]⟩, .int .i64 0] (fun _ => by kernel_rfl) ?_; intro g7 W8 dq yv hb; have HI := ak yv; have iP := ak (show g2 < g7 ∧ ms < g7 ∧ w.heap.size ≤ g7 by have := HX.out.lt; have := HM.out.lt; have := HB.out.size; omega); replace HV := ak ((HV.out.shut dq).below hb); replace HM := ak (HM.out.below hb); replace HX := ak (HX.out.below hb); replace HB := ak (HB.out.trans (hb.mono HB.out.size)); clear hb yv dq)
       | (refine ay rfl 58 (.tmp 7) (.tmp 18) rfl g7 [.string key, .string val, .int .i64 rev] rfl rfl 58 _ HI.out 3 (by kernel_rfl) rfl rfl (by intro u hu; simp at hu; rcases hu with rfl | rfl | rfl <;> rfl) ?_; intro W9 DG cI; replace HI := ak DG; replace HV := ak (HV.out.grown cI (fun k hk => .inr (fun h => h.2.2 (Option.some.inj hk).symm))); replace HM := ak (HM.out.grown cI (fun e => by have := iP.out; have := Option.some.inj e; omega)); replace HX := ak (HX.out.grown cI (fun e => by have := iP.out; have := Option.some.inj e; omega)); replace HB := ak (HB.out.grown cI HB.out.size (by intro k hk; cases hk; exact iP.out.2.2)); have kU := HI.out.cell 0 _ rfl; clear DG cI)
       | ((with_reducible refine af (N := 22) rfl ?_); refine mE rfl 92 (.tmp 19) (.tmp 21) rfl (.map (some ms)) (.string key) rfl rfl (wT.out _ HM.out) ?_)
       | (at_mapUpdate; obtain ⟨vq, jb, nt, gJ⟩ := qK ya Tryz.underlying92 HM.out key (.int .i64 1); refine lg rfl 92 (.tmp 19) (.tmp 21) (.tmp 23) rfl (.map (some ms)) (.string key) (.int .i64 1) rfl rfl rfl jb ?_; replace HM := ak nt; replace HI := ak (HI.out.grown gJ (fun e => by have := iP.out; have := Option.some.inj e; omega)); replace HX := ak (HX.out.grown gJ (fun e => by have := pL.out; have := Option.some.inj e; omega)); replace HV := ak (HV.out.grown gJ (fun k hk => .inr (fun h => h.2.1 (Option.some.inj hk).symm))); replace HB := ak (HB.out.grown gJ HB.out.size (by intro k hk; cases hk; exact O5.out)); clear kU jb nt gJ; have kU := HI.out.cell 0 _ rfl)
       | ((with_reducible refine af (N := 27) rfl ?_); refine mE rfl 92 (.tmp 24) (.tmp 26) rfl (.map (some ms)) (.string key) rfl rfl (je.out _ HM.out) ?_; clear kU)
       | ((with_reducible refine af (N := 30) rfl ?_); refine bL (by rfl) ?_; refine a7 rfl 58 (.tmp 7) rfl g7 rfl _ _ _ HI.out Tryz.underlying58 rfl 3 (by kernel_rfl) rfl ?_)
       | (go_at_call 28; refine (oX.calls key val rev _ _ HLK.out).mono ?_; rintro e V1 ⟨rfl, hb⟩; replace HI := ak (HI.out.below hb); replace HX := ak (HX.out.below hb); replace HM := ak (HM.out.below hb); replace HV := ak (HV.out.below hb); replace HB := ak (HB.out.trans (hb.mono HB.out.size)); clear hb)
       | ((with_reducible refine af (N := 34) rfl ?_); refine bL (by rfl) ?_; refine a7 rfl 58 (.tmp 7) rfl g7 rfl _ _ _ HI.out Tryz.underlying58 rfl 3 (by kernel_rfl) rfl ?_)
       | (go_at_call 29; refine (pN.out _ _ HV.out (by have := HX.out.lt; have := HM.out.lt; have := HI.out.lt; omega) HB.out.size).mono ?_; rintro e V2 ⟨V1, hS, rfl, hvv, ht⟩; replace HS := ak hS; replace HV := ak hvv; replace HI := ak (HI.out.tch ht (fun h => h.2.2 rfl)); replace HX := ak (HX.out.tch ht (fun h => h.1 rfl)); replace HM := ak (HM.out.kept (ht.block ms HM.out.lt (.inr (fun h => h.2.1 rfl)))); replace HB := ak (HB.out.trans (ht.toBelow HB.out.size)); clear hvv ht hS)
       | ((with_reducible refine af (N := 39) rfl ?_); refine bL (by rfl) ?_; refine a7 rfl 58 (.tmp 7) rfl g7 rfl _ _ _ HI.out Tryz.underlying58 rfl 3 (by kernel_rfl) rfl ?_)
       | (go_at_call 30; refine (nV.out _ _ HV.out (by have := HX.out.lt; have := HM.out.lt; have := HI.out.lt; omega) HB.out.size).mono ?_; rintro e V2 ⟨V1, hS, rfl, hvv, ht⟩; replace HS := ak hS; replace HV := ak hvv; replace HI := ak (HI.out.tch ht (fun h => h.2.2 rfl)); replace HX := ak (HX.out.tch ht (fun h => h.1 rfl)); replace HM := ak (HM.out.kept (ht.block ms HM.out.lt (.inr (fun h => h.2.1 rfl)))); replace HB := ak (HB.out.trans (ht.toBelow HB.out.size)); clear hvv ht hS)
       | ((with_reducible refine af (N := 44) rfl ?_); refine bL (by rfl) ?_; refine a7 rfl 58 (.tmp 7) rfl g7 rfl _ _ _ HI.out Tryz.underlying58 rfl 3 (by kernel_rfl) rfl ?_)
       | (go_at_call 31; refine (oG.out _ _ HV.out (by have := HX.out.lt; have := HM.out.lt; have := HI.out.lt; omega) HB.out.size).mono ?_; rintro e V2 ⟨V1, hS, rfl, hvv, ht⟩; replace HS := ak hS; replace HV := ak hvv; replace HI := ak (HI.out.tch ht (fun h => h.2.2 rfl)); replace HX := ak (HX.out.tch ht (fun h => h.1 rfl)); replace HM := ak (HM.out.kept (ht.block ms HM.out.lt (.inr (fun h => h.2.1 rfl)))); replace HB := ak (HB.out.trans (ht.toBelow HB.out.size)); clear hvv ht hS)
       | ((with_reducible refine af (N := 49) rfl ?_); refine bL (by rfl) ?_; refine a7 rfl 58 (.tmp 7) rfl g7 rfl _ _ _ HI.out Tryz.underlying58 rfl 3 (by kernel_rfl) rfl ?_)
       | (go_at_call 32; refine (my.out _ _ HV.out (by have := HX.out.lt; have := HM.out.lt; have := HI.out.lt; omega) HB.out.size).mono ?_; rintro e V2 ⟨V1, hS, rfl, hvv, ht⟩; replace HS := ak hS; replace HV := ak hvv; replace HI := ak (HI.out.tch ht (fun h => h.2.2 rfl)); replace HX := ak (HX.out.tch ht (fun h => h.1 rfl)); replace HM := ak (HM.out.kept (ht.block ms HM.out.lt (.inr (fun h => h.2.1 rfl)))); replace HB := ak (HB.out.trans (ht.toBelow HB.out.size)); clear hvv ht hS)
       | ((with_reducible refine af (N := 54) rfl ?_); refine bL (by rfl) ?_; refine a7 rfl 58 (.tmp 7) rfl g7 rfl _ _ _ HI.out Tryz.underlying58 rfl 3 (by kernel_rfl) rfl ?_)
       | (go_at_call 33; refine (qD.out _ _ HV.out (by have := HX.out.lt; have := HM.out.lt; have := HI.out.lt; omega) HB.out.size).mono ?_; rintro e V2 ⟨V1, hS, rfl, hvv, ht⟩; replace HS := ak hS; replace HV := ak hvv; replace HI := ak (HI.out.tch ht (fun h => h.2.2 rfl)); replace HX := ak (HX.out.tch ht (fun h => h.1 rfl)); replace HM := ak (HM.out.kept (ht.block ms HM.out.lt (.inr (fun h => h.2.1 rfl)))); replace HB := ak (HB.out.trans (ht.toBelow HB.out.size)); clear hvv ht hS))
      go_roundw
      case rel => exact ⟨j + 1, by omega, by go_num, ⟨fun i hi => by
       by_cases he : i < j
       ·exact HFI.out i he
       ·obtain rfl : i = j := by omega
        exact HFJ.out⟩, ⟨⟨_, HS.out (by trivial), HV.out.mono (fun k hk => ⟨hk.1, hk.2.1⟩)⟩⟩, HX, ⟨by rw [← HUP.out]; exact HM.out⟩, HB⟩
      case measure => simp [intOf]; omega
    ·have HNO := ak hnog
     clear hnog
     replace pN := ak (pN.out rfl)
     replace nV := ak (nV.out rfl rfl)
     replace oG := ak (oG.out rfl rfl rfl)
     replace my := ak (my.out rfl rfl rfl rfl)
     replace qD := ak (qD.out rfl rfl rfl rfl rfl)
     go_wp2_with (first
      | go_big_skip
      | (refine aE (some 7) rfl rfl 58 rfl [.string ⟨#[]⟩, .string ⟨#[]⟩, .int .i64 0] (fun _ => by kernel_rfl) ?_; intro g7 W8 dq yv hb; have HI := ak yv; have iP := ak (show g2 < g7 ∧ ms < g7 ∧ w.heap.size ≤ g7 by have := HX.out.lt; have := HM.out.lt; have := HB.out.size; omega); replace HV := ak ((HV.out.shut dq).below hb); replace HM := ak (HM.out.below hb); replace HX := ak (HX.out.below hb); replace HB := ak (HB.out.trans (hb.mono HB.out.size)); clear hb yv dq)
      | (refine ay rfl 58 (.tmp 7) (.tmp 18) rfl g7 [.string key, .string val, .int .i64 rev] rfl rfl 58 _ HI.out 3 (by kernel_rfl) rfl rfl (by intro u hu; simp at hu; rcases hu with rfl | rfl | rfl <;> rfl) ?_; intro W9 DG cI; replace HI := ak DG; replace HV := ak (HV.out.grown cI (fun k hk => .inr (fun h => h.2.2 (Option.some.inj hk).symm))); replace HM := ak (HM.out.grown cI (fun e => by have := iP.out; have := Option.some.inj e; omega)); replace HX := ak (HX.out.grown cI (fun e => by have := iP.out; have := Option.some.inj e; omega)); replace HB := ak (HB.out.grown cI HB.out.size (by intro k hk; cases hk; exact iP.out.2.2)); have kU := HI.out.cell 0 _ rfl; clear DG cI)
      | ((with_reducible refine af (N := 22) rfl ?_); refine mE rfl 92 (.tmp 19) (.tmp 21) rfl (.map (some ms)) (.string key) rfl rfl (wT.out _ HM.out) ?_)
      | (at_mapUpdate; obtain ⟨vq, jb, nt, gJ⟩ := qK ya Tryz.underlying92 HM.out key (.int .i64 1); refine lg rfl 92 (.tmp 19) (.tmp 21) (.tmp 23) rfl (.map (some ms)) (.string key) (.int .i64 1) rfl rfl rfl jb ?_; replace HM := ak nt; replace HI := ak (HI.out.grown gJ (fun e => by have := iP.out; have := Option.some.inj e; omega)); replace HX := ak (HX.out.grown gJ (fun e => by have := pL.out; have := Option.some.inj e; omega)); replace HV := ak (HV.out.grown gJ (fun k hk => .inr (fun h => h.2.1 (Option.some.inj hk).symm))); replace HB := ak (HB.out.grown gJ HB.out.size (by intro k hk; cases hk; exact O5.out)); clear kU jb nt gJ; have kU := HI.out.cell 0 _ rfl)
      | ((with_reducible refine af (N := 27) rfl ?_); refine mE rfl 92 (.tmp 24) (.tmp 26) rfl (.map (some ms)) (.string key) rfl rfl (je.out _ HM.out) ?_; clear kU)
      | ((with_reducible refine af (N := 30) rfl ?_); refine bL (by rfl) ?_; refine a7 rfl 58 (.tmp 7) rfl g7 rfl _ _ _ HI.out Tryz.underlying58 rfl 3 (by kernel_rfl) rfl ?_)
      | (go_at_call 28; refine (oX.calls key val rev _ _ HLK.out).mono ?_; rintro e V1 ⟨rfl, hb⟩; replace HI := ak (HI.out.below hb); replace HX := ak (HX.out.below hb); replace HM := ak (HM.out.below hb); replace HV := ak (HV.out.below hb); replace HB := ak (HB.out.trans (hb.mono HB.out.size)); clear hb)
      | ((with_reducible refine af (N := 34) rfl ?_); refine bL (by rfl) ?_; refine a7 rfl 58 (.tmp 7) rfl g7 rfl _ _ _ HI.out Tryz.underlying58 rfl 3 (by kernel_rfl) rfl ?_)
      | (go_at_call 29; refine (pN.out _ _ HV.out (by have := HX.out.lt; have := HM.out.lt; have := HI.out.lt; omega) HB.out.size).mono ?_; rintro e V2 ⟨V1, hS, rfl, hvv, ht⟩; replace HS := ak hS; replace HV := ak hvv; replace HI := ak (HI.out.tch ht (fun h => h.2.2 rfl)); replace HX := ak (HX.out.tch ht (fun h => h.1 rfl)); replace HM := ak (HM.out.kept (ht.block ms HM.out.lt (.inr (fun h => h.2.1 rfl)))); replace HB := ak (HB.out.trans (ht.toBelow HB.out.size)); clear hvv ht hS)
      | ((with_reducible refine af (N := 39) rfl ?_); refine bL (by rfl) ?_; refine a7 rfl 58 (.tmp 7) rfl g7 rfl _ _ _ HI.out Tryz.underlying58 rfl 3 (by kernel_rfl) rfl ?_)
      | (go_at_call 30; refine (nV.out _ _ HV.out (by have := HX.out.lt; have := HM.out.lt; have := HI.out.lt; omega) HB.out.size).mono ?_; rintro e V2 ⟨V1, hS, rfl, hvv, ht⟩; replace HS := ak hS; replace HV := ak hvv; replace HI := ak (HI.out.tch ht (fun h => h.2.2 rfl)); replace HX := ak (HX.out.tch ht (fun h => h.1 rfl)); replace HM := ak (HM.out.kept (ht.block ms HM.out.lt (.inr (fun h => h.2.1 rfl)))); replace HB := ak (HB.out.trans (ht.toBelow HB.out.size)); clear hvv ht hS)
      | ((with_reducible refine af (N := 44) rfl ?_); refine bL (by rfl) ?_; refine a7 rfl 58 (.tmp 7) rfl g7 rfl _ _ _ HI.out Tryz.underlying58 rfl 3 (by kernel_rfl) rfl ?_)
      | (go_at_call 31; refine (oG.out _ _ HV.out (by have := HX.out.lt; have := HM.out.lt; have := HI.out.lt; omega) HB.out.size).mono ?_; rintro e V2 ⟨V1, hS, rfl, hvv, ht⟩; replace HS := ak hS; replace HV := ak hvv; replace HI := ak (HI.out.tch ht (fun h => h.2.2 rfl)); replace HX := ak (HX.out.tch ht (fun h => h.1 rfl)); replace HM := ak (HM.out.kept (ht.block ms HM.out.lt (.inr (fun h => h.2.1 rfl)))); replace HB := ak (HB.out.trans (ht.toBelow HB.out.size)); clear hvv ht hS)
      | ((with_reducible refine af (N := 49) rfl ?_); refine bL (by rfl) ?_; refine a7 rfl 58 (.tmp 7) rfl g7 rfl _ _ _ HI.out Tryz.underlying58 rfl 3 (by kernel_rfl) rfl ?_)
      | (go_at_call 32; refine (my.out _ _ HV.out (by have := HX.out.lt; have := HM.out.lt; have := HI.out.lt; omega) HB.out.size).mono ?_; rintro e V2 ⟨V1, hS, rfl, hvv, ht⟩; replace HS := ak hS; replace HV := ak hvv; replace HI := ak (HI.out.tch ht (fun h => h.2.2 rfl)); replace HX := ak (HX.out.tch ht (fun h => h.1 rfl)); replace HM := ak (HM.out.kept (ht.block ms HM.out.lt (.inr (fun h => h.2.1 rfl)))); replace HB := ak (HB.out.trans (ht.toBelow HB.out.size)); clear hvv ht hS)
      | ((with_reducible refine af (N := 54) rfl ?_); refine bL (by rfl) ?_; refine a7 rfl 58 (.tmp 7) rfl g7 rfl _ _ _ HI.out Tryz.underlying58 rfl 3 (by kernel_rfl) rfl ?_)
      | (go_at_call 33; refine (qD.out _ _ HV.out (by have := HX.out.lt; have := HM.out.lt; have := HI.out.lt; omega) HB.out.size).mono ?_; rintro e V2 ⟨V1, hS, rfl, hvv, ht⟩; replace HS := ak hS; replace HV := ak hvv; replace HI := ak (HI.out.tch ht (fun h => h.2.2 rfl)); replace HX := ak (HX.out.tch ht (fun h => h.1 rfl)); replace HM := ak (HM.out.kept (ht.block ms HM.out.lt (.inr (fun h => h.2.1 rfl)))); replace HB := ak (HB.out.trans (ht.toBelow HB.out.size)); clear hvv ht hS)
      | ((with_reducible refine af (N := 59) rfl ?_); refine dE rfl 30 #[] rfl pV (Ge _) ?_)
      | (refine ay rfl 30 (.tmp 2) (.tmp 59) rfl g2 pV rfl rfl 30 _ HX.out 5 (by kernel_rfl) rfl rfl (by intro u hu; simp [pV] at hu; rcases hu with rfl | rfl | rfl | rfl | rfl <;> rfl) ?_; intro Z9 eP cI))
     exact bodyPost_ret (bT rfl _ _ g2 30 _ (0, 0) _ rfl eP Tryz.underlying30 rfl (by kernel_rfl)) rfl (KS rfl HNO.out (HB.out.grown cI HB.out.size (by intro k hk; cases hk; exact fR.out)))
  ·obtain rfl : j = l.length := by omega
   have hjb : decide ((l.length : Int) < (l.length : Int)) = false := by simp
   have p1 : ((l.length : Int) < (l.length : Int)) = False := eq_false (by omega)
   have HGD := ak (Al HFI.out)
   rw [List.take_length] at hVS
   have HVS := ak hVS
   obtain ⟨Ap, cp, Ab, cb, m1, m2, m3, hr, hbx, hgr⟩ := HV.out.reads
   have HBX := ak hbx
   have HGR := ak (@hgr)
   obtain ⟨vw, hvw⟩ : ∃ vw, vw = mO Ap Ab cp cb m1 m2 m3 V := ⟨_, rfl⟩
   rw [← hvw] at HBX
   have HVL := ak (show vw.length = 5 by rw [hvw]; rfl)
   have VA := ak (show ∀ u ∈ vw, u.oneCell' = true by rw [hvw]; intro u hu; simp [mO, sE] at hu; rcases hu with rfl | rfl | rfl | rfl | rfl <;> rfl)
   have HVW := ak hvw
   clear hVS hr hbx hvw HFI HM hgr
   go_wp2_with (first
    | ((with_reducible refine af (N := 61) rfl ?_); refine a7 rfl 30 (.tmp 4) rfl g4 rfl _ _ _ HBX.out Tryz.underlying30 rfl 5 (by kernel_rfl) HVL.out ?_)
    | (refine ay rfl 30 (.tmp 2) (.tmp 61) rfl g2 vw rfl rfl 30 _ HX.out 5 (by kernel_rfl) HVL.out rfl VA.out ?_; intro Z9 eP cI))
   exact bodyPost_ret (bT rfl _ _ g2 30 _ (0, 0) _ rfl eP Tryz.underlying30 rfl (by rw [List.size_toArray, HVL.out]; kernel_rfl)) rfl (QL (by rw [HVW.out]; rfl) HGD.out (HGR.out cI (.inr (fun h => h.1 rfl))) HVS.out (HB.out.grown cI HB.out.size (by intro k hk; cases hk; exact fR.out)))
end
section
def kR (M : List rk) (k : Int) : Nat := (M.filter fun r => decide (r.f0 = k)).length
theorem tf {β : Type} (f : Rc → Option β) (k : Int) (h : ∀ r, (f r).isSome = decide ((j4 r).f0 = k)) : ∀ rs : List Rc, kR (rs.map j4) k = (rs.filterMap f).length
 | [] => rfl
 | r :: rs => by
  have ih := tf f k h rs
  have hr := h r
  unfold kR at ih ⊢
  rw [List.map_cons, List.filter_cons, ← hr, List.filterMap_cons]
  cases hf : f r with
  | none => simpa [hf] using ih
  | some b => simpa [hf] using ih
theorem Qe (rs : List Rc) : kR (rs.map j4) 1 = (o8 rs).length := tf _ 1 (fun r => by cases r <;> rfl) rs
theorem Qd (rs : List Rc) : kR (rs.map j4) 2 = (oz rs).length := tf _ 2 (fun r => by cases r <;> rfl) rs
theorem Xr (rs : List Rc) : kR (rs.map j4) 3 = (oC rs).length := tf _ 3 (fun r => by cases r <;> rfl) rs
theorem Xq (rs : List Rc) : kR (rs.map j4) 4 = (kJ rs).length := tf _ 4 (fun r => by cases r <;> rfl) rs
theorem Xp (rs : List Rc) : kR (rs.map j4) 5 = (mF rs).length := tf _ 5 (fun r => by cases r <;> rfl) rs
theorem zi {α β : Type} (f : α → Option β) : ∀ (l : List α) (i : Nat) (x : α) (b : β), l[i]? = some x → f x = some b → (l.filterMap f)[((l.take i).filterMap f).length]? = some b
 | [], _, _, _, h, _ => by cases h
 | y :: l, 0, x, b, h, hb => by
  cases h
  simp [hb]
 | y :: l, i + 1, x, b, h, hb => by
  have ih := zi f l i x b h hb
  rw [List.take_succ_cons, List.filterMap_cons, List.filterMap_cons]
  cases f y <;> simpa using ih
theorem zh {α β : Type} (f : α → Option β) : ∀ (l : List α) (i : Nat), (l.filterMap f).take ((l.take i).filterMap f).length = (l.take i).filterMap f
 | [], i => by simp
 | y :: l, 0 => by simp
 | y :: l, i + 1 => by
  have ih := zh f l i
  rw [List.take_succ_cons, List.filterMap_cons, List.filterMap_cons]
  cases f y <;> simpa using ih
theorem uW {κ γ : Type} [DecidableEq κ] (kf : γ → κ) (vf : γ → Value) : ∀ (H : List γ) (j i : Nat) (p : γ), H[j]? = some p → (∀ q ∈ H.take j, kf p ≠ kf q) → (dx (kf p) (H.map fun q => (kf q, vf q)) i).map Prod.snd = some (vf p)
 | [], _, _, _, h, _ => by cases h
 | y :: H, 0, i, p, h, _ => by
  cases h
  rw [List.map_cons]
  unfold dx
  rw [if_pos rfl]
  rfl
 | y :: H, j + 1, i, p, h, hn => by
  rw [List.map_cons]
  unfold dx
  rw [if_neg (hn y (by rw [List.take_succ_cons]; exact List.mem_cons_self))]
  exact uW kf vf H j (i + 1) p h (fun q hq => hn q (by rw [List.take_succ_cons]; exact List.mem_cons_of_mem _ hq))
def OP (V : VS) (k : Nat) : Rc → Prop
 | .pool p => V.pools[k]? = some p
 | .blk b => ∃ cs, V.bcs[k]? = some (cs, b) ∧ BkOk b ∧ b.free.length ≤ 1000 ∧ b.attrs.length ≤ 1000 ∧ b.slots.length = 64
 | .aff s a n => (dx (s, a) V.am 0).map Prod.snd = some (.int .i64 n)
 | .hnd s l => ∃ u, (dx s V.hm 0).map Prod.snd = some u ∧ (s, u, l) ∈ V.hcs ∧ l.length ≤ 4096
 | .node s g => (dx s V.nm 0).map Prod.snd = some (.bool g)
 | .lock => True
 | .no => False
theorem Tw {key val : ByteArray} {b : Bk} (h : dt key val = .blk b) : b = cd val ∧ cB val = true := by
 unfold dt at h
 repeat' split at h
 all_goals first
  | (cases h; done)
  | (cases h; next h4 => (unfold ie at h4; simp only [Bool.and_eq_true] at h4; exact ⟨rfl, h4.2.1⟩))
theorem QY {key val : ByteArray} {s : ByteArray} {l : List Cn} (h : dt key val = .hnd s l) : l.length ≤ 4096 := by
 unfold dt at h
 repeat' split at h
 all_goals first
  | (cases h; done)
  | (cases h; next h4 => (unfold ic eK kI at h4; simp only [Bool.and_eq_true, decide_eq_true_eq] at h4; exact h4.2.2.2.2))
theorem EI {s : ByteArray} (h : cB s = true) : fl (cd s) = true := by
 unfold cB at h
 simp only [Bool.and_eq_true] at h
 exact h.2.2
theorem Hb {s : ByteArray} (h : cB s = true) : (cd s).free.length ≤ 1000 ∧ (cd s).attrs.length ≤ 1000 ∧ (cd s).slots.length = 64 := by
 have hp := yX (EI h)
 have hg := uX s (by unfold cB at h; simp only [Bool.and_eq_true] at h; exact h.1)
 have hl : (cd s).slots.length = 64 := by
  show (kY (List.replicate 64 0) (r4 s).1).length = 64
  rw [hg.2, hg.1]
 have h1 := hp.free_len hl
 have h2 := hp.na
 exact ⟨by omega, by omega, hl⟩
theorem Si {l : List It} (h : iE l = true) {i : Nat} (hi : i < l.length) : lX l i = true := by
 unfold iE at h
 rw [List.all_eq_true] at h
 exact h i (List.mem_range.2 hi)
theorem Ic {l : List It} {i : Nat} {x : It} (hx : l[i]? = some x) : ir l (i : Int) = x := by
 simp [ir, List.getD, hx]
theorem wg {α β γ : Type} {f : α → β} {l : List α} {i : Nat} {b : β} (h : (l.map f)[i]? = some b) : ∃ a, l[i]? = some a ∧ f a = b := by
 rw [List.getElem?_map] at h
 cases ha : l[i]? with
 | none => rw [ha] at h; cases h
 | some a => rw [ha] at h; exact ⟨a, rfl, Option.some.inj h⟩
theorem QT {l : List It} (hl : ∀ x ∈ l, x.f0.size ≤ 1000) (hg : iE l = true) {V : VS} (hV : VSof V (l.map gP)) {i : Nat} {x : It} (hx : l[i]? = some x) : OP V (kR (((l.take i).map gP).map j4) (j4 (gP x)).f0) (gP x) := by
 have hi : i < l.length := (List.getElem?_eq_some_iff.1 hx).1
 have hxm : x ∈ l := List.mem_of_getElem? hx
 have hf := Si hg hi
 unfold lX at hf
 rw [Ic hx] at hf
 simp only [Bool.and_eq_true, Bool.not_eq_true'] at hf
 have hn := Hy hf.1
 rw [Ic hx] at hn
 have hlt : ∀ y ∈ l.take i, y.f0.size ≤ 1000 := fun y hy => hl y (List.mem_of_mem_take hy)
 have hr : (l.map gP)[i]? = some (gP x) := by rw [List.getElem?_map, hx]; rfl
 rw [List.map_take]
 generalize hR : gP x = R at hr hf ⊢
 cases R with
 | no => exact absurd hf.2 (by decide)
 | lock => trivial
 | pool p =>
  show V.pools[kR _ 1]? = some p
  rw [Qe, hV.pools]
  exact zi _ _ i _ p hr rfl
 | blk b =>
  show ∃ cs, V.bcs[kR _ 2]? = some (cs, b) ∧ _
  rw [Qd]
  have h : (oz (l.map gP))[(oz ((l.map gP).take i)).length]? = some b := zi _ _ i _ b hr rfl
  rw [← hV.blks] at h
  obtain ⟨⟨cs, b'⟩, h1, h2⟩ := wg (γ := Unit) h
  obtain rfl : b' = b := h2
  obtain ⟨e1, e2⟩ := Tw hR
  have h3 := Hb e2
  rw [← e1] at h3
  exact ⟨cs, h1, by rw [e1]; exact ry _, h3⟩
 | aff s a n =>
  show (dx (s, a) V.am 0).map Prod.snd = _
  obtain ⟨q1, q2, q3⟩ := Lx hR
  have h := zi (fun r => match r with | .aff s a k => some ((s, a), k) | _ => none) _ i _ ((s, a), n) hr rfl
  have h4 := Gl hlt (hl x hxm) hn q1
  rw [q2, q3] at h4
  unfold VS.am
  rw [hV.affs]
  exact uW Prod.fst (fun p => .int .i64 p.2) _ _ 0 ((s, a), n) h (fun q hq e => h4 q (by
   rw [List.map_take]
   unfold oC
   rw [← zh]
   exact hq) e.symm)
 | hnd s L =>
  show ∃ u, (dx s V.hm 0).map Prod.snd = some u ∧ _
  obtain ⟨q1, q2⟩ := Lw hR
  have h : (kJ (l.map gP))[(kJ ((l.map gP).take i)).length]? = some (s, L) := zi _ _ i _ (s, L) hr rfl
  have h4 := Fy hn q1
  rw [q2] at h4
  rw [← hV.hnds] at h
  obtain ⟨⟨s', u, L'⟩, h1, h2⟩ := wg (γ := Unit) h
  obtain ⟨rfl, rfl⟩ := Prod.mk.inj h2
  refine ⟨u, ?_, List.mem_of_getElem? h1, QY hR⟩
  refine uW (fun p : ByteArray × Value × List Cn => p.1) (fun p => p.2.1) V.hcs _ 0 (s', u, L') h1 (fun q hq e => h4 (q.1, q.2.2) ?_ e.symm)
  have h5 : kJ ((l.map gP).take i) = (kJ (l.map gP)).take (kJ ((l.map gP).take i)).length := (zh _ _ i).symm
  rw [List.map_take, h5, ← hV.hnds, ← List.map_take]
  exact List.mem_map.2 ⟨q, hq, rfl⟩
 | node s g =>
  show (dx s V.nm 0).map Prod.snd = _
  obtain ⟨q1, q2⟩ := Ie hR
  have h := zi (fun r => match r with | .node s g => some (s, g) | _ => none) _ i _ (s, g) hr rfl
  have h4 := Dp hn q1
  rw [q2] at h4
  unfold VS.nm
  rw [hV.nodes]
  exact uW Prod.fst (fun p => .bool p.2) _ _ 0 (s, g) h (fun q hq e => h4 q (by
   rw [List.map_take]
   unfold mF
   rw [← zh]
   exact hq) e.symm)
end
section
set_option maxHeartbeats 16000000 in
set_option maxRecDepth 100000 in
theorem QV (key val : ByteArray) (h0 : dk jh key = none) (h1 : dk iY key = none) (h2 : dk ni key = none) (h3 : dk fa key = none) (h4 : dk iT key = none) (w : World) : Calls Tryz.prog 13 #[.string key, .string val] w (oE (dt key val) w) := by
 have mR := ak (show aq.f key ⟨#[112, 111, 111, 108, 47]⟩ = some (⟨#[]⟩, false) by have h_ := dQ jh key; rw [h0] at h_; exact h_)
 have mw := ak (show aq.f key ⟨#[98, 108, 111, 99, 107, 47]⟩ = some (⟨#[]⟩, false) by have h_ := dQ iY key; rw [h1] at h_; exact h_)
 have nL := ak (show aq.f key ⟨#[97, 102, 102, 47]⟩ = some (⟨#[]⟩, false) by have h_ := dQ ni key; rw [h2] at h_; exact h_)
 have qA := ak (show aq.f key ⟨#[104, 97, 110, 100, 108, 101, 47]⟩ = some (⟨#[]⟩, false) by have h_ := dQ fa key; rw [h3] at h_; exact h_)
 have DZ := ak (show aq.f key ⟨#[110, 111, 100, 101, 47]⟩ = some (⟨#[]⟩, false) by have h_ := dQ iT key; rw [h4] at h_; exact h_)
 rw [QX h0 h1 h2 h3 h4]
 unfold gf
 obtain ⟨bk, hbk⟩ : ∃ b, (key.toList == ([108, 111, 99, 107] : List UInt8)) = b := ⟨_, rfl⟩
 obtain ⟨bv, hbv⟩ : ∃ b, (val.toList == ([76] : List UInt8)) = b := ⟨_, rfl⟩
 rw [hbk, hbv]
 obtain ⟨R, hR⟩ : ∃ R, R = (if (bk && bv) = true then Rc.lock else .no) := ⟨_, rfl⟩
 rw [← hR]
 have hcs : (bk = true ∧ bv = true) ∨ ((bk && bv) = false ∧ (bk = false ∨ (bk = true ∧ bv = false))) := by cases bk <;> cases bv <;> simp
 clear h0 h1 h2 h3 h4
 rcases hcs with ⟨rfl, rfl⟩ | ⟨hn, hcs⟩
 ·clear mR mw nL qA DZ
  obtain rfl : R = .lock := hR
  go_enter Tryz.func13, Tryz.ntmps13
  go_wp2_with (first
   | go_big_skip
   | ((with_reducible refine af (N := 4) rfl ?_); refine aE (some 4) rfl rfl 52 rfl dJ iK ?_; intro g4 W1 cQ cP aw; have HX := ak cP; have HB := ak aw; have jf := ak cQ; clear cP aw cQ)
   | ((with_reducible refine af (N := 24) rfl ?_); refine dh rfl 52 #[(0, .const (.int .i64 6))] rfl [(0, .int .i64 6)] (by simp only [List.map_toArray, List.map_cons, List.map_nil]; rfl) (nw 6 ⟨#[]⟩ 0 0 0 false 0 (.slice none 0 0) false) (by kernel_rfl) ?_)
   | ((with_reducible refine cg (t := 52) (p := 4) (v := .tmp 24) rfl ?_); refine ay rfl 52 (.tmp 4) (.tmp 24) rfl g4 (nw 6 ⟨#[]⟩ 0 0 0 false 0 (.slice none 0 0) false) rfl rfl 52 _ HX.out 14 (by kernel_rfl) rfl rfl (nu _ _ _ _ _ _ _ _ _ _ _) ?_; intro W9 eP cI))
  exact bodyPost_ret (results_cell_row rfl _ _ g4 52 _ (0, 0) _ rfl eP Tryz.underlying52 rfl (by kernel_rfl)) rfl (o7 (r := .lock) rfl rfl (Kd.R_nil _ _ _ _ _) (HB.out.grown cI HB.out.size (by intro k hk; cases hk; exact jf.out)))
 ·obtain rfl : R = .no := by rw [hR, cV hn]
  clear hn hR
  rcases hcs with rfl | ⟨rfl, rfl⟩
  all_goals
   go_enter Tryz.func13, Tryz.ntmps13
   go_wp2_with (first
    | go_big_skip
    | ((with_reducible refine af (N := 4) rfl ?_); refine aE (some 4) rfl rfl 52 rfl dJ iK ?_; intro g4 W1 cQ cP aw; have HX := ak cP; have HB := ak aw; have jf := ak cQ; clear cP aw cQ)
    | (go_at_call 36; refine (aq.calls key ⟨#[112, 111, 111, 108, 47]⟩ _ _ _ mR.out).mono ?_; rintro e W2 ⟨rfl, ao⟩; clear mR; replace HX := mv ao HX; replace HB := mv ao HB; clear ao)
    | (go_at_call 36; refine (aq.calls key ⟨#[98, 108, 111, 99, 107, 47]⟩ _ _ _ mw.out).mono ?_; rintro e W2 ⟨rfl, ao⟩; clear mw; replace HX := mv ao HX; replace HB := mv ao HB; clear ao)
    | (go_at_call 36; refine (aq.calls key ⟨#[97, 102, 102, 47]⟩ _ _ _ nL.out).mono ?_; rintro e W2 ⟨rfl, ao⟩; clear nL; replace HX := mv ao HX; replace HB := mv ao HB; clear ao)
    | (go_at_call 36; refine (aq.calls key ⟨#[104, 97, 110, 100, 108, 101, 47]⟩ _ _ _ qA.out).mono ?_; rintro e W2 ⟨rfl, ao⟩; clear qA; replace HX := mv ao HX; replace HB := mv ao HB; clear ao)
    | (go_at_call 36; refine (aq.calls key ⟨#[110, 111, 100, 101, 47]⟩ _ _ _ DZ.out).mono ?_; rintro e W2 ⟨rfl, ao⟩; clear DZ; replace HX := mv ao HX; replace HB := mv ao HB; clear ao)
    | ((with_reducible refine af (N := 146) rfl ?_); refine dE rfl 52 #[] rfl dJ (qW _) ?_)
    | ((with_reducible refine cg (t := 52) (p := 4) (v := .tmp 146) rfl ?_); refine ay rfl 52 (.tmp 4) (.tmp 146) rfl g4 dJ rfl rfl 52 _ HX.out 14 (by kernel_rfl) rfl rfl (nu 0 ⟨#[]⟩ 0 0 0 false 0 none 0 0 false) ?_; intro W9 eP cI))
   refine bodyPost_ret (results_cell_row rfl _ _ g4 52 _ (0, 0) _ rfl eP Tryz.underlying52 rfl (by kernel_rfl)) rfl ?_
   exact o7 (r := .no) (k := 0) (s := ⟨#[]⟩) (a := 0) (pa := 0) (pb := 0) (po := false) (st := 0) (v := .slice none 0 0) (g := false) rfl rfl (Kd.R_nil _ _ _ _ _) (HB.out.grown cI HB.out.size (by intro k hk; cases hk; exact jf.out))
set_option maxHeartbeats 16000000 in
set_option maxRecDepth 100000 in
theorem Ts (key t val : ByteArray) (h : dk fa key = some t) (hk : key.size ≤ 1000) (hv : val.size ≤ 1000000) (w : World) : Calls Tryz.prog 13 #[.string key, .string val] w (oE (dt key val) w) := by
 have hlk := wh (c := 104) h rfl (by decide)
 have mR := ak (show aq.f key ⟨#[112, 111, 111, 108, 47]⟩ = some (⟨#[]⟩, false) by have h_ := dQ jh key; rw [(cE h (c := 104) (d := 112) rfl rfl (by decide))] at h_; exact h_)
 have mw := ak (show aq.f key ⟨#[98, 108, 111, 99, 107, 47]⟩ = some (⟨#[]⟩, false) by have h_ := dQ iY key; rw [(cE h (c := 104) (d := 98) rfl rfl (by decide))] at h_; exact h_)
 have nL := ak (show aq.f key ⟨#[97, 102, 102, 47]⟩ = some (⟨#[]⟩, false) by have h_ := dQ ni key; rw [(cE h (c := 104) (d := 97) rfl rfl (by decide))] at h_; exact h_)
 have qA := ak (show aq.f key ⟨#[104, 97, 110, 100, 108, 101, 47]⟩ = some (t, true) by have h_ := dQ fa key; rw [h] at h_; exact h_)
 rw [Zf h]
 have hcf : gA.f val = some (if eK val = true then (rc val).1.map ko else [], eK val) := if_pos hv
 have htz := lM h
 have hrf := sN t (by omega) (t.size + 1) (by omega)
 obtain ⟨L, hL⟩ : ∃ L, L = (if eK val = true then (rc val).1.map ko else []) := ⟨_, rfl⟩
 have HL := ak (show eK val = true → j4 (.hnd t (rc val).1) = ⟨4, t, 0, ⟨⟨0, 0⟩, false⟩, z49, 0, L, false⟩ from fun hc => by rw [hL, if_pos hc]; rfl)
 rw [← hL] at hcf
 generalize eK val = bc at hcf HL ⊢
 generalize bU t = br at hrf ⊢
 have HCF := ak hcf
 have HRF := ak hrf
 obtain ⟨R, hR⟩ : ∃ R, R = (if br = true ∧ bc = true then Rc.hnd t (rc val).1 else .no) := ⟨_, rfl⟩
 rw [← hR]
 have hcs : (bc = true ∧ br = true) ∨ (¬ (br = true ∧ bc = true) ∧ (bc = false ∨ (bc = true ∧ br = false))) := by cases bc <;> cases br <;> simp
 have HT := ak htz
 clear hcf hrf hL htz
 rcases hcs with ⟨rfl, rfl⟩ | ⟨hn, hcs⟩
 ·obtain ⟨L1, BE⟩ : ∃ L1, L1 = (rc val).1 := ⟨_, rfl⟩
  rw [← BE] at HL hR
  obtain rfl : R = .hnd t L1 := by rw [hR]; simp
  go_enter Tryz.func13, Tryz.ntmps13
  go_wp2_with (first
   | go_big_skip
   | ((with_reducible refine af (N := 4) rfl ?_); refine aE (some 4) rfl rfl 52 rfl dJ iK ?_; intro g4 W1 cQ cP aw; have HX := ak cP; have HB := ak aw; have jf := ak cQ; clear cP aw cQ)
   | (go_at_call 36; refine (aq.calls key ⟨#[112, 111, 111, 108, 47]⟩ _ _ _ mR.out).mono ?_; rintro e W2 ⟨rfl, ao⟩; clear mR; replace HX := mv ao HX; replace HB := mv ao HB; clear ao)
   | (go_at_call 36; refine (aq.calls key ⟨#[98, 108, 111, 99, 107, 47]⟩ _ _ _ mw.out).mono ?_; rintro e W2 ⟨rfl, ao⟩; clear mw; replace HX := mv ao HX; replace HB := mv ao HB; clear ao)
   | (go_at_call 36; refine (aq.calls key ⟨#[97, 102, 102, 47]⟩ _ _ _ nL.out).mono ?_; rintro e W2 ⟨rfl, ao⟩; clear nL; replace HX := mv ao HX; replace HB := mv ao HB; clear ao)
   | (go_at_call 36; refine (aq.calls key ⟨#[104, 97, 110, 100, 108, 101, 47]⟩ _ _ _ qA.out).mono ?_; rintro e W2 ⟨rfl, ao⟩; clear qA; replace HX := mv ao HX; replace HB := mv ao HB; clear ao)
   | (go_at_call 42; refine (gA.calls val _ _ _ HCF.out).mono ?_; rintro e W3 ⟨vc_, rfl, FJ, ao⟩; have HC := ak (Kd.R_lower FJ HB.out.size); obtain ⟨Ac, cc, rfl⟩ := Kd.R_slice FJ; clear FJ; replace HX := mv ao HX; replace HB := mv ao HB; clear ao)
   | (go_at_call 43; refine (al.calls _ t _ _ HRF.out).mono ?_; rintro e W4 ⟨rfl, ⟨nd, rfl⟩⟩; have ao := bh (Below.refl W3.heap.size W3) nd; replace HC := mv ao HC; replace HX := mv ao HX; replace HB := mv ao HB; clear ao)
   | ((with_reducible refine af (N := 122) rfl ?_); refine dh rfl 52 #[(0, .const (.int .i64 4)), (1, .tmp 120), (6, .tmp 121)] rfl [(0, .int .i64 4), (1, .string t), (6, .slice Ac L.length cc)] (by simp only [List.map_toArray, List.map_cons, List.map_nil]; rfl) (nw 4 t 0 0 0 false 0 (.slice Ac L.length cc) false) (by kernel_rfl) ?_)
   | ((with_reducible refine cg (t := 52) (p := 4) (v := .tmp 122) rfl ?_); refine ay rfl 52 (.tmp 4) (.tmp 122) rfl g4 (nw 4 t 0 0 0 false 0 (.slice Ac L.length cc) false) rfl rfl 52 _ HX.out 14 (by kernel_rfl) rfl rfl (nu _ _ _ _ _ _ _ _ _ _ _) ?_; intro W9 eP cI))
  refine bodyPost_ret (results_cell_row rfl _ _ g4 52 _ (0, 0) _ rfl eP Tryz.underlying52 rfl (by kernel_rfl)) rfl ?_
  exact o7 (r := .hnd t L1) rfl (HL.out (by trivial)) (bS HC.out HX.out (by decide) cI) (HB.out.grown cI HB.out.size (by intro k hk; cases hk; exact jf.out))
 ·obtain rfl : R = .no := by rw [hR, if_neg hn]
  clear hn hR HL
  rcases hcs with rfl | ⟨rfl, rfl⟩
  all_goals
   go_enter Tryz.func13, Tryz.ntmps13
   go_wp2_with (first
    | go_big_skip
    | ((with_reducible refine af (N := 4) rfl ?_); refine aE (some 4) rfl rfl 52 rfl dJ iK ?_; intro g4 W1 cQ cP aw; have HX := ak cP; have HB := ak aw; have jf := ak cQ; clear cP aw cQ)
    | (go_at_call 36; refine (aq.calls key ⟨#[112, 111, 111, 108, 47]⟩ _ _ _ mR.out).mono ?_; rintro e W2 ⟨rfl, ao⟩; clear mR; replace HX := mv ao HX; replace HB := mv ao HB; clear ao)
    | (go_at_call 36; refine (aq.calls key ⟨#[98, 108, 111, 99, 107, 47]⟩ _ _ _ mw.out).mono ?_; rintro e W2 ⟨rfl, ao⟩; clear mw; replace HX := mv ao HX; replace HB := mv ao HB; clear ao)
    | (go_at_call 36; refine (aq.calls key ⟨#[97, 102, 102, 47]⟩ _ _ _ nL.out).mono ?_; rintro e W2 ⟨rfl, ao⟩; clear nL; replace HX := mv ao HX; replace HB := mv ao HB; clear ao)
    | (go_at_call 36; refine (aq.calls key ⟨#[104, 97, 110, 100, 108, 101, 47]⟩ _ _ _ qA.out).mono ?_; rintro e W2 ⟨rfl, ao⟩; clear qA; replace HX := mv ao HX; replace HB := mv ao HB; clear ao)
    | (go_at_call 42; refine (gA.calls val _ _ _ HCF.out).mono ?_; rintro e W3 ⟨vc_, rfl, FJ, ao⟩; have HC := ak (Kd.R_lower FJ HB.out.size); obtain ⟨Ac, cc, rfl⟩ := Kd.R_slice FJ; clear FJ; replace HX := mv ao HX; replace HB := mv ao HB; clear ao)
    | (go_at_call 43; refine (al.calls _ t _ _ HRF.out).mono ?_; rintro e W4 ⟨rfl, ⟨nd, rfl⟩⟩; have ao := bh (Below.refl W3.heap.size W3) nd; replace HC := mv ao HC; replace HX := mv ao HX; replace HB := mv ao HB; clear ao)
    | ((with_reducible refine af (N := 123) rfl ?_); refine dE rfl 52 #[] rfl dJ (qW _) ?_)
    | ((with_reducible refine cg (t := 52) (p := 4) (v := .tmp 123) rfl ?_); refine ay rfl 52 (.tmp 4) (.tmp 123) rfl g4 dJ rfl rfl 52 _ HX.out 14 (by kernel_rfl) rfl rfl (nu 0 ⟨#[]⟩ 0 0 0 false 0 none 0 0 false) ?_; intro W9 eP cI))
   refine bodyPost_ret (results_cell_row rfl _ _ g4 52 _ (0, 0) _ rfl eP Tryz.underlying52 rfl (by kernel_rfl)) rfl ?_
   exact o7 (r := .no) (k := 0) (s := ⟨#[]⟩) (a := 0) (pa := 0) (pb := 0) (po := false) (st := 0) (v := .slice none 0 0) (g := false) rfl rfl (Kd.R_nil _ _ _ _ _) (HB.out.grown cI HB.out.size (by intro k hk; cases hk; exact jf.out))
theorem Ex (s : ByteArray) (a m : Int) : sq s a m = match s.data.toList with | [x, y] => (if (x.toNat : Int) = a ∧ ¬ (y.toNat : Int) > m then ((y.toNat : Int), true) else (0, false)) | _ => (0, false) := by
 have hs : s.size = s.data.toList.length := (cG s).symm
 have hb : ∀ (i : Nat) (b : UInt8), s.data.toList[i]? = some b → bt s (i : Int) = (b.toNat : Int) := fun i b h => by
  have hi : i < s.size := by rw [hs]; exact (List.getElem?_eq_some_iff.1 h).1
  rw [yG s i hi]
  have := (List.getElem?_eq_some_iff.1 h).2
  rw [← this]
  rfl
 unfold sq
 match hd : s.data.toList with
 | [] => rw [if_neg (fun h => by have h2 := h.1; rw [hs, hd] at h2; simp only [List.length_cons, List.length_nil] at h2; omega)]
 | [x] => rw [if_neg (fun h => by have h2 := h.1; rw [hs, hd] at h2; simp only [List.length_cons, List.length_nil] at h2; omega)]
 | [x, y] =>
  have b0 : bt s 0 = (x.toNat : Int) := hb 0 x (by rw [hd]; rfl)
  have b1 : bt s 1 = (y.toNat : Int) := hb 1 y (by rw [hd]; rfl)
  have hy := y.toNat_lt
  rw [b0, b1, bB _ (by omega) (by omega)]
  have h2 : (s.size : Int) = 2 := by rw [hs, hd]; rfl
  simp only [h2, true_and]
 | x :: y :: z :: l => rw [if_neg (fun h => by have h2 := h.1; rw [hs, hd] at h2; simp only [List.length_cons, List.length_nil] at h2; omega)]
theorem sK (x : UInt8) (n : Nat) (c : UInt8) (hc : c.toNat = n) : (x.toNat : Int) = (n : Int) ↔ x = c := ⟨fun h => UInt8.toNat_inj.1 (by omega), fun h => by rw [h, hc]⟩
theorem NT (val : ByteArray) : ((lV val).2 = 0 ↔ ((val.toList == ([78, 0] : List UInt8)) = true ∨ (val.toList == ([78, 1] : List UInt8)) = true)) ∧ ((lV val).2 = 0 → (lV val).1 = (val.toList == ([78, 1] : List UInt8))) := by
 have hd : val.toList = val.data.toList := Lib.toList_data _
 have ht := Ex val 78 1
 unfold lV
 rw [ht, hd]
 match val.data.toList with
 | [] => simp
 | [x] => simp
 | [x, y] =>
  dsimp only
  have ex := sK x 78 78 rfl
  have e0 := sK y 0 0 rfl
  have e1 := sK y 1 1 rfl
  by_cases h1 : x = 78
  ·by_cases h2 : (y.toNat : Int) > 1
   ·have n0 : ¬ y = 0 := fun h => by have := e0.2 h; omega
    have n1 : ¬ y = 1 := fun h => by have := e1.2 h; omega
    simp [h2, n0, n1]
   ·have hx := ex.2 h1
    by_cases h3 : y = 0
    ·subst h1 h3; decide
    ·have h4 : y = 1 := e1.1 (by have := mt e0.1 h3; omega)
     subst h1 h4; decide
  ·have hx : ¬ (x.toNat : Int) = 78 := mt ex.1 h1
   simp [hx, h1]
 | x :: y :: z :: l => simp
set_option maxHeartbeats 16000000 in
set_option maxRecDepth 100000 in
theorem QW (key t val : ByteArray) (h : dk iT key = some t) (hk : key.size ≤ 1000) (hv : val.size ≤ 1000000) (w : World) : Calls Tryz.prog 13 #[.string key, .string val] w (oE (dt key val) w) := by
 have hlk := wh (c := 110) h rfl (by decide)
 have mR := ak (show aq.f key ⟨#[112, 111, 111, 108, 47]⟩ = some (⟨#[]⟩, false) by have h_ := dQ jh key; rw [(cE h (c := 110) (d := 112) rfl rfl (by decide))] at h_; exact h_)
 have mw := ak (show aq.f key ⟨#[98, 108, 111, 99, 107, 47]⟩ = some (⟨#[]⟩, false) by have h_ := dQ iY key; rw [(cE h (c := 110) (d := 98) rfl rfl (by decide))] at h_; exact h_)
 have nL := ak (show aq.f key ⟨#[97, 102, 102, 47]⟩ = some (⟨#[]⟩, false) by have h_ := dQ ni key; rw [(cE h (c := 110) (d := 97) rfl rfl (by decide))] at h_; exact h_)
 have qA := ak (show aq.f key ⟨#[104, 97, 110, 100, 108, 101, 47]⟩ = some (⟨#[]⟩, false) by have h_ := dQ fa key; rw [(cE h (c := 110) (d := 104) rfl rfl (by decide))] at h_; exact h_)
 have DZ := ak (show aq.f key ⟨#[110, 111, 100, 101, 47]⟩ = some (t, true) by have h_ := dQ iT key; rw [h] at h_; exact h_)
 rw [Ze h]
 have htz := lM h
 have hrf := sN t (by omega) (t.size + 1) (by omega)
 obtain ⟨kk, tU⟩ := NT val
 generalize lV val = nn at kk tU ⊢
 obtain ⟨b0, iI⟩ : ∃ b, (val.toList == ([78, 0] : List UInt8)) = b := ⟨_, rfl⟩
 obtain ⟨b1, aw⟩ : ∃ b, (val.toList == ([78, 1] : List UInt8)) = b := ⟨_, rfl⟩
 rw [iI, aw] at kk
 rw [aw] at tU
 generalize bU t = br at hrf ⊢
 have HRF := ak hrf
 have hcs : (br = true ∧ nn.2 = 0 ∧ nn.1 = b1 ∧ ((b0 = true) ∨ (b0 = false ∧ b1 = true))) ∨ (¬ (br = true ∧ nn.2 = 0) ∧ (br = false ∨ (br = true ∧ b0 = false ∧ b1 = false))) := by
  by_cases hz : nn.2 = 0
  ·have := tU hz
   have h3 := kk.1 hz
   cases br <;> cases b0 <;> cases b1 <;> simp_all
  ·have h3 : ¬ (b0 = true ∨ b1 = true) := fun h => hz (kk.2 h)
   cases br <;> cases b0 <;> cases b1 <;> simp_all
 obtain ⟨R, hR⟩ : ∃ R, R = (if br = true ∧ nn.2 = 0 then Rc.node t nn.1 else .no) := ⟨_, rfl⟩
 rw [← hR]
 clear hrf htz kk tU
 rcases hcs with ⟨rfl, hz, hn, hcs⟩ | ⟨hn, hcs⟩
 ·obtain rfl : R = .node t b1 := by rw [hR, if_pos ⟨rfl, hz⟩, hn]
  clear hz hn hR
  rcases hcs with rfl | ⟨rfl, rfl⟩
  all_goals
   go_enter Tryz.func13, Tryz.ntmps13
   go_wp2_with (first
    | go_big_skip
    | ((with_reducible refine af (N := 4) rfl ?_); refine aE (some 4) rfl rfl 52 rfl dJ iK ?_; intro g4 W1 cQ cP aw; have HX := ak cP; have HB := ak aw; have jf := ak cQ; clear cP aw cQ)
    | (go_at_call 36; refine (aq.calls key ⟨#[112, 111, 111, 108, 47]⟩ _ _ _ mR.out).mono ?_; rintro e W2 ⟨rfl, ao⟩; clear mR; replace HX := mv ao HX; replace HB := mv ao HB; clear ao)
    | (go_at_call 36; refine (aq.calls key ⟨#[98, 108, 111, 99, 107, 47]⟩ _ _ _ mw.out).mono ?_; rintro e W2 ⟨rfl, ao⟩; clear mw; replace HX := mv ao HX; replace HB := mv ao HB; clear ao)
    | (go_at_call 36; refine (aq.calls key ⟨#[97, 102, 102, 47]⟩ _ _ _ nL.out).mono ?_; rintro e W2 ⟨rfl, ao⟩; clear nL; replace HX := mv ao HX; replace HB := mv ao HB; clear ao)
    | (go_at_call 36; refine (aq.calls key ⟨#[104, 97, 110, 100, 108, 101, 47]⟩ _ _ _ qA.out).mono ?_; rintro e W2 ⟨rfl, ao⟩; clear qA; replace HX := mv ao HX; replace HB := mv ao HB; clear ao)
    | (go_at_call 36; refine (aq.calls key ⟨#[110, 111, 100, 101, 47]⟩ _ _ _ DZ.out).mono ?_; rintro e W2 ⟨rfl, ao⟩; clear DZ; replace HX := mv ao HX; replace HB := mv ao HB; clear ao)
    | (go_at_call 43; refine (al.calls _ t _ _ HRF.out).mono ?_; rintro e W4 ⟨rfl, ⟨nd, rfl⟩⟩; have ao := bh (Below.refl W2.heap.size W2) nd; replace HX := mv ao HX; replace HB := mv ao HB; clear ao)
    | ((with_reducible refine af (N := 145) rfl ?_); refine dh rfl 52 #[(0, .const (.int .i64 5)), (1, .tmp 142), (7, .tmp 144)] rfl [(0, .int .i64 5), (1, .string t), (7, .bool _)] (by simp only [List.map_toArray, List.map_cons, List.map_nil]; rfl) (nw 5 t 0 0 0 false 0 (.slice none 0 0) _) (by kernel_rfl) ?_)
    | ((with_reducible refine cg (t := 52) (p := 4) (v := .tmp 145) rfl ?_); refine ay rfl 52 (.tmp 4) (.tmp 145) rfl g4 (nw 5 t 0 0 0 false 0 (.slice none 0 0) _) rfl rfl 52 _ HX.out 14 (by kernel_rfl) rfl rfl (nu _ _ _ _ _ _ _ _ _ _ _) ?_; intro W9 eP cI))
   refine bodyPost_ret (results_cell_row rfl _ _ g4 52 _ (0, 0) _ rfl eP Tryz.underlying52 rfl (by kernel_rfl)) rfl ?_
   exact o7 (r := .node t _) rfl rfl (Kd.R_nil _ _ _ _ _) (HB.out.grown cI HB.out.size (by intro k hk; cases hk; exact jf.out))
 ·obtain rfl : R = .no := by rw [hR, if_neg hn]
  clear hn hR
  rcases hcs with rfl | ⟨rfl, rfl, rfl⟩
  all_goals
   go_enter Tryz.func13, Tryz.ntmps13
   go_wp2_with (first
    | go_big_skip
    | ((with_reducible refine af (N := 4) rfl ?_); refine aE (some 4) rfl rfl 52 rfl dJ iK ?_; intro g4 W1 cQ cP aw; have HX := ak cP; have HB := ak aw; have jf := ak cQ; clear cP aw cQ)
    | (go_at_call 36; refine (aq.calls key ⟨#[112, 111, 111, 108, 47]⟩ _ _ _ mR.out).mono ?_; rintro e W2 ⟨rfl, ao⟩; clear mR; replace HX := mv ao HX; replace HB := mv ao HB; clear ao)
    | (go_at_call 36; refine (aq.calls key ⟨#[98, 108, 111, 99, 107, 47]⟩ _ _ _ mw.out).mono ?_; rintro e W2 ⟨rfl, ao⟩; clear mw; replace HX := mv ao HX; replace HB := mv ao HB; clear ao)
    | (go_at_call 36; refine (aq.calls key ⟨#[97, 102, 102, 47]⟩ _ _ _ nL.out).mono ?_; rintro e W2 ⟨rfl, ao⟩; clear nL; replace HX := mv ao HX; replace HB := mv ao HB; clear ao)
    | (go_at_call 36; refine (aq.calls key ⟨#[104, 97, 110, 100, 108, 101, 47]⟩ _ _ _ qA.out).mono ?_; rintro e W2 ⟨rfl, ao⟩; clear qA; replace HX := mv ao HX; replace HB := mv ao HB; clear ao)
    | (go_at_call 36; refine (aq.calls key ⟨#[110, 111, 100, 101, 47]⟩ _ _ _ DZ.out).mono ?_; rintro e W2 ⟨rfl, ao⟩; clear DZ; replace HX := mv ao HX; replace HB := mv ao HB; clear ao)
    | (go_at_call 43; refine (al.calls _ t _ _ HRF.out).mono ?_; rintro e W4 ⟨rfl, ⟨nd, rfl⟩⟩; have ao := bh (Below.refl W2.heap.size W2) nd; replace HX := mv ao HX; replace HB := mv ao HB; clear ao)
    | ((with_reducible refine af (N := 146) rfl ?_); refine dE rfl 52 #[] rfl dJ (qW _) ?_)
    | ((with_reducible refine cg (t := 52) (p := 4) (v := .tmp 146) rfl ?_); refine ay rfl 52 (.tmp 4) (.tmp 146) rfl g4 dJ rfl rfl 52 _ HX.out 14 (by kernel_rfl) rfl rfl (nu 0 ⟨#[]⟩ 0 0 0 false 0 none 0 0 false) ?_; intro W9 eP cI))
   refine bodyPost_ret (results_cell_row rfl _ _ g4 52 _ (0, 0) _ rfl eP Tryz.underlying52 rfl (by kernel_rfl)) rfl ?_
   exact o7 (r := .no) (k := 0) (s := ⟨#[]⟩) (a := 0) (pa := 0) (pb := 0) (po := false) (st := 0) (v := .slice none 0 0) (g := false) rfl rfl (Kd.R_nil _ _ _ _ _) (HB.out.grown cI HB.out.size (by intro k hk; cases hk; exact jf.out))
end
end Go.Proofs.YtndddnglapkplaaGreatDoor.V
