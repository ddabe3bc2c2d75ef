/- The law BlockBack for every input: texts of ours, put together (part 5 of 16). No further condition. -/
import Derived.Test.YtemhalnhbgkbcaaCBlockBackx2
import Derived.Test.YtemhalnhbgkbcaaCBlockBackx3
import Derived.Outline
import Derived.WalkSpells
import Derived.Test.YtemhalnhbgkbcaaCBlockBackw0
import Derived.Lib.SliceRun
set_option linter.unusedVariables false
set_option linter.unusedSimpArgs false
open Go.RowKit Go.Proofs.YtemhalnhbgkbcaaW.PrintWords Go.Proofs.YtemhalnhbgkbcaaW.PrintLast Go.Proofs.YtemhalnhbgkbcaaW.PrintMore Go.Proofs.Ytemhalnhbgkbcaa.Z
section
namespace Go.Proofs.Ytemhalnhbgkbcaa.V
attribute [local go_sem] eH eF fk fj ei eh eG eE
def pn.f (br : ByteArray) (bB : ByteArray) : Option (Bool) := (ff.f br).bind fun sH => (if sH = true then ((ff.f bB).bind fun mN => (some mN)) else (some false))
set_option maxHeartbeats 8000000 in
set_option maxRecDepth 100000 in
theorem pn.calls (br : ByteArray) (bB : ByteArray) (r : Bool) (w : World) (h : pn.f br bB = some r) :
  Calls Try.prog 88 #[.agg #[.string br, .string bB]] w fun e w' => e = .returned (.bool r) ∧ Below w.heap.size w w' := by
 have G2 := Try.underlying85
 have HB := ak (Below.refl w.heap.size w)
 have H : ((ff.f br).bind fun sH => (if sH = true then ((ff.f bB).bind fun mN => (some mN)) else (some false))) = some r := h
 clear h
 replace H := Option.bind_eq_some_iff.mp H
 obtain ⟨sH, zN, H⟩ := H
 replace H : (if sH = true then ((ff.f bB).bind fun mN => (some mN)) else (some false)) = some r := H
 have A2 := ak zN
 clear zN
 by_cases c3 : sH = true
 ·subst c3
  have H1 : ((ff.f bB).bind fun mN => (some mN)) = some r := by rw [if_pos rfl] at H; exact H
  clear H
  have H := H1
  clear H1
  replace H := Option.bind_eq_some_iff.mp H
  obtain ⟨mN, Gw, H⟩ := H
  replace H : (some mN) = some r := H
  have A4 := ak Gw
  clear Gw
  obtain rfl := Option.some.inj H
  go_enter Try.func88, Try.ntmps88
  go_wp2_with (first | ((with_reducible refine av (N := 1) rfl ?_); refine fb ?hg (N := 1) ?hd (cs := #[.string br, .string bB]) (t := 85) ?hr ?_; (case hd => rfl); (case hg => rfl); (case hr => first | (go_simp; done) | (go_simp; rfl)); intro jk hg w5 hbox hb; have cD := ak (bE (by repeat (first | (with_reducible first | exact HB.out | apply al | apply af | apply aq) | exact HB.out)) hb); have cT := ak (hbox); have dk := ak ((by rw [hg]; exact (bs (by repeat (first | (with_reducible first | exact HB.out | apply al | apply af | apply aq) | exact HB.out))) : w.heap.size ≤ jk)); have dS := ak ((by rw [hg]; exact (bs (by repeat (first | (with_reducible first | exact HB.out | apply al | apply af | apply aq) | exact HB.out))) : w.heap.size ≤ jk)); clear HB; have HB := cD; have fC := cT; have Mh := dk; have p5 := dS; clear cD cT dk dS; clear hb hbox hg; have BD : w5.cell? ⟨jk, 0, none⟩ = some (.string br) := (aC fC.out 0).trans rfl; have BC : w5.cell? ⟨jk, 1, none⟩ = some (.string bB) := (aC fC.out 1).trans rfl; have By := ao fC.out 0; have Bx := ao fC.out 1) | ((with_reducible refine fL (f := 104) rfl ?_); refine kL (some 5) rfl rfl Try.func104 (by kernel_rfl) rfl #[.string br] rfl (by (try simp only [List.map_toArray, List.map_cons, List.map_nil]); first | done | rfl | (simp only [List.length_drop, List.length_take]; rfl)) ?_; (with_reducible refine (ff.calls br true _ A2.out).mono ?_); rintro e w7 ⟨rfl, hb⟩; refine ⟨_, rfl, ?_⟩; have cD := ak (eV (g := jk) (o := .cells #[.string br, .string bB] 85 (0, 0)) (by (with_reducible repeat (first | refine aK ?_ _ | refine aT ?_ | refine aM ?_ _)); exact fC.out) hb); have cT := ak (bE (by repeat (first | (with_reducible first | exact HB.out | apply al | apply af | apply aq | refine aQ ?_ p5.out) | exact HB.out)) hb); clear fC; clear HB; have fC := cD; have HB := cT; clear cD cT; (try clear hb); (try clear eU); (try clear hk); (try clear hi); have FN : w7.cell? ⟨jk, 0, none⟩ = some (.string br) := (aC fC.out 0).trans rfl; have FM : w7.cell? ⟨jk, 1, none⟩ = some (.string bB) := (aC fC.out 1).trans rfl; have FL := ao fC.out 0; have FJ := ao fC.out 1) | (go_at_call 104; (with_reducible refine (ff.calls bB mN _ A4.out).mono ?_); rintro e w9 ⟨rfl, hb⟩; have cD := ak (eV (g := jk) (o := .cells #[.string br, .string bB] 85 (0, 0)) (by (with_reducible repeat (first | refine aK ?_ _ | refine aT ?_ | refine aM ?_ _)); exact fC.out) hb); have cT := ak (bE (by repeat (first | (with_reducible first | exact HB.out | apply al | apply af | apply aq | refine aQ ?_ p5.out) | exact HB.out)) hb); clear fC; clear HB; have fC := cD; have HB := cT; clear cD cT; (try clear hb); (try clear eU); (try clear hk); (try clear hi)))
  go_ret
  exact ⟨by first | rfl | (simp [cy, cx] <;> rfl) | (simp [*, cy, cx] <;> rfl), by repeat (first | (with_reducible first | exact HB.out | apply al | apply af | apply aq | refine aQ ?_ p5.out) | exact HB.out)⟩
 ·replace c3 := Bool.eq_false_iff.mpr c3
  subst c3
  have H1 : (some false) = some r := by rw [if_neg (show ¬ (false = true) by decide)] at H; exact H
  clear H
  have H := H1
  clear H1
  obtain rfl := Option.some.inj H
  go_enter Try.func88, Try.ntmps88
  go_wp2_with (first | ((with_reducible refine av (N := 1) rfl ?_); refine fb ?hg (N := 1) ?hd (cs := #[.string br, .string bB]) (t := 85) ?hr ?_; (case hd => rfl); (case hg => rfl); (case hr => first | (go_simp; done) | (go_simp; rfl)); intro jk hg zk hbox hb; have cD := ak (bE (by repeat (first | (with_reducible first | exact HB.out | apply al | apply af | apply aq) | exact HB.out)) hb); have cT := ak (hbox); have dk := ak ((by rw [hg]; exact (bs (by repeat (first | (with_reducible first | exact HB.out | apply al | apply af | apply aq) | exact HB.out))) : w.heap.size ≤ jk)); have dS := ak ((by rw [hg]; exact (bs (by repeat (first | (with_reducible first | exact HB.out | apply al | apply af | apply aq) | exact HB.out))) : w.heap.size ≤ jk)); clear HB; have HB := cD; have fC := cT; have Mh := dk; have p5 := dS; clear cD cT dk dS; clear hb hbox hg; have LN : zk.cell? ⟨jk, 0, none⟩ = some (.string br) := (aC fC.out 0).trans rfl; have LM : zk.cell? ⟨jk, 1, none⟩ = some (.string bB) := (aC fC.out 1).trans rfl; have Lu := ao fC.out 0; have Lt := ao fC.out 1) | ((with_reducible refine fL (f := 104) rfl ?_); refine kL (some 5) rfl rfl Try.func104 (by kernel_rfl) rfl #[.string br] rfl (by (try simp only [List.map_toArray, List.map_cons, List.map_nil]); first | done | rfl | (simp only [List.length_drop, List.length_take]; rfl)) ?_; (with_reducible refine (ff.calls br false _ A2.out).mono ?_); rintro e De ⟨rfl, hb⟩; refine ⟨_, rfl, ?_⟩; have cD := ak (eV (g := jk) (o := .cells #[.string br, .string bB] 85 (0, 0)) (by (with_reducible repeat (first | refine aK ?_ _ | refine aT ?_ | refine aM ?_ _)); exact fC.out) hb); have cT := ak (bE (by repeat (first | (with_reducible first | exact HB.out | apply al | apply af | apply aq | refine aQ ?_ p5.out) | exact HB.out)) hb); clear fC; clear HB; have fC := cD; have HB := cT; clear cD cT; (try clear hb); (try clear eU); (try clear hk); (try clear hi)))
  go_ret
  exact ⟨by first | rfl | (simp [cy, cx] <;> rfl) | (simp [*, cy, cx] <;> rfl), by repeat (first | (with_reducible first | exact HB.out | apply al | apply af | apply aq | refine aQ ?_ p5.out) | exact HB.out)⟩
end Go.Proofs.Ytemhalnhbgkbcaa.V
end

section
namespace Go.Proofs.Ytemhalnhbgkbcaa.V
def eP (a : At) : Bool := fM a.f0 && fM a.f1
theorem Ns (a : At) : pn.f a.f0 a.f1 = some (eP a) := by
 unfold pn.f ff.f eP
 cases h : fM a.f0 <;> simp
theorem jF (a : At) (w : World) : Calls Try.prog 88 #[et a] w fun e w' => e = .returned (.bool (eP a)) ∧ Below w.heap.size w w' := pn.calls a.f0 a.f1 _ w (Ns a)
def gH (l : List At) (j : Nat) : At := cU l (j : Int)
def fV (l : List Int) : Nat := ux (l.map fun s => s - 1)
def kr (b : Bk) : Bool := (b.slots.all fun s => decide (s ≤ (b.attrs.length : Int))) && ((List.range b.attrs.length).all (fun j => eP (gH b.attrs j) && !((b.attrs.take j).any (sameAt (gH b.attrs j)))) && decide ((iv (fV b.slots)).length = b.attrs.length))
def kv (l : List At) : List (At × Int) := l.map fun a => (a, 1)
theorem AS (l : List At) (a : At) : numOf (kv l) a = if l.any (sameAt a) = true then 1 else 0 := by
 unfold numOf kv
 induction l with
 | nil => rfl
 | cons x l ih =>
  rw [List.map_cons, List.find?_cons, List.any_cons]
  cases h : sameAt a x with
  | true => simp
  | false => simpa using ih
theorem GF (l : List At) (a : At) (h : l.any (sameAt a) = false) (v : Int) : putAt (kv l) a v = kv l ++ [(a, v)] := by
 have : idxOf (kv l) a = none := by
  unfold idxOf kv
  simpa using h
 unfold putAt
 rw [this]
theorem CV (l : List At) : (kv l).length = l.length := by simp [kv]
theorem ks (l : List At) (j : Nat) (h : j < l.length) : gH l j = l[j] := by simp [gH, cU, List.getD, h]
theorem sG (l : List At) (j : Nat) (h : j < l.length) : l.take (j + 1) = l.take j ++ [gH l j] := by
 rw [List.take_add_one, List.getElem?_eq_getElem h, ks l j h]
 rfl
def nz.T13 : Bool × List (List Nat × List Nat) := (true, [([], []), ([], []), ([0, 1], [0, 1]), ([2], [2]), ([0, 1, 0, 1], [0, 1]), ([4], [4]), ([0, 5, 3, 4, 0, 1, 2, 3, 4, 5], [0, 3, 5])])
def nz.B13 : List Nat := [0, 0, 3, 7, 3, 19, 63]
theorem nz.tab13 : dP .any (opsOf Try.f86 13) = nz.T13 := by kernel_rfl
theorem nz.bits13 : dr nz.T13.2 nz.B13 = true := by kernel_rfl
def ny.T17 : Bool × List (List Nat × List Nat) := (true, [([], []), ([0], [0]), ([], []), ([2], [2]), ([3], [3]), ([1, 4], [1, 4]), ([5, 1, 0, 1, 2, 3, 4, 5], [5])])
def ny.B17 : List Nat := [0, 1, 0, 4, 12, 31, 63]
theorem ny.tab17 : dP .any (opsOf Try.f86 17) = ny.T17 := by kernel_rfl
theorem ny.bits17 : dr ny.T17.2 ny.B17 = true := by kernel_rfl
set_option maxHeartbeats 4000000 in
set_option maxRecDepth 100000 in
theorem zH (b : Bk) (hs : nN b.slots) (hn : b.attrs.length ≤ 64) (v : Value) (w : World) (h : gi w v b) :
  Calls Try.prog 86 #[v] w fun e w' => e = .returned (.bool (kr b)) ∧ Below w.heap.size w w' := by
 obtain ⟨A, c, A', c', rfl, hr⟩ := h
 have hl := hr.l64
 have HR := ak hr
 have HS := ak hs
 have HL := ak hl
 have hmm := @run_makeMap Try.prog
 have hlen : (Try.prog.info? 47).map (·.size) = some (b.slots.map (Value.int .u8)).length := by rw [List.length_map, hl]; kernel_rfl
 have HLN := ak hlen
 clear hr hs hl hlen
 go_enter Try.func86, Try.ntmps86
 go_wp2_with (first
  | (refine aE rfl 57 (.tmp 0) rfl _ rfl ?_; intro g W1 hg hbx cA; have HX := ak hbx; have HB := ak cA; have HG := ak hg; have HRR := ak (HR.out.below cA); have pE := hbx.cell 67 _ (fz _ _ _ _ _ HL.out); clear hbx cA hg HR)
  | (refine fi rfl 47 (.tmp 10) rfl g 2 rfl 57 _ (b.slots.map (Value.int .u8)) (.array 64 5) (HX.out.alloc _) (kX _ _ _ _ _ HL.out) Try.underlying47 rfl HLN.out ?_))
 have HM := ak (show mo (W1.alloc (.map #[] 0)) W1.heap.size [] from heap_alloc_new W1 _)
 have gv := ak (HX.out.alloc (.map #[] 0))
 have uU := ak (al (Below.refl W1.heap.size W1) (.map #[] 0))
 have HLT := ak HX.out.lt
 have CE := ak (show w.heap.size ≤ W1.heap.size from HB.out.size)
 have im := HX
 have cn := HB
 have mG := HRR
 have HGM := ak (Eq.refl W1.heap.size)
 clear HX HB HRR pE hmm
 generalize W1.alloc (Obj.map #[] 0) = W2 at HM gv uU ⊢
 generalize hgm : W1.heap.size = gm at HM CE HLT uU HGM ⊢
 have HGE := ak hgm
 clear hgm HGM
 have pE := gv.out.cell 67 _ (fz _ _ _ _ _ HL.out)
 go_loopw [4, 6, 12] (fun s _ i W => ∃ k nd : Nat, k ≤ 64 ∧ W = W2.drewN nd ∧ i = .int .i64 k ∧ s = .int .u64 ((fV (b.slots.take k) : Nat) : Int) ∧ Aside0 (∀ j, j < k → rd b.slots (j : Int) ≤ (b.attrs.length : Int))) (fun _ _ i _ => 64 - (intOf i).toNat)
 case atStart => exact ⟨0, 0, by omega, rfl, rfl, rfl, ⟨fun j hj => by omega⟩⟩
 case round =>
  obtain ⟨k, nd, hk, rfl, rfl, rfl, HJ⟩ := hrel
  by_cases ou : k < 64
  ·have hkb : decide ((k : Int) < 64) = true := by simp; omega
   have hkl : k < b.slots.length := by have := HL.out; omega
   obtain ⟨m, hm⟩ : ∃ m : Nat, rd b.slots k = (m : Int) := ⟨(rd b.slots k).toNat, by have := (mZ HS.out k).1; omega⟩
   have tf : m < 256 := by have := (mZ HS.out k).2; omega
   have hix := fun w => oE b.slots HL.out k ou w
   have FI : b.slots.getD k 0 = (m : Int) := by rw [← hm]; simp [rd]
   rw [FI] at hix
   by_cases hbig : m ≤ b.attrs.length
   ·have hgb : decide (b.attrs.length < m) = false := by simp; omega
    have HU := ak (show lI (fV (b.slots.take k)) ((m : Int) - 1) = fV (b.slots.take (k + 1)) by
     unfold fV ux
     rw [List.take_add_one, List.map_append, List.foldl_append, List.getElem?_eq_getElem hkl]
     have : b.slots[k] = (m : Int) := by rw [← FI]; simp [List.getD, List.getElem?_eq_getElem hkl]
     rw [this]
     rfl)
    have zL := ak (show ∀ j, j < k + 1 → rd b.slots (j : Int) ≤ (b.attrs.length : Int) from fun j hj => by
     by_cases h : j < k
     ·exact HJ.out j h
     ·obtain rfl : j = k := by omega
      rw [hm]
      omega)
    clear hm FI
    go_wp2_with (go_at_call 21; refine (we (fV (b.slots.take k)) (o9 _) _ _).mono ?_; rintro e w' ⟨rfl, ⟨MH, rfl⟩⟩; rw [HU.out])
    go_roundw
    case rel => exact ⟨k + 1, nd + MH, by omega, by simp, by go_num, rfl, zL⟩
    case measure => simp [intOf]; omega
   ·have hgb : decide (b.attrs.length < m) = true := by simp; omega
    have HV := ak (show kr b = false by
     unfold kr
     rw [Bool.and_eq_false_iff]
     left
     rw [List.all_eq_false]
     refine ⟨b.slots[k], List.getElem_mem _, ?_⟩
     have : b.slots[k] = (m : Int) := by rw [← FI]; simp [List.getD, List.getElem?_eq_getElem hkl]
     rw [this]
     simp
     omega)
    clear hm FI
    go_wp2
    go_ret
    exact ⟨by rw [HV.out]; rfl, by apply af; exact cn.out.trans (uU.out.mono CE.out)⟩
  ·obtain rfl : k = 64 := by omega
   rw [show ((64 : Nat) : Int) = (64 : Int) from rfl]
   have hkb : decide ((64 : Int) < 64) = false := by decide
   have HT := ak (show b.slots.take 64 = b.slots from List.take_of_length_le (by have := HL.out; omega))
   have HA := ak (show (b.slots.all fun s => decide (s ≤ (b.attrs.length : Int))) = true by
    rw [List.all_eq_true]
    intro s hs
    obtain ⟨j, hj, rfl⟩ := List.getElem_of_mem hs
    have := HJ.out j (by have := HL.out; omega)
    simpa [rd, List.getD, hj] using this)
   go_wp2_with fail
   go_loopw [8, 30] (fun _ i W => ∃ k : Nat, k ≤ b.attrs.length ∧ i = .int .i64 k ∧ Aside0 (mo W gm (kv (b.attrs.take k))) ∧ Aside0 (Below gm W1 W) ∧ Aside0 (∀ j, j < k → eP (gH b.attrs j) = true ∧ (b.attrs.take j).any (sameAt (gH b.attrs j)) = false)) (fun _ i _ => b.attrs.length - (intOf i).toNat)
   case atStart => exact ⟨0, by omega, rfl, HM, ⟨by apply af; exact uU.out⟩, ⟨fun j hj => by omega⟩⟩
   case round =>
    clear HM gv pE HJ uU
    obtain ⟨k, hk, rfl, HM, HZ, HJ⟩ := hrel
    obtain ⟨W, rfl⟩ : ∃ W : World, W = wr := ⟨_, rfl⟩
    have HR := ak (mG.out.below (by rw [HGE.out]; exact HZ.out))
    by_cases hkn : k < b.attrs.length
    ·have hkb : decide ((k : Int) < (b.attrs.length : Int)) = true := by simp; omega
     obtain ⟨ad, eA, jg, lf⟩ := lr HR.out.ar k (by omega) (by omega)
     cases eA
     rw [Int.toNat_natCast] at jg lf
     have p1 : ((k : Int) < (b.attrs.length : Int)) = True := eq_true (by omega)
     obtain ⟨a, ha⟩ : ∃ a : At, gH b.attrs k = a := ⟨_, rfl⟩
     have ha' : cU b.attrs (k : Int) = a := ha
     rw [ha'] at jg lf
     have kb := ak ha
     have HK := ak (show (kv (b.attrs.take (k + 1))) = kv (b.attrs.take k) ++ [(a, 1)] by
      unfold kv
      rw [sG _ _ hkn, ha]
      simp)
     have hbad : (eP a = false ∨ (b.attrs.take k).any (sameAt a) = true) → kr b = false := fun h => by
      unfold kr
      rw [HA.out, Bool.true_and, Bool.and_eq_false_iff]
      left
      rw [List.all_eq_false]
      refine ⟨k, by simpa using hkn, ?_⟩
      rw [ha]
      rcases h with h | h <;> rw [h] <;> simp
     have HBAD := ak hbad
     have zL := ak (show eP a = true → (b.attrs.take k).any (sameAt a) = false → ∀ j, j < k + 1 → eP (gH b.attrs j) = true ∧ (b.attrs.take j).any (sameAt (gH b.attrs j)) = false from fun h1 h2 j hj => by
      by_cases hjk : j < k
      ·exact HJ.out j hjk
      ·obtain rfl : j = k := by omega
       rw [ha]
       exact ⟨h1, h2⟩)
     clear ha ha' hbad
     go_wp2_with (first
      | (refine ax (some 8) rfl rfl 85 rfl [.string ⟨#[]⟩, .string ⟨#[]⟩] (fun _ => by kernel_rfl) ?_; intro ga W3 hga jO Hd)
      | (refine aN rfl 85 (.tmp 8) (.tmp 33) rfl ga [.string a.f0, .string a.f1] rfl rfl 85 _ jO 2 (by kernel_rfl) rfl rfl (by intro u hu; simp at hu; rcases hu with rfl | rfl <;> rfl) ?_; intro W4 ox MV))
     have sm := ak ox
     have P4 := jO.lt
     have hbW : Below W.heap.size W W4 := Hd.grown MV Hd.size (fun q hq => by cases hq; exact hga)
     have NJ := ak (show mo W4 gm (kv (b.attrs.take k)) from (hbW.block gm (Array.getElem?_eq_some_iff.1 HM.out).1).trans HM.out)
     have HGW := ak (show gm ≤ W.heap.size from by have := (Array.getElem?_eq_some_iff.1 HM.out).1; omega)
     have pr := ak (HZ.out.trans (hbW.mono HGW.out))
     have HGA := ak (show gm ≠ ga by have := (Array.getElem?_eq_some_iff.1 HM.out).1; omega)
     have HLK := ak (show (kv (b.attrs.take k)).length < 1000 by rw [CV, List.length_take]; omega)
     have HGS := ak (show gm ≤ W4.heap.size from Nat.le_trans HGW.out hbW.size)
     clear HM HR HZ jO ox hga Hd MV hbW P4 jg lf
     obtain ⟨n, lK⟩ : ∃ n : Nat, numOf (kv (b.attrs.take k)) a = (n : Int) := by
      rw [AS]
      split
      ·exact ⟨1, rfl⟩
      ·exact ⟨0, rfl⟩
     have NI := ak lK
     have xK := ak (show (n = 1 ∧ (b.attrs.take k).any (sameAt a) = true) ∨ (n = 0 ∧ (b.attrs.take k).any (sameAt a) = false) by
      rw [AS] at lK
      split at lK
      ·rename_i h; exact .inl ⟨by omega, h⟩
      ·rename_i h; exact .inr ⟨by omega, by simpa using h⟩)
     clear lK
     refine da (n := 7) (S := fun w' => w'.cell? ⟨ga, 0, none⟩ = some (.string a.f0) ∧ w'.cell? ⟨ga, 1, none⟩ = some (.string a.f1) ∧ ∃ L1, mo w' gm L1 ∧ numOf L1 a = (n : Int)) (ds := [6]) #[false, false, false, false, false, false, false] (by kernel_rfl) rfl rfl ⟨sm.out.cell 0 _ rfl, sm.out.cell 1 _ rfl, _, NJ.out, NI.out⟩ (fun hHeld => ?_); refine bK nz.tab13 nz.bits13 (fun ab bq => ?_)
     refine pu 0 ab.out ?_
     refine tk 1 ab.out bq.out hHeld ?_ (hv := by intro w' aY; obtain ⟨s0, s1, s2⟩ := aY; go_simp; with_reducible rfl)
     refine tk 2 ab.out bq.out hHeld ?_ (hv := by intro w' aY; obtain ⟨s0, s1, L1, s2, s3⟩ := aY; have hlk := wi _ _ _ s2 a; rw [s3] at hlk; simp only [et] at hlk; go_simp; with_reducible rfl)
     refine pu 3 ab.out ?_
     refine on 4 ab.out (fun K hK => ?_)
     obtain ⟨W6, W7, jj, MX, PB, Pz, Py, vW, M0⟩ := FW W4.drew gm _ NJ.out HLK.out a (wrap64 ((n : Int) + 1)); rw [NI.out] at MX; simp only [et] at MX
     refine xc (v := .tuple #[.int .i64 (n : Int), .int .i64 jj]) (w1 := W6) (by rfl) ?_ ?_
     ·go_simp
      try rfl
     refine kn hK ⟨(M0 _ HGA.out.symm).trans (sm.out.cell 0 _ rfl), (M0 _ HGA.out.symm).trans (sm.out.cell 1 _ rfl), by obtain ⟨L1, h1, h2⟩ := PB; exact ⟨L1, h1, h2.trans NI.out⟩⟩ (fun hHeld => ?_)
     clear hK K
     refine pu 5 ab.out ?_
     refine ra (i := 6) (N := none) #[true, true, true, true, true, true, true] rfl rfl (mT ab.out (by kernel_rfl)) (by decide) (fun K hK => ?_)
     refine pI (w1 := ?_) (by rfl) rfl ?_ ?_
     rotate_left
     ·go_simp
      rfl
     refine hK.out _ _ ?_
     clear hK K
     refine dn ab.out ?_
     have wb := ak (show aH W7 ga [.string a.f0, .string a.f1] 85 from (show aH W4.drew ga _ _ from sm.out).grown vW (fun e => HGA.out (Option.some.inj e).symm))
     have DR := ak Py
     have Gh := ak ((show Below gm W1 W4.drew from bp pr.out).grown vW HGS.out (fun q hq => by cases hq; exact Nat.le_refl _))
     have NP := ak (show gm ≤ W7.heap.size from Nat.le_trans HGS.out vW.size)
     clear Py vW M0 MX Pz PB sm NJ pr hHeld
     have Pu := wb.out.cell 0 _ rfl
     have Fw := wb.out.cell 1 _ rfl
     cases hmy : eP a with
     | false =>
      have HV := ak (HBAD.out (.inl hmy))
      have HMY := ak hmy
      clear hmy
      go_wp2_with (go_at_call 88; refine (jF a _).mono ?_; rintro e W8 ⟨rfl, pD⟩; rw [HMY.out])
      go_ret
      exact ⟨by rw [HV.out]; rfl, cn.out.trans ((Gh.out.trans (pD.mono NP.out)).mono CE.out)⟩
     | true =>
      have HMY := ak hmy
      clear hmy
      rcases xK.out with ⟨pC, zy⟩ | ⟨pC, zy⟩
      ·have HV := ak (HBAD.out (.inr zy))
       have Kz := ak (show wrap64 ((n : Int) + 1) = 2 by rw [pC]; unfold wrap64; omega)
       clear pC zy
       go_wp2_with (first | (go_at_call 88; refine (jF a _).mono ?_; rintro e W8 ⟨rfl, pD⟩; rw [HMY.out]; have Nz := ak (Gh.out.trans (pD.mono NP.out)); have PY := (wb.out.below pD).cell 0 _ rfl; have PX := (wb.out.below pD).cell 1 _ rfl; have Gq := ak (show mo W8 gm _ from (pD.block gm (Array.getElem?_eq_some_iff.1 DR.out).1).trans DR.out); have hlk := wi _ _ _ Gq.out a; rw [zq, Kz.out] at hlk; simp only [et] at hlk; clear pD wb DR Gh Pu Fw))
       go_ret
       exact ⟨by rw [HV.out]; rfl, cn.out.trans (Nz.out.mono CE.out)⟩
      ·have Kz := ak (show wrap64 ((n : Int) + 1) = 1 by rw [pC]; unfold wrap64; omega)
       have PJ := ak (zL.out HMY.out zy)
       have HPU := ak (show putAt (kv (b.attrs.take k)) a (wrap64 ((n : Int) + 1)) = kv (b.attrs.take (k + 1)) by rw [Kz.out, GF _ _ zy, HK.out])
       clear pC zy
       go_wp2_with (first | (go_at_call 88; refine (jF a _).mono ?_; rintro e W8 ⟨rfl, pD⟩; rw [HMY.out]; have Nz := ak (Gh.out.trans (pD.mono NP.out)); have PY := (wb.out.below pD).cell 0 _ rfl; have PX := (wb.out.below pD).cell 1 _ rfl; have Gq := ak (show mo W8 gm _ from (pD.block gm (Array.getElem?_eq_some_iff.1 DR.out).1).trans DR.out); have hlk := wi _ _ _ Gq.out a; rw [zq, Kz.out] at hlk; simp only [et] at hlk; clear pD wb DR Gh Pu Fw))
       rw [HPU.out] at Gq
       go_roundw
       case rel => exact ⟨k + 1, by omega, by go_num, Gq, Nz, PJ⟩
       case measure => simp [intOf]; omega
    ·obtain rfl : k = b.attrs.length := by omega
     have hkb : decide ((b.attrs.length : Int) < (b.attrs.length : Int)) = false := by simp
     have HAA := ak (show (List.range b.attrs.length).all (fun j => eP (gH b.attrs j) && !((b.attrs.take j).any (sameAt (gH b.attrs j)))) = true by
      rw [List.all_eq_true]
      intro j hj
      obtain ⟨h1, h2⟩ := HJ.out j (by simpa using hj)
      rw [h1, h2]
      rfl)
     have HV := ak (show kr b = decide ((iv (fV b.slots)).length = b.attrs.length) by
      unfold kr
      rw [HA.out, HAA.out, Bool.true_and, Bool.true_and])
     have HXW := ak (im.out.below (by rw [HGE.out]; exact HZ.out))
     have pE := HXW.out.cell 67 _ (fz _ _ _ _ _ HL.out)
     rw [HT.out]
     go_wp2_with fail
     refine da (n := 7) (S := fun w' => w'.cell? ⟨g, 67, none⟩ = some (Value.slice A' b.attrs.length c')) (ds := []) #[false, false, false, false, false, false, false] (by kernel_rfl) rfl rfl pE (fun hHeld => ?_); refine bK ny.tab17 ny.bits17 (fun ab bq => ?_)
     refine pu 0 ab.out ?_
     refine pu 2 ab.out ?_
     refine tk 3 ab.out bq.out hHeld ?_
     refine pu 4 ab.out ?_
     refine on 1 ab.out (fun K hK => ?_)
     refine gs Try.func27 #[.int .u64 ((fV b.slots : Nat) : Int)] (La (fV b.slots) (o9 _) _) ?_
     rintro e W9 ⟨rfl, ⟨Vh, rfl⟩⟩
     refine ⟨_, rfl, ?_⟩
     refine kn hK hHeld (fun hHeld => ?_)
     clear hK K
     refine pu 5 ab.out ?_
     refine pu 6 ab.out ?_
     refine dn ab.out ?_
     try go_wp2
     go_ret
     refine ⟨?_, by apply af; exact aq (cn.out.trans (HZ.out.mono CE.out))⟩
     rw [HV.out]
     show Ending.returned (Value.bool ((((iv (fV b.slots)).length : Nat) : Int) == ((b.attrs.length : Nat) : Int))) = _
     congr 2
     rw [Bool.eq_iff_iff, beq_iff_eq, decide_eq_true_eq]
     exact Int.ofNat_inj
end Go.Proofs.Ytemhalnhbgkbcaa.V
end

section
namespace Go.Proofs.Ytemhalnhbgkbcaa.V
attribute [local go_sem] eH eF fk fj ei eh eG eE
def nx.f (a0 : Int) : Option (Int) := some ((IntKind.u64.wrap (4294967296 - (IntKind.u64.wrap (2 ^ (32 - (mn (mx a0 0) 32)).toNat)))) % 4294967296)
set_option maxHeartbeats 8000000 in
set_option maxRecDepth 100000 in
theorem nx.calls (a0 : Int) (r : Int) (w : World) (h : nx.f a0 = some r) :
  Calls Try.prog 105 #[.int .i64 a0] w fun e w' => e = .returned (.int .u32 r) ∧ Below w.heap.size w w' := by
 have HB := ak (Below.refl w.heap.size w)
 have H : (some ((IntKind.u64.wrap (4294967296 - (IntKind.u64.wrap (2 ^ (32 - (mn (mx a0 0) 32)).toNat)))) % 4294967296)) = some r := h
 clear h
 obtain ⟨Bp, Bw⟩ : ∃ j_ : Int, (mx a0 0) = j_ := ⟨_, rfl⟩
 replace H : (some ((IntKind.u64.wrap (4294967296 - (IntKind.u64.wrap (2 ^ (32 - (mn (Bp) 32)).toNat)))) % 4294967296)) = some r := by first | (rw [Bw] at H; exact H) | (simp only [Bw] at H ⊢; exact H)
 (try (have UF : 0 ≤ Bp := by (rw [← Bw]; unfold mx; (repeat' split) <;> omega)))
 (try (have UE : 0 ≤ Bp := by omega))
 have UG : (if a0 < 0 then 0 else a0) = Bp := Bw
 obtain ⟨zv, sA⟩ : ∃ j_ : Int, (mn (Bp) 32) = j_ := ⟨_, rfl⟩
 replace H : (some ((IntKind.u64.wrap (4294967296 - (IntKind.u64.wrap (2 ^ (32 - (zv)).toNat)))) % 4294967296)) = some r := by first | (rw [sA] at H; exact H) | (simp only [sA] at H ⊢; exact H)
 have Io : (if 32 < (Bp) then 32 else (Bp)) = zv := sA
 obtain rfl := Option.some.inj H
 go_enter Try.func105, Try.ntmps105
 go_wp2
 go_ret
 exact ⟨by first | rfl | (simp [cy, cx] <;> rfl) | (simp only [← Bw, ← sA]; first | rfl | (simp [cy, cx] <;> rfl)) | (simp [*, cy, cx] <;> rfl), by repeat (first | (with_reducible first | exact HB.out | apply al | apply af | apply aq) | exact HB.out)⟩
end Go.Proofs.Ytemhalnhbgkbcaa.V
end

section
namespace Go.Proofs.Ytemhalnhbgkbcaa.V
attribute [local go_sem] eH eF fk fj ei eh eG eE
def gp.f (a0 : Int) : Option (Int) := (nx.f 26).bind fun sI => (some (Go.bits .and .u32 a0 sI))
set_option maxHeartbeats 8000000 in
set_option maxRecDepth 100000 in
theorem gp.calls (a0 : Int) (r : Int) (w : World) (h : gp.f a0 = some r) :
  Calls Try.prog 80 #[.int .u32 a0] w fun e w' => e = .returned (.int .u32 r) ∧ Below w.heap.size w w' := by
 have HB := ak (Below.refl w.heap.size w)
 have H : ((nx.f 26).bind fun sI => (some (Go.bits .and .u32 a0 sI))) = some r := h
 clear h
 replace H := Option.bind_eq_some_iff.mp H
 obtain ⟨sI, zN, H⟩ := H
 replace H : (some (Go.bits .and .u32 a0 sI)) = some r := H
 have A2 := ak zN
 clear zN
 obtain rfl := Option.some.inj H
 go_enter Try.func80, Try.ntmps80
 go_wp2_with (first | ((with_reducible refine fL (f := 105) rfl ?_); refine kL (some 4) rfl rfl Try.func105 (by kernel_rfl) rfl #[.int .i64 26] rfl (by (try simp only [List.map_toArray, List.map_cons, List.map_nil]); first | done | rfl | (simp only [List.length_drop, List.length_take]; rfl)) ?_; (with_reducible refine (nx.calls 26 sI _ A2.out).mono ?_); rintro e w3 ⟨rfl, hb⟩; refine ⟨_, rfl, ?_⟩; have cD := ak (bE (by repeat (first | (with_reducible first | exact HB.out | apply al | apply af | apply aq) | exact HB.out)) hb); clear HB; have HB := cD; clear cD; (try clear hb); (try clear eU); (try clear hk); (try clear hi)))
 go_ret
 exact ⟨by first | rfl | (simp [cy, cx] <;> rfl) | (simp [*, cy, cx] <;> rfl), by repeat (first | (with_reducible first | exact HB.out | apply al | apply af | apply aq) | exact HB.out)⟩
end Go.Proofs.Ytemhalnhbgkbcaa.V
end

section
namespace Go.Proofs.Ytemhalnhbgkbcaa.V
attribute [local go_sem] eH eF fk fj ei eh eG eE
def gl.f (a0 : ByteArray) : Option (Bool) := if a0.toList = ([] : List UInt8) then (some true) else ((ff.f a0).bind fun sJ => (some sJ))
set_option maxHeartbeats 8000000 in
set_option maxRecDepth 100000 in
theorem gl.calls (a0 : ByteArray) (r : Bool) (w : World) (h : gl.f a0 = some r) :
  Calls Try.prog 79 #[.string a0] w fun e w' => e = .returned (.bool r) ∧ Below w.heap.size w w' := by
 have HB := ak (Below.refl w.heap.size w)
 have H : (if a0.toList = ([] : List UInt8) then (some true) else ((ff.f a0).bind fun sJ => (some sJ))) = some r := h
 clear h
 by_cases c2 : a0.toList = ([] : List UInt8)
 ·rw [if_pos c2] at H
  have sB : (a0.toList == ([] : List UInt8)) = true := beq_iff_eq.mpr c2
  have y8 : (a0.toList != ([] : List UInt8)) = false := bne_eq_false_iff_eq.mpr c2
  clear c2
  obtain rfl := Option.some.inj H
  go_enter Try.func79, Try.ntmps79
  go_wp2
  go_ret
  exact ⟨by first | rfl | (simp [cy, cx] <;> rfl) | (simp [*, cy, cx] <;> rfl), by repeat (first | (with_reducible first | exact HB.out | apply al | apply af | apply aq) | exact HB.out)⟩
 ·rw [if_neg c2] at H
  have sB : (a0.toList == ([] : List UInt8)) = false := beq_eq_false_iff_ne.mpr c2
  have y8 : (a0.toList != ([] : List UInt8)) = true := bne_iff_ne.mpr c2
  replace H := Option.bind_eq_some_iff.mp H
  obtain ⟨sJ, sn, H⟩ := H
  replace H : (some sJ) = some r := H
  have A3 := ak sn
  clear sn
  obtain rfl := Option.some.inj H
  go_enter Try.func79, Try.ntmps79
  go_wp2_with (first | (go_at_call 104; (with_reducible refine (ff.calls a0 sJ _ A3.out).mono ?_); rintro e w4 ⟨rfl, hb⟩; have cD := ak (bE (by repeat (first | (with_reducible first | exact HB.out | apply al | apply af | apply aq) | exact HB.out)) hb); clear HB; have HB := cD; clear cD; (try clear hb); (try clear eU); (try clear hk); (try clear hi)))
  go_ret
  exact ⟨by first | rfl | (simp [cy, cx] <;> rfl) | (simp [*, cy, cx] <;> rfl), by repeat (first | (with_reducible first | exact HB.out | apply al | apply af | apply aq) | exact HB.out)⟩
end Go.Proofs.Ytemhalnhbgkbcaa.V
end

section
namespace Go.Proofs.Ytemhalnhbgkbcaa.V
structure BkOk (b : Bk) : Prop where
 a0 : 0 ≤ b.addr
 a1 : b.addr < 4294967296
 s8 : nN b.slots
 f8 : nN b.free
def bN (a : Int) : Int := a - a % 64
theorem Hv (n : Nat) : n &&& 4294967232 = n % 4294967296 - n % 64 := by
 have h1 : n &&& 4294967232 = (n % 4294967296) &&& 4294967232 := by
  apply Nat.eq_of_testBit_eq
  intro i
  rw [Nat.testBit_and, Nat.testBit_and, show (4294967296 : Nat) = 2 ^ 32 from rfl, Nat.testBit_mod_two_pow]
  by_cases h : i < 32
  ·simp [h]
  ·have : (4294967232 : Nat).testBit i = false := Nat.testBit_lt_two_pow (Nat.lt_of_lt_of_le (show (4294967232 : Nat) < 2 ^ 32 by decide) (Nat.pow_le_pow_right (by omega) (by omega)))
   rw [this]
   simp
 have h2 : (n % 4294967296) &&& 4294967232 = (n % 4294967296) / 64 * 64 := by
  apply Nat.eq_of_testBit_eq
  intro i
  rw [Nat.testBit_and, show (64 : Nat) = 2 ^ 6 from rfl, Nat.testBit_mul_two_pow, Nat.testBit_div_two_pow]
  rw [show (4294967232 : Nat) = 67108863 * 2 ^ 6 from rfl, Nat.testBit_mul_two_pow, show (67108863 : Nat) = 2 ^ 26 - 1 from rfl, Nat.testBit_two_pow_sub_one]
  by_cases h6 : 6 ≤ i
  ·by_cases Vr : i < 32
   ·have e : 6 + (i - 6) = i := by omega
    simp [h6, show i - 6 < 26 by omega, e]
   ·have : (n % 4294967296).testBit i = false := Nat.testBit_lt_two_pow (Nat.lt_of_lt_of_le (Nat.mod_lt _ (by decide)) (Nat.pow_le_pow_right (n := 2) (by omega) (show 32 ≤ i by omega)))
    simp [this, h6, show ¬ (i - 6 < 26) by omega]
  ·simp [h6]
 rw [h1, h2]
 omega
theorem yZ (a : Int) (h0 : 0 ≤ a) (h1 : a < 4294967296) : gp.f a = some (bN a) := by
 obtain ⟨n, rfl⟩ : ∃ n : Nat, a = (n : Int) := ⟨a.toNat, by omega⟩
 unfold gp.f bN
 rw [show nx.f 26 = some ((4294967232 : Nat) : Int) from rfl, Option.bind_some]
 congr 1
 rw [u32_and_nat n 4294967232 (by omega) (by omega), Hv]
 omega
def fY (s : ByteArray) : Bool := decide (s.toList = []) || fM s
theorem yO (s : ByteArray) : gl.f s = some (fY s) := by
 unfold gl.f ff.f fY
 by_cases h : s.toList = []
 ·rw [if_pos h]; simp [h]
 ·rw [if_neg h]; simp [h]
def dy (b : Bk) : Bool := (bN b.addr == b.addr) && (fY b.aff && (decide (b.attrs.length ≤ 64) && (kr b && kB b)))
def iC.T1 : Bool × List (List Nat × List Nat) := (true, [([], []), ([0], [0]), ([1], [1]), ([], []), ([3], [3]), ([2, 4], [2, 4]), ([5, 2], [5]), ([6], [6]), ([7, 6], [6, 7]), ([8, 6, 6], [6, 8]), ([6, 9], [6, 9]), ([10, 9], [10]), ([11], [11]), ([12, 11], [11, 12]), ([13, 11], [11, 13]), ([14, 11], [11, 14]), ([11, 15], [11, 15]), ([16, 11], [16]), ([17], [17]), ([18, 17, 17], [17, 18]), ([17, 19], [17, 19]), ([20, 19], [20]), ([21], [21]), ([22, 21, 21], [21, 22]), ([21, 23], [21, 23]), ([24, 23, 0, 1, 2, 3, 4, 5, 6, 7, 8, 9, 10, 11, 12, 13, 14, 15, 16, 17, 18, 19, 20, 21, 22, 23, 24], [24])])
def iC.B1 : List Nat := [0, 1, 3, 0, 8, 31, 63, 127, 255, 511, 1023, 2047, 4095, 8191, 16383, 32767, 65535, 131071, 262143, 524287, 1048575, 2097151, 4194303, 8388607, 16777215, 33554431]
theorem iC.tab1 : dP .any (opsOf Try.f48 1) = iC.T1 := by kernel_rfl
theorem iC.bits1 : dr iC.T1.2 iC.B1 = true := by kernel_rfl
set_option maxHeartbeats 8000000 in
set_option maxRecDepth 100000 in
theorem dW (b : Bk) (hk : BkOk b) (v : Value) (w : World) (h : gi w v b) :
  Calls Try.prog 48 #[v] w fun e w' => e = .returned (.bool (dy b)) ∧ Below w.heap.size w w' := by
 obtain ⟨A, c, A', c', rfl, hr⟩ := h
 have HL := ak hr.l64
 have HR := ak hr
 have HS := ak hk.s8
 have HF := ak hk.f8
 have jN := ak (yZ b.addr hk.a0 hk.a1)
 have kR := ak (yO b.aff)
 have HLL := ak (show (Try.prog.info? 57).map (·.size) = some (aX b.addr b.aff b.slots (.slice A b.free.length c) (.slice A' b.attrs.length c')).length by rw [ag _ _ _ _ _ hr.l64]; kernel_rfl)
 clear hr hk
 go_enter Try.func48, Try.ntmps48
 go_wp2_with (refine aE rfl 57 (.tmp 0) rfl _ rfl ?_; intro g W1 hg hbx cA; have HX := ak (show aH W1.drew g _ _ from hbx); have HB := ak (bp cA); have mG := ak ((HR.out.below cA).below (bp (Below.refl W1.heap.size W1))); have HZ := ak (Below.refl W1.drew.heap.size W1.drew); clear hbx cA hg HR)
 cases h1 : (bN b.addr == b.addr) with
 | false =>
  have HV := ak (show dy b = false by unfold dy; rw [h1]; rfl)
  refine da (n := 26) (S := fun w' => aH w' g (aX b.addr b.aff b.slots (.slice A b.free.length c) (.slice A' b.attrs.length c')) 57) (ds := []) #[false, false, false, false, false, false, false, false, false, false, false, false, false, false, false, false, false, false, false, false, false, false, false, false, false, false] (by kernel_rfl) rfl rfl HX.out (fun hHeld => ?_); refine bK iC.tab1 iC.bits1 (fun ab bq => ?_)
  refine pu 0 ab.out ?_
  refine tk 1 ab.out bq.out hHeld ?_ (hv := by intro w' aY; have s0 := aY.cell 0 _ rfl; go_simp; with_reducible rfl)
  refine pu 3 ab.out ?_
  refine tk 4 ab.out bq.out hHeld ?_ (hv := by intro w' aY; have s0 := aY.cell 0 _ rfl; go_simp; with_reducible rfl)
  refine on 2 ab.out (fun K hK => ?_)
  refine gs Try.func80 #[.int .u32 b.addr] (gp.calls _ _ _ jN.out) ?_
  rintro e V2 ⟨rfl, hb⟩
  refine ⟨_, rfl, ?_⟩
  have HXn := hHeld.below hb; have HZn := ak (bE HZ.out hb); clear HZ; have HZ := HZn; clear HZn hb
  refine kn hK HXn (fun hHeld => ?_)
  clear hK K
  refine pu 5 ab.out ?_
  refine pu 6 ab.out ?_
  refine po 7 ab.out ?_
  refine po 8 ab.out ?_
  refine po 9 ab.out ?_
  refine pu 10 ab.out ?_
  refine pu 11 ab.out ?_
  refine po 12 ab.out ?_
  refine po 13 ab.out ?_
  refine po 14 ab.out ?_
  refine po 15 ab.out ?_
  refine pu 16 ab.out ?_
  refine pu 17 ab.out ?_
  refine po 18 ab.out ?_
  refine po 19 ab.out ?_
  refine pu 20 ab.out ?_
  refine pu 21 ab.out ?_
  refine po 22 ab.out ?_
  refine po 23 ab.out ?_
  refine pu 24 ab.out ?_
  refine pu 25 ab.out ?_
  refine dn ab.out ?_
  try go_wp2
  go_ret
  refine ⟨?_, HB.out.trans (HZ.out.mono HB.out.size)⟩
  rw [HV.out]; rfl
 | true =>
  cases h2 : fY b.aff with
  | false =>
   have HV := ak (show dy b = false by unfold dy; rw [h1, h2]; rfl)
   rw [h2] at kR
   refine da (n := 26) (S := fun w' => aH w' g (aX b.addr b.aff b.slots (.slice A b.free.length c) (.slice A' b.attrs.length c')) 57) (ds := []) #[false, false, false, false, false, false, false, false, false, false, false, false, false, false, false, false, false, false, false, false, false, false, false, false, false, false] (by kernel_rfl) rfl rfl HX.out (fun hHeld => ?_); refine bK iC.tab1 iC.bits1 (fun ab bq => ?_)
   refine pu 0 ab.out ?_
   refine tk 1 ab.out bq.out hHeld ?_ (hv := by intro w' aY; have s0 := aY.cell 0 _ rfl; go_simp; with_reducible rfl)
   refine pu 3 ab.out ?_
   refine tk 4 ab.out bq.out hHeld ?_ (hv := by intro w' aY; have s0 := aY.cell 0 _ rfl; go_simp; with_reducible rfl)
   refine on 2 ab.out (fun K hK => ?_)
   refine gs Try.func80 #[.int .u32 b.addr] (gp.calls _ _ _ jN.out) ?_
   rintro e V2 ⟨rfl, hb⟩
   refine ⟨_, rfl, ?_⟩
   have HXn := hHeld.below hb; have HZn := ak (bE HZ.out hb); clear HZ; have HZ := HZn; clear HZn hb
   refine kn hK HXn (fun hHeld => ?_)
   clear hK K
   refine pu 5 ab.out ?_
   refine pu 6 ab.out ?_
   refine pu 7 ab.out ?_
   refine tk 8 ab.out bq.out hHeld ?_ (hv := by intro w' aY; have s0 := aY.cell 1 _ rfl; go_simp; with_reducible rfl)
   refine on 9 ab.out (fun K hK => ?_)
   refine gs Try.func79 #[.string b.aff] (gl.calls _ _ _ kR.out) ?_
   rintro e V9 ⟨rfl, hb⟩
   refine ⟨_, rfl, ?_⟩
   have HXn := hHeld.below hb; have HZn := ak (bE HZ.out hb); clear HZ; have HZ := HZn; clear HZn hb
   refine kn hK HXn (fun hHeld => ?_)
   clear hK K
   refine pu 10 ab.out ?_
   refine pu 11 ab.out ?_
   refine po 12 ab.out ?_
   refine po 13 ab.out ?_
   refine po 14 ab.out ?_
   refine po 15 ab.out ?_
   refine pu 16 ab.out ?_
   refine pu 17 ab.out ?_
   refine po 18 ab.out ?_
   refine po 19 ab.out ?_
   refine pu 20 ab.out ?_
   refine pu 21 ab.out ?_
   refine po 22 ab.out ?_
   refine po 23 ab.out ?_
   refine pu 24 ab.out ?_
   refine pu 25 ab.out ?_
   refine dn ab.out ?_
   try go_wp2
   go_ret
   refine ⟨?_, HB.out.trans (HZ.out.mono HB.out.size)⟩
   rw [HV.out]; rfl
  | true =>
   rw [h2] at kR
   by_cases h3 : b.attrs.length ≤ 64
   ·have Tx : decide ((b.attrs.length : Int) ≤ 64) = true := by simp; omega
    have HN := ak h3
    cases h4 : kr b with
    | false =>
     have HV := ak (show dy b = false by unfold dy; rw [h1, h2, h4]; simp)
     have sm := ak h4
     refine da (n := 26) (S := fun w' => aH w' g (aX b.addr b.aff b.slots (.slice A b.free.length c) (.slice A' b.attrs.length c')) 57) (ds := []) #[false, false, false, false, false, false, false, false, false, false, false, false, false, false, false, false, false, false, false, false, false, false, false, false, false, false] (by kernel_rfl) rfl rfl HX.out (fun hHeld => ?_); refine bK iC.tab1 iC.bits1 (fun ab bq => ?_)
     refine pu 0 ab.out ?_
     refine tk 1 ab.out bq.out hHeld ?_ (hv := by intro w' aY; have s0 := aY.cell 0 _ rfl; go_simp; with_reducible rfl)
     refine pu 3 ab.out ?_
     refine tk 4 ab.out bq.out hHeld ?_ (hv := by intro w' aY; have s0 := aY.cell 0 _ rfl; go_simp; with_reducible rfl)
     refine on 2 ab.out (fun K hK => ?_)
     refine gs Try.func80 #[.int .u32 b.addr] (gp.calls _ _ _ jN.out) ?_
     rintro e V2 ⟨rfl, hb⟩
     refine ⟨_, rfl, ?_⟩
     have HXn := hHeld.below hb; have HZn := ak (bE HZ.out hb); clear HZ; have HZ := HZn; clear HZn hb
     refine kn hK HXn (fun hHeld => ?_)
     clear hK K
     refine pu 5 ab.out ?_
     refine pu 6 ab.out ?_
     refine pu 7 ab.out ?_
     refine tk 8 ab.out bq.out hHeld ?_ (hv := by intro w' aY; have s0 := aY.cell 1 _ rfl; go_simp; with_reducible rfl)
     refine on 9 ab.out (fun K hK => ?_)
     refine gs Try.func79 #[.string b.aff] (gl.calls _ _ _ kR.out) ?_
     rintro e V9 ⟨rfl, hb⟩
     refine ⟨_, rfl, ?_⟩
     have HXn := hHeld.below hb; have HZn := ak (bE HZ.out hb); clear HZ; have HZ := HZn; clear HZn hb
     refine kn hK HXn (fun hHeld => ?_)
     clear hK K
     refine pu 10 ab.out ?_
     refine pu 11 ab.out ?_
     refine pu 12 ab.out ?_
     refine tk 13 ab.out bq.out hHeld ?_ (hv := by intro w' aY; have s0 := aY.cell 67 _ (fz _ _ _ _ _ HL.out); go_simp; with_reducible rfl)
     refine pu 14 ab.out ?_
     refine pu 15 ab.out ?_
     refine pu 16 ab.out ?_
     refine pu 17 ab.out ?_
     refine tk 18 ab.out bq.out hHeld ?_ (hv := by exact fun _ aY => aJ 57 (.tmp 1) rfl g rfl _ _ _ aY Try.underlying57 rfl HLL.out)
     refine on 19 ab.out (fun K hK => ?_)
     refine gs Try.func86 #[.agg (aX b.addr b.aff b.slots (.slice A b.free.length c) (.slice A' b.attrs.length c')).toArray] (zH b HS.out HN.out _ _ ⟨A, c, A', c', rfl, mG.out.below HZ.out⟩) ?_
     rintro e TM ⟨rfl, hb⟩
     refine ⟨_, rfl, ?_⟩
     have HXn := hHeld.below hb; rw [sm.out]; have HZn := ak (bE HZ.out hb); clear HZ; have HZ := HZn; clear HZn hb
     refine kn hK HXn (fun hHeld => ?_)
     clear hK K
     refine pu 20 ab.out ?_
     refine pu 21 ab.out ?_
     refine po 22 ab.out ?_
     refine po 23 ab.out ?_
     refine pu 24 ab.out ?_
     refine pu 25 ab.out ?_
     refine dn ab.out ?_
     try go_wp2
     go_ret
     refine ⟨?_, HB.out.trans (HZ.out.mono HB.out.size)⟩
     rw [HV.out]; rfl
    | true =>
     have HV := ak (show dy b = kB b by unfold dy; rw [h1, h2, h4, decide_eq_true h3]; rfl)
     have sm := ak h4
     refine da (n := 26) (S := fun w' => aH w' g (aX b.addr b.aff b.slots (.slice A b.free.length c) (.slice A' b.attrs.length c')) 57) (ds := []) #[false, false, false, false, false, false, false, false, false, false, false, false, false, false, false, false, false, false, false, false, false, false, false, false, false, false] (by kernel_rfl) rfl rfl HX.out (fun hHeld => ?_); refine bK iC.tab1 iC.bits1 (fun ab bq => ?_)
     refine pu 0 ab.out ?_
     refine tk 1 ab.out bq.out hHeld ?_ (hv := by intro w' aY; have s0 := aY.cell 0 _ rfl; go_simp; with_reducible rfl)
     refine pu 3 ab.out ?_
     refine tk 4 ab.out bq.out hHeld ?_ (hv := by intro w' aY; have s0 := aY.cell 0 _ rfl; go_simp; with_reducible rfl)
     refine on 2 ab.out (fun K hK => ?_)
     refine gs Try.func80 #[.int .u32 b.addr] (gp.calls _ _ _ jN.out) ?_
     rintro e V2 ⟨rfl, hb⟩
     refine ⟨_, rfl, ?_⟩
     have HXn := hHeld.below hb; have HZn := ak (bE HZ.out hb); clear HZ; have HZ := HZn; clear HZn hb
     refine kn hK HXn (fun hHeld => ?_)
     clear hK K
     refine pu 5 ab.out ?_
     refine pu 6 ab.out ?_
     refine pu 7 ab.out ?_
     refine tk 8 ab.out bq.out hHeld ?_ (hv := by intro w' aY; have s0 := aY.cell 1 _ rfl; go_simp; with_reducible rfl)
     refine on 9 ab.out (fun K hK => ?_)
     refine gs Try.func79 #[.string b.aff] (gl.calls _ _ _ kR.out) ?_
     rintro e V9 ⟨rfl, hb⟩
     refine ⟨_, rfl, ?_⟩
     have HXn := hHeld.below hb; have HZn := ak (bE HZ.out hb); clear HZ; have HZ := HZn; clear HZn hb
     refine kn hK HXn (fun hHeld => ?_)
     clear hK K
     refine pu 10 ab.out ?_
     refine pu 11 ab.out ?_
     refine pu 12 ab.out ?_
     refine tk 13 ab.out bq.out hHeld ?_ (hv := by intro w' aY; have s0 := aY.cell 67 _ (fz _ _ _ _ _ HL.out); go_simp; with_reducible rfl)
     refine pu 14 ab.out ?_
     refine pu 15 ab.out ?_
     refine pu 16 ab.out ?_
     refine pu 17 ab.out ?_
     refine tk 18 ab.out bq.out hHeld ?_ (hv := by exact fun _ aY => aJ 57 (.tmp 1) rfl g rfl _ _ _ aY Try.underlying57 rfl HLL.out)
     refine on 19 ab.out (fun K hK => ?_)
     refine gs Try.func86 #[.agg (aX b.addr b.aff b.slots (.slice A b.free.length c) (.slice A' b.attrs.length c')).toArray] (zH b HS.out HN.out _ _ ⟨A, c, A', c', rfl, mG.out.below HZ.out⟩) ?_
     rintro e TM ⟨rfl, hb⟩
     refine ⟨_, rfl, ?_⟩
     have HXn := hHeld.below hb; rw [sm.out]; have HZn := ak (bE HZ.out hb); clear HZ; have HZ := HZn; clear HZn hb
     refine kn hK HXn (fun hHeld => ?_)
     clear hK K
     refine pu 20 ab.out ?_
     refine pu 21 ab.out ?_
     refine tk 22 ab.out bq.out hHeld ?_ (hv := by exact fun _ aY => aJ 57 (.tmp 1) rfl g rfl _ _ _ aY Try.underlying57 rfl HLL.out)
     refine on 23 ab.out (fun K hK => ?_)
     refine gs Try.func87 #[.agg (aX b.addr b.aff b.slots (.slice A b.free.length c) (.slice A' b.attrs.length c')).toArray] (Hh b HF.out HS.out _ _ ⟨A, c, A', c', rfl, mG.out.below HZ.out⟩) ?_
     rintro e VG ⟨rfl, hb⟩
     refine ⟨_, rfl, ?_⟩
     have HXn := hHeld.below hb; have HZn := ak (bE HZ.out hb); clear HZ; have HZ := HZn; clear HZn hb
     refine kn hK HXn (fun hHeld => ?_)
     clear hK K
     refine pu 24 ab.out ?_
     refine pu 25 ab.out ?_
     refine dn ab.out ?_
     try go_wp2
     go_ret
     refine ⟨?_, HB.out.trans (HZ.out.mono HB.out.size)⟩
     rw [HV.out]; rfl
   ·have Tx : decide ((b.attrs.length : Int) ≤ 64) = false := by simp; omega
    have HV := ak (show dy b = false by unfold dy; rw [h1, h2, decide_eq_false h3]; rfl)
    refine da (n := 26) (S := fun w' => aH w' g (aX b.addr b.aff b.slots (.slice A b.free.length c) (.slice A' b.attrs.length c')) 57) (ds := []) #[false, false, false, false, false, false, false, false, false, false, false, false, false, false, false, false, false, false, false, false, false, false, false, false, false, false] (by kernel_rfl) rfl rfl HX.out (fun hHeld => ?_); refine bK iC.tab1 iC.bits1 (fun ab bq => ?_)
    refine pu 0 ab.out ?_
    refine tk 1 ab.out bq.out hHeld ?_ (hv := by intro w' aY; have s0 := aY.cell 0 _ rfl; go_simp; with_reducible rfl)
    refine pu 3 ab.out ?_
    refine tk 4 ab.out bq.out hHeld ?_ (hv := by intro w' aY; have s0 := aY.cell 0 _ rfl; go_simp; with_reducible rfl)
    refine on 2 ab.out (fun K hK => ?_)
    refine gs Try.func80 #[.int .u32 b.addr] (gp.calls _ _ _ jN.out) ?_
    rintro e V2 ⟨rfl, hb⟩
    refine ⟨_, rfl, ?_⟩
    have HXn := hHeld.below hb; have HZn := ak (bE HZ.out hb); clear HZ; have HZ := HZn; clear HZn hb
    refine kn hK HXn (fun hHeld => ?_)
    clear hK K
    refine pu 5 ab.out ?_
    refine pu 6 ab.out ?_
    refine pu 7 ab.out ?_
    refine tk 8 ab.out bq.out hHeld ?_ (hv := by intro w' aY; have s0 := aY.cell 1 _ rfl; go_simp; with_reducible rfl)
    refine on 9 ab.out (fun K hK => ?_)
    refine gs Try.func79 #[.string b.aff] (gl.calls _ _ _ kR.out) ?_
    rintro e V9 ⟨rfl, hb⟩
    refine ⟨_, rfl, ?_⟩
    have HXn := hHeld.below hb; have HZn := ak (bE HZ.out hb); clear HZ; have HZ := HZn; clear HZn hb
    refine kn hK HXn (fun hHeld => ?_)
    clear hK K
    refine pu 10 ab.out ?_
    refine pu 11 ab.out ?_
    refine pu 12 ab.out ?_
    refine tk 13 ab.out bq.out hHeld ?_ (hv := by intro w' aY; have s0 := aY.cell 67 _ (fz _ _ _ _ _ HL.out); go_simp; with_reducible rfl)
    refine pu 14 ab.out ?_
    refine pu 15 ab.out ?_
    refine pu 16 ab.out ?_
    refine pu 17 ab.out ?_
    refine po 18 ab.out ?_
    refine po 19 ab.out ?_
    refine pu 20 ab.out ?_
    refine pu 21 ab.out ?_
    refine po 22 ab.out ?_
    refine po 23 ab.out ?_
    refine pu 24 ab.out ?_
    refine pu 25 ab.out ?_
    refine dn ab.out ?_
    try go_wp2
    go_ret
    refine ⟨?_, HB.out.trans (HZ.out.mono HB.out.size)⟩
    rw [HV.out]; rfl
end Go.Proofs.Ytemhalnhbgkbcaa.V
end

section
namespace Go.Proofs.Ytemhalnhbgkbcaa.V
theorem yS : (Try.prog.info? 5).map (fun i => (i.zero, i.size, i.bytes)) = some (some (.int .u8 0), 1, 1) := by kernel_rfl
theorem yT : (Try.prog.info? 85).map (fun i => (i.zero, i.size, i.bytes)) = some (some (.agg #[.string ⟨#[]⟩, .string ⟨#[]⟩]), 2, 32) := by kernel_rfl
theorem yI {α : Type} {d : Kd α} {w : World} {xs : List α} (h : Kd.C d w none xs.length xs) : xs = [] := by
 rcases Nat.eq_zero_or_pos xs.length with h0 | h0
 ·exact List.eq_nil_of_length_eq_zero h0
 ·obtain ⟨ad, he, _⟩ := h.2.2 h0
  cases he
set_option maxHeartbeats 2000000 in
set_option maxRecDepth 100000 in
theorem Dx (xs : List Int) (A : Option Addr) (c : Nat) (w : World) (hr : Kd.C (Kd.int .u8) w A xs.length xs) (hc : xs.length ≤ c) (hl : xs.length ≤ 4294967296) :
  Calls Try.prog 91 #[.slice A xs.length c] w fun e w' => ∃ v, e = .returned v ∧ Kd.R (Kd.int .u8) 5 w' w.heap.size (fun _ => True) v xs ∧ Below w.heap.size w w' := by
 have SS : ∀ (w : World) (a : Option Addr) (n c n' c' : Nat), (binOp .eql 48 (.slice a n c) (.slice none n' c')).run Try.prog w = .ok (.bool a.isNone) w := fun w a n c n' c' => Lib.run_eql_slice_nil w _ _ a n c n' c' Try.underlying48
 cases A with
 | none =>
  obtain rfl := yI hr
  clear hr
  go_enter Try.func91, Try.ntmps91
  go_wp2
  go_ret
  exact ⟨_, rfl, Kd.R_nil _ _ _ _ _, Below.refl _ _⟩
 | some ad =>
  have HR := ak hr
  have HL := ak hl
  clear hr hl
  go_enter Try.func91, Try.ntmps91
  go_wp2_with (first
   | ((with_reducible refine av (N := 5) rfl ?_); refine Kd.R_lit (Kd.int .u8) w.heap.size 5 (w0 := w) ?hg (N := 5) ?hd (xs := ([] : List Int)) (inner := []) (ok := fun _ => True) (okp := fun _ => True) ?hr ?hp (fun _ hk => hk) trivial (Below.refl _ _) (Nat.le_refl _) (by simp) ?_; (case hd => rfl); (case hg => rfl); (case hr => first | (go_simp; done) | (go_simp; rfl)); (case hp => exact (de.none _ _)); intro v1 w1 fh cA qw pC; have kk := ak fh; have cn := ak cA; clear fh cA qw pC)
   | ((with_reducible refine cC (b := .append) (xs := #[.tmp 5, .tmp 6]) rfl ?_); at_builtin; refine Kd.R_append_rows (Kd.int .u8) (w0 := w) w.heap.size rfl (.tmp 5) (.tmp 6) 48 5 (.int .u8 0) 1 rfl Try.underlying48 yS rfl (by decide) (by omega) _ [] xs (some ad) xs.length c (fun _ => True) (fun _ => False) rfl rfl kk.out (Kd.C_below HR.out cn.out) (fun x cs h => h) (fun _ h => h.elim) (fun _ _ => trivial) cn.out cn.out.size (by have := HL.out; simp; omega) ?_; intro v2 w2 ri eU MW P9))
  go_ret
  exact ⟨_, rfl, ri, eU⟩
set_option maxHeartbeats 2000000 in
set_option maxRecDepth 100000 in
theorem LX (xs : List At) (A : Option Addr) (c : Nat) (w : World) (hr : Kd.C iR w A xs.length xs) (hc : xs.length ≤ c) (hl : xs.length ≤ 4294967296) :
  Calls Try.prog 109 #[.slice A xs.length c] w fun e w' => ∃ v, e = .returned v ∧ Kd.R iR 85 w' w.heap.size (fun _ => True) v xs ∧ Below w.heap.size w w' := by
 have SS : ∀ (w : World) (a : Option Addr) (n c n' c' : Nat), (binOp .eql 55 (.slice a n c) (.slice none n' c')).run Try.prog w = .ok (.bool a.isNone) w := fun w a n c n' c' => Lib.run_eql_slice_nil w _ _ a n c n' c' Try.underlying55
 cases A with
 | none =>
  obtain rfl := yI hr
  clear hr
  go_enter Try.func109, Try.ntmps109
  go_wp2
  go_ret
  exact ⟨_, rfl, Kd.R_nil _ _ _ _ _, Below.refl _ _⟩
 | some ad =>
  have HR := ak hr
  have HL := ak hl
  clear hr hl
  go_enter Try.func109, Try.ntmps109
  go_wp2_with (first
   | ((with_reducible refine av (N := 5) rfl ?_); refine Kd.R_lit iR w.heap.size 85 (w0 := w) ?hg (N := 5) ?hd (xs := ([] : List At)) (inner := []) (ok := fun _ => True) (okp := fun _ => True) ?hr ?hp (fun _ hk => hk) trivial (Below.refl _ _) (Nat.le_refl _) (by simp) ?_; (case hd => rfl); (case hg => rfl); (case hr => first | (go_simp; done) | (go_simp; rfl)); (case hp => exact (de.none _ _)); intro v1 w1 fh cA qw pC; have kk := ak fh; have cn := ak cA; clear fh cA qw pC)
   | ((with_reducible refine cC (b := .append) (xs := #[.tmp 5, .tmp 6]) rfl ?_); at_builtin; refine Kd.R_append_rows iR (w0 := w) w.heap.size rfl (.tmp 5) (.tmp 6) 55 85 (.agg #[.string ⟨#[]⟩, .string ⟨#[]⟩]) 32 rfl Try.underlying55 yT rfl (by decide) (by omega) _ [] xs (some ad) xs.length c (fun _ => True) (fun _ => False) rfl rfl kk.out (Kd.C_below HR.out cn.out) (fun x cs h => by rw [Bo h]; exact yQ _ _ _ _) (fun _ h => h.elim) (fun _ _ => trivial) cn.out cn.out.size (by have := HL.out; simp; omega) ?_; intro v2 w2 ri eU MW P9))
  go_ret
  exact ⟨_, rfl, ri, eU⟩
end Go.Proofs.Ytemhalnhbgkbcaa.V
end

section
namespace Go.Proofs.Ytemhalnhbgkbcaa.V
theorem bY {α : Type} {d : Kd α} {e : Nat} {W W1 : World} {base g t : Nat} {ok : Nat → Prop} {v : Value} {xs : List α} {cs : List Value} (h : Kd.R d e W base ok v xs) (hb : aH W g cs t) (ht : ∀ q, q ∈ e :: d.E → q ≠ t) (hg : W.grownBy W1 (some g)) : Kd.R d e W1 base ok v xs :=
 Kd.R_mono (Kd.R_grown (Kd.R_types h hb ht) hg (fun k hk he => hk.2 (Option.some.inj he))) (fun _ hk => hk.1)
def ee (W : World) (base : Nat) (v : Value) (b : Bk) : Prop := b.slots.length = 64 ∧ ∃ vf va, v = .agg (aX b.addr b.aff b.slots vf va).toArray ∧ Kd.R (Kd.int .u8) 5 W base (fun _ => True) vf b.free ∧ Kd.R iR 85 W base (fun _ => True) va b.attrs
theorem ee.toV {W : World} {base : Nat} {v : Value} {b : Bk} (h : ee W base v b) : gi W v b := by
 obtain ⟨hl, vf, va, rfl, hf, ha⟩ := h
 obtain ⟨A, c, rfl, h1, h2⟩ := Kd.R_reads hf
 obtain ⟨A', c', rfl, h3, h4⟩ := Kd.R_reads ha
 exact ⟨A, c, A', c', rfl, hl, h2, h1, h4, h3⟩
theorem ee.below {W W1 : World} {base : Nat} {v : Value} {b : Bk} (h : ee W base v b) (hb : Below W.heap.size W W1) : ee W1 base v b := by
 obtain ⟨hl, vf, va, rfl, hf, ha⟩ := h
 exact ⟨hl, vf, va, rfl, Kd.R_below hf hb, Kd.R_below ha hb⟩
theorem ee.lower {W : World} {base base' : Nat} {v : Value} {b : Bk} (h : ee W base v b) (hb : base' ≤ base) : ee W base' v b := by
 obtain ⟨hl, vf, va, rfl, hf, ha⟩ := h
 exact ⟨hl, vf, va, rfl, Kd.R_lower hf hb, Kd.R_lower ha hb⟩
def jS : Bk := ⟨0, ⟨#[]⟩, List.replicate 64 0, [], []⟩
def a7 : List Value := aX 0 ⟨#[]⟩ (List.replicate 64 0) (.slice none 0 0) (.slice none 0 0)
theorem bJ (w : World) : (zeroValue 57).run Try.prog w = .ok (.agg a7.toArray) w := by kernel_rfl
theorem m2 (W : World) (base : Nat) : ee W base (.agg a7.toArray) jS := ⟨rfl, _, _, rfl, Kd.R_nil _ _ _ _ _, Kd.R_nil _ _ _ _ _⟩
theorem b9 (l : List Value) (h : l.length = 68) : (Try.prog.info? 57).map (·.size) = some l.length := by rw [h]; kernel_rfl
def l5.T1 : Bool × List (List Nat × List Nat) := (true, [([], []), ([0], [0]), ([1], [1]), ([], []), ([3], [3]), ([4, 2], [4]), ([0, 1, 2, 3, 4], []), ([6, 2, 5, 0, 1, 2, 3, 4], [2, 6]), ([0, 1, 2, 3, 4, 5, 6, 7], []), ([8, 5, 7, 0, 1, 2, 3, 4, 5, 6, 7], [5, 8])])
def l5.B1 : List Nat := [0, 1, 3, 0, 8, 31, 31, 127, 255, 511]
theorem l5.tab1 : dP .any (opsOf Try.f89 1) = l5.T1 := by kernel_rfl
theorem l5.bits1 : dr l5.T1.2 l5.B1 = true := by kernel_rfl
set_option maxHeartbeats 4000000 in
set_option maxRecDepth 100000 in
theorem ml (b : Bk) (hf : b.free.length ≤ 4294967296) (ha : b.attrs.length ≤ 4294967296) (v : Value) (w : World) (h : gi w v b) :
  Calls Try.prog 89 #[v] w fun e w' => ∃ v', e = .returned v' ∧ ee w' w.heap.size v' b ∧ Below w.heap.size w w' := by
 obtain ⟨A, c, A', c', rfl, hr⟩ := h
 have HL := ak hr.l64
 have HR := ak hr
 have HF := ak hf
 have HA := ak ha
 clear hr hf ha
 go_enter Try.func89, Try.ntmps89
 go_wp2_with (first
  | (refine aE rfl 57 (.tmp 0) rfl _ rfl ?_; intro g W1 hg hbx cA; have im := ak hbx; have cn := ak cA; have HG := ak hg; clear hbx cA hg)
  | (refine ax (some 2) rfl rfl 57 rfl a7 bJ ?_; intro g2 W2 MW M5 eU))
 have HX := ak (show aH W2.drew g _ _ from (show aH W2 g _ _ from im.out.below eU))
 have HY := ak (show aH W2.drew g2 _ _ from M5)
 have HNE := ak (show g ≠ g2 by have := im.out.lt; omega)
 have HB := ak (bp (cn.out.trans (eU.mono cn.out.size)))
 have CE := ak (show w.heap.size ≤ g2 by have := cn.out.size; omega)
 have zJ := ak (HR.out.below HB.out)
 have HZ := ak (Below.refl W2.drew.heap.size W2.drew)
 clear M5 eU MW im cn
 refine da (n := 10) (S := fun w' => w'.cell? ⟨g, 66, none⟩ = some (.slice A b.free.length c) ∧ w'.cell? ⟨g, 67, none⟩ = some (.slice A' b.attrs.length c')) (ds := [7, 9]) #[false, false, false, false, false, false, false, false, false, false] (by kernel_rfl) rfl rfl ⟨HX.out.cell 66 _ (fR _ _ _ _ _ HL.out), HX.out.cell 67 _ (fz _ _ _ _ _ HL.out)⟩ (fun hHeld => ?_); refine bK l5.tab1 l5.bits1 (fun ab bq => ?_)
 refine pu 0 ab.out ?_
 refine tk 1 ab.out bq.out hHeld ?_ (hv := by intro w' aY; obtain ⟨s0, s1⟩ := aY; go_simp; with_reducible rfl)
 refine pu 3 ab.out ?_
 refine tk 4 ab.out bq.out hHeld ?_ (hv := by intro w' aY; obtain ⟨s0, s1⟩ := aY; go_simp; with_reducible rfl)
 refine on 2 ab.out (fun K hK => ?_)
 refine gs Try.func91 #[.slice A b.free.length c] (Dx b.free A c _ (zJ.out.below HZ.out).fr HR.out.fc HF.out) ?_
 rintro e V3 ⟨vf, rfl, hrf, iS⟩
 refine ⟨_, rfl, ?_⟩
 have Gi := ak (bE HZ.out iS); have HRF := ak hrf; obtain ⟨Af, cf, rfl⟩ := Kd.R_slice hrf; clear hrf
 refine kn hK ⟨(HX.out.below Gi.out).cell 66 _ (fR _ _ _ _ _ HL.out), (HX.out.below Gi.out).cell 67 _ (fz _ _ _ _ _ HL.out)⟩ (fun hHeld => ?_)
 clear hK K
 refine pu 6 ab.out ?_
 refine on 5 ab.out (fun K hK => ?_)
 refine gs Try.func109 #[.slice A' b.attrs.length c'] (LX b.attrs A' c' _ (zJ.out.below Gi.out).ar HR.out.ac HA.out) ?_
 rintro e V4 ⟨va, rfl, hra, qy⟩
 refine ⟨_, rfl, ?_⟩
 have pr := ak (bE Gi.out qy); have HRA := ak hra; have Qy := ak (Kd.R_below HRF.out qy); obtain ⟨Aa, ca, rfl⟩ := Kd.R_slice hra; clear hra
 refine kn hK ⟨(HX.out.below pr.out).cell 66 _ (fR _ _ _ _ _ HL.out), (HX.out.below pr.out).cell 67 _ (fz _ _ _ _ _ HL.out)⟩ (fun hHeld => ?_)
 clear hK K
 refine ra (i := 7) (N := none) #[true, true, true, true, true, true, true, true, false, false] rfl rfl (mT ab.out (by kernel_rfl)) (by decide) (fun K hK => ?_)
 have U3 := (HX.out.below pr.out).frozen 66; have M3 := (HX.out.below pr.out).cell 66 _ (fR _ _ _ _ _ HL.out)
 refine pI (w1 := ?_) (by rfl) rfl ?_ ?_
 rotate_left
 ·go_simp
  rfl
 refine hK.out _ _ ?_
 clear hK K
 refine pu 8 ab.out ?_
 refine ra (i := 9) (N := none) #[true, true, true, true, true, true, true, true, true, true] rfl rfl (mT ab.out (by kernel_rfl)) (by decide) (fun K hK => ?_)
 have P6 := (HX.out.below pr.out).frozen 67; have Hb := (HX.out.below pr.out).cell 67 _ (fz _ _ _ _ _ HL.out)
 refine pI (w1 := ?_) (by rfl) rfl ?_ ?_
 rotate_left
 ·go_simp
  rfl
 refine hK.out _ _ ?_
 clear hK K
 refine dn ab.out ?_
 have FG := ((HX.out.below pr.out).set 66 (.slice Af b.free.length cf)).set 67 (.slice Aa b.attrs.length ca)
 rw [kW _ _ _ _ _ HL.out, tA _ _ _ _ _ HL.out] at FG
 have rk : W2.drew.heap.size ≤ V4.heap.size := pr.out.size
 have G6 := bY (bY (Kd.R_lower Qy.out HB.out.size) (HX.out.below pr.out) (by decide) (bP V4 g 66 (.slice Af b.free.length cf))) ((HX.out.below pr.out).set 66 _) (by decide) (bP _ g 67 (.slice Aa b.attrs.length ca))
 have G7 := bY (bY (Kd.R_lower HRA.out (Nat.le_trans HB.out.size Gi.out.size)) (HX.out.below pr.out) (by decide) (bP V4 g 66 (.slice Af b.free.length cf))) ((HX.out.below pr.out).set 66 _) (by decide) (bP _ g 67 (.slice Aa b.attrs.length ca))
 have zx := ((HY.out.below pr.out).far (p := ⟨g, 66, none⟩) (fun e => HNE.out e.symm) (.slice Af b.free.length cf)).far (p := ⟨g, 67, none⟩) (fun e => HNE.out e.symm) (.slice Aa b.attrs.length ca)
 have zB := Below.setCell (Below.setCell (HB.out.trans (pr.out.mono HB.out.size)) (p := ⟨g, 66, none⟩) HG.out (.slice Af b.free.length cf)) (p := ⟨g, 67, none⟩) HG.out (.slice Aa b.attrs.length ca)
 generalize (V4.setCell ⟨g, 66, none⟩ (.slice Af b.free.length cf)).setCell ⟨g, 67, none⟩ (.slice Aa b.attrs.length ca) = V5 at FG G6 G7 zx zB ⊢
 have uX := ak FG
 have uc := ak zx
 have Qx := ak G6
 have Qz := ak G7
 have yE := ak zB
 have MQ := ag b.addr b.aff b.slots (.slice Af b.free.length cf) (.slice Aa b.attrs.length ca) HL.out
 have zM := ak MQ
 clear FG G6 G7 zx zB MQ hHeld
 go_wp2_with (first
  | (refine ay rfl 57 (.tmp 1) rfl g rfl _ _ _ uX.out Try.underlying57 rfl 68 (by kernel_rfl) zM.out ?_)
  | (refine aN rfl 57 (.tmp 2) (.tmp 11) rfl g2 (aX b.addr b.aff b.slots (.slice Af b.free.length cf) (.slice Aa b.attrs.length ca)) rfl rfl 57 _ uc.out 68 (by kernel_rfl) zM.out rfl (bZ _ _ _ _ _ rfl rfl) ?_; intro V6 CJ rj))
 exact bodyPost_ret (results_cell_row rfl _ _ g2 57 _ (0, 0) _ rfl CJ Try.underlying57 rfl (by simp only [List.size_toArray]; exact b9 _ zM.out)) rfl ⟨_, rfl, ⟨HL.out, _, _, rfl, bY Qx.out uc.out (by decide) rj, bY Qz.out uc.out (by decide) rj⟩, yE.out.grown rj yE.out.size (by intro k hk; cases hk; exact CE.out)⟩
end Go.Proofs.Ytemhalnhbgkbcaa.V
end

section
namespace Go.Proofs.Ytemhalnhbgkbcaa.V
def kS (n : Nat) : List Int := (List.range n).map (fun i : Nat => (i : Int))
theorem wV (n : Nat) : kS (n + 1) = kS n ++ [(n : Int)] := by simp [kS, List.range_succ]
theorem uB (n : Nat) : (kS n).length = n := by simp [kS]
def tp (a : Int) (s : ByteArray) : Bk := ⟨bN a, s, List.replicate 64 0, kS 64, []⟩
theorem lp : Try.prog.built 57 [] = some a7.toArray := by kernel_rfl
theorem Nr (x : Int) (s : ByteArray) : Try.prog.built 57 [(0, .int .u32 x), (1, .string s)] = some (aX x s (List.replicate 64 0) (.slice none 0 0) (.slice none 0 0)).toArray := by kernel_rfl
theorem ja : ∀ v ∈ a7, v.oneCell' = true := bZ _ _ _ _ _ rfl rfl
set_option maxHeartbeats 4000000 in
set_option maxRecDepth 100000 in
theorem Dk (a : Int) (h0 : 0 ≤ a) (h1 : a < 4294967296) (s : ByteArray) (w : World) :
  Calls Try.prog 41 #[.int .u32 a, .string s] w fun e w' => ∃ v, e = .returned (.tuple #[v, .int .i64 (if fY s = true then 0 else 1)]) ∧ ee w' w.heap.size v (if fY s = true then tp a s else jS) ∧ Below w.heap.size w w' := by
 have jN := ak (yZ a h0 h1)
 have kR := ak (yO s)
 clear h0 h1
 cases ho : fY s with
 | false =>
  rw [ho] at kR
  clear ho
  go_enter Try.func41, Try.ntmps41
  go_wp2_with (first
   | (refine ax (some 4) rfl rfl 57 rfl a7 bJ ?_; intro g4 W1 rk BF cA; have im := ak BF; have cn := ak cA; have yd := ak rk; clear BF cA rk)
   | (go_at_call 79; refine (gl.calls _ _ _ kR.out).mono ?_; rintro e W2 ⟨rfl, eU⟩; have gv := ak (im.out.below eU); have jz := ak (cn.out.trans (eU.mono cn.out.size)); clear eU im cn)
   | (refine fw rfl 57 #[] rfl a7 lp ?_)
   | (refine aN rfl 57 (.tmp 4) (.tmp 11) rfl g4 a7 rfl rfl 57 _ gv.out 68 (by kernel_rfl) rfl rfl ja ?_; intro W3 jO Dq))
  exact bodyPost_ret (e8 rfl _ _ g4 57 _ (0, 0) _ rfl jO Try.underlying57 rfl (by simp only [List.size_toArray]; exact b9 _ rfl)) rfl ⟨_, rfl, m2 _ _, jz.out.grown Dq jz.out.size (by intro k hk; cases hk; exact yd.out)⟩
 | true =>
  rw [ho] at kR
  clear ho
  go_enter Try.func41, Try.ntmps41
  go_wp2_with (first
   | (refine ax (some 4) rfl rfl 57 rfl a7 bJ ?_; intro g4 W1 rk BF cA; have im := ak BF; have cn := ak cA; have yd := ak rk; clear BF cA rk)
   | (go_at_call 79; refine (gl.calls _ _ _ kR.out).mono ?_; rintro e W2 ⟨rfl, eU⟩; have gv := ak (im.out.below eU); have jz := ak (cn.out.trans (eU.mono cn.out.size)); clear eU im cn)
   | (go_at_call 80; refine (gp.calls _ _ _ jN.out).mono ?_; rintro e W3 ⟨rfl, iS⟩; have nT := ak (gv.out.below iS); have jO := ak (jz.out.trans (iS.mono jz.out.size)); clear iS gv jz)
   | (refine fw rfl 57 #[(0, .tmp 13), (1, .tmp 14)] rfl (aX (bN a) s (List.replicate 64 0) (.slice none 0 0) (.slice none 0 0)) (Nr _ _) ?_)
   | (refine ax (some 6) rfl rfl 57 rfl a7 bJ ?_; intro g6 W4 rj M4 qy; have uY := ak (nT.out.below qy); have uV := ak M4; have HNE := ak (show g4 ≠ g6 by have := nT.out.lt; omega); have ox := ak (jO.out.trans (qy.mono jO.out.size)); have PK := ak (show w.heap.size ≤ g6 by have := jO.out.size; omega); clear M4 qy rj nT jO)
   | (refine aN rfl 57 (.tmp 6) (.tmp 15) rfl g6 (aX (bN a) s (List.replicate 64 0) (.slice none 0 0) (.slice none 0 0)) rfl rfl 57 _ uV.out 68 (by kernel_rfl) rfl rfl (bZ _ _ _ _ _ rfl rfl) ?_; intro W5 zx FH; have uc := ak zx; have uX := ak (uY.out.grown FH (fun e => HNE.out (Option.some.inj e))); have yE := ak (ox.out.grown FH ox.out.size (by intro k hk; cases hk; exact PK.out)); clear zx FH uY uV ox))
  go_loopw [7, 16] (fun _ i W => ∃ k : Nat, k ≤ 64 ∧ i = .int .i64 k ∧ ∃ vf, Aside0 (aH W g6 (aX (bN a) s (List.replicate 64 0) vf (.slice none 0 0)) 57) ∧ Aside0 (Kd.R (Kd.int .u8) 5 W w.heap.size (fun _ => True) vf (kS k)) ∧ Aside0 (aH W g4 a7 57) ∧ Aside0 (Below w.heap.size w W)) (fun _ i _ => 64 - (intOf i).toNat)
  case atStart => exact ⟨0, by omega, rfl, _, uc, ⟨Kd.R_nil _ _ _ _ _⟩, uX, yE⟩
  case round =>
   clear uc uX yE
   obtain ⟨k, hk, rfl, vf, HY, HR, HX, HB⟩ := hrel
   obtain ⟨W, rfl⟩ : ∃ W : World, W = wr := ⟨_, rfl⟩
   by_cases ou : k < 64
   ·have hkb : decide ((k : Int) < 64) = true := by simp; omega
    have Iw := HY.out.cell 66 _ (fR _ _ _ _ _ rfl)
    have hlen := uB k
    go_wp2_with (first | ((with_reducible refine cC (b := .append) (xs := #[.tmp 20, .tmp 23]) rfl ?_); at_builtin; refine Kd.R_append (Kd.int .u8) (w0 := w) w.heap.size rfl (.tmp 20) (.tmp 23) 48 5 (.int .u8 0) 1 rfl Try.underlying48 yS rfl (by decide) (by omega) vf (kS k) (k : Int) [.int .u8 (k : Int)] (fun _ => True) (fun _ => False) rfl rfl rfl (fun _ hk => hk.elim) (fun _ _ => trivial) HR.out HB.out HB.out.size (by omega) ?_; intro v1 w1 fh cA qw tz; have th := ak (HY.out.grown qw (HY.out.ne_row HR.out (by decide))); have im := ak (HX.out.grown qw (HX.out.ne_row HR.out (by decide))); rw [← wV] at fh; have mG := ak fh; have cn := ak cA; obtain ⟨A1, c1, rfl⟩ := Kd.R_slice fh; have uI := th.out.cell 66 _ (fR _ _ _ _ _ rfl); have mW := th.out.frozen 66; clear fh cA qw tz Iw HY HX HR HB))
    have tg := ak (show aH (w1.setCell ⟨g6, 66, none⟩ (.slice A1 (kS (k + 1)).length c1)) g6 (aX (bN a) s (List.replicate 64 0) (.slice A1 (kS (k + 1)).length c1) (.slice none 0 0)) 57 by have := th.out.set 66 (.slice A1 (kS (k + 1)).length c1); rwa [kW _ _ _ _ _ rfl] at this)
    go_roundw
    case rel => exact ⟨k + 1, by omega, by go_num, _, tg, ⟨bY mG.out th.out (by decide) (bP _ _ _ _)⟩, ⟨im.out.far (p := ⟨g6, 66, none⟩) HNE.out _⟩, ⟨Below.setCell cn.out (p := ⟨g6, 66, none⟩) PK.out _⟩⟩
    case measure => simp [intOf]; omega
   ·obtain rfl : k = 64 := by omega
    rw [show ((64 : Nat) : Int) = (64 : Int) from rfl]
    have hkb : decide ((64 : Int) < 64) = false := by decide
    obtain ⟨Af, cf, rfl⟩ := Kd.R_slice HR.out
    go_wp2_with (first
     | (refine ay rfl 57 (.tmp 6) rfl g6 rfl _ _ _ HY.out Try.underlying57 rfl 68 (by kernel_rfl) rfl ?_)
     | (refine aN rfl 57 (.tmp 4) (.tmp 27) rfl g4 (aX (bN a) s (List.replicate 64 0) (.slice Af (kS 64).length cf) (.slice none 0 0)) rfl rfl 57 _ HX.out 68 (by kernel_rfl) rfl rfl (bZ _ _ _ _ _ rfl rfl) ?_; intro W6 CJ rj))
    exact bodyPost_ret (e8 rfl _ _ g4 57 _ (0, 0) _ rfl CJ Try.underlying57 rfl (by simp only [List.size_toArray]; exact b9 _ rfl)) rfl ⟨_, rfl, ⟨rfl, _, _, rfl, bY HR.out HX.out (by decide) rj, Kd.R_nil _ _ _ _ _⟩, HB.out.grown rj HB.out.size (by intro k hk; cases hk; exact yd.out)⟩
end Go.Proofs.Ytemhalnhbgkbcaa.V
end

section
namespace Go.Proofs.Ytemhalnhbgkbcaa.V
attribute [local go_sem] eH eF fk fj ei eh eG eE
def mH.f (br : ByteArray) (bB : ByteArray) : Option (ByteArray × ByteArray) := some (br, bB)
set_option maxHeartbeats 8000000 in
set_option maxRecDepth 100000 in
theorem mH.calls (br : ByteArray) (bB : ByteArray) (r1 : ByteArray) (r2 : ByteArray) (w : World) (h : mH.f br bB = some (r1, r2)) :
  Calls Try.prog 50 #[.agg #[.string br, .string bB]] w fun e w' => e = .returned (.agg #[.string r1, .string r2]) ∧ Below w.heap.size w w' := by
 have MN := Try.underlying76
 have G2 := Try.underlying85
 have HB := ak (Below.refl w.heap.size w)
 have H : (some (br, bB)) = some (r1, r2) := h
 clear h
 simp only [Option.some.injEq, Prod.mk.injEq] at H
 obtain ⟨rfl, rfl⟩ := H
 go_enter Try.func50, Try.ntmps50
 go_wp2_with (first | ((with_reducible refine av (N := 1) rfl ?_); refine fb ?hg (N := 1) ?hd (cs := #[.string br, .string bB]) (t := 76) ?hr ?_; (case hd => rfl); (case hg => rfl); (case hr => first | (go_simp; done) | (go_simp; rfl)); intro mj hg w2 hbox hb; have cD := ak (bE (by repeat (first | (with_reducible first | exact HB.out | apply al | apply af | apply aq) | exact HB.out)) hb); have cT := ak (hbox); have dk := ak ((by rw [hg]; exact (bs (by repeat (first | (with_reducible first | exact HB.out | apply al | apply af | apply aq) | exact HB.out))) : w.heap.size ≤ mj)); have dS := ak ((by rw [hg]; exact (bs (by repeat (first | (with_reducible first | exact HB.out | apply al | apply af | apply aq) | exact HB.out))) : w.heap.size ≤ mj)); clear HB; have HB := cD; have mD := cT; have SH := dk; have vK := dS; clear cD cT dk dS; clear hb hbox hg) | ((with_reducible refine av (N := 2) rfl ?_); refine fb ?hg (N := 2) ?hd (cs := #[.string (⟨#[]⟩ : ByteArray), .string (⟨#[]⟩ : ByteArray)]) (t := 85) ?hr ?_; (case hd => rfl); (case hg => rfl); (case hr => first | (go_simp; done) | (go_simp; rfl)); intro oG hg w3 hbox hb; have cD := ak (eV (g := mj) (o := .cells #[.string br, .string bB] 76 (0, 0)) (by (with_reducible repeat (first | refine aK ?_ _ | refine aT ?_ | refine aM ?_ _)); exact mD.out) hb); have cT := ak (bE (by repeat (first | (with_reducible first | exact HB.out | apply al | apply af | apply aq | refine aQ ?_ vK.out) | exact HB.out)) hb); have dk := ak (hbox); have dS := ak ((by rw [hg]; exact (bs (by repeat (first | (with_reducible first | exact HB.out | apply al | apply af | apply aq | refine aQ ?_ vK.out) | exact HB.out))) : w.heap.size ≤ oG)); have je := ak ((by rw [hg]; exact (bs (by repeat (first | (with_reducible first | exact HB.out | apply al | apply af | apply aq | refine aQ ?_ vK.out) | exact HB.out))) : w.heap.size ≤ oG)); have lP := ak ((by rw [hg]; exact Nat.ne_of_lt (jM (g := mj) (o := .cells #[.string br, .string bB] 76 (0, 0)) (by (with_reducible repeat (first | refine aK ?_ _ | refine aT ?_ | refine aM ?_ _)); exact mD.out)) : mj ≠ oG)); have pa := ak ((by rw [hg]; exact Nat.ne_of_gt (jM (g := mj) (o := .cells #[.string br, .string bB] 76 (0, 0)) (by (with_reducible repeat (first | refine aK ?_ _ | refine aT ?_ | refine aM ?_ _)); exact mD.out)) : oG ≠ mj)); clear mD; clear HB; have mD := cD; have HB := cT; have ti := dk; have SG := dS; have Mj := je; have z5 := lP; have z4 := pa; clear cD cT dk dS je lP pa; clear hb hbox hg; have UZ := z5.out; have UW := z4.out; have To : w3.cell? ⟨mj, 0, none⟩ = some (.string br) := (aC mD.out 0).trans rfl; have Tn : w3.cell? ⟨mj, 1, none⟩ = some (.string bB) := (aC mD.out 1).trans rfl; have Ta := ao mD.out 0; have S9 := ao mD.out 1; have BD : w3.cell? ⟨oG, 0, none⟩ = some (.string (⟨#[]⟩ : ByteArray)) := (aC ti.out 0).trans rfl; have BC : w3.cell? ⟨oG, 1, none⟩ = some (.string (⟨#[]⟩ : ByteArray)) := (aC ti.out 1).trans rfl; have By := ao ti.out 0; have Bx := ao ti.out 1))
 refine bodyPost_ret (results_cell_row rfl _ _ oG 85 #[.string br, .string bB] (0, 0) _ rfl (by (with_reducible repeat (first | refine aK ?_ _ | refine aT ?_ | refine aM ?_ _)); refine eX (cs := #[.string br, .string (⟨#[]⟩ : ByteArray)]) ?_ 1 _ rfl; (with_reducible repeat (first | refine aK ?_ _ | refine aT ?_ | refine aM ?_ _)); refine eX (cs := #[.string (⟨#[]⟩ : ByteArray), .string (⟨#[]⟩ : ByteArray)]) ?_ 0 _ rfl; (with_reducible repeat (first | refine aK ?_ _ | refine aT ?_ | refine aM ?_ _)); exact ti.out) Try.underlying85 rfl (by kernel_rfl)) rfl ?_
 exact ⟨by first | rfl | (simp [cy, cx] <;> rfl) | (simp [*, cy, cx] <;> rfl), by repeat (first | (with_reducible first | exact HB.out | apply al | apply af | apply aq | refine aQ ?_ vK.out | refine aQ ?_ Mj.out) | exact HB.out)⟩
end Go.Proofs.Ytemhalnhbgkbcaa.V
end

section
namespace Go.Proofs.Ytemhalnhbgkbcaa.V
structure Rw where
 addr : Int
 aff : ByteArray
 slots : List Int
 free : List Int
 attrs : List S76
structure RwR (W : World) (b : Rw) (A : Option Addr) (c : Nat) (A' : Option Addr) (c' : Nat) : Prop where
 l64 : b.slots.length = 64
 fr : Kd.C (Kd.int .u8) W A b.free.length b.free
 fc : b.free.length ≤ c
 ar : Kd.C hH W A' b.attrs.length b.attrs
 ac : b.attrs.length ≤ c'
theorem RwR.below {W W1 : World} {b : Rw} {A A' : Option Addr} {c c' : Nat} (h : RwR W b A c A' c') (hb : Below W.heap.size W W1) : RwR W1 b A c A' c' := ⟨h.l64, Kd.C_below h.fr hb, h.fc, Kd.C_below h.ar hb, h.ac⟩
def Nw (W : World) (v : Value) (b : Rw) : Prop := ∃ A c A' c', v = .agg (aX b.addr b.aff b.slots (.slice A b.free.length c) (.slice A' b.attrs.length c')).toArray ∧ RwR W b A c A' c'
theorem Nw.below {W W1 : World} {v : Value} {b : Rw} (h : Nw W v b) (hb : Below W.heap.size W W1) : Nw W1 v b := by
 obtain ⟨A, c, A', c', e, hr⟩ := h
 exact ⟨A, c, A', c', e, hr.below hb⟩
def cv (a : S76) : At := ⟨a.f0, a.f1⟩
def ours (r : Rw) : Bk := ⟨r.addr, r.aff, r.slots, r.free.take 70, (r.attrs.take 70).map cv⟩
theorem jh (a : S76) (w : World) : Calls Try.prog 50 #[.agg #[.string a.f0, .string a.f1]] w fun e w' => e = .returned (et (cv a)) ∧ Below w.heap.size w w' :=
 mH.calls a.f0 a.f1 a.f0 a.f1 w rfl
end Go.Proofs.Ytemhalnhbgkbcaa.V
end

section
namespace Go.Proofs.Ytemhalnhbgkbcaa.V
def vc (a : At) : S76 := ⟨a.f0, a.f1⟩
def dM : List Value := [.int .u32 0, .string ⟨#[]⟩, .slice none 0 0, .slice none 0 0, .slice none 0 0]
theorem Bq : (Try.prog.info? 3).map (fun i => (i.zero, i.size, i.bytes)) = some (some (.int .i64 0), 1, 8) := by kernel_rfl
theorem wk : (Try.prog.info? 76).map (fun i => (i.zero, i.size, i.bytes)) = some (some (.agg #[.string ⟨#[]⟩, .string ⟨#[]⟩]), 2, 32) := by kernel_rfl
theorem vD {α β : Type} {d : Kd α} {d' : Kd β} {e e' b1 base : Nat} {W w1 : World} {ok ok' : Nat → Prop} {u v : Value} {xs : List α} {ys : List β} (h : d.R e W base ok u xs) (ho : ∀ k, ok k → k < b1) (hv : d'.R e' W b1 ok' v ys) (hg : W.grownBy w1 v.ownBlock) : d.R e w1 base ok u xs :=
 Kd.R_grown h hg (fun k hk he => by have := ho k hk; have := Kd.R_base hv k he.symm; omega)
end Go.Proofs.Ytemhalnhbgkbcaa.V
end

section
namespace Go.Proofs.Ytemhalnhbgkbcaa.V
def Eb (b : Bk) (s : ByteArray) : Bk := ⟨b.addr, s, b.slots, b.free, b.attrs⟩
set_option maxHeartbeats 8000000 in
set_option maxRecDepth 100000 in
theorem Dj (b : Bk) (hk : BkOk b) (hfl : b.free.length ≤ 1000) (hal : b.attrs.length ≤ 1000) (s : ByteArray) (v : Value) (w : World) (h : gi w v b) :
  Calls Try.prog 55 #[v, .string s] w fun e w' => ∃ v', e = .returned (.tuple #[v', .int .i64 (if (dy b && fY s) = true then 0 else 1)]) ∧ ee w' w.heap.size v' (if (dy b && fY s) = true then Eb b s else jS) ∧ Below w.heap.size w w' := by
 obtain ⟨A, c, A', c', rfl, hr⟩ := h
 have HL := ak hr.l64
 have HR := ak hr
 have HK := ak hk
 have kR := ak (yO s)
 have HCP := ak (ml b (by omega) (by omega))
 have zM := ak (ag b.addr b.aff b.slots (.slice A b.free.length c) (.slice A' b.attrs.length c') hr.l64)
 clear hr hk
 cases hrt : dy b with
 | false =>
  have HRT := ak hrt
  clear hrt
  simp only [Bool.false_and, Bool.false_eq_true, if_false]
  go_enter Try.func55, Try.ntmps55
  go_wp2_with (first
   | (refine aE rfl 57 (.tmp 0) rfl _ rfl ?_; intro g W1 hg hbx cA; have im := ak hbx; have cn := ak cA; clear hbx cA hg)
   | (refine ax (some 4) rfl rfl 57 rfl a7 bJ ?_; intro g4 W2 rk uC eU; have gv := ak (im.out.below eU); have tg := ak uC; have jz := ak (cn.out.trans (eU.mono cn.out.size)); have yd := ak (show w.heap.size ≤ g4 by have := cn.out.size; omega); clear uC eU rk im cn)
   | ((with_reducible refine av (N := 6) rfl ?_); refine ay rfl 57 (.tmp 2) rfl g rfl _ _ _ gv.out Try.underlying57 rfl 68 (by kernel_rfl) zM.out ?_)
   | (go_at_call 48; refine (dW b HK.out _ _ ⟨A, c, A', c', rfl, HR.out.below jz.out⟩).mono ?_; rintro e W3 ⟨rfl, iS⟩; rw [HRT.out]; have uW := ak (tg.out.below iS); have jO := ak (jz.out.trans (iS.mono jz.out.size)); clear iS)
   | (refine fw rfl 57 #[] rfl a7 lp ?_)
   | (refine aN rfl 57 (.tmp 4) (.tmp 14) rfl g4 a7 rfl rfl 57 _ uW.out 68 (by kernel_rfl) rfl rfl ja ?_; intro W4 SW rk))
  exact bodyPost_ret (e8 rfl _ _ g4 57 _ (0, 0) _ rfl SW Try.underlying57 rfl (by simp only [List.size_toArray]; exact b9 _ rfl)) rfl ⟨_, rfl, m2 _ _, jO.out.grown rk jO.out.size (by intro k hk; cases hk; exact yd.out)⟩
 | true =>
  have HRT := ak hrt
  clear hrt
  cases ho : fY s with
  | false =>
   rw [ho] at kR
   clear ho
   simp only [Bool.and_false, Bool.false_eq_true, if_false]
   go_enter Try.func55, Try.ntmps55
   go_wp2_with (first
    | (refine aE rfl 57 (.tmp 0) rfl _ rfl ?_; intro g W1 hg hbx cA; have im := ak hbx; have cn := ak cA; clear hbx cA hg)
    | (refine ax (some 4) rfl rfl 57 rfl a7 bJ ?_; intro g4 W2 rk uC eU; have gv := ak (im.out.below eU); have tg := ak uC; have jz := ak (cn.out.trans (eU.mono cn.out.size)); have yd := ak (show w.heap.size ≤ g4 by have := cn.out.size; omega); clear uC eU rk im cn)
    | ((with_reducible refine av (N := 6) rfl ?_); refine ay rfl 57 (.tmp 2) rfl g rfl _ _ _ gv.out Try.underlying57 rfl 68 (by kernel_rfl) zM.out ?_)
    | (go_at_call 48; refine (dW b HK.out _ _ ⟨A, c, A', c', rfl, HR.out.below jz.out⟩).mono ?_; rintro e W3 ⟨rfl, iS⟩; rw [HRT.out]; have uW := ak (tg.out.below iS); have jO := ak (jz.out.trans (iS.mono jz.out.size)); clear iS)
    | (go_at_call 79; refine (gl.calls _ _ _ kR.out).mono ?_; rintro e W4 ⟨rfl, qy⟩; have uV := ak (uW.out.below qy); have ox := ak (jO.out.trans (qy.mono jO.out.size)); clear qy)
    | (refine fw rfl 57 #[] rfl a7 lp ?_)
    | (refine aN rfl 57 (.tmp 4) (.tmp 14) rfl g4 a7 rfl rfl 57 _ uV.out 68 (by kernel_rfl) rfl rfl ja ?_; intro W5 zx FH))
   exact bodyPost_ret (e8 rfl _ _ g4 57 _ (0, 0) _ rfl zx Try.underlying57 rfl (by simp only [List.size_toArray]; exact b9 _ rfl)) rfl ⟨_, rfl, m2 _ _, ox.out.grown FH ox.out.size (by intro k hk; cases hk; exact yd.out)⟩
  | true =>
   rw [ho] at kR
   clear ho
   simp only [Bool.and_self, if_true]
   go_enter Try.func55, Try.ntmps55
   go_wp2_with (first
    | (refine aE rfl 57 (.tmp 0) rfl _ rfl ?_; intro g W1 hg hbx cA; have im := ak hbx; have cn := ak cA; have HG := ak hg; clear hbx cA hg)
    | (refine ax (some 4) rfl rfl 57 rfl a7 bJ ?_; intro g4 W2 rk uC eU; have gv := ak (im.out.below eU); have tg := ak uC; have jz := ak (cn.out.trans (eU.mono cn.out.size)); have yd := ak (show w.heap.size ≤ g4 by have := cn.out.size; omega); have HNE := ak (show g ≠ g4 by have := im.out.lt; omega); clear uC eU rk im cn)
    | ((with_reducible refine av (N := 6) rfl ?_); refine ay rfl 57 (.tmp 2) rfl g rfl _ _ _ gv.out Try.underlying57 rfl 68 (by kernel_rfl) zM.out ?_)
    | (go_at_call 48; refine (dW b HK.out _ _ ⟨A, c, A', c', rfl, HR.out.below jz.out⟩).mono ?_; rintro e W3 ⟨rfl, iS⟩; rw [HRT.out]; have nT := ak (gv.out.below iS); have uW := ak (tg.out.below iS); have jO := ak (jz.out.trans (iS.mono jz.out.size)); clear iS gv)
    | (go_at_call 79; refine (gl.calls _ _ _ kR.out).mono ?_; rintro e W4 ⟨rfl, qy⟩; have uY := ak (nT.out.below qy); have uV := ak (uW.out.below qy); have ox := ak (jO.out.trans (qy.mono jO.out.size)); clear qy nT)
    | ((with_reducible refine av (N := 15) rfl ?_); refine ay rfl 57 (.tmp 2) rfl g rfl _ _ _ uY.out Try.underlying57 rfl 68 (by kernel_rfl) zM.out ?_)
    | (go_at_call 89; refine (HCP.out _ _ ⟨A, c, A', c', rfl, HR.out.below ox.out⟩).mono ?_; rintro e W5 ⟨v5, rfl, uE, zB⟩; obtain ⟨uG, vf, va, rfl, lT, lX⟩ := uE; have uX := ak (uY.out.below zB); have uc := ak (uV.out.below zB); have PM := ak (Kd.R_lower lT ox.out.size); have PR := ak (Kd.R_lower lX ox.out.size); have yE := ak (ox.out.trans (zB.mono ox.out.size)); obtain ⟨Af, cf, rfl⟩ := Kd.R_slice lT; obtain ⟨Aa, ca, rfl⟩ := Kd.R_slice lX; clear lT lX zB uY uG)
    | (refine aN rfl 57 (.tmp 2) (.tmp 16) rfl g (aX b.addr b.aff b.slots (.slice Af b.free.length cf) (.slice Aa b.attrs.length ca)) rfl rfl 57 _ uX.out 68 (by kernel_rfl) (ag _ _ _ _ _ HL.out) (ag _ _ _ _ _ HL.out) (bZ _ _ _ _ _ rfl rfl) ?_; intro W6 Pv rj; have DO := ak Pv; have PH := ak (uc.out.grown rj (fun e => HNE.out (Option.some.inj e).symm)); have PL := ak (bY PM.out uX.out (by decide) rj); have PQ := ak (bY PR.out uX.out (by decide) rj); have CJ := ak (yE.out.grown rj yE.out.size (by intro k hk; cases hk; exact HG.out)); have Tu := DO.out.cell 1 _ rfl; have Th := DO.out.frozen 1; clear Pv rj uX uc PM PR yE)
    | (generalize M6 : W6.setCell ⟨g, 1, none⟩ (.string s) = W7; have MM : aH W7 g (aX b.addr s b.slots (.slice Af b.free.length cf) (.slice Aa b.attrs.length ca)) 57 := (by rw [← M6]; exact DO.out.set 1 (.string s)); have vW : W6.grownBy W7 (some g) := (by rw [← M6]; exact bP W6 g 1 (.string s)); refine ay rfl 57 (.tmp 2) rfl g rfl _ _ _ MM Try.underlying57 rfl 68 (by kernel_rfl) (ag _ _ _ _ _ HL.out) ?_; have VH := ak MM; have NA := ak (PH.out.grown vW (fun e => HNE.out (Option.some.inj e).symm)); have T5 := ak (bY PL.out DO.out (by decide) vW); have wb := ak (bY PQ.out DO.out (by decide) vW); have PO := ak (CJ.out.grown vW CJ.out.size (by intro k hk; cases hk; exact HG.out)); clear M6 MM vW Tu Th DO PH PL PQ CJ)
    | (refine aN rfl 57 (.tmp 4) (.tmp 19) rfl g4 (aX b.addr s b.slots (.slice Af b.free.length cf) (.slice Aa b.attrs.length ca)) rfl rfl 57 _ NA.out 68 (by kernel_rfl) (ag _ _ _ _ _ HL.out) rfl (bZ _ _ _ _ _ rfl rfl) ?_; intro W8 SV zA))
   exact bodyPost_ret (e8 rfl _ _ g4 57 _ (0, 0) _ rfl SV Try.underlying57 rfl (by simp only [List.size_toArray]; exact b9 _ (ag _ _ _ _ _ HL.out))) rfl ⟨_, rfl, ⟨HL.out, _, _, rfl, bY T5.out NA.out (by decide) zA, bY wb.out NA.out (by decide) zA⟩, PO.out.grown zA PO.out.size (by intro k hk; cases hk; exact yd.out)⟩
end Go.Proofs.Ytemhalnhbgkbcaa.V
end

section
namespace Go.Proofs.Ytemhalnhbgkbcaa.V
def mS.T1 : Bool × List (List Nat × List Nat) := (true, [([], []), ([0], [0]), ([], []), ([2], [2]), ([1, 3], [1, 3])])
def mS.B1 : List Nat := [0, 1, 0, 4, 15]
theorem mS.tab1 : dP .any (opsOf Try.f92 1) = mS.T1 := by kernel_rfl
theorem mS.bits1 : dr mS.T1.2 mS.B1 = true := by kernel_rfl
set_option maxHeartbeats 4000000 in
set_option maxRecDepth 100000 in
theorem uw (b : Bk) (hk : BkOk b) (a : Int) (h0 : 0 ≤ a) (h1 : a < 4294967296) (v : Value) (w : World) (h : gi w v b) :
  Calls Try.prog 92 #[v, .int .u32 a] w fun e w' => e = .returned (.tuple #[.int .i64 (if bN a = b.addr then a - b.addr else 0), .bool (decide (bN a = b.addr))]) ∧ Below w.heap.size w w' := by
 obtain ⟨A, c, A', c', rfl, hr⟩ := h
 have HF := ak (yZ a h0 h1)
 have lW := hk.a0
 have cA := hk.a1
 obtain ⟨f, hf⟩ : ∃ f, f = bN a := ⟨_, rfl⟩
 have HFE := ak hf
 rw [← hf] at HF ⊢
 have ha := b.addr
 obtain ⟨ba, hba⟩ : ∃ ba, ba = b.addr := ⟨_, rfl⟩
 have hsub : f = ba → 0 ≤ a - ba ∧ a - ba < 64 := by
  intro e
  rw [← e, hf]
  unfold bN
  omega
 clear hr hf
 by_cases he : f = b.addr
 ·have q1 : (f == b.addr) = true := by rw [beq_iff_eq]; exact he
  have q2 : (f != b.addr) = false := by rw [bne, q1]; rfl
  rw [if_pos he, decide_eq_true he]
  have hsb := hsub (by rw [hba]; exact he)
  rw [hba] at hsb
  clear hsub hba he
  go_enter Try.func92, Try.ntmps92
  go_wp2_with (first
   | (refine aE rfl 57 (.tmp 0) rfl _ rfl ?_; intro g W1 hg hbx cA; have HX := ak (hbx.below (bp (Below.refl _ _))); have HB := ak (bp cA); clear hbx cA hg))
  refine da (n := 5) (S := fun w' => w'.cell? ⟨g, 0, none⟩ = some (.int .u32 b.addr)) (ds := []) #[false, false, false, false, false] (by kernel_rfl) rfl rfl (HX.out.cell 0 _ rfl) (fun hHeld => ?_); refine bK mS.tab1 mS.bits1 (fun ab bq => ?_)
  refine pu 0 ab.out ?_
  refine pu 2 ab.out ?_
  refine tk 3 ab.out bq.out hHeld ?_ (hv := by intro w' aY; have s0 := aY; go_simp; with_reducible rfl)
  refine on 1 ab.out (fun K hK => ?_)
  refine gs Try.func80 #[.int .u32 a] (gp.calls _ _ _ HF.out) ?_
  rintro e V3 ⟨rfl, iS⟩
  refine ⟨_, rfl, ?_⟩
  have nT := ak (HX.out.below iS); have jO := ak (HB.out.trans (iS.mono HB.out.size)); clear iS
  refine kn hK (nT.out.cell 0 _ rfl) (fun hHeld => ?_)
  clear hK K
  refine pu 4 ab.out ?_
  refine dn ab.out ?_
  have lV := nT.out.cell 0 _ rfl
  go_wp2
  go_ret2
  exact ⟨rfl, jO.out⟩
 ·have q1 : (f == b.addr) = false := by rw [beq_eq_false_iff_ne]; exact he
  have q2 : (f != b.addr) = true := by rw [bne, q1]; rfl
  rw [if_neg he, decide_eq_false he]
  clear hsub hba he
  go_enter Try.func92, Try.ntmps92
  go_wp2_with (first
   | (refine aE rfl 57 (.tmp 0) rfl _ rfl ?_; intro g W1 hg hbx cA; have HX := ak (hbx.below (bp (Below.refl _ _))); have HB := ak (bp cA); clear hbx cA hg))
  refine da (n := 5) (S := fun w' => w'.cell? ⟨g, 0, none⟩ = some (.int .u32 b.addr)) (ds := []) #[false, false, false, false, false] (by kernel_rfl) rfl rfl (HX.out.cell 0 _ rfl) (fun hHeld => ?_); refine bK mS.tab1 mS.bits1 (fun ab bq => ?_)
  refine pu 0 ab.out ?_
  refine pu 2 ab.out ?_
  refine tk 3 ab.out bq.out hHeld ?_ (hv := by intro w' aY; have s0 := aY; go_simp; with_reducible rfl)
  refine on 1 ab.out (fun K hK => ?_)
  refine gs Try.func80 #[.int .u32 a] (gp.calls _ _ _ HF.out) ?_
  rintro e V3 ⟨rfl, iS⟩
  refine ⟨_, rfl, ?_⟩
  have nT := ak (HX.out.below iS); have jO := ak (HB.out.trans (iS.mono HB.out.size)); clear iS
  refine kn hK (nT.out.cell 0 _ rfl) (fun hHeld => ?_)
  clear hK K
  refine pu 4 ab.out ?_
  refine dn ab.out ?_
  go_wp2
  go_ret2
  exact ⟨rfl, jO.out⟩
end Go.Proofs.Ytemhalnhbgkbcaa.V
end

section
namespace Go.Proofs.Ytemhalnhbgkbcaa.V
attribute [local go_sem] eH eF fk fj ei eh eG eE
attribute [local go_sem high] z8
def ef.l0 : Nat → List (S85) → Int → Int → ByteArray → ByteArray → Option (Int)
 | 0, _, _, _, _, _ => none
 | k + 1, x0, x7, x8, wK, wJ => if x8 < x7 then (if 0 ≤ x8 then (if x8 < (x0.length : Int) then (if (wK.toList == (((cU x0 x8).f0).toList) && (wJ.toList == (((cU x0 x8).f1).toList))) = true then (some x8) else (ef.l0 k x0 x7 (wrap64 (x8 + 1)) wK wJ)) else (none)) else (none)) else (some (-1))
def ef.f (k : Nat) (l0 : List (S85)) (kO : ByteArray) (kN : ByteArray) : Option (Int) := ef.l0 k l0 (l0.length : Int) 0 kO kN
set_option maxHeartbeats 8000000 in
set_option maxRecDepth 100000 in
theorem ef.calls (k : Nat) (A0 : Option Addr) (c0 : Nat) (l0 : List (S85)) (kO : ByteArray) (kN : ByteArray) (r : Int) (w : World) (rh : Kd.C iR w A0 l0.length l0) (lV : l0.length ≤ c0) (h : ef.f k l0 kO kN = some r) :
  Calls Try.prog 110 #[.slice A0 l0.length c0, .agg #[.string kO, .string kN]] w fun e w' => e = .returned (.int .i64 r) ∧ Below w.heap.size w w' := by
 have G2 := Try.underlying85
 have rI := ak rh
 have KM := ak lV
 clear rh lV
 have HB := ak (Below.refl w.heap.size w)
 have H : (ef.l0 k l0 (l0.length : Int) 0 kO kN) = some r := h
 clear h
 have H' := ak H
 clear H
 go_enter Try.func110, Try.ntmps110
 go_wp2_with (first | ((with_reducible refine av (N := 3) rfl ?_); refine fb ?hg (N := 3) ?hd (cs := #[.string kO, .string kN]) (t := 85) ?hr ?_; (case hd => rfl); (case hg => rfl); (case hr => first | (go_simp; done) | (go_simp; rfl)); intro iN hg w3 hbox hb; have cD := ak (bE (by repeat (first | (with_reducible first | exact HB.out | apply al | apply af | apply aq) | exact HB.out)) hb); have cT := ak (hbox); have dk := ak ((by rw [hg]; exact (bs (by repeat (first | (with_reducible first | exact HB.out | apply al | apply af | apply aq) | exact HB.out))) : w.heap.size ≤ iN)); have dS := ak ((by rw [hg]; exact (bs (by repeat (first | (with_reducible first | exact HB.out | apply al | apply af | apply aq) | exact HB.out))) : w.heap.size ≤ iN)); clear HB; have HB := cD; have iQ := cT; have CL := dk; have oL := dS; clear cD cT dk dS; clear hb hbox hg))
 repeat (go_quiet (first | ((with_reducible refine av (N := 3) rfl ?_); refine fb ?hg (N := 3) ?hd (cs := #[.string kO, .string kN]) (t := 85) ?hr ?_; (case hd => rfl); (case hg => rfl); (case hr => first | (go_simp; done) | (go_simp; rfl)); intro iN hg w3 hbox hb; have cD := ak (bE (by repeat (first | (with_reducible first | exact HB.out | apply al | apply af | apply aq) | exact HB.out)) hb); have cT := ak (hbox); have dk := ak ((by rw [hg]; exact (bs (by repeat (first | (with_reducible first | exact HB.out | apply al | apply af | apply aq) | exact HB.out))) : w.heap.size ≤ iN)); have dS := ak ((by rw [hg]; exact (bs (by repeat (first | (with_reducible first | exact HB.out | apply al | apply af | apply aq) | exact HB.out))) : w.heap.size ≤ iN)); clear HB; have HB := cD; have iQ := cT; have CL := dk; have oL := dS; clear cD cT dk dS; clear hb hbox hg)); try go_wp2_with (first | ((with_reducible refine av (N := 3) rfl ?_); refine fb ?hg (N := 3) ?hd (cs := #[.string kO, .string kN]) (t := 85) ?hr ?_; (case hd => rfl); (case hg => rfl); (case hr => first | (go_simp; done) | (go_simp; rfl)); intro iN hg w3 hbox hb; have cD := ak (bE (by repeat (first | (with_reducible first | exact HB.out | apply al | apply af | apply aq) | exact HB.out)) hb); have cT := ak (hbox); have dk := ak ((by rw [hg]; exact (bs (by repeat (first | (with_reducible first | exact HB.out | apply al | apply af | apply aq) | exact HB.out))) : w.heap.size ≤ iN)); have dS := ak ((by rw [hg]; exact (bs (by repeat (first | (with_reducible first | exact HB.out | apply al | apply af | apply aq) | exact HB.out))) : w.heap.size ≤ iN)); clear HB; have HB := cD; have iQ := cT; have CL := dk; have oL := dS; clear cD cT dk dS; clear hb hbox hg)))
 go_loopg [8] k (fun kq v8 w' => ∃ (gz : Int), v8 = .int .i64 gz ∧ Aside0 (ef.l0 kq l0 (l0.length : Int) gz kO kN = some r) ∧ Aside0 (kq ≤ k) ∧ Aside0 (w'.heap[iN]? = some (.cells #[.string kO, .string kN] 85 (0, 0))) ∧ Aside0 (Below w.heap.size w w'))
 case atStart => exact ⟨(0), (by first | rfl | (simp; done) | (simp [*]; done)), H', ⟨Nat.le_refl _⟩, ⟨by (with_reducible repeat (first | refine aK ?_ _ | refine aT ?_ | refine aM ?_ _)); exact iQ.out⟩, ⟨by repeat (first | (with_reducible first | exact HB.out | apply al | apply af | apply aq | refine aQ ?_ oL.out) | exact HB.out)⟩⟩
 case round =>
  clear H'
  obtain ⟨gz, rfl, HA, dC, iQ, HB⟩ := hrel
  cases gk with
  | zero => exact absurd HA.out (by simp [ef.l0])
  | succ k1 =>
   have H := HA.out
   clear HA
   simp only [ef.l0] at H
   by_cases c4 : gz < (l0.length : Int)
   ·rw [if_pos c4] at H
    have uM : decide (gz < (l0.length : Int)) = true := decide_eq_true c4
    clear c4
    by_cases c5 : 0 ≤ gz
    ·rw [if_pos c5] at H
     have wy : decide (0 ≤ gz) = true := decide_eq_true c5
     clear c5
     by_cases c6 : gz < (l0.length : Int)
     ·rw [if_pos c6] at H
      have nJ : decide (gz < (l0.length : Int)) = true := decide_eq_true c6
      clear c6
      by_cases c7 : (kO.toList == (((cU l0 gz).f0).toList) && (kN.toList == (((cU l0 gz).f1).toList))) = true
      ·rw [if_pos c7] at H
       have qC : (kO.toList == (((cU l0 gz).f0).toList) && (kN.toList == (((cU l0 gz).f1).toList))) = true := c7
       (try (have Qi : decide (kO.toList = (((cU l0 gz).f0).toList) && (kN.toList == (((cU l0 gz).f1).toList))) = true := by simpa using c7))
       (try (have Qh : (kO.toList == (((cU l0 gz).f0).toList) && (kN.toList == (((cU l0 gz).f1).toList))) = true := by simpa using c7))
       clear c7
       obtain rfl := Option.some.inj H
       have FN : wr.cell? ⟨iN, 0, none⟩ = some (.string kO) := (aC iQ.out 0).trans rfl
       have FM : wr.cell? ⟨iN, 1, none⟩ = some (.string kN) := (aC iQ.out 1).trans rfl
       have FL := ao iQ.out 0
       have FJ := ao iQ.out 1
       have oC : 0 ≤ (gz : Int) := of_decide_eq_true (by first | (with_reducible assumption) | assumption)
       have oB : gz < (l0.length : Int) := of_decide_eq_true (by first | (with_reducible assumption) | assumption)
       obtain ⟨Hx, y5, kU, kT⟩ := lr rI.out gz oC oB
       cases y5
       replace kU := (HB.out.cell (World.block_lt_of_cell? w _ kU)).trans kU
       replace kT := (HB.out.cell (World.block_lt_of_cell? w _ kT)).trans kT
       replace oC := eq_true oC
       replace oB := eq_true oB
       go_wp2
       repeat (go_quiet (fail); try go_wp2)
       go_ret
       exact ⟨by first | rfl | (simp [cy, cx] <;> rfl) | (simp [*, cy, cx] <;> rfl), by repeat (first | (with_reducible first | exact HB.out | apply al | apply af | apply aq | refine aQ ?_ oL.out) | exact HB.out)⟩
      ·rw [if_neg c7] at H
       have qC : (kO.toList == (((cU l0 gz).f0).toList) && (kN.toList == (((cU l0 gz).f1).toList))) = false := by simpa using c7
       (try (have Qi : decide (kO.toList = (((cU l0 gz).f0).toList) && (kN.toList == (((cU l0 gz).f1).toList))) = false := by simpa using c7))
       (try (have Qh : (kO.toList == (((cU l0 gz).f0).toList) && (kN.toList == (((cU l0 gz).f1).toList))) = false := by simpa using c7))
       (try (have U6 : ¬ (kO.toList = (((cU l0 gz).f0).toList) && (kN.toList == (((cU l0 gz).f1).toList))) := by simpa using c7))
       clear c7
       have H' := ak H
       clear H
       have Tj : wr.cell? ⟨iN, 0, none⟩ = some (.string kO) := (aC iQ.out 0).trans rfl
       have Ti : wr.cell? ⟨iN, 1, none⟩ = some (.string kN) := (aC iQ.out 1).trans rfl
       have S4 := ao iQ.out 0
       have S3 := ao iQ.out 1
       have oC : 0 ≤ (gz : Int) := of_decide_eq_true (by first | (with_reducible assumption) | assumption)
       have oB : gz < (l0.length : Int) := of_decide_eq_true (by first | (with_reducible assumption) | assumption)
       obtain ⟨Hx, y5, kU, kT⟩ := lr rI.out gz oC oB
       cases y5
       replace kU := (HB.out.cell (World.block_lt_of_cell? w _ kU)).trans kU
       replace kT := (HB.out.cell (World.block_lt_of_cell? w _ kT)).trans kT
       replace oC := eq_true oC
       replace oB := eq_true oB
       go_wp2
       repeat (go_quiet (fail); try go_wp2)
       go_roundg k1
       case measure => have := dC.out; omega
       case rel => exact ⟨(wrap64 (gz + 1)), (by first | rfl | (simp; done) | (simp [*]; done)), H', ⟨by have := dC.out; omega⟩, ⟨by (with_reducible repeat (first | refine aK ?_ _ | refine aT ?_ | refine aM ?_ _)); exact iQ.out⟩, ⟨by repeat (first | (with_reducible first | exact HB.out | apply al | apply af | apply aq | refine aQ ?_ oL.out) | exact HB.out)⟩⟩
     ·rw [if_neg c6] at H
      exact absurd H (by simp)
    ·rw [if_neg c5] at H
     exact absurd H (by simp)
   ·rw [if_neg c4] at H
    have uM : decide (gz < (l0.length : Int)) = false := decide_eq_false c4
    clear c4
    obtain rfl := Option.some.inj H
    go_wp2
    repeat (go_quiet (fail); try go_wp2)
    go_ret
    exact ⟨by first | rfl | (simp [cy, cx] <;> rfl) | (simp [*, cy, cx] <;> rfl), by repeat (first | (with_reducible first | exact HB.out | apply al | apply af | apply aq | refine aQ ?_ oL.out) | exact HB.out)⟩
end Go.Proofs.Ytemhalnhbgkbcaa.V
end

section
namespace Go.Proofs.Ytemhalnhbgkbcaa.V
def OC (W : World) (b1 g : Nat) (b : Bk) : Prop := b.slots.length = 64 ∧ ∃ vf va, aH W g (aX b.addr b.aff b.slots vf va) 57 ∧ Kd.R (Kd.int .u8) 5 W b1 (fun _ => True) vf b.free ∧ Kd.R iR 85 W b1 (fun _ => True) va b.attrs
def gJ (S : Nat → Prop) (W W' : World) : Prop := W.heap.size ≤ W'.heap.size ∧ ∀ k, k < W.heap.size → ¬ S k → W'.heap[k]? = W.heap[k]?
def ET (W : World) (b1 g : Nat) (k : Nat) : Prop := k = g ∨ b1 ≤ k ∧ ∃ cells, W.heap[k]? = some (.cells cells 85 (0, 0))
def fJ (l : List At) (a : At) : Option Nat := l.findIdx? (sameAt a)
def en (l : List At) (a : At) : Nat := match fJ l a with | some i => i + 1 | none => l.length + 1
def ea (l : List At) (a : At) : List At := match fJ l a with | some _ => l | none => l ++ [a]
theorem Lc (l : List At) (hl : l.length ≤ 1000) (a : At) : ef.f (l.length + 5) l a.f0 a.f1 = some (match fJ l a with | some i => (i : Int) | none => -1) := by
 have key : ∀ (d i k : Nat), i + d = l.length → d < k → ef.l0 k l (l.length : Int) (i : Int) a.f0 a.f1 = some (match (l.drop i).findIdx? (sameAt a) with | some j => ((i + j : Nat) : Int) | none => -1) := by
  intro d
  induction d with
  | zero =>
   intro i k hi hk
   obtain ⟨k, rfl⟩ : ∃ m, k = m + 1 := ⟨k - 1, by omega⟩
   rw [ef.l0, if_neg (by omega), List.drop_of_length_le (by omega)]
   rfl
  | succ d ih =>
   intro i k hi hk
   obtain ⟨k, rfl⟩ : ∃ m, k = m + 1 := ⟨k - 1, by omega⟩
   have hil : i < l.length := by omega
   have e : cU l (i : Int) = l[i] := by simp [cU, List.getD, hil]
   rw [ef.l0, if_pos (by omega), if_pos (by omega), if_pos (by omega), e, List.drop_eq_getElem_cons hil, List.findIdx?_cons]
   cases h : sameAt a l[i] with
   | true =>
    have h' : (a.f0.toList == l[i].f0.toList && a.f1.toList == l[i].f1.toList) = true := h
    rw [h', if_pos rfl]
    simp
   | false =>
    have h' : (a.f0.toList == l[i].f0.toList && a.f1.toList == l[i].f1.toList) = false := h
    rw [h', if_neg (by decide), g8 ((i : Int) + 1) (by omega) (by omega), show (i : Int) + 1 = ((i + 1 : Nat) : Int) by omega, ih (i + 1) k (by omega) (by omega)]
    cases (l.drop (i + 1)).findIdx? (sameAt a) with
    | none => rfl
    | some j =>
     show some ((i + 1 + j : Nat) : Int) = some ((i + (j + 1) : Nat) : Int)
     rw [show i + 1 + j = i + (j + 1) by omega]
 unfold ef.f
 rw [show (0 : Int) = ((0 : Nat) : Int) from rfl, key l.length 0 _ (by omega) (by omega), List.drop_zero]
 unfold fJ
 cases l.findIdx? (sameAt a) with
 | none => rfl
 | some j => simp
theorem tt {l : List At} {a : At} {i : Nat} (h : fJ l a = some i) : i < l.length := by
 unfold fJ at h
 rw [List.findIdx?_eq_some_iff_getElem] at h
 exact h.1
def lv.T1 : Bool × List (List Nat × List Nat) := (true, [([], []), ([0], [0]), ([1], [1]), ([2], [2]), ([], []), ([3, 4], [3, 4]), ([5, 5, 0, 1, 2, 3, 4, 5], [5])])
def lv.B1 : List Nat := [0, 1, 3, 7, 0, 31, 63]
theorem lv.tab1 : dP .any (opsOf Try.f90 1) = lv.T1 := by kernel_rfl
theorem lv.bits1 : dr lv.T1.2 lv.B1 = true := by kernel_rfl
def nw.T4 : Bool × List (List Nat × List Nat) := (true, [([], []), ([], []), ([1], [1]), ([2], [2]), ([3], [3]), ([], []), ([5], [5]), ([4, 6], [4, 6]), ([0, 0, 1, 2, 3, 4, 5, 6, 7], [0]), ([8, 0, 1, 2, 3, 4, 5, 6, 7], [8]), ([9, 7, 7, 0, 1, 2, 3, 4, 5, 6, 7], [7, 9])])
def nw.B4 : List Nat := [0, 0, 2, 6, 14, 0, 32, 126, 255, 511, 1023]
theorem nw.tab4 : dP .any (opsOf Try.f90 4) = nw.T4 := by kernel_rfl
theorem nw.bits4 : dr nw.T4.2 nw.B4 = true := by kernel_rfl
set_option maxHeartbeats 4000000 in
set_option maxRecDepth 100000 in
theorem pK (b : Bk) (hal : b.attrs.length ≤ 100) (a : At) (g b1 base : Nat) (W : World) (hbg : base ≤ g) (hbb : base ≤ b1) (He : b1 ≤ W.heap.size) (h : OC W b1 g b) :
  Calls Try.prog 90 #[.pointer (some ⟨g, 0, none⟩), .agg #[.string a.f0, .string a.f1]] W fun e W' => e = .returned (.int .u8 (en b.attrs a : Nat)) ∧ OC W' b1 g ⟨b.addr, b.aff, b.slots, b.free, ea b.attrs a⟩ ∧ Below base W W' ∧ gJ (ET W b1 g) W W' := by
 obtain ⟨hl, vf, va, hx, hf, ha⟩ := h
 have HG := ak hbg
 have HBB := ak hbb
 have HBW := ak He
 have hbase : base ≤ W.heap.size := Nat.le_trans hbb He
 have HROW := ak (show ∀ k, va.ownBlock = some k → ET W b1 g k from fun k hk => by
  obtain ⟨hr, _⟩ := Kd.R_bound ha
  obtain ⟨_, h2, _, q, hq, h3⟩ := hr k hk
  refine Or.inr ⟨h2, ?_⟩
  rcases List.mem_cons.1 hq with rfl | hq
  ·exact h3
  ·cases hq)
 have HL := ak hl
 have hfi := Lc b.attrs (by omega) a
 obtain ⟨A, c, rfl⟩ := Kd.R_slice ha
 obtain ⟨Af, cf, rfl⟩ := Kd.R_slice hf
 have HX := ak hx
 have HF := ak hf
 have HA := ak ha
 obtain ⟨A0, c0, hq, hcc, hC⟩ := Kd.R_reads ha
 cases hq
 have HCC := ak hcc
 have HC := ak hC
 clear hbg hbb He hl hx hf ha hcc hC
 cases hi : fJ b.attrs a with
 | some i =>
  have hil := tt hi
  have e1 : en b.attrs a = i + 1 := by unfold en; rw [hi]
  have e2 : ea b.attrs a = b.attrs := by unfold ea; rw [hi]
  rw [hi] at hfi
  rw [e1, e2]
  have HFI := ak hfi
  have hneg : decide ((i : Int) < 0) = false := decide_eq_false (by omega)
  clear hfi hi e1 e2
  go_enter Try.func90, Try.ntmps90
  go_wp2_with (first
   | (refine aE rfl 85 (.tmp 1) rfl _ rfl ?_; intro ga W1 hga hbx cA; have hbd : Below W.heap.size W W1.drew := bp cA; have th := ak (hbx.below (bp (Below.refl _ _))); have im := ak (HX.out.below hbd); have jN := ak (Kd.R_below HF.out hbd); have kb := ak (Kd.R_below HA.out hbd); have DU := ak (Kd.C_below HC.out hbd); have cn := ak (hbd.mono hbase); have HBD := ak hbd; have HGA := ak hga; clear hbx cA hga hbd))
  refine da (n := 7) (S := fun w' => w'.cell? ⟨g, 67, none⟩ = some (.slice A b.attrs.length c) ∧ w'.cell? ⟨ga, 0, none⟩ = some (.string a.f0) ∧ w'.cell? ⟨ga, 1, none⟩ = some (.string a.f1)) (ds := []) #[false, false, false, false, false, false, false] (by kernel_rfl) rfl rfl ⟨im.out.cell 67 _ (fz _ _ _ _ _ HL.out), th.out.cell 0 _ rfl, th.out.cell 1 _ rfl⟩ (fun hHeld => ?_); refine bK lv.tab1 lv.bits1 (fun ab bq => ?_)
  refine pu 0 ab.out ?_
  refine pu 1 ab.out ?_
  refine pu 2 ab.out ?_
  refine tk 3 ab.out bq.out hHeld ?_ (hv := by intro w' aY; obtain ⟨s0, s1, s2⟩ := aY; go_simp; with_reducible rfl)
  refine tk 4 ab.out bq.out hHeld ?_ (hv := by intro w' aY; obtain ⟨s0, s1, s2⟩ := aY; go_simp; with_reducible rfl)
  refine on 5 ab.out (fun K hK => ?_)
  refine gs Try.func110 #[.slice A b.attrs.length c, .agg #[.string a.f0, .string a.f1]] (ef.calls _ A c b.attrs a.f0 a.f1 _ _ DU.out HCC.out HFI.out) ?_
  rintro e V3 ⟨rfl, iS⟩
  refine ⟨_, rfl, ?_⟩
  have nT := ak (im.out.below iS); have uW := ak (th.out.below iS); have jO := ak (cn.out.trans (iS.mono (Nat.le_trans hbase cn.out.size))); skip
  refine kn hK ⟨nT.out.cell 67 _ (fz _ _ _ _ _ HL.out), uW.out.cell 0 _ rfl, uW.out.cell 1 _ rfl⟩ (fun hHeld => ?_)
  clear hK K
  refine pu 6 ab.out ?_
  refine dn ab.out ?_
  have hbd : Below W1.drew.heap.size W1.drew V3 := iS
  go_wp2
  go_ret
  exact ⟨by simp, ⟨HL.out, _, _, nT.out, Kd.R_below jN.out hbd, Kd.R_below kb.out hbd⟩, jO.out, Nat.le_trans HBD.out.size hbd.size, fun k hk _ => (hbd.block k (Nat.lt_of_lt_of_le hk HBD.out.size)).trans (HBD.out.block k hk)⟩
 | none =>
  have e1 : en b.attrs a = b.attrs.length + 1 := by unfold en; rw [hi]
  have e2 : ea b.attrs a = b.attrs ++ [a] := by unfold ea; rw [hi]
  rw [hi] at hfi
  rw [e1, e2]
  have HFI := ak hfi
  obtain ⟨L, hL⟩ : ∃ L, L = b.attrs ++ [a] := ⟨_, rfl⟩
  have HLL := ak hL
  rw [← hL]
  clear hfi hi e1 e2 hL
  go_enter Try.func90, Try.ntmps90
  go_wp2_with (first
   | (refine aE rfl 85 (.tmp 1) rfl _ rfl ?_; intro ga W1 hga hbx cA; have hbd : Below W.heap.size W W1.drew := bp cA; have th := ak (hbx.below (bp (Below.refl _ _))); have im := ak (HX.out.below hbd); have jN := ak (Kd.R_below HF.out hbd); have kb := ak (Kd.R_below HA.out hbd); have DU := ak (Kd.C_below HC.out hbd); have cn := ak (hbd.mono hbase); have HBD := ak hbd; have HGA := ak hga; clear hbx cA hga hbd))
  refine da (n := 7) (S := fun w' => w'.cell? ⟨g, 67, none⟩ = some (.slice A b.attrs.length c) ∧ w'.cell? ⟨ga, 0, none⟩ = some (.string a.f0) ∧ w'.cell? ⟨ga, 1, none⟩ = some (.string a.f1)) (ds := []) #[false, false, false, false, false, false, false] (by kernel_rfl) rfl rfl ⟨im.out.cell 67 _ (fz _ _ _ _ _ HL.out), th.out.cell 0 _ rfl, th.out.cell 1 _ rfl⟩ (fun hHeld => ?_); refine bK lv.tab1 lv.bits1 (fun ab bq => ?_)
  refine pu 0 ab.out ?_
  refine pu 1 ab.out ?_
  refine pu 2 ab.out ?_
  refine tk 3 ab.out bq.out hHeld ?_ (hv := by intro w' aY; obtain ⟨s0, s1, s2⟩ := aY; go_simp; with_reducible rfl)
  refine tk 4 ab.out bq.out hHeld ?_ (hv := by intro w' aY; obtain ⟨s0, s1, s2⟩ := aY; go_simp; with_reducible rfl)
  refine on 5 ab.out (fun K hK => ?_)
  refine gs Try.func110 #[.slice A b.attrs.length c, .agg #[.string a.f0, .string a.f1]] (ef.calls _ A c b.attrs a.f0 a.f1 _ _ DU.out HCC.out HFI.out) ?_
  rintro e V3 ⟨rfl, iS⟩
  refine ⟨_, rfl, ?_⟩
  have nT := ak (im.out.below iS); have uW := ak (th.out.below iS); have jO := ak (cn.out.trans (iS.mono (Nat.le_trans hbase cn.out.size))); skip
  refine kn hK ⟨nT.out.cell 67 _ (fz _ _ _ _ _ HL.out), uW.out.cell 0 _ rfl, uW.out.cell 1 _ rfl⟩ (fun hHeld => ?_)
  clear hK K
  refine pu 6 ab.out ?_
  refine dn ab.out ?_
  have hbd : Below W1.drew.heap.size W1.drew V3.drew := bp iS
  have uY := ak (im.out.below hbd)
  have uV := ak (th.out.below hbd)
  have T8 := ak (Kd.R_below jN.out hbd)
  have sm := ak (Kd.R_below kb.out hbd)
  have ox := ak (bp jO.out)
  have CI := ak (show Below W.heap.size W V3.drew from HBD.out.trans (hbd.mono HBD.out.size))
  have TR := ak (show b1 ≤ V3.drew.heap.size from Nat.le_trans HBW.out CI.out.size)
  have Hb := nT.out.cell 67 _ (fz _ _ _ _ _ HL.out)
  go_wp2_with fail
  clear Hb
  refine da (n := 11) (S := fun w' => w'.cell? ⟨g, 67, none⟩ = some (.slice A b.attrs.length c) ∧ w'.cell? ⟨ga, 0, none⟩ = some (.string a.f0) ∧ w'.cell? ⟨ga, 1, none⟩ = some (.string a.f1)) (ds := [10]) #[false, false, false, false, false, false, false, false, false, false, false] (by kernel_rfl) rfl rfl ⟨uY.out.cell 67 _ (fz _ _ _ _ _ HL.out), uV.out.cell 0 _ rfl, uV.out.cell 1 _ rfl⟩ (fun hHeld => ?_); refine bK nw.tab4 nw.bits4 (fun ab bq => ?_)
  refine pu 0 ab.out ?_
  refine pu 1 ab.out ?_
  refine pu 2 ab.out ?_
  refine pu 3 ab.out ?_
  refine tk 4 ab.out bq.out hHeld ?_ (hv := by intro w' aY; obtain ⟨s0, s1, s2⟩ := aY; go_simp; with_reducible rfl)
  refine tk 5 ab.out bq.out hHeld ?_ (hv := by intro w' aY; obtain ⟨s0, s1, s2⟩ := aY; go_simp; with_reducible rfl)
  refine on 6 ab.out (fun K hK => ?_)
  have uX := ak (uY.out.alloc (.cells [Value.string a.f0, .string a.f1].toArray 85)); have uc := ak (uV.out.alloc (.cells [Value.string a.f0, .string a.f1].toArray 85))
  refine xc (v := .slice (some ⟨V3.drew.heap.size, 0, none⟩) 1 1) (w1 := V3.drew.alloc (.cells [Value.string a.f0, .string a.f1].toArray 85)) (by rfl) ?_ ?_
  ·go_simp
   try rfl
  refine kn hK ⟨uX.out.cell 67 _ (fz _ _ _ _ _ HL.out), uc.out.cell 0 _ rfl, uc.out.cell 1 _ rfl⟩ (fun hHeld => ?_)
  clear hK K
  refine on 7 ab.out (fun K hK => ?_)
  refine Kd.R_append_step iR (w0 := V3.drew) b1 (by rfl) (.tmp 23) (.tmp 25) 55 85 (.agg #[.string ⟨#[]⟩, .string ⟨#[]⟩]) 32 rfl Try.underlying55 yT rfl (by decide) (by omega) _ b.attrs a [.string a.f0, .string a.f1] (fun _ => True) (fun _ => False) rfl rfl (yQ _ _ _ _) (fun _ h => h.elim) (fun _ _ => trivial) sm.out (Below.refl _ _) TR.out (by omega) ?_
  intro v8 w8 vU pD zA P8
  rw [← HLL.out] at vU
  have DN := ak (uY.out.grown zA (uY.out.ne_row sm.out (by decide)))
  have T0 := ak (Kd.R_over T8.out sm.out (by decide) zA)
  have Ui := ak vU
  have Ug := ak (ox.out.trans (pD.mono HBB.out))
  have NL := ak zA
  have PG := ak (uV.out.grown zA (fun e => by have := Kd.R_lt HA.out _ e.symm; have := HGA.out; omega))
  obtain ⟨A8, c8, rfl⟩ := Kd.R_slice vU
  clear vU pD P8
  refine kn hK ⟨DN.out.cell 67 _ (fz _ _ _ _ _ HL.out), PG.out.cell 0 _ rfl, PG.out.cell 1 _ rfl⟩ (fun hHeld => ?_)
  clear hK K
  refine pu 8 ab.out ?_
  refine pu 9 ab.out ?_
  refine ra (i := 10) (N := none) #[true, true, true, true, true, true, true, true, true, true, true] rfl rfl (mT ab.out (by kernel_rfl)) (by decide) (fun K hK => ?_)
  have P6 := DN.out.frozen 67; have Hb := DN.out.cell 67 _ (fz _ _ _ _ _ HL.out)
  refine pI (w1 := ?_) (by rfl) rfl ?_ ?_
  rotate_left
  ·go_simp
   rfl
  refine hK.out _ _ ?_
  clear hK K
  refine dn ab.out ?_
  have TQ : aH (w8.setCell ⟨g, 67, none⟩ (.slice A8 L.length c8)) g (aX b.addr b.aff b.slots (.slice Af b.free.length cf) (.slice A8 L.length c8)) 57 := by
   have := DN.out.set 67 (.slice A8 L.length c8)
   rwa [tA _ _ _ _ _ HL.out] at this
  go_wp2
  go_ret
  refine ⟨by simp, ⟨HL.out, _, _, TQ, bY T0.out DN.out (by decide) (bP _ _ _ _), bY Ui.out DN.out (by decide) (bP _ _ _ _)⟩, Below.setCell Ug.out (p := ⟨g, 67, none⟩) HG.out _, ?_, fun k hk hns => ?_⟩
  ·have h1 := CI.out.size
   have h2 := NL.out.size
   have h3 := (bP w8 g 67 (.slice A8 L.length c8)).size
   omega
  ·have h1 := CI.out.block k hk
   have h2 := NL.out.block k (Nat.lt_of_lt_of_le hk CI.out.size) (fun e => hns (HROW.out k e.symm))
   have h3 := (bP w8 g 67 (.slice A8 L.length c8)).block k (Nat.lt_of_lt_of_le hk (Nat.le_trans CI.out.size NL.out.size)) (fun e => hns (Or.inl (Option.some.inj e)))
   exact h3.trans (h2.trans h1)
end Go.Proofs.Ytemhalnhbgkbcaa.V
end

section
namespace Go.Proofs.Ytemhalnhbgkbcaa.V
theorem gJ.of_below {S : Nat → Prop} {W W1 : World} (h : Below W.heap.size W W1) : gJ S W W1 := ⟨h.size, fun k hk _ => h.block k hk⟩
theorem gJ.trans {S : Nat → Prop} {W W1 W2 : World} (h : gJ S W W1) (k : gJ S W1 W2) : gJ S W W2 := ⟨Nat.le_trans h.1 k.1, fun q hq hs => (k.2 q (Nat.lt_of_lt_of_le hq h.1) hs).trans (h.2 q hq hs)⟩
theorem gJ.of_grown {S : Nat → Prop} {W W1 : World} {row : Option Nat} (h : W.grownBy W1 row) (hs : ∀ k, some k = row → S k) : gJ S W W1 := ⟨h.size, fun k hk hn => h.block k hk (fun e => hn (hs k e))⟩
theorem aH.keeps {S : Nat → Prop} {W W1 : World} {g t : Nat} {cs : List Value} (h : aH W g cs t) (hk : gJ S W W1) (hs : ¬ S g) : aH W1 g cs t := (hk.2 g h.lt hs).trans h
theorem Kd.R_keeps {α : Type} {d : Kd α} {e base : Nat} {ok S : Nat → Prop} {W W1 : World} {v : Value} {xs : List α} (h : d.R e W base ok v xs) (hk : gJ S W W1) (hs : ∀ k, ok k → k < W.heap.size → base ≤ k → (∃ q, q ∈ e :: d.E ∧ ∃ cells, W.heap[k]? = some (.cells cells q (0, 0))) → ¬ S k) : d.R e W1 base ok v xs :=
 Kd.R_mono (Kd.R_move (Kd.R_bound h) (fun k ⟨h1, h2, h3, h4⟩ => hk.2 k h3 (hs k h1 h3 h2 h4))) (fun _ hk => hk.1)
theorem Kd.R_keptrow {α β : Type} {d : Kd α} {d' : Kd β} {e e' base base' : Nat} {ok ok' : Nat → Prop} {W W1 : World} {u v : Value} {xs : List α} {ys : List β} (h : d.R e W base ok u xs) (hr : d'.R e' W base' ok' v ys) (ht : ∀ q, q ∈ e :: d.E → q ≠ e') (hk : gJ (fun k => some k = v.ownBlock) W W1) : d.R e W1 base ok u xs :=
 Kd.R_keeps h hk (fun k _ _ _ ⟨q, hq, cells, hc⟩ hs => by
  obtain ⟨_, _, ho, _⟩ := hr
  obtain ⟨c2, h2⟩ := o8 ho k hs.symm
  rw [h2] at hc
  injection hc with hc
  injection hc with _ hc
  exact ht q hq hc.symm)
theorem Kd.R_added {α : Type} {d : Kd α} {e base b1 g : Nat} {ok : Nat → Prop} {W W1 : World} {v : Value} {xs : List α} {cs : List Value} (h : d.R e W base ok v xs) (hx : aH W g cs 57) (ht : ∀ q, q ∈ e :: d.E → q ≠ 57 ∧ q ≠ 85) (hk : gJ (ET W b1 g) W W1) : d.R e W1 base ok v xs :=
 Kd.R_keeps h hk (fun k _ _ _ ⟨q, hq, cells, hc⟩ hs => by
  rcases hs with rfl | ⟨_, c2, h2⟩
  ·unfold aH at hx
   rw [hx] at hc
   injection hc with hc
   injection hc with _ hc
   exact (ht q hq).1 hc.symm
  ·rw [h2] at hc
   injection hc with hc
   injection hc with _ hc
   exact (ht q hq).2 hc.symm)
theorem aH.added {W W1 : World} {b1 g g' t : Nat} {cs : List Value} (h : aH W g' cs t) (hne : g' ≠ g) (hlt : g' < b1) (hk : gJ (ET W b1 g) W W1) : aH W1 g' cs t :=
 h.keeps hk (fun hs => by
  rcases hs with e | ⟨e, _⟩
  ·exact hne e
  ·omega)
section
variable {W W1 : World} {b1 b2 g g' t : Nat} {b : Bk}
theorem OC.open (h : OC W b1 g b) : ∃ A c A' c', aH W g (aX b.addr b.aff b.slots (.slice A b.free.length c) (.slice A' b.attrs.length c')) 57 ∧ Kd.R (Kd.int .u8) 5 W b1 (fun _ => True) (.slice A b.free.length c) b.free ∧ Kd.R iR 85 W b1 (fun _ => True) (.slice A' b.attrs.length c') b.attrs := by
 obtain ⟨_, vf, va, hx, hf, ha⟩ := h
 obtain ⟨A, c, rfl⟩ := Kd.R_slice hf
 obtain ⟨A', c', rfl⟩ := Kd.R_slice ha
 exact ⟨A, c, A', c', hx, hf, ha⟩
theorem OC.l64 (h : OC W b1 g b) : b.slots.length = 64 := h.1
theorem OC.below (h : OC W b1 g b) (hb : Below W.heap.size W W1) : OC W1 b1 g b := by
 obtain ⟨hl, vf, va, hx, hf, ha⟩ := h
 exact ⟨hl, vf, va, hx.below hb, Kd.R_below hf hb, Kd.R_below ha hb⟩
theorem OC.drew (h : OC W b1 g b) : OC W.drew b1 g b := h.below (bp (Below.refl _ _))
theorem OC.lower (h : OC W b1 g b) (hb : b2 ≤ b1) : OC W b2 g b := by
 obtain ⟨hl, vf, va, hx, hf, ha⟩ := h
 exact ⟨hl, vf, va, hx, Kd.R_lower hf hb, Kd.R_lower ha hb⟩
theorem OC.lt (h : OC W b1 g b) : g < W.heap.size := by
 obtain ⟨A, c, A', c', hx, _, _⟩ := h.open
 exact hx.lt
theorem OC.box {cs : List Value} (h : OC W b1 g b) (hx' : aH W g' cs t) (ht : ∀ q, q ∈ [5, 85] → q ≠ t) (hne : g ≠ g') (hg : W.grownBy W1 (some g')) : OC W1 b1 g b := by
 obtain ⟨hl, vf, va, hx, hf, ha⟩ := h
 exact ⟨hl, vf, va, hx.grown hg (fun e => hne (Option.some.inj e)), bY hf hx' (fun q hq => by
  rcases List.mem_cons.1 hq with rfl | hq
  ·exact ht _ (by simp)
  ·cases hq) hg, bY ha hx' (fun q hq => by
  rcases List.mem_cons.1 hq with rfl | hq
  ·exact ht _ (by simp)
  ·cases hq) hg⟩
theorem OC.row {α : Type} {d : Kd α} {e base' : Nat} {ok : Nat → Prop} {v : Value} {xs : List α} (h : OC W b1 g b) (hr : d.R e W base' ok v xs) (he : e ≠ 57) (ht : ∀ q, q ∈ [5, 85] → q ≠ e) (hg : W.grownBy W1 v.ownBlock) : OC W1 b1 g b := by
 obtain ⟨hl, vf, va, hx, hf, ha⟩ := h
 exact ⟨hl, vf, va, hx.grown hg (hx.ne_row hr he), Kd.R_over hf hr (fun q hq => by
  rcases List.mem_cons.1 hq with rfl | hq
  ·exact ht _ (by simp)
  ·cases hq) hg, Kd.R_over ha hr (fun q hq => by
  rcases List.mem_cons.1 hq with rfl | hq
  ·exact ht _ (by simp)
  ·cases hq) hg⟩
theorem OC.slot (h : OC W b1 g b) (i : Nat) (hi : i < 64) (x : Int) : OC (W.setCell ⟨g, 2 + i, none⟩ (.int .u8 x)) b1 g ⟨b.addr, b.aff, b.slots.set i x, b.free, b.attrs⟩ := by
 obtain ⟨hl, vf, va, hx, hf, ha⟩ := h
 refine ⟨by simpa using hl, vf, va, ?_, bY hf hx (by decide) (bP _ _ _ _), bY ha hx (by decide) (bP _ _ _ _)⟩
 have := hx.set (2 + i) (.int .u8 x)
 rwa [qG _ _ _ _ _ hl i hi] at this
theorem OC.stored {vf va : Value} {qS : List Value} (hl : b.slots.length = 64) (hx : aH W g qS 57) (lf : aH W1 g (aX b.addr b.aff b.slots vf va) 57) (hf : Kd.R (Kd.int .u8) 5 W b1 (fun _ => True) vf b.free) (ha : Kd.R iR 85 W b1 (fun _ => True) va b.attrs) (hg : W.grownBy W1 (some g)) : OC W1 b1 g b :=
 ⟨hl, vf, va, lf, bY hf hx (by decide) hg, bY ha hx (by decide) hg⟩
theorem OC.slotCell (h : OC W b1 g b) (i : Nat) (hi : i < 64) : W.cell? ⟨g, 2 + i, none⟩ = some (.int .u8 (b.slots.getD i 0)) := by
 obtain ⟨A, c, A', c', hx, _, _⟩ := h.open
 exact hx.cell _ _ (Cr _ _ _ _ _ h.l64 i hi)
theorem OC.frozen (h : OC W b1 g b) (j : Nat) : W.frozen? ⟨g, j, none⟩ = false := by
 obtain ⟨A, c, A', c', hx, _, _⟩ := h.open
 exact hx.frozen _
theorem OC.addrCell (h : OC W b1 g b) : W.cell? ⟨g, 0, none⟩ = some (.int .u32 b.addr) := by
 obtain ⟨A, c, A', c', hx, _, _⟩ := h.open
 exact hx.cell 0 _ rfl
end
end Go.Proofs.Ytemhalnhbgkbcaa.V
end

section
namespace Go.Proofs.Ytemhalnhbgkbcaa.V
def gM (l is : List Int) (x : Int) : List Int := is.foldl (fun l i => l.set i.toNat x) l
theorem ss (l is : List Int) (i x : Int) : gM l (is ++ [i]) x = (gM l is x).set i.toNat x := by simp [gM]
theorem jA (l is : List Int) (x : Int) : (gM l is x).length = l.length := by
 induction is generalizing l with
 | nil => rfl
 | cons i is ih =>
  show (gM (l.set i.toNat x) is x).length = _
  rw [ih, List.length_set]
theorem pF (l : List Int) (k : Nat) (h : k < l.length) : l.take (k + 1) = l.take k ++ [rd l k] := by
 rw [List.take_add_one, List.getElem?_eq_getElem h]
 simp [rd, List.getD, h]
def dY (b : Bk) (n : Nat) (a : At) : Bk := ⟨b.addr, b.aff, gM b.slots (b.free.take n) (en b.attrs a : Nat), b.free, if n = 0 then b.attrs else ea b.attrs a⟩
def di (b : Bk) (n : Nat) (a : At) : Bk := ⟨b.addr, b.aff, gM b.slots (b.free.take n) (en b.attrs a : Nat), b.free.drop n, if n = 0 then b.attrs else ea b.attrs a⟩
def dK (b : Bk) (n : Nat) : List Int := (b.free.take n).map (fun i => b.addr + i)
theorem yU (l : List At) (a : At) : fJ (ea l a) a = some (en l a - 1) := by
 unfold ea en
 cases h : fJ l a with
 | some i =>
  show fJ l a = some (i + 1 - 1)
  rw [h]
  rfl
 | none =>
  show fJ (l ++ [a]) a = some (l.length + 1 - 1)
  unfold fJ at h ⊢
  rw [List.findIdx?_append, h]
  simp [oN]
theorem vx (l : List At) (a : At) : 1 ≤ en l a := by
 unfold en
 cases fJ l a <;> simp
theorem num_add (l : List At) (a : At) : en (ea l a) a = en l a := by
 have h := yU l a
 have hp := vx l a
 unfold en at h hp ⊢
 rw [h]
 show _ - 1 + 1 = _
 omega
theorem add_add (l : List At) (a : At) : ea (ea l a) a = ea l a := by
 have h := yU l a
 generalize ea l a = m at h ⊢
 unfold ea
 rw [h]
theorem pN (l : List At) (a : At) : (ea l a).length ≤ l.length + 1 := by
 unfold ea
 cases h : fJ l a with
 | some i => show l.length ≤ _; omega
 | none => simp
def fH (b : Bk) (i : Nat) (a : At) : Bk := ⟨b.addr, b.aff, b.slots.set i (en b.attrs a : Nat), b.free.filter (fun x => x != (i : Int)), ea b.attrs a⟩
theorem oV (b : Bk) (n : Nat) (a : At) (h : n < b.free.length) : dY b (n + 1) a = ⟨b.addr, b.aff, (dY b n a).slots.set (rd b.free n).toNat (en (dY b n a).attrs a : Nat), b.free, ea (dY b n a).attrs a⟩ := by
 unfold dY
 by_cases h0 : n = 0
 ·subst h0
  simp only [pF b.free 0 h, ss, if_true, List.take_zero]
  rfl
 ·simp only [pF b.free n h, ss, if_neg h0, if_neg (show ¬ n + 1 = 0 by omega), num_add, add_add]
theorem mY (b : Bk) (n : Nat) (h : n < b.free.length) : dK b (n + 1) = dK b n ++ [b.addr + rd b.free n] := by
 unfold dK
 rw [pF b.free n h]
 simp
theorem gq (b : Bk) (n : Nat) (h : n ≤ b.free.length) : (dK b n).length = n := by
 unfold dK
 rw [List.length_map, List.length_take]
 omega
def fy (b : Bk) (x : Int) : Bool := decide (bN x = b.addr) && (b.slots.getD (x - b.addr).toNat 0 != 0)
def relF (s : Bk × List Int) (x : Int) : Bk × List Int := if fy s.1 x = true then (⟨s.1.addr, s.1.aff, s.1.slots.set (x - s.1.addr).toNat 0, s.1.free ++ [x - s.1.addr], s.1.attrs⟩, s.2 ++ [x]) else s
def relL (b : Bk) (l : List Int) : Bk × List Int := l.foldl relF (b, [])
theorem uv (b : Bk) (l : List Int) (x : Int) : relL b (l ++ [x]) = relF (relL b l) x := by simp [relL]
theorem D6 (s : Bk × List Int) (x : Int) : (relF s x).1.attrs = s.1.attrs ∧ (relF s x).1.addr = s.1.addr ∧ (relF s x).1.aff = s.1.aff ∧ (relF s x).1.slots.length = s.1.slots.length := by
 unfold relF
 split <;> simp
theorem wP (b : Bk) (l : List Int) : (relL b l).1.attrs = b.attrs ∧ (relL b l).1.addr = b.addr ∧ (relL b l).1.aff = b.aff ∧ (relL b l).1.slots.length = b.slots.length := by
 unfold relL
 suffices h : ∀ (s : Bk × List Int), (l.foldl relF s).1.attrs = s.1.attrs ∧ (l.foldl relF s).1.addr = s.1.addr ∧ (l.foldl relF s).1.aff = s.1.aff ∧ (l.foldl relF s).1.slots.length = s.1.slots.length from h (b, [])
 induction l with
 | nil => intro s; exact ⟨rfl, rfl, rfl, rfl⟩
 | cons x l ih =>
  intro s
  have h1 := ih (relF s x)
  have h2 := D6 s x
  exact ⟨h1.1.trans h2.1, h1.2.1.trans h2.2.1, h1.2.2.1.trans h2.2.2.1, h1.2.2.2.trans h2.2.2.2⟩
def dN (l : List Int) (k : Nat) : Bool := l.any (fun s => s == ((k + 1 : Nat) : Int))
def fg (l : List Int) (k : Nat) : Nat := ((List.range k).filter (dN l)).length
def iw (b : Bk) (k : Nat) : List At := ((List.range k).filter (dN b.slots)).map (gH b.attrs)
def kC (b : Bk) : Bk := ⟨b.addr, b.aff, b.slots.map (fun s => ((fg b.slots s.toNat : Nat) : Int)), b.free, iw b b.attrs.length⟩
def kz (b : Bk) (l : List Int) : Bk := kC (relL b l).1
theorem lQ (b : Bk) (k : Nat) : (iw b k).length = fg b.slots k := by simp [iw, fg]
theorem wh (l : List Int) (k : Nat) : fg l k ≤ k := by
 unfold fg
 exact Nat.le_trans (List.length_filter_le _ _) (by simp)
theorem jP (l : List Int) (k : Nat) : fg l (k + 1) = fg l k + if dN l k = true then 1 else 0 := by
 unfold fg
 rw [List.range_succ, List.filter_append, List.length_append]
 cases h : dN l k <;> simp [h]
theorem mg (b : Bk) (k : Nat) : iw b (k + 1) = iw b k ++ if dN b.slots k = true then [gH b.attrs k] else [] := by
 unfold iw
 rw [List.range_succ, List.filter_append, List.map_append]
 cases h : dN b.slots k <;> simp [h]
def j4 (b : Bk) (i : Nat) : At := gH b.attrs (b.slots.getD i 0 - 1).toNat
def dH (b : Bk) (p : At → Bool) (n : Nat) : List Int := (((List.range n).filter (fun i => b.slots.getD i 0 != 0 && p (j4 b i))).map (fun i : Nat => b.addr + (i : Int)))
theorem oM (b : Bk) (p : At → Bool) (n : Nat) : dH b p (n + 1) = dH b p n ++ if (b.slots.getD n 0 != 0 && p (j4 b n)) = true then [b.addr + (n : Int)] else [] := by
 unfold dH
 rw [List.range_succ, List.filter_append, List.map_append]
 cases h : (b.slots.getD n 0 != 0 && p (j4 b n)) <;> simp only [List.filter_cons, h, List.filter_nil] <;> simp
theorem gP (b : Bk) (p : At → Bool) (n : Nat) : (dH b p n).length ≤ n := by
 unfold dH
 rw [List.length_map]
 exact Nat.le_trans (List.length_filter_le _ _) (by simp)
end Go.Proofs.Ytemhalnhbgkbcaa.V
end

section
namespace Go.Proofs.Ytemhalnhbgkbcaa.V
abbrev Nm (g : Nat) : Value := .func (.func 94) #[] #[.pointer (some ⟨g, 0, none⟩)]
set_option maxHeartbeats 8000000 in
set_option maxRecDepth 100000 in
theorem Ac (x i : Int) (hx : 0 ≤ x) (Ij : x < 256) (g : Nat) (w : World) (h : aH w g [.int .i64 i] 3) :
  Calls Try.prog 94 #[.int .u8 x, .pointer (some ⟨g, 0, none⟩)] w fun e w' => e = .returned (.bool (x == i)) ∧ Below w.heap.size w w' := by
 have hc := h.cell 0 _ rfl
 clear h
 go_enter Try.func94, Try.ntmps94
 go_wp2
 go_ret
 exact ⟨rfl, Below.refl _ _⟩
def sy (xs : List Int) (i : Int) : Option Nat := xs.findIdx? (fun x => x == i)
theorem Fv {xs : List Int} {i : Int} (h : sy xs i = none) : ∀ x ∈ xs, (x == i) = false := by
 unfold sy at h
 rw [List.findIdx?_eq_none_iff] at h
 intro x hx
 simpa using h x hx
theorem Fu {xs : List Int} {i : Int} {k : Nat} (h : sy xs i = some k) : ∃ hk : k < xs.length, (xs[k] == i) = true ∧ ∀ j (hj : j < k), (xs[j] == i) = false := by
 unfold sy at h
 rw [List.findIdx?_eq_some_iff_getElem] at h
 obtain ⟨h1, h2, h3⟩ := h
 exact ⟨h1, h2, fun j hj => by simpa using h3 j hj⟩
theorem Ld (xs : List Int) (i : Int) (k : Nat) (hk : k < xs.length) (h : (xs[k] == i) = true) (hn : ∀ j (hj : j < k), (xs[j] == i) = false) : sy xs i = some k := by
 unfold sy
 rw [List.findIdx?_eq_some_iff_getElem]
 exact ⟨hk, h, fun j hj => by simpa using hn j hj⟩
theorem G0 (xs : List Int) (i : Int) (hn : ∀ j (hj : j < xs.length), (xs[j] == i) = false) : sy xs i = none := by
 unfold sy
 rw [List.findIdx?_eq_none_iff]
 intro x hx
 obtain ⟨j, hj, rfl⟩ := List.mem_iff_getElem.1 hx
 simpa using hn j hj
def sx (o : Option Nat) : Int := match o with | some k => (k : Int) | none => -1
set_option maxHeartbeats 8000000 in
set_option maxRecDepth 100000 in
theorem zY (xs : List Int) (hu : nN xs) (hl : xs.length ≤ 1000) (A : Option Addr) (c : Nat) (i : Int) (g : Nat) (w : World) (hC : Kd.C (Kd.int .u8) w A xs.length xs) (hX : aH w g [.int .i64 i] 3) :
  Calls Try.prog 111 #[.slice A xs.length c, Nm g] w fun e w' => e = .returned (.int .i64 (sx (sy xs i))) ∧ Below w.heap.size w w' := by
 have HC := ak hC
 have HX := ak hX
 have HU := ak hu
 clear hC hX hu
 go_enter Try.func111, Try.ntmps111
 go_wp2
 go_loopw [5, 8] (fun _ i' W => ∃ k : Nat, k ≤ xs.length ∧ i' = .int .i64 k ∧ Aside0 (∀ j (hj : j < xs.length), j < k → (xs[j] == i) = false) ∧ Aside0 (Below w.heap.size w W)) (fun _ i' _ => xs.length - (intOf i').toNat)
 case atStart => exact ⟨0, by omega, rfl, ⟨fun j _ hj => absurd hj (Nat.not_lt_zero _)⟩, ⟨Below.refl _ _⟩⟩
 case round =>
  obtain ⟨k, hk, rfl, HN, HB⟩ := hrel
  obtain ⟨W, rfl⟩ : ∃ W : World, W = wr := ⟨_, rfl⟩
  by_cases hkn : k < xs.length
  ·have hkb : decide ((k : Int) < (xs.length : Int)) = true := by simp; omega
   obtain ⟨ad, eA, hx⟩ := Kd.at_int (Kd.C_below HC.out HB.out) k (by omega) (by omega)
   cases eA
   rw [Int.toNat_natCast] at hx
   have p1 : ((k : Int) < (xs.length : Int)) = True := eq_true (by omega)
   have hrd : rd xs k = xs[k] := by simp [rd, List.getD, hkn]
   have h0 := (mZ HU.out k).1
   have h1 := (mZ HU.out k).2
   obtain ⟨x, hxx⟩ : ∃ x, x = rd xs k := ⟨_, rfl⟩
   rw [← hxx] at hx h0 h1 hrd
   have HXK := ak hrd
   clear hrd hxx
   cases hq : (x == i) with
   | true =>
    have HQ := ak hq
    clear hq
    go_wp2_with (go_at_call 94; refine (Ac x i h0 h1 g _ (HX.out.below HB.out)).mono ?_; rintro e W1 ⟨rfl, cA⟩; rw [HQ.out]; have cn := ak (HB.out.trans (cA.mono HB.out.size)); clear cA)
    go_ret
    exact ⟨by rw [Ld xs i k hkn (by rw [← HXK.out]; exact HQ.out) (fun j hj => HN.out j (by omega) hj)]; rfl, cn.out⟩
   | false =>
    have HQ := ak hq
    clear hq
    go_wp2_with (go_at_call 94; refine (Ac x i h0 h1 g _ (HX.out.below HB.out)).mono ?_; rintro e W1 ⟨rfl, cA⟩; rw [HQ.out]; have cn := ak (HB.out.trans (cA.mono HB.out.size)); clear cA)
    go_roundw
    case rel => exact ⟨k + 1, by omega, by go_num, ⟨fun j hj hjk => by
     rcases Nat.lt_or_ge j k with h | h
     ·exact HN.out j hj h
     ·obtain rfl : j = k := by omega
      rw [← HXK.out]
      exact HQ.out⟩, cn⟩
    case measure => simp [intOf]; omega
  ·obtain rfl : k = xs.length := by omega
   have hkb : decide ((xs.length : Int) < (xs.length : Int)) = false := by simp
   go_wp2
   go_ret
   exact ⟨by rw [G0 xs i (fun j hj => HN.out j hj hj)]; rfl, HB.out⟩
end Go.Proofs.Ytemhalnhbgkbcaa.V
end

