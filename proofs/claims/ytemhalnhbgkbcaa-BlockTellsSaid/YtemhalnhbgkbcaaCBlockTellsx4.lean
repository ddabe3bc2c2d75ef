/- The law BlockTells for every input: texts of ours, put together (part 5 of 16). No further condition. -/
import Derived.Test.YtemhalnhbgkbcaaCBlockTellsx2
import Derived.Test.YtemhalnhbgkbcaaCBlockTellsx3
import Derived.Outline
import Derived.WalkSpells
import Derived.Test.YtemhalnhbgkbcaaCBlockTellsw0
import Derived.Lib.SliceRun
set_option linter.unusedVariables false
set_option linter.unusedSimpArgs false
open Go.RowKit Go.Proofs.YtemhalnhbgkbcaaW.PrintWords Go.Proofs.YtemhalnhbgkbcaaW.PrintLast Go.Proofs.YtemhalnhbgkbcaaW.PrintMore Go.Proofs.Ytemhalnhbgkbcaa.Z
section
namespace Go.Proofs.Ytemhalnhbgkbcaa.V
attribute [local go_sem] ez ew fa e9 ec eb ey ev
def oZ.f (bq : ByteArray) (bz : ByteArray) : Option (Bool) := (e6.f bq).bind fun ss => (if ss = true then ((e6.f bz).bind fun mH => (some mH)) else (some false))
set_option maxHeartbeats 8000000 in
set_option maxRecDepth 100000 in
theorem oZ.calls (bq : ByteArray) (bz : ByteArray) (r : Bool) (w : World) (h : oZ.f bq bz = some r) :
  Calls Try.prog 88 #[.agg #[.string bq, .string bz]] w fun e w' => e = .returned (.bool r) ∧ Below w.heap.size w w' := by
 have Gn := Try.underlying85
 have HB := ak (Below.refl w.heap.size w)
 have H : ((e6.f bq).bind fun ss => (if ss = true then ((e6.f bz).bind fun mH => (some mH)) else (some false))) = some r := h
 clear h
 replace H := Option.bind_eq_some_iff.mp H
 obtain ⟨ss, zv, H⟩ := H
 replace H : (if ss = true then ((e6.f bz).bind fun mH => (some mH)) else (some false)) = some r := H
 have A2 := ak zv
 clear zv
 by_cases c3 : ss = true
 ·subst c3
  have H1 : ((e6.f bz).bind fun mH => (some mH)) = some r := by rw [if_pos rfl] at H; exact H
  clear H
  have H := H1
  clear H1
  replace H := Option.bind_eq_some_iff.mp H
  obtain ⟨mH, FU, H⟩ := H
  replace H : (some mH) = some r := H
  have A4 := ak FU
  clear FU
  obtain rfl := Option.some.inj H
  go_enter Try.func88, Try.ntmps88
  go_wp2_with (first | ((with_reducible refine ax (N := 1) rfl ?_); refine eX ?hg (N := 1) ?hd (cs := #[.string bq, .string bz]) (t := 85) ?hr ?_; (case hd => rfl); (case hg => rfl); (case hr => first | (go_simp; done) | (go_simp; rfl)); intro jg hg w5 hbox hb; have cA := ak (bE (by repeat (first | (with_reducible first | exact HB.out | apply al | apply af | apply aq) | exact HB.out)) hb); have cP := ak (hbox); have dh := ak ((by rw [hg]; exact (bs (by repeat (first | (with_reducible first | exact HB.out | apply al | apply af | apply aq) | exact HB.out))) : w.heap.size ≤ jg)); have dN := ak ((by rw [hg]; exact (bs (by repeat (first | (with_reducible first | exact HB.out | apply al | apply af | apply aq) | exact HB.out))) : w.heap.size ≤ jg)); clear HB; have HB := cA; have fA := cP; have KR := dh; have pP := dN; clear cA cP dh dN; clear hb hbox hg; have Bg : w5.cell? ⟨jg, 0, none⟩ = some (.string bq) := (aC fA.out 0).trans rfl; have Bf : w5.cell? ⟨jg, 1, none⟩ = some (.string bz) := (aC fA.out 1).trans rfl; have Ba := ao fA.out 0; have A6 := ao fA.out 1) | ((with_reducible refine fJ (f := 104) rfl ?_); refine kF (some 5) rfl rfl Try.func104 (by kernel_rfl) rfl #[.string bq] rfl (by (try simp only [List.map_toArray, List.map_cons, List.map_nil]); first | done | rfl | (simp only [List.length_drop, List.length_take]; rfl)) ?_; (with_reducible refine (e6.calls bq true _ A2.out).mono ?_); rintro e w7 ⟨rfl, hb⟩; refine ⟨_, rfl, ?_⟩; have cA := ak (eM (g := jg) (o := .cells #[.string bq, .string bz] 85 (0, 0)) (by (with_reducible repeat (first | refine aK ?_ _ | refine aT ?_ | refine aM ?_ _)); exact fA.out) hb); have cP := ak (bE (by repeat (first | (with_reducible first | exact HB.out | apply al | apply af | apply aq | refine aQ ?_ pP.out) | exact HB.out)) hb); clear fA; clear HB; have fA := cA; have HB := cP; clear cA cP; (try clear hb); (try clear eL); (try clear hk); (try clear hi); have Fa : w7.cell? ⟨jg, 0, none⟩ = some (.string bq) := (aC fA.out 0).trans rfl; have E9 : w7.cell? ⟨jg, 1, none⟩ = some (.string bz) := (aC fA.out 1).trans rfl; have E8 := ao fA.out 0; have E7 := ao fA.out 1) | (go_at_call 104; (with_reducible refine (e6.calls bz mH _ A4.out).mono ?_); rintro e w9 ⟨rfl, hb⟩; have cA := ak (eM (g := jg) (o := .cells #[.string bq, .string bz] 85 (0, 0)) (by (with_reducible repeat (first | refine aK ?_ _ | refine aT ?_ | refine aM ?_ _)); exact fA.out) hb); have cP := ak (bE (by repeat (first | (with_reducible first | exact HB.out | apply al | apply af | apply aq | refine aQ ?_ pP.out) | exact HB.out)) hb); clear fA; clear HB; have fA := cA; have HB := cP; clear cA cP; (try clear hb); (try clear eL); (try clear hk); (try clear hi)))
  go_ret
  exact ⟨by first | rfl | (simp [cw, ct] <;> rfl) | (simp [*, cw, ct] <;> rfl), by repeat (first | (with_reducible first | exact HB.out | apply al | apply af | apply aq | refine aQ ?_ pP.out) | exact HB.out)⟩
 ·replace c3 := Bool.eq_false_iff.mpr c3
  subst c3
  have H1 : (some false) = some r := by rw [if_neg (show ¬ (false = true) by decide)] at H; exact H
  clear H
  have H := H1
  clear H1
  obtain rfl := Option.some.inj H
  go_enter Try.func88, Try.ntmps88
  go_wp2_with (first | ((with_reducible refine ax (N := 1) rfl ?_); refine eX ?hg (N := 1) ?hd (cs := #[.string bq, .string bz]) (t := 85) ?hr ?_; (case hd => rfl); (case hg => rfl); (case hr => first | (go_simp; done) | (go_simp; rfl)); intro jg hg yT hbox hb; have cA := ak (bE (by repeat (first | (with_reducible first | exact HB.out | apply al | apply af | apply aq) | exact HB.out)) hb); have cP := ak (hbox); have dh := ak ((by rw [hg]; exact (bs (by repeat (first | (with_reducible first | exact HB.out | apply al | apply af | apply aq) | exact HB.out))) : w.heap.size ≤ jg)); have dN := ak ((by rw [hg]; exact (bs (by repeat (first | (with_reducible first | exact HB.out | apply al | apply af | apply aq) | exact HB.out))) : w.heap.size ≤ jg)); clear HB; have HB := cA; have fA := cP; have KR := dh; have pP := dN; clear cA cP dh dN; clear hb hbox hg; have Kp : yT.cell? ⟨jg, 0, none⟩ = some (.string bq) := (aC fA.out 0).trans rfl; have Ko : yT.cell? ⟨jg, 1, none⟩ = some (.string bz) := (aC fA.out 1).trans rfl; have J5 := ao fA.out 0; have J4 := ao fA.out 1) | ((with_reducible refine fJ (f := 104) rfl ?_); refine kF (some 5) rfl rfl Try.func104 (by kernel_rfl) rfl #[.string bq] rfl (by (try simp only [List.map_toArray, List.map_cons, List.map_nil]); first | done | rfl | (simp only [List.length_drop, List.length_take]; rfl)) ?_; (with_reducible refine (e6.calls bq false _ A2.out).mono ?_); rintro e CR ⟨rfl, hb⟩; refine ⟨_, rfl, ?_⟩; have cA := ak (eM (g := jg) (o := .cells #[.string bq, .string bz] 85 (0, 0)) (by (with_reducible repeat (first | refine aK ?_ _ | refine aT ?_ | refine aM ?_ _)); exact fA.out) hb); have cP := ak (bE (by repeat (first | (with_reducible first | exact HB.out | apply al | apply af | apply aq | refine aQ ?_ pP.out) | exact HB.out)) hb); clear fA; clear HB; have fA := cA; have HB := cP; clear cA cP; (try clear hb); (try clear eL); (try clear hk); (try clear hi)))
  go_ret
  exact ⟨by first | rfl | (simp [cw, ct] <;> rfl) | (simp [*, cw, ct] <;> rfl), by repeat (first | (with_reducible first | exact HB.out | apply al | apply af | apply aq | refine aQ ?_ pP.out) | exact HB.out)⟩
end Go.Proofs.Ytemhalnhbgkbcaa.V
end

section
namespace Go.Proofs.Ytemhalnhbgkbcaa.V
def eo (a : At) : Bool := fp a.f0 && fp a.f1
theorem L2 (a : At) : oZ.f a.f0 a.f1 = some (eo a) := by
 unfold oZ.f e6.f eo
 cases h : fp a.f0 <;> simp
theorem jB (a : At) (w : World) : Calls Try.prog 88 #[ej a] w fun e w' => e = .returned (.bool (eo a)) ∧ Below w.heap.size w w' := oZ.calls a.f0 a.f1 _ w (L2 a)
def gF (l : List At) (j : Nat) : At := cH l (j : Int)
def fT (l : List Int) : Nat := ua (l.map fun s => s - 1)
def kk (b : Bk) : Bool := (b.slots.all fun s => decide (s ≤ (b.attrs.length : Int))) && ((List.range b.attrs.length).all (fun j => eo (gF b.attrs j) && !((b.attrs.take j).any (sameAt (gF b.attrs j)))) && decide ((iq (fT b.slots)).length = b.attrs.length))
def ko (l : List At) : List (At × Int) := l.map fun a => (a, 1)
theorem Ai (l : List At) (a : At) : numOf (ko l) a = if l.any (sameAt a) = true then 1 else 0 := by
 unfold numOf ko
 induction l with
 | nil => rfl
 | cons x l ih =>
  rw [List.map_cons, List.find?_cons, List.any_cons]
  cases h : sameAt a x with
  | true => simp
  | false => simpa using ih
theorem F2 (l : List At) (a : At) (h : l.any (sameAt a) = false) (v : Int) : putAt (ko l) a v = ko l ++ [(a, v)] := by
 have : idxOf (ko l) a = none := by
  unfold idxOf ko
  simpa using h
 unfold putAt
 rw [this]
theorem Cv (l : List At) : (ko l).length = l.length := by simp [ko]
theorem kI (l : List At) (j : Nat) (h : j < l.length) : gF l j = l[j] := by simp [gF, cH, List.getD, h]
theorem uU (l : List At) (j : Nat) (h : j < l.length) : l.take (j + 1) = l.take j ++ [gF l j] := by
 rw [List.take_add_one, List.getElem?_eq_getElem h, kI l j h]
 rfl
def nn.T13 : Bool × List (List Nat × List Nat) := (true, [([], []), ([], []), ([0, 1], [0, 1]), ([2], [2]), ([0, 1, 0, 1], [0, 1]), ([4], [4]), ([0, 5, 3, 4, 0, 1, 2, 3, 4, 5], [0, 3, 5])])
def nn.B13 : List Nat := [0, 0, 3, 7, 3, 19, 63]
theorem nn.tab13 : dC .any (opsOf Try.f86 13) = nn.T13 := by kernel_rfl
theorem nn.bits13 : cU nn.T13.2 nn.B13 = true := by kernel_rfl
def nm.T17 : Bool × List (List Nat × List Nat) := (true, [([], []), ([0], [0]), ([], []), ([2], [2]), ([3], [3]), ([1, 4], [1, 4]), ([5, 1, 0, 1, 2, 3, 4, 5], [5])])
def nm.B17 : List Nat := [0, 1, 0, 4, 12, 31, 63]
theorem nm.tab17 : dC .any (opsOf Try.f86 17) = nm.T17 := by kernel_rfl
theorem nm.bits17 : cU nm.T17.2 nm.B17 = true := by kernel_rfl
set_option maxHeartbeats 4000000 in
set_option maxRecDepth 100000 in
theorem zp (b : Bk) (hs : nE b.slots) (hn : b.attrs.length ≤ 64) (v : Value) (w : World) (h : fS w v b) :
  Calls Try.prog 86 #[v] w fun e w' => e = .returned (.bool (kk b)) ∧ Below w.heap.size w w' := by
 obtain ⟨A, c, A', c', rfl, hr⟩ := h
 have hl := hr.l64
 have HR := ak hr
 have HS := ak hs
 have HL := ak hl
 have hmm := @run_makeMap Try.prog
 have hlen : (Try.prog.info? 47).map (·.size) = some (b.slots.map (Value.int .u8)).length := by rw [List.length_map, hl]; kernel_rfl
 have HLN := ak hlen
 clear hr hs hl hlen
 go_enter Try.func86, Try.ntmps86
 go_wp2_with (first
  | (refine aE rfl 57 (.tmp 0) rfl _ rfl ?_; intro g W1 hg hbx cy; have HX := ak hbx; have HB := ak cy; have HG := ak hg; have HRR := ak (HR.out.below cy); have nz := hbx.cell 67 _ (fi _ _ _ _ _ HL.out); clear hbx cy hg HR)
  | (refine eQ rfl 47 (.tmp 10) rfl g 2 rfl 57 _ (b.slots.map (Value.int .u8)) (.array 64 5) (HX.out.alloc _) (kv _ _ _ _ _ HL.out) Try.underlying47 rfl HLN.out ?_))
 have HM := ak (show gG (W1.alloc (.map #[] 0)) W1.heap.size [] from heap_alloc_new W1 _)
 have gl := ak (HX.out.alloc (.map #[] 0))
 have uD := ak (al (Below.refl W1.heap.size W1) (.map #[] 0))
 have HLT := ak HX.out.lt
 have Ci := ak (show w.heap.size ≤ W1.heap.size from HB.out.size)
 have ij := HX
 have cn := HB
 have mu := HRR
 have HGM := ak (Eq.refl W1.heap.size)
 clear HX HB HRR nz hmm
 generalize W1.alloc (Obj.map #[] 0) = W2 at HM gl uD ⊢
 generalize hgm : W1.heap.size = gm at HM Ci HLT uD HGM ⊢
 have HGE := ak hgm
 clear hgm HGM
 have nz := gl.out.cell 67 _ (fi _ _ _ _ _ HL.out)
 go_loopw [4, 6, 12] (fun s _ i W => ∃ k nd : Nat, k ≤ 64 ∧ W = W2.drewN nd ∧ i = .int .i64 k ∧ s = .int .u64 ((fT (b.slots.take k) : Nat) : Int) ∧ Aside0 (∀ j, j < k → rd b.slots (j : Int) ≤ (b.attrs.length : Int))) (fun _ _ i _ => 64 - (intOf i).toNat)
 case atStart => exact ⟨0, 0, by omega, rfl, rfl, rfl, ⟨fun j hj => by omega⟩⟩
 case round =>
  obtain ⟨k, nd, hk, rfl, rfl, rfl, HJ⟩ := hrel
  by_cases ni : k < 64
  ·have hkb : decide ((k : Int) < 64) = true := by simp; omega
   have hkl : k < b.slots.length := by have := HL.out; omega
   obtain ⟨m, hm⟩ : ∃ m : Nat, rd b.slots k = (m : Int) := ⟨(rd b.slots k).toNat, by have := (mP HS.out k).1; omega⟩
   have sS : m < 256 := by have := (mP HS.out k).2; omega
   have hix := fun w => nh b.slots HL.out k ni w
   have E6 : b.slots.getD k 0 = (m : Int) := by rw [← hm]; simp [rd]
   rw [E6] at hix
   by_cases hbig : m ≤ b.attrs.length
   ·have hgb : decide (b.attrs.length < m) = false := by simp; omega
    have HU := ak (show lB (fT (b.slots.take k)) ((m : Int) - 1) = fT (b.slots.take (k + 1)) by
     unfold fT ua
     rw [List.take_add_one, List.map_append, List.foldl_append, List.getElem?_eq_getElem hkl]
     have : b.slots[k] = (m : Int) := by rw [← E6]; simp [List.getD, List.getElem?_eq_getElem hkl]
     rw [this]
     rfl)
    have zt := ak (show ∀ j, j < k + 1 → rd b.slots (j : Int) ≤ (b.attrs.length : Int) from fun j hj => by
     by_cases h : j < k
     ·exact HJ.out j h
     ·obtain rfl : j = k := by omega
      rw [hm]
      omega)
    clear hm E6
    go_wp2_with (go_at_call 21; refine (vN (fT (b.slots.take k)) (oT _) _ _).mono ?_; rintro e w' ⟨rfl, ⟨Lg, rfl⟩⟩; rw [HU.out])
    go_roundw
    case rel => exact ⟨k + 1, nd + Lg, by omega, by simp, by go_num, rfl, zt⟩
    case measure => simp [intOf]; omega
   ·have hgb : decide (b.attrs.length < m) = true := by simp; omega
    have HV := ak (show kk b = false by
     unfold kk
     rw [Bool.and_eq_false_iff]
     left
     rw [List.all_eq_false]
     refine ⟨b.slots[k], List.getElem_mem _, ?_⟩
     have : b.slots[k] = (m : Int) := by rw [← E6]; simp [List.getD, List.getElem?_eq_getElem hkl]
     rw [this]
     simp
     omega)
    clear hm E6
    go_wp2
    go_ret
    exact ⟨by rw [HV.out]; rfl, by apply af; exact cn.out.trans (uD.out.mono Ci.out)⟩
  ·obtain rfl : k = 64 := by omega
   rw [show ((64 : Nat) : Int) = (64 : Int) from rfl]
   have hkb : decide ((64 : Int) < 64) = false := by decide
   have HT := ak (show b.slots.take 64 = b.slots from List.take_of_length_le (by have := HL.out; omega))
   have HA := ak (show (b.slots.all fun s => decide (s ≤ (b.attrs.length : Int))) = true by
    rw [List.all_eq_true]
    intro s hs
    obtain ⟨j, hj, rfl⟩ := List.getElem_of_mem hs
    have := HJ.out j (by have := HL.out; omega)
    simpa [rd, List.getD, hj] using this)
   go_wp2_with fail
   go_loopw [8, 30] (fun _ i W => ∃ k : Nat, k ≤ b.attrs.length ∧ i = .int .i64 k ∧ Aside0 (gG W gm (ko (b.attrs.take k))) ∧ Aside0 (Below gm W1 W) ∧ Aside0 (∀ j, j < k → eo (gF b.attrs j) = true ∧ (b.attrs.take j).any (sameAt (gF b.attrs j)) = false)) (fun _ i _ => b.attrs.length - (intOf i).toNat)
   case atStart => exact ⟨0, by omega, rfl, HM, ⟨by apply af; exact uD.out⟩, ⟨fun j hj => by omega⟩⟩
   case round =>
    clear HM gl nz HJ uD
    obtain ⟨k, hk, rfl, HM, HZ, HJ⟩ := hrel
    obtain ⟨W, rfl⟩ : ∃ W : World, W = wr := ⟨_, rfl⟩
    have HR := ak (mu.out.below (by rw [HGE.out]; exact HZ.out))
    by_cases hkn : k < b.attrs.length
    ·have hkb : decide ((k : Int) < (b.attrs.length : Int)) = true := by simp; omega
     obtain ⟨ad, eA, fF, jf⟩ := kH HR.out.ar k (by omega) (by omega)
     cases eA
     rw [Int.toNat_natCast] at fF jf
     have p1 : ((k : Int) < (b.attrs.length : Int)) = True := eq_true (by omega)
     obtain ⟨a, ha⟩ : ∃ a : At, gF b.attrs k = a := ⟨_, rfl⟩
     have ha' : cH b.attrs (k : Int) = a := ha
     rw [ha'] at fF jf
     have j4 := ak ha
     have HK := ak (show (ko (b.attrs.take (k + 1))) = ko (b.attrs.take k) ++ [(a, 1)] by
      unfold ko
      rw [uU _ _ hkn, ha]
      simp)
     have hbad : (eo a = false ∨ (b.attrs.take k).any (sameAt a) = true) → kk b = false := fun h => by
      unfold kk
      rw [HA.out, Bool.true_and, Bool.and_eq_false_iff]
      left
      rw [List.all_eq_false]
      refine ⟨k, by simpa using hkn, ?_⟩
      rw [ha]
      rcases h with h | h <;> rw [h] <;> simp
     have HBAD := ak hbad
     have zt := ak (show eo a = true → (b.attrs.take k).any (sameAt a) = false → ∀ j, j < k + 1 → eo (gF b.attrs j) = true ∧ (b.attrs.take j).any (sameAt (gF b.attrs j)) = false from fun h1 h2 j hj => by
      by_cases hjk : j < k
      ·exact HJ.out j hjk
      ·obtain rfl : j = k := by omega
       rw [ha]
       exact ⟨h1, h2⟩)
     clear ha ha' hbad
     go_wp2_with (first
      | (refine aw (some 8) rfl rfl 85 rfl [.string ⟨#[]⟩, .string ⟨#[]⟩] (fun _ => by kernel_rfl) ?_; intro ga W3 hga jL Gx)
      | (refine aN rfl 85 (.tmp 8) (.tmp 33) rfl ga [.string a.f0, .string a.f1] rfl rfl 85 _ jL 2 (by kernel_rfl) rfl rfl (by intro u hu; simp at hu; rcases hu with rfl | rfl <;> rfl) ?_; intro W4 ob Ly))
     have r8 := ak ob
     have OY := jL.lt
     have hbW : Below W.heap.size W W4 := Gx.grown Ly Gx.size (fun q hq => by cases hq; exact hga)
     have Mj := ak (show gG W4 gm (ko (b.attrs.take k)) from (hbW.block gm (Array.getElem?_eq_some_iff.1 HM.out).1).trans HM.out)
     have HGW := ak (show gm ≤ W.heap.size from by have := (Array.getElem?_eq_some_iff.1 HM.out).1; omega)
     have o6 := ak (HZ.out.trans (hbW.mono HGW.out))
     have HGA := ak (show gm ≠ ga by have := (Array.getElem?_eq_some_iff.1 HM.out).1; omega)
     have HLK := ak (show (ko (b.attrs.take k)).length < 1000 by rw [Cv, List.length_take]; omega)
     have HGS := ak (show gm ≤ W4.heap.size from Nat.le_trans HGW.out hbW.size)
     clear HM HR HZ jL ob hga Gx Ly hbW OY fF jf
     obtain ⟨n, lP⟩ : ∃ n : Nat, numOf (ko (b.attrs.take k)) a = (n : Int) := by
      rw [Ai]
      split
      ·exact ⟨1, rfl⟩
      ·exact ⟨0, rfl⟩
     have Cg := ak lP
     have xp := ak (show (n = 1 ∧ (b.attrs.take k).any (sameAt a) = true) ∨ (n = 0 ∧ (b.attrs.take k).any (sameAt a) = false) by
      rw [Ai] at lP
      split at lP
      ·rename_i h; exact .inl ⟨by omega, h⟩
      ·rename_i h; exact .inr ⟨by omega, by simpa using h⟩)
     clear lP
     refine cW (n := 7) (S := fun w' => w'.cell? ⟨ga, 0, none⟩ = some (.string a.f0) ∧ w'.cell? ⟨ga, 1, none⟩ = some (.string a.f1) ∧ ∃ L1, gG w' gm L1 ∧ numOf L1 a = (n : Int)) (ds := [6]) #[false, false, false, false, false, false, false] (by kernel_rfl) rfl rfl ⟨r8.out.cell 0 _ rfl, r8.out.cell 1 _ rfl, _, Mj.out, Cg.out⟩ (fun hHeld => ?_); refine bK nn.tab13 nn.bits13 (fun ab bj => ?_)
     refine pu 0 ab.out ?_
     refine tk 1 ab.out bj.out hHeld ?_ (hv := by intro w' aU; obtain ⟨s0, s1, s2⟩ := aU; go_simp; with_reducible rfl)
     refine tk 2 ab.out bj.out hHeld ?_ (hv := by intro w' aU; obtain ⟨s0, s1, L1, s2, s3⟩ := aU; have hlk := qk _ _ _ s2 a; rw [s3] at hlk; simp only [ej] at hlk; go_simp; with_reducible rfl)
     refine pu 3 ab.out ?_
     refine on 4 ab.out (fun K hK => ?_)
     obtain ⟨W6, W7, jj, Bd, Fc, Hl, E4, ql, zi⟩ := zl W4.drew gm _ Mj.out HLK.out a (wrap64 ((n : Int) + 1)); rw [Cg.out] at Bd; simp only [ej] at Bd
     refine th (v := .tuple #[.int .i64 (n : Int), .int .i64 jj]) (w1 := W6) (by rfl) ?_ ?_
     ·go_simp
      try rfl
     refine kn hK ⟨(zi _ HGA.out.symm).trans (r8.out.cell 0 _ rfl), (zi _ HGA.out.symm).trans (r8.out.cell 1 _ rfl), by obtain ⟨L1, h1, h2⟩ := Fc; exact ⟨L1, h1, h2.trans Cg.out⟩⟩ (fun hHeld => ?_)
     clear hK K
     refine pu 5 ab.out ?_
     refine pr (i := 6) (N := none) #[true, true, true, true, true, true, true] rfl rfl (lL ab.out (by kernel_rfl)) (by decide) (fun K hK => ?_)
     refine oA (w1 := ?_) (by rfl) rfl ?_ ?_
     rotate_left
     ·go_simp
      rfl
     refine hK.out _ _ ?_
     clear hK K
     refine dn ab.out ?_
     have vM := ak (show aH W7 ga [.string a.f0, .string a.f1] 85 from (show aH W4.drew ga _ _ from r8.out).grown ql (fun e => HGA.out (Option.some.inj e).symm))
     have xv := ak E4
     have FD := ak ((show Below gm W1 W4.drew from bo o6.out).grown ql HGS.out (fun q hq => by cases hq; exact Nat.le_refl _))
     have FO := ak (show gm ≤ W7.heap.size from Nat.le_trans HGS.out ql.size)
     clear E4 ql zi Bd Hl Fc r8 Mj o6 hHeld
     have Hc := vM.out.cell 0 _ rfl
     have AT := vM.out.cell 1 _ rfl
     cases hmy : eo a with
     | false =>
      have HV := ak (HBAD.out (.inl hmy))
      have HMY := ak hmy
      clear hmy
      go_wp2_with (go_at_call 88; refine (jB a _).mono ?_; rintro e W8 ⟨rfl, pg⟩; rw [HMY.out])
      go_ret
      exact ⟨by rw [HV.out]; rfl, cn.out.trans ((FD.out.trans (pg.mono FO.out)).mono Ci.out)⟩
     | true =>
      have HMY := ak hmy
      clear hmy
      rcases xp.out with ⟨pf, zf⟩ | ⟨pf, zf⟩
      ·have HV := ak (HBAD.out (.inr zf))
       have Jl := ak (show wrap64 ((n : Int) + 1) = 2 by rw [pf]; unfold wrap64; omega)
       clear pf zf
       go_wp2_with (first | (go_at_call 88; refine (jB a _).mono ?_; rintro e W8 ⟨rfl, pg⟩; rw [HMY.out]; have L9 := ak (FD.out.trans (pg.mono FO.out)); have OT := (vM.out.below pg).cell 0 _ rfl; have OS := (vM.out.below pg).cell 1 _ rfl; have FM := ak (show gG W8 gm _ from (pg.block gm (Array.getElem?_eq_some_iff.1 xv.out).1).trans xv.out); have hlk := qk _ _ _ FM.out a; rw [ub, Jl.out] at hlk; simp only [ej] at hlk; clear pg vM xv FD Hc AT))
       go_ret
       exact ⟨by rw [HV.out]; rfl, cn.out.trans (L9.out.mono Ci.out)⟩
      ·have Jl := ak (show wrap64 ((n : Int) + 1) = 1 by rw [pf]; unfold wrap64; omega)
       have OF := ak (zt.out HMY.out zf)
       have HPU := ak (show putAt (ko (b.attrs.take k)) a (wrap64 ((n : Int) + 1)) = ko (b.attrs.take (k + 1)) by rw [Jl.out, F2 _ _ zf, HK.out])
       clear pf zf
       go_wp2_with (first | (go_at_call 88; refine (jB a _).mono ?_; rintro e W8 ⟨rfl, pg⟩; rw [HMY.out]; have L9 := ak (FD.out.trans (pg.mono FO.out)); have OT := (vM.out.below pg).cell 0 _ rfl; have OS := (vM.out.below pg).cell 1 _ rfl; have FM := ak (show gG W8 gm _ from (pg.block gm (Array.getElem?_eq_some_iff.1 xv.out).1).trans xv.out); have hlk := qk _ _ _ FM.out a; rw [ub, Jl.out] at hlk; simp only [ej] at hlk; clear pg vM xv FD Hc AT))
       rw [HPU.out] at FM
       go_roundw
       case rel => exact ⟨k + 1, by omega, by go_num, FM, L9, OF⟩
       case measure => simp [intOf]; omega
    ·obtain rfl : k = b.attrs.length := by omega
     have hkb : decide ((b.attrs.length : Int) < (b.attrs.length : Int)) = false := by simp
     have HAA := ak (show (List.range b.attrs.length).all (fun j => eo (gF b.attrs j) && !((b.attrs.take j).any (sameAt (gF b.attrs j)))) = true by
      rw [List.all_eq_true]
      intro j hj
      obtain ⟨h1, h2⟩ := HJ.out j (by simpa using hj)
      rw [h1, h2]
      rfl)
     have HV := ak (show kk b = decide ((iq (fT b.slots)).length = b.attrs.length) by
      unfold kk
      rw [HA.out, HAA.out, Bool.true_and, Bool.true_and])
     have HXW := ak (ij.out.below (by rw [HGE.out]; exact HZ.out))
     have nz := HXW.out.cell 67 _ (fi _ _ _ _ _ HL.out)
     rw [HT.out]
     go_wp2_with fail
     refine cW (n := 7) (S := fun w' => w'.cell? ⟨g, 67, none⟩ = some (Value.slice A' b.attrs.length c')) (ds := []) #[false, false, false, false, false, false, false] (by kernel_rfl) rfl rfl nz (fun hHeld => ?_); refine bK nm.tab17 nm.bits17 (fun ab bj => ?_)
     refine pu 0 ab.out ?_
     refine pu 2 ab.out ?_
     refine tk 3 ab.out bj.out hHeld ?_
     refine pu 4 ab.out ?_
     refine on 1 ab.out (fun K hK => ?_)
     refine gs Try.func27 #[.int .u64 ((fT b.slots : Nat) : Int)] (JL (fT b.slots) (oT _) _) ?_
     rintro e W9 ⟨rfl, ⟨Uh, rfl⟩⟩
     refine ⟨_, rfl, ?_⟩
     refine kn hK hHeld (fun hHeld => ?_)
     clear hK K
     refine pu 5 ab.out ?_
     refine pu 6 ab.out ?_
     refine dn ab.out ?_
     try go_wp2
     go_ret
     refine ⟨?_, by apply af; exact aq (cn.out.trans (HZ.out.mono Ci.out))⟩
     rw [HV.out]
     show Ending.returned (Value.bool ((((iq (fT b.slots)).length : Nat) : Int) == ((b.attrs.length : Nat) : Int))) = _
     congr 2
     rw [Bool.eq_iff_iff, beq_iff_eq, decide_eq_true_eq]
     exact Int.ofNat_inj
end Go.Proofs.Ytemhalnhbgkbcaa.V
end

section
namespace Go.Proofs.Ytemhalnhbgkbcaa.V
attribute [local go_sem] ez ew fa e9 ec eb ey ev
def nk.f (a0 : Int) : Option (Int) := some ((IntKind.u64.wrap (4294967296 - (IntKind.u64.wrap (2 ^ (32 - (mn (mx a0 0) 32)).toNat)))) % 4294967296)
set_option maxHeartbeats 8000000 in
set_option maxRecDepth 100000 in
theorem nk.calls (a0 : Int) (r : Int) (w : World) (h : nk.f a0 = some r) :
  Calls Try.prog 105 #[.int .i64 a0] w fun e w' => e = .returned (.int .u32 r) ∧ Below w.heap.size w w' := by
 have HB := ak (Below.refl w.heap.size w)
 have H : (some ((IntKind.u64.wrap (4294967296 - (IntKind.u64.wrap (2 ^ (32 - (mn (mx a0 0) 32)).toNat)))) % 4294967296)) = some r := h
 clear h
 obtain ⟨AQ, AY⟩ : ∃ j_ : Int, (mx a0 0) = j_ := ⟨_, rfl⟩
 replace H : (some ((IntKind.u64.wrap (4294967296 - (IntKind.u64.wrap (2 ^ (32 - (mn (AQ) 32)).toNat)))) % 4294967296)) = some r := by first | (rw [AY] at H; exact H) | (simp only [AY] at H ⊢; exact H)
 (try (have Tz : 0 ≤ AQ := by (rw [← AY]; unfold mx; (repeat' split) <;> omega)))
 (try (have Ty : 0 ≤ AQ := by omega))
 have TA : (if a0 < 0 then 0 else a0) = AQ := AY
 obtain ⟨y9, sk⟩ : ∃ j_ : Int, (mn (AQ) 32) = j_ := ⟨_, rfl⟩
 replace H : (some ((IntKind.u64.wrap (4294967296 - (IntKind.u64.wrap (2 ^ (32 - (y9)).toNat)))) % 4294967296)) = some r := by first | (rw [sk] at H; exact H) | (simp only [sk] at H ⊢; exact H)
 have Hi : (if 32 < (AQ) then 32 else (AQ)) = y9 := sk
 obtain rfl := Option.some.inj H
 go_enter Try.func105, Try.ntmps105
 go_wp2
 go_ret
 exact ⟨by first | rfl | (simp [cw, ct] <;> rfl) | (simp only [← AY, ← sk]; first | rfl | (simp [cw, ct] <;> rfl)) | (simp [*, cw, ct] <;> rfl), by repeat (first | (with_reducible first | exact HB.out | apply al | apply af | apply aq) | exact HB.out)⟩
end Go.Proofs.Ytemhalnhbgkbcaa.V
end

section
namespace Go.Proofs.Ytemhalnhbgkbcaa.V
attribute [local go_sem] ez ew fa e9 ec eb ey ev
def gi.f (a0 : Int) : Option (Int) := (nk.f 26).bind fun su => (some (Go.bits .and .u32 a0 su))
set_option maxHeartbeats 8000000 in
set_option maxRecDepth 100000 in
theorem gi.calls (a0 : Int) (r : Int) (w : World) (h : gi.f a0 = some r) :
  Calls Try.prog 80 #[.int .u32 a0] w fun e w' => e = .returned (.int .u32 r) ∧ Below w.heap.size w w' := by
 have HB := ak (Below.refl w.heap.size w)
 have H : ((nk.f 26).bind fun su => (some (Go.bits .and .u32 a0 su))) = some r := h
 clear h
 replace H := Option.bind_eq_some_iff.mp H
 obtain ⟨su, zv, H⟩ := H
 replace H : (some (Go.bits .and .u32 a0 su)) = some r := H
 have A2 := ak zv
 clear zv
 obtain rfl := Option.some.inj H
 go_enter Try.func80, Try.ntmps80
 go_wp2_with (first | ((with_reducible refine fJ (f := 105) rfl ?_); refine kF (some 4) rfl rfl Try.func105 (by kernel_rfl) rfl #[.int .i64 26] rfl (by (try simp only [List.map_toArray, List.map_cons, List.map_nil]); first | done | rfl | (simp only [List.length_drop, List.length_take]; rfl)) ?_; (with_reducible refine (nk.calls 26 su _ A2.out).mono ?_); rintro e w3 ⟨rfl, hb⟩; refine ⟨_, rfl, ?_⟩; have cA := ak (bE (by repeat (first | (with_reducible first | exact HB.out | apply al | apply af | apply aq) | exact HB.out)) hb); clear HB; have HB := cA; clear cA; (try clear hb); (try clear eL); (try clear hk); (try clear hi)))
 go_ret
 exact ⟨by first | rfl | (simp [cw, ct] <;> rfl) | (simp [*, cw, ct] <;> rfl), by repeat (first | (with_reducible first | exact HB.out | apply al | apply af | apply aq) | exact HB.out)⟩
end Go.Proofs.Ytemhalnhbgkbcaa.V
end

section
namespace Go.Proofs.Ytemhalnhbgkbcaa.V
attribute [local go_sem] ez ew fa e9 ec eb ey ev
def gh.f (a0 : ByteArray) : Option (Bool) := if a0.toList = ([] : List UInt8) then (some true) else ((e6.f a0).bind fun sv => (some sv))
set_option maxHeartbeats 8000000 in
set_option maxRecDepth 100000 in
theorem gh.calls (a0 : ByteArray) (r : Bool) (w : World) (h : gh.f a0 = some r) :
  Calls Try.prog 79 #[.string a0] w fun e w' => e = .returned (.bool r) ∧ Below w.heap.size w w' := by
 have HB := ak (Below.refl w.heap.size w)
 have H : (if a0.toList = ([] : List UInt8) then (some true) else ((e6.f a0).bind fun sv => (some sv))) = some r := h
 clear h
 by_cases c2 : a0.toList = ([] : List UInt8)
 ·rw [if_pos c2] at H
  have sm : (a0.toList == ([] : List UInt8)) = true := beq_iff_eq.mpr c2
  have yJ : (a0.toList != ([] : List UInt8)) = false := bne_eq_false_iff_eq.mpr c2
  clear c2
  obtain rfl := Option.some.inj H
  go_enter Try.func79, Try.ntmps79
  go_wp2
  go_ret
  exact ⟨by first | rfl | (simp [cw, ct] <;> rfl) | (simp [*, cw, ct] <;> rfl), by repeat (first | (with_reducible first | exact HB.out | apply al | apply af | apply aq) | exact HB.out)⟩
 ·rw [if_neg c2] at H
  have sm : (a0.toList == ([] : List UInt8)) = false := beq_eq_false_iff_ne.mpr c2
  have yJ : (a0.toList != ([] : List UInt8)) = true := bne_iff_ne.mpr c2
  replace H := Option.bind_eq_some_iff.mp H
  obtain ⟨sv, r9, H⟩ := H
  replace H : (some sv) = some r := H
  have A3 := ak r9
  clear r9
  obtain rfl := Option.some.inj H
  go_enter Try.func79, Try.ntmps79
  go_wp2_with (first | (go_at_call 104; (with_reducible refine (e6.calls a0 sv _ A3.out).mono ?_); rintro e w4 ⟨rfl, hb⟩; have cA := ak (bE (by repeat (first | (with_reducible first | exact HB.out | apply al | apply af | apply aq) | exact HB.out)) hb); clear HB; have HB := cA; clear cA; (try clear hb); (try clear eL); (try clear hk); (try clear hi)))
  go_ret
  exact ⟨by first | rfl | (simp [cw, ct] <;> rfl) | (simp [*, cw, ct] <;> rfl), by repeat (first | (with_reducible first | exact HB.out | apply al | apply af | apply aq) | exact HB.out)⟩
end Go.Proofs.Ytemhalnhbgkbcaa.V
end

section
namespace Go.Proofs.Ytemhalnhbgkbcaa.V
structure BkOk (b : Bk) : Prop where
 a0 : 0 ≤ b.addr
 a1 : b.addr < 4294967296
 s8 : nE b.slots
 f8 : nE b.free
def bV (a : Int) : Int := a - a % 64
theorem GQ (n : Nat) : n &&& 4294967232 = n % 4294967296 - n % 64 := by
 have h1 : n &&& 4294967232 = (n % 4294967296) &&& 4294967232 := by
  apply Nat.eq_of_testBit_eq
  intro i
  rw [Nat.testBit_and, Nat.testBit_and, show (4294967296 : Nat) = 2 ^ 32 from rfl, Nat.testBit_mod_two_pow]
  by_cases h : i < 32
  ·simp [h]
  ·have : (4294967232 : Nat).testBit i = false := Nat.testBit_lt_two_pow (Nat.lt_of_lt_of_le (show (4294967232 : Nat) < 2 ^ 32 by decide) (Nat.pow_le_pow_right (by omega) (by omega)))
   rw [this]
   simp
 have h2 : (n % 4294967296) &&& 4294967232 = (n % 4294967296) / 64 * 64 := by
  apply Nat.eq_of_testBit_eq
  intro i
  rw [Nat.testBit_and, show (64 : Nat) = 2 ^ 6 from rfl, Nat.testBit_mul_two_pow, Nat.testBit_div_two_pow]
  rw [show (4294967232 : Nat) = 67108863 * 2 ^ 6 from rfl, Nat.testBit_mul_two_pow, show (67108863 : Nat) = 2 ^ 26 - 1 from rfl, Nat.testBit_two_pow_sub_one]
  by_cases h6 : 6 ≤ i
  ·by_cases Ut : i < 32
   ·have e : 6 + (i - 6) = i := by omega
    simp [h6, show i - 6 < 26 by omega, e]
   ·have : (n % 4294967296).testBit i = false := Nat.testBit_lt_two_pow (Nat.lt_of_lt_of_le (Nat.mod_lt _ (by decide)) (Nat.pow_le_pow_right (n := 2) (by omega) (show 32 ≤ i by omega)))
    simp [this, h6, show ¬ (i - 6 < 26) by omega]
  ·simp [h6]
 rw [h1, h2]
 omega
theorem yF (a : Int) (h0 : 0 ≤ a) (h1 : a < 4294967296) : gi.f a = some (bV a) := by
 obtain ⟨n, rfl⟩ : ∃ n : Nat, a = (n : Int) := ⟨a.toNat, by omega⟩
 unfold gi.f bV
 rw [show nk.f 26 = some ((4294967232 : Nat) : Int) from rfl, Option.bind_some]
 congr 1
 rw [u32_and_nat n 4294967232 (by omega) (by omega), GQ]
 omega
def fW (s : ByteArray) : Bool := decide (s.toList = []) || fp s
theorem yv (s : ByteArray) : gh.f s = some (fW s) := by
 unfold gh.f e6.f fW
 by_cases h : s.toList = []
 ·rw [if_pos h]; simp [h]
 ·rw [if_neg h]; simp [h]
def dm (b : Bk) : Bool := (bV b.addr == b.addr) && (fW b.aff && (decide (b.attrs.length ≤ 64) && (kk b && kt b)))
def iy.T1 : Bool × List (List Nat × List Nat) := (true, [([], []), ([0], [0]), ([1], [1]), ([], []), ([3], [3]), ([2, 4], [2, 4]), ([5, 2], [5]), ([6], [6]), ([7, 6], [6, 7]), ([8, 6, 6], [6, 8]), ([6, 9], [6, 9]), ([10, 9], [10]), ([11], [11]), ([12, 11], [11, 12]), ([13, 11], [11, 13]), ([14, 11], [11, 14]), ([11, 15], [11, 15]), ([16, 11], [16]), ([17], [17]), ([18, 17, 17], [17, 18]), ([17, 19], [17, 19]), ([20, 19], [20]), ([21], [21]), ([22, 21, 21], [21, 22]), ([21, 23], [21, 23]), ([24, 23, 0, 1, 2, 3, 4, 5, 6, 7, 8, 9, 10, 11, 12, 13, 14, 15, 16, 17, 18, 19, 20, 21, 22, 23, 24], [24])])
def iy.B1 : List Nat := [0, 1, 3, 0, 8, 31, 63, 127, 255, 511, 1023, 2047, 4095, 8191, 16383, 32767, 65535, 131071, 262143, 524287, 1048575, 2097151, 4194303, 8388607, 16777215, 33554431]
theorem iy.tab1 : dC .any (opsOf Try.f48 1) = iy.T1 := by kernel_rfl
theorem iy.bits1 : cU iy.T1.2 iy.B1 = true := by kernel_rfl
set_option maxHeartbeats 8000000 in
set_option maxRecDepth 100000 in
theorem dH (b : Bk) (hk : BkOk b) (v : Value) (w : World) (h : fS w v b) :
  Calls Try.prog 48 #[v] w fun e w' => e = .returned (.bool (dm b)) ∧ Below w.heap.size w w' := by
 obtain ⟨A, c, A', c', rfl, hr⟩ := h
 have HL := ak hr.l64
 have HR := ak hr
 have HS := ak hk.s8
 have HF := ak hk.f8
 have jK := ak (yF b.addr hk.a0 hk.a1)
 have kN := ak (yv b.aff)
 have HLL := ak (show (Try.prog.info? 57).map (·.size) = some (aZ b.addr b.aff b.slots (.slice A b.free.length c) (.slice A' b.attrs.length c')).length by rw [ag _ _ _ _ _ hr.l64]; kernel_rfl)
 clear hr hk
 go_enter Try.func48, Try.ntmps48
 go_wp2_with (refine aE rfl 57 (.tmp 0) rfl _ rfl ?_; intro g W1 hg hbx cy; have HX := ak (show aH W1.drew g _ _ from hbx); have HB := ak (bo cy); have mu := ak ((HR.out.below cy).below (bo (Below.refl W1.heap.size W1))); have HZ := ak (Below.refl W1.drew.heap.size W1.drew); clear hbx cy hg HR)
 cases h1 : (bV b.addr == b.addr) with
 | false =>
  have HV := ak (show dm b = false by unfold dm; rw [h1]; rfl)
  refine cW (n := 26) (S := fun w' => aH w' g (aZ b.addr b.aff b.slots (.slice A b.free.length c) (.slice A' b.attrs.length c')) 57) (ds := []) #[false, false, false, false, false, false, false, false, false, false, false, false, false, false, false, false, false, false, false, false, false, false, false, false, false, false] (by kernel_rfl) rfl rfl HX.out (fun hHeld => ?_); refine bK iy.tab1 iy.bits1 (fun ab bj => ?_)
  refine pu 0 ab.out ?_
  refine tk 1 ab.out bj.out hHeld ?_ (hv := by intro w' aU; have s0 := aU.cell 0 _ rfl; go_simp; with_reducible rfl)
  refine pu 3 ab.out ?_
  refine tk 4 ab.out bj.out hHeld ?_ (hv := by intro w' aU; have s0 := aU.cell 0 _ rfl; go_simp; with_reducible rfl)
  refine on 2 ab.out (fun K hK => ?_)
  refine gs Try.func80 #[.int .u32 b.addr] (gi.calls _ _ _ jK.out) ?_
  rintro e V2 ⟨rfl, hb⟩
  refine ⟨_, rfl, ?_⟩
  have HXn := hHeld.below hb; have HZn := ak (bE HZ.out hb); clear HZ; have HZ := HZn; clear HZn hb
  refine kn hK HXn (fun hHeld => ?_)
  clear hK K
  refine pu 5 ab.out ?_
  refine pu 6 ab.out ?_
  refine po 7 ab.out ?_
  refine po 8 ab.out ?_
  refine po 9 ab.out ?_
  refine pu 10 ab.out ?_
  refine pu 11 ab.out ?_
  refine po 12 ab.out ?_
  refine po 13 ab.out ?_
  refine po 14 ab.out ?_
  refine po 15 ab.out ?_
  refine pu 16 ab.out ?_
  refine pu 17 ab.out ?_
  refine po 18 ab.out ?_
  refine po 19 ab.out ?_
  refine pu 20 ab.out ?_
  refine pu 21 ab.out ?_
  refine po 22 ab.out ?_
  refine po 23 ab.out ?_
  refine pu 24 ab.out ?_
  refine pu 25 ab.out ?_
  refine dn ab.out ?_
  try go_wp2
  go_ret
  refine ⟨?_, HB.out.trans (HZ.out.mono HB.out.size)⟩
  rw [HV.out]; rfl
 | true =>
  cases h2 : fW b.aff with
  | false =>
   have HV := ak (show dm b = false by unfold dm; rw [h1, h2]; rfl)
   rw [h2] at kN
   refine cW (n := 26) (S := fun w' => aH w' g (aZ b.addr b.aff b.slots (.slice A b.free.length c) (.slice A' b.attrs.length c')) 57) (ds := []) #[false, false, false, false, false, false, false, false, false, false, false, false, false, false, false, false, false, false, false, false, false, false, false, false, false, false] (by kernel_rfl) rfl rfl HX.out (fun hHeld => ?_); refine bK iy.tab1 iy.bits1 (fun ab bj => ?_)
   refine pu 0 ab.out ?_
   refine tk 1 ab.out bj.out hHeld ?_ (hv := by intro w' aU; have s0 := aU.cell 0 _ rfl; go_simp; with_reducible rfl)
   refine pu 3 ab.out ?_
   refine tk 4 ab.out bj.out hHeld ?_ (hv := by intro w' aU; have s0 := aU.cell 0 _ rfl; go_simp; with_reducible rfl)
   refine on 2 ab.out (fun K hK => ?_)
   refine gs Try.func80 #[.int .u32 b.addr] (gi.calls _ _ _ jK.out) ?_
   rintro e V2 ⟨rfl, hb⟩
   refine ⟨_, rfl, ?_⟩
   have HXn := hHeld.below hb; have HZn := ak (bE HZ.out hb); clear HZ; have HZ := HZn; clear HZn hb
   refine kn hK HXn (fun hHeld => ?_)
   clear hK K
   refine pu 5 ab.out ?_
   refine pu 6 ab.out ?_
   refine pu 7 ab.out ?_
   refine tk 8 ab.out bj.out hHeld ?_ (hv := by intro w' aU; have s0 := aU.cell 1 _ rfl; go_simp; with_reducible rfl)
   refine on 9 ab.out (fun K hK => ?_)
   refine gs Try.func79 #[.string b.aff] (gh.calls _ _ _ kN.out) ?_
   rintro e V9 ⟨rfl, hb⟩
   refine ⟨_, rfl, ?_⟩
   have HXn := hHeld.below hb; have HZn := ak (bE HZ.out hb); clear HZ; have HZ := HZn; clear HZn hb
   refine kn hK HXn (fun hHeld => ?_)
   clear hK K
   refine pu 10 ab.out ?_
   refine pu 11 ab.out ?_
   refine po 12 ab.out ?_
   refine po 13 ab.out ?_
   refine po 14 ab.out ?_
   refine po 15 ab.out ?_
   refine pu 16 ab.out ?_
   refine pu 17 ab.out ?_
   refine po 18 ab.out ?_
   refine po 19 ab.out ?_
   refine pu 20 ab.out ?_
   refine pu 21 ab.out ?_
   refine po 22 ab.out ?_
   refine po 23 ab.out ?_
   refine pu 24 ab.out ?_
   refine pu 25 ab.out ?_
   refine dn ab.out ?_
   try go_wp2
   go_ret
   refine ⟨?_, HB.out.trans (HZ.out.mono HB.out.size)⟩
   rw [HV.out]; rfl
  | true =>
   rw [h2] at kN
   by_cases h3 : b.attrs.length ≤ 64
   ·have Sw : decide ((b.attrs.length : Int) ≤ 64) = true := by simp; omega
    have HN := ak h3
    cases h4 : kk b with
    | false =>
     have HV := ak (show dm b = false by unfold dm; rw [h1, h2, h4]; simp)
     have r8 := ak h4
     refine cW (n := 26) (S := fun w' => aH w' g (aZ b.addr b.aff b.slots (.slice A b.free.length c) (.slice A' b.attrs.length c')) 57) (ds := []) #[false, false, false, false, false, false, false, false, false, false, false, false, false, false, false, false, false, false, false, false, false, false, false, false, false, false] (by kernel_rfl) rfl rfl HX.out (fun hHeld => ?_); refine bK iy.tab1 iy.bits1 (fun ab bj => ?_)
     refine pu 0 ab.out ?_
     refine tk 1 ab.out bj.out hHeld ?_ (hv := by intro w' aU; have s0 := aU.cell 0 _ rfl; go_simp; with_reducible rfl)
     refine pu 3 ab.out ?_
     refine tk 4 ab.out bj.out hHeld ?_ (hv := by intro w' aU; have s0 := aU.cell 0 _ rfl; go_simp; with_reducible rfl)
     refine on 2 ab.out (fun K hK => ?_)
     refine gs Try.func80 #[.int .u32 b.addr] (gi.calls _ _ _ jK.out) ?_
     rintro e V2 ⟨rfl, hb⟩
     refine ⟨_, rfl, ?_⟩
     have HXn := hHeld.below hb; have HZn := ak (bE HZ.out hb); clear HZ; have HZ := HZn; clear HZn hb
     refine kn hK HXn (fun hHeld => ?_)
     clear hK K
     refine pu 5 ab.out ?_
     refine pu 6 ab.out ?_
     refine pu 7 ab.out ?_
     refine tk 8 ab.out bj.out hHeld ?_ (hv := by intro w' aU; have s0 := aU.cell 1 _ rfl; go_simp; with_reducible rfl)
     refine on 9 ab.out (fun K hK => ?_)
     refine gs Try.func79 #[.string b.aff] (gh.calls _ _ _ kN.out) ?_
     rintro e V9 ⟨rfl, hb⟩
     refine ⟨_, rfl, ?_⟩
     have HXn := hHeld.below hb; have HZn := ak (bE HZ.out hb); clear HZ; have HZ := HZn; clear HZn hb
     refine kn hK HXn (fun hHeld => ?_)
     clear hK K
     refine pu 10 ab.out ?_
     refine pu 11 ab.out ?_
     refine pu 12 ab.out ?_
     refine tk 13 ab.out bj.out hHeld ?_ (hv := by intro w' aU; have s0 := aU.cell 67 _ (fi _ _ _ _ _ HL.out); go_simp; with_reducible rfl)
     refine pu 14 ab.out ?_
     refine pu 15 ab.out ?_
     refine pu 16 ab.out ?_
     refine pu 17 ab.out ?_
     refine tk 18 ab.out bj.out hHeld ?_ (hv := by exact fun _ aU => aI 57 (.tmp 1) rfl g rfl _ _ _ aU Try.underlying57 rfl HLL.out)
     refine on 19 ab.out (fun K hK => ?_)
     refine gs Try.func86 #[.agg (aZ b.addr b.aff b.slots (.slice A b.free.length c) (.slice A' b.attrs.length c')).toArray] (zp b HS.out HN.out _ _ ⟨A, c, A', c', rfl, mu.out.below HZ.out⟩) ?_
     rintro e Ov ⟨rfl, hb⟩
     refine ⟨_, rfl, ?_⟩
     have HXn := hHeld.below hb; rw [r8.out]; have HZn := ak (bE HZ.out hb); clear HZ; have HZ := HZn; clear HZn hb
     refine kn hK HXn (fun hHeld => ?_)
     clear hK K
     refine pu 20 ab.out ?_
     refine pu 21 ab.out ?_
     refine po 22 ab.out ?_
     refine po 23 ab.out ?_
     refine pu 24 ab.out ?_
     refine pu 25 ab.out ?_
     refine dn ab.out ?_
     try go_wp2
     go_ret
     refine ⟨?_, HB.out.trans (HZ.out.mono HB.out.size)⟩
     rw [HV.out]; rfl
    | true =>
     have HV := ak (show dm b = kt b by unfold dm; rw [h1, h2, h4, decide_eq_true h3]; rfl)
     have r8 := ak h4
     refine cW (n := 26) (S := fun w' => aH w' g (aZ b.addr b.aff b.slots (.slice A b.free.length c) (.slice A' b.attrs.length c')) 57) (ds := []) #[false, false, false, false, false, false, false, false, false, false, false, false, false, false, false, false, false, false, false, false, false, false, false, false, false, false] (by kernel_rfl) rfl rfl HX.out (fun hHeld => ?_); refine bK iy.tab1 iy.bits1 (fun ab bj => ?_)
     refine pu 0 ab.out ?_
     refine tk 1 ab.out bj.out hHeld ?_ (hv := by intro w' aU; have s0 := aU.cell 0 _ rfl; go_simp; with_reducible rfl)
     refine pu 3 ab.out ?_
     refine tk 4 ab.out bj.out hHeld ?_ (hv := by intro w' aU; have s0 := aU.cell 0 _ rfl; go_simp; with_reducible rfl)
     refine on 2 ab.out (fun K hK => ?_)
     refine gs Try.func80 #[.int .u32 b.addr] (gi.calls _ _ _ jK.out) ?_
     rintro e V2 ⟨rfl, hb⟩
     refine ⟨_, rfl, ?_⟩
     have HXn := hHeld.below hb; have HZn := ak (bE HZ.out hb); clear HZ; have HZ := HZn; clear HZn hb
     refine kn hK HXn (fun hHeld => ?_)
     clear hK K
     refine pu 5 ab.out ?_
     refine pu 6 ab.out ?_
     refine pu 7 ab.out ?_
     refine tk 8 ab.out bj.out hHeld ?_ (hv := by intro w' aU; have s0 := aU.cell 1 _ rfl; go_simp; with_reducible rfl)
     refine on 9 ab.out (fun K hK => ?_)
     refine gs Try.func79 #[.string b.aff] (gh.calls _ _ _ kN.out) ?_
     rintro e V9 ⟨rfl, hb⟩
     refine ⟨_, rfl, ?_⟩
     have HXn := hHeld.below hb; have HZn := ak (bE HZ.out hb); clear HZ; have HZ := HZn; clear HZn hb
     refine kn hK HXn (fun hHeld => ?_)
     clear hK K
     refine pu 10 ab.out ?_
     refine pu 11 ab.out ?_
     refine pu 12 ab.out ?_
     refine tk 13 ab.out bj.out hHeld ?_ (hv := by intro w' aU; have s0 := aU.cell 67 _ (fi _ _ _ _ _ HL.out); go_simp; with_reducible rfl)
     refine pu 14 ab.out ?_
     refine pu 15 ab.out ?_
     refine pu 16 ab.out ?_
     refine pu 17 ab.out ?_
     refine tk 18 ab.out bj.out hHeld ?_ (hv := by exact fun _ aU => aI 57 (.tmp 1) rfl g rfl _ _ _ aU Try.underlying57 rfl HLL.out)
     refine on 19 ab.out (fun K hK => ?_)
     refine gs Try.func86 #[.agg (aZ b.addr b.aff b.slots (.slice A b.free.length c) (.slice A' b.attrs.length c')).toArray] (zp b HS.out HN.out _ _ ⟨A, c, A', c', rfl, mu.out.below HZ.out⟩) ?_
     rintro e Ov ⟨rfl, hb⟩
     refine ⟨_, rfl, ?_⟩
     have HXn := hHeld.below hb; rw [r8.out]; have HZn := ak (bE HZ.out hb); clear HZ; have HZ := HZn; clear HZn hb
     refine kn hK HXn (fun hHeld => ?_)
     clear hK K
     refine pu 20 ab.out ?_
     refine pu 21 ab.out ?_
     refine tk 22 ab.out bj.out hHeld ?_ (hv := by exact fun _ aU => aI 57 (.tmp 1) rfl g rfl _ _ _ aU Try.underlying57 rfl HLL.out)
     refine on 23 ab.out (fun K hK => ?_)
     refine gs Try.func87 #[.agg (aZ b.addr b.aff b.slots (.slice A b.free.length c) (.slice A' b.attrs.length c')).toArray] (GB b HF.out HS.out _ _ ⟨A, c, A', c', rfl, mu.out.below HZ.out⟩) ?_
     rintro e UD ⟨rfl, hb⟩
     refine ⟨_, rfl, ?_⟩
     have HXn := hHeld.below hb; have HZn := ak (bE HZ.out hb); clear HZ; have HZ := HZn; clear HZn hb
     refine kn hK HXn (fun hHeld => ?_)
     clear hK K
     refine pu 24 ab.out ?_
     refine pu 25 ab.out ?_
     refine dn ab.out ?_
     try go_wp2
     go_ret
     refine ⟨?_, HB.out.trans (HZ.out.mono HB.out.size)⟩
     rw [HV.out]; rfl
   ·have Sw : decide ((b.attrs.length : Int) ≤ 64) = false := by simp; omega
    have HV := ak (show dm b = false by unfold dm; rw [h1, h2, decide_eq_false h3]; rfl)
    refine cW (n := 26) (S := fun w' => aH w' g (aZ b.addr b.aff b.slots (.slice A b.free.length c) (.slice A' b.attrs.length c')) 57) (ds := []) #[false, false, false, false, false, false, false, false, false, false, false, false, false, false, false, false, false, false, false, false, false, false, false, false, false, false] (by kernel_rfl) rfl rfl HX.out (fun hHeld => ?_); refine bK iy.tab1 iy.bits1 (fun ab bj => ?_)
    refine pu 0 ab.out ?_
    refine tk 1 ab.out bj.out hHeld ?_ (hv := by intro w' aU; have s0 := aU.cell 0 _ rfl; go_simp; with_reducible rfl)
    refine pu 3 ab.out ?_
    refine tk 4 ab.out bj.out hHeld ?_ (hv := by intro w' aU; have s0 := aU.cell 0 _ rfl; go_simp; with_reducible rfl)
    refine on 2 ab.out (fun K hK => ?_)
    refine gs Try.func80 #[.int .u32 b.addr] (gi.calls _ _ _ jK.out) ?_
    rintro e V2 ⟨rfl, hb⟩
    refine ⟨_, rfl, ?_⟩
    have HXn := hHeld.below hb; have HZn := ak (bE HZ.out hb); clear HZ; have HZ := HZn; clear HZn hb
    refine kn hK HXn (fun hHeld => ?_)
    clear hK K
    refine pu 5 ab.out ?_
    refine pu 6 ab.out ?_
    refine pu 7 ab.out ?_
    refine tk 8 ab.out bj.out hHeld ?_ (hv := by intro w' aU; have s0 := aU.cell 1 _ rfl; go_simp; with_reducible rfl)
    refine on 9 ab.out (fun K hK => ?_)
    refine gs Try.func79 #[.string b.aff] (gh.calls _ _ _ kN.out) ?_
    rintro e V9 ⟨rfl, hb⟩
    refine ⟨_, rfl, ?_⟩
    have HXn := hHeld.below hb; have HZn := ak (bE HZ.out hb); clear HZ; have HZ := HZn; clear HZn hb
    refine kn hK HXn (fun hHeld => ?_)
    clear hK K
    refine pu 10 ab.out ?_
    refine pu 11 ab.out ?_
    refine pu 12 ab.out ?_
    refine tk 13 ab.out bj.out hHeld ?_ (hv := by intro w' aU; have s0 := aU.cell 67 _ (fi _ _ _ _ _ HL.out); go_simp; with_reducible rfl)
    refine pu 14 ab.out ?_
    refine pu 15 ab.out ?_
    refine pu 16 ab.out ?_
    refine pu 17 ab.out ?_
    refine po 18 ab.out ?_
    refine po 19 ab.out ?_
    refine pu 20 ab.out ?_
    refine pu 21 ab.out ?_
    refine po 22 ab.out ?_
    refine po 23 ab.out ?_
    refine pu 24 ab.out ?_
    refine pu 25 ab.out ?_
    refine dn ab.out ?_
    try go_wp2
    go_ret
    refine ⟨?_, HB.out.trans (HZ.out.mono HB.out.size)⟩
    rw [HV.out]; rfl
end Go.Proofs.Ytemhalnhbgkbcaa.V
end

section
namespace Go.Proofs.Ytemhalnhbgkbcaa.V
theorem yz : (Try.prog.info? 5).map (fun i => (i.zero, i.size, i.bytes)) = some (some (.int .u8 0), 1, 1) := by kernel_rfl
theorem yA : (Try.prog.info? 85).map (fun i => (i.zero, i.size, i.bytes)) = some (some (.agg #[.string ⟨#[]⟩, .string ⟨#[]⟩]), 2, 32) := by kernel_rfl
theorem yo {α : Type} {d : Kd α} {w : World} {xs : List α} (h : Kd.C d w none xs.length xs) : xs = [] := by
 rcases Nat.eq_zero_or_pos xs.length with h0 | h0
 ·exact List.eq_nil_of_length_eq_zero h0
 ·obtain ⟨ad, he, _⟩ := h.2.2 h0
  cases he
set_option maxHeartbeats 2000000 in
set_option maxRecDepth 100000 in
theorem C6 (xs : List Int) (A : Option Addr) (c : Nat) (w : World) (hr : Kd.C (Kd.int .u8) w A xs.length xs) (hc : xs.length ≤ c) (hl : xs.length ≤ 4294967296) :
  Calls Try.prog 91 #[.slice A xs.length c] w fun e w' => ∃ v, e = .returned v ∧ Kd.R (Kd.int .u8) 5 w' w.heap.size (fun _ => True) v xs ∧ Below w.heap.size w w' := by
 have RR : ∀ (w : World) (a : Option Addr) (n c n' c' : Nat), (binOp .eql 48 (.slice a n c) (.slice none n' c')).run Try.prog w = .ok (.bool a.isNone) w := fun w a n c n' c' => Lib.run_eql_slice_nil w _ _ a n c n' c' Try.underlying48
 cases A with
 | none =>
  obtain rfl := yo hr
  clear hr
  go_enter Try.func91, Try.ntmps91
  go_wp2
  go_ret
  exact ⟨_, rfl, Kd.R_nil _ _ _ _ _, Below.refl _ _⟩
 | some ad =>
  have HR := ak hr
  have HL := ak hl
  clear hr hl
  go_enter Try.func91, Try.ntmps91
  go_wp2_with (first
   | ((with_reducible refine ax (N := 5) rfl ?_); refine Kd.R_lit (Kd.int .u8) w.heap.size 5 (w0 := w) ?hg (N := 5) ?hd (xs := ([] : List Int)) (inner := []) (ok := fun _ => True) (okp := fun _ => True) ?hr ?hp (fun _ hk => hk) trivial (Below.refl _ _) (Nat.le_refl _) (by simp) ?_; (case hd => rfl); (case hg => rfl); (case hr => first | (go_simp; done) | (go_simp; rfl)); (case hp => exact (db.none _ _)); intro v1 w1 fw cy qn pf; have kA := ak fw; have cn := ak cy; clear fw cy qn pf)
   | ((with_reducible refine cz (b := .append) (xs := #[.tmp 5, .tmp 6]) rfl ?_); at_builtin; refine Kd.R_append_rows (Kd.int .u8) (w0 := w) w.heap.size rfl (.tmp 5) (.tmp 6) 48 5 (.int .u8 0) 1 rfl Try.underlying48 yz rfl (by decide) (by omega) _ [] xs (some ad) xs.length c (fun _ => True) (fun _ => False) rfl rfl kA.out (Kd.C_below HR.out cn.out) (fun x cs h => h) (fun _ h => h.elim) (fun _ _ => trivial) cn.out cn.out.size (by have := HL.out; simp; omega) ?_; intro v2 w2 wD eL Lz O3))
  go_ret
  exact ⟨_, rfl, wD, eL⟩
set_option maxHeartbeats 2000000 in
set_option maxRecDepth 100000 in
theorem Kz (xs : List At) (A : Option Addr) (c : Nat) (w : World) (hr : Kd.C kc w A xs.length xs) (hc : xs.length ≤ c) (hl : xs.length ≤ 4294967296) :
  Calls Try.prog 109 #[.slice A xs.length c] w fun e w' => ∃ v, e = .returned v ∧ Kd.R kc 85 w' w.heap.size (fun _ => True) v xs ∧ Below w.heap.size w w' := by
 have RR : ∀ (w : World) (a : Option Addr) (n c n' c' : Nat), (binOp .eql 55 (.slice a n c) (.slice none n' c')).run Try.prog w = .ok (.bool a.isNone) w := fun w a n c n' c' => Lib.run_eql_slice_nil w _ _ a n c n' c' Try.underlying55
 cases A with
 | none =>
  obtain rfl := yo hr
  clear hr
  go_enter Try.func109, Try.ntmps109
  go_wp2
  go_ret
  exact ⟨_, rfl, Kd.R_nil _ _ _ _ _, Below.refl _ _⟩
 | some ad =>
  have HR := ak hr
  have HL := ak hl
  clear hr hl
  go_enter Try.func109, Try.ntmps109
  go_wp2_with (first
   | ((with_reducible refine ax (N := 5) rfl ?_); refine Kd.R_lit kc w.heap.size 85 (w0 := w) ?hg (N := 5) ?hd (xs := ([] : List At)) (inner := []) (ok := fun _ => True) (okp := fun _ => True) ?hr ?hp (fun _ hk => hk) trivial (Below.refl _ _) (Nat.le_refl _) (by simp) ?_; (case hd => rfl); (case hg => rfl); (case hr => first | (go_simp; done) | (go_simp; rfl)); (case hp => exact (db.none _ _)); intro v1 w1 fw cy qn pf; have kA := ak fw; have cn := ak cy; clear fw cy qn pf)
   | ((with_reducible refine cz (b := .append) (xs := #[.tmp 5, .tmp 6]) rfl ?_); at_builtin; refine Kd.R_append_rows kc (w0 := w) w.heap.size rfl (.tmp 5) (.tmp 6) 55 85 (.agg #[.string ⟨#[]⟩, .string ⟨#[]⟩]) 32 rfl Try.underlying55 yA rfl (by decide) (by omega) _ [] xs (some ad) xs.length c (fun _ => True) (fun _ => False) rfl rfl kA.out (Kd.C_below HR.out cn.out) (fun x cs h => by rw [AP h]; exact yx _ _ _ _) (fun _ h => h.elim) (fun _ _ => trivial) cn.out cn.out.size (by have := HL.out; simp; omega) ?_; intro v2 w2 wD eL Lz O3))
  go_ret
  exact ⟨_, rfl, wD, eL⟩
end Go.Proofs.Ytemhalnhbgkbcaa.V
end

section
namespace Go.Proofs.Ytemhalnhbgkbcaa.V
theorem bX {α : Type} {d : Kd α} {e : Nat} {W W1 : World} {base g t : Nat} {ok : Nat → Prop} {v : Value} {xs : List α} {cs : List Value} (h : Kd.R d e W base ok v xs) (hb : aH W g cs t) (ht : ∀ q, q ∈ e :: d.E → q ≠ t) (hg : W.grownBy W1 (some g)) : Kd.R d e W1 base ok v xs :=
 Kd.R_mono (Kd.R_grown (Kd.R_types h hb ht) hg (fun k hk he => hk.2 (Option.some.inj he))) (fun _ hk => hk.1)
def ea (W : World) (base : Nat) (v : Value) (b : Bk) : Prop := b.slots.length = 64 ∧ ∃ vf va, v = .agg (aZ b.addr b.aff b.slots vf va).toArray ∧ Kd.R (Kd.int .u8) 5 W base (fun _ => True) vf b.free ∧ Kd.R kc 85 W base (fun _ => True) va b.attrs
theorem ea.toV {W : World} {base : Nat} {v : Value} {b : Bk} (h : ea W base v b) : fS W v b := by
 obtain ⟨hl, vf, va, rfl, hf, ha⟩ := h
 obtain ⟨A, c, rfl, h1, h2⟩ := Kd.R_reads hf
 obtain ⟨A', c', rfl, h3, h4⟩ := Kd.R_reads ha
 exact ⟨A, c, A', c', rfl, hl, h2, h1, h4, h3⟩
theorem ea.below {W W1 : World} {base : Nat} {v : Value} {b : Bk} (h : ea W base v b) (hb : Below W.heap.size W W1) : ea W1 base v b := by
 obtain ⟨hl, vf, va, rfl, hf, ha⟩ := h
 exact ⟨hl, vf, va, rfl, Kd.R_below hf hb, Kd.R_below ha hb⟩
theorem ea.lower {W : World} {base base' : Nat} {v : Value} {b : Bk} (h : ea W base v b) (hb : base' ≤ base) : ea W base' v b := by
 obtain ⟨hl, vf, va, rfl, hf, ha⟩ := h
 exact ⟨hl, vf, va, rfl, Kd.R_lower hf hb, Kd.R_lower ha hb⟩
def jP : Bk := ⟨0, ⟨#[]⟩, List.replicate 64 0, [], []⟩
def a9 : List Value := aZ 0 ⟨#[]⟩ (List.replicate 64 0) (.slice none 0 0) (.slice none 0 0)
theorem bP (w : World) : (zeroValue 57).run Try.prog w = .ok (.agg a9.toArray) w := by kernel_rfl
theorem mR (W : World) (base : Nat) : ea W base (.agg a9.toArray) jP := ⟨rfl, _, _, rfl, Kd.R_nil _ _ _ _ _, Kd.R_nil _ _ _ _ _⟩
theorem cg (l : List Value) (h : l.length = 68) : (Try.prog.info? 57).map (·.size) = some l.length := by rw [h]; kernel_rfl
def lZ.T1 : Bool × List (List Nat × List Nat) := (true, [([], []), ([0], [0]), ([1], [1]), ([], []), ([3], [3]), ([4, 2], [4]), ([0, 1, 2, 3, 4], []), ([6, 2, 5, 0, 1, 2, 3, 4], [2, 6]), ([0, 1, 2, 3, 4, 5, 6, 7], []), ([8, 5, 7, 0, 1, 2, 3, 4, 5, 6, 7], [5, 8])])
def lZ.B1 : List Nat := [0, 1, 3, 0, 8, 31, 31, 127, 255, 511]
theorem lZ.tab1 : dC .any (opsOf Try.f89 1) = lZ.T1 := by kernel_rfl
theorem lZ.bits1 : cU lZ.T1.2 lZ.B1 = true := by kernel_rfl
set_option maxHeartbeats 4000000 in
set_option maxRecDepth 100000 in
theorem mc (b : Bk) (hf : b.free.length ≤ 4294967296) (ha : b.attrs.length ≤ 4294967296) (v : Value) (w : World) (h : fS w v b) :
  Calls Try.prog 89 #[v] w fun e w' => ∃ v', e = .returned v' ∧ ea w' w.heap.size v' b ∧ Below w.heap.size w w' := by
 obtain ⟨A, c, A', c', rfl, hr⟩ := h
 have HL := ak hr.l64
 have HR := ak hr
 have HF := ak hf
 have HA := ak ha
 clear hr hf ha
 go_enter Try.func89, Try.ntmps89
 go_wp2_with (first
  | (refine aE rfl 57 (.tmp 0) rfl _ rfl ?_; intro g W1 hg hbx cy; have ij := ak hbx; have cn := ak cy; have HG := ak hg; clear hbx cy hg)
  | (refine aw (some 2) rfl rfl 57 rfl a9 bP ?_; intro g2 W2 Lz LF eL))
 have HX := ak (show aH W2.drew g _ _ from (show aH W2 g _ _ from ij.out.below eL))
 have HY := ak (show aH W2.drew g2 _ _ from LF)
 have HNE := ak (show g ≠ g2 by have := ij.out.lt; omega)
 have HB := ak (bo (cn.out.trans (eL.mono cn.out.size)))
 have Ci := ak (show w.heap.size ≤ g2 by have := cn.out.size; omega)
 have zr := ak (HR.out.below HB.out)
 have HZ := ak (Below.refl W2.drew.heap.size W2.drew)
 clear LF eL Lz ij cn
 refine cW (n := 10) (S := fun w' => w'.cell? ⟨g, 66, none⟩ = some (.slice A b.free.length c) ∧ w'.cell? ⟨g, 67, none⟩ = some (.slice A' b.attrs.length c')) (ds := [7, 9]) #[false, false, false, false, false, false, false, false, false, false] (by kernel_rfl) rfl rfl ⟨HX.out.cell 66 _ (fP _ _ _ _ _ HL.out), HX.out.cell 67 _ (fi _ _ _ _ _ HL.out)⟩ (fun hHeld => ?_); refine bK lZ.tab1 lZ.bits1 (fun ab bj => ?_)
 refine pu 0 ab.out ?_
 refine tk 1 ab.out bj.out hHeld ?_ (hv := by intro w' aU; obtain ⟨s0, s1⟩ := aU; go_simp; with_reducible rfl)
 refine pu 3 ab.out ?_
 refine tk 4 ab.out bj.out hHeld ?_ (hv := by intro w' aU; obtain ⟨s0, s1⟩ := aU; go_simp; with_reducible rfl)
 refine on 2 ab.out (fun K hK => ?_)
 refine gs Try.func91 #[.slice A b.free.length c] (C6 b.free A c _ (zr.out.below HZ.out).fr HR.out.fc HF.out) ?_
 rintro e V3 ⟨vf, rfl, hrf, iP⟩
 refine ⟨_, rfl, ?_⟩
 have FE := ak (bE HZ.out iP); have HRF := ak hrf; obtain ⟨Af, cf, rfl⟩ := Kd.R_slice hrf; clear hrf
 refine kn hK ⟨(HX.out.below FE.out).cell 66 _ (fP _ _ _ _ _ HL.out), (HX.out.below FE.out).cell 67 _ (fi _ _ _ _ _ HL.out)⟩ (fun hHeld => ?_)
 clear hK K
 refine pu 6 ab.out ?_
 refine on 5 ab.out (fun K hK => ?_)
 refine gs Try.func109 #[.slice A' b.attrs.length c'] (Kz b.attrs A' c' _ (zr.out.below FE.out).ar HR.out.ac HA.out) ?_
 rintro e V4 ⟨va, rfl, hra, qp⟩
 refine ⟨_, rfl, ?_⟩
 have o6 := ak (bE FE.out qp); have HRA := ak hra; have Pt := ak (Kd.R_below HRF.out qp); obtain ⟨Aa, ca, rfl⟩ := Kd.R_slice hra; clear hra
 refine kn hK ⟨(HX.out.below o6.out).cell 66 _ (fP _ _ _ _ _ HL.out), (HX.out.below o6.out).cell 67 _ (fi _ _ _ _ _ HL.out)⟩ (fun hHeld => ?_)
 clear hK K
 refine pr (i := 7) (N := none) #[true, true, true, true, true, true, true, true, false, false] rfl rfl (lL ab.out (by kernel_rfl)) (by decide) (fun K hK => ?_)
 have TW := (HX.out.below o6.out).frozen 66; have LC := (HX.out.below o6.out).cell 66 _ (fP _ _ _ _ _ HL.out)
 refine oA (w1 := ?_) (by rfl) rfl ?_ ?_
 rotate_left
 ·go_simp
  rfl
 refine hK.out _ _ ?_
 clear hK K
 refine pu 8 ab.out ?_
 refine pr (i := 9) (N := none) #[true, true, true, true, true, true, true, true, true, true] rfl rfl (lL ab.out (by kernel_rfl)) (by decide) (fun K hK => ?_)
 have O0 := (HX.out.below o6.out).frozen 67; have Gv := (HX.out.below o6.out).cell 67 _ (fi _ _ _ _ _ HL.out)
 refine oA (w1 := ?_) (by rfl) rfl ?_ ?_
 rotate_left
 ·go_simp
  rfl
 refine hK.out _ _ ?_
 clear hK K
 refine dn ab.out ?_
 have E3 := ((HX.out.below o6.out).set 66 (.slice Af b.free.length cf)).set 67 (.slice Aa b.attrs.length ca)
 rw [kS _ _ _ _ _ HL.out, ti _ _ _ _ _ HL.out] at E3
 have qY : W2.drew.heap.size ≤ V4.heap.size := o6.out.size
 have Gr := bX (bX (Kd.R_lower Pt.out HB.out.size) (HX.out.below o6.out) (by decide) (bO V4 g 66 (.slice Af b.free.length cf))) ((HX.out.below o6.out).set 66 _) (by decide) (bO _ g 67 (.slice Aa b.attrs.length ca))
 have Gs := bX (bX (Kd.R_lower HRA.out (Nat.le_trans HB.out.size FE.out.size)) (HX.out.below o6.out) (by decide) (bO V4 g 66 (.slice Af b.free.length cf))) ((HX.out.below o6.out).set 66 _) (by decide) (bO _ g 67 (.slice Aa b.attrs.length ca))
 have ze := ((HY.out.below o6.out).far (p := ⟨g, 66, none⟩) (fun e => HNE.out e.symm) (.slice Af b.free.length cf)).far (p := ⟨g, 67, none⟩) (fun e => HNE.out e.symm) (.slice Aa b.attrs.length ca)
 have zj := Below.setCell (Below.setCell (HB.out.trans (o6.out.mono HB.out.size)) (p := ⟨g, 66, none⟩) HG.out (.slice Af b.free.length cf)) (p := ⟨g, 67, none⟩) HG.out (.slice Aa b.attrs.length ca)
 generalize (V4.setCell ⟨g, 66, none⟩ (.slice Af b.free.length cf)).setCell ⟨g, 67, none⟩ (.slice Aa b.attrs.length ca) = V5 at E3 Gr Gs ze zj ⊢
 have uG := ak E3
 have tL := ak ze
 have Ps := ak Gr
 have Pu := ak Gs
 have yk := ak zj
 have Lt := ag b.addr b.aff b.slots (.slice Af b.free.length cf) (.slice Aa b.attrs.length ca) HL.out
 have zu := ak Lt
 clear E3 Gr Gs ze zj Lt hHeld
 go_wp2_with (first
  | (refine az rfl 57 (.tmp 1) rfl g rfl _ _ _ uG.out Try.underlying57 rfl 68 (by kernel_rfl) zu.out ?_)
  | (refine aN rfl 57 (.tmp 2) (.tmp 11) rfl g2 (aZ b.addr b.aff b.slots (.slice Af b.free.length cf) (.slice Aa b.attrs.length ca)) rfl rfl 57 _ tL.out 68 (by kernel_rfl) zu.out rfl (b4 _ _ _ _ _ rfl rfl) ?_; intro V6 Ck qX))
 exact bodyPost_ret (results_cell_row rfl _ _ g2 57 _ (0, 0) _ rfl Ck Try.underlying57 rfl (by simp only [List.size_toArray]; exact cg _ zu.out)) rfl ⟨_, rfl, ⟨HL.out, _, _, rfl, bX Ps.out tL.out (by decide) qX, bX Pu.out tL.out (by decide) qX⟩, yk.out.grown qX yk.out.size (by intro k hk; cases hk; exact Ci.out)⟩
end Go.Proofs.Ytemhalnhbgkbcaa.V
end

section
namespace Go.Proofs.Ytemhalnhbgkbcaa.V
def kO (n : Nat) : List Int := (List.range n).map (fun i : Nat => (i : Int))
theorem wB (n : Nat) : kO (n + 1) = kO n ++ [(n : Int)] := by simp [kO, List.range_succ]
theorem ug (n : Nat) : (kO n).length = n := by simp [kO]
def tb (a : Int) (s : ByteArray) : Bk := ⟨bV a, s, List.replicate 64 0, kO 64, []⟩
theorem la : Try.prog.built 57 [] = some a9.toArray := by kernel_rfl
theorem L0 (x : Int) (s : ByteArray) : Try.prog.built 57 [(0, .int .u32 x), (1, .string s)] = some (aZ x s (List.replicate 64 0) (.slice none 0 0) (.slice none 0 0)).toArray := by kernel_rfl
theorem iY : ∀ v ∈ a9, v.oneCell' = true := b4 _ _ _ _ _ rfl rfl
set_option maxHeartbeats 4000000 in
set_option maxRecDepth 100000 in
theorem CW (a : Int) (h0 : 0 ≤ a) (h1 : a < 4294967296) (s : ByteArray) (w : World) :
  Calls Try.prog 41 #[.int .u32 a, .string s] w fun e w' => ∃ v, e = .returned (.tuple #[v, .int .i64 (if fW s = true then 0 else 1)]) ∧ ea w' w.heap.size v (if fW s = true then tb a s else jP) ∧ Below w.heap.size w w' := by
 have jK := ak (yF a h0 h1)
 have kN := ak (yv s)
 clear h0 h1
 cases ho : fW s with
 | false =>
  rw [ho] at kN
  clear ho
  go_enter Try.func41, Try.ntmps41
  go_wp2_with (first
   | (refine aw (some 4) rfl rfl 57 rfl a9 bP ?_; intro g4 W1 qY Bi cy; have ij := ak Bi; have cn := ak cy; have xK := ak qY; clear Bi cy qY)
   | (go_at_call 79; refine (gh.calls _ _ _ kN.out).mono ?_; rintro e W2 ⟨rfl, eL⟩; have gl := ak (ij.out.below eL); have jw := ak (cn.out.trans (eL.mono cn.out.size)); clear eL ij cn)
   | (refine fq rfl 57 #[] rfl a9 la ?_)
   | (refine aN rfl 57 (.tmp 4) (.tmp 11) rfl g4 a9 rfl rfl 57 _ gl.out 68 (by kernel_rfl) rfl rfl iY ?_; intro W3 jL C2))
  exact bodyPost_ret (eU rfl _ _ g4 57 _ (0, 0) _ rfl jL Try.underlying57 rfl (by simp only [List.size_toArray]; exact cg _ rfl)) rfl ⟨_, rfl, mR _ _, jw.out.grown C2 jw.out.size (by intro k hk; cases hk; exact xK.out)⟩
 | true =>
  rw [ho] at kN
  clear ho
  go_enter Try.func41, Try.ntmps41
  go_wp2_with (first
   | (refine aw (some 4) rfl rfl 57 rfl a9 bP ?_; intro g4 W1 qY Bi cy; have ij := ak Bi; have cn := ak cy; have xK := ak qY; clear Bi cy qY)
   | (go_at_call 79; refine (gh.calls _ _ _ kN.out).mono ?_; rintro e W2 ⟨rfl, eL⟩; have gl := ak (ij.out.below eL); have jw := ak (cn.out.trans (eL.mono cn.out.size)); clear eL ij cn)
   | (go_at_call 80; refine (gi.calls _ _ _ jK.out).mono ?_; rintro e W3 ⟨rfl, iP⟩; have nK := ak (gl.out.below iP); have jL := ak (jw.out.trans (iP.mono jw.out.size)); clear iP gl jw)
   | (refine fq rfl 57 #[(0, .tmp 13), (1, .tmp 14)] rfl (aZ (bV a) s (List.replicate 64 0) (.slice none 0 0) (.slice none 0 0)) (L0 _ _) ?_)
   | (refine aw (some 6) rfl rfl 57 rfl a9 bP ?_; intro g6 W4 qX LD qp; have uH := ak (nK.out.below qp); have uE := ak LD; have HNE := ak (show g4 ≠ g6 by have := nK.out.lt; omega); have ob := ak (jL.out.trans (qp.mono jL.out.size)); have OH := ak (show w.heap.size ≤ g6 by have := jL.out.size; omega); clear LD qp qX nK jL)
   | (refine aN rfl 57 (.tmp 6) (.tmp 15) rfl g6 (aZ (bV a) s (List.replicate 64 0) (.slice none 0 0) (.slice none 0 0)) rfl rfl 57 _ uE.out 68 (by kernel_rfl) rfl rfl (b4 _ _ _ _ _ rfl rfl) ?_; intro W5 ze E5; have tL := ak ze; have uG := ak (uH.out.grown E5 (fun e => HNE.out (Option.some.inj e))); have yk := ak (ob.out.grown E5 ob.out.size (by intro k hk; cases hk; exact OH.out)); clear ze E5 uH uE ob))
  go_loopw [7, 16] (fun _ i W => ∃ k : Nat, k ≤ 64 ∧ i = .int .i64 k ∧ ∃ vf, Aside0 (aH W g6 (aZ (bV a) s (List.replicate 64 0) vf (.slice none 0 0)) 57) ∧ Aside0 (Kd.R (Kd.int .u8) 5 W w.heap.size (fun _ => True) vf (kO k)) ∧ Aside0 (aH W g4 a9 57) ∧ Aside0 (Below w.heap.size w W)) (fun _ i _ => 64 - (intOf i).toNat)
  case atStart => exact ⟨0, by omega, rfl, _, tL, ⟨Kd.R_nil _ _ _ _ _⟩, uG, yk⟩
  case round =>
   clear tL uG yk
   obtain ⟨k, hk, rfl, vf, HY, HR, HX, HB⟩ := hrel
   obtain ⟨W, rfl⟩ : ∃ W : World, W = wr := ⟨_, rfl⟩
   by_cases ni : k < 64
   ·have hkb : decide ((k : Int) < 64) = true := by simp; omega
    have Hp := HY.out.cell 66 _ (fP _ _ _ _ _ rfl)
    have hlen := ug k
    go_wp2_with (first | ((with_reducible refine cz (b := .append) (xs := #[.tmp 20, .tmp 23]) rfl ?_); at_builtin; refine Kd.R_append (Kd.int .u8) (w0 := w) w.heap.size rfl (.tmp 20) (.tmp 23) 48 5 (.int .u8 0) 1 rfl Try.underlying48 yz rfl (by decide) (by omega) vf (kO k) (k : Int) [.int .u8 (k : Int)] (fun _ => True) (fun _ => False) rfl rfl rfl (fun _ hk => hk.elim) (fun _ _ => trivial) HR.out HB.out HB.out.size (by omega) ?_; intro v1 w1 fw cy qn tg; have sU := ak (HY.out.grown qn (HY.out.ne_row HR.out (by decide))); have ij := ak (HX.out.grown qn (HX.out.ne_row HR.out (by decide))); rw [← wB] at fw; have mu := ak fw; have cn := ak cy; obtain ⟨A1, c1, rfl⟩ := Kd.R_slice fw; have uq := sU.out.cell 66 _ (fP _ _ _ _ _ rfl); have mN := sU.out.frozen 66; clear fw cy qn tg Hp HY HX HR HB))
    have sT := ak (show aH (w1.setCell ⟨g6, 66, none⟩ (.slice A1 (kO (k + 1)).length c1)) g6 (aZ (bV a) s (List.replicate 64 0) (.slice A1 (kO (k + 1)).length c1) (.slice none 0 0)) 57 by have := sU.out.set 66 (.slice A1 (kO (k + 1)).length c1); rwa [kS _ _ _ _ _ rfl] at this)
    go_roundw
    case rel => exact ⟨k + 1, by omega, by go_num, _, sT, ⟨bX mu.out sU.out (by decide) (bO _ _ _ _)⟩, ⟨ij.out.far (p := ⟨g6, 66, none⟩) HNE.out _⟩, ⟨Below.setCell cn.out (p := ⟨g6, 66, none⟩) OH.out _⟩⟩
    case measure => simp [intOf]; omega
   ·obtain rfl : k = 64 := by omega
    rw [show ((64 : Nat) : Int) = (64 : Int) from rfl]
    have hkb : decide ((64 : Int) < 64) = false := by decide
    obtain ⟨Af, cf, rfl⟩ := Kd.R_slice HR.out
    go_wp2_with (first
     | (refine az rfl 57 (.tmp 6) rfl g6 rfl _ _ _ HY.out Try.underlying57 rfl 68 (by kernel_rfl) rfl ?_)
     | (refine aN rfl 57 (.tmp 4) (.tmp 27) rfl g4 (aZ (bV a) s (List.replicate 64 0) (.slice Af (kO 64).length cf) (.slice none 0 0)) rfl rfl 57 _ HX.out 68 (by kernel_rfl) rfl rfl (b4 _ _ _ _ _ rfl rfl) ?_; intro W6 Ck qX))
    exact bodyPost_ret (eU rfl _ _ g4 57 _ (0, 0) _ rfl Ck Try.underlying57 rfl (by simp only [List.size_toArray]; exact cg _ rfl)) rfl ⟨_, rfl, ⟨rfl, _, _, rfl, bX HR.out HX.out (by decide) qX, Kd.R_nil _ _ _ _ _⟩, HB.out.grown qX HB.out.size (by intro k hk; cases hk; exact xK.out)⟩
end Go.Proofs.Ytemhalnhbgkbcaa.V
end

section
namespace Go.Proofs.Ytemhalnhbgkbcaa.V
attribute [local go_sem] ez ew fa e9 ec eb ey ev
def mw.f (bq : ByteArray) (bz : ByteArray) : Option (ByteArray × ByteArray) := some (bq, bz)
set_option maxHeartbeats 8000000 in
set_option maxRecDepth 100000 in
theorem mw.calls (bq : ByteArray) (bz : ByteArray) (r1 : ByteArray) (r2 : ByteArray) (w : World) (h : mw.f bq bz = some (r1, r2)) :
  Calls Try.prog 50 #[.agg #[.string bq, .string bz]] w fun e w' => e = .returned (.agg #[.string r1, .string r2]) ∧ Below w.heap.size w w' := by
 have Lp := Try.underlying76
 have Gn := Try.underlying85
 have HB := ak (Below.refl w.heap.size w)
 have H : (some (bq, bz)) = some (r1, r2) := h
 clear h
 simp only [Option.some.injEq, Prod.mk.injEq] at H
 obtain ⟨rfl, rfl⟩ := H
 go_enter Try.func50, Try.ntmps50
 go_wp2_with (first | ((with_reducible refine ax (N := 1) rfl ?_); refine eX ?hg (N := 1) ?hd (cs := #[.string bq, .string bz]) (t := 76) ?hr ?_; (case hd => rfl); (case hg => rfl); (case hr => first | (go_simp; done) | (go_simp; rfl)); intro mb hg w2 hbox hb; have cA := ak (bE (by repeat (first | (with_reducible first | exact HB.out | apply al | apply af | apply aq) | exact HB.out)) hb); have cP := ak (hbox); have dh := ak ((by rw [hg]; exact (bs (by repeat (first | (with_reducible first | exact HB.out | apply al | apply af | apply aq) | exact HB.out))) : w.heap.size ≤ mb)); have dN := ak ((by rw [hg]; exact (bs (by repeat (first | (with_reducible first | exact HB.out | apply al | apply af | apply aq) | exact HB.out))) : w.heap.size ≤ mb)); clear HB; have HB := cA; have mq := cP; have RE := dh; have vy := dN; clear cA cP dh dN; clear hb hbox hg) | ((with_reducible refine ax (N := 2) rfl ?_); refine eX ?hg (N := 2) ?hd (cs := #[.string (⟨#[]⟩ : ByteArray), .string (⟨#[]⟩ : ByteArray)]) (t := 85) ?hr ?_; (case hd => rfl); (case hg => rfl); (case hr => first | (go_simp; done) | (go_simp; rfl)); intro ou hg w3 hbox hb; have cA := ak (eM (g := mb) (o := .cells #[.string bq, .string bz] 76 (0, 0)) (by (with_reducible repeat (first | refine aK ?_ _ | refine aT ?_ | refine aM ?_ _)); exact mq.out) hb); have cP := ak (bE (by repeat (first | (with_reducible first | exact HB.out | apply al | apply af | apply aq | refine aQ ?_ vy.out) | exact HB.out)) hb); have dh := ak (hbox); have dN := ak ((by rw [hg]; exact (bs (by repeat (first | (with_reducible first | exact HB.out | apply al | apply af | apply aq | refine aQ ?_ vy.out) | exact HB.out))) : w.heap.size ≤ ou)); have jb := ak ((by rw [hg]; exact (bs (by repeat (first | (with_reducible first | exact HB.out | apply al | apply af | apply aq | refine aQ ?_ vy.out) | exact HB.out))) : w.heap.size ≤ ou)); have lM := ak ((by rw [hg]; exact Nat.ne_of_lt (jJ (g := mb) (o := .cells #[.string bq, .string bz] 76 (0, 0)) (by (with_reducible repeat (first | refine aK ?_ _ | refine aT ?_ | refine aM ?_ _)); exact mq.out)) : mb ≠ ou)); have oU := ak ((by rw [hg]; exact Nat.ne_of_gt (jJ (g := mb) (o := .cells #[.string bq, .string bz] 76 (0, 0)) (by (with_reducible repeat (first | refine aK ?_ _ | refine aT ?_ | refine aM ?_ _)); exact mq.out)) : ou ≠ mb)); clear mq; clear HB; have mq := cA; have HB := cP; have sV := dh; have RD := dN; have KT := jb; have zL := lM; have zK := oU; clear cA cP dh dN jb lM oU; clear hb hbox hg; have TR := zL.out; have TO := zK.out; have Sm : w3.cell? ⟨mb, 0, none⟩ = some (.string bq) := (aC mq.out 0).trans rfl; have Sl : w3.cell? ⟨mb, 1, none⟩ = some (.string bz) := (aC mq.out 1).trans rfl; have R8 := ao mq.out 0; have R7 := ao mq.out 1; have Bg : w3.cell? ⟨ou, 0, none⟩ = some (.string (⟨#[]⟩ : ByteArray)) := (aC sV.out 0).trans rfl; have Bf : w3.cell? ⟨ou, 1, none⟩ = some (.string (⟨#[]⟩ : ByteArray)) := (aC sV.out 1).trans rfl; have Ba := ao sV.out 0; have A6 := ao sV.out 1))
 refine bodyPost_ret (results_cell_row rfl _ _ ou 85 #[.string bq, .string bz] (0, 0) _ rfl (by (with_reducible repeat (first | refine aK ?_ _ | refine aT ?_ | refine aM ?_ _)); refine eO (cs := #[.string bq, .string (⟨#[]⟩ : ByteArray)]) ?_ 1 _ rfl; (with_reducible repeat (first | refine aK ?_ _ | refine aT ?_ | refine aM ?_ _)); refine eO (cs := #[.string (⟨#[]⟩ : ByteArray), .string (⟨#[]⟩ : ByteArray)]) ?_ 0 _ rfl; (with_reducible repeat (first | refine aK ?_ _ | refine aT ?_ | refine aM ?_ _)); exact sV.out) Try.underlying85 rfl (by kernel_rfl)) rfl ?_
 exact ⟨by first | rfl | (simp [cw, ct] <;> rfl) | (simp [*, cw, ct] <;> rfl), by repeat (first | (with_reducible first | exact HB.out | apply al | apply af | apply aq | refine aQ ?_ vy.out | refine aQ ?_ KT.out) | exact HB.out)⟩
end Go.Proofs.Ytemhalnhbgkbcaa.V
end

section
namespace Go.Proofs.Ytemhalnhbgkbcaa.V
structure Rw where
 addr : Int
 aff : ByteArray
 slots : List Int
 free : List Int
 attrs : List S76
structure RwR (W : World) (b : Rw) (A : Option Addr) (c : Nat) (A' : Option Addr) (c' : Nat) : Prop where
 l64 : b.slots.length = 64
 fr : Kd.C (Kd.int .u8) W A b.free.length b.free
 fc : b.free.length ≤ c
 ar : Kd.C g8 W A' b.attrs.length b.attrs
 ac : b.attrs.length ≤ c'
theorem RwR.below {W W1 : World} {b : Rw} {A A' : Option Addr} {c c' : Nat} (h : RwR W b A c A' c') (hb : Below W.heap.size W W1) : RwR W1 b A c A' c' := ⟨h.l64, Kd.C_below h.fr hb, h.fc, Kd.C_below h.ar hb, h.ac⟩
def L6 (W : World) (v : Value) (b : Rw) : Prop := ∃ A c A' c', v = .agg (aZ b.addr b.aff b.slots (.slice A b.free.length c) (.slice A' b.attrs.length c')).toArray ∧ RwR W b A c A' c'
theorem L6.below {W W1 : World} {v : Value} {b : Rw} (h : L6 W v b) (hb : Below W.heap.size W W1) : L6 W1 v b := by
 obtain ⟨A, c, A', c', e, hr⟩ := h
 exact ⟨A, c, A', c', e, hr.below hb⟩
def cv (a : S76) : At := ⟨a.f0, a.f1⟩
def ours (r : Rw) : Bk := ⟨r.addr, r.aff, r.slots, r.free.take 70, (r.attrs.take 70).map cv⟩
theorem jI (a : S76) (w : World) : Calls Try.prog 50 #[.agg #[.string a.f0, .string a.f1]] w fun e w' => e = .returned (ej (cv a)) ∧ Below w.heap.size w w' :=
 mw.calls a.f0 a.f1 a.f0 a.f1 w rfl
def sH.T12 : Bool × List (List Nat × List Nat) := (true, [([], []), ([0], [0]), ([], []), ([2], [2]), ([3], [3]), ([1, 4, 3], [1, 4]), ([0, 1, 2, 3, 4, 5], []), ([6, 5, 5, 0, 1, 2, 3, 4, 5], [5, 6])])
def sH.B12 : List Nat := [0, 1, 0, 4, 12, 31, 63, 127]
theorem sH.tab12 : dC .any (opsOf Try.f33 12) = sH.T12 := by kernel_rfl
theorem sH.bits12 : cU sH.T12.2 sH.B12 = true := by kernel_rfl
end Go.Proofs.Ytemhalnhbgkbcaa.V
end

section
namespace Go.Proofs.Ytemhalnhbgkbcaa.V
def vc (a : At) : S76 := ⟨a.f0, a.f1⟩
def dG : List Value := [.int .u32 0, .string ⟨#[]⟩, .slice none 0 0, .slice none 0 0, .slice none 0 0]
theorem AR : (Try.prog.info? 3).map (fun i => (i.zero, i.size, i.bytes)) = some (some (.int .i64 0), 1, 8) := by kernel_rfl
theorem vR : (Try.prog.info? 76).map (fun i => (i.zero, i.size, i.bytes)) = some (some (.agg #[.string ⟨#[]⟩, .string ⟨#[]⟩]), 2, 32) := by kernel_rfl
theorem vk {α β : Type} {d : Kd α} {d' : Kd β} {e e' b1 base : Nat} {W w1 : World} {ok ok' : Nat → Prop} {u v : Value} {xs : List α} {ys : List β} (h : d.R e W base ok u xs) (ho : ∀ k, ok k → k < b1) (hv : d'.R e' W b1 ok' v ys) (hg : W.grownBy w1 v.ownBlock) : d.R e w1 base ok u xs :=
 Kd.R_grown h hg (fun k hk he => by have := ho k hk; have := Kd.R_base hv k he.symm; omega)
end Go.Proofs.Ytemhalnhbgkbcaa.V
end

section
namespace Go.Proofs.Ytemhalnhbgkbcaa.V
def DL (b : Bk) (s : ByteArray) : Bk := ⟨b.addr, s, b.slots, b.free, b.attrs⟩
set_option maxHeartbeats 8000000 in
set_option maxRecDepth 100000 in
theorem CU (b : Bk) (hk : BkOk b) (hfl : b.free.length ≤ 1000) (hal : b.attrs.length ≤ 1000) (s : ByteArray) (v : Value) (w : World) (h : fS w v b) :
  Calls Try.prog 55 #[v, .string s] w fun e w' => ∃ v', e = .returned (.tuple #[v', .int .i64 (if (dm b && fW s) = true then 0 else 1)]) ∧ ea w' w.heap.size v' (if (dm b && fW s) = true then DL b s else jP) ∧ Below w.heap.size w w' := by
 obtain ⟨A, c, A', c', rfl, hr⟩ := h
 have HL := ak hr.l64
 have HR := ak hr
 have HK := ak hk
 have kN := ak (yv s)
 have HCP := ak (mc b (by omega) (by omega))
 have zu := ak (ag b.addr b.aff b.slots (.slice A b.free.length c) (.slice A' b.attrs.length c') hr.l64)
 clear hr hk
 cases hrt : dm b with
 | false =>
  have HRT := ak hrt
  clear hrt
  simp only [Bool.false_and, Bool.false_eq_true, if_false]
  go_enter Try.func55, Try.ntmps55
  go_wp2_with (first
   | (refine aE rfl 57 (.tmp 0) rfl _ rfl ?_; intro g W1 hg hbx cy; have ij := ak hbx; have cn := ak cy; clear hbx cy hg)
   | (refine aw (some 4) rfl rfl 57 rfl a9 bP ?_; intro g4 W2 qY uh eL; have gl := ak (ij.out.below eL); have sT := ak uh; have jw := ak (cn.out.trans (eL.mono cn.out.size)); have xK := ak (show w.heap.size ≤ g4 by have := cn.out.size; omega); clear uh eL qY ij cn)
   | ((with_reducible refine ax (N := 6) rfl ?_); refine az rfl 57 (.tmp 2) rfl g rfl _ _ _ gl.out Try.underlying57 rfl 68 (by kernel_rfl) zu.out ?_)
   | (go_at_call 48; refine (dH b HK.out _ _ ⟨A, c, A', c', rfl, HR.out.below jw.out⟩).mono ?_; rintro e W3 ⟨rfl, iP⟩; rw [HRT.out]; have uF := ak (sT.out.below iP); have jL := ak (jw.out.trans (iP.mono jw.out.size)); clear iP)
   | (refine fq rfl 57 #[] rfl a9 la ?_)
   | (refine aN rfl 57 (.tmp 4) (.tmp 14) rfl g4 a9 rfl rfl 57 _ uF.out 68 (by kernel_rfl) rfl rfl iY ?_; intro W4 RU qY))
  exact bodyPost_ret (eU rfl _ _ g4 57 _ (0, 0) _ rfl RU Try.underlying57 rfl (by simp only [List.size_toArray]; exact cg _ rfl)) rfl ⟨_, rfl, mR _ _, jL.out.grown qY jL.out.size (by intro k hk; cases hk; exact xK.out)⟩
 | true =>
  have HRT := ak hrt
  clear hrt
  cases ho : fW s with
  | false =>
   rw [ho] at kN
   clear ho
   simp only [Bool.and_false, Bool.false_eq_true, if_false]
   go_enter Try.func55, Try.ntmps55
   go_wp2_with (first
    | (refine aE rfl 57 (.tmp 0) rfl _ rfl ?_; intro g W1 hg hbx cy; have ij := ak hbx; have cn := ak cy; clear hbx cy hg)
    | (refine aw (some 4) rfl rfl 57 rfl a9 bP ?_; intro g4 W2 qY uh eL; have gl := ak (ij.out.below eL); have sT := ak uh; have jw := ak (cn.out.trans (eL.mono cn.out.size)); have xK := ak (show w.heap.size ≤ g4 by have := cn.out.size; omega); clear uh eL qY ij cn)
    | ((with_reducible refine ax (N := 6) rfl ?_); refine az rfl 57 (.tmp 2) rfl g rfl _ _ _ gl.out Try.underlying57 rfl 68 (by kernel_rfl) zu.out ?_)
    | (go_at_call 48; refine (dH b HK.out _ _ ⟨A, c, A', c', rfl, HR.out.below jw.out⟩).mono ?_; rintro e W3 ⟨rfl, iP⟩; rw [HRT.out]; have uF := ak (sT.out.below iP); have jL := ak (jw.out.trans (iP.mono jw.out.size)); clear iP)
    | (go_at_call 79; refine (gh.calls _ _ _ kN.out).mono ?_; rintro e W4 ⟨rfl, qp⟩; have uE := ak (uF.out.below qp); have ob := ak (jL.out.trans (qp.mono jL.out.size)); clear qp)
    | (refine fq rfl 57 #[] rfl a9 la ?_)
    | (refine aN rfl 57 (.tmp 4) (.tmp 14) rfl g4 a9 rfl rfl 57 _ uE.out 68 (by kernel_rfl) rfl rfl iY ?_; intro W5 ze E5))
   exact bodyPost_ret (eU rfl _ _ g4 57 _ (0, 0) _ rfl ze Try.underlying57 rfl (by simp only [List.size_toArray]; exact cg _ rfl)) rfl ⟨_, rfl, mR _ _, ob.out.grown E5 ob.out.size (by intro k hk; cases hk; exact xK.out)⟩
  | true =>
   rw [ho] at kN
   clear ho
   simp only [Bool.and_self, if_true]
   go_enter Try.func55, Try.ntmps55
   go_wp2_with (first
    | (refine aE rfl 57 (.tmp 0) rfl _ rfl ?_; intro g W1 hg hbx cy; have ij := ak hbx; have cn := ak cy; have HG := ak hg; clear hbx cy hg)
    | (refine aw (some 4) rfl rfl 57 rfl a9 bP ?_; intro g4 W2 qY uh eL; have gl := ak (ij.out.below eL); have sT := ak uh; have jw := ak (cn.out.trans (eL.mono cn.out.size)); have xK := ak (show w.heap.size ≤ g4 by have := cn.out.size; omega); have HNE := ak (show g ≠ g4 by have := ij.out.lt; omega); clear uh eL qY ij cn)
    | ((with_reducible refine ax (N := 6) rfl ?_); refine az rfl 57 (.tmp 2) rfl g rfl _ _ _ gl.out Try.underlying57 rfl 68 (by kernel_rfl) zu.out ?_)
    | (go_at_call 48; refine (dH b HK.out _ _ ⟨A, c, A', c', rfl, HR.out.below jw.out⟩).mono ?_; rintro e W3 ⟨rfl, iP⟩; rw [HRT.out]; have nK := ak (gl.out.below iP); have uF := ak (sT.out.below iP); have jL := ak (jw.out.trans (iP.mono jw.out.size)); clear iP gl)
    | (go_at_call 79; refine (gh.calls _ _ _ kN.out).mono ?_; rintro e W4 ⟨rfl, qp⟩; have uH := ak (nK.out.below qp); have uE := ak (uF.out.below qp); have ob := ak (jL.out.trans (qp.mono jL.out.size)); clear qp nK)
    | ((with_reducible refine ax (N := 15) rfl ?_); refine az rfl 57 (.tmp 2) rfl g rfl _ _ _ uH.out Try.underlying57 rfl 68 (by kernel_rfl) zu.out ?_)
    | (go_at_call 89; refine (HCP.out _ _ ⟨A, c, A', c', rfl, HR.out.below ob.out⟩).mono ?_; rintro e W5 ⟨v5, rfl, uj, zj⟩; obtain ⟨um, vf, va, rfl, lQ, lV⟩ := uj; have uG := ak (uH.out.below zj); have tL := ak (uE.out.below zj); have OJ := ak (Kd.R_lower lQ ob.out.size); have OM := ak (Kd.R_lower lV ob.out.size); have yk := ak (ob.out.trans (zj.mono ob.out.size)); obtain ⟨Af, cf, rfl⟩ := Kd.R_slice lQ; obtain ⟨Aa, ca, rfl⟩ := Kd.R_slice lV; clear lQ lV zj uH um)
    | (refine aN rfl 57 (.tmp 2) (.tmp 16) rfl g (aZ b.addr b.aff b.slots (.slice Af b.free.length cf) (.slice Aa b.attrs.length ca)) rfl rfl 57 _ uG.out 68 (by kernel_rfl) (ag _ _ _ _ _ HL.out) (ag _ _ _ _ _ HL.out) (b4 _ _ _ _ _ rfl rfl) ?_; intro W6 Oh qX; have Dn := ak Oh; have OA := ak (tL.out.grown qX (fun e => HNE.out (Option.some.inj e).symm)); have OI := ak (bX OJ.out uG.out (by decide) qX); have OL := ak (bX OM.out uG.out (by decide) qX); have Ck := ak (yk.out.grown qX yk.out.size (by intro k hk; cases hk; exact HG.out)); have Ss := Dn.out.cell 1 _ rfl; have Sf := Dn.out.frozen 1; clear Oh qX uG tL OJ OM yk)
    | (generalize LG : W6.setCell ⟨g, 1, none⟩ (.string s) = W7; have Lm : aH W7 g (aZ b.addr s b.slots (.slice Af b.free.length cf) (.slice Aa b.attrs.length ca)) 57 := (by rw [← LG]; exact Dn.out.set 1 (.string s)); have ql : W6.grownBy W7 (some g) := (by rw [← LG]; exact bO W6 g 1 (.string s)); refine az rfl 57 (.tmp 2) rfl g rfl _ _ _ Lm Try.underlying57 rfl 68 (by kernel_rfl) (ag _ _ _ _ _ HL.out) ?_; have OB := ak Lm; have Ma := ak (OA.out.grown ql (fun e => HNE.out (Option.some.inj e).symm)); have S0 := ak (bX OI.out Dn.out (by decide) ql); have vM := ak (bX OL.out Dn.out (by decide) ql); have Js := ak (Ck.out.grown ql Ck.out.size (by intro k hk; cases hk; exact HG.out)); clear LG Lm ql Ss Sf Dn OA OI OL Ck)
    | (refine aN rfl 57 (.tmp 4) (.tmp 19) rfl g4 (aZ b.addr s b.slots (.slice Af b.free.length cf) (.slice Aa b.attrs.length ca)) rfl rfl 57 _ Ma.out 68 (by kernel_rfl) (ag _ _ _ _ _ HL.out) rfl (b4 _ _ _ _ _ rfl rfl) ?_; intro W8 RT zh))
   exact bodyPost_ret (eU rfl _ _ g4 57 _ (0, 0) _ rfl RT Try.underlying57 rfl (by simp only [List.size_toArray]; exact cg _ (ag _ _ _ _ _ HL.out))) rfl ⟨_, rfl, ⟨HL.out, _, _, rfl, bX S0.out Ma.out (by decide) zh, bX vM.out Ma.out (by decide) zh⟩, Js.out.grown zh Js.out.size (by intro k hk; cases hk; exact xK.out)⟩
end Go.Proofs.Ytemhalnhbgkbcaa.V
end

section
namespace Go.Proofs.Ytemhalnhbgkbcaa.V
def mL.T1 : Bool × List (List Nat × List Nat) := (true, [([], []), ([0], [0]), ([], []), ([2], [2]), ([1, 3], [1, 3])])
def mL.B1 : List Nat := [0, 1, 0, 4, 15]
theorem mL.tab1 : dC .any (opsOf Try.f92 1) = mL.T1 := by kernel_rfl
theorem mL.bits1 : cU mL.T1.2 mL.B1 = true := by kernel_rfl
set_option maxHeartbeats 4000000 in
set_option maxRecDepth 100000 in
theorem tZ (b : Bk) (hk : BkOk b) (a : Int) (h0 : 0 ≤ a) (h1 : a < 4294967296) (v : Value) (w : World) (h : fS w v b) :
  Calls Try.prog 92 #[v, .int .u32 a] w fun e w' => e = .returned (.tuple #[.int .i64 (if bV a = b.addr then a - b.addr else 0), .bool (decide (bV a = b.addr))]) ∧ Below w.heap.size w w' := by
 obtain ⟨A, c, A', c', rfl, hr⟩ := h
 have HF := ak (yF a h0 h1)
 have lU := hk.a0
 have cy := hk.a1
 obtain ⟨f, hf⟩ : ∃ f, f = bV a := ⟨_, rfl⟩
 have HFE := ak hf
 rw [← hf] at HF ⊢
 have ha := b.addr
 obtain ⟨ba, hba⟩ : ∃ ba, ba = b.addr := ⟨_, rfl⟩
 have hsub : f = ba → 0 ≤ a - ba ∧ a - ba < 64 := by
  intro e
  rw [← e, hf]
  unfold bV
  omega
 clear hr hf
 by_cases he : f = b.addr
 ·have q1 : (f == b.addr) = true := by rw [beq_iff_eq]; exact he
  have q2 : (f != b.addr) = false := by rw [bne, q1]; rfl
  rw [if_pos he, decide_eq_true he]
  have hsb := hsub (by rw [hba]; exact he)
  rw [hba] at hsb
  clear hsub hba he
  go_enter Try.func92, Try.ntmps92
  go_wp2_with (first
   | (refine aE rfl 57 (.tmp 0) rfl _ rfl ?_; intro g W1 hg hbx cy; have HX := ak (hbx.below (bo (Below.refl _ _))); have HB := ak (bo cy); clear hbx cy hg))
  refine cW (n := 5) (S := fun w' => w'.cell? ⟨g, 0, none⟩ = some (.int .u32 b.addr)) (ds := []) #[false, false, false, false, false] (by kernel_rfl) rfl rfl (HX.out.cell 0 _ rfl) (fun hHeld => ?_); refine bK mL.tab1 mL.bits1 (fun ab bj => ?_)
  refine pu 0 ab.out ?_
  refine pu 2 ab.out ?_
  refine tk 3 ab.out bj.out hHeld ?_ (hv := by intro w' aU; have s0 := aU; go_simp; with_reducible rfl)
  refine on 1 ab.out (fun K hK => ?_)
  refine gs Try.func80 #[.int .u32 a] (gi.calls _ _ _ HF.out) ?_
  rintro e V3 ⟨rfl, iP⟩
  refine ⟨_, rfl, ?_⟩
  have nK := ak (HX.out.below iP); have jL := ak (HB.out.trans (iP.mono HB.out.size)); clear iP
  refine kn hK (nK.out.cell 0 _ rfl) (fun hHeld => ?_)
  clear hK K
  refine pu 4 ab.out ?_
  refine dn ab.out ?_
  have lT := nK.out.cell 0 _ rfl
  go_wp2
  go_ret2
  exact ⟨rfl, jL.out⟩
 ·have q1 : (f == b.addr) = false := by rw [beq_eq_false_iff_ne]; exact he
  have q2 : (f != b.addr) = true := by rw [bne, q1]; rfl
  rw [if_neg he, decide_eq_false he]
  clear hsub hba he
  go_enter Try.func92, Try.ntmps92
  go_wp2_with (first
   | (refine aE rfl 57 (.tmp 0) rfl _ rfl ?_; intro g W1 hg hbx cy; have HX := ak (hbx.below (bo (Below.refl _ _))); have HB := ak (bo cy); clear hbx cy hg))
  refine cW (n := 5) (S := fun w' => w'.cell? ⟨g, 0, none⟩ = some (.int .u32 b.addr)) (ds := []) #[false, false, false, false, false] (by kernel_rfl) rfl rfl (HX.out.cell 0 _ rfl) (fun hHeld => ?_); refine bK mL.tab1 mL.bits1 (fun ab bj => ?_)
  refine pu 0 ab.out ?_
  refine pu 2 ab.out ?_
  refine tk 3 ab.out bj.out hHeld ?_ (hv := by intro w' aU; have s0 := aU; go_simp; with_reducible rfl)
  refine on 1 ab.out (fun K hK => ?_)
  refine gs Try.func80 #[.int .u32 a] (gi.calls _ _ _ HF.out) ?_
  rintro e V3 ⟨rfl, iP⟩
  refine ⟨_, rfl, ?_⟩
  have nK := ak (HX.out.below iP); have jL := ak (HB.out.trans (iP.mono HB.out.size)); clear iP
  refine kn hK (nK.out.cell 0 _ rfl) (fun hHeld => ?_)
  clear hK K
  refine pu 4 ab.out ?_
  refine dn ab.out ?_
  go_wp2
  go_ret2
  exact ⟨rfl, jL.out⟩
end Go.Proofs.Ytemhalnhbgkbcaa.V
end

section
namespace Go.Proofs.Ytemhalnhbgkbcaa.V
attribute [local go_sem] ez ew fa e9 ec eb ey ev
attribute [local go_sem high] zO
def dZ.l0 : Nat → List (S85) → Int → Int → ByteArray → ByteArray → Option (Int)
 | 0, _, _, _, _, _ => none
 | k + 1, x0, x7, x8, wj, wi => if x8 < x7 then (if 0 ≤ x8 then (if x8 < (x0.length : Int) then (if (wj.toList == (((cH x0 x8).f0).toList) && (wi.toList == (((cH x0 x8).f1).toList))) = true then (some x8) else (dZ.l0 k x0 x7 (wrap64 (x8 + 1)) wj wi)) else (none)) else (none)) else (some (-1))
def dZ.f (k : Nat) (l0 : List (S85)) (kK : ByteArray) (kJ : ByteArray) : Option (Int) := dZ.l0 k l0 (l0.length : Int) 0 kK kJ
set_option maxHeartbeats 8000000 in
set_option maxRecDepth 100000 in
theorem dZ.calls (k : Nat) (A0 : Option Addr) (c0 : Nat) (l0 : List (S85)) (kK : ByteArray) (kJ : ByteArray) (r : Int) (w : World) (qW : Kd.C kc w A0 l0.length l0) (lT : l0.length ≤ c0) (h : dZ.f k l0 kK kJ = some r) :
  Calls Try.prog 110 #[.slice A0 l0.length c0, .agg #[.string kK, .string kJ]] w fun e w' => e = .returned (.int .i64 r) ∧ Below w.heap.size w w' := by
 have Gn := Try.underlying85
 have rv := ak qW
 have Jq := ak lT
 clear qW lT
 have HB := ak (Below.refl w.heap.size w)
 have H : (dZ.l0 k l0 (l0.length : Int) 0 kK kJ) = some r := h
 clear h
 have H' := ak H
 clear H
 go_enter Try.func110, Try.ntmps110
 go_wp2_with (first | ((with_reducible refine ax (N := 3) rfl ?_); refine eX ?hg (N := 3) ?hd (cs := #[.string kK, .string kJ]) (t := 85) ?hr ?_; (case hd => rfl); (case hg => rfl); (case hr => first | (go_simp; done) | (go_simp; rfl)); intro iM hg w3 hbox hb; have cA := ak (bE (by repeat (first | (with_reducible first | exact HB.out | apply al | apply af | apply aq) | exact HB.out)) hb); have cP := ak (hbox); have dh := ak ((by rw [hg]; exact (bs (by repeat (first | (with_reducible first | exact HB.out | apply al | apply af | apply aq) | exact HB.out))) : w.heap.size ≤ iM)); have dN := ak ((by rw [hg]; exact (bs (by repeat (first | (with_reducible first | exact HB.out | apply al | apply af | apply aq) | exact HB.out))) : w.heap.size ≤ iM)); clear HB; have HB := cA; have iO := cP; have Cm := dh; have oz := dN; clear cA cP dh dN; clear hb hbox hg))
 repeat (go_quiet (first | ((with_reducible refine ax (N := 3) rfl ?_); refine eX ?hg (N := 3) ?hd (cs := #[.string kK, .string kJ]) (t := 85) ?hr ?_; (case hd => rfl); (case hg => rfl); (case hr => first | (go_simp; done) | (go_simp; rfl)); intro iM hg w3 hbox hb; have cA := ak (bE (by repeat (first | (with_reducible first | exact HB.out | apply al | apply af | apply aq) | exact HB.out)) hb); have cP := ak (hbox); have dh := ak ((by rw [hg]; exact (bs (by repeat (first | (with_reducible first | exact HB.out | apply al | apply af | apply aq) | exact HB.out))) : w.heap.size ≤ iM)); have dN := ak ((by rw [hg]; exact (bs (by repeat (first | (with_reducible first | exact HB.out | apply al | apply af | apply aq) | exact HB.out))) : w.heap.size ≤ iM)); clear HB; have HB := cA; have iO := cP; have Cm := dh; have oz := dN; clear cA cP dh dN; clear hb hbox hg)); try go_wp2_with (first | ((with_reducible refine ax (N := 3) rfl ?_); refine eX ?hg (N := 3) ?hd (cs := #[.string kK, .string kJ]) (t := 85) ?hr ?_; (case hd => rfl); (case hg => rfl); (case hr => first | (go_simp; done) | (go_simp; rfl)); intro iM hg w3 hbox hb; have cA := ak (bE (by repeat (first | (with_reducible first | exact HB.out | apply al | apply af | apply aq) | exact HB.out)) hb); have cP := ak (hbox); have dh := ak ((by rw [hg]; exact (bs (by repeat (first | (with_reducible first | exact HB.out | apply al | apply af | apply aq) | exact HB.out))) : w.heap.size ≤ iM)); have dN := ak ((by rw [hg]; exact (bs (by repeat (first | (with_reducible first | exact HB.out | apply al | apply af | apply aq) | exact HB.out))) : w.heap.size ≤ iM)); clear HB; have HB := cA; have iO := cP; have Cm := dh; have oz := dN; clear cA cP dh dN; clear hb hbox hg)))
 go_loopg [8] k (fun kq v8 w' => ∃ (gu : Int), v8 = .int .i64 gu ∧ Aside0 (dZ.l0 kq l0 (l0.length : Int) gu kK kJ = some r) ∧ Aside0 (kq ≤ k) ∧ Aside0 (w'.heap[iM]? = some (.cells #[.string kK, .string kJ] 85 (0, 0))) ∧ Aside0 (Below w.heap.size w w'))
 case atStart => exact ⟨(0), (by first | rfl | (simp; done) | (simp [*]; done)), H', ⟨Nat.le_refl _⟩, ⟨by (with_reducible repeat (first | refine aK ?_ _ | refine aT ?_ | refine aM ?_ _)); exact iO.out⟩, ⟨by repeat (first | (with_reducible first | exact HB.out | apply al | apply af | apply aq | refine aQ ?_ oz.out) | exact HB.out)⟩⟩
 case round =>
  clear H'
  obtain ⟨gu, rfl, HA, du, iO, HB⟩ := hrel
  cases gk with
  | zero => exact absurd HA.out (by simp [dZ.l0])
  | succ k1 =>
   have H := HA.out
   clear HA
   simp only [dZ.l0] at H
   by_cases c4 : gu < (l0.length : Int)
   ·rw [if_pos c4] at H
    have uw : decide (gu < (l0.length : Int)) = true := decide_eq_true c4
    clear c4
    by_cases c5 : 0 ≤ gu
    ·rw [if_pos c5] at H
     have vX : decide (0 ≤ gu) = true := decide_eq_true c5
     clear c5
     by_cases c6 : gu < (l0.length : Int)
     ·rw [if_pos c6] at H
      have nA : decide (gu < (l0.length : Int)) = true := decide_eq_true c6
      clear c6
      by_cases c7 : (kK.toList == (((cH l0 gu).f0).toList) && (kJ.toList == (((cH l0 gu).f1).toList))) = true
      ·rw [if_pos c7] at H
       have qv : (kK.toList == (((cH l0 gu).f0).toList) && (kJ.toList == (((cH l0 gu).f1).toList))) = true := c7
       (try (have Pc : decide (kK.toList = (((cH l0 gu).f0).toList) && (kJ.toList == (((cH l0 gu).f1).toList))) = true := by simpa using c7))
       (try (have Pb : (kK.toList == (((cH l0 gu).f0).toList) && (kJ.toList == (((cH l0 gu).f1).toList))) = true := by simpa using c7))
       clear c7
       obtain rfl := Option.some.inj H
       have Fa : wr.cell? ⟨iM, 0, none⟩ = some (.string kK) := (aC iO.out 0).trans rfl
       have E9 : wr.cell? ⟨iM, 1, none⟩ = some (.string kJ) := (aC iO.out 1).trans rfl
       have E8 := ao iO.out 0
       have E7 := ao iO.out 1
       have om : 0 ≤ (gu : Int) := of_decide_eq_true (by first | (with_reducible assumption) | assumption)
       have oh : gu < (l0.length : Int) := of_decide_eq_true (by first | (with_reducible assumption) | assumption)
       obtain ⟨GU, yG, kQ, kP⟩ := kH rv.out gu om oh
       cases yG
       replace kQ := (HB.out.cell (World.block_lt_of_cell? w _ kQ)).trans kQ
       replace kP := (HB.out.cell (World.block_lt_of_cell? w _ kP)).trans kP
       replace om := eq_true om
       replace oh := eq_true oh
       go_wp2
       repeat (go_quiet (fail); try go_wp2)
       go_ret
       exact ⟨by first | rfl | (simp [cw, ct] <;> rfl) | (simp [*, cw, ct] <;> rfl), by repeat (first | (with_reducible first | exact HB.out | apply al | apply af | apply aq | refine aQ ?_ oz.out) | exact HB.out)⟩
      ·rw [if_neg c7] at H
       have qv : (kK.toList == (((cH l0 gu).f0).toList) && (kJ.toList == (((cH l0 gu).f1).toList))) = false := by simpa using c7
       (try (have Pc : decide (kK.toList = (((cH l0 gu).f0).toList) && (kJ.toList == (((cH l0 gu).f1).toList))) = false := by simpa using c7))
       (try (have Pb : (kK.toList == (((cH l0 gu).f0).toList) && (kJ.toList == (((cH l0 gu).f1).toList))) = false := by simpa using c7))
       (try (have T0 : ¬ (kK.toList = (((cH l0 gu).f0).toList) && (kJ.toList == (((cH l0 gu).f1).toList))) := by simpa using c7))
       clear c7
       have H' := ak H
       clear H
       have Sh : wr.cell? ⟨iM, 0, none⟩ = some (.string kK) := (aC iO.out 0).trans rfl
       have Sg : wr.cell? ⟨iM, 1, none⟩ = some (.string kJ) := (aC iO.out 1).trans rfl
       have R3 := ao iO.out 0
       have R2 := ao iO.out 1
       have om : 0 ≤ (gu : Int) := of_decide_eq_true (by first | (with_reducible assumption) | assumption)
       have oh : gu < (l0.length : Int) := of_decide_eq_true (by first | (with_reducible assumption) | assumption)
       obtain ⟨GU, yG, kQ, kP⟩ := kH rv.out gu om oh
       cases yG
       replace kQ := (HB.out.cell (World.block_lt_of_cell? w _ kQ)).trans kQ
       replace kP := (HB.out.cell (World.block_lt_of_cell? w _ kP)).trans kP
       replace om := eq_true om
       replace oh := eq_true oh
       go_wp2
       repeat (go_quiet (fail); try go_wp2)
       go_roundg k1
       case measure => have := du.out; omega
       case rel => exact ⟨(wrap64 (gu + 1)), (by first | rfl | (simp; done) | (simp [*]; done)), H', ⟨by have := du.out; omega⟩, ⟨by (with_reducible repeat (first | refine aK ?_ _ | refine aT ?_ | refine aM ?_ _)); exact iO.out⟩, ⟨by repeat (first | (with_reducible first | exact HB.out | apply al | apply af | apply aq | refine aQ ?_ oz.out) | exact HB.out)⟩⟩
     ·rw [if_neg c6] at H
      exact absurd H (by simp)
    ·rw [if_neg c5] at H
     exact absurd H (by simp)
   ·rw [if_neg c4] at H
    have uw : decide (gu < (l0.length : Int)) = false := decide_eq_false c4
    clear c4
    obtain rfl := Option.some.inj H
    go_wp2
    repeat (go_quiet (fail); try go_wp2)
    go_ret
    exact ⟨by first | rfl | (simp [cw, ct] <;> rfl) | (simp [*, cw, ct] <;> rfl), by repeat (first | (with_reducible first | exact HB.out | apply al | apply af | apply aq | refine aQ ?_ oz.out) | exact HB.out)⟩
end Go.Proofs.Ytemhalnhbgkbcaa.V
end

section
namespace Go.Proofs.Ytemhalnhbgkbcaa.V
def OC (W : World) (b1 g : Nat) (b : Bk) : Prop := b.slots.length = 64 ∧ ∃ vf va, aH W g (aZ b.addr b.aff b.slots vf va) 57 ∧ Kd.R (Kd.int .u8) 5 W b1 (fun _ => True) vf b.free ∧ Kd.R kc 85 W b1 (fun _ => True) va b.attrs
def gH (S : Nat → Prop) (W W' : World) : Prop := W.heap.size ≤ W'.heap.size ∧ ∀ k, k < W.heap.size → ¬ S k → W'.heap[k]? = W.heap[k]?
def Eg (W : World) (b1 g : Nat) (k : Nat) : Prop := k = g ∨ b1 ≤ k ∧ ∃ cells, W.heap[k]? = some (.cells cells 85 (0, 0))
def fO (l : List At) (a : At) : Option Nat := l.findIdx? (sameAt a)
def eF (l : List At) (a : At) : Nat := match fO l a with | some i => i + 1 | none => l.length + 1
def eh (l : List At) (a : At) : List At := match fO l a with | some _ => l | none => l ++ [a]
theorem JN (l : List At) (hl : l.length ≤ 1000) (a : At) : dZ.f (l.length + 5) l a.f0 a.f1 = some (match fO l a with | some i => (i : Int) | none => -1) := by
 have key : ∀ (d i k : Nat), i + d = l.length → d < k → dZ.l0 k l (l.length : Int) (i : Int) a.f0 a.f1 = some (match (l.drop i).findIdx? (sameAt a) with | some j => ((i + j : Nat) : Int) | none => -1) := by
  intro d
  induction d with
  | zero =>
   intro i k hi hk
   obtain ⟨k, rfl⟩ : ∃ m, k = m + 1 := ⟨k - 1, by omega⟩
   rw [dZ.l0, if_neg (by omega), List.drop_of_length_le (by omega)]
   rfl
  | succ d ih =>
   intro i k hi hk
   obtain ⟨k, rfl⟩ : ∃ m, k = m + 1 := ⟨k - 1, by omega⟩
   have hil : i < l.length := by omega
   have e : cH l (i : Int) = l[i] := by simp [cH, List.getD, hil]
   rw [dZ.l0, if_pos (by omega), if_pos (by omega), if_pos (by omega), e, List.drop_eq_getElem_cons hil, List.findIdx?_cons]
   cases h : sameAt a l[i] with
   | true =>
    have h' : (a.f0.toList == l[i].f0.toList && a.f1.toList == l[i].f1.toList) = true := h
    rw [h', if_pos rfl]
    simp
   | false =>
    have h' : (a.f0.toList == l[i].f0.toList && a.f1.toList == l[i].f1.toList) = false := h
    rw [h', if_neg (by decide), iB ((i : Int) + 1) (by omega) (by omega), show (i : Int) + 1 = ((i + 1 : Nat) : Int) by omega, ih (i + 1) k (by omega) (by omega)]
    cases (l.drop (i + 1)).findIdx? (sameAt a) with
    | none => rfl
    | some j =>
     show some ((i + 1 + j : Nat) : Int) = some ((i + (j + 1) : Nat) : Int)
     rw [show i + 1 + j = i + (j + 1) by omega]
 unfold dZ.f
 rw [show (0 : Int) = ((0 : Nat) : Int) from rfl, key l.length 0 _ (by omega) (by omega), List.drop_zero]
 unfold fO
 cases l.findIdx? (sameAt a) with
 | none => rfl
 | some j => simp
theorem vS {l : List At} {a : At} {i : Nat} (h : fO l a = some i) : i < l.length := by
 unfold fO at h
 rw [List.findIdx?_eq_some_iff_getElem] at h
 exact h.1
def lh.T1 : Bool × List (List Nat × List Nat) := (true, [([], []), ([0], [0]), ([1], [1]), ([2], [2]), ([], []), ([3, 4], [3, 4]), ([5, 5, 0, 1, 2, 3, 4, 5], [5])])
def lh.B1 : List Nat := [0, 1, 3, 7, 0, 31, 63]
theorem lh.tab1 : dC .any (opsOf Try.f90 1) = lh.T1 := by kernel_rfl
theorem lh.bits1 : cU lh.T1.2 lh.B1 = true := by kernel_rfl
def nf.T4 : Bool × List (List Nat × List Nat) := (true, [([], []), ([], []), ([1], [1]), ([2], [2]), ([3], [3]), ([], []), ([5], [5]), ([4, 6], [4, 6]), ([0, 0, 1, 2, 3, 4, 5, 6, 7], [0]), ([8, 0, 1, 2, 3, 4, 5, 6, 7], [8]), ([9, 7, 7, 0, 1, 2, 3, 4, 5, 6, 7], [7, 9])])
def nf.B4 : List Nat := [0, 0, 2, 6, 14, 0, 32, 126, 255, 511, 1023]
theorem nf.tab4 : dC .any (opsOf Try.f90 4) = nf.T4 := by kernel_rfl
theorem nf.bits4 : cU nf.T4.2 nf.B4 = true := by kernel_rfl
set_option maxHeartbeats 4000000 in
set_option maxRecDepth 100000 in
theorem pq (b : Bk) (hal : b.attrs.length ≤ 100) (a : At) (g b1 base : Nat) (W : World) (hbg : base ≤ g) (hbb : base ≤ b1) (Gy : b1 ≤ W.heap.size) (h : OC W b1 g b) :
  Calls Try.prog 90 #[.pointer (some ⟨g, 0, none⟩), .agg #[.string a.f0, .string a.f1]] W fun e W' => e = .returned (.int .u8 (eF b.attrs a : Nat)) ∧ OC W' b1 g ⟨b.addr, b.aff, b.slots, b.free, eh b.attrs a⟩ ∧ Below base W W' ∧ gH (Eg W b1 g) W W' := by
 obtain ⟨hl, vf, va, hx, hf, ha⟩ := h
 have HG := ak hbg
 have HBB := ak hbb
 have HBW := ak Gy
 have hbase : base ≤ W.heap.size := Nat.le_trans hbb Gy
 have HROW := ak (show ∀ k, va.ownBlock = some k → Eg W b1 g k from fun k hk => by
  obtain ⟨hr, _⟩ := Kd.R_bound ha
  obtain ⟨_, h2, _, q, hq, h3⟩ := hr k hk
  refine Or.inr ⟨h2, ?_⟩
  rcases List.mem_cons.1 hq with rfl | hq
  ·exact h3
  ·cases hq)
 have HL := ak hl
 have hfi := JN b.attrs (by omega) a
 obtain ⟨A, c, rfl⟩ := Kd.R_slice ha
 obtain ⟨Af, cf, rfl⟩ := Kd.R_slice hf
 have HX := ak hx
 have HF := ak hf
 have HA := ak ha
 obtain ⟨A0, c0, hq, hcc, hC⟩ := Kd.R_reads ha
 cases hq
 have HCC := ak hcc
 have HC := ak hC
 clear hbg hbb Gy hl hx hf ha hcc hC
 cases hi : fO b.attrs a with
 | some i =>
  have hil := vS hi
  have e1 : eF b.attrs a = i + 1 := by unfold eF; rw [hi]
  have e2 : eh b.attrs a = b.attrs := by unfold eh; rw [hi]
  rw [hi] at hfi
  rw [e1, e2]
  have HFI := ak hfi
  have hneg : decide ((i : Int) < 0) = false := decide_eq_false (by omega)
  clear hfi hi e1 e2
  go_enter Try.func90, Try.ntmps90
  go_wp2_with (first
   | (refine aE rfl 85 (.tmp 1) rfl _ rfl ?_; intro ga W1 hga hbx cy; have hbd : Below W.heap.size W W1.drew := bo cy; have sU := ak (hbx.below (bo (Below.refl _ _))); have ij := ak (HX.out.below hbd); have jK := ak (Kd.R_below HF.out hbd); have j4 := ak (Kd.R_below HA.out hbd); have Dt := ak (Kd.C_below HC.out hbd); have cn := ak (hbd.mono hbase); have HBD := ak hbd; have HGA := ak hga; clear hbx cy hga hbd))
  refine cW (n := 7) (S := fun w' => w'.cell? ⟨g, 67, none⟩ = some (.slice A b.attrs.length c) ∧ w'.cell? ⟨ga, 0, none⟩ = some (.string a.f0) ∧ w'.cell? ⟨ga, 1, none⟩ = some (.string a.f1)) (ds := []) #[false, false, false, false, false, false, false] (by kernel_rfl) rfl rfl ⟨ij.out.cell 67 _ (fi _ _ _ _ _ HL.out), sU.out.cell 0 _ rfl, sU.out.cell 1 _ rfl⟩ (fun hHeld => ?_); refine bK lh.tab1 lh.bits1 (fun ab bj => ?_)
  refine pu 0 ab.out ?_
  refine pu 1 ab.out ?_
  refine pu 2 ab.out ?_
  refine tk 3 ab.out bj.out hHeld ?_ (hv := by intro w' aU; obtain ⟨s0, s1, s2⟩ := aU; go_simp; with_reducible rfl)
  refine tk 4 ab.out bj.out hHeld ?_ (hv := by intro w' aU; obtain ⟨s0, s1, s2⟩ := aU; go_simp; with_reducible rfl)
  refine on 5 ab.out (fun K hK => ?_)
  refine gs Try.func110 #[.slice A b.attrs.length c, .agg #[.string a.f0, .string a.f1]] (dZ.calls _ A c b.attrs a.f0 a.f1 _ _ Dt.out HCC.out HFI.out) ?_
  rintro e V3 ⟨rfl, iP⟩
  refine ⟨_, rfl, ?_⟩
  have nK := ak (ij.out.below iP); have uF := ak (sU.out.below iP); have jL := ak (cn.out.trans (iP.mono (Nat.le_trans hbase cn.out.size))); skip
  refine kn hK ⟨nK.out.cell 67 _ (fi _ _ _ _ _ HL.out), uF.out.cell 0 _ rfl, uF.out.cell 1 _ rfl⟩ (fun hHeld => ?_)
  clear hK K
  refine pu 6 ab.out ?_
  refine dn ab.out ?_
  have hbd : Below W1.drew.heap.size W1.drew V3 := iP
  go_wp2
  go_ret
  exact ⟨by simp, ⟨HL.out, _, _, nK.out, Kd.R_below jK.out hbd, Kd.R_below j4.out hbd⟩, jL.out, Nat.le_trans HBD.out.size hbd.size, fun k hk _ => (hbd.block k (Nat.lt_of_lt_of_le hk HBD.out.size)).trans (HBD.out.block k hk)⟩
 | none =>
  have e1 : eF b.attrs a = b.attrs.length + 1 := by unfold eF; rw [hi]
  have e2 : eh b.attrs a = b.attrs ++ [a] := by unfold eh; rw [hi]
  rw [hi] at hfi
  rw [e1, e2]
  have HFI := ak hfi
  obtain ⟨L, hL⟩ : ∃ L, L = b.attrs ++ [a] := ⟨_, rfl⟩
  have HLL := ak hL
  rw [← hL]
  clear hfi hi e1 e2 hL
  go_enter Try.func90, Try.ntmps90
  go_wp2_with (first
   | (refine aE rfl 85 (.tmp 1) rfl _ rfl ?_; intro ga W1 hga hbx cy; have hbd : Below W.heap.size W W1.drew := bo cy; have sU := ak (hbx.below (bo (Below.refl _ _))); have ij := ak (HX.out.below hbd); have jK := ak (Kd.R_below HF.out hbd); have j4 := ak (Kd.R_below HA.out hbd); have Dt := ak (Kd.C_below HC.out hbd); have cn := ak (hbd.mono hbase); have HBD := ak hbd; have HGA := ak hga; clear hbx cy hga hbd))
  refine cW (n := 7) (S := fun w' => w'.cell? ⟨g, 67, none⟩ = some (.slice A b.attrs.length c) ∧ w'.cell? ⟨ga, 0, none⟩ = some (.string a.f0) ∧ w'.cell? ⟨ga, 1, none⟩ = some (.string a.f1)) (ds := []) #[false, false, false, false, false, false, false] (by kernel_rfl) rfl rfl ⟨ij.out.cell 67 _ (fi _ _ _ _ _ HL.out), sU.out.cell 0 _ rfl, sU.out.cell 1 _ rfl⟩ (fun hHeld => ?_); refine bK lh.tab1 lh.bits1 (fun ab bj => ?_)
  refine pu 0 ab.out ?_
  refine pu 1 ab.out ?_
  refine pu 2 ab.out ?_
  refine tk 3 ab.out bj.out hHeld ?_ (hv := by intro w' aU; obtain ⟨s0, s1, s2⟩ := aU; go_simp; with_reducible rfl)
  refine tk 4 ab.out bj.out hHeld ?_ (hv := by intro w' aU; obtain ⟨s0, s1, s2⟩ := aU; go_simp; with_reducible rfl)
  refine on 5 ab.out (fun K hK => ?_)
  refine gs Try.func110 #[.slice A b.attrs.length c, .agg #[.string a.f0, .string a.f1]] (dZ.calls _ A c b.attrs a.f0 a.f1 _ _ Dt.out HCC.out HFI.out) ?_
  rintro e V3 ⟨rfl, iP⟩
  refine ⟨_, rfl, ?_⟩
  have nK := ak (ij.out.below iP); have uF := ak (sU.out.below iP); have jL := ak (cn.out.trans (iP.mono (Nat.le_trans hbase cn.out.size))); skip
  refine kn hK ⟨nK.out.cell 67 _ (fi _ _ _ _ _ HL.out), uF.out.cell 0 _ rfl, uF.out.cell 1 _ rfl⟩ (fun hHeld => ?_)
  clear hK K
  refine pu 6 ab.out ?_
  refine dn ab.out ?_
  have hbd : Below W1.drew.heap.size W1.drew V3.drew := bo iP
  have uH := ak (ij.out.below hbd)
  have uE := ak (sU.out.below hbd)
  have S1 := ak (Kd.R_below jK.out hbd)
  have r8 := ak (Kd.R_below j4.out hbd)
  have ob := ak (bo jL.out)
  have Cj := ak (show Below W.heap.size W V3.drew from HBD.out.trans (hbd.mono HBD.out.size))
  have SO := ak (show b1 ≤ V3.drew.heap.size from Nat.le_trans HBW.out Cj.out.size)
  have Gv := nK.out.cell 67 _ (fi _ _ _ _ _ HL.out)
  go_wp2_with fail
  clear Gv
  refine cW (n := 11) (S := fun w' => w'.cell? ⟨g, 67, none⟩ = some (.slice A b.attrs.length c) ∧ w'.cell? ⟨ga, 0, none⟩ = some (.string a.f0) ∧ w'.cell? ⟨ga, 1, none⟩ = some (.string a.f1)) (ds := [10]) #[false, false, false, false, false, false, false, false, false, false, false] (by kernel_rfl) rfl rfl ⟨uH.out.cell 67 _ (fi _ _ _ _ _ HL.out), uE.out.cell 0 _ rfl, uE.out.cell 1 _ rfl⟩ (fun hHeld => ?_); refine bK nf.tab4 nf.bits4 (fun ab bj => ?_)
  refine pu 0 ab.out ?_
  refine pu 1 ab.out ?_
  refine pu 2 ab.out ?_
  refine pu 3 ab.out ?_
  refine tk 4 ab.out bj.out hHeld ?_ (hv := by intro w' aU; obtain ⟨s0, s1, s2⟩ := aU; go_simp; with_reducible rfl)
  refine tk 5 ab.out bj.out hHeld ?_ (hv := by intro w' aU; obtain ⟨s0, s1, s2⟩ := aU; go_simp; with_reducible rfl)
  refine on 6 ab.out (fun K hK => ?_)
  have uG := ak (uH.out.alloc (.cells [Value.string a.f0, .string a.f1].toArray 85)); have tL := ak (uE.out.alloc (.cells [Value.string a.f0, .string a.f1].toArray 85))
  refine th (v := .slice (some ⟨V3.drew.heap.size, 0, none⟩) 1 1) (w1 := V3.drew.alloc (.cells [Value.string a.f0, .string a.f1].toArray 85)) (by rfl) ?_ ?_
  ·go_simp
   try rfl
  refine kn hK ⟨uG.out.cell 67 _ (fi _ _ _ _ _ HL.out), tL.out.cell 0 _ rfl, tL.out.cell 1 _ rfl⟩ (fun hHeld => ?_)
  clear hK K
  refine on 7 ab.out (fun K hK => ?_)
  refine Kd.R_append_step kc (w0 := V3.drew) b1 (by rfl) (.tmp 23) (.tmp 25) 55 85 (.agg #[.string ⟨#[]⟩, .string ⟨#[]⟩]) 32 rfl Try.underlying55 yA rfl (by decide) (by omega) _ b.attrs a [.string a.f0, .string a.f1] (fun _ => True) (fun _ => False) rfl rfl (yx _ _ _ _) (fun _ h => h.elim) (fun _ _ => trivial) r8.out (Below.refl _ _) SO.out (by omega) ?_
  intro v8 w8 vH pg zh O2
  rw [← HLL.out] at vH
  have Dm := ak (uH.out.grown zh (uH.out.ne_row r8.out (by decide)))
  have SZ := ak (Kd.R_over S1.out r8.out (by decide) zh)
  have Tc := ak vH
  have Ta := ak (ob.out.trans (pg.mono HBB.out))
  have Mm := ak zh
  have Oz := ak (uE.out.grown zh (fun e => by have := Kd.R_lt HA.out _ e.symm; have := HGA.out; omega))
  obtain ⟨A8, c8, rfl⟩ := Kd.R_slice vH
  clear vH pg O2
  refine kn hK ⟨Dm.out.cell 67 _ (fi _ _ _ _ _ HL.out), Oz.out.cell 0 _ rfl, Oz.out.cell 1 _ rfl⟩ (fun hHeld => ?_)
  clear hK K
  refine pu 8 ab.out ?_
  refine pu 9 ab.out ?_
  refine pr (i := 10) (N := none) #[true, true, true, true, true, true, true, true, true, true, true] rfl rfl (lL ab.out (by kernel_rfl)) (by decide) (fun K hK => ?_)
  have O0 := Dm.out.frozen 67; have Gv := Dm.out.cell 67 _ (fi _ _ _ _ _ HL.out)
  refine oA (w1 := ?_) (by rfl) rfl ?_ ?_
  rotate_left
  ·go_simp
   rfl
  refine hK.out _ _ ?_
  clear hK K
  refine dn ab.out ?_
  have SN : aH (w8.setCell ⟨g, 67, none⟩ (.slice A8 L.length c8)) g (aZ b.addr b.aff b.slots (.slice Af b.free.length cf) (.slice A8 L.length c8)) 57 := by
   have := Dm.out.set 67 (.slice A8 L.length c8)
   rwa [ti _ _ _ _ _ HL.out] at this
  go_wp2
  go_ret
  refine ⟨by simp, ⟨HL.out, _, _, SN, bX SZ.out Dm.out (by decide) (bO _ _ _ _), bX Tc.out Dm.out (by decide) (bO _ _ _ _)⟩, Below.setCell Ta.out (p := ⟨g, 67, none⟩) HG.out _, ?_, fun k hk hns => ?_⟩
  ·have h1 := Cj.out.size
   have h2 := Mm.out.size
   have h3 := (bO w8 g 67 (.slice A8 L.length c8)).size
   omega
  ·have h1 := Cj.out.block k hk
   have h2 := Mm.out.block k (Nat.lt_of_lt_of_le hk Cj.out.size) (fun e => hns (HROW.out k e.symm))
   have h3 := (bO w8 g 67 (.slice A8 L.length c8)).block k (Nat.lt_of_lt_of_le hk (Nat.le_trans Cj.out.size Mm.out.size)) (fun e => hns (Or.inl (Option.some.inj e)))
   exact h3.trans (h2.trans h1)
end Go.Proofs.Ytemhalnhbgkbcaa.V
end

section
namespace Go.Proofs.Ytemhalnhbgkbcaa.V
theorem gH.of_below {S : Nat → Prop} {W W1 : World} (h : Below W.heap.size W W1) : gH S W W1 := ⟨h.size, fun k hk _ => h.block k hk⟩
theorem gH.trans {S : Nat → Prop} {W W1 W2 : World} (h : gH S W W1) (k : gH S W1 W2) : gH S W W2 := ⟨Nat.le_trans h.1 k.1, fun q hq hs => (k.2 q (Nat.lt_of_lt_of_le hq h.1) hs).trans (h.2 q hq hs)⟩
theorem gH.of_grown {S : Nat → Prop} {W W1 : World} {row : Option Nat} (h : W.grownBy W1 row) (hs : ∀ k, some k = row → S k) : gH S W W1 := ⟨h.size, fun k hk hn => h.block k hk (fun e => hn (hs k e))⟩
theorem aH.keeps {S : Nat → Prop} {W W1 : World} {g t : Nat} {cs : List Value} (h : aH W g cs t) (hk : gH S W W1) (hs : ¬ S g) : aH W1 g cs t := (hk.2 g h.lt hs).trans h
theorem Kd.R_keeps {α : Type} {d : Kd α} {e base : Nat} {ok S : Nat → Prop} {W W1 : World} {v : Value} {xs : List α} (h : d.R e W base ok v xs) (hk : gH S W W1) (hs : ∀ k, ok k → k < W.heap.size → base ≤ k → (∃ q, q ∈ e :: d.E ∧ ∃ cells, W.heap[k]? = some (.cells cells q (0, 0))) → ¬ S k) : d.R e W1 base ok v xs :=
 Kd.R_mono (Kd.R_move (Kd.R_bound h) (fun k ⟨h1, h2, h3, h4⟩ => hk.2 k h3 (hs k h1 h3 h2 h4))) (fun _ hk => hk.1)
theorem Kd.R_keptrow {α β : Type} {d : Kd α} {d' : Kd β} {e e' base base' : Nat} {ok ok' : Nat → Prop} {W W1 : World} {u v : Value} {xs : List α} {ys : List β} (h : d.R e W base ok u xs) (hr : d'.R e' W base' ok' v ys) (ht : ∀ q, q ∈ e :: d.E → q ≠ e') (hk : gH (fun k => some k = v.ownBlock) W W1) : d.R e W1 base ok u xs :=
 Kd.R_keeps h hk (fun k _ _ _ ⟨q, hq, cells, hc⟩ hs => by
  obtain ⟨_, _, ho, _⟩ := hr
  obtain ⟨c2, h2⟩ := oS ho k hs.symm
  rw [h2] at hc
  injection hc with hc
  injection hc with _ hc
  exact ht q hq hc.symm)
theorem Kd.R_added {α : Type} {d : Kd α} {e base b1 g : Nat} {ok : Nat → Prop} {W W1 : World} {v : Value} {xs : List α} {cs : List Value} (h : d.R e W base ok v xs) (hx : aH W g cs 57) (ht : ∀ q, q ∈ e :: d.E → q ≠ 57 ∧ q ≠ 85) (hk : gH (Eg W b1 g) W W1) : d.R e W1 base ok v xs :=
 Kd.R_keeps h hk (fun k _ _ _ ⟨q, hq, cells, hc⟩ hs => by
  rcases hs with rfl | ⟨_, c2, h2⟩
  ·unfold aH at hx
   rw [hx] at hc
   injection hc with hc
   injection hc with _ hc
   exact (ht q hq).1 hc.symm
  ·rw [h2] at hc
   injection hc with hc
   injection hc with _ hc
   exact (ht q hq).2 hc.symm)
theorem aH.added {W W1 : World} {b1 g g' t : Nat} {cs : List Value} (h : aH W g' cs t) (hne : g' ≠ g) (hlt : g' < b1) (hk : gH (Eg W b1 g) W W1) : aH W1 g' cs t :=
 h.keeps hk (fun hs => by
  rcases hs with e | ⟨e, _⟩
  ·exact hne e
  ·omega)
section
variable {W W1 : World} {b1 b2 g g' t : Nat} {b : Bk}
theorem OC.open (h : OC W b1 g b) : ∃ A c A' c', aH W g (aZ b.addr b.aff b.slots (.slice A b.free.length c) (.slice A' b.attrs.length c')) 57 ∧ Kd.R (Kd.int .u8) 5 W b1 (fun _ => True) (.slice A b.free.length c) b.free ∧ Kd.R kc 85 W b1 (fun _ => True) (.slice A' b.attrs.length c') b.attrs := by
 obtain ⟨_, vf, va, hx, hf, ha⟩ := h
 obtain ⟨A, c, rfl⟩ := Kd.R_slice hf
 obtain ⟨A', c', rfl⟩ := Kd.R_slice ha
 exact ⟨A, c, A', c', hx, hf, ha⟩
theorem OC.l64 (h : OC W b1 g b) : b.slots.length = 64 := h.1
theorem OC.below (h : OC W b1 g b) (hb : Below W.heap.size W W1) : OC W1 b1 g b := by
 obtain ⟨hl, vf, va, hx, hf, ha⟩ := h
 exact ⟨hl, vf, va, hx.below hb, Kd.R_below hf hb, Kd.R_below ha hb⟩
theorem OC.drew (h : OC W b1 g b) : OC W.drew b1 g b := h.below (bo (Below.refl _ _))
theorem OC.lower (h : OC W b1 g b) (hb : b2 ≤ b1) : OC W b2 g b := by
 obtain ⟨hl, vf, va, hx, hf, ha⟩ := h
 exact ⟨hl, vf, va, hx, Kd.R_lower hf hb, Kd.R_lower ha hb⟩
theorem OC.lt (h : OC W b1 g b) : g < W.heap.size := by
 obtain ⟨A, c, A', c', hx, _, _⟩ := h.open
 exact hx.lt
theorem OC.box {cs : List Value} (h : OC W b1 g b) (hx' : aH W g' cs t) (ht : ∀ q, q ∈ [5, 85] → q ≠ t) (hne : g ≠ g') (hg : W.grownBy W1 (some g')) : OC W1 b1 g b := by
 obtain ⟨hl, vf, va, hx, hf, ha⟩ := h
 exact ⟨hl, vf, va, hx.grown hg (fun e => hne (Option.some.inj e)), bX hf hx' (fun q hq => by
  rcases List.mem_cons.1 hq with rfl | hq
  ·exact ht _ (by simp)
  ·cases hq) hg, bX ha hx' (fun q hq => by
  rcases List.mem_cons.1 hq with rfl | hq
  ·exact ht _ (by simp)
  ·cases hq) hg⟩
theorem OC.row {α : Type} {d : Kd α} {e base' : Nat} {ok : Nat → Prop} {v : Value} {xs : List α} (h : OC W b1 g b) (hr : d.R e W base' ok v xs) (he : e ≠ 57) (ht : ∀ q, q ∈ [5, 85] → q ≠ e) (hg : W.grownBy W1 v.ownBlock) : OC W1 b1 g b := by
 obtain ⟨hl, vf, va, hx, hf, ha⟩ := h
 exact ⟨hl, vf, va, hx.grown hg (hx.ne_row hr he), Kd.R_over hf hr (fun q hq => by
  rcases List.mem_cons.1 hq with rfl | hq
  ·exact ht _ (by simp)
  ·cases hq) hg, Kd.R_over ha hr (fun q hq => by
  rcases List.mem_cons.1 hq with rfl | hq
  ·exact ht _ (by simp)
  ·cases hq) hg⟩
theorem OC.slot (h : OC W b1 g b) (i : Nat) (hi : i < 64) (x : Int) : OC (W.setCell ⟨g, 2 + i, none⟩ (.int .u8 x)) b1 g ⟨b.addr, b.aff, b.slots.set i x, b.free, b.attrs⟩ := by
 obtain ⟨hl, vf, va, hx, hf, ha⟩ := h
 refine ⟨by simpa using hl, vf, va, ?_, bX hf hx (by decide) (bO _ _ _ _), bX ha hx (by decide) (bO _ _ _ _)⟩
 have := hx.set (2 + i) (.int .u8 x)
 rwa [qz _ _ _ _ _ hl i hi] at this
theorem OC.stored {vf va : Value} {qI : List Value} (hl : b.slots.length = 64) (hx : aH W g qI 57) (jf : aH W1 g (aZ b.addr b.aff b.slots vf va) 57) (hf : Kd.R (Kd.int .u8) 5 W b1 (fun _ => True) vf b.free) (ha : Kd.R kc 85 W b1 (fun _ => True) va b.attrs) (hg : W.grownBy W1 (some g)) : OC W1 b1 g b :=
 ⟨hl, vf, va, jf, bX hf hx (by decide) hg, bX ha hx (by decide) hg⟩
theorem OC.slotCell (h : OC W b1 g b) (i : Nat) (hi : i < 64) : W.cell? ⟨g, 2 + i, none⟩ = some (.int .u8 (b.slots.getD i 0)) := by
 obtain ⟨A, c, A', c', hx, _, _⟩ := h.open
 exact hx.cell _ _ (BZ _ _ _ _ _ h.l64 i hi)
theorem OC.frozen (h : OC W b1 g b) (j : Nat) : W.frozen? ⟨g, j, none⟩ = false := by
 obtain ⟨A, c, A', c', hx, _, _⟩ := h.open
 exact hx.frozen _
theorem OC.addrCell (h : OC W b1 g b) : W.cell? ⟨g, 0, none⟩ = some (.int .u32 b.addr) := by
 obtain ⟨A, c, A', c', hx, _, _⟩ := h.open
 exact hx.cell 0 _ rfl
end
end Go.Proofs.Ytemhalnhbgkbcaa.V
end

section
namespace Go.Proofs.Ytemhalnhbgkbcaa.V
def pV (l is : List Int) (x : Int) : List Int := is.foldl (fun l i => l.set i.toNat x) l
theorem vB (l is : List Int) (i x : Int) : pV l (is ++ [i]) x = (pV l is x).set i.toNat x := by simp [pV]
theorem zz (l is : List Int) (x : Int) : (pV l is x).length = l.length := by
 induction is generalizing l with
 | nil => rfl
 | cons i is ih =>
  show (pV (l.set i.toNat x) is x).length = _
  rw [ih, List.length_set]
theorem sX (l : List Int) (k : Nat) (h : k < l.length) : l.take (k + 1) = l.take k ++ [rd l k] := by
 rw [List.take_add_one, List.getElem?_eq_getElem h]
 simp [rd, List.getD, h]
def dS (b : Bk) (n : Nat) (a : At) : Bk := ⟨b.addr, b.aff, pV b.slots (b.free.take n) (eF b.attrs a : Nat), b.free, if n = 0 then b.attrs else eh b.attrs a⟩
def eV (b : Bk) (n : Nat) (a : At) : Bk := ⟨b.addr, b.aff, pV b.slots (b.free.take n) (eF b.attrs a : Nat), b.free.drop n, if n = 0 then b.attrs else eh b.attrs a⟩
def fj (b : Bk) (n : Nat) : List Int := (b.free.take n).map (fun i => b.addr + i)
theorem CZ (l : List At) (a : At) : fO (eh l a) a = some (eF l a - 1) := by
 unfold eh eF
 cases h : fO l a with
 | some i =>
  show fO l a = some (i + 1 - 1)
  rw [h]
  rfl
 | none =>
  show fO (l ++ [a]) a = some (l.length + 1 - 1)
  unfold fO at h ⊢
  rw [List.findIdx?_append, h]
  simp [lg]
theorem CV (l : List At) (a : At) : 1 ≤ eF l a := by
 unfold eF
 cases fO l a <;> simp
theorem num_add (l : List At) (a : At) : eF (eh l a) a = eF l a := by
 have h := CZ l a
 have hp := CV l a
 unfold eF at h hp ⊢
 rw [h]
 show _ - 1 + 1 = _
 omega
theorem add_add (l : List At) (a : At) : eh (eh l a) a = eh l a := by
 have h := CZ l a
 generalize eh l a = m at h ⊢
 unfold eh
 rw [h]
theorem pC (l : List At) (a : At) : (eh l a).length ≤ l.length + 1 := by
 unfold eh
 cases h : fO l a with
 | some i => show l.length ≤ _; omega
 | none => simp
def fG (b : Bk) (i : Nat) (a : At) : Bk := ⟨b.addr, b.aff, b.slots.set i (eF b.attrs a : Nat), b.free.filter (fun x => x != (i : Int)), eh b.attrs a⟩
theorem oI (b : Bk) (n : Nat) (a : At) (h : n < b.free.length) : dS b (n + 1) a = ⟨b.addr, b.aff, (dS b n a).slots.set (rd b.free n).toNat (eF (dS b n a).attrs a : Nat), b.free, eh (dS b n a).attrs a⟩ := by
 unfold dS
 by_cases h0 : n = 0
 ·subst h0
  simp only [sX b.free 0 h, vB, if_true, List.take_zero]
  rfl
 ·simp only [sX b.free n h, vB, if_neg h0, if_neg (show ¬ n + 1 = 0 by omega), num_add, add_add]
theorem oH (b : Bk) (n : Nat) (h : n < b.free.length) : fj b (n + 1) = fj b n ++ [b.addr + rd b.free n] := by
 unfold fj
 rw [sX b.free n h]
 simp
theorem iF (b : Bk) (n : Nat) (h : n ≤ b.free.length) : (fj b n).length = n := by
 unfold fj
 rw [List.length_map, List.length_take]
 omega
def gw (b : Bk) (x : Int) : Bool := decide (bV x = b.addr) && (b.slots.getD (x - b.addr).toNat 0 != 0)
def relF (s : Bk × List Int) (x : Int) : Bk × List Int := if gw s.1 x = true then (⟨s.1.addr, s.1.aff, s.1.slots.set (x - s.1.addr).toNat 0, s.1.free ++ [x - s.1.addr], s.1.attrs⟩, s.2 ++ [x]) else s
def relL (b : Bk) (l : List Int) : Bk × List Int := l.foldl relF (b, [])
theorem yV (b : Bk) (l : List Int) (x : Int) : relL b (l ++ [x]) = relF (relL b l) x := by simp [relL]
theorem DF (s : Bk × List Int) (x : Int) : (relF s x).1.attrs = s.1.attrs ∧ (relF s x).1.addr = s.1.addr ∧ (relF s x).1.aff = s.1.aff ∧ (relF s x).1.slots.length = s.1.slots.length := by
 unfold relF
 split <;> simp
theorem wq (b : Bk) (l : List Int) : (relL b l).1.attrs = b.attrs ∧ (relL b l).1.addr = b.addr ∧ (relL b l).1.aff = b.aff ∧ (relL b l).1.slots.length = b.slots.length := by
 unfold relL
 suffices h : ∀ (s : Bk × List Int), (l.foldl relF s).1.attrs = s.1.attrs ∧ (l.foldl relF s).1.addr = s.1.addr ∧ (l.foldl relF s).1.aff = s.1.aff ∧ (l.foldl relF s).1.slots.length = s.1.slots.length from h (b, [])
 induction l with
 | nil => intro s; exact ⟨rfl, rfl, rfl, rfl⟩
 | cons x l ih =>
  intro s
  have h1 := ih (relF s x)
  have h2 := DF s x
  exact ⟨h1.1.trans h2.1, h1.2.1.trans h2.2.1, h1.2.2.1.trans h2.2.2.1, h1.2.2.2.trans h2.2.2.2⟩
def dL (l : List Int) (k : Nat) : Bool := l.any (fun s => s == ((k + 1 : Nat) : Int))
def ft (l : List Int) (k : Nat) : Nat := ((List.range k).filter (dL l)).length
def iQ (b : Bk) (k : Nat) : List At := ((List.range k).filter (dL b.slots)).map (gF b.attrs)
def kB (b : Bk) : Bk := ⟨b.addr, b.aff, b.slots.map (fun s => ((ft b.slots s.toNat : Nat) : Int)), b.free, iQ b b.attrs.length⟩
def lC (b : Bk) (l : List Int) : Bk := kB (relL b l).1
theorem lN (b : Bk) (k : Nat) : (iQ b k).length = ft b.slots k := by simp [iQ, ft]
theorem vP (l : List Int) (k : Nat) : ft l k ≤ k := by
 unfold ft
 exact Nat.le_trans (List.length_filter_le _ _) (by simp)
theorem jM (l : List Int) (k : Nat) : ft l (k + 1) = ft l k + if dL l k = true then 1 else 0 := by
 unfold ft
 rw [List.range_succ, List.filter_append, List.length_append]
 cases h : dL l k <;> simp [h]
theorem pv (b : Bk) (k : Nat) : iQ b (k + 1) = iQ b k ++ if dL b.slots k = true then [gF b.attrs k] else [] := by
 unfold iQ
 rw [List.range_succ, List.filter_append, List.map_append]
 cases h : dL b.slots k <;> simp [h]
def eR (b : Bk) (i : Nat) : At := gF b.attrs (b.slots.getD i 0 - 1).toNat
def dk (b : Bk) (p : At → Bool) (n : Nat) : List Int := (((List.range n).filter (fun i => b.slots.getD i 0 != 0 && p (eR b i))).map (fun i : Nat => b.addr + (i : Int)))
theorem mG (b : Bk) (p : At → Bool) (n : Nat) : dk b p (n + 1) = dk b p n ++ if (b.slots.getD n 0 != 0 && p (eR b n)) = true then [b.addr + (n : Int)] else [] := by
 unfold dk
 rw [List.range_succ, List.filter_append, List.map_append]
 cases h : (b.slots.getD n 0 != 0 && p (eR b n)) <;> simp only [List.filter_cons, h, List.filter_nil] <;> simp
theorem fD (b : Bk) (p : At → Bool) (n : Nat) : (dk b p n).length ≤ n := by
 unfold dk
 rw [List.length_map]
 exact Nat.le_trans (List.length_filter_le _ _) (by simp)
end Go.Proofs.Ytemhalnhbgkbcaa.V
end

section
namespace Go.Proofs.Ytemhalnhbgkbcaa.V
abbrev LW (g : Nat) : Value := .func (.func 94) #[] #[.pointer (some ⟨g, 0, none⟩)]
set_option maxHeartbeats 8000000 in
set_option maxRecDepth 100000 in
theorem zQ (x i : Int) (hx : 0 ≤ x) (Hd : x < 256) (g : Nat) (w : World) (h : aH w g [.int .i64 i] 3) :
  Calls Try.prog 94 #[.int .u8 x, .pointer (some ⟨g, 0, none⟩)] w fun e w' => e = .returned (.bool (x == i)) ∧ Below w.heap.size w w' := by
 have hc := h.cell 0 _ rfl
 clear h
 go_enter Try.func94, Try.ntmps94
 go_wp2
 go_ret
 exact ⟨rfl, Below.refl _ _⟩
def sj (xs : List Int) (i : Int) : Option Nat := xs.findIdx? (fun x => x == i)
theorem ES {xs : List Int} {i : Int} (h : sj xs i = none) : ∀ x ∈ xs, (x == i) = false := by
 unfold sj at h
 rw [List.findIdx?_eq_none_iff] at h
 intro x hx
 simpa using h x hx
theorem ER {xs : List Int} {i : Int} {k : Nat} (h : sj xs i = some k) : ∃ hk : k < xs.length, (xs[k] == i) = true ∧ ∀ j (hj : j < k), (xs[j] == i) = false := by
 unfold sj at h
 rw [List.findIdx?_eq_some_iff_getElem] at h
 obtain ⟨h1, h2, h3⟩ := h
 exact ⟨h1, h2, fun j hj => by simpa using h3 j hj⟩
theorem JO (xs : List Int) (i : Int) (k : Nat) (hk : k < xs.length) (h : (xs[k] == i) = true) (hn : ∀ j (hj : j < k), (xs[j] == i) = false) : sj xs i = some k := by
 unfold sj
 rw [List.findIdx?_eq_some_iff_getElem]
 exact ⟨hk, h, fun j hj => by simpa using hn j hj⟩
theorem Gk (xs : List Int) (i : Int) (hn : ∀ j (hj : j < xs.length), (xs[j] == i) = false) : sj xs i = none := by
 unfold sj
 rw [List.findIdx?_eq_none_iff]
 intro x hx
 obtain ⟨j, hj, rfl⟩ := List.mem_iff_getElem.1 hx
 simpa using hn j hj
def si (o : Option Nat) : Int := match o with | some k => (k : Int) | none => -1
set_option maxHeartbeats 8000000 in
set_option maxRecDepth 100000 in
theorem zH (xs : List Int) (hu : nE xs) (hl : xs.length ≤ 1000) (A : Option Addr) (c : Nat) (i : Int) (g : Nat) (w : World) (hC : Kd.C (Kd.int .u8) w A xs.length xs) (hX : aH w g [.int .i64 i] 3) :
  Calls Try.prog 111 #[.slice A xs.length c, LW g] w fun e w' => e = .returned (.int .i64 (si (sj xs i))) ∧ Below w.heap.size w w' := by
 have HC := ak hC
 have HX := ak hX
 have HU := ak hu
 clear hC hX hu
 go_enter Try.func111, Try.ntmps111
 go_wp2
 go_loopw [5, 8] (fun _ i' W => ∃ k : Nat, k ≤ xs.length ∧ i' = .int .i64 k ∧ Aside0 (∀ j (hj : j < xs.length), j < k → (xs[j] == i) = false) ∧ Aside0 (Below w.heap.size w W)) (fun _ i' _ => xs.length - (intOf i').toNat)
 case atStart => exact ⟨0, by omega, rfl, ⟨fun j _ hj => absurd hj (Nat.not_lt_zero _)⟩, ⟨Below.refl _ _⟩⟩
 case round =>
  obtain ⟨k, hk, rfl, HN, HB⟩ := hrel
  obtain ⟨W, rfl⟩ : ∃ W : World, W = wr := ⟨_, rfl⟩
  by_cases hkn : k < xs.length
  ·have hkb : decide ((k : Int) < (xs.length : Int)) = true := by simp; omega
   obtain ⟨ad, eA, hx⟩ := Kd.at_int (Kd.C_below HC.out HB.out) k (by omega) (by omega)
   cases eA
   rw [Int.toNat_natCast] at hx
   have p1 : ((k : Int) < (xs.length : Int)) = True := eq_true (by omega)
   have hrd : rd xs k = xs[k] := by simp [rd, List.getD, hkn]
   have h0 := (mP HU.out k).1
   have h1 := (mP HU.out k).2
   obtain ⟨x, hxx⟩ : ∃ x, x = rd xs k := ⟨_, rfl⟩
   rw [← hxx] at hx h0 h1 hrd
   have HXK := ak hrd
   clear hrd hxx
   cases hq : (x == i) with
   | true =>
    have HQ := ak hq
    clear hq
    go_wp2_with (go_at_call 94; refine (zQ x i h0 h1 g _ (HX.out.below HB.out)).mono ?_; rintro e W1 ⟨rfl, cy⟩; rw [HQ.out]; have cn := ak (HB.out.trans (cy.mono HB.out.size)); clear cy)
    go_ret
    exact ⟨by rw [JO xs i k hkn (by rw [← HXK.out]; exact HQ.out) (fun j hj => HN.out j (by omega) hj)]; rfl, cn.out⟩
   | false =>
    have HQ := ak hq
    clear hq
    go_wp2_with (go_at_call 94; refine (zQ x i h0 h1 g _ (HX.out.below HB.out)).mono ?_; rintro e W1 ⟨rfl, cy⟩; rw [HQ.out]; have cn := ak (HB.out.trans (cy.mono HB.out.size)); clear cy)
    go_roundw
    case rel => exact ⟨k + 1, by omega, by go_num, ⟨fun j hj hjk => by
     rcases Nat.lt_or_ge j k with h | h
     ·exact HN.out j hj h
     ·obtain rfl : j = k := by omega
      rw [← HXK.out]
      exact HQ.out⟩, cn⟩
    case measure => simp [intOf]; omega
  ·obtain rfl : k = xs.length := by omega
   have hkb : decide ((xs.length : Int) < (xs.length : Int)) = false := by simp
   go_wp2
   go_ret
   exact ⟨by rw [Gk xs i (fun j hj => HN.out j hj hj)]; rfl, HB.out⟩
end Go.Proofs.Ytemhalnhbgkbcaa.V
end

