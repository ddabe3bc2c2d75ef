/- The law ImagePlays for every input: texts of ours, put together (part 5 of 17). No further condition. -/
import Derived.Test.YtemhalnhbgkbcaaCImagePlaysx2
import Derived.Test.YtemhalnhbgkbcaaCImagePlaysx3
import Derived.Outline
import Derived.WalkSpells
import Derived.Test.YtemhalnhbgkbcaaCImagePlaysw1
import Derived.Lib.SliceRun
set_option linter.unusedVariables false
set_option linter.unusedSimpArgs false
open Go.RowKit Go.Proofs.YtemhalnhbgkbcaaW.PrintWords Go.Proofs.YtemhalnhbgkbcaaW.PrintLast Go.Proofs.YtemhalnhbgkbcaaW.PrintMore Go.Proofs.Ytemhalnhbgkbcaa.Z
section
namespace Go.Proofs.Ytemhalnhbgkbcaa.V
attribute [local go_sem] ea dY eB ez dq dp dZ dX
def qu.f (bu : ByteArray) (bE : ByteArray) : Option (Bool) := (fm.f bu).bind fun ux => (if ux = true then ((fm.f bE).bind fun nD => (some nD)) else (some false))
set_option maxHeartbeats 8000000 in
set_option maxRecDepth 100000 in
theorem qu.calls (bu : ByteArray) (bE : ByteArray) (r : Bool) (w : World) (h : qu.f bu bE = some r) :
  Calls Try.prog 88 #[.agg #[.string bu, .string bE]] w fun e w' => e = .returned (.bool r) ∧ Below w.heap.size w w' := by
 have J4 := Try.underlying85
 have HB := ak (Below.refl w.heap.size w)
 have H : ((fm.f bu).bind fun ux => (if ux = true then ((fm.f bE).bind fun nD => (some nD)) else (some false))) = some r := h
 clear h
 replace H := Option.bind_eq_some_iff.mp H
 obtain ⟨ux, B5, H⟩ := H
 replace H : (if ux = true then ((fm.f bE).bind fun nD => (some nD)) else (some false)) = some r := H
 have A2 := ak B5
 clear B5
 by_cases c3 : ux = true
 ·subst c3
  have H1 : ((fm.f bE).bind fun nD => (some nD)) = some r := by rw [if_pos rfl] at H; exact H
  clear H
  have H := H1
  clear H1
  replace H := Option.bind_eq_some_iff.mp H
  obtain ⟨nD, xl, H⟩ := H
  replace H : (some nD) = some r := H
  have A4 := ak xl
  clear xl
  obtain rfl := Option.some.inj H
  go_enter Try.func88, Try.ntmps88
  go_wp2_with (first | ((with_reducible refine av (N := 1) rfl ?_); refine fi ?hg (N := 1) ?hd (cs := #[.string bu, .string bE]) (t := 85) ?hr ?_; (case hd => rfl); (case hg => rfl); (case hr => first | (go_simp; done) | (go_simp; rfl)); intro jv hg w5 hbox hb; have bV := ak (bg (by repeat (first | (with_reducible first | exact HB.out | apply af | apply ab | apply ai) | exact HB.out)) hb); have b4 := ak (hbox); have df := ak ((by rw [hg]; exact (bf (by repeat (first | (with_reducible first | exact HB.out | apply af | apply ab | apply ai) | exact HB.out))) : w.heap.size ≤ jv)); have dP := ak ((by rw [hg]; exact (bf (by repeat (first | (with_reducible first | exact HB.out | apply af | apply ab | apply ai) | exact HB.out))) : w.heap.size ≤ jv)); clear HB; have HB := bV; have fQ := b4; have Oa := df; have rq := dP; clear bV b4 df dP; clear hb hbox hg; have DD : w5.cell? ⟨jv, 0, none⟩ = some (.string bu) := (aA fQ.out 0).trans rfl; have DC : w5.cell? ⟨jv, 1, none⟩ = some (.string bE) := (aA fQ.out 1).trans rfl; have Dy := aq fQ.out 0; have Dx := aq fQ.out 1) | ((with_reducible refine fo (f := 104) rfl ?_); refine jY (some 5) rfl rfl Try.func104 (by kernel_rfl) rfl #[.string bu] rfl (by (try simp only [List.map_toArray, List.map_cons, List.map_nil]); first | done | rfl | (simp only [List.length_drop, List.length_take]; rfl)) ?_; (with_reducible refine (fm.calls bu true _ A2.out).mono ?_); rintro e w7 ⟨rfl, hb⟩; refine ⟨_, rfl, ?_⟩; have bV := ak (e7 (g := jv) (o := .cells #[.string bu, .string bE] 85 (0, 0)) (by (with_reducible repeat (first | refine aI ?_ _ | refine aT ?_ | refine aJ ?_ _)); exact fQ.out) hb); have b4 := ak (bg (by repeat (first | (with_reducible first | exact HB.out | apply af | apply ab | apply ai | refine aN ?_ rq.out) | exact HB.out)) hb); clear fQ; clear HB; have fQ := bV; have HB := b4; clear bV b4; (try clear hb); (try clear dD); (try clear hk); (try clear hi); have IG : w7.cell? ⟨jv, 0, none⟩ = some (.string bu) := (aA fQ.out 0).trans rfl; have IF : w7.cell? ⟨jv, 1, none⟩ = some (.string bE) := (aA fQ.out 1).trans rfl; have IE := aq fQ.out 0; have ID := aq fQ.out 1) | (go_at_call 104; (with_reducible refine (fm.calls bE nD _ A4.out).mono ?_); rintro e w9 ⟨rfl, hb⟩; have bV := ak (e7 (g := jv) (o := .cells #[.string bu, .string bE] 85 (0, 0)) (by (with_reducible repeat (first | refine aI ?_ _ | refine aT ?_ | refine aJ ?_ _)); exact fQ.out) hb); have b4 := ak (bg (by repeat (first | (with_reducible first | exact HB.out | apply af | apply ab | apply ai | refine aN ?_ rq.out) | exact HB.out)) hb); clear fQ; clear HB; have fQ := bV; have HB := b4; clear bV b4; (try clear hb); (try clear dD); (try clear hk); (try clear hi)))
  go_ret
  exact ⟨by first | rfl | (simp [bz, bx] <;> rfl) | (simp [*, bz, bx] <;> rfl), by repeat (first | (with_reducible first | exact HB.out | apply af | apply ab | apply ai | refine aN ?_ rq.out) | exact HB.out)⟩
 ·replace c3 := Bool.eq_false_iff.mpr c3
  subst c3
  have H1 : (some false) = some r := by rw [if_neg (show ¬ (false = true) by decide)] at H; exact H
  clear H
  have H := H1
  clear H1
  obtain rfl := Option.some.inj H
  go_enter Try.func88, Try.ntmps88
  go_wp2_with (first | ((with_reducible refine av (N := 1) rfl ?_); refine fi ?hg (N := 1) ?hd (cs := #[.string bu, .string bE]) (t := 85) ?hr ?_; (case hd => rfl); (case hg => rfl); (case hr => first | (go_simp; done) | (go_simp; rfl)); intro jv hg Bx hbox hb; have bV := ak (bg (by repeat (first | (with_reducible first | exact HB.out | apply af | apply ab | apply ai) | exact HB.out)) hb); have b4 := ak (hbox); have df := ak ((by rw [hg]; exact (bf (by repeat (first | (with_reducible first | exact HB.out | apply af | apply ab | apply ai) | exact HB.out))) : w.heap.size ≤ jv)); have dP := ak ((by rw [hg]; exact (bf (by repeat (first | (with_reducible first | exact HB.out | apply af | apply ab | apply ai) | exact HB.out))) : w.heap.size ≤ jv)); clear HB; have HB := bV; have fQ := b4; have Oa := df; have rq := dP; clear bV b4 df dP; clear hb hbox hg; have Nx : Bx.cell? ⟨jv, 0, none⟩ = some (.string bu) := (aA fQ.out 0).trans rfl; have Nw : Bx.cell? ⟨jv, 1, none⟩ = some (.string bE) := (aA fQ.out 1).trans rfl; have Nb := aq fQ.out 0; have Na := aq fQ.out 1) | ((with_reducible refine fo (f := 104) rfl ?_); refine jY (some 5) rfl rfl Try.func104 (by kernel_rfl) rfl #[.string bu] rfl (by (try simp only [List.map_toArray, List.map_cons, List.map_nil]); first | done | rfl | (simp only [List.length_drop, List.length_take]; rfl)) ?_; (with_reducible refine (fm.calls bu false _ A2.out).mono ?_); rintro e Fo ⟨rfl, hb⟩; refine ⟨_, rfl, ?_⟩; have bV := ak (e7 (g := jv) (o := .cells #[.string bu, .string bE] 85 (0, 0)) (by (with_reducible repeat (first | refine aI ?_ _ | refine aT ?_ | refine aJ ?_ _)); exact fQ.out) hb); have b4 := ak (bg (by repeat (first | (with_reducible first | exact HB.out | apply af | apply ab | apply ai | refine aN ?_ rq.out) | exact HB.out)) hb); clear fQ; clear HB; have fQ := bV; have HB := b4; clear bV b4; (try clear hb); (try clear dD); (try clear hk); (try clear hi)))
  go_ret
  exact ⟨by first | rfl | (simp [bz, bx] <;> rfl) | (simp [*, bz, bx] <;> rfl), by repeat (first | (with_reducible first | exact HB.out | apply af | apply ab | apply ai | refine aN ?_ rq.out) | exact HB.out)⟩
end Go.Proofs.Ytemhalnhbgkbcaa.V
end

section
namespace Go.Proofs.Ytemhalnhbgkbcaa.V
def ep (a : At) : Bool := fD a.f0 && fD a.f1
theorem PS (a : At) : qu.f a.f0 a.f1 = some (ep a) := by
 unfold qu.f fm.f ep
 cases h : fD a.f0 <;> simp
theorem jR (a : At) (w : World) : Calls Try.prog 88 #[eT a] w fun e w' => e = .returned (.bool (ep a)) ∧ Below w.heap.size w w' := qu.calls a.f0 a.f1 _ w (PS a)
def gh (l : List At) (j : Nat) : At := cI l (j : Int)
def gp (l : List Int) : Nat := wF (l.map fun s => s - 1)
def kK (b : Bk) : Bool := (b.slots.all fun s => decide (s ≤ (b.attrs.length : Int))) && ((List.range b.attrs.length).all (fun j => ep (gh b.attrs j) && !((b.attrs.take j).any (sameAt (gh b.attrs j)))) && decide ((iH (gp b.slots)).length = b.attrs.length))
def kO (l : List At) : List (At × Int) := l.map fun a => (a, 1)
theorem CQ (l : List At) (a : At) : numOf (kO l) a = if l.any (sameAt a) = true then 1 else 0 := by
 unfold numOf kO
 induction l with
 | nil => rfl
 | cons x l ih =>
  rw [List.map_cons, List.find?_cons, List.any_cons]
  cases h : sameAt a x with
  | true => simp
  | false => simpa using ih
theorem JD (l : List At) (a : At) (h : l.any (sameAt a) = false) (v : Int) : putAt (kO l) a v = kO l ++ [(a, v)] := by
 have : idxOf (kO l) a = none := by
  unfold idxOf kO
  simpa using h
 unfold putAt
 rw [this]
theorem ES (l : List At) : (kO l).length = l.length := by simp [kO]
theorem m2 (l : List At) (j : Nat) (h : j < l.length) : gh l j = l[j] := by simp [gh, cI, List.getD, h]
theorem uw (l : List At) (j : Nat) (h : j < l.length) : l.take (j + 1) = l.take j ++ [gh l j] := by
 rw [List.take_add_one, List.getElem?_eq_getElem h, m2 l j h]
 rfl
def oD.T13 : Bool × List (List Nat × List Nat) := (true, [([], []), ([], []), ([0, 1], [0, 1]), ([2], [2]), ([0, 1, 0, 1], [0, 1]), ([4], [4]), ([0, 5, 3, 4, 0, 1, 2, 3, 4, 5], [0, 3, 5])])
def oD.B13 : List Nat := [0, 0, 3, 7, 3, 19, 63]
theorem oD.tab13 : ed .any (opsOf Try.f86 13) = oD.T13 := by kernel_rfl
theorem oD.bits13 : dL oD.T13.2 oD.B13 = true := by kernel_rfl
def oC.T17 : Bool × List (List Nat × List Nat) := (true, [([], []), ([0], [0]), ([], []), ([2], [2]), ([3], [3]), ([1, 4], [1, 4]), ([5, 1, 0, 1, 2, 3, 4, 5], [5])])
def oC.B17 : List Nat := [0, 1, 0, 4, 12, 31, 63]
theorem oC.tab17 : ed .any (opsOf Try.f86 17) = oC.T17 := by kernel_rfl
theorem oC.bits17 : dL oC.T17.2 oC.B17 = true := by kernel_rfl
set_option maxHeartbeats 4000000 in
set_option maxRecDepth 100000 in
theorem BV (b : Bk) (hs : fV b.slots) (hn : b.attrs.length ≤ 64) (v : Value) (w : World) (h : iz w v b) :
  Calls Try.prog 86 #[v] w fun e w' => e = .returned (.bool (kK b)) ∧ Below w.heap.size w w' := by
 obtain ⟨A, c, A', c', rfl, hr⟩ := h
 have hl := hr.l64
 have HR := ak hr
 have HS := ak hs
 have HL := ak hl
 have hmm := @run_makeMap Try.prog
 have hlen : (Try.prog.info? 47).map (·.size) = some (b.slots.map (Value.int .u8)).length := by rw [List.length_map, hl]; kernel_rfl
 have HLN := ak hlen
 clear hr hs hl hlen
 go_enter Try.func86, Try.ntmps86
 go_wp2_with (first
  | (refine aD rfl 57 (.tmp 0) rfl _ rfl ?_; intro g W1 hg hbx bq; have HX := ak hbx; have HB := ak bq; have HG := ak hg; have HRR := ak (HR.out.below bq); have pL := hbx.cell 67 _ (ft _ _ _ _ _ HL.out); clear hbx bq hg HR)
  | (refine fH rfl 47 (.tmp 10) rfl g 2 rfl 57 _ (b.slots.map (Value.int .u8)) (.array 64 5) (HX.out.alloc _) (mO _ _ _ _ _ HL.out) Try.underlying47 rfl HLN.out ?_))
 have HM := ak (show m5 (W1.alloc (.map #[] 0)) W1.heap.size [] from heap_alloc_new W1 _)
 have fv := ak (HX.out.alloc (.map #[] 0))
 have wU := ak (af (Below.refl W1.heap.size W1) (.map #[] 0))
 have HLT := ak HX.out.lt
 have mz := ak (show w.heap.size ≤ W1.heap.size from HB.out.size)
 have g8 := HX
 have bP := HB
 have mU := HRR
 have HGM := ak (Eq.refl W1.heap.size)
 clear HX HB HRR pL hmm
 generalize W1.alloc (Obj.map #[] 0) = W2 at HM fv wU ⊢
 generalize hgm : W1.heap.size = gm at HM mz HLT wU HGM ⊢
 have HGE := ak hgm
 clear hgm HGM
 have pL := fv.out.cell 67 _ (ft _ _ _ _ _ HL.out)
 go_loopw [4, 6, 12] (fun s _ i W => ∃ k nd : Nat, k ≤ 64 ∧ W = W2.drewN nd ∧ i = .int .i64 k ∧ s = .int .u64 ((gp (b.slots.take k) : Nat) : Int) ∧ Aside0 (∀ j, j < k → rd b.slots (j : Int) ≤ (b.attrs.length : Int))) (fun _ _ i _ => 64 - (intOf i).toNat)
 case atStart => exact ⟨0, 0, by omega, rfl, rfl, rfl, ⟨fun j hj => by omega⟩⟩
 case round =>
  obtain ⟨k, nd, hk, rfl, rfl, rfl, HJ⟩ := hrel
  by_cases qJ : k < 64
  ·have hkb : decide ((k : Int) < 64) = true := by simp; omega
   have hkl : k < b.slots.length := by have := HL.out; omega
   obtain ⟨m, hm⟩ : ∃ m : Nat, rd b.slots k = (m : Int) := ⟨(rd b.slots k).toNat, by have := (j2 HS.out k).1; omega⟩
   have r8 : m < 256 := by have := (j2 HS.out k).2; omega
   have hix := fun w => rm b.slots HL.out k qJ w
   have BQ : b.slots.getD k 0 = (m : Int) := by rw [← hm]; simp [rd]
   rw [BQ] at hix
   by_cases hbig : m ≤ b.attrs.length
   ·have hgb : decide (b.attrs.length < m) = false := by simp; omega
    have HU := ak (show mu (gp (b.slots.take k)) ((m : Int) - 1) = gp (b.slots.take (k + 1)) by
     unfold gp wF
     rw [List.take_add_one, List.map_append, List.foldl_append, List.getElem?_eq_getElem hkl]
     have : b.slots[k] = (m : Int) := by rw [← BQ]; simp [List.getD, List.getElem?_eq_getElem hkl]
     rw [this]
     rfl)
    have xc := ak (show ∀ j, j < k + 1 → rd b.slots (j : Int) ≤ (b.attrs.length : Int) from fun j hj => by
     by_cases h : j < k
     ·exact HJ.out j h
     ·obtain rfl : j = k := by omega
      rw [hm]
      omega)
    clear hm BQ
    go_wp2_with (go_at_call 21; refine (ya (gp (b.slots.take k)) (qj _) _ _).mono ?_; rintro e w' ⟨rfl, ⟨OM, rfl⟩⟩; rw [HU.out])
    go_roundw
    case rel => exact ⟨k + 1, nd + OM, by omega, by simp, by go_num, rfl, xc⟩
    case measure => simp [intOf]; omega
   ·have hgb : decide (b.attrs.length < m) = true := by simp; omega
    have HV := ak (show kK b = false by
     unfold kK
     rw [Bool.and_eq_false_iff]
     left
     rw [List.all_eq_false]
     refine ⟨b.slots[k], List.getElem_mem _, ?_⟩
     have : b.slots[k] = (m : Int) := by rw [← BQ]; simp [List.getD, List.getElem?_eq_getElem hkl]
     rw [this]
     simp
     omega)
    clear hm BQ
    go_wp2
    go_ret
    exact ⟨by rw [HV.out]; rfl, by apply ab; exact bP.out.trans (wU.out.mono mz.out)⟩
  ·obtain rfl : k = 64 := by omega
   rw [show ((64 : Nat) : Int) = (64 : Int) from rfl]
   have hkb : decide ((64 : Int) < 64) = false := by decide
   have HT := ak (show b.slots.take 64 = b.slots from List.take_of_length_le (by have := HL.out; omega))
   have HA := ak (show (b.slots.all fun s => decide (s ≤ (b.attrs.length : Int))) = true by
    rw [List.all_eq_true]
    intro s hs
    obtain ⟨j, hj, rfl⟩ := List.getElem_of_mem hs
    have := HJ.out j (by have := HL.out; omega)
    simpa [rd, List.getD, hj] using this)
   go_wp2_with fail
   go_loopw [8, 30] (fun _ i W => ∃ k : Nat, k ≤ b.attrs.length ∧ i = .int .i64 k ∧ Aside0 (m5 W gm (kO (b.attrs.take k))) ∧ Aside0 (Below gm W1 W) ∧ Aside0 (∀ j, j < k → ep (gh b.attrs j) = true ∧ (b.attrs.take j).any (sameAt (gh b.attrs j)) = false)) (fun _ i _ => b.attrs.length - (intOf i).toNat)
   case atStart => exact ⟨0, by omega, rfl, HM, ⟨by apply ab; exact wU.out⟩, ⟨fun j hj => by omega⟩⟩
   case round =>
    clear HM fv pL HJ wU
    obtain ⟨k, hk, rfl, HM, HZ, HJ⟩ := hrel
    obtain ⟨W, rfl⟩ : ∃ W : World, W = wr := ⟨_, rfl⟩
    have HR := ak (mU.out.below (by rw [HGE.out]; exact HZ.out))
    by_cases hkn : k < b.attrs.length
    ·have hkb : decide ((k : Int) < (b.attrs.length : Int)) = true := by simp; omega
     obtain ⟨ad, eA, ir, kp⟩ := l7 HR.out.ar k (by omega) (by omega)
     cases eA
     rw [Int.toNat_natCast] at ir kp
     have p1 : ((k : Int) < (b.attrs.length : Int)) = True := eq_true (by omega)
     obtain ⟨a, ha⟩ : ∃ a : At, gh b.attrs k = a := ⟨_, rfl⟩
     have ha' : cI b.attrs (k : Int) = a := ha
     rw [ha'] at ir kp
     have kz := ak ha
     have HK := ak (show (kO (b.attrs.take (k + 1))) = kO (b.attrs.take k) ++ [(a, 1)] by
      unfold kO
      rw [uw _ _ hkn, ha]
      simp)
     have hbad : (ep a = false ∨ (b.attrs.take k).any (sameAt a) = true) → kK b = false := fun h => by
      unfold kK
      rw [HA.out, Bool.true_and, Bool.and_eq_false_iff]
      left
      rw [List.all_eq_false]
      refine ⟨k, by simpa using hkn, ?_⟩
      rw [ha]
      rcases h with h | h <;> rw [h] <;> simp
     have HBAD := ak hbad
     have xc := ak (show ep a = true → (b.attrs.take k).any (sameAt a) = false → ∀ j, j < k + 1 → ep (gh b.attrs j) = true ∧ (b.attrs.take j).any (sameAt (gh b.attrs j)) = false from fun h1 h2 j hj => by
      by_cases hjk : j < k
      ·exact HJ.out j hjk
      ·obtain rfl : j = k := by omega
       rw [ha]
       exact ⟨h1, h2⟩)
     clear ha ha' hbad
     go_wp2_with (first
      | (refine au (some 8) rfl rfl 85 rfl [.string ⟨#[]⟩, .string ⟨#[]⟩] (fun _ => by kernel_rfl) ?_; intro ga W3 hga fO nT)
      | (refine aK rfl 85 (.tmp 8) (.tmp 33) rfl ga [.string a.f0, .string a.f1] rfl rfl 85 _ fO 2 (by kernel_rfl) rfl rfl (by intro u hu; simp at hu; rcases hu with rfl | rfl <;> rfl) ?_; intro W4 gK sb))
     have nt := ak gK
     have Ty := fO.lt
     have hbW : Below W.heap.size W W4 := nT.grown sb nT.size (fun q hq => by cases hq; exact hga)
     have Qz := ak (show m5 W4 gm (kO (b.attrs.take k)) from (hbW.block gm (Array.getElem?_eq_some_iff.1 HM.out).1).trans HM.out)
     have HGW := ak (show gm ≤ W.heap.size from by have := (Array.getElem?_eq_some_iff.1 HM.out).1; omega)
     have nr := ak (HZ.out.trans (hbW.mono HGW.out))
     have HGA := ak (show gm ≠ ga by have := (Array.getElem?_eq_some_iff.1 HM.out).1; omega)
     have HLK := ak (show (kO (b.attrs.take k)).length < 1000 by rw [ES, List.length_take]; omega)
     have HGS := ak (show gm ≤ W4.heap.size from Nat.le_trans HGW.out hbW.size)
     clear HM HR HZ fO gK hga nT sb hbW Ty ir kp
     obtain ⟨n, lT⟩ : ∃ n : Nat, numOf (kO (b.attrs.take k)) a = (n : Int) := by
      rw [CQ]
      split
      ·exact ⟨1, rfl⟩
      ·exact ⟨0, rfl⟩
     have Qy := ak lT
     have zI := ak (show (n = 1 ∧ (b.attrs.take k).any (sameAt a) = true) ∨ (n = 0 ∧ (b.attrs.take k).any (sameAt a) = false) by
      rw [CQ] at lT
      split at lT
      ·rename_i h; exact .inl ⟨by omega, h⟩
      ·rename_i h; exact .inr ⟨by omega, by simpa using h⟩)
     clear lT
     refine dd (n := 7) (S := fun w' => w'.cell? ⟨ga, 0, none⟩ = some (.string a.f0) ∧ w'.cell? ⟨ga, 1, none⟩ = some (.string a.f1) ∧ ∃ L1, m5 w' gm L1 ∧ numOf L1 a = (n : Int)) (ds := [6]) #[false, false, false, false, false, false, false] (by kernel_rfl) rfl rfl ⟨nt.out.cell 0 _ rfl, nt.out.cell 1 _ rfl, _, Qz.out, Qy.out⟩ (fun hHeld => ?_); refine bQ oD.tab13 oD.bits13 (fun ae bA => ?_)
     refine pu 0 ae.out ?_
     refine tk 1 ae.out bA.out hHeld ?_ (hv := by intro w' aZ; obtain ⟨s0, s1, s2⟩ := aZ; go_simp; with_reducible rfl)
     refine tk 2 ae.out bA.out hHeld ?_ (hv := by intro w' aZ; obtain ⟨s0, s1, L1, s2, s3⟩ := aZ; have hlk := yf _ _ _ s2 a; rw [s3] at hlk; simp only [eT] at hlk; go_simp; with_reducible rfl)
     refine pu 3 ae.out ?_
     refine on 4 ae.out (fun K hK => ?_)
     obtain ⟨W6, W7, jj, Pc, uZ, SY, SX, kT, IH⟩ := IV W4.drew gm _ Qz.out HLK.out a (wrap64 ((n : Int) + 1)); rw [Qy.out] at Pc; simp only [eT] at Pc
     refine yY (v := .tuple #[.int .i64 (n : Int), .int .i64 jj]) (w1 := W6) (by rfl) ?_ ?_
     ·go_simp
      try rfl
     refine kn hK ⟨(IH _ HGA.out.symm).trans (nt.out.cell 0 _ rfl), (IH _ HGA.out.symm).trans (nt.out.cell 1 _ rfl), by obtain ⟨L1, h1, h2⟩ := uZ; exact ⟨L1, h1, h2.trans Qy.out⟩⟩ (fun hHeld => ?_)
     clear hK K
     refine pu 5 ae.out ?_
     refine vz (i := 6) (N := none) #[true, true, true, true, true, true, true] rfl rfl (oP ae.out (by kernel_rfl)) (by decide) (fun K hK => ?_)
     refine qN (w1 := ?_) (by rfl) rfl ?_ ?_
     rotate_left
     ·go_simp
      rfl
     refine hK.out _ _ ?_
     clear hK K
     refine dn ae.out ?_
     have vr := ak (show aH W7 ga [.string a.f0, .string a.f1] 85 from (show aH W4.drew ga _ _ from nt.out).grown kT (fun e => HGA.out (Option.some.inj e).symm))
     have Gc := ak SX
     have Jh := ak ((show Below gm W1 W4.drew from br nr.out).grown kT HGS.out (fun q hq => by cases hq; exact Nat.le_refl _))
     have Jt := ak (show gm ≤ W7.heap.size from Nat.le_trans HGS.out kT.size)
     clear SX kT IH Pc SY uZ nt Qz nr hHeld
     have Iq := vr.out.cell 0 _ rfl
     have BN := vr.out.cell 1 _ rfl
     cases hmy : ep a with
     | false =>
      have HV := ak (HBAD.out (.inl hmy))
      have HMY := ak hmy
      clear hmy
      go_wp2_with (go_at_call 88; refine (jR a _).mono ?_; rintro e W8 ⟨rfl, ll⟩; rw [HMY.out])
      go_ret
      exact ⟨by rw [HV.out]; rfl, bP.out.trans ((Jh.out.trans (ll.mono Jt.out)).mono mz.out)⟩
     | true =>
      have HMY := ak hmy
      clear hmy
      rcases zI.out with ⟨ov, pH⟩ | ⟨ov, pH⟩
      ·have HV := ak (HBAD.out (.inr pH))
       have B0 := ak (show wrap64 ((n : Int) + 1) = 2 by rw [ov]; unfold wrap64; omega)
       clear ov pH
       go_wp2_with (first | (go_at_call 88; refine (jR a _).mono ?_; rintro e W8 ⟨rfl, ll⟩; rw [HMY.out]; have F4 := ak (Jh.out.trans (ll.mono Jt.out)); have Tu := (vr.out.below ll).cell 0 _ rfl; have Tt := (vr.out.below ll).cell 1 _ rfl; have Js := ak (show m5 W8 gm _ from (ll.block gm (Array.getElem?_eq_some_iff.1 Gc.out).1).trans Gc.out); have hlk := yf _ _ _ Js.out a; rw [BE, B0.out] at hlk; simp only [eT] at hlk; clear ll vr Gc Jh Iq BN))
       go_ret
       exact ⟨by rw [HV.out]; rfl, bP.out.trans (F4.out.mono mz.out)⟩
      ·have B0 := ak (show wrap64 ((n : Int) + 1) = 1 by rw [ov]; unfold wrap64; omega)
       have Tj := ak (xc.out HMY.out pH)
       have HPU := ak (show putAt (kO (b.attrs.take k)) a (wrap64 ((n : Int) + 1)) = kO (b.attrs.take (k + 1)) by rw [B0.out, JD _ _ pH, HK.out])
       clear ov pH
       go_wp2_with (first | (go_at_call 88; refine (jR a _).mono ?_; rintro e W8 ⟨rfl, ll⟩; rw [HMY.out]; have F4 := ak (Jh.out.trans (ll.mono Jt.out)); have Tu := (vr.out.below ll).cell 0 _ rfl; have Tt := (vr.out.below ll).cell 1 _ rfl; have Js := ak (show m5 W8 gm _ from (ll.block gm (Array.getElem?_eq_some_iff.1 Gc.out).1).trans Gc.out); have hlk := yf _ _ _ Js.out a; rw [BE, B0.out] at hlk; simp only [eT] at hlk; clear ll vr Gc Jh Iq BN))
       rw [HPU.out] at Js
       go_roundw
       case rel => exact ⟨k + 1, by omega, by go_num, Js, F4, Tj⟩
       case measure => simp [intOf]; omega
    ·obtain rfl : k = b.attrs.length := by omega
     have hkb : decide ((b.attrs.length : Int) < (b.attrs.length : Int)) = false := by simp
     have HAA := ak (show (List.range b.attrs.length).all (fun j => ep (gh b.attrs j) && !((b.attrs.take j).any (sameAt (gh b.attrs j)))) = true by
      rw [List.all_eq_true]
      intro j hj
      obtain ⟨h1, h2⟩ := HJ.out j (by simpa using hj)
      rw [h1, h2]
      rfl)
     have HV := ak (show kK b = decide ((iH (gp b.slots)).length = b.attrs.length) by
      unfold kK
      rw [HA.out, HAA.out, Bool.true_and, Bool.true_and])
     have HXW := ak (g8.out.below (by rw [HGE.out]; exact HZ.out))
     have pL := HXW.out.cell 67 _ (ft _ _ _ _ _ HL.out)
     rw [HT.out]
     go_wp2_with fail
     refine dd (n := 7) (S := fun w' => w'.cell? ⟨g, 67, none⟩ = some (Value.slice A' b.attrs.length c')) (ds := []) #[false, false, false, false, false, false, false] (by kernel_rfl) rfl rfl pL (fun hHeld => ?_); refine bQ oC.tab17 oC.bits17 (fun ae bA => ?_)
     refine pu 0 ae.out ?_
     refine pu 2 ae.out ?_
     refine tk 3 ae.out bA.out hHeld ?_
     refine pu 4 ae.out ?_
     refine on 1 ae.out (fun K hK => ?_)
     refine gs Try.func27 #[.int .u64 ((gp b.slots : Nat) : Int)] (MP (gp b.slots) (qj _) _) ?_
     rintro e W9 ⟨rfl, ⟨Zh, rfl⟩⟩
     refine ⟨_, rfl, ?_⟩
     refine kn hK hHeld (fun hHeld => ?_)
     clear hK K
     refine pu 5 ae.out ?_
     refine pu 6 ae.out ?_
     refine dn ae.out ?_
     try go_wp2
     go_ret
     refine ⟨?_, by apply ab; exact ai (bP.out.trans (HZ.out.mono mz.out))⟩
     rw [HV.out]
     show Ending.returned (Value.bool ((((iH (gp b.slots)).length : Nat) : Int) == ((b.attrs.length : Nat) : Int))) = _
     congr 2
     rw [Bool.eq_iff_iff, beq_iff_eq, decide_eq_true_eq]
     exact Int.ofNat_inj
end Go.Proofs.Ytemhalnhbgkbcaa.V
end

section
namespace Go.Proofs.Ytemhalnhbgkbcaa.V
attribute [local go_sem] ea dY eB ez dq dp dZ dX
def oy.f (a0 : Int) : Option (Int) := some ((IntKind.u64.wrap (4294967296 - (IntKind.u64.wrap (2 ^ (32 - (mn (mx a0 0) 32)).toNat)))) % 4294967296)
set_option maxHeartbeats 8000000 in
set_option maxRecDepth 100000 in
theorem oy.calls (a0 : Int) (r : Int) (w : World) (h : oy.f a0 = some r) :
  Calls Try.prog 105 #[.int .i64 a0] w fun e w' => e = .returned (.int .u32 r) ∧ Below w.heap.size w w' := by
 have HB := ak (Below.refl w.heap.size w)
 have H : (some ((IntKind.u64.wrap (4294967296 - (IntKind.u64.wrap (2 ^ (32 - (mn (mx a0 0) 32)).toNat)))) % 4294967296)) = some r := h
 clear h
 obtain ⟨Df, Dr⟩ : ∃ j_ : Int, (mx a0 0) = j_ := ⟨_, rfl⟩
 replace H : (some ((IntKind.u64.wrap (4294967296 - (IntKind.u64.wrap (2 ^ (32 - (mn (Df) 32)).toNat)))) % 4294967296)) = some r := by first | (rw [Dr] at H; exact H) | (simp only [Dr] at H ⊢; exact H)
 (try (have YD : 0 ≤ Df := by (rw [← Dr]; unfold mx; (repeat' split) <;> omega)))
 (try (have YC : 0 ≤ Df := by omega))
 have YE : (if a0 < 0 then 0 else a0) = Df := Dr
 obtain ⟨BK, ui⟩ : ∃ j_ : Int, (mn (Df) 32) = j_ := ⟨_, rfl⟩
 replace H : (some ((IntKind.u64.wrap (4294967296 - (IntKind.u64.wrap (2 ^ (32 - (BK)).toNat)))) % 4294967296)) = some r := by first | (rw [ui] at H; exact H) | (simp only [ui] at H ⊢; exact H)
 have Lk : (if 32 < (Df) then 32 else (Df)) = BK := ui
 obtain rfl := Option.some.inj H
 go_enter Try.func105, Try.ntmps105
 go_wp2
 go_ret
 exact ⟨by first | rfl | (simp [bz, bx] <;> rfl) | (simp only [← Dr, ← ui]; first | rfl | (simp [bz, bx] <;> rfl)) | (simp [*, bz, bx] <;> rfl), by repeat (first | (with_reducible first | exact HB.out | apply af | apply ab | apply ai) | exact HB.out)⟩
end Go.Proofs.Ytemhalnhbgkbcaa.V
end

section
namespace Go.Proofs.Ytemhalnhbgkbcaa.V
attribute [local go_sem] ea dY eB ez dq dp dZ dX
def gH.f (a0 : Int) : Option (Int) := (oy.f 26).bind fun uy => (some (Go.bits .and .u32 a0 uy))
set_option maxHeartbeats 8000000 in
set_option maxRecDepth 100000 in
theorem gH.calls (a0 : Int) (r : Int) (w : World) (h : gH.f a0 = some r) :
  Calls Try.prog 80 #[.int .u32 a0] w fun e w' => e = .returned (.int .u32 r) ∧ Below w.heap.size w w' := by
 have HB := ak (Below.refl w.heap.size w)
 have H : ((oy.f 26).bind fun uy => (some (Go.bits .and .u32 a0 uy))) = some r := h
 clear h
 replace H := Option.bind_eq_some_iff.mp H
 obtain ⟨uy, B5, H⟩ := H
 replace H : (some (Go.bits .and .u32 a0 uy)) = some r := H
 have A2 := ak B5
 clear B5
 obtain rfl := Option.some.inj H
 go_enter Try.func80, Try.ntmps80
 go_wp2_with (first | ((with_reducible refine fo (f := 105) rfl ?_); refine jY (some 4) rfl rfl Try.func105 (by kernel_rfl) rfl #[.int .i64 26] rfl (by (try simp only [List.map_toArray, List.map_cons, List.map_nil]); first | done | rfl | (simp only [List.length_drop, List.length_take]; rfl)) ?_; (with_reducible refine (oy.calls 26 uy _ A2.out).mono ?_); rintro e w3 ⟨rfl, hb⟩; refine ⟨_, rfl, ?_⟩; have bV := ak (bg (by repeat (first | (with_reducible first | exact HB.out | apply af | apply ab | apply ai) | exact HB.out)) hb); clear HB; have HB := bV; clear bV; (try clear hb); (try clear dD); (try clear hk); (try clear hi)))
 go_ret
 exact ⟨by first | rfl | (simp [bz, bx] <;> rfl) | (simp [*, bz, bx] <;> rfl), by repeat (first | (with_reducible first | exact HB.out | apply af | apply ab | apply ai) | exact HB.out)⟩
end Go.Proofs.Ytemhalnhbgkbcaa.V
end

section
namespace Go.Proofs.Ytemhalnhbgkbcaa.V
attribute [local go_sem] ea dY eB ez dq dp dZ dX
def gG.f (a0 : ByteArray) : Option (Bool) := if a0.toList = ([] : List UInt8) then (some true) else ((fm.f a0).bind fun uz => (some uz))
set_option maxHeartbeats 8000000 in
set_option maxRecDepth 100000 in
theorem gG.calls (a0 : ByteArray) (r : Bool) (w : World) (h : gG.f a0 = some r) :
  Calls Try.prog 79 #[.string a0] w fun e w' => e = .returned (.bool r) ∧ Below w.heap.size w w' := by
 have HB := ak (Below.refl w.heap.size w)
 have H : (if a0.toList = ([] : List UInt8) then (some true) else ((fm.f a0).bind fun uz => (some uz))) = some r := h
 clear h
 by_cases c2 : a0.toList = ([] : List UInt8)
 ·rw [if_pos c2] at H
  have uo : (a0.toList == ([] : List UInt8)) = true := beq_iff_eq.mpr c2
  have Bn : (a0.toList != ([] : List UInt8)) = false := bne_eq_false_iff_eq.mpr c2
  clear c2
  obtain rfl := Option.some.inj H
  go_enter Try.func79, Try.ntmps79
  go_wp2
  go_ret
  exact ⟨by first | rfl | (simp [bz, bx] <;> rfl) | (simp [*, bz, bx] <;> rfl), by repeat (first | (with_reducible first | exact HB.out | apply af | apply ab | apply ai) | exact HB.out)⟩
 ·rw [if_neg c2] at H
  have uo : (a0.toList == ([] : List UInt8)) = false := beq_eq_false_iff_ne.mpr c2
  have Bn : (a0.toList != ([] : List UInt8)) = true := bne_iff_ne.mpr c2
  replace H := Option.bind_eq_some_iff.mp H
  obtain ⟨uz, qz, H⟩ := H
  replace H : (some uz) = some r := H
  have A3 := ak qz
  clear qz
  obtain rfl := Option.some.inj H
  go_enter Try.func79, Try.ntmps79
  go_wp2_with (first | (go_at_call 104; (with_reducible refine (fm.calls a0 uz _ A3.out).mono ?_); rintro e w4 ⟨rfl, hb⟩; have bV := ak (bg (by repeat (first | (with_reducible first | exact HB.out | apply af | apply ab | apply ai) | exact HB.out)) hb); clear HB; have HB := bV; clear bV; (try clear hb); (try clear dD); (try clear hk); (try clear hi)))
  go_ret
  exact ⟨by first | rfl | (simp [bz, bx] <;> rfl) | (simp [*, bz, bx] <;> rfl), by repeat (first | (with_reducible first | exact HB.out | apply af | apply ab | apply ai) | exact HB.out)⟩
end Go.Proofs.Ytemhalnhbgkbcaa.V
end

section
namespace Go.Proofs.Ytemhalnhbgkbcaa.V
structure BkOk (b : Bk) : Prop where
 a0 : 0 ≤ b.addr
 a1 : b.addr < 4294967296
 s8 : fV b.slots
 f8 : fV b.free
def b9 (a : Int) : Int := a - a % 64
theorem KB (n : Nat) : n &&& 4294967232 = n % 4294967296 - n % 64 := by
 have h1 : n &&& 4294967232 = (n % 4294967296) &&& 4294967232 := by
  apply Nat.eq_of_testBit_eq
  intro i
  rw [Nat.testBit_and, Nat.testBit_and, show (4294967296 : Nat) = 2 ^ 32 from rfl, Nat.testBit_mod_two_pow]
  by_cases h : i < 32
  ·simp [h]
  ·have : (4294967232 : Nat).testBit i = false := Nat.testBit_lt_two_pow (Nat.lt_of_lt_of_le (show (4294967232 : Nat) < 2 ^ 32 by decide) (Nat.pow_le_pow_right (by omega) (by omega)))
   rw [this]
   simp
 have h2 : (n % 4294967296) &&& 4294967232 = (n % 4294967296) / 64 * 64 := by
  apply Nat.eq_of_testBit_eq
  intro i
  rw [Nat.testBit_and, show (64 : Nat) = 2 ^ 6 from rfl, Nat.testBit_mul_two_pow, Nat.testBit_div_two_pow]
  rw [show (4294967232 : Nat) = 67108863 * 2 ^ 6 from rfl, Nat.testBit_mul_two_pow, show (67108863 : Nat) = 2 ^ 26 - 1 from rfl, Nat.testBit_two_pow_sub_one]
  by_cases h6 : 6 ≤ i
  ·by_cases Zp : i < 32
   ·have e : 6 + (i - 6) = i := by omega
    simp [h6, show i - 6 < 26 by omega, e]
   ·have : (n % 4294967296).testBit i = false := Nat.testBit_lt_two_pow (Nat.lt_of_lt_of_le (Nat.mod_lt _ (by decide)) (Nat.pow_le_pow_right (n := 2) (by omega) (show 32 ≤ i by omega)))
    simp [this, h6, show ¬ (i - 6 < 26) by omega]
  ·simp [h6]
 rw [h1, h2]
 omega
theorem Bh (a : Int) (h0 : 0 ≤ a) (h1 : a < 4294967296) : gH.f a = some (b9 a) := by
 obtain ⟨n, rfl⟩ : ∃ n : Nat, a = (n : Int) := ⟨a.toNat, by omega⟩
 unfold gH.f b9
 rw [show oy.f 26 = some ((4294967232 : Nat) : Int) from rfl, Option.bind_some]
 congr 1
 rw [u32_and_nat n 4294967232 (by omega) (by omega), KB]
 omega
def fS (s : ByteArray) : Bool := decide (s.toList = []) || fD s
theorem AW (s : ByteArray) : gG.f s = some (fS s) := by
 unfold gG.f fm.f fS
 by_cases h : s.toList = []
 ·rw [if_pos h]; simp [h]
 ·rw [if_neg h]; simp [h]
def dC (b : Bk) : Bool := (b9 b.addr == b.addr) && (fS b.aff && (decide (b.attrs.length ≤ 64) && (kK b && kW b)))
def iO.T1 : Bool × List (List Nat × List Nat) := (true, [([], []), ([0], [0]), ([1], [1]), ([], []), ([3], [3]), ([2, 4], [2, 4]), ([5, 2], [5]), ([6], [6]), ([7, 6], [6, 7]), ([8, 6, 6], [6, 8]), ([6, 9], [6, 9]), ([10, 9], [10]), ([11], [11]), ([12, 11], [11, 12]), ([13, 11], [11, 13]), ([14, 11], [11, 14]), ([11, 15], [11, 15]), ([16, 11], [16]), ([17], [17]), ([18, 17, 17], [17, 18]), ([17, 19], [17, 19]), ([20, 19], [20]), ([21], [21]), ([22, 21, 21], [21, 22]), ([21, 23], [21, 23]), ([24, 23, 0, 1, 2, 3, 4, 5, 6, 7, 8, 9, 10, 11, 12, 13, 14, 15, 16, 17, 18, 19, 20, 21, 22, 23, 24], [24])])
def iO.B1 : List Nat := [0, 1, 3, 0, 8, 31, 63, 127, 255, 511, 1023, 2047, 4095, 8191, 16383, 32767, 65535, 131071, 262143, 524287, 1048575, 2097151, 4194303, 8388607, 16777215, 33554431]
theorem iO.tab1 : ed .any (opsOf Try.f48 1) = iO.T1 := by kernel_rfl
theorem iO.bits1 : dL iO.T1.2 iO.B1 = true := by kernel_rfl
set_option maxHeartbeats 8000000 in
set_option maxRecDepth 100000 in
theorem ee (b : Bk) (hk : BkOk b) (v : Value) (w : World) (h : iz w v b) :
  Calls Try.prog 48 #[v] w fun e w' => e = .returned (.bool (dC b)) ∧ Below w.heap.size w w' := by
 obtain ⟨A, c, A', c', rfl, hr⟩ := h
 have HL := ak hr.l64
 have HR := ak hr
 have HS := ak hk.s8
 have HF := ak hk.f8
 have jt := ak (Bh b.addr hk.a0 hk.a1)
 have lF := ak (AW b.aff)
 have HLL := ak (show (Try.prog.info? 57).map (·.size) = some (aU b.addr b.aff b.slots (.slice A b.free.length c) (.slice A' b.attrs.length c')).length by rw [ah _ _ _ _ _ hr.l64]; kernel_rfl)
 clear hr hk
 go_enter Try.func48, Try.ntmps48
 go_wp2_with (refine aD rfl 57 (.tmp 0) rfl _ rfl ?_; intro g W1 hg hbx bq; have HX := ak (show aH W1.drew g _ _ from hbx); have HB := ak (br bq); have mU := ak ((HR.out.below bq).below (br (Below.refl W1.heap.size W1))); have HZ := ak (Below.refl W1.drew.heap.size W1.drew); clear hbx bq hg HR)
 cases h1 : (b9 b.addr == b.addr) with
 | false =>
  have HV := ak (show dC b = false by unfold dC; rw [h1]; rfl)
  refine dd (n := 26) (S := fun w' => aH w' g (aU b.addr b.aff b.slots (.slice A b.free.length c) (.slice A' b.attrs.length c')) 57) (ds := []) #[false, false, false, false, false, false, false, false, false, false, false, false, false, false, false, false, false, false, false, false, false, false, false, false, false, false] (by kernel_rfl) rfl rfl HX.out (fun hHeld => ?_); refine bQ iO.tab1 iO.bits1 (fun ae bA => ?_)
  refine pu 0 ae.out ?_
  refine tk 1 ae.out bA.out hHeld ?_ (hv := by intro w' aZ; have s0 := aZ.cell 0 _ rfl; go_simp; with_reducible rfl)
  refine pu 3 ae.out ?_
  refine tk 4 ae.out bA.out hHeld ?_ (hv := by intro w' aZ; have s0 := aZ.cell 0 _ rfl; go_simp; with_reducible rfl)
  refine on 2 ae.out (fun K hK => ?_)
  refine gs Try.func80 #[.int .u32 b.addr] (gH.calls _ _ _ jt.out) ?_
  rintro e V2 ⟨rfl, hb⟩
  refine ⟨_, rfl, ?_⟩
  have HXn := hHeld.below hb; have HZn := ak (bg HZ.out hb); clear HZ; have HZ := HZn; clear HZn hb
  refine kn hK HXn (fun hHeld => ?_)
  clear hK K
  refine pu 5 ae.out ?_
  refine pu 6 ae.out ?_
  refine po 7 ae.out ?_
  refine po 8 ae.out ?_
  refine po 9 ae.out ?_
  refine pu 10 ae.out ?_
  refine pu 11 ae.out ?_
  refine po 12 ae.out ?_
  refine po 13 ae.out ?_
  refine po 14 ae.out ?_
  refine po 15 ae.out ?_
  refine pu 16 ae.out ?_
  refine pu 17 ae.out ?_
  refine po 18 ae.out ?_
  refine po 19 ae.out ?_
  refine pu 20 ae.out ?_
  refine pu 21 ae.out ?_
  refine po 22 ae.out ?_
  refine po 23 ae.out ?_
  refine pu 24 ae.out ?_
  refine pu 25 ae.out ?_
  refine dn ae.out ?_
  try go_wp2
  go_ret
  refine ⟨?_, HB.out.trans (HZ.out.mono HB.out.size)⟩
  rw [HV.out]; rfl
 | true =>
  cases h2 : fS b.aff with
  | false =>
   have HV := ak (show dC b = false by unfold dC; rw [h1, h2]; rfl)
   rw [h2] at lF
   refine dd (n := 26) (S := fun w' => aH w' g (aU b.addr b.aff b.slots (.slice A b.free.length c) (.slice A' b.attrs.length c')) 57) (ds := []) #[false, false, false, false, false, false, false, false, false, false, false, false, false, false, false, false, false, false, false, false, false, false, false, false, false, false] (by kernel_rfl) rfl rfl HX.out (fun hHeld => ?_); refine bQ iO.tab1 iO.bits1 (fun ae bA => ?_)
   refine pu 0 ae.out ?_
   refine tk 1 ae.out bA.out hHeld ?_ (hv := by intro w' aZ; have s0 := aZ.cell 0 _ rfl; go_simp; with_reducible rfl)
   refine pu 3 ae.out ?_
   refine tk 4 ae.out bA.out hHeld ?_ (hv := by intro w' aZ; have s0 := aZ.cell 0 _ rfl; go_simp; with_reducible rfl)
   refine on 2 ae.out (fun K hK => ?_)
   refine gs Try.func80 #[.int .u32 b.addr] (gH.calls _ _ _ jt.out) ?_
   rintro e V2 ⟨rfl, hb⟩
   refine ⟨_, rfl, ?_⟩
   have HXn := hHeld.below hb; have HZn := ak (bg HZ.out hb); clear HZ; have HZ := HZn; clear HZn hb
   refine kn hK HXn (fun hHeld => ?_)
   clear hK K
   refine pu 5 ae.out ?_
   refine pu 6 ae.out ?_
   refine pu 7 ae.out ?_
   refine tk 8 ae.out bA.out hHeld ?_ (hv := by intro w' aZ; have s0 := aZ.cell 1 _ rfl; go_simp; with_reducible rfl)
   refine on 9 ae.out (fun K hK => ?_)
   refine gs Try.func79 #[.string b.aff] (gG.calls _ _ _ lF.out) ?_
   rintro e V9 ⟨rfl, hb⟩
   refine ⟨_, rfl, ?_⟩
   have HXn := hHeld.below hb; have HZn := ak (bg HZ.out hb); clear HZ; have HZ := HZn; clear HZn hb
   refine kn hK HXn (fun hHeld => ?_)
   clear hK K
   refine pu 10 ae.out ?_
   refine pu 11 ae.out ?_
   refine po 12 ae.out ?_
   refine po 13 ae.out ?_
   refine po 14 ae.out ?_
   refine po 15 ae.out ?_
   refine pu 16 ae.out ?_
   refine pu 17 ae.out ?_
   refine po 18 ae.out ?_
   refine po 19 ae.out ?_
   refine pu 20 ae.out ?_
   refine pu 21 ae.out ?_
   refine po 22 ae.out ?_
   refine po 23 ae.out ?_
   refine pu 24 ae.out ?_
   refine pu 25 ae.out ?_
   refine dn ae.out ?_
   try go_wp2
   go_ret
   refine ⟨?_, HB.out.trans (HZ.out.mono HB.out.size)⟩
   rw [HV.out]; rfl
  | true =>
   rw [h2] at lF
   by_cases h3 : b.attrs.length ≤ 64
   ·have XQ : decide ((b.attrs.length : Int) ≤ 64) = true := by simp; omega
    have HN := ak h3
    cases h4 : kK b with
    | false =>
     have HV := ak (show dC b = false by unfold dC; rw [h1, h2, h4]; simp)
     have nt := ak h4
     refine dd (n := 26) (S := fun w' => aH w' g (aU b.addr b.aff b.slots (.slice A b.free.length c) (.slice A' b.attrs.length c')) 57) (ds := []) #[false, false, false, false, false, false, false, false, false, false, false, false, false, false, false, false, false, false, false, false, false, false, false, false, false, false] (by kernel_rfl) rfl rfl HX.out (fun hHeld => ?_); refine bQ iO.tab1 iO.bits1 (fun ae bA => ?_)
     refine pu 0 ae.out ?_
     refine tk 1 ae.out bA.out hHeld ?_ (hv := by intro w' aZ; have s0 := aZ.cell 0 _ rfl; go_simp; with_reducible rfl)
     refine pu 3 ae.out ?_
     refine tk 4 ae.out bA.out hHeld ?_ (hv := by intro w' aZ; have s0 := aZ.cell 0 _ rfl; go_simp; with_reducible rfl)
     refine on 2 ae.out (fun K hK => ?_)
     refine gs Try.func80 #[.int .u32 b.addr] (gH.calls _ _ _ jt.out) ?_
     rintro e V2 ⟨rfl, hb⟩
     refine ⟨_, rfl, ?_⟩
     have HXn := hHeld.below hb; have HZn := ak (bg HZ.out hb); clear HZ; have HZ := HZn; clear HZn hb
     refine kn hK HXn (fun hHeld => ?_)
     clear hK K
     refine pu 5 ae.out ?_
     refine pu 6 ae.out ?_
     refine pu 7 ae.out ?_
     refine tk 8 ae.out bA.out hHeld ?_ (hv := by intro w' aZ; have s0 := aZ.cell 1 _ rfl; go_simp; with_reducible rfl)
     refine on 9 ae.out (fun K hK => ?_)
     refine gs Try.func79 #[.string b.aff] (gG.calls _ _ _ lF.out) ?_
     rintro e V9 ⟨rfl, hb⟩
     refine ⟨_, rfl, ?_⟩
     have HXn := hHeld.below hb; have HZn := ak (bg HZ.out hb); clear HZ; have HZ := HZn; clear HZn hb
     refine kn hK HXn (fun hHeld => ?_)
     clear hK K
     refine pu 10 ae.out ?_
     refine pu 11 ae.out ?_
     refine pu 12 ae.out ?_
     refine tk 13 ae.out bA.out hHeld ?_ (hv := by intro w' aZ; have s0 := aZ.cell 67 _ (ft _ _ _ _ _ HL.out); go_simp; with_reducible rfl)
     refine pu 14 ae.out ?_
     refine pu 15 ae.out ?_
     refine pu 16 ae.out ?_
     refine pu 17 ae.out ?_
     refine tk 18 ae.out bA.out hHeld ?_ (hv := by exact fun _ aZ => aQ 57 (.tmp 1) rfl g rfl _ _ _ aZ Try.underlying57 rfl HLL.out)
     refine on 19 ae.out (fun K hK => ?_)
     refine gs Try.func86 #[.agg (aU b.addr b.aff b.slots (.slice A b.free.length c) (.slice A' b.attrs.length c')).toArray] (BV b HS.out HN.out _ _ ⟨A, c, A', c', rfl, mU.out.below HZ.out⟩) ?_
     rintro e X0 ⟨rfl, hb⟩
     refine ⟨_, rfl, ?_⟩
     have HXn := hHeld.below hb; rw [nt.out]; have HZn := ak (bg HZ.out hb); clear HZ; have HZ := HZn; clear HZn hb
     refine kn hK HXn (fun hHeld => ?_)
     clear hK K
     refine pu 20 ae.out ?_
     refine pu 21 ae.out ?_
     refine po 22 ae.out ?_
     refine po 23 ae.out ?_
     refine pu 24 ae.out ?_
     refine pu 25 ae.out ?_
     refine dn ae.out ?_
     try go_wp2
     go_ret
     refine ⟨?_, HB.out.trans (HZ.out.mono HB.out.size)⟩
     rw [HV.out]; rfl
    | true =>
     have HV := ak (show dC b = kW b by unfold dC; rw [h1, h2, h4, decide_eq_true h3]; rfl)
     have nt := ak h4
     refine dd (n := 26) (S := fun w' => aH w' g (aU b.addr b.aff b.slots (.slice A b.free.length c) (.slice A' b.attrs.length c')) 57) (ds := []) #[false, false, false, false, false, false, false, false, false, false, false, false, false, false, false, false, false, false, false, false, false, false, false, false, false, false] (by kernel_rfl) rfl rfl HX.out (fun hHeld => ?_); refine bQ iO.tab1 iO.bits1 (fun ae bA => ?_)
     refine pu 0 ae.out ?_
     refine tk 1 ae.out bA.out hHeld ?_ (hv := by intro w' aZ; have s0 := aZ.cell 0 _ rfl; go_simp; with_reducible rfl)
     refine pu 3 ae.out ?_
     refine tk 4 ae.out bA.out hHeld ?_ (hv := by intro w' aZ; have s0 := aZ.cell 0 _ rfl; go_simp; with_reducible rfl)
     refine on 2 ae.out (fun K hK => ?_)
     refine gs Try.func80 #[.int .u32 b.addr] (gH.calls _ _ _ jt.out) ?_
     rintro e V2 ⟨rfl, hb⟩
     refine ⟨_, rfl, ?_⟩
     have HXn := hHeld.below hb; have HZn := ak (bg HZ.out hb); clear HZ; have HZ := HZn; clear HZn hb
     refine kn hK HXn (fun hHeld => ?_)
     clear hK K
     refine pu 5 ae.out ?_
     refine pu 6 ae.out ?_
     refine pu 7 ae.out ?_
     refine tk 8 ae.out bA.out hHeld ?_ (hv := by intro w' aZ; have s0 := aZ.cell 1 _ rfl; go_simp; with_reducible rfl)
     refine on 9 ae.out (fun K hK => ?_)
     refine gs Try.func79 #[.string b.aff] (gG.calls _ _ _ lF.out) ?_
     rintro e V9 ⟨rfl, hb⟩
     refine ⟨_, rfl, ?_⟩
     have HXn := hHeld.below hb; have HZn := ak (bg HZ.out hb); clear HZ; have HZ := HZn; clear HZn hb
     refine kn hK HXn (fun hHeld => ?_)
     clear hK K
     refine pu 10 ae.out ?_
     refine pu 11 ae.out ?_
     refine pu 12 ae.out ?_
     refine tk 13 ae.out bA.out hHeld ?_ (hv := by intro w' aZ; have s0 := aZ.cell 67 _ (ft _ _ _ _ _ HL.out); go_simp; with_reducible rfl)
     refine pu 14 ae.out ?_
     refine pu 15 ae.out ?_
     refine pu 16 ae.out ?_
     refine pu 17 ae.out ?_
     refine tk 18 ae.out bA.out hHeld ?_ (hv := by exact fun _ aZ => aQ 57 (.tmp 1) rfl g rfl _ _ _ aZ Try.underlying57 rfl HLL.out)
     refine on 19 ae.out (fun K hK => ?_)
     refine gs Try.func86 #[.agg (aU b.addr b.aff b.slots (.slice A b.free.length c) (.slice A' b.attrs.length c')).toArray] (BV b HS.out HN.out _ _ ⟨A, c, A', c', rfl, mU.out.below HZ.out⟩) ?_
     rintro e X0 ⟨rfl, hb⟩
     refine ⟨_, rfl, ?_⟩
     have HXn := hHeld.below hb; rw [nt.out]; have HZn := ak (bg HZ.out hb); clear HZ; have HZ := HZn; clear HZn hb
     refine kn hK HXn (fun hHeld => ?_)
     clear hK K
     refine pu 20 ae.out ?_
     refine pu 21 ae.out ?_
     refine tk 22 ae.out bA.out hHeld ?_ (hv := by exact fun _ aZ => aQ 57 (.tmp 1) rfl g rfl _ _ _ aZ Try.underlying57 rfl HLL.out)
     refine on 23 ae.out (fun K hK => ?_)
     refine gs Try.func87 #[.agg (aU b.addr b.aff b.slots (.slice A b.free.length c) (.slice A' b.attrs.length c')).toArray] (Kl b HF.out HS.out _ _ ⟨A, c, A', c', rfl, mU.out.below HZ.out⟩) ?_
     rintro e ZB ⟨rfl, hb⟩
     refine ⟨_, rfl, ?_⟩
     have HXn := hHeld.below hb; have HZn := ak (bg HZ.out hb); clear HZ; have HZ := HZn; clear HZn hb
     refine kn hK HXn (fun hHeld => ?_)
     clear hK K
     refine pu 24 ae.out ?_
     refine pu 25 ae.out ?_
     refine dn ae.out ?_
     try go_wp2
     go_ret
     refine ⟨?_, HB.out.trans (HZ.out.mono HB.out.size)⟩
     rw [HV.out]; rfl
   ·have XQ : decide ((b.attrs.length : Int) ≤ 64) = false := by simp; omega
    have HV := ak (show dC b = false by unfold dC; rw [h1, h2, decide_eq_false h3]; rfl)
    refine dd (n := 26) (S := fun w' => aH w' g (aU b.addr b.aff b.slots (.slice A b.free.length c) (.slice A' b.attrs.length c')) 57) (ds := []) #[false, false, false, false, false, false, false, false, false, false, false, false, false, false, false, false, false, false, false, false, false, false, false, false, false, false] (by kernel_rfl) rfl rfl HX.out (fun hHeld => ?_); refine bQ iO.tab1 iO.bits1 (fun ae bA => ?_)
    refine pu 0 ae.out ?_
    refine tk 1 ae.out bA.out hHeld ?_ (hv := by intro w' aZ; have s0 := aZ.cell 0 _ rfl; go_simp; with_reducible rfl)
    refine pu 3 ae.out ?_
    refine tk 4 ae.out bA.out hHeld ?_ (hv := by intro w' aZ; have s0 := aZ.cell 0 _ rfl; go_simp; with_reducible rfl)
    refine on 2 ae.out (fun K hK => ?_)
    refine gs Try.func80 #[.int .u32 b.addr] (gH.calls _ _ _ jt.out) ?_
    rintro e V2 ⟨rfl, hb⟩
    refine ⟨_, rfl, ?_⟩
    have HXn := hHeld.below hb; have HZn := ak (bg HZ.out hb); clear HZ; have HZ := HZn; clear HZn hb
    refine kn hK HXn (fun hHeld => ?_)
    clear hK K
    refine pu 5 ae.out ?_
    refine pu 6 ae.out ?_
    refine pu 7 ae.out ?_
    refine tk 8 ae.out bA.out hHeld ?_ (hv := by intro w' aZ; have s0 := aZ.cell 1 _ rfl; go_simp; with_reducible rfl)
    refine on 9 ae.out (fun K hK => ?_)
    refine gs Try.func79 #[.string b.aff] (gG.calls _ _ _ lF.out) ?_
    rintro e V9 ⟨rfl, hb⟩
    refine ⟨_, rfl, ?_⟩
    have HXn := hHeld.below hb; have HZn := ak (bg HZ.out hb); clear HZ; have HZ := HZn; clear HZn hb
    refine kn hK HXn (fun hHeld => ?_)
    clear hK K
    refine pu 10 ae.out ?_
    refine pu 11 ae.out ?_
    refine pu 12 ae.out ?_
    refine tk 13 ae.out bA.out hHeld ?_ (hv := by intro w' aZ; have s0 := aZ.cell 67 _ (ft _ _ _ _ _ HL.out); go_simp; with_reducible rfl)
    refine pu 14 ae.out ?_
    refine pu 15 ae.out ?_
    refine pu 16 ae.out ?_
    refine pu 17 ae.out ?_
    refine po 18 ae.out ?_
    refine po 19 ae.out ?_
    refine pu 20 ae.out ?_
    refine pu 21 ae.out ?_
    refine po 22 ae.out ?_
    refine po 23 ae.out ?_
    refine pu 24 ae.out ?_
    refine pu 25 ae.out ?_
    refine dn ae.out ?_
    try go_wp2
    go_ret
    refine ⟨?_, HB.out.trans (HZ.out.mono HB.out.size)⟩
    rw [HV.out]; rfl
end Go.Proofs.Ytemhalnhbgkbcaa.V
end

section
namespace Go.Proofs.Ytemhalnhbgkbcaa.V
theorem ja : (Try.prog.info? 5).map (fun i => (i.zero, i.size, i.bytes)) = some (some (.int .u8 0), 1, 1) := by kernel_rfl
theorem xq : (Try.prog.info? 85).map (fun i => (i.zero, i.size, i.bytes)) = some (some (.agg #[.string ⟨#[]⟩, .string ⟨#[]⟩]), 2, 32) := by kernel_rfl
theorem AN {α : Type} {d : Kd α} {w : World} {xs : List α} (h : Kd.C d w none xs.length xs) : xs = [] := by
 rcases Nat.eq_zero_or_pos xs.length with h0 | h0
 ·exact List.eq_nil_of_length_eq_zero h0
 ·obtain ⟨ad, he, _⟩ := h.2.2 h0
  cases he
set_option maxHeartbeats 2000000 in
set_option maxRecDepth 100000 in
theorem Bl (xs : List Int) (A : Option Addr) (c : Nat) (w : World) (hr : Kd.C (Kd.int .u8) w A xs.length xs) (hc : xs.length ≤ c) (hl : xs.length ≤ 4294967296) :
  Calls Try.prog 91 #[.slice A xs.length c] w fun e w' => ∃ v, e = .returned v ∧ Kd.R (Kd.int .u8) 5 w' w.heap.size (fun _ => True) v xs ∧ Below w.heap.size w w' := by
 have WJ : ∀ (w : World) (a : Option Addr) (n c n' c' : Nat), (binOp .eql 48 (.slice a n c) (.slice none n' c')).run Try.prog w = .ok (.bool a.isNone) w := fun w a n c n' c' => Lib.run_eql_slice_nil w _ _ a n c n' c' Try.underlying48
 cases A with
 | none =>
  obtain rfl := AN hr
  clear hr
  go_enter Try.func91, Try.ntmps91
  go_wp2
  go_ret
  exact ⟨_, rfl, Kd.R_nil _ _ _ _ _, Below.refl _ _⟩
 | some ad =>
  have HR := ak hr
  have HL := ak hl
  clear hr hl
  go_enter Try.func91, Try.ntmps91
  go_wp2_with (first
   | ((with_reducible refine av (N := 5) rfl ?_); refine Kd.R_lit (Kd.int .u8) w.heap.size 5 (w0 := w) ?hg (N := 5) ?hd (xs := ([] : List Int)) (inner := []) (ok := fun _ => True) (okp := fun _ => True) ?hr ?hp (fun _ hk => hk) trivial (Below.refl _ _) (Nat.le_refl _) (by simp) ?_; (case hd => rfl); (case hg => rfl); (case hr => first | (go_simp; done) | (go_simp; rfl)); (case hp => exact (cP.none _ _)); intro v1 w1 eS bq iu ov; have ix := ak eS; have bP := ak bq; clear eS bq iu ov)
   | ((with_reducible refine bG (b := .append) (xs := #[.tmp 5, .tmp 6]) rfl ?_); at_builtin; refine Kd.R_append_rows (Kd.int .u8) (w0 := w) w.heap.size rfl (.tmp 5) (.tmp 6) 48 5 (.int .u8 0) 1 rfl Try.underlying48 ja rfl (by decide) (by omega) _ [] xs (some ad) xs.length c (fun _ => True) (fun _ => False) rfl rfl ix.out (Kd.C_below HR.out bP.out) (fun x cs h => h) (fun _ h => h.elim) (fun _ _ => trivial) bP.out bP.out.size (by have := HL.out; simp; omega) ?_; intro v2 w2 IC dD nn TJ))
  go_ret
  exact ⟨_, rfl, IC, dD⟩
set_option maxHeartbeats 2000000 in
set_option maxRecDepth 100000 in
theorem NH (xs : List At) (A : Option Addr) (c : Nat) (w : World) (hr : Kd.C ju w A xs.length xs) (hc : xs.length ≤ c) (hl : xs.length ≤ 4294967296) :
  Calls Try.prog 109 #[.slice A xs.length c] w fun e w' => ∃ v, e = .returned v ∧ Kd.R ju 85 w' w.heap.size (fun _ => True) v xs ∧ Below w.heap.size w w' := by
 have WJ : ∀ (w : World) (a : Option Addr) (n c n' c' : Nat), (binOp .eql 55 (.slice a n c) (.slice none n' c')).run Try.prog w = .ok (.bool a.isNone) w := fun w a n c n' c' => Lib.run_eql_slice_nil w _ _ a n c n' c' Try.underlying55
 cases A with
 | none =>
  obtain rfl := AN hr
  clear hr
  go_enter Try.func109, Try.ntmps109
  go_wp2
  go_ret
  exact ⟨_, rfl, Kd.R_nil _ _ _ _ _, Below.refl _ _⟩
 | some ad =>
  have HR := ak hr
  have HL := ak hl
  clear hr hl
  go_enter Try.func109, Try.ntmps109
  go_wp2_with (first
   | ((with_reducible refine av (N := 5) rfl ?_); refine Kd.R_lit ju w.heap.size 85 (w0 := w) ?hg (N := 5) ?hd (xs := ([] : List At)) (inner := []) (ok := fun _ => True) (okp := fun _ => True) ?hr ?hp (fun _ hk => hk) trivial (Below.refl _ _) (Nat.le_refl _) (by simp) ?_; (case hd => rfl); (case hg => rfl); (case hr => first | (go_simp; done) | (go_simp; rfl)); (case hp => exact (cP.none _ _)); intro v1 w1 eS bq iu ov; have ix := ak eS; have bP := ak bq; clear eS bq iu ov)
   | ((with_reducible refine bG (b := .append) (xs := #[.tmp 5, .tmp 6]) rfl ?_); at_builtin; refine Kd.R_append_rows ju (w0 := w) w.heap.size rfl (.tmp 5) (.tmp 6) 55 85 (.agg #[.string ⟨#[]⟩, .string ⟨#[]⟩]) 32 rfl Try.underlying55 xq rfl (by decide) (by omega) _ [] xs (some ad) xs.length c (fun _ => True) (fun _ => False) rfl rfl ix.out (Kd.C_below HR.out bP.out) (fun x cs h => by rw [De h]; exact xp _ _ _ _) (fun _ h => h.elim) (fun _ _ => trivial) bP.out bP.out.size (by have := HL.out; simp; omega) ?_; intro v2 w2 IC dD nn TJ))
  go_ret
  exact ⟨_, rfl, IC, dD⟩
end Go.Proofs.Ytemhalnhbgkbcaa.V
end

section
namespace Go.Proofs.Ytemhalnhbgkbcaa.V
theorem bD {α : Type} {d : Kd α} {e : Nat} {W W1 : World} {base g t : Nat} {ok : Nat → Prop} {v : Value} {xs : List α} {cs : List Value} (h : Kd.R d e W base ok v xs) (hb : aH W g cs t) (ht : ∀ q, q ∈ e :: d.E → q ≠ t) (hg : W.grownBy W1 (some g)) : Kd.R d e W1 base ok v xs :=
 Kd.R_mono (Kd.R_grown (Kd.R_types h hb ht) hg (fun k hk he => hk.2 (Option.some.inj he))) (fun _ hk => hk.1)
def ey (W : World) (base : Nat) (v : Value) (b : Bk) : Prop := b.slots.length = 64 ∧ ∃ vf va, v = .agg (aU b.addr b.aff b.slots vf va).toArray ∧ Kd.R (Kd.int .u8) 5 W base (fun _ => True) vf b.free ∧ Kd.R ju 85 W base (fun _ => True) va b.attrs
theorem ey.toV {W : World} {base : Nat} {v : Value} {b : Bk} (h : ey W base v b) : iz W v b := by
 obtain ⟨hl, vf, va, rfl, hf, ha⟩ := h
 obtain ⟨A, c, rfl, h1, h2⟩ := Kd.R_reads hf
 obtain ⟨A', c', rfl, h3, h4⟩ := Kd.R_reads ha
 exact ⟨A, c, A', c', rfl, hl, h2, h1, h4, h3⟩
theorem ey.below {W W1 : World} {base : Nat} {v : Value} {b : Bk} (h : ey W base v b) (hb : Below W.heap.size W W1) : ey W1 base v b := by
 obtain ⟨hl, vf, va, rfl, hf, ha⟩ := h
 exact ⟨hl, vf, va, rfl, Kd.R_below hf hb, Kd.R_below ha hb⟩
theorem ey.lower {W : World} {base base' : Nat} {v : Value} {b : Bk} (h : ey W base v b) (hb : base' ≤ base) : ey W base' v b := by
 obtain ⟨hl, vf, va, rfl, hf, ha⟩ := h
 exact ⟨hl, vf, va, rfl, Kd.R_lower hf hb, Kd.R_lower ha hb⟩
def km : Bk := ⟨0, ⟨#[]⟩, List.replicate 64 0, [], []⟩
def a6 : List Value := aU 0 ⟨#[]⟩ (List.replicate 64 0) (.slice none 0 0) (.slice none 0 0)
theorem bT (w : World) : (zeroValue 57).run Try.prog w = .ok (.agg a6.toArray) w := by kernel_rfl
theorem mr (W : World) (base : Nat) : ey W base (.agg a6.toArray) km := ⟨rfl, _, _, rfl, Kd.R_nil _ _ _ _ _, Kd.R_nil _ _ _ _ _⟩
theorem ch (l : List Value) (h : l.length = 68) : (Try.prog.info? 57).map (·.size) = some l.length := by rw [h]; kernel_rfl
def mR.T1 : Bool × List (List Nat × List Nat) := (true, [([], []), ([0], [0]), ([1], [1]), ([], []), ([3], [3]), ([4, 2], [4]), ([0, 1, 2, 3, 4], []), ([6, 2, 5, 0, 1, 2, 3, 4], [2, 6]), ([0, 1, 2, 3, 4, 5, 6, 7], []), ([8, 5, 7, 0, 1, 2, 3, 4, 5, 6, 7], [5, 8])])
def mR.B1 : List Nat := [0, 1, 3, 0, 8, 31, 31, 127, 255, 511]
theorem mR.tab1 : ed .any (opsOf Try.f89 1) = mR.T1 := by kernel_rfl
theorem mR.bits1 : dL mR.T1.2 mR.B1 = true := by kernel_rfl
set_option maxHeartbeats 4000000 in
set_option maxRecDepth 100000 in
theorem m0 (b : Bk) (hf : b.free.length ≤ 4294967296) (ha : b.attrs.length ≤ 4294967296) (v : Value) (w : World) (h : iz w v b) :
  Calls Try.prog 89 #[v] w fun e w' => ∃ v', e = .returned v' ∧ ey w' w.heap.size v' b ∧ Below w.heap.size w w' := by
 obtain ⟨A, c, A', c', rfl, hr⟩ := h
 have HL := ak hr.l64
 have HR := ak hr
 have HF := ak hf
 have HA := ak ha
 clear hr hf ha
 go_enter Try.func89, Try.ntmps89
 go_wp2_with (first
  | (refine aD rfl 57 (.tmp 0) rfl _ rfl ?_; intro g W1 hg hbx bq; have g8 := ak hbx; have bP := ak bq; have HG := ak hg; clear hbx bq hg)
  | (refine au (some 2) rfl rfl 57 rfl a6 bT ?_; intro g2 W2 nn Pm dD))
 have HX := ak (show aH W2.drew g _ _ from (show aH W2 g _ _ from g8.out.below dD))
 have HY := ak (show aH W2.drew g2 _ _ from Pm)
 have HNE := ak (show g ≠ g2 by have := g8.out.lt; omega)
 have HB := ak (br (bP.out.trans (dD.mono bP.out.size)))
 have mz := ak (show w.heap.size ≤ g2 by have := bP.out.size; omega)
 have qL := ak (HR.out.below HB.out)
 have HZ := ak (Below.refl W2.drew.heap.size W2.drew)
 clear Pm dD nn g8 bP
 refine dd (n := 10) (S := fun w' => w'.cell? ⟨g, 66, none⟩ = some (.slice A b.free.length c) ∧ w'.cell? ⟨g, 67, none⟩ = some (.slice A' b.attrs.length c')) (ds := [7, 9]) #[false, false, false, false, false, false, false, false, false, false] (by kernel_rfl) rfl rfl ⟨HX.out.cell 66 _ (fI _ _ _ _ _ HL.out), HX.out.cell 67 _ (ft _ _ _ _ _ HL.out)⟩ (fun hHeld => ?_); refine bQ mR.tab1 mR.bits1 (fun ae bA => ?_)
 refine pu 0 ae.out ?_
 refine tk 1 ae.out bA.out hHeld ?_ (hv := by intro w' aZ; obtain ⟨s0, s1⟩ := aZ; go_simp; with_reducible rfl)
 refine pu 3 ae.out ?_
 refine tk 4 ae.out bA.out hHeld ?_ (hv := by intro w' aZ; obtain ⟨s0, s1⟩ := aZ; go_simp; with_reducible rfl)
 refine on 2 ae.out (fun K hK => ?_)
 refine gs Try.func91 #[.slice A b.free.length c] (Bl b.free A c _ (qL.out.below HZ.out).fr HR.out.fc HF.out) ?_
 rintro e V3 ⟨vf, rfl, hrf, gB⟩
 refine ⟨_, rfl, ?_⟩
 have Ji := ak (bg HZ.out gB); have HRF := ak hrf; obtain ⟨Af, cf, rfl⟩ := Kd.R_slice hrf; clear hrf
 refine kn hK ⟨(HX.out.below Ji.out).cell 66 _ (fI _ _ _ _ _ HL.out), (HX.out.below Ji.out).cell 67 _ (ft _ _ _ _ _ HL.out)⟩ (fun hHeld => ?_)
 clear hK K
 refine pu 6 ae.out ?_
 refine on 5 ae.out (fun K hK => ?_)
 refine gs Try.func109 #[.slice A' b.attrs.length c'] (NH b.attrs A' c' _ (qL.out.below Ji.out).ar HR.out.ac HA.out) ?_
 rintro e V4 ⟨va, rfl, hra, kU⟩
 refine ⟨_, rfl, ?_⟩
 have nr := ak (bg Ji.out kU); have HRA := ak hra; have Ub := ak (Kd.R_below HRF.out kU); obtain ⟨Aa, ca, rfl⟩ := Kd.R_slice hra; clear hra
 refine kn hK ⟨(HX.out.below nr.out).cell 66 _ (fI _ _ _ _ _ HL.out), (HX.out.below nr.out).cell 67 _ (ft _ _ _ _ _ HL.out)⟩ (fun hHeld => ?_)
 clear hK K
 refine vz (i := 7) (N := none) #[true, true, true, true, true, true, true, true, false, false] rfl rfl (oP ae.out (by kernel_rfl)) (by decide) (fun K hK => ?_)
 have Y1 := (HX.out.below nr.out).frozen 66; have GF := (HX.out.below nr.out).cell 66 _ (fI _ _ _ _ _ HL.out)
 refine qN (w1 := ?_) (by rfl) rfl ?_ ?_
 rotate_left
 ·go_simp
  rfl
 refine hK.out _ _ ?_
 clear hK K
 refine pu 8 ae.out ?_
 refine vz (i := 9) (N := none) #[true, true, true, true, true, true, true, true, true, true] rfl rfl (oP ae.out (by kernel_rfl)) (by decide) (fun K hK => ?_)
 have TB := (HX.out.below nr.out).frozen 67; have DF := (HX.out.below nr.out).cell 67 _ (ft _ _ _ _ _ HL.out)
 refine qN (w1 := ?_) (by rfl) rfl ?_ ?_
 rotate_left
 ·go_simp
  rfl
 refine hK.out _ _ ?_
 clear hK K
 refine dn ae.out ?_
 have IA := ((HX.out.below nr.out).set 66 (.slice Af b.free.length cf)).set 67 (.slice Aa b.attrs.length ca)
 rw [k8 _ _ _ _ _ HL.out, qW _ _ _ _ _ HL.out] at IA
 have my : W2.drew.heap.size ≤ V4.heap.size := nr.out.size
 have J6 := bD (bD (Kd.R_lower Ub.out HB.out.size) (HX.out.below nr.out) (by decide) (bs V4 g 66 (.slice Af b.free.length cf))) ((HX.out.below nr.out).set 66 _) (by decide) (bs _ g 67 (.slice Aa b.attrs.length ca))
 have J7 := bD (bD (Kd.R_lower HRA.out (Nat.le_trans HB.out.size Ji.out.size)) (HX.out.below nr.out) (by decide) (bs V4 g 66 (.slice Af b.free.length cf))) ((HX.out.below nr.out).set 66 _) (by decide) (bs _ g 67 (.slice Aa b.attrs.length ca))
 have BM := ((HY.out.below nr.out).far (p := ⟨g, 66, none⟩) (fun e => HNE.out e.symm) (.slice Af b.free.length cf)).far (p := ⟨g, 67, none⟩) (fun e => HNE.out e.symm) (.slice Aa b.attrs.length ca)
 have ox := Below.setCell (Below.setCell (HB.out.trans (nr.out.mono HB.out.size)) (p := ⟨g, 66, none⟩) HG.out (.slice Af b.free.length cf)) (p := ⟨g, 67, none⟩) HG.out (.slice Aa b.attrs.length ca)
 generalize (V4.setCell ⟨g, 66, none⟩ (.slice Af b.free.length cf)).setCell ⟨g, 67, none⟩ (.slice Aa b.attrs.length ca) = V5 at IA J6 J7 BM ox ⊢
 have la := ak IA
 have ss := ak BM
 have Ua := ak J6
 have Uc := ak J7
 have lp := ak ox
 have O6 := ah b.addr b.aff b.slots (.slice Af b.free.length cf) (.slice Aa b.attrs.length ca) HL.out
 have tW := ak O6
 clear IA J6 J7 BM ox O6 hHeld
 go_wp2_with (first
  | (refine az rfl 57 (.tmp 1) rfl g rfl _ _ _ la.out Try.underlying57 rfl 68 (by kernel_rfl) tW.out ?_)
  | (refine aK rfl 57 (.tmp 2) (.tmp 11) rfl g2 (aU b.addr b.aff b.slots (.slice Af b.free.length cf) (.slice Aa b.attrs.length ca)) rfl rfl 57 _ ss.out 68 (by kernel_rfl) tW.out rfl (b7 _ _ _ _ _ rfl rfl) ?_; intro V6 mA nL))
 exact bodyPost_ret (results_cell_row rfl _ _ g2 57 _ (0, 0) _ rfl mA Try.underlying57 rfl (by simp only [List.size_toArray]; exact ch _ tW.out)) rfl ⟨_, rfl, ⟨HL.out, _, _, rfl, bD Ua.out ss.out (by decide) nL, bD Uc.out ss.out (by decide) nL⟩, lp.out.grown nL lp.out.size (by intro k hk; cases hk; exact mz.out)⟩
end Go.Proofs.Ytemhalnhbgkbcaa.V
end

section
namespace Go.Proofs.Ytemhalnhbgkbcaa.V
def lq (n : Nat) : List Int := (List.range n).map (fun i : Nat => (i : Int))
theorem yO (n : Nat) : lq (n + 1) = lq n ++ [(n : Int)] := by simp [lq, List.range_succ]
theorem wK (n : Nat) : (lq n).length = n := by simp [lq]
def qQ (a : Int) (s : ByteArray) : Bk := ⟨b9 a, s, List.replicate 64 0, lq 64, []⟩
theorem kZ : Try.prog.built 57 [] = some a6.toArray := by kernel_rfl
theorem PR (x : Int) (s : ByteArray) : Try.prog.built 57 [(0, .int .u32 x), (1, .string s)] = some (aU x s (List.replicate 64 0) (.slice none 0 0) (.slice none 0 0)).toArray := by kernel_rfl
theorem ij : ∀ v ∈ a6, v.oneCell' = true := b7 _ _ _ _ _ rfl rfl
set_option maxHeartbeats 4000000 in
set_option maxRecDepth 100000 in
theorem Fz (a : Int) (h0 : 0 ≤ a) (h1 : a < 4294967296) (s : ByteArray) (w : World) :
  Calls Try.prog 41 #[.int .u32 a, .string s] w fun e w' => ∃ v, e = .returned (.tuple #[v, .int .i64 (if fS s = true then 0 else 1)]) ∧ ey w' w.heap.size v (if fS s = true then qQ a s else km) ∧ Below w.heap.size w w' := by
 have jt := ak (Bh a h0 h1)
 have lF := ak (AW s)
 clear h0 h1
 cases ho : fS s with
 | false =>
  rw [ho] at lF
  clear ho
  go_enter Try.func41, Try.ntmps41
  go_wp2_with (first
   | (refine au (some 4) rfl rfl 57 rfl a6 bT ?_; intro g4 W1 my vF bq; have g8 := ak vF; have bP := ak bq; have wi := ak my; clear vF bq my)
   | (go_at_call 79; refine (gG.calls _ _ _ lF.out).mono ?_; rintro e W2 ⟨rfl, dD⟩; have fv := ak (g8.out.below dD); have gl := ak (bP.out.trans (dD.mono bP.out.size)); clear dD g8 bP)
   | (refine fE rfl 57 #[] rfl a6 kZ ?_)
   | (refine aK rfl 57 (.tmp 4) (.tmp 11) rfl g4 a6 rfl rfl 57 _ fv.out 68 (by kernel_rfl) rfl rfl ij ?_; intro W3 fO nM))
  exact bodyPost_ret (eX rfl _ _ g4 57 _ (0, 0) _ rfl fO Try.underlying57 rfl (by simp only [List.size_toArray]; exact ch _ rfl)) rfl ⟨_, rfl, mr _ _, gl.out.grown nM gl.out.size (by intro k hk; cases hk; exact wi.out)⟩
 | true =>
  rw [ho] at lF
  clear ho
  go_enter Try.func41, Try.ntmps41
  go_wp2_with (first
   | (refine au (some 4) rfl rfl 57 rfl a6 bT ?_; intro g4 W1 my vF bq; have g8 := ak vF; have bP := ak bq; have wi := ak my; clear vF bq my)
   | (go_at_call 79; refine (gG.calls _ _ _ lF.out).mono ?_; rintro e W2 ⟨rfl, dD⟩; have fv := ak (g8.out.below dD); have gl := ak (bP.out.trans (dD.mono bP.out.size)); clear dD g8 bP)
   | (go_at_call 80; refine (gH.calls _ _ _ jt.out).mono ?_; rintro e W3 ⟨rfl, gB⟩; have kj := ak (fv.out.below gB); have fO := ak (gl.out.trans (gB.mono gl.out.size)); clear gB fv gl)
   | (refine fE rfl 57 #[(0, .tmp 13), (1, .tmp 14)] rfl (aU (b9 a) s (List.replicate 64 0) (.slice none 0 0) (.slice none 0 0)) (PR _ _) ?_)
   | (refine au (some 6) rfl rfl 57 rfl a6 bT ?_; intro g6 W4 nL Pk kU; have lC := ak (kj.out.below kU); have wV := ak Pk; have HNE := ak (show g4 ≠ g6 by have := kj.out.lt; omega); have gK := ak (fO.out.trans (kU.mono fO.out.size)); have wh := ak (show w.heap.size ≤ g6 by have := fO.out.size; omega); clear Pk kU nL kj fO)
   | (refine aK rfl 57 (.tmp 6) (.tmp 15) rfl g6 (aU (b9 a) s (List.replicate 64 0) (.slice none 0 0) (.slice none 0 0)) rfl rfl 57 _ wV.out 68 (by kernel_rfl) rfl rfl (b7 _ _ _ _ _ rfl rfl) ?_; intro W5 BM sX; have ss := ak BM; have la := ak (lC.out.grown sX (fun e => HNE.out (Option.some.inj e))); have lp := ak (gK.out.grown sX gK.out.size (by intro k hk; cases hk; exact wh.out)); clear BM sX lC wV gK))
  go_loopw [7, 16] (fun _ i W => ∃ k : Nat, k ≤ 64 ∧ i = .int .i64 k ∧ ∃ vf, Aside0 (aH W g6 (aU (b9 a) s (List.replicate 64 0) vf (.slice none 0 0)) 57) ∧ Aside0 (Kd.R (Kd.int .u8) 5 W w.heap.size (fun _ => True) vf (lq k)) ∧ Aside0 (aH W g4 a6 57) ∧ Aside0 (Below w.heap.size w W)) (fun _ i _ => 64 - (intOf i).toNat)
  case atStart => exact ⟨0, by omega, rfl, _, ss, ⟨Kd.R_nil _ _ _ _ _⟩, la, lp⟩
  case round =>
   clear ss la lp
   obtain ⟨k, hk, rfl, vf, HY, HR, HX, HB⟩ := hrel
   obtain ⟨W, rfl⟩ : ∃ W : World, W = wr := ⟨_, rfl⟩
   by_cases qJ : k < 64
   ·have hkb : decide ((k : Int) < 64) = true := by simp; omega
    have wO := HY.out.cell 66 _ (fI _ _ _ _ _ rfl)
    have hlen := wK k
    go_wp2_with (first | ((with_reducible refine bG (b := .append) (xs := #[.tmp 20, .tmp 23]) rfl ?_); at_builtin; refine Kd.R_append (Kd.int .u8) (w0 := w) w.heap.size rfl (.tmp 20) (.tmp 23) 48 5 (.int .u8 0) 1 rfl Try.underlying48 ja rfl (by decide) (by omega) vf (lq k) (k : Int) [.int .u8 (k : Int)] (fun _ => True) (fun _ => False) rfl rfl rfl (fun _ hk => hk.elim) (fun _ _ => trivial) HR.out HB.out HB.out.size (by omega) ?_; intro v1 w1 eS bq iu nU; have vk := ak (HY.out.grown iu (HY.out.ne_row HR.out (by decide))); have g8 := ak (HX.out.grown iu (HX.out.ne_row HR.out (by decide))); rw [← yO] at eS; have mU := ak eS; have bP := ak bq; obtain ⟨A1, c1, rfl⟩ := Kd.R_slice eS; have sg := vk.out.cell 66 _ (fI _ _ _ _ _ rfl); have mL := vk.out.frozen 66; clear eS bq iu nU wO HY HX HR HB))
    have u9 := ak (show aH (w1.setCell ⟨g6, 66, none⟩ (.slice A1 (lq (k + 1)).length c1)) g6 (aU (b9 a) s (List.replicate 64 0) (.slice A1 (lq (k + 1)).length c1) (.slice none 0 0)) 57 by have := vk.out.set 66 (.slice A1 (lq (k + 1)).length c1); rwa [k8 _ _ _ _ _ rfl] at this)
    go_roundw
    case rel => exact ⟨k + 1, by omega, by go_num, _, u9, ⟨bD mU.out vk.out (by decide) (bs _ _ _ _)⟩, ⟨g8.out.far (p := ⟨g6, 66, none⟩) HNE.out _⟩, ⟨Below.setCell bP.out (p := ⟨g6, 66, none⟩) wh.out _⟩⟩
    case measure => simp [intOf]; omega
   ·obtain rfl : k = 64 := by omega
    rw [show ((64 : Nat) : Int) = (64 : Int) from rfl]
    have hkb : decide ((64 : Int) < 64) = false := by decide
    obtain ⟨Af, cf, rfl⟩ := Kd.R_slice HR.out
    go_wp2_with (first
     | (refine az rfl 57 (.tmp 6) rfl g6 rfl _ _ _ HY.out Try.underlying57 rfl 68 (by kernel_rfl) rfl ?_)
     | (refine aK rfl 57 (.tmp 4) (.tmp 27) rfl g4 (aU (b9 a) s (List.replicate 64 0) (.slice Af (lq 64).length cf) (.slice none 0 0)) rfl rfl 57 _ HX.out 68 (by kernel_rfl) rfl rfl (b7 _ _ _ _ _ rfl rfl) ?_; intro W6 mA nL))
    exact bodyPost_ret (eX rfl _ _ g4 57 _ (0, 0) _ rfl mA Try.underlying57 rfl (by simp only [List.size_toArray]; exact ch _ rfl)) rfl ⟨_, rfl, ⟨rfl, _, _, rfl, bD HR.out HX.out (by decide) nL, Kd.R_nil _ _ _ _ _⟩, HB.out.grown nL HB.out.size (by intro k hk; cases hk; exact wi.out)⟩
end Go.Proofs.Ytemhalnhbgkbcaa.V
end

section
namespace Go.Proofs.Ytemhalnhbgkbcaa.V
attribute [local go_sem] ea dY eB ez dq dp dZ dX
def nu.f (bu : ByteArray) (bE : ByteArray) : Option (ByteArray × ByteArray) := some (bu, bE)
set_option maxHeartbeats 8000000 in
set_option maxRecDepth 100000 in
theorem nu.calls (bu : ByteArray) (bE : ByteArray) (r1 : ByteArray) (r2 : ByteArray) (w : World) (h : nu.f bu bE = some (r1, r2)) :
  Calls Try.prog 50 #[.agg #[.string bu, .string bE]] w fun e w' => e = .returned (.agg #[.string r1, .string r2]) ∧ Below w.heap.size w w' := by
 have OX := Try.underlying76
 have J4 := Try.underlying85
 have HB := ak (Below.refl w.heap.size w)
 have H : (some (bu, bE)) = some (r1, r2) := h
 clear h
 simp only [Option.some.injEq, Prod.mk.injEq] at H
 obtain ⟨rfl, rfl⟩ := H
 go_enter Try.func50, Try.ntmps50
 go_wp2_with (first | ((with_reducible refine av (N := 1) rfl ?_); refine fi ?hg (N := 1) ?hd (cs := #[.string bu, .string bE]) (t := 76) ?hr ?_; (case hd => rfl); (case hg => rfl); (case hr => first | (go_simp; done) | (go_simp; rfl)); intro mZ hg w2 hbox hb; have bV := ak (bg (by repeat (first | (with_reducible first | exact HB.out | apply af | apply ab | apply ai) | exact HB.out)) hb); have b4 := ak (hbox); have df := ak ((by rw [hg]; exact (bf (by repeat (first | (with_reducible first | exact HB.out | apply af | apply ab | apply ai) | exact HB.out))) : w.heap.size ≤ mZ)); have dP := ak ((by rw [hg]; exact (bf (by repeat (first | (with_reducible first | exact HB.out | apply af | apply ab | apply ai) | exact HB.out))) : w.heap.size ≤ mZ)); clear HB; have HB := bV; have nk := b4; have Wt := df; have xE := dP; clear bV b4 df dP; clear hb hbox hg) | ((with_reducible refine av (N := 2) rfl ?_); refine fi ?hg (N := 2) ?hd (cs := #[.string (⟨#[]⟩ : ByteArray), .string (⟨#[]⟩ : ByteArray)]) (t := 85) ?hr ?_; (case hd => rfl); (case hg => rfl); (case hr => first | (go_simp; done) | (go_simp; rfl)); intro pT hg w3 hbox hb; have bV := ak (e7 (g := mZ) (o := .cells #[.string bu, .string bE] 76 (0, 0)) (by (with_reducible repeat (first | refine aI ?_ _ | refine aT ?_ | refine aJ ?_ _)); exact nk.out) hb); have b4 := ak (bg (by repeat (first | (with_reducible first | exact HB.out | apply af | apply ab | apply ai | refine aN ?_ xE.out) | exact HB.out)) hb); have df := ak (hbox); have dP := ak ((by rw [hg]; exact (bf (by repeat (first | (with_reducible first | exact HB.out | apply af | apply ab | apply ai | refine aN ?_ xE.out) | exact HB.out))) : w.heap.size ≤ pT)); have jr := ak ((by rw [hg]; exact (bf (by repeat (first | (with_reducible first | exact HB.out | apply af | apply ab | apply ai | refine aN ?_ xE.out) | exact HB.out))) : w.heap.size ≤ pT)); have mI := ak ((by rw [hg]; exact Nat.ne_of_lt (jZ (g := mZ) (o := .cells #[.string bu, .string bE] 76 (0, 0)) (by (with_reducible repeat (first | refine aI ?_ _ | refine aT ?_ | refine aJ ?_ _)); exact nk.out)) : mZ ≠ pT)); have qk := ak ((by rw [hg]; exact Nat.ne_of_gt (jZ (g := mZ) (o := .cells #[.string bu, .string bE] 76 (0, 0)) (by (with_reducible repeat (first | refine aI ?_ _ | refine aT ?_ | refine aJ ?_ _)); exact nk.out)) : pT ≠ mZ)); clear nk; clear HB; have nk := bV; have HB := b4; have vt := df; have Ws := dP; have Oc := jr; have Co := mI; have Cn := qk; clear bV b4 df dP jr mI qk; clear hb hbox hg; have YW := Co.out; have YT := Cn.out; have Xz : w3.cell? ⟨mZ, 0, none⟩ = some (.string bu) := (aA nk.out 0).trans rfl; have Xy : w3.cell? ⟨mZ, 1, none⟩ = some (.string bE) := (aA nk.out 1).trans rfl; have Xj := aq nk.out 0; have Xi := aq nk.out 1; have DD : w3.cell? ⟨pT, 0, none⟩ = some (.string (⟨#[]⟩ : ByteArray)) := (aA vt.out 0).trans rfl; have DC : w3.cell? ⟨pT, 1, none⟩ = some (.string (⟨#[]⟩ : ByteArray)) := (aA vt.out 1).trans rfl; have Dy := aq vt.out 0; have Dx := aq vt.out 1))
 refine bodyPost_ret (results_cell_row rfl _ _ pT 85 #[.string bu, .string bE] (0, 0) _ rfl (by (with_reducible repeat (first | refine aI ?_ _ | refine aT ?_ | refine aJ ?_ _)); refine fa (cs := #[.string bu, .string (⟨#[]⟩ : ByteArray)]) ?_ 1 _ rfl; (with_reducible repeat (first | refine aI ?_ _ | refine aT ?_ | refine aJ ?_ _)); refine fa (cs := #[.string (⟨#[]⟩ : ByteArray), .string (⟨#[]⟩ : ByteArray)]) ?_ 0 _ rfl; (with_reducible repeat (first | refine aI ?_ _ | refine aT ?_ | refine aJ ?_ _)); exact vt.out) Try.underlying85 rfl (by kernel_rfl)) rfl ?_
 exact ⟨by first | rfl | (simp [bz, bx] <;> rfl) | (simp [*, bz, bx] <;> rfl), by repeat (first | (with_reducible first | exact HB.out | apply af | apply ab | apply ai | refine aN ?_ xE.out | refine aN ?_ Oc.out) | exact HB.out)⟩
end Go.Proofs.Ytemhalnhbgkbcaa.V
end

section
namespace Go.Proofs.Ytemhalnhbgkbcaa.V
structure Rw where
 addr : Int
 aff : ByteArray
 slots : List Int
 free : List Int
 attrs : List S76
structure RwR (W : World) (b : Rw) (A : Option Addr) (c : Nat) (A' : Option Addr) (c' : Nat) : Prop where
 l64 : b.slots.length = 64
 fr : Kd.C (Kd.int .u8) W A b.free.length b.free
 fc : b.free.length ≤ c
 ar : Kd.C ib W A' b.attrs.length b.attrs
 ac : b.attrs.length ≤ c'
theorem RwR.below {W W1 : World} {b : Rw} {A A' : Option Addr} {c c' : Nat} (h : RwR W b A c A' c') (hb : Below W.heap.size W W1) : RwR W1 b A c A' c' := ⟨h.l64, Kd.C_below h.fr hb, h.fc, Kd.C_below h.ar hb, h.ac⟩
def PZ (W : World) (v : Value) (b : Rw) : Prop := ∃ A c A' c', v = .agg (aU b.addr b.aff b.slots (.slice A b.free.length c) (.slice A' b.attrs.length c')).toArray ∧ RwR W b A c A' c'
theorem PZ.below {W W1 : World} {v : Value} {b : Rw} (h : PZ W v b) (hb : Below W.heap.size W W1) : PZ W1 v b := by
 obtain ⟨A, c, A', c', e, hr⟩ := h
 exact ⟨A, c, A', c', e, hr.below hb⟩
def cv (a : S76) : At := ⟨a.f0, a.f1⟩
def ours (r : Rw) : Bk := ⟨r.addr, r.aff, r.slots, r.free.take 70, (r.attrs.take 70).map cv⟩
theorem kX (a : S76) (w : World) : Calls Try.prog 50 #[.agg #[.string a.f0, .string a.f1]] w fun e w' => e = .returned (eT (cv a)) ∧ Below w.heap.size w w' :=
 nu.calls a.f0 a.f1 a.f0 a.f1 w rfl
theorem xI {P : Program} {ops : Array Oper} {rest : List Oper} {o : Oper} {a : Act} {w : World} {Q : Exit → Act → World → Prop} (hgd : o.guard = none) (t : TypeId) (parts : Array (Nat × Operand)) (ho : o.op = .build t parts) (vals : List (Nat × Value)) (hv : (parts.map fun (i, x) => (i, a.eval x)).toList = vals) (cs : List Value)
  (hf : P.built t vals = some cs.toArray) (h : wpList P ops Q rest (a.put o.dst (.agg cs.toArray)) w) : wpList P ops Q (o :: rest) a w := fE hgd t parts ho cs (by rw [hv]; exact hf) h
end Go.Proofs.Ytemhalnhbgkbcaa.V
end

section
namespace Go.Proofs.Ytemhalnhbgkbcaa.V
def vc (a : At) : S76 := ⟨a.f0, a.f1⟩
def dH : List Value := [.int .u32 0, .string ⟨#[]⟩, .slice none 0 0, .slice none 0 0, .slice none 0 0]
theorem Dh : (Try.prog.info? 3).map (fun i => (i.zero, i.size, i.bytes)) = some (some (.int .i64 0), 1, 8) := by kernel_rfl
theorem yh : (Try.prog.info? 76).map (fun i => (i.zero, i.size, i.bytes)) = some (some (.agg #[.string ⟨#[]⟩, .string ⟨#[]⟩]), 2, 32) := by kernel_rfl
theorem xy {α β : Type} {d : Kd α} {d' : Kd β} {e e' b1 base : Nat} {W w1 : World} {ok ok' : Nat → Prop} {u v : Value} {xs : List α} {ys : List β} (h : d.R e W base ok u xs) (ho : ∀ k, ok k → k < b1) (hv : d'.R e' W b1 ok' v ys) (hg : W.grownBy w1 v.ownBlock) : d.R e w1 base ok u xs :=
 Kd.R_grown h hg (fun k hk he => by have := ho k hk; have := Kd.R_base hv k he.symm; omega)
end Go.Proofs.Ytemhalnhbgkbcaa.V
end

section
namespace Go.Proofs.Ytemhalnhbgkbcaa.V
def Gy (b : Bk) (s : ByteArray) : Bk := ⟨b.addr, s, b.slots, b.free, b.attrs⟩
set_option maxHeartbeats 8000000 in
set_option maxRecDepth 100000 in
theorem Fu (b : Bk) (hk : BkOk b) (hfl : b.free.length ≤ 1000) (hal : b.attrs.length ≤ 1000) (s : ByteArray) (v : Value) (w : World) (h : iz w v b) :
  Calls Try.prog 55 #[v, .string s] w fun e w' => ∃ v', e = .returned (.tuple #[v', .int .i64 (if (dC b && fS s) = true then 0 else 1)]) ∧ ey w' w.heap.size v' (if (dC b && fS s) = true then Gy b s else km) ∧ Below w.heap.size w w' := by
 obtain ⟨A, c, A', c', rfl, hr⟩ := h
 have HL := ak hr.l64
 have HR := ak hr
 have HK := ak hk
 have lF := ak (AW s)
 have HCP := ak (m0 b (by omega) (by omega))
 have tW := ak (ah b.addr b.aff b.slots (.slice A b.free.length c) (.slice A' b.attrs.length c') hr.l64)
 clear hr hk
 cases hrt : dC b with
 | false =>
  have HRT := ak hrt
  clear hrt
  simp only [Bool.false_and, Bool.false_eq_true, if_false]
  go_enter Try.func55, Try.ntmps55
  go_wp2_with (first
   | (refine aD rfl 57 (.tmp 0) rfl _ rfl ?_; intro g W1 hg hbx bq; have g8 := ak hbx; have bP := ak bq; clear hbx bq hg)
   | (refine au (some 4) rfl rfl 57 rfl a6 bT ?_; intro g4 W2 my vY dD; have fv := ak (g8.out.below dD); have u9 := ak vY; have gl := ak (bP.out.trans (dD.mono bP.out.size)); have wi := ak (show w.heap.size ≤ g4 by have := bP.out.size; omega); clear vY dD my g8 bP)
   | ((with_reducible refine av (N := 6) rfl ?_); refine az rfl 57 (.tmp 2) rfl g rfl _ _ _ fv.out Try.underlying57 rfl 68 (by kernel_rfl) tW.out ?_)
   | (go_at_call 48; refine (ee b HK.out _ _ ⟨A, c, A', c', rfl, HR.out.below gl.out⟩).mono ?_; rintro e W3 ⟨rfl, gB⟩; rw [HRT.out]; have wW := ak (u9.out.below gB); have fO := ak (gl.out.trans (gB.mono gl.out.size)); clear gB)
   | (refine fE rfl 57 #[] rfl a6 kZ ?_)
   | (refine aK rfl 57 (.tmp 4) (.tmp 14) rfl g4 a6 rfl rfl 57 _ wW.out 68 (by kernel_rfl) rfl rfl ij ?_; intro W4 WO my))
  exact bodyPost_ret (eX rfl _ _ g4 57 _ (0, 0) _ rfl WO Try.underlying57 rfl (by simp only [List.size_toArray]; exact ch _ rfl)) rfl ⟨_, rfl, mr _ _, fO.out.grown my fO.out.size (by intro k hk; cases hk; exact wi.out)⟩
 | true =>
  have HRT := ak hrt
  clear hrt
  cases ho : fS s with
  | false =>
   rw [ho] at lF
   clear ho
   simp only [Bool.and_false, Bool.false_eq_true, if_false]
   go_enter Try.func55, Try.ntmps55
   go_wp2_with (first
    | (refine aD rfl 57 (.tmp 0) rfl _ rfl ?_; intro g W1 hg hbx bq; have g8 := ak hbx; have bP := ak bq; clear hbx bq hg)
    | (refine au (some 4) rfl rfl 57 rfl a6 bT ?_; intro g4 W2 my vY dD; have fv := ak (g8.out.below dD); have u9 := ak vY; have gl := ak (bP.out.trans (dD.mono bP.out.size)); have wi := ak (show w.heap.size ≤ g4 by have := bP.out.size; omega); clear vY dD my g8 bP)
    | ((with_reducible refine av (N := 6) rfl ?_); refine az rfl 57 (.tmp 2) rfl g rfl _ _ _ fv.out Try.underlying57 rfl 68 (by kernel_rfl) tW.out ?_)
    | (go_at_call 48; refine (ee b HK.out _ _ ⟨A, c, A', c', rfl, HR.out.below gl.out⟩).mono ?_; rintro e W3 ⟨rfl, gB⟩; rw [HRT.out]; have wW := ak (u9.out.below gB); have fO := ak (gl.out.trans (gB.mono gl.out.size)); clear gB)
    | (go_at_call 79; refine (gG.calls _ _ _ lF.out).mono ?_; rintro e W4 ⟨rfl, kU⟩; have wV := ak (wW.out.below kU); have gK := ak (fO.out.trans (kU.mono fO.out.size)); clear kU)
    | (refine fE rfl 57 #[] rfl a6 kZ ?_)
    | (refine aK rfl 57 (.tmp 4) (.tmp 14) rfl g4 a6 rfl rfl 57 _ wV.out 68 (by kernel_rfl) rfl rfl ij ?_; intro W5 BM sX))
   exact bodyPost_ret (eX rfl _ _ g4 57 _ (0, 0) _ rfl BM Try.underlying57 rfl (by simp only [List.size_toArray]; exact ch _ rfl)) rfl ⟨_, rfl, mr _ _, gK.out.grown sX gK.out.size (by intro k hk; cases hk; exact wi.out)⟩
  | true =>
   rw [ho] at lF
   clear ho
   simp only [Bool.and_self, if_true]
   go_enter Try.func55, Try.ntmps55
   go_wp2_with (first
    | (refine aD rfl 57 (.tmp 0) rfl _ rfl ?_; intro g W1 hg hbx bq; have g8 := ak hbx; have bP := ak bq; have HG := ak hg; clear hbx bq hg)
    | (refine au (some 4) rfl rfl 57 rfl a6 bT ?_; intro g4 W2 my vY dD; have fv := ak (g8.out.below dD); have u9 := ak vY; have gl := ak (bP.out.trans (dD.mono bP.out.size)); have wi := ak (show w.heap.size ≤ g4 by have := bP.out.size; omega); have HNE := ak (show g ≠ g4 by have := g8.out.lt; omega); clear vY dD my g8 bP)
    | ((with_reducible refine av (N := 6) rfl ?_); refine az rfl 57 (.tmp 2) rfl g rfl _ _ _ fv.out Try.underlying57 rfl 68 (by kernel_rfl) tW.out ?_)
    | (go_at_call 48; refine (ee b HK.out _ _ ⟨A, c, A', c', rfl, HR.out.below gl.out⟩).mono ?_; rintro e W3 ⟨rfl, gB⟩; rw [HRT.out]; have kj := ak (fv.out.below gB); have wW := ak (u9.out.below gB); have fO := ak (gl.out.trans (gB.mono gl.out.size)); clear gB fv)
    | (go_at_call 79; refine (gG.calls _ _ _ lF.out).mono ?_; rintro e W4 ⟨rfl, kU⟩; have lC := ak (kj.out.below kU); have wV := ak (wW.out.below kU); have gK := ak (fO.out.trans (kU.mono fO.out.size)); clear kU kj)
    | ((with_reducible refine av (N := 15) rfl ?_); refine az rfl 57 (.tmp 2) rfl g rfl _ _ _ lC.out Try.underlying57 rfl 68 (by kernel_rfl) tW.out ?_)
    | (go_at_call 89; refine (HCP.out _ _ ⟨A, c, A', c', rfl, HR.out.below gK.out⟩).mono ?_; rintro e W5 ⟨v5, rfl, ou, ox⟩; obtain ⟨wM, vf, va, rfl, lU, mM⟩ := ou; have la := ak (lC.out.below ox); have ss := ak (wV.out.below ox); have Tl := ak (Kd.R_lower lU gK.out.size); have Gi := ak (Kd.R_lower mM gK.out.size); have lp := ak (gK.out.trans (ox.mono gK.out.size)); obtain ⟨Af, cf, rfl⟩ := Kd.R_slice lU; obtain ⟨Aa, ca, rfl⟩ := Kd.R_slice mM; clear lU mM ox lC wM)
    | (refine aK rfl 57 (.tmp 2) (.tmp 16) rfl g (aU b.addr b.aff b.slots (.slice Af b.free.length cf) (.slice Aa b.attrs.length ca)) rfl rfl 57 _ la.out 68 (by kernel_rfl) (ah _ _ _ _ _ HL.out) (ah _ _ _ _ _ HL.out) (b7 _ _ _ _ _ rfl rfl) ?_; intro W6 SK nL; have oG := ak SK; have Jk := ak (ss.out.grown nL (fun e => HNE.out (Option.some.inj e).symm)); have Tk := ak (bD Tl.out la.out (by decide) nL); have AI := ak (bD Gi.out la.out (by decide) nL); have mA := ak (lp.out.grown nL lp.out.size (by intro k hk; cases hk; exact HG.out)); have XG := oG.out.cell 1 _ rfl; have Xr := oG.out.frozen 1; clear SK nL la ss Tl Gi lp)
    | (generalize Pp : W6.setCell ⟨g, 1, none⟩ (.string s) = W7; have OU : aH W7 g (aU b.addr s b.slots (.slice Af b.free.length cf) (.slice Aa b.attrs.length ca)) 57 := (by rw [← Pp]; exact oG.out.set 1 (.string s)); have kT : W6.grownBy W7 (some g) := (by rw [← Pp]; exact bs W6 g 1 (.string s)); refine az rfl 57 (.tmp 2) rfl g rfl _ _ _ OU Try.underlying57 rfl 68 (by kernel_rfl) (ah _ _ _ _ _ HL.out) ?_; have su := ak OU; have BY := ak (Jk.out.grown kT (fun e => HNE.out (Option.some.inj e).symm)); have Yh := ak (bD Tk.out oG.out (by decide) kT); have vr := ak (bD AI.out oG.out (by decide) kT); have pN := ak (mA.out.grown kT mA.out.size (by intro k hk; cases hk; exact HG.out)); clear Pp OU kT XG Xr oG Jk Tk AI mA)
    | (refine aK rfl 57 (.tmp 4) (.tmp 19) rfl g4 (aU b.addr s b.slots (.slice Af b.free.length cf) (.slice Aa b.attrs.length ca)) rfl rfl 57 _ BY.out 68 (by kernel_rfl) (ah _ _ _ _ _ HL.out) rfl (b7 _ _ _ _ _ rfl rfl) ?_; intro W8 Ld qK))
   exact bodyPost_ret (eX rfl _ _ g4 57 _ (0, 0) _ rfl Ld Try.underlying57 rfl (by simp only [List.size_toArray]; exact ch _ (ah _ _ _ _ _ HL.out))) rfl ⟨_, rfl, ⟨HL.out, _, _, rfl, bD Yh.out BY.out (by decide) qK, bD vr.out BY.out (by decide) qK⟩, pN.out.grown qK pN.out.size (by intro k hk; cases hk; exact wi.out)⟩
end Go.Proofs.Ytemhalnhbgkbcaa.V
end

section
namespace Go.Proofs.Ytemhalnhbgkbcaa.V
def nH.T1 : Bool × List (List Nat × List Nat) := (true, [([], []), ([0], [0]), ([], []), ([2], [2]), ([1, 3], [1, 3])])
def nH.B1 : List Nat := [0, 1, 0, 4, 15]
theorem nH.tab1 : ed .any (opsOf Try.f92 1) = nH.T1 := by kernel_rfl
theorem nH.bits1 : dL nH.T1.2 nH.B1 = true := by kernel_rfl
set_option maxHeartbeats 4000000 in
set_option maxRecDepth 100000 in
theorem BD (b : Bk) (hk : BkOk b) (a : Int) (h0 : 0 ≤ a) (h1 : a < 4294967296) (v : Value) (w : World) (h : iz w v b) :
  Calls Try.prog 92 #[v, .int .u32 a] w fun e w' => e = .returned (.tuple #[.int .i64 (if b9 a = b.addr then a - b.addr else 0), .bool (decide (b9 a = b.addr))]) ∧ Below w.heap.size w w' := by
 obtain ⟨A, c, A', c', rfl, hr⟩ := h
 have HF := ak (Bh a h0 h1)
 have ks := hk.a0
 have bq := hk.a1
 obtain ⟨f, hf⟩ : ∃ f, f = b9 a := ⟨_, rfl⟩
 have HFE := ak hf
 rw [← hf] at HF ⊢
 have ha := b.addr
 obtain ⟨ba, hba⟩ : ∃ ba, ba = b.addr := ⟨_, rfl⟩
 have hsub : f = ba → 0 ≤ a - ba ∧ a - ba < 64 := by
  intro e
  rw [← e, hf]
  unfold b9
  omega
 clear hr hf
 by_cases he : f = b.addr
 ·have q1 : (f == b.addr) = true := by rw [beq_iff_eq]; exact he
  have q2 : (f != b.addr) = false := by rw [bne, q1]; rfl
  rw [if_pos he, decide_eq_true he]
  have hsb := hsub (by rw [hba]; exact he)
  rw [hba] at hsb
  clear hsub hba he
  go_enter Try.func92, Try.ntmps92
  go_wp2_with (first
   | (refine aD rfl 57 (.tmp 0) rfl _ rfl ?_; intro g W1 hg hbx bq; have HX := ak (hbx.below (br (Below.refl _ _))); have HB := ak (br bq); clear hbx bq hg))
  refine dd (n := 5) (S := fun w' => w'.cell? ⟨g, 0, none⟩ = some (.int .u32 b.addr)) (ds := []) #[false, false, false, false, false] (by kernel_rfl) rfl rfl (HX.out.cell 0 _ rfl) (fun hHeld => ?_); refine bQ nH.tab1 nH.bits1 (fun ae bA => ?_)
  refine pu 0 ae.out ?_
  refine pu 2 ae.out ?_
  refine tk 3 ae.out bA.out hHeld ?_ (hv := by intro w' aZ; have s0 := aZ; go_simp; with_reducible rfl)
  refine on 1 ae.out (fun K hK => ?_)
  refine gs Try.func80 #[.int .u32 a] (gH.calls _ _ _ HF.out) ?_
  rintro e V3 ⟨rfl, gB⟩
  refine ⟨_, rfl, ?_⟩
  have kj := ak (HX.out.below gB); have fO := ak (HB.out.trans (gB.mono HB.out.size)); clear gB
  refine kn hK (kj.out.cell 0 _ rfl) (fun hHeld => ?_)
  clear hK K
  refine pu 4 ae.out ?_
  refine dn ae.out ?_
  have iR := kj.out.cell 0 _ rfl
  go_wp2
  go_ret2
  exact ⟨rfl, fO.out⟩
 ·have q1 : (f == b.addr) = false := by rw [beq_eq_false_iff_ne]; exact he
  have q2 : (f != b.addr) = true := by rw [bne, q1]; rfl
  rw [if_neg he, decide_eq_false he]
  clear hsub hba he
  go_enter Try.func92, Try.ntmps92
  go_wp2_with (first
   | (refine aD rfl 57 (.tmp 0) rfl _ rfl ?_; intro g W1 hg hbx bq; have HX := ak (hbx.below (br (Below.refl _ _))); have HB := ak (br bq); clear hbx bq hg))
  refine dd (n := 5) (S := fun w' => w'.cell? ⟨g, 0, none⟩ = some (.int .u32 b.addr)) (ds := []) #[false, false, false, false, false] (by kernel_rfl) rfl rfl (HX.out.cell 0 _ rfl) (fun hHeld => ?_); refine bQ nH.tab1 nH.bits1 (fun ae bA => ?_)
  refine pu 0 ae.out ?_
  refine pu 2 ae.out ?_
  refine tk 3 ae.out bA.out hHeld ?_ (hv := by intro w' aZ; have s0 := aZ; go_simp; with_reducible rfl)
  refine on 1 ae.out (fun K hK => ?_)
  refine gs Try.func80 #[.int .u32 a] (gH.calls _ _ _ HF.out) ?_
  rintro e V3 ⟨rfl, gB⟩
  refine ⟨_, rfl, ?_⟩
  have kj := ak (HX.out.below gB); have fO := ak (HB.out.trans (gB.mono HB.out.size)); clear gB
  refine kn hK (kj.out.cell 0 _ rfl) (fun hHeld => ?_)
  clear hK K
  refine pu 4 ae.out ?_
  refine dn ae.out ?_
  go_wp2
  go_ret2
  exact ⟨rfl, fO.out⟩
end Go.Proofs.Ytemhalnhbgkbcaa.V
end

section
namespace Go.Proofs.Ytemhalnhbgkbcaa.V
attribute [local go_sem] ea dY eB ez dq dp dZ dX
attribute [local go_sem high] GL
def ei.l0 : Nat → List (S85) → Int → Int → ByteArray → ByteArray → Option (Int)
 | 0, _, _, _, _, _ => none
 | k + 1, x0, x7, x8, yB, yA => if x8 < x7 then (if 0 ≤ x8 then (if x8 < (x0.length : Int) then (if (yB.toList == (((cI x0 x8).f0).toList) && (yA.toList == (((cI x0 x8).f1).toList))) = true then (some x8) else (ei.l0 k x0 x7 (wrap64 (x8 + 1)) yB yA)) else (none)) else (none)) else (some (-1))
def ei.f (k : Nat) (l0 : List (S85)) (lB : ByteArray) (lA : ByteArray) : Option (Int) := ei.l0 k l0 (l0.length : Int) 0 lB lA
set_option maxHeartbeats 8000000 in
set_option maxRecDepth 100000 in
theorem ei.calls (k : Nat) (A0 : Option Addr) (c0 : Nat) (l0 : List (S85)) (lB : ByteArray) (lA : ByteArray) (r : Int) (w : World) (lR : Kd.C ju w A0 l0.length l0) (iR : l0.length ≤ c0) (h : ei.f k l0 lB lA = some r) :
  Calls Try.prog 110 #[.slice A0 l0.length c0, .agg #[.string lB, .string lA]] w fun e w' => e = .returned (.int .i64 r) ∧ Below w.heap.size w w' := by
 have J4 := Try.underlying85
 have oH := ak lR
 have xZ := ak iR
 clear lR iR
 have HB := ak (Below.refl w.heap.size w)
 have H : (ei.l0 k l0 (l0.length : Int) 0 lB lA) = some r := h
 clear h
 have H' := ak H
 clear H
 go_enter Try.func110, Try.ntmps110
 go_wp2_with (first | ((with_reducible refine av (N := 3) rfl ?_); refine fi ?hg (N := 3) ?hd (cs := #[.string lB, .string lA]) (t := 85) ?hr ?_; (case hd => rfl); (case hg => rfl); (case hr => first | (go_simp; done) | (go_simp; rfl)); intro jb hg w3 hbox hb; have bV := ak (bg (by repeat (first | (with_reducible first | exact HB.out | apply af | apply ab | apply ai) | exact HB.out)) hb); have b4 := ak (hbox); have df := ak ((by rw [hg]; exact (bf (by repeat (first | (with_reducible first | exact HB.out | apply af | apply ab | apply ai) | exact HB.out))) : w.heap.size ≤ jb)); have dP := ak ((by rw [hg]; exact (bf (by repeat (first | (with_reducible first | exact HB.out | apply af | apply ab | apply ai) | exact HB.out))) : w.heap.size ≤ jb)); clear HB; have HB := bV; have jd := b4; have EI := df; have pX := dP; clear bV b4 df dP; clear hb hbox hg))
 repeat (go_quiet (first | ((with_reducible refine av (N := 3) rfl ?_); refine fi ?hg (N := 3) ?hd (cs := #[.string lB, .string lA]) (t := 85) ?hr ?_; (case hd => rfl); (case hg => rfl); (case hr => first | (go_simp; done) | (go_simp; rfl)); intro jb hg w3 hbox hb; have bV := ak (bg (by repeat (first | (with_reducible first | exact HB.out | apply af | apply ab | apply ai) | exact HB.out)) hb); have b4 := ak (hbox); have df := ak ((by rw [hg]; exact (bf (by repeat (first | (with_reducible first | exact HB.out | apply af | apply ab | apply ai) | exact HB.out))) : w.heap.size ≤ jb)); have dP := ak ((by rw [hg]; exact (bf (by repeat (first | (with_reducible first | exact HB.out | apply af | apply ab | apply ai) | exact HB.out))) : w.heap.size ≤ jb)); clear HB; have HB := bV; have jd := b4; have EI := df; have pX := dP; clear bV b4 df dP; clear hb hbox hg)); try go_wp2_with (first | ((with_reducible refine av (N := 3) rfl ?_); refine fi ?hg (N := 3) ?hd (cs := #[.string lB, .string lA]) (t := 85) ?hr ?_; (case hd => rfl); (case hg => rfl); (case hr => first | (go_simp; done) | (go_simp; rfl)); intro jb hg w3 hbox hb; have bV := ak (bg (by repeat (first | (with_reducible first | exact HB.out | apply af | apply ab | apply ai) | exact HB.out)) hb); have b4 := ak (hbox); have df := ak ((by rw [hg]; exact (bf (by repeat (first | (with_reducible first | exact HB.out | apply af | apply ab | apply ai) | exact HB.out))) : w.heap.size ≤ jb)); have dP := ak ((by rw [hg]; exact (bf (by repeat (first | (with_reducible first | exact HB.out | apply af | apply ab | apply ai) | exact HB.out))) : w.heap.size ≤ jb)); clear HB; have HB := bV; have jd := b4; have EI := df; have pX := dP; clear bV b4 df dP; clear hb hbox hg)))
 go_loopg [8] k (fun kq v8 w' => ∃ (gM : Int), v8 = .int .i64 gM ∧ Aside0 (ei.l0 kq l0 (l0.length : Int) gM lB lA = some r) ∧ Aside0 (kq ≤ k) ∧ Aside0 (w'.heap[jb]? = some (.cells #[.string lB, .string lA] 85 (0, 0))) ∧ Aside0 (Below w.heap.size w w'))
 case atStart => exact ⟨(0), (by first | rfl | (simp; done) | (simp [*]; done)), H', ⟨Nat.le_refl _⟩, ⟨by (with_reducible repeat (first | refine aI ?_ _ | refine aT ?_ | refine aJ ?_ _)); exact jd.out⟩, ⟨by repeat (first | (with_reducible first | exact HB.out | apply af | apply ab | apply ai | refine aN ?_ pX.out) | exact HB.out)⟩⟩
 case round =>
  clear H'
  obtain ⟨gM, rfl, HA, du, jd, HB⟩ := hrel
  cases gk with
  | zero => exact absurd HA.out (by simp [ei.l0])
  | succ k1 =>
   have H := HA.out
   clear HA
   simp only [ei.l0] at H
   by_cases c4 : gM < (l0.length : Int)
   ·rw [if_pos c4] at H
    have oS : decide (gM < (l0.length : Int)) = true := decide_eq_true c4
    clear c4
    by_cases c5 : 0 ≤ gM
    ·rw [if_pos c5] at H
     have yp : decide (0 ≤ gM) = true := decide_eq_true c5
     clear c5
     by_cases c6 : gM < (l0.length : Int)
     ·rw [if_pos c6] at H
      have nW : decide (gM < (l0.length : Int)) = true := decide_eq_true c6
      clear c6
      by_cases c7 : (lB.toList == (((cI l0 gM).f0).toList) && (lA.toList == (((cI l0 gM).f1).toList))) = true
      ·rw [if_pos c7] at H
       have mi : (lB.toList == (((cI l0 gM).f0).toList) && (lA.toList == (((cI l0 gM).f1).toList))) = true := c7
       (try (have PK : decide (lB.toList = (((cI l0 gM).f0).toList) && (lA.toList == (((cI l0 gM).f1).toList))) = true := by simpa using c7))
       (try (have TR : (lB.toList == (((cI l0 gM).f0).toList) && (lA.toList == (((cI l0 gM).f1).toList))) = true := by simpa using c7))
       clear c7
       obtain rfl := Option.some.inj H
       have IG : wr.cell? ⟨jb, 0, none⟩ = some (.string lB) := (aA jd.out 0).trans rfl
       have IF : wr.cell? ⟨jb, 1, none⟩ = some (.string lA) := (aA jd.out 1).trans rfl
       have IE := aq jd.out 0
       have ID := aq jd.out 1
       have pR : 0 ≤ (gM : Int) := of_decide_eq_true (by first | (with_reducible assumption) | assumption)
       have pQ : gM < (l0.length : Int) := of_decide_eq_true (by first | (with_reducible assumption) | assumption)
       obtain ⟨KD, Bi, lJ, lI⟩ := l7 oH.out gM pR pQ
       cases Bi
       replace lJ := (HB.out.cell (World.block_lt_of_cell? w _ lJ)).trans lJ
       replace lI := (HB.out.cell (World.block_lt_of_cell? w _ lI)).trans lI
       replace pR := eq_true pR
       replace pQ := eq_true pQ
       go_wp2
       repeat (go_quiet (fail); try go_wp2)
       go_ret
       exact ⟨by first | rfl | (simp [bz, bx] <;> rfl) | (simp [*, bz, bx] <;> rfl), by repeat (first | (with_reducible first | exact HB.out | apply af | apply ab | apply ai | refine aN ?_ pX.out) | exact HB.out)⟩
      ·rw [if_neg c7] at H
       have mi : (lB.toList == (((cI l0 gM).f0).toList) && (lA.toList == (((cI l0 gM).f1).toList))) = false := by simpa using c7
       (try (have PK : decide (lB.toList = (((cI l0 gM).f0).toList) && (lA.toList == (((cI l0 gM).f1).toList))) = false := by simpa using c7))
       (try (have TR : (lB.toList == (((cI l0 gM).f0).toList) && (lA.toList == (((cI l0 gM).f1).toList))) = false := by simpa using c7))
       (try (have Y6 : ¬ (lB.toList = (((cI l0 gM).f0).toList) && (lA.toList == (((cI l0 gM).f1).toList))) := by simpa using c7))
       clear c7
       have H' := ak H
       clear H
       have Xu : wr.cell? ⟨jb, 0, none⟩ = some (.string lB) := (aA jd.out 0).trans rfl
       have Xt : wr.cell? ⟨jb, 1, none⟩ = some (.string lA) := (aA jd.out 1).trans rfl
       have Xe := aq jd.out 0
       have Xd := aq jd.out 1
       have pR : 0 ≤ (gM : Int) := of_decide_eq_true (by first | (with_reducible assumption) | assumption)
       have pQ : gM < (l0.length : Int) := of_decide_eq_true (by first | (with_reducible assumption) | assumption)
       obtain ⟨KD, Bi, lJ, lI⟩ := l7 oH.out gM pR pQ
       cases Bi
       replace lJ := (HB.out.cell (World.block_lt_of_cell? w _ lJ)).trans lJ
       replace lI := (HB.out.cell (World.block_lt_of_cell? w _ lI)).trans lI
       replace pR := eq_true pR
       replace pQ := eq_true pQ
       go_wp2
       repeat (go_quiet (fail); try go_wp2)
       go_roundg k1
       case measure => have := du.out; omega
       case rel => exact ⟨(wrap64 (gM + 1)), (by first | rfl | (simp; done) | (simp [*]; done)), H', ⟨by have := du.out; omega⟩, ⟨by (with_reducible repeat (first | refine aI ?_ _ | refine aT ?_ | refine aJ ?_ _)); exact jd.out⟩, ⟨by repeat (first | (with_reducible first | exact HB.out | apply af | apply ab | apply ai | refine aN ?_ pX.out) | exact HB.out)⟩⟩
     ·rw [if_neg c6] at H
      exact absurd H (by simp)
    ·rw [if_neg c5] at H
     exact absurd H (by simp)
   ·rw [if_neg c4] at H
    have oS : decide (gM < (l0.length : Int)) = false := decide_eq_false c4
    clear c4
    obtain rfl := Option.some.inj H
    go_wp2
    repeat (go_quiet (fail); try go_wp2)
    go_ret
    exact ⟨by first | rfl | (simp [bz, bx] <;> rfl) | (simp [*, bz, bx] <;> rfl), by repeat (first | (with_reducible first | exact HB.out | apply af | apply ab | apply ai | refine aN ?_ pX.out) | exact HB.out)⟩
end Go.Proofs.Ytemhalnhbgkbcaa.V
end

section
namespace Go.Proofs.Ytemhalnhbgkbcaa.V
def OC (W : World) (b1 g : Nat) (b : Bk) : Prop := b.slots.length = 64 ∧ ∃ vf va, aH W g (aU b.addr b.aff b.slots vf va) 57 ∧ Kd.R (Kd.int .u8) 5 W b1 (fun _ => True) vf b.free ∧ Kd.R ju 85 W b1 (fun _ => True) va b.attrs
def g5 (S : Nat → Prop) (W W' : World) : Prop := W.heap.size ≤ W'.heap.size ∧ ∀ k, k < W.heap.size → ¬ S k → W'.heap[k]? = W.heap[k]?
def Ha (W : World) (b1 g : Nat) (k : Nat) : Prop := k = g ∨ b1 ≤ k ∧ ∃ cells, W.heap[k]? = some (.cells cells 85 (0, 0))
def gf (l : List At) (a : At) : Option Nat := l.findIdx? (sameAt a)
def eQ (l : List At) (a : At) : Nat := match gf l a with | some i => i + 1 | none => l.length + 1
def eu (l : List At) (a : At) : List At := match gf l a with | some _ => l | none => l ++ [a]
theorem MR (l : List At) (hl : l.length ≤ 1000) (a : At) : ei.f (l.length + 5) l a.f0 a.f1 = some (match gf l a with | some i => (i : Int) | none => -1) := by
 have key : ∀ (d i k : Nat), i + d = l.length → d < k → ei.l0 k l (l.length : Int) (i : Int) a.f0 a.f1 = some (match (l.drop i).findIdx? (sameAt a) with | some j => ((i + j : Nat) : Int) | none => -1) := by
  intro d
  induction d with
  | zero =>
   intro i k hi hk
   obtain ⟨k, rfl⟩ : ∃ m, k = m + 1 := ⟨k - 1, by omega⟩
   rw [ei.l0, if_neg (by omega), List.drop_of_length_le (by omega)]
   rfl
  | succ d ih =>
   intro i k hi hk
   obtain ⟨k, rfl⟩ : ∃ m, k = m + 1 := ⟨k - 1, by omega⟩
   have hil : i < l.length := by omega
   have e : cI l (i : Int) = l[i] := by simp [cI, List.getD, hil]
   rw [ei.l0, if_pos (by omega), if_pos (by omega), if_pos (by omega), e, List.drop_eq_getElem_cons hil, List.findIdx?_cons]
   cases h : sameAt a l[i] with
   | true =>
    have h' : (a.f0.toList == l[i].f0.toList && a.f1.toList == l[i].f1.toList) = true := h
    rw [h', if_pos rfl]
    simp
   | false =>
    have h' : (a.f0.toList == l[i].f0.toList && a.f1.toList == l[i].f1.toList) = false := h
    rw [h', if_neg (by decide), ik ((i : Int) + 1) (by omega) (by omega), show (i : Int) + 1 = ((i + 1 : Nat) : Int) by omega, ih (i + 1) k (by omega) (by omega)]
    cases (l.drop (i + 1)).findIdx? (sameAt a) with
    | none => rfl
    | some j =>
     show some ((i + 1 + j : Nat) : Int) = some ((i + (j + 1) : Nat) : Int)
     rw [show i + 1 + j = i + (j + 1) by omega]
 unfold ei.f
 rw [show (0 : Int) = ((0 : Nat) : Int) from rfl, key l.length 0 _ (by omega) (by omega), List.drop_zero]
 unfold gf
 cases l.findIdx? (sameAt a) with
 | none => rfl
 | some j => simp
theorem yi {l : List At} {a : At} {i : Nat} (h : gf l a = some i) : i < l.length := by
 unfold gf at h
 rw [List.findIdx?_eq_some_iff_getElem] at h
 exact h.1
def l9.T1 : Bool × List (List Nat × List Nat) := (true, [([], []), ([0], [0]), ([1], [1]), ([2], [2]), ([], []), ([3, 4], [3, 4]), ([5, 5, 0, 1, 2, 3, 4, 5], [5])])
def l9.B1 : List Nat := [0, 1, 3, 7, 0, 31, 63]
theorem l9.tab1 : ed .any (opsOf Try.f90 1) = l9.T1 := by kernel_rfl
theorem l9.bits1 : dL l9.T1.2 l9.B1 = true := by kernel_rfl
def oq.T4 : Bool × List (List Nat × List Nat) := (true, [([], []), ([], []), ([1], [1]), ([2], [2]), ([3], [3]), ([], []), ([5], [5]), ([4, 6], [4, 6]), ([0, 0, 1, 2, 3, 4, 5, 6, 7], [0]), ([8, 0, 1, 2, 3, 4, 5, 6, 7], [8]), ([9, 7, 7, 0, 1, 2, 3, 4, 5, 6, 7], [7, 9])])
def oq.B4 : List Nat := [0, 0, 2, 6, 14, 0, 32, 126, 255, 511, 1023]
theorem oq.tab4 : ed .any (opsOf Try.f90 4) = oq.T4 := by kernel_rfl
theorem oq.bits4 : dL oq.T4.2 oq.B4 = true := by kernel_rfl
set_option maxHeartbeats 4000000 in
set_option maxRecDepth 100000 in
theorem qP (b : Bk) (hal : b.attrs.length ≤ 100) (a : At) (g b1 base : Nat) (W : World) (hbg : base ≤ g) (hbb : base ≤ b1) (Kb : b1 ≤ W.heap.size) (h : OC W b1 g b) :
  Calls Try.prog 90 #[.pointer (some ⟨g, 0, none⟩), .agg #[.string a.f0, .string a.f1]] W fun e W' => e = .returned (.int .u8 (eQ b.attrs a : Nat)) ∧ OC W' b1 g ⟨b.addr, b.aff, b.slots, b.free, eu b.attrs a⟩ ∧ Below base W W' ∧ g5 (Ha W b1 g) W W' := by
 obtain ⟨hl, vf, va, hx, hf, ha⟩ := h
 have HG := ak hbg
 have HBB := ak hbb
 have HBW := ak Kb
 have hbase : base ≤ W.heap.size := Nat.le_trans hbb Kb
 have HROW := ak (show ∀ k, va.ownBlock = some k → Ha W b1 g k from fun k hk => by
  obtain ⟨hr, _⟩ := Kd.R_bound ha
  obtain ⟨_, h2, _, q, hq, h3⟩ := hr k hk
  refine Or.inr ⟨h2, ?_⟩
  rcases List.mem_cons.1 hq with rfl | hq
  ·exact h3
  ·cases hq)
 have HL := ak hl
 have hfi := MR b.attrs (by omega) a
 obtain ⟨A, c, rfl⟩ := Kd.R_slice ha
 obtain ⟨Af, cf, rfl⟩ := Kd.R_slice hf
 have HX := ak hx
 have HF := ak hf
 have HA := ak ha
 obtain ⟨A0, c0, hq, hcc, hC⟩ := Kd.R_reads ha
 cases hq
 have HCC := ak hcc
 have HC := ak hC
 clear hbg hbb Kb hl hx hf ha hcc hC
 cases hi : gf b.attrs a with
 | some i =>
  have hil := yi hi
  have e1 : eQ b.attrs a = i + 1 := by unfold eQ; rw [hi]
  have e2 : eu b.attrs a = b.attrs := by unfold eu; rw [hi]
  rw [hi] at hfi
  rw [e1, e2]
  have HFI := ak hfi
  have hneg : decide ((i : Int) < 0) = false := decide_eq_false (by omega)
  clear hfi hi e1 e2
  go_enter Try.func90, Try.ntmps90
  go_wp2_with (first
   | (refine aD rfl 85 (.tmp 1) rfl _ rfl ?_; intro ga W1 hga hbx bq; have hbd : Below W.heap.size W W1.drew := br bq; have vk := ak (hbx.below (br (Below.refl _ _))); have g8 := ak (HX.out.below hbd); have jt := ak (Kd.R_below HF.out hbd); have kz := ak (Kd.R_below HA.out hbd); have Gh := ak (Kd.C_below HC.out hbd); have bP := ak (hbd.mono hbase); have HBD := ak hbd; have HGA := ak hga; clear hbx bq hga hbd))
  refine dd (n := 7) (S := fun w' => w'.cell? ⟨g, 67, none⟩ = some (.slice A b.attrs.length c) ∧ w'.cell? ⟨ga, 0, none⟩ = some (.string a.f0) ∧ w'.cell? ⟨ga, 1, none⟩ = some (.string a.f1)) (ds := []) #[false, false, false, false, false, false, false] (by kernel_rfl) rfl rfl ⟨g8.out.cell 67 _ (ft _ _ _ _ _ HL.out), vk.out.cell 0 _ rfl, vk.out.cell 1 _ rfl⟩ (fun hHeld => ?_); refine bQ l9.tab1 l9.bits1 (fun ae bA => ?_)
  refine pu 0 ae.out ?_
  refine pu 1 ae.out ?_
  refine pu 2 ae.out ?_
  refine tk 3 ae.out bA.out hHeld ?_ (hv := by intro w' aZ; obtain ⟨s0, s1, s2⟩ := aZ; go_simp; with_reducible rfl)
  refine tk 4 ae.out bA.out hHeld ?_ (hv := by intro w' aZ; obtain ⟨s0, s1, s2⟩ := aZ; go_simp; with_reducible rfl)
  refine on 5 ae.out (fun K hK => ?_)
  refine gs Try.func110 #[.slice A b.attrs.length c, .agg #[.string a.f0, .string a.f1]] (ei.calls _ A c b.attrs a.f0 a.f1 _ _ Gh.out HCC.out HFI.out) ?_
  rintro e V3 ⟨rfl, gB⟩
  refine ⟨_, rfl, ?_⟩
  have kj := ak (g8.out.below gB); have wW := ak (vk.out.below gB); have fO := ak (bP.out.trans (gB.mono (Nat.le_trans hbase bP.out.size))); skip
  refine kn hK ⟨kj.out.cell 67 _ (ft _ _ _ _ _ HL.out), wW.out.cell 0 _ rfl, wW.out.cell 1 _ rfl⟩ (fun hHeld => ?_)
  clear hK K
  refine pu 6 ae.out ?_
  refine dn ae.out ?_
  have hbd : Below W1.drew.heap.size W1.drew V3 := gB
  go_wp2
  go_ret
  exact ⟨by simp, ⟨HL.out, _, _, kj.out, Kd.R_below jt.out hbd, Kd.R_below kz.out hbd⟩, fO.out, Nat.le_trans HBD.out.size hbd.size, fun k hk _ => (hbd.block k (Nat.lt_of_lt_of_le hk HBD.out.size)).trans (HBD.out.block k hk)⟩
 | none =>
  have e1 : eQ b.attrs a = b.attrs.length + 1 := by unfold eQ; rw [hi]
  have e2 : eu b.attrs a = b.attrs ++ [a] := by unfold eu; rw [hi]
  rw [hi] at hfi
  rw [e1, e2]
  have HFI := ak hfi
  obtain ⟨L, hL⟩ : ∃ L, L = b.attrs ++ [a] := ⟨_, rfl⟩
  have HLL := ak hL
  rw [← hL]
  clear hfi hi e1 e2 hL
  go_enter Try.func90, Try.ntmps90
  go_wp2_with (first
   | (refine aD rfl 85 (.tmp 1) rfl _ rfl ?_; intro ga W1 hga hbx bq; have hbd : Below W.heap.size W W1.drew := br bq; have vk := ak (hbx.below (br (Below.refl _ _))); have g8 := ak (HX.out.below hbd); have jt := ak (Kd.R_below HF.out hbd); have kz := ak (Kd.R_below HA.out hbd); have Gh := ak (Kd.C_below HC.out hbd); have bP := ak (hbd.mono hbase); have HBD := ak hbd; have HGA := ak hga; clear hbx bq hga hbd))
  refine dd (n := 7) (S := fun w' => w'.cell? ⟨g, 67, none⟩ = some (.slice A b.attrs.length c) ∧ w'.cell? ⟨ga, 0, none⟩ = some (.string a.f0) ∧ w'.cell? ⟨ga, 1, none⟩ = some (.string a.f1)) (ds := []) #[false, false, false, false, false, false, false] (by kernel_rfl) rfl rfl ⟨g8.out.cell 67 _ (ft _ _ _ _ _ HL.out), vk.out.cell 0 _ rfl, vk.out.cell 1 _ rfl⟩ (fun hHeld => ?_); refine bQ l9.tab1 l9.bits1 (fun ae bA => ?_)
  refine pu 0 ae.out ?_
  refine pu 1 ae.out ?_
  refine pu 2 ae.out ?_
  refine tk 3 ae.out bA.out hHeld ?_ (hv := by intro w' aZ; obtain ⟨s0, s1, s2⟩ := aZ; go_simp; with_reducible rfl)
  refine tk 4 ae.out bA.out hHeld ?_ (hv := by intro w' aZ; obtain ⟨s0, s1, s2⟩ := aZ; go_simp; with_reducible rfl)
  refine on 5 ae.out (fun K hK => ?_)
  refine gs Try.func110 #[.slice A b.attrs.length c, .agg #[.string a.f0, .string a.f1]] (ei.calls _ A c b.attrs a.f0 a.f1 _ _ Gh.out HCC.out HFI.out) ?_
  rintro e V3 ⟨rfl, gB⟩
  refine ⟨_, rfl, ?_⟩
  have kj := ak (g8.out.below gB); have wW := ak (vk.out.below gB); have fO := ak (bP.out.trans (gB.mono (Nat.le_trans hbase bP.out.size))); skip
  refine kn hK ⟨kj.out.cell 67 _ (ft _ _ _ _ _ HL.out), wW.out.cell 0 _ rfl, wW.out.cell 1 _ rfl⟩ (fun hHeld => ?_)
  clear hK K
  refine pu 6 ae.out ?_
  refine dn ae.out ?_
  have hbd : Below W1.drew.heap.size W1.drew V3.drew := br gB
  have lC := ak (g8.out.below hbd)
  have wV := ak (vk.out.below hbd)
  have Yi := ak (Kd.R_below jt.out hbd)
  have nt := ak (Kd.R_below kz.out hbd)
  have gK := ak (br fO.out)
  have EE := ak (show Below W.heap.size W V3.drew from HBD.out.trans (hbd.mono HBD.out.size))
  have Ew := ak (show b1 ≤ V3.drew.heap.size from Nat.le_trans HBW.out EE.out.size)
  have DF := kj.out.cell 67 _ (ft _ _ _ _ _ HL.out)
  go_wp2_with fail
  clear DF
  refine dd (n := 11) (S := fun w' => w'.cell? ⟨g, 67, none⟩ = some (.slice A b.attrs.length c) ∧ w'.cell? ⟨ga, 0, none⟩ = some (.string a.f0) ∧ w'.cell? ⟨ga, 1, none⟩ = some (.string a.f1)) (ds := [10]) #[false, false, false, false, false, false, false, false, false, false, false] (by kernel_rfl) rfl rfl ⟨lC.out.cell 67 _ (ft _ _ _ _ _ HL.out), wV.out.cell 0 _ rfl, wV.out.cell 1 _ rfl⟩ (fun hHeld => ?_); refine bQ oq.tab4 oq.bits4 (fun ae bA => ?_)
  refine pu 0 ae.out ?_
  refine pu 1 ae.out ?_
  refine pu 2 ae.out ?_
  refine pu 3 ae.out ?_
  refine tk 4 ae.out bA.out hHeld ?_ (hv := by intro w' aZ; obtain ⟨s0, s1, s2⟩ := aZ; go_simp; with_reducible rfl)
  refine tk 5 ae.out bA.out hHeld ?_ (hv := by intro w' aZ; obtain ⟨s0, s1, s2⟩ := aZ; go_simp; with_reducible rfl)
  refine on 6 ae.out (fun K hK => ?_)
  have la := ak (lC.out.alloc (.cells [Value.string a.f0, .string a.f1].toArray 85)); have ss := ak (wV.out.alloc (.cells [Value.string a.f0, .string a.f1].toArray 85))
  refine yY (v := .slice (some ⟨V3.drew.heap.size, 0, none⟩) 1 1) (w1 := V3.drew.alloc (.cells [Value.string a.f0, .string a.f1].toArray 85)) (by rfl) ?_ ?_
  ·go_simp
   try rfl
  refine kn hK ⟨la.out.cell 67 _ (ft _ _ _ _ _ HL.out), ss.out.cell 0 _ rfl, ss.out.cell 1 _ rfl⟩ (fun hHeld => ?_)
  clear hK K
  refine on 7 ae.out (fun K hK => ?_)
  refine Kd.R_append_step ju (w0 := V3.drew) b1 (by rfl) (.tmp 23) (.tmp 25) 55 85 (.agg #[.string ⟨#[]⟩, .string ⟨#[]⟩]) 32 rfl Try.underlying55 xq rfl (by decide) (by omega) _ b.attrs a [.string a.f0, .string a.f1] (fun _ => True) (fun _ => False) rfl rfl (xp _ _ _ _) (fun _ h => h.elim) (fun _ _ => trivial) nt.out (Below.refl _ _) Ew.out (by omega) ?_
  intro v8 w8 nm ll qK Kf
  rw [← HLL.out] at nm
  have oF := ak (lC.out.grown qK (lC.out.ne_row nt.out (by decide)))
  have Yg := ak (Kd.R_over Yi.out nt.out (by decide) qK)
  have Yl := ak nm
  have qy := ak (gK.out.trans (ll.mono HBB.out))
  have QC := ak qK
  have S9 := ak (wV.out.grown qK (fun e => by have := Kd.R_lt HA.out _ e.symm; have := HGA.out; omega))
  obtain ⟨A8, c8, rfl⟩ := Kd.R_slice nm
  clear nm ll Kf
  refine kn hK ⟨oF.out.cell 67 _ (ft _ _ _ _ _ HL.out), S9.out.cell 0 _ rfl, S9.out.cell 1 _ rfl⟩ (fun hHeld => ?_)
  clear hK K
  refine pu 8 ae.out ?_
  refine pu 9 ae.out ?_
  refine vz (i := 10) (N := none) #[true, true, true, true, true, true, true, true, true, true, true] rfl rfl (oP ae.out (by kernel_rfl)) (by decide) (fun K hK => ?_)
  have TB := oF.out.frozen 67; have DF := oF.out.cell 67 _ (ft _ _ _ _ _ HL.out)
  refine qN (w1 := ?_) (by rfl) rfl ?_ ?_
  rotate_left
  ·go_simp
   rfl
  refine hK.out _ _ ?_
  clear hK K
  refine dn ae.out ?_
  have F5 : aH (w8.setCell ⟨g, 67, none⟩ (.slice A8 L.length c8)) g (aU b.addr b.aff b.slots (.slice Af b.free.length cf) (.slice A8 L.length c8)) 57 := by
   have := oF.out.set 67 (.slice A8 L.length c8)
   rwa [qW _ _ _ _ _ HL.out] at this
  go_wp2
  go_ret
  refine ⟨by simp, ⟨HL.out, _, _, F5, bD Yg.out oF.out (by decide) (bs _ _ _ _), bD Yl.out oF.out (by decide) (bs _ _ _ _)⟩, Below.setCell qy.out (p := ⟨g, 67, none⟩) HG.out _, ?_, fun k hk hns => ?_⟩
  ·have h1 := EE.out.size
   have h2 := QC.out.size
   have h3 := (bs w8 g 67 (.slice A8 L.length c8)).size
   omega
  ·have h1 := EE.out.block k hk
   have h2 := QC.out.block k (Nat.lt_of_lt_of_le hk EE.out.size) (fun e => hns (HROW.out k e.symm))
   have h3 := (bs w8 g 67 (.slice A8 L.length c8)).block k (Nat.lt_of_lt_of_le hk (Nat.le_trans EE.out.size QC.out.size)) (fun e => hns (Or.inl (Option.some.inj e)))
   exact h3.trans (h2.trans h1)
end Go.Proofs.Ytemhalnhbgkbcaa.V
end

section
namespace Go.Proofs.Ytemhalnhbgkbcaa.V
theorem g5.of_below {S : Nat → Prop} {W W1 : World} (h : Below W.heap.size W W1) : g5 S W W1 := ⟨h.size, fun k hk _ => h.block k hk⟩
theorem g5.trans {S : Nat → Prop} {W W1 W2 : World} (h : g5 S W W1) (k : g5 S W1 W2) : g5 S W W2 := ⟨Nat.le_trans h.1 k.1, fun q hq hs => (k.2 q (Nat.lt_of_lt_of_le hq h.1) hs).trans (h.2 q hq hs)⟩
theorem g5.of_grown {S : Nat → Prop} {W W1 : World} {row : Option Nat} (h : W.grownBy W1 row) (hs : ∀ k, some k = row → S k) : g5 S W W1 := ⟨h.size, fun k hk hn => h.block k hk (fun e => hn (hs k e))⟩
theorem aH.keeps {S : Nat → Prop} {W W1 : World} {g t : Nat} {cs : List Value} (h : aH W g cs t) (hk : g5 S W W1) (hs : ¬ S g) : aH W1 g cs t := (hk.2 g h.lt hs).trans h
theorem Kd.R_keeps {α : Type} {d : Kd α} {e base : Nat} {ok S : Nat → Prop} {W W1 : World} {v : Value} {xs : List α} (h : d.R e W base ok v xs) (hk : g5 S W W1) (hs : ∀ k, ok k → k < W.heap.size → base ≤ k → (∃ q, q ∈ e :: d.E ∧ ∃ cells, W.heap[k]? = some (.cells cells q (0, 0))) → ¬ S k) : d.R e W1 base ok v xs :=
 Kd.R_mono (Kd.R_move (Kd.R_bound h) (fun k ⟨h1, h2, h3, h4⟩ => hk.2 k h3 (hs k h1 h3 h2 h4))) (fun _ hk => hk.1)
theorem Kd.R_keptrow {α β : Type} {d : Kd α} {d' : Kd β} {e e' base base' : Nat} {ok ok' : Nat → Prop} {W W1 : World} {u v : Value} {xs : List α} {ys : List β} (h : d.R e W base ok u xs) (hr : d'.R e' W base' ok' v ys) (ht : ∀ q, q ∈ e :: d.E → q ≠ e') (hk : g5 (fun k => some k = v.ownBlock) W W1) : d.R e W1 base ok u xs :=
 Kd.R_keeps h hk (fun k _ _ _ ⟨q, hq, cells, hc⟩ hs => by
  obtain ⟨_, _, ho, _⟩ := hr
  obtain ⟨c2, h2⟩ := om ho k hs.symm
  rw [h2] at hc
  injection hc with hc
  injection hc with _ hc
  exact ht q hq hc.symm)
theorem Kd.R_added {α : Type} {d : Kd α} {e base b1 g : Nat} {ok : Nat → Prop} {W W1 : World} {v : Value} {xs : List α} {cs : List Value} (h : d.R e W base ok v xs) (hx : aH W g cs 57) (ht : ∀ q, q ∈ e :: d.E → q ≠ 57 ∧ q ≠ 85) (hk : g5 (Ha W b1 g) W W1) : d.R e W1 base ok v xs :=
 Kd.R_keeps h hk (fun k _ _ _ ⟨q, hq, cells, hc⟩ hs => by
  rcases hs with rfl | ⟨_, c2, h2⟩
  ·unfold aH at hx
   rw [hx] at hc
   injection hc with hc
   injection hc with _ hc
   exact (ht q hq).1 hc.symm
  ·rw [h2] at hc
   injection hc with hc
   injection hc with _ hc
   exact (ht q hq).2 hc.symm)
theorem aH.added {W W1 : World} {b1 g g' t : Nat} {cs : List Value} (h : aH W g' cs t) (hne : g' ≠ g) (hlt : g' < b1) (hk : g5 (Ha W b1 g) W W1) : aH W1 g' cs t :=
 h.keeps hk (fun hs => by
  rcases hs with e | ⟨e, _⟩
  ·exact hne e
  ·omega)
section
variable {W W1 : World} {b1 b2 g g' t : Nat} {b : Bk}
theorem OC.open (h : OC W b1 g b) : ∃ A c A' c', aH W g (aU b.addr b.aff b.slots (.slice A b.free.length c) (.slice A' b.attrs.length c')) 57 ∧ Kd.R (Kd.int .u8) 5 W b1 (fun _ => True) (.slice A b.free.length c) b.free ∧ Kd.R ju 85 W b1 (fun _ => True) (.slice A' b.attrs.length c') b.attrs := by
 obtain ⟨_, vf, va, hx, hf, ha⟩ := h
 obtain ⟨A, c, rfl⟩ := Kd.R_slice hf
 obtain ⟨A', c', rfl⟩ := Kd.R_slice ha
 exact ⟨A, c, A', c', hx, hf, ha⟩
theorem OC.l64 (h : OC W b1 g b) : b.slots.length = 64 := h.1
theorem OC.below (h : OC W b1 g b) (hb : Below W.heap.size W W1) : OC W1 b1 g b := by
 obtain ⟨hl, vf, va, hx, hf, ha⟩ := h
 exact ⟨hl, vf, va, hx.below hb, Kd.R_below hf hb, Kd.R_below ha hb⟩
theorem OC.drew (h : OC W b1 g b) : OC W.drew b1 g b := h.below (br (Below.refl _ _))
theorem OC.lower (h : OC W b1 g b) (hb : b2 ≤ b1) : OC W b2 g b := by
 obtain ⟨hl, vf, va, hx, hf, ha⟩ := h
 exact ⟨hl, vf, va, hx, Kd.R_lower hf hb, Kd.R_lower ha hb⟩
theorem OC.lt (h : OC W b1 g b) : g < W.heap.size := by
 obtain ⟨A, c, A', c', hx, _, _⟩ := h.open
 exact hx.lt
theorem OC.box {cs : List Value} (h : OC W b1 g b) (hx' : aH W g' cs t) (ht : ∀ q, q ∈ [5, 85] → q ≠ t) (hne : g ≠ g') (hg : W.grownBy W1 (some g')) : OC W1 b1 g b := by
 obtain ⟨hl, vf, va, hx, hf, ha⟩ := h
 exact ⟨hl, vf, va, hx.grown hg (fun e => hne (Option.some.inj e)), bD hf hx' (fun q hq => by
  rcases List.mem_cons.1 hq with rfl | hq
  ·exact ht _ (by simp)
  ·cases hq) hg, bD ha hx' (fun q hq => by
  rcases List.mem_cons.1 hq with rfl | hq
  ·exact ht _ (by simp)
  ·cases hq) hg⟩
theorem OC.row {α : Type} {d : Kd α} {e base' : Nat} {ok : Nat → Prop} {v : Value} {xs : List α} (h : OC W b1 g b) (hr : d.R e W base' ok v xs) (he : e ≠ 57) (ht : ∀ q, q ∈ [5, 85] → q ≠ e) (hg : W.grownBy W1 v.ownBlock) : OC W1 b1 g b := by
 obtain ⟨hl, vf, va, hx, hf, ha⟩ := h
 exact ⟨hl, vf, va, hx.grown hg (hx.ne_row hr he), Kd.R_over hf hr (fun q hq => by
  rcases List.mem_cons.1 hq with rfl | hq
  ·exact ht _ (by simp)
  ·cases hq) hg, Kd.R_over ha hr (fun q hq => by
  rcases List.mem_cons.1 hq with rfl | hq
  ·exact ht _ (by simp)
  ·cases hq) hg⟩
theorem OC.slot (h : OC W b1 g b) (i : Nat) (hi : i < 64) (x : Int) : OC (W.setCell ⟨g, 2 + i, none⟩ (.int .u8 x)) b1 g ⟨b.addr, b.aff, b.slots.set i x, b.free, b.attrs⟩ := by
 obtain ⟨hl, vf, va, hx, hf, ha⟩ := h
 refine ⟨by simpa using hl, vf, va, ?_, bD hf hx (by decide) (bs _ _ _ _), bD ha hx (by decide) (bs _ _ _ _)⟩
 have := hx.set (2 + i) (.int .u8 x)
 rwa [sk _ _ _ _ _ hl i hi] at this
theorem OC.stored {vf va : Value} {sF : List Value} (hl : b.slots.length = 64) (hx : aH W g sF 57) (kp : aH W1 g (aU b.addr b.aff b.slots vf va) 57) (hf : Kd.R (Kd.int .u8) 5 W b1 (fun _ => True) vf b.free) (ha : Kd.R ju 85 W b1 (fun _ => True) va b.attrs) (hg : W.grownBy W1 (some g)) : OC W1 b1 g b :=
 ⟨hl, vf, va, kp, bD hf hx (by decide) hg, bD ha hx (by decide) hg⟩
theorem OC.slotCell (h : OC W b1 g b) (i : Nat) (hi : i < 64) : W.cell? ⟨g, 2 + i, none⟩ = some (.int .u8 (b.slots.getD i 0)) := by
 obtain ⟨A, c, A', c', hx, _, _⟩ := h.open
 exact hx.cell _ _ (Em _ _ _ _ _ h.l64 i hi)
theorem OC.frozen (h : OC W b1 g b) (j : Nat) : W.frozen? ⟨g, j, none⟩ = false := by
 obtain ⟨A, c, A', c', hx, _, _⟩ := h.open
 exact hx.frozen _
theorem OC.addrCell (h : OC W b1 g b) : W.cell? ⟨g, 0, none⟩ = some (.int .u32 b.addr) := by
 obtain ⟨A, c, A', c', hx, _, _⟩ := h.open
 exact hx.cell 0 _ rfl
end
end Go.Proofs.Ytemhalnhbgkbcaa.V
end

section
namespace Go.Proofs.Ytemhalnhbgkbcaa.V
def rC (l is : List Int) (x : Int) : List Int := is.foldl (fun l i => l.set i.toNat x) l
theorem xJ (l is : List Int) (i x : Int) : rC l (is ++ [i]) x = (rC l is x).set i.toNat x := by simp [rC]
theorem Cc (l is : List Int) (x : Int) : (rC l is x).length = l.length := by
 induction is generalizing l with
 | nil => rfl
 | cons i is ih =>
  show (rC (l.set i.toNat x) is x).length = _
  rw [ih, List.length_set]
theorem vu (l : List Int) (k : Nat) (h : k < l.length) : l.take (k + 1) = l.take k ++ [rd l k] := by
 rw [List.take_add_one, List.getElem?_eq_getElem h]
 simp [rd, List.getD, h]
def ec (b : Bk) (n : Nat) (a : At) : Bk := ⟨b.addr, b.aff, rC b.slots (b.free.take n) (eQ b.attrs a : Nat), b.free, if n = 0 then b.attrs else eu b.attrs a⟩
def fq (b : Bk) (n : Nat) (a : At) : Bk := ⟨b.addr, b.aff, rC b.slots (b.free.take n) (eQ b.attrs a : Nat), b.free.drop n, if n = 0 then b.attrs else eu b.attrs a⟩
def fJ (b : Bk) (n : Nat) : List Int := (b.free.take n).map (fun i => b.addr + i)
theorem FD (l : List At) (a : At) : gf (eu l a) a = some (eQ l a - 1) := by
 unfold eu eQ
 cases h : gf l a with
 | some i =>
  show gf l a = some (i + 1 - 1)
  rw [h]
  rfl
 | none =>
  show gf (l ++ [a]) a = some (l.length + 1 - 1)
  unfold gf at h ⊢
  rw [List.findIdx?_append, h]
  simp [pY]
theorem Fv (l : List At) (a : At) : 1 ≤ eQ l a := by
 unfold eQ
 cases gf l a <;> simp
theorem num_add (l : List At) (a : At) : eQ (eu l a) a = eQ l a := by
 have h := FD l a
 have hp := Fv l a
 unfold eQ at h hp ⊢
 rw [h]
 show _ - 1 + 1 = _
 omega
theorem add_add (l : List At) (a : At) : eu (eu l a) a = eu l a := by
 have h := FD l a
 generalize eu l a = m at h ⊢
 unfold eu
 rw [h]
theorem qZ (l : List At) (a : At) : (eu l a).length ≤ l.length + 1 := by
 unfold eu
 cases h : gf l a with
 | some i => show l.length ≤ _; omega
 | none => simp
def fT (b : Bk) (i : Nat) (a : At) : Bk := ⟨b.addr, b.aff, b.slots.set i (eQ b.attrs a : Nat), b.free.filter (fun x => x != (i : Int)), eu b.attrs a⟩
theorem qb (b : Bk) (n : Nat) (a : At) (h : n < b.free.length) : ec b (n + 1) a = ⟨b.addr, b.aff, (ec b n a).slots.set (rd b.free n).toNat (eQ (ec b n a).attrs a : Nat), b.free, eu (ec b n a).attrs a⟩ := by
 unfold ec
 by_cases h0 : n = 0
 ·subst h0
  simp only [vu b.free 0 h, xJ, if_true, List.take_zero]
  rfl
 ·simp only [vu b.free n h, xJ, if_neg h0, if_neg (show ¬ n + 1 = 0 by omega), num_add, add_add]
theorem qa (b : Bk) (n : Nat) (h : n < b.free.length) : fJ b (n + 1) = fJ b n ++ [b.addr + rd b.free n] := by
 unfold fJ
 rw [vu b.free n h]
 simp
theorem iU (b : Bk) (n : Nat) (h : n ≤ b.free.length) : (fJ b n).length = n := by
 unfold fJ
 rw [List.length_map, List.length_take]
 omega
def jQ (b : Bk) (x : Int) : Bool := decide (b9 x = b.addr) && (b.slots.getD (x - b.addr).toNat 0 != 0)
def relF (s : Bk × List Int) (x : Int) : Bk × List Int := if jQ s.1 x = true then (⟨s.1.addr, s.1.aff, s.1.slots.set (x - s.1.addr).toNat 0, s.1.free ++ [x - s.1.addr], s.1.attrs⟩, s.2 ++ [x]) else s
def relL (b : Bk) (l : List Int) : Bk × List Int := l.foldl relF (b, [])
theorem BA (b : Bk) (l : List Int) (x : Int) : relL b (l ++ [x]) = relF (relL b l) x := by simp [relL]
theorem Gt (s : Bk × List Int) (x : Int) : (relF s x).1.attrs = s.1.attrs ∧ (relF s x).1.addr = s.1.addr ∧ (relF s x).1.aff = s.1.aff ∧ (relF s x).1.slots.length = s.1.slots.length := by
 unfold relF
 split <;> simp
theorem yI (b : Bk) (l : List Int) : (relL b l).1.attrs = b.attrs ∧ (relL b l).1.addr = b.addr ∧ (relL b l).1.aff = b.aff ∧ (relL b l).1.slots.length = b.slots.length := by
 unfold relL
 suffices h : ∀ (s : Bk × List Int), (l.foldl relF s).1.attrs = s.1.attrs ∧ (l.foldl relF s).1.addr = s.1.addr ∧ (l.foldl relF s).1.aff = s.1.aff ∧ (l.foldl relF s).1.slots.length = s.1.slots.length from h (b, [])
 induction l with
 | nil => intro s; exact ⟨rfl, rfl, rfl, rfl⟩
 | cons x l ih =>
  intro s
  have h1 := ih (relF s x)
  have h2 := Gt s x
  exact ⟨h1.1.trans h2.1, h1.2.1.trans h2.2.1, h1.2.2.1.trans h2.2.2.1, h1.2.2.2.trans h2.2.2.2⟩
def dW (l : List Int) (k : Nat) : Bool := l.any (fun s => s == ((k + 1 : Nat) : Int))
def fF (l : List Int) (k : Nat) : Nat := ((List.range k).filter (dW l)).length
def jf (b : Bk) (k : Nat) : List At := ((List.range k).filter (dW b.slots)).map (gh b.attrs)
def lu (b : Bk) : Bk := ⟨b.addr, b.aff, b.slots.map (fun s => ((fF b.slots s.toNat : Nat) : Int)), b.free, jf b b.attrs.length⟩
def nP (b : Bk) (l : List Int) : Bk := lu (relL b l).1
theorem mJ (b : Bk) (k : Nat) : (jf b k).length = fF b.slots k := by simp [jf, fF]
theorem ye (l : List Int) (k : Nat) : fF l k ≤ k := by
 unfold fF
 exact Nat.le_trans (List.length_filter_le _ _) (by simp)
theorem j3 (l : List Int) (k : Nat) : fF l (k + 1) = fF l k + if dW l k = true then 1 else 0 := by
 unfold fF
 rw [List.range_succ, List.filter_append, List.length_append]
 cases h : dW l k <;> simp [h]
theorem qR (b : Bk) (k : Nat) : jf b (k + 1) = jf b k ++ if dW b.slots k = true then [gh b.attrs k] else [] := by
 unfold jf
 rw [List.range_succ, List.filter_append, List.map_append]
 cases h : dW b.slots k <;> simp [h]
def lV (b : Bk) (i : Nat) : At := gh b.attrs (b.slots.getD i 0 - 1).toNat
def eD (b : Bk) (p : At → Bool) (n : Nat) : List Int := (((List.range n).filter (fun i => b.slots.getD i 0 != 0 && p (lV b i))).map (fun i : Nat => b.addr + (i : Int)))
theorem tZ (b : Bk) (p : At → Bool) (n : Nat) : eD b p (n + 1) = eD b p n ++ if (b.slots.getD n 0 != 0 && p (lV b n)) = true then [b.addr + (n : Int)] else [] := by
 unfold eD
 rw [List.range_succ, List.filter_append, List.map_append]
 cases h : (b.slots.getD n 0 != 0 && p (lV b n)) <;> simp only [List.filter_cons, h, List.filter_nil] <;> simp
theorem jK (b : Bk) (p : At → Bool) (n : Nat) : (eD b p n).length ≤ n := by
 unfold eD
 rw [List.length_map]
 exact Nat.le_trans (List.length_filter_le _ _) (by simp)
end Go.Proofs.Ytemhalnhbgkbcaa.V
end

section
namespace Go.Proofs.Ytemhalnhbgkbcaa.V
abbrev PJ (g : Nat) : Value := .func (.func 94) #[] #[.pointer (some ⟨g, 0, none⟩)]
set_option maxHeartbeats 8000000 in
set_option maxRecDepth 100000 in
theorem Cw (x i : Int) (hx : 0 ≤ x) (Le : x < 256) (g : Nat) (w : World) (h : aH w g [.int .i64 i] 3) :
  Calls Try.prog 94 #[.int .u8 x, .pointer (some ⟨g, 0, none⟩)] w fun e w' => e = .returned (.bool (x == i)) ∧ Below w.heap.size w w' := by
 have hc := h.cell 0 _ rfl
 clear h
 go_enter Try.func94, Try.ntmps94
 go_wp2
 go_ret
 exact ⟨rfl, Below.refl _ _⟩
def uh (xs : List Int) (i : Int) : Option Nat := xs.findIdx? (fun x => x == i)
theorem Ip {xs : List Int} {i : Int} (h : uh xs i = none) : ∀ x ∈ xs, (x == i) = false := by
 unfold uh at h
 rw [List.findIdx?_eq_none_iff] at h
 intro x hx
 simpa using h x hx
theorem Io {xs : List Int} {i : Int} {k : Nat} (h : uh xs i = some k) : ∃ hk : k < xs.length, (xs[k] == i) = true ∧ ∀ j (hj : j < k), (xs[j] == i) = false := by
 unfold uh at h
 rw [List.findIdx?_eq_some_iff_getElem] at h
 obtain ⟨h1, h2, h3⟩ := h
 exact ⟨h1, h2, fun j hj => by simpa using h3 j hj⟩
theorem MS (xs : List Int) (i : Int) (k : Nat) (hk : k < xs.length) (h : (xs[k] == i) = true) (hn : ∀ j (hj : j < k), (xs[j] == i) = false) : uh xs i = some k := by
 unfold uh
 rw [List.findIdx?_eq_some_iff_getElem]
 exact ⟨hk, h, fun j hj => by simpa using hn j hj⟩
theorem J0 (xs : List Int) (i : Int) (hn : ∀ j (hj : j < xs.length), (xs[j] == i) = false) : uh xs i = none := by
 unfold uh
 rw [List.findIdx?_eq_none_iff]
 intro x hx
 obtain ⟨j, hj, rfl⟩ := List.mem_iff_getElem.1 hx
 simpa using hn j hj
def ug (o : Option Nat) : Int := match o with | some k => (k : Int) | none => -1
set_option maxHeartbeats 8000000 in
set_option maxRecDepth 100000 in
theorem Ck (xs : List Int) (hu : fV xs) (hl : xs.length ≤ 1000) (A : Option Addr) (c : Nat) (i : Int) (g : Nat) (w : World) (hC : Kd.C (Kd.int .u8) w A xs.length xs) (hX : aH w g [.int .i64 i] 3) :
  Calls Try.prog 111 #[.slice A xs.length c, PJ g] w fun e w' => e = .returned (.int .i64 (ug (uh xs i))) ∧ Below w.heap.size w w' := by
 have HC := ak hC
 have HX := ak hX
 have HU := ak hu
 clear hC hX hu
 go_enter Try.func111, Try.ntmps111
 go_wp2
 go_loopw [5, 8] (fun _ i' W => ∃ k : Nat, k ≤ xs.length ∧ i' = .int .i64 k ∧ Aside0 (∀ j (hj : j < xs.length), j < k → (xs[j] == i) = false) ∧ Aside0 (Below w.heap.size w W)) (fun _ i' _ => xs.length - (intOf i').toNat)
 case atStart => exact ⟨0, by omega, rfl, ⟨fun j _ hj => absurd hj (Nat.not_lt_zero _)⟩, ⟨Below.refl _ _⟩⟩
 case round =>
  obtain ⟨k, hk, rfl, HN, HB⟩ := hrel
  obtain ⟨W, rfl⟩ : ∃ W : World, W = wr := ⟨_, rfl⟩
  by_cases hkn : k < xs.length
  ·have hkb : decide ((k : Int) < (xs.length : Int)) = true := by simp; omega
   obtain ⟨ad, eA, hx⟩ := Kd.at_int (Kd.C_below HC.out HB.out) k (by omega) (by omega)
   cases eA
   rw [Int.toNat_natCast] at hx
   have p1 : ((k : Int) < (xs.length : Int)) = True := eq_true (by omega)
   have hrd : rd xs k = xs[k] := by simp [rd, List.getD, hkn]
   have h0 := (j2 HU.out k).1
   have h1 := (j2 HU.out k).2
   obtain ⟨x, hxx⟩ : ∃ x, x = rd xs k := ⟨_, rfl⟩
   rw [← hxx] at hx h0 h1 hrd
   have HXK := ak hrd
   clear hrd hxx
   cases hq : (x == i) with
   | true =>
    have HQ := ak hq
    clear hq
    go_wp2_with (go_at_call 94; refine (Cw x i h0 h1 g _ (HX.out.below HB.out)).mono ?_; rintro e W1 ⟨rfl, bq⟩; rw [HQ.out]; have bP := ak (HB.out.trans (bq.mono HB.out.size)); clear bq)
    go_ret
    exact ⟨by rw [MS xs i k hkn (by rw [← HXK.out]; exact HQ.out) (fun j hj => HN.out j (by omega) hj)]; rfl, bP.out⟩
   | false =>
    have HQ := ak hq
    clear hq
    go_wp2_with (go_at_call 94; refine (Cw x i h0 h1 g _ (HX.out.below HB.out)).mono ?_; rintro e W1 ⟨rfl, bq⟩; rw [HQ.out]; have bP := ak (HB.out.trans (bq.mono HB.out.size)); clear bq)
    go_roundw
    case rel => exact ⟨k + 1, by omega, by go_num, ⟨fun j hj hjk => by
     rcases Nat.lt_or_ge j k with h | h
     ·exact HN.out j hj h
     ·obtain rfl : j = k := by omega
      rw [← HXK.out]
      exact HQ.out⟩, bP⟩
    case measure => simp [intOf]; omega
  ·obtain rfl : k = xs.length := by omega
   have hkb : decide ((xs.length : Int) < (xs.length : Int)) = false := by simp
   go_wp2
   go_ret
   exact ⟨by rw [J0 xs i (fun j hj => HN.out j hj hj)]; rfl, HB.out⟩
end Go.Proofs.Ytemhalnhbgkbcaa.V
end

