/- The law ViewApart for every input: texts of ours, put together (part 5 of 16). No further condition. -/
import Derived.Test.YtndddnglapkplaaGreatDoorCViewApartx2
import Derived.Test.YtndddnglapkplaaGreatDoorCViewApartx3
import Derived.Laws.RangeAny
import Derived.Outline
import Derived.WalkSpells
set_option linter.unusedVariables false
set_option linter.unusedSimpArgs false
open Go.RowKit Go.Proofs.YtndddnglapkplaaGreatDoorW.PrintWords Go.Proofs.YtndddnglapkplaaGreatDoorW.PrintLast Go.Proofs.YtndddnglapkplaaGreatDoorW.PrintMore Go.Proofs.YtndddnglapkplaaGreatDoor.Z
section
namespace Go.Proofs.YtndddnglapkplaaGreatDoor.V
def jC (c : Int) : Bool := (decide (97 ≤ c) && decide (c ≤ 122)) || (decide (65 ≤ c) && decide (c ≤ 90)) || (decide (48 ≤ c) && decide (c ≤ 57)) || decide (c = 46) || decide (c = 45) || decide (c = 95)
def iV (s : ByteArray) (i : Nat) : Bool := (s.data.toList.drop i).all fun b => jC (b.toNat : Int)
def dE (s : ByteArray) : Bool := iV s 0 && decide (0 < s.size) && decide (s.size ≤ 64)
theorem Ld (c : Int) (k : Nat) (hk : 2 < k) : cI.f k c = some (jC c) := by
 obtain ⟨k, rfl⟩ : ∃ m, k = m + 1 + 1 := ⟨k - 2, by omega⟩
 unfold cI.f jC
 simp only [cI.j0, cI.j1]
 repeat' split
 all_goals first | (simp_all; done) | (simp_all; omega) | (exfalso; simp_all; omega)
theorem uD (c : Int) (w : World) : Calls Tryz.prog 116 #[.int .i32 c] w fun e w' => e = .returned (.bool (jC c)) ∧ Drawn0 w w' :=
 cI.calls 3 c _ w (Ld c 3 (by omega))
theorem Ac (s : ByteArray) (i : Nat) (h : i < s.size) : bt s (i : Int) = (s[i].toNat : Int) := by simp [bt, h]
theorem pe (s : ByteArray) (i : Nat) (h : i < s.size) : iV s i = (jC (bt s (i : Int)) && iV s (i + 1)) := by
 have h' : i < s.data.toList.length := by simpa using h
 unfold iV
 rw [List.drop_eq_getElem_cons h', List.all_cons, Ac s i h]
 rfl
theorem uq (s : ByteArray) (i : Nat) (h : s.size ≤ i) : iV s i = true := by
 unfold iV
 rw [List.drop_of_length_le (by simpa using h)]
 rfl
theorem toList_nil (s : ByteArray) : s.data.toList = [] ↔ s.size = 0 := by
 constructor
 ·intro h
  have := congrArg List.length h
  simpa using this
 ·intro h
  exact List.eq_nil_of_length_eq_zero (by simpa using h)
theorem FW (k : Nat) (s : ByteArray) (i : Nat) (h : i < s.size) (hm : s.size ≤ 9223372036854775807) : aG.l0 (k + 1) s (i : Int) = if jC (bt s (i : Int)) then aG.l0 k s ((i + 1 : Nat) : Int) else some false := by
 simp only [aG.l0]
 rw [if_pos (show (i : Int) < (s.size : Int) by omega), if_pos (show (0 : Int) ≤ (i : Int) by omega), show wrap64 ((i : Int) + 1) = ((i + 1 : Nat) : Int) by unfold wrap64; omega]
 generalize aG.l0 k s ((i + 1 : Nat) : Int) = A
 generalize bt s (i : Int) = c
 unfold jC
 repeat' split
 all_goals first | rfl | (exfalso; simp_all; omega) | (simp_all; done) | (simp_all; omega)
theorem K0 (s : ByteArray) (hm : s.size ≤ 9223372036854775807) : ∀ (d k i : Nat), i + d = s.size → d < k → aG.l0 k s (i : Int) = some (iV s i && decide (0 < s.size) && decide (s.size ≤ 64)) := by
 intro d
 induction d with
 | zero =>
  intro k i hi hk
  obtain ⟨k, rfl⟩ : ∃ m, k = m + 1 := ⟨k - 1, by omega⟩
  simp only [aG.l0]
  rw [if_neg (by omega), uq s i (by omega)]
  by_cases h1 : 0 < s.size
  ·rw [if_pos (by omega)]
   simp [h1]
   omega
  ·rw [if_neg (by omega)]
   simp [h1]
 | succ d ih =>
  intro k i hi hk
  obtain ⟨k, rfl⟩ : ∃ m, k = m + 1 := ⟨k - 1, by omega⟩
  rw [FW k s i (by omega) hm, pe s i (by omega)]
  by_cases h : jC (bt s (i : Int)) = true
  ·rw [if_pos h, ih k (i + 1) (by omega) (by omega), h, Bool.true_and]
  ·have h' : jC (bt s (i : Int)) = false := by simpa using h
   rw [if_neg h, h']
   simp
theorem tu (s : ByteArray) (hm : s.size ≤ 9223372036854775807) (k : Nat) (hk : s.size < k) : aG.f k s = some (dE s) := K0 s hm s.size k 0 (by omega) hk
theorem rR (w : World) (s : ByteArray) (p n : Nat) : ((w.iter s p).drewN n).iterPos w.heap.size = p := World.iterPos_iter (w.drewN n) s p
theorem om {w : World} {s : ByteArray} {p : Nat} (h : Below w.heap.size w w) : Below w.heap.size w (w.iter s p) := aa h _
theorem tX (c : Int) (h : 128 ≤ c) : jC c = false := by
 unfold jC
 simp
 omega
theorem tV (s : ByteArray) : s.toList = [] ↔ s.size = 0 := by rw [ByteArray.toList_eq]; exact toList_nil s
set_option maxHeartbeats 2000000 in
set_option maxRecDepth 100000 in
theorem Ee (s : ByteArray) (w : World) : Calls Tryz.prog 92 #[.string s] w fun e w' => e = .returned (.bool (dE s)) ∧ Below w.heap.size w w' := by
 go_enter Tryz.func92, Tryz.ntmps92
 go_wp2
 go_loopw [4] (fun c W => ∃ pos nd : Nat, W = (w.iter s pos).drewN nd ∧ pos ≤ s.size ∧ Aside0 (iV s 0 = iV s pos)) (fun _ W => s.size - W.iterPos w.heap.size)
 case atStart => exact ⟨0, 0, rfl, by omega, ⟨rfl⟩⟩
 case round =>
  obtain ⟨pos, nd, rfl, hpos, HA⟩ := hrel
  by_cases hp : pos < s.size
  ·have hnx : ∀ ty, (Instr.next (.pointer (some ⟨w.heap.size, 0, none⟩)) true ty).run Tryz.prog ((w.iter s pos).drewN nd) = .ok (.tuple #[.bool true, .int .i64 pos, .int .i32 (Utf8.decode s pos).1]) ((w.iter s (pos + (Utf8.decode s pos).2)).drewN nd) := fun ty => run_next_any (w.drewN nd) s pos ty hp
   by_cases ha : (s[pos]'(hp)).toNat < 128
   ·have hd := decode_ascii s pos hp ha
    rw [hd] at hnx
    have hbt := Ac s pos hp
    have hst := pe s pos hp
    cases hok : jC (bt s (pos : Int)) with
    | true =>
     have lr := ak (show iV s 0 = iV s (pos + 1) by rw [HA.out, hst, hok, Bool.true_and])
     rw [hbt] at hok
     have HOK := ak hok
     clear hok hst hbt hd ha
     go_wp2_with (go_at_call 116; refine (uD _ _).mono ?_; rintro e w' ⟨rfl, ⟨yZ, rfl⟩⟩; rw [HOK.out])
     go_roundw
     case rel => exact ⟨pos + 1, nd + yZ, rfl, by omega, lr⟩
     case measure => rw [rR, rR]; omega
    | false =>
     have HF := ak (show dE s = false by unfold dE; rw [HA.out, hst, hok]; rfl)
     rw [hbt] at hok
     have HOK := ak hok
     clear hok hst hbt hd ha
     go_wp2_with (go_at_call 116; refine (uD _ _).mono ?_; rintro e w' ⟨rfl, ⟨yZ, rfl⟩⟩; rw [HOK.out])
     go_ret
     exact ⟨by rw [HF.out]; rfl, by repeat (first | exact Below.refl _ _ | apply J | apply om)⟩
   ·have hd := decode_high s pos hp (by omega)
    have hst := pe s pos hp
    have hok : jC (bt s (pos : Int)) = false := tX _ (by rw [Ac s pos hp]; omega)
    have HF := ak (show dE s = false by unfold dE; rw [HA.out, hst, hok]; rfl)
    have HOK := ak (tX ((Utf8.decode s pos).1 : Int) (by omega))
    generalize Utf8.decode s pos = D at hnx HOK
    clear hok hst hd ha
    go_wp2_with (go_at_call 116; refine (uD _ _).mono ?_; rintro e w' ⟨rfl, ⟨yZ, rfl⟩⟩; rw [HOK.out])
    go_ret
    exact ⟨by rw [HF.out]; rfl, by repeat (first | exact Below.refl _ _ | apply J | apply om)⟩
  ·have hnx : ∀ ty, (Instr.next (.pointer (some ⟨w.heap.size, 0, none⟩)) true ty).run Tryz.prog ((w.iter s pos).drewN nd) = .ok (.tuple #[.bool false]) ((w.iter s pos).drewN nd) := fun ty => run_next_end (w.drewN nd) s pos ty hp
   have hall : iV s 0 = true := by rw [HA.out, uq s pos (by omega)]
   by_cases h0 : s.size = 0
   ·have hn : s.toList = [] := (tV s).2 h0
    have xO : (!s.toList.isEmpty) = false := by rw [hn]; rfl
    have HF := ak (show dE s = false by unfold dE; rw [h0]; simp)
    clear h0 hall HA hpos hp
    go_wp2
    go_ret
    exact ⟨by rw [HF.out]; rfl, by repeat (first | exact Below.refl _ _ | apply J | apply om)⟩
   ·have hn : ¬ s.toList = [] := fun h => h0 ((tV s).1 h)
    have xO : (!s.toList.isEmpty) = true := by cases hh : s.toList <;> simp_all
    have HF := ak (show dE s = decide ((s.size : Int) ≤ 64) by
     unfold dE
     rw [hall, decide_eq_true (show 0 < s.size by omega)]
     simp only [Bool.true_and]
     exact decide_eq_decide.2 (by omega))
    clear h0 hall HA hpos hp
    go_wp2
    go_ret
    exact ⟨by rw [HF.out]; rfl, by repeat (first | exact Below.refl _ _ | apply J | apply om)⟩
def bT.f (a0 : ByteArray) : Option Bool := some (dE a0)
theorem bT.calls (a0 : ByteArray) (r : Bool) (w : World) (h : bT.f a0 = some r) : Calls Tryz.prog 92 #[.string a0] w fun e w' => e = .returned (.bool r) ∧ Below w.heap.size w w' := by
 obtain rfl := Option.some.inj h
 exact Ee a0 w
end Go.Proofs.YtndddnglapkplaaGreatDoor.V
end

section
namespace Go.Proofs.YtndddnglapkplaaGreatDoor.V
attribute [local go_sem] bI bG bP bO bw bu bH bF
def nM.f (aH : ByteArray) (aC : ByteArray) : Option (Bool) := (bT.f aH).bind fun ot => (if ot = true then ((bT.f aC).bind fun ky => (some ky)) else (some false))
set_option maxHeartbeats 8000000 in
set_option maxRecDepth 100000 in
theorem nM.calls (aH : ByteArray) (aC : ByteArray) (r : Bool) (w : World) (h : nM.f aH aC = some r) :
  Calls Tryz.prog 119 #[.agg #[.string aH, .string aC]] w fun e w' => e = .returned (.bool r) ∧ Below w.heap.size w w' := by
 have Xm := Tryz.underlying81
 have HB := ak (Below.refl w.heap.size w)
 have H : ((bT.f aH).bind fun ot => (if ot = true then ((bT.f aC).bind fun ky => (some ky)) else (some false))) = some r := h
 clear h
 replace H := Option.bind_eq_some_iff.mp H
 obtain ⟨ot, ek, H⟩ := H
 replace H : (if ot = true then ((bT.f aC).bind fun ky => (some ky)) else (some false)) = some r := H
 have A2 := ak ek
 clear ek
 by_cases c3 : ot = true
 ·subst c3
  have H1 : ((bT.f aC).bind fun ky => (some ky)) = some r := by rw [if_pos rfl] at H; exact H
  clear H
  have H := H1
  clear H1
  replace H := Option.bind_eq_some_iff.mp H
  obtain ⟨ky, mF, H⟩ := H
  replace H : (some ky) = some r := H
  have A4 := ak mF
  clear mF
  obtain rfl := Option.some.inj H
  go_enter Tryz.func119, Tryz.ntmps119
  go_wp2_with (first | ((with_reducible refine aA (N := 1) rfl ?_); refine bl ?hg (N := 1) ?hd (cs := #[.string aH, .string aC]) (t := 81) ?hr ?_; (case hd => rfl); (case hg => rfl); (case hr => first | (go_simp; done) | (go_simp; rfl)); intro gq hg w5 hbox hb; have av := ak (au (by repeat (first | (with_reducible first | exact HB.out | apply aa | apply J | apply ab) | exact HB.out)) hb); have az := ak (hbox); have aR := ak ((by rw [hg]; exact (ay (by repeat (first | (with_reducible first | exact HB.out | apply aa | apply J | apply ab) | exact HB.out))) : w.heap.size ≤ gq)); have bp := ak ((by rw [hg]; exact (ay (by repeat (first | (with_reducible first | exact HB.out | apply aa | apply J | apply ab) | exact HB.out))) : w.heap.size ≤ gq)); clear HB; have HB := av; have dX := az; have Hm := aR; have ny := bp; clear av az aR bp; clear hb hbox hg; have zw : w5.cell? ⟨gq, 0, none⟩ = some (.string aH) := (aj dX.out 0).trans rfl; have zv : w5.cell? ⟨gq, 1, none⟩ = some (.string aC) := (aj dX.out 1).trans rfl; have zo := ah dX.out 0; have zn := ah dX.out 1) | ((with_reducible refine aD (f := 92) rfl ?_); refine bg (some 5) rfl rfl Tryz.func92 (by kernel_rfl) rfl #[.string aH] rfl (by (try simp only [List.map_toArray, List.map_cons, List.map_nil]); first | done | rfl | (simp only [List.length_drop, List.length_take]; rfl)) ?_; (with_reducible refine (bT.calls aH true _ A2.out).mono ?_); rintro e w7 ⟨rfl, hb⟩; refine ⟨_, rfl, ?_⟩; have av := ak (aU (g := gq) (o := .cells #[.string aH, .string aC] 81 (0, 0)) (by (with_reducible repeat (first | refine ae ?_ _ | refine ag ?_ | refine af ?_ _)); exact dX.out) hb); have az := ak (au (by repeat (first | (with_reducible first | exact HB.out | apply aa | apply J | apply ab | refine ai ?_ ny.out) | exact HB.out)) hb); clear dX; clear HB; have dX := av; have HB := az; clear av az; (try clear hb); (try clear bC); (try clear hk); (try clear hi); have vT : w7.cell? ⟨gq, 0, none⟩ = some (.string aH) := (aj dX.out 0).trans rfl; have vS : w7.cell? ⟨gq, 1, none⟩ = some (.string aC) := (aj dX.out 1).trans rfl; have vR := ah dX.out 0; have vQ := ah dX.out 1) | (go_at_call 92; (with_reducible refine (bT.calls aC ky _ A4.out).mono ?_); rintro e w9 ⟨rfl, hb⟩; have av := ak (aU (g := gq) (o := .cells #[.string aH, .string aC] 81 (0, 0)) (by (with_reducible repeat (first | refine ae ?_ _ | refine ag ?_ | refine af ?_ _)); exact dX.out) hb); have az := ak (au (by repeat (first | (with_reducible first | exact HB.out | apply aa | apply J | apply ab | refine ai ?_ ny.out) | exact HB.out)) hb); clear dX; clear HB; have dX := av; have HB := az; clear av az; (try clear hb); (try clear bC); (try clear hk); (try clear hi)))
  go_ret
  exact ⟨by first | rfl | (simp [aq, ao] <;> rfl) | (simp [*, aq, ao] <;> rfl), by repeat (first | (with_reducible first | exact HB.out | apply aa | apply J | apply ab | refine ai ?_ ny.out) | exact HB.out)⟩
 ·replace c3 := Bool.eq_false_iff.mpr c3
  subst c3
  have H1 : (some false) = some r := by rw [if_neg (show ¬ (false = true) by decide)] at H; exact H
  clear H
  have H := H1
  clear H1
  obtain rfl := Option.some.inj H
  go_enter Tryz.func119, Tryz.ntmps119
  go_wp2_with (first | ((with_reducible refine aA (N := 1) rfl ?_); refine bl ?hg (N := 1) ?hd (cs := #[.string aH, .string aC]) (t := 81) ?hr ?_; (case hd => rfl); (case hg => rfl); (case hr => first | (go_simp; done) | (go_simp; rfl)); intro gq hg js hbox hb; have av := ak (au (by repeat (first | (with_reducible first | exact HB.out | apply aa | apply J | apply ab) | exact HB.out)) hb); have az := ak (hbox); have aR := ak ((by rw [hg]; exact (ay (by repeat (first | (with_reducible first | exact HB.out | apply aa | apply J | apply ab) | exact HB.out))) : w.heap.size ≤ gq)); have bp := ak ((by rw [hg]; exact (ay (by repeat (first | (with_reducible first | exact HB.out | apply aa | apply J | apply ab) | exact HB.out))) : w.heap.size ≤ gq)); clear HB; have HB := av; have dX := az; have Hm := aR; have ny := bp; clear av az aR bp; clear hb hbox hg; have qL : js.cell? ⟨gq, 0, none⟩ = some (.string aH) := (aj dX.out 0).trans rfl; have qK : js.cell? ⟨gq, 1, none⟩ = some (.string aC) := (aj dX.out 1).trans rfl; have qJ := ah dX.out 0; have qI := ah dX.out 1) | ((with_reducible refine aD (f := 92) rfl ?_); refine bg (some 5) rfl rfl Tryz.func92 (by kernel_rfl) rfl #[.string aH] rfl (by (try simp only [List.map_toArray, List.map_cons, List.map_nil]); first | done | rfl | (simp only [List.length_drop, List.length_take]; rfl)) ?_; (with_reducible refine (bT.calls aH false _ A2.out).mono ?_); rintro e u4 ⟨rfl, hb⟩; refine ⟨_, rfl, ?_⟩; have av := ak (aU (g := gq) (o := .cells #[.string aH, .string aC] 81 (0, 0)) (by (with_reducible repeat (first | refine ae ?_ _ | refine ag ?_ | refine af ?_ _)); exact dX.out) hb); have az := ak (au (by repeat (first | (with_reducible first | exact HB.out | apply aa | apply J | apply ab | refine ai ?_ ny.out) | exact HB.out)) hb); clear dX; clear HB; have dX := av; have HB := az; clear av az; (try clear hb); (try clear bC); (try clear hk); (try clear hi)))
  go_ret
  exact ⟨by first | rfl | (simp [aq, ao] <;> rfl) | (simp [*, aq, ao] <;> rfl), by repeat (first | (with_reducible first | exact HB.out | apply aa | apply J | apply ab | refine ai ?_ ny.out) | exact HB.out)⟩
end Go.Proofs.YtndddnglapkplaaGreatDoor.V
end

section
namespace Go.Proofs.YtndddnglapkplaaGreatDoor.V
def gE (a : At) : Bool := dE a.f0 && dE a.f1
theorem Mq (a : At) : nM.f a.f0 a.f1 = some (gE a) := by
 unfold nM.f bT.f gE
 cases h : dE a.f0 <;> simp
theorem uP (a : At) (w : World) : Calls Tryz.prog 119 #[jl a] w fun e w' => e = .returned (.bool (gE a)) ∧ Below w.heap.size w w' := nM.calls a.f0 a.f1 _ w (Mq a)
def ll (l : List At) (j : Nat) : At := lN l (j : Int)
def ix (l : List Int) : Nat := tY (l.map fun s => s - 1)
def jQ (b : Bk) : Bool := (b.slots.all fun s => decide (s ≤ (b.attrs.length : Int))) && ((List.range b.attrs.length).all (fun j => gE (ll b.attrs j) && !((b.attrs.take j).any (sameAt (ll b.attrs j)))) && decide ((gG (ix b.slots)).length = b.attrs.length))
def jd (l : List At) : List (At × Int) := l.map fun a => (a, 1)
theorem yK (l : List At) (a : At) : numOf (jd l) a = if l.any (sameAt a) = true then 1 else 0 := by
 unfold numOf jd
 induction l with
 | nil => rfl
 | cons x l ih =>
  rw [List.map_cons, List.find?_cons, List.any_cons]
  cases h : sameAt a x with
  | true => simp
  | false => simpa using ih
theorem FE (l : List At) (a : At) (h : l.any (sameAt a) = false) (v : Int) : putAt (jd l) a v = jd l ++ [(a, v)] := by
 have : idxOf (jd l) a = none := by
  unfold idxOf jd
  simpa using h
 unfold putAt
 rw [this]
theorem AU (l : List At) : (jd l).length = l.length := by simp [jd]
theorem Ku (l : List At) (j : Nat) (h : j < l.length) : ll l j = l[j] := by simp [ll, lN, List.getD, h]
theorem By (l : List At) (j : Nat) (h : j < l.length) : l.take (j + 1) = l.take j ++ [ll l j] := by
 rw [List.take_add_one, List.getElem?_eq_getElem h, Ku l j h]
 rfl
def mz.T13 : Bool × List (List Nat × List Nat) := (true, [([], []), ([], []), ([0, 1], [0, 1]), ([2], [2]), ([0, 1, 0, 1], [0, 1]), ([4], [4]), ([0, 5, 3, 4, 0, 1, 2, 3, 4, 5], [0, 3, 5])])
def mz.B13 : List Nat := [0, 0, 3, 7, 3, 19, 63]
theorem mz.tab13 : dS .any (opsOf Tryz.f108 13) = mz.T13 := by kernel_rfl
theorem mz.bits13 : ew mz.T13.2 mz.B13 = true := by kernel_rfl
def my.T17 : Bool × List (List Nat × List Nat) := (true, [([], []), ([0], [0]), ([], []), ([2], [2]), ([3], [3]), ([1, 4], [1, 4]), ([5, 1, 0, 1, 2, 3, 4, 5], [5])])
def my.B17 : List Nat := [0, 1, 0, 4, 12, 31, 63]
theorem my.tab17 : dS .any (opsOf Tryz.f108 17) = my.T17 := by kernel_rfl
theorem my.bits17 : ew my.T17.2 my.B17 = true := by kernel_rfl
set_option maxHeartbeats 4000000 in
set_option maxRecDepth 100000 in
theorem xT (b : Bk) (hs : dK b.slots) (hn : b.attrs.length ≤ 64) (v : Value) (w : World) (h : rh w v b) :
  Calls Tryz.prog 108 #[v] w fun e w' => e = .returned (.bool (jQ b)) ∧ Below w.heap.size w w' := by
 obtain ⟨A, c, A', c', rfl, hr⟩ := h
 have hl := hr.l64
 have HR := ak hr
 have HS := ak hs
 have HL := ak hl
 have hmm := @run_makeMap Tryz.prog
 have hlen : (Tryz.prog.info? 60).map (·.size) = some (b.slots.map (Value.int .u8)).length := by rw [List.length_map, hl]; kernel_rfl
 have HLN := ak hlen
 clear hr hs hl hlen
 go_enter Tryz.func108, Tryz.ntmps108
 go_wp2_with (first
  | (refine fL rfl 64 (.tmp 0) rfl _ rfl ?_; intro g W1 hg hbx aW; have HX := ak hbx; have HB := ak aW; have HG := ak hg; have HRR := ak (HR.out.below aW); have EY := hbx.cell 67 _ (pd _ _ _ _ _ HL.out); clear hbx aW hg HR)
  | (refine lV rfl 60 (.tmp 10) rfl g 2 rfl 64 _ (b.slots.map (Value.int .u8)) (.array 64 5) (HX.out.alloc _) (Ad _ _ _ _ _ HL.out) Tryz.underlying60 rfl HLN.out ?_))
 have HM := ak (show lz (W1.alloc (.map #[] 0)) W1.heap.size [] from heap_alloc_new W1 _)
 have iR := ak (HX.out.alloc (.map #[] 0))
 have Ft := ak (aa (Below.refl W1.heap.size W1) (.map #[] 0))
 have HLT := ak HX.out.lt
 have fw := ak (show w.heap.size ≤ W1.heap.size from HB.out.size)
 have fv := HX
 have cP := HB
 have kx := HRR
 have HGM := ak (Eq.refl W1.heap.size)
 clear HX HB HRR EY hmm
 generalize W1.alloc (Obj.map #[] 0) = W2 at HM iR Ft ⊢
 generalize hgm : W1.heap.size = gm at HM fw HLT Ft HGM ⊢
 have HGE := ak hgm
 clear hgm HGM
 have EY := iR.out.cell 67 _ (pd _ _ _ _ _ HL.out)
 go_loopw [4, 6, 12] (fun s _ i W => ∃ k nd : Nat, k ≤ 64 ∧ W = W2.drewN nd ∧ i = .int .i64 k ∧ s = .int .u64 ((ix (b.slots.take k) : Nat) : Int) ∧ Aside0 (∀ j, j < k → rd b.slots (j : Int) ≤ (b.attrs.length : Int))) (fun _ _ i _ => 64 - (intOf i).toNat)
 case atStart => exact ⟨0, 0, by omega, rfl, rfl, rfl, ⟨fun j hj => by omega⟩⟩
 case round =>
  obtain ⟨k, nd, hk, rfl, rfl, rfl, HJ⟩ := hrel
  by_cases UR : k < 64
  ·have hkb : decide ((k : Int) < 64) = true := by simp; omega
   have hkl : k < b.slots.length := by have := HL.out; omega
   obtain ⟨m, hm⟩ : ∃ m : Nat, rd b.slots k = (m : Int) := ⟨(rd b.slots k).toNat, by have := (iM HS.out k).1; omega⟩
   have EP : m < 256 := by have := (iM HS.out k).2; omega
   have hix := fun w => BE b.slots HL.out k UR w
   have xQ : b.slots.getD k 0 = (m : Int) := by rw [← hm]; simp [rd]
   rw [xQ] at hix
   by_cases hbig : m ≤ b.attrs.length
   ·have hgb : decide (b.attrs.length < m) = false := by simp; omega
    have HU := ak (show lU (ix (b.slots.take k)) ((m : Int) - 1) = ix (b.slots.take (k + 1)) by
     unfold ix tY
     rw [List.take_add_one, List.map_append, List.foldl_append, List.getElem?_eq_getElem hkl]
     have : b.slots[k] = (m : Int) := by rw [← xQ]; simp [List.getD, List.getElem?_eq_getElem hkl]
     rw [this]
     rfl)
    have ph := ak (show ∀ j, j < k + 1 → rd b.slots (j : Int) ≤ (b.attrs.length : Int) from fun j hj => by
     by_cases h : j < k
     ·exact HJ.out j h
     ·obtain rfl : j = k := by omega
      rw [hm]
      omega)
    clear hm xQ
    go_wp2_with (go_at_call 118; refine (yz (ix (b.slots.take k)) (qB _) _ _).mono ?_; rintro e w' ⟨rfl, ⟨Le, rfl⟩⟩; rw [HU.out])
    go_roundw
    case rel => exact ⟨k + 1, nd + Le, by omega, by simp, by go_num, rfl, ph⟩
    case measure => simp [intOf]; omega
   ·have hgb : decide (b.attrs.length < m) = true := by simp; omega
    have HV := ak (show jQ b = false by
     unfold jQ
     rw [Bool.and_eq_false_iff]
     left
     rw [List.all_eq_false]
     refine ⟨b.slots[k], List.getElem_mem _, ?_⟩
     have : b.slots[k] = (m : Int) := by rw [← xQ]; simp [List.getD, List.getElem?_eq_getElem hkl]
     rw [this]
     simp
     omega)
    clear hm xQ
    go_wp2
    go_ret
    exact ⟨by rw [HV.out]; rfl, by apply J; exact cP.out.trans (Ft.out.mono fw.out)⟩
  ·obtain rfl : k = 64 := by omega
   rw [show ((64 : Nat) : Int) = (64 : Int) from rfl]
   have hkb : decide ((64 : Int) < 64) = false := by decide
   have HT := ak (show b.slots.take 64 = b.slots from List.take_of_length_le (by have := HL.out; omega))
   have HA := ak (show (b.slots.all fun s => decide (s ≤ (b.attrs.length : Int))) = true by
    rw [List.all_eq_true]
    intro s hs
    obtain ⟨j, hj, rfl⟩ := List.getElem_of_mem hs
    have := HJ.out j (by have := HL.out; omega)
    simpa [rd, List.getD, hj] using this)
   go_wp2_with fail
   go_loopw [8, 30] (fun _ i W => ∃ k : Nat, k ≤ b.attrs.length ∧ i = .int .i64 k ∧ Aside0 (lz W gm (jd (b.attrs.take k))) ∧ Aside0 (Below gm W1 W) ∧ Aside0 (∀ j, j < k → gE (ll b.attrs j) = true ∧ (b.attrs.take j).any (sameAt (ll b.attrs j)) = false)) (fun _ i _ => b.attrs.length - (intOf i).toNat)
   case atStart => exact ⟨0, by omega, rfl, HM, ⟨by apply J; exact Ft.out⟩, ⟨fun j hj => by omega⟩⟩
   case round =>
    clear HM iR EY HJ Ft
    obtain ⟨k, hk, rfl, HM, HZ, HJ⟩ := hrel
    obtain ⟨W, rfl⟩ : ∃ W : World, W = wr := ⟨_, rfl⟩
    have HR := ak (kx.out.below (by rw [HGE.out]; exact HZ.out))
    by_cases hkn : k < b.attrs.length
    ·have hkb : decide ((k : Int) < (b.attrs.length : Int)) = true := by simp; omega
     obtain ⟨ad, eA, iP, ml⟩ := Mu HR.out.ar k (by omega) (by omega)
     cases eA
     rw [Int.toNat_natCast] at iP ml
     have p1 : ((k : Int) < (b.attrs.length : Int)) = True := eq_true (by omega)
     obtain ⟨a, ha⟩ : ∃ a : At, ll b.attrs k = a := ⟨_, rfl⟩
     have ha' : lN b.attrs (k : Int) = a := ha
     rw [ha'] at iP ml
     have jm := ak ha
     have HK := ak (show (jd (b.attrs.take (k + 1))) = jd (b.attrs.take k) ++ [(a, 1)] by
      unfold jd
      rw [By _ _ hkn, ha]
      simp)
     have hbad : (gE a = false ∨ (b.attrs.take k).any (sameAt a) = true) → jQ b = false := fun h => by
      unfold jQ
      rw [HA.out, Bool.true_and, Bool.and_eq_false_iff]
      left
      rw [List.all_eq_false]
      refine ⟨k, by simpa using hkn, ?_⟩
      rw [ha]
      rcases h with h | h <;> rw [h] <;> simp
     have HBAD := ak hbad
     have ph := ak (show gE a = true → (b.attrs.take k).any (sameAt a) = false → ∀ j, j < k + 1 → gE (ll b.attrs j) = true ∧ (b.attrs.take j).any (sameAt (ll b.attrs j)) = false from fun h1 h2 j hj => by
      by_cases hjk : j < k
      ·exact HJ.out j hjk
      ·obtain rfl : j = k := by omega
       rw [ha]
       exact ⟨h1, h2⟩)
     clear ha ha' hbad
     go_wp2_with (first
      | (refine a6 (some 8) rfl rfl 81 rfl [.string ⟨#[]⟩, .string ⟨#[]⟩] (fun _ => by kernel_rfl) ?_; intro ga W3 hga iw uI)
      | (refine aM rfl 81 (.tmp 8) (.tmp 33) rfl ga [.string a.f0, .string a.f1] rfl rfl 81 _ iw 2 (by kernel_rfl) rfl rfl (by intro u hu; simp at hu; rcases hu with rfl | rfl <;> rfl) ?_; intro W4 jR zi))
     have nS := ak jR
     have Qx := iw.lt
     have hbW : Below W.heap.size W W4 := uI.grown zi uI.size (fun q hq => by cases hq; exact hga)
     have AF := ak (show lz W4 gm (jd (b.attrs.take k)) from (hbW.block gm (Array.getElem?_eq_some_iff.1 HM.out).1).trans HM.out)
     have HGW := ak (show gm ≤ W.heap.size from by have := (Array.getElem?_eq_some_iff.1 HM.out).1; omega)
     have Fs := ak (HZ.out.trans (hbW.mono HGW.out))
     have HGA := ak (show gm ≠ ga by have := (Array.getElem?_eq_some_iff.1 HM.out).1; omega)
     have HLK := ak (show (jd (b.attrs.take k)).length < 1000 by rw [AU, List.length_take]; omega)
     have HGS := ak (show gm ≤ W4.heap.size from Nat.le_trans HGW.out hbW.size)
     clear HM HR HZ iw jR hga uI zi hbW Qx iP ml
     obtain ⟨n, qH⟩ : ∃ n : Nat, numOf (jd (b.attrs.take k)) a = (n : Int) := by
      rw [yK]
      split
      ·exact ⟨1, rfl⟩
      ·exact ⟨0, rfl⟩
     have Nf := ak qH
     have AD := ak (show (n = 1 ∧ (b.attrs.take k).any (sameAt a) = true) ∨ (n = 0 ∧ (b.attrs.take k).any (sameAt a) = false) by
      rw [yK] at qH
      split at qH
      ·rename_i h; exact .inl ⟨by omega, h⟩
      ·rename_i h; exact .inr ⟨by omega, by simpa using h⟩)
     clear qH
     refine ee (n := 7) (S := fun w' => w'.cell? ⟨ga, 0, none⟩ = some (.string a.f0) ∧ w'.cell? ⟨ga, 1, none⟩ = some (.string a.f1) ∧ ∃ L1, lz w' gm L1 ∧ numOf L1 a = (n : Int)) (ds := [6]) #[false, false, false, false, false, false, false] (by kernel_rfl) rfl rfl ⟨nS.out.cell 0 _ rfl, nS.out.cell 1 _ rfl, _, AF.out, Nf.out⟩ (fun hHeld => ?_); refine cV mz.tab13 mz.bits13 (fun an cj => ?_)
     refine pu 0 an.out ?_
     refine tk 1 an.out cj.out hHeld ?_ (hv := by intro w' dg; obtain ⟨s0, s1, s2⟩ := dg; go_simp; with_reducible rfl)
     refine tk 2 an.out cj.out hHeld ?_ (hv := by intro w' dg; obtain ⟨s0, s1, L1, s2, s3⟩ := dg; have hlk := uE _ _ _ s2 a; rw [s3] at hlk; simp only [jl] at hlk; go_simp; with_reducible rfl)
     refine pu 3 an.out ?_
     refine on 4 an.out (fun K hK => ?_)
     obtain ⟨W6, W7, jj, BL, zD, U8, PO, cz, BQ⟩ := E7 W4.drew gm _ AF.out HLK.out a (wrap64 ((n : Int) + 1)); rw [Nf.out] at BL; simp only [jl] at BL
     refine oe (v := .tuple #[.int .i64 (n : Int), .int .i64 jj]) (w1 := W6) (by rfl) ?_ ?_
     ·go_simp
      try rfl
     refine kn hK ⟨(BQ _ HGA.out.symm).trans (nS.out.cell 0 _ rfl), (BQ _ HGA.out.symm).trans (nS.out.cell 1 _ rfl), by obtain ⟨L1, h1, h2⟩ := zD; exact ⟨L1, h1, h2.trans Nf.out⟩⟩ (fun hHeld => ?_)
     clear hK K
     refine pu 5 an.out ?_
     refine vG (i := 6) (N := none) #[true, true, true, true, true, true, true] rfl rfl (oS an.out (by kernel_rfl)) (by decide) (fun K hK => ?_)
     refine tt (w1 := ?_) (by rfl) rfl ?_ ?_
     rotate_left
     ·go_simp
      rfl
     refine hK.out _ _ ?_
     clear hK K
     refine dn an.out ?_
     have ra := ak (show bS W7 ga [.string a.f0, .string a.f1] 81 from (show bS W4.drew ga _ _ from nS.out).grown cz (fun e => HGA.out (Option.some.inj e).symm))
     have Ct := ak PO
     have wm := ak ((show Below gm W1 W4.drew from dq Fs.out).grown cz HGS.out (fun q hq => by cases hq; exact Nat.le_refl _))
     have fU := ak (show gm ≤ W7.heap.size from Nat.le_trans HGS.out cz.size)
     clear PO cz BQ BL U8 zD nS AF Fs hHeld
     have vM := ra.out.cell 0 _ rfl
     have xK := ra.out.cell 1 _ rfl
     cases hmy : gE a with
     | false =>
      have HV := ak (HBAD.out (.inl hmy))
      have HMY := ak hmy
      clear hmy
      go_wp2_with (go_at_call 119; refine (uP a _).mono ?_; rintro e W8 ⟨rfl, hO⟩; rw [HMY.out])
      go_ret
      exact ⟨by rw [HV.out]; rfl, cP.out.trans ((wm.out.trans (hO.mono fU.out)).mono fw.out)⟩
     | true =>
      have HMY := ak hmy
      clear hmy
      rcases AD.out with ⟨mo, nH⟩ | ⟨mo, nH⟩
      ·have HV := ak (HBAD.out (.inr nH))
       have n9 := ak (show wrap64 ((n : Int) + 1) = 2 by rw [mo]; unfold wrap64; omega)
       clear mo nH
       go_wp2_with (first | (go_at_call 119; refine (uP a _).mono ?_; rintro e W8 ⟨rfl, hO⟩; rw [HMY.out]; have ur := ak (wm.out.trans (hO.mono fU.out)); have Qt := (ra.out.below hO).cell 0 _ rfl; have Qs := (ra.out.below hO).cell 1 _ rfl; have nP := ak (show lz W8 gm _ from (hO.block gm (Array.getElem?_eq_some_iff.1 Ct.out).1).trans Ct.out); have hlk := uE _ _ _ nP.out a; rw [xB, n9.out] at hlk; simp only [jl] at hlk; clear hO ra Ct wm vM xK))
       go_ret
       exact ⟨by rw [HV.out]; rfl, cP.out.trans (ur.out.mono fw.out)⟩
      ·have n9 := ak (show wrap64 ((n : Int) + 1) = 1 by rw [mo]; unfold wrap64; omega)
       have Qg := ak (ph.out HMY.out nH)
       have HPU := ak (show putAt (jd (b.attrs.take k)) a (wrap64 ((n : Int) + 1)) = jd (b.attrs.take (k + 1)) by rw [n9.out, FE _ _ nH, HK.out])
       clear mo nH
       go_wp2_with (first | (go_at_call 119; refine (uP a _).mono ?_; rintro e W8 ⟨rfl, hO⟩; rw [HMY.out]; have ur := ak (wm.out.trans (hO.mono fU.out)); have Qt := (ra.out.below hO).cell 0 _ rfl; have Qs := (ra.out.below hO).cell 1 _ rfl; have nP := ak (show lz W8 gm _ from (hO.block gm (Array.getElem?_eq_some_iff.1 Ct.out).1).trans Ct.out); have hlk := uE _ _ _ nP.out a; rw [xB, n9.out] at hlk; simp only [jl] at hlk; clear hO ra Ct wm vM xK))
       rw [HPU.out] at nP
       go_roundw
       case rel => exact ⟨k + 1, by omega, by go_num, nP, ur, Qg⟩
       case measure => simp [intOf]; omega
    ·obtain rfl : k = b.attrs.length := by omega
     have hkb : decide ((b.attrs.length : Int) < (b.attrs.length : Int)) = false := by simp
     have HAA := ak (show (List.range b.attrs.length).all (fun j => gE (ll b.attrs j) && !((b.attrs.take j).any (sameAt (ll b.attrs j)))) = true by
      rw [List.all_eq_true]
      intro j hj
      obtain ⟨h1, h2⟩ := HJ.out j (by simpa using hj)
      rw [h1, h2]
      rfl)
     have HV := ak (show jQ b = decide ((gG (ix b.slots)).length = b.attrs.length) by
      unfold jQ
      rw [HA.out, HAA.out, Bool.true_and, Bool.true_and])
     have HXW := ak (fv.out.below (by rw [HGE.out]; exact HZ.out))
     have EY := HXW.out.cell 67 _ (pd _ _ _ _ _ HL.out)
     rw [HT.out]
     go_wp2_with fail
     refine ee (n := 7) (S := fun w' => w'.cell? ⟨g, 67, none⟩ = some (Value.slice A' b.attrs.length c')) (ds := []) #[false, false, false, false, false, false, false] (by kernel_rfl) rfl rfl EY (fun hHeld => ?_); refine cV my.tab17 my.bits17 (fun an cj => ?_)
     refine pu 0 an.out ?_
     refine pu 2 an.out ?_
     refine tk 3 an.out cj.out hHeld ?_
     refine pu 4 an.out ?_
     refine on 1 an.out (fun K hK => ?_)
     refine gs Tryz.func120 #[.int .u64 ((ix b.slots : Nat) : Int)] (Jr (ix b.slots) (qB _) _) ?_
     rintro e W9 ⟨rfl, ⟨XT, rfl⟩⟩
     refine ⟨_, rfl, ?_⟩
     refine kn hK hHeld (fun hHeld => ?_)
     clear hK K
     refine pu 5 an.out ?_
     refine pu 6 an.out ?_
     refine dn an.out ?_
     try go_wp2
     go_ret
     refine ⟨?_, by apply J; exact ab (cP.out.trans (HZ.out.mono fw.out))⟩
     rw [HV.out]
     show Ending.returned (Value.bool ((((gG (ix b.slots)).length : Nat) : Int) == ((b.attrs.length : Nat) : Int))) = _
     congr 2
     rw [Bool.eq_iff_iff, beq_iff_eq, decide_eq_true_eq]
     exact Int.ofNat_inj
end Go.Proofs.YtndddnglapkplaaGreatDoor.V
end

section
namespace Go.Proofs.YtndddnglapkplaaGreatDoor.V
attribute [local go_sem] bI bG bP bO bw bu bH bF
def fC.f (a0 : Int) : Option (Int) := some ((IntKind.u64.wrap (4294967296 - (IntKind.u64.wrap (2 ^ (32 - (mn (mx a0 0) 32)).toNat)))) % 4294967296)
set_option maxHeartbeats 8000000 in
set_option maxRecDepth 100000 in
theorem fC.calls (a0 : Int) (r : Int) (w : World) (h : fC.f a0 = some r) :
  Calls Tryz.prog 74 #[.int .i64 a0] w fun e w' => e = .returned (.int .u32 r) ∧ Below w.heap.size w w' := by
 have HB := ak (Below.refl w.heap.size w)
 have H : (some ((IntKind.u64.wrap (4294967296 - (IntKind.u64.wrap (2 ^ (32 - (mn (mx a0 0) 32)).toNat)))) % 4294967296)) = some r := h
 clear h
 obtain ⟨y9, zh⟩ : ∃ j_ : Int, (mx a0 0) = j_ := ⟨_, rfl⟩
 replace H : (some ((IntKind.u64.wrap (4294967296 - (IntKind.u64.wrap (2 ^ (32 - (mn (y9) 32)).toNat)))) % 4294967296)) = some r := by first | (rw [zh] at H; exact H) | (simp only [zh] at H ⊢; exact H)
 (try (have WR : 0 ≤ y9 := by (rw [← zh]; unfold mx; (repeat' split) <;> omega)))
 (try (have WQ : 0 ≤ y9 := by omega))
 have WS : (if a0 < 0 then 0 else a0) = y9 := zh
 obtain ⟨xG, qe⟩ : ∃ j_ : Int, (mn (y9) 32) = j_ := ⟨_, rfl⟩
 replace H : (some ((IntKind.u64.wrap (4294967296 - (IntKind.u64.wrap (2 ^ (32 - (xG)).toNat)))) % 4294967296)) = some r := by first | (rw [qe] at H; exact H) | (simp only [qe] at H ⊢; exact H)
 have Ir : (if 32 < (y9) then 32 else (y9)) = xG := qe
 obtain rfl := Option.some.inj H
 go_enter Tryz.func74, Tryz.ntmps74
 go_wp2
 go_ret
 exact ⟨by first | rfl | (simp [aq, ao] <;> rfl) | (simp only [← zh, ← qe]; first | rfl | (simp [aq, ao] <;> rfl)) | (simp [*, aq, ao] <;> rfl), by repeat (first | (with_reducible first | exact HB.out | apply aa | apply J | apply ab) | exact HB.out)⟩
end Go.Proofs.YtndddnglapkplaaGreatDoor.V
end

section
namespace Go.Proofs.YtndddnglapkplaaGreatDoor.V
attribute [local go_sem] bI bG bP bO bw bu bH bF
def fW.f (a0 : Int) : Option (Int) := (fC.f 26).bind fun oz => (some (Go.bits .and .u32 a0 oz))
set_option maxHeartbeats 8000000 in
set_option maxRecDepth 100000 in
theorem fW.calls (a0 : Int) (r : Int) (w : World) (h : fW.f a0 = some r) :
  Calls Tryz.prog 106 #[.int .u32 a0] w fun e w' => e = .returned (.int .u32 r) ∧ Below w.heap.size w w' := by
 have HB := ak (Below.refl w.heap.size w)
 have H : ((fC.f 26).bind fun oz => (some (Go.bits .and .u32 a0 oz))) = some r := h
 clear h
 replace H := Option.bind_eq_some_iff.mp H
 obtain ⟨oz, ek, H⟩ := H
 replace H : (some (Go.bits .and .u32 a0 oz)) = some r := H
 have A2 := ak ek
 clear ek
 obtain rfl := Option.some.inj H
 go_enter Tryz.func106, Tryz.ntmps106
 go_wp2_with (first | ((with_reducible refine aD (f := 74) rfl ?_); refine bg (some 4) rfl rfl Tryz.func74 (by kernel_rfl) rfl #[.int .i64 26] rfl (by (try simp only [List.map_toArray, List.map_cons, List.map_nil]); first | done | rfl | (simp only [List.length_drop, List.length_take]; rfl)) ?_; (with_reducible refine (fC.calls 26 oz _ A2.out).mono ?_); rintro e w3 ⟨rfl, hb⟩; refine ⟨_, rfl, ?_⟩; have av := ak (au (by repeat (first | (with_reducible first | exact HB.out | apply aa | apply J | apply ab) | exact HB.out)) hb); clear HB; have HB := av; clear av; (try clear hb); (try clear bC); (try clear hk); (try clear hi)))
 go_ret
 exact ⟨by first | rfl | (simp [aq, ao] <;> rfl) | (simp [*, aq, ao] <;> rfl), by repeat (first | (with_reducible first | exact HB.out | apply aa | apply J | apply ab) | exact HB.out)⟩
end Go.Proofs.YtndddnglapkplaaGreatDoor.V
end

section
namespace Go.Proofs.YtndddnglapkplaaGreatDoor.V
attribute [local go_sem] bI bG bP bO bw bu bH bF
def iD.f (a0 : ByteArray) : Option (Bool) := if a0.toList = ([] : List UInt8) then (some true) else ((bT.f a0).bind fun oy => (some oy))
set_option maxHeartbeats 8000000 in
set_option maxRecDepth 100000 in
theorem iD.calls (a0 : ByteArray) (r : Bool) (w : World) (h : iD.f a0 = some r) :
  Calls Tryz.prog 107 #[.string a0] w fun e w' => e = .returned (.bool r) ∧ Below w.heap.size w w' := by
 have HB := ak (Below.refl w.heap.size w)
 have H : (if a0.toList = ([] : List UInt8) then (some true) else ((bT.f a0).bind fun oy => (some oy))) = some r := h
 clear h
 by_cases c2 : a0.toList = ([] : List UInt8)
 ·rw [if_pos c2] at H
  have gY : (a0.toList == ([] : List UInt8)) = true := beq_iff_eq.mpr c2
  have sV : (a0.toList != ([] : List UInt8)) = false := bne_eq_false_iff_eq.mpr c2
  clear c2
  obtain rfl := Option.some.inj H
  go_enter Tryz.func107, Tryz.ntmps107
  go_wp2
  go_ret
  exact ⟨by first | rfl | (simp [aq, ao] <;> rfl) | (simp [*, aq, ao] <;> rfl), by repeat (first | (with_reducible first | exact HB.out | apply aa | apply J | apply ab) | exact HB.out)⟩
 ·rw [if_neg c2] at H
  have gY : (a0.toList == ([] : List UInt8)) = false := beq_eq_false_iff_ne.mpr c2
  have sV : (a0.toList != ([] : List UInt8)) = true := bne_iff_ne.mpr c2
  replace H := Option.bind_eq_some_iff.mp H
  obtain ⟨oy, hG, H⟩ := H
  replace H : (some oy) = some r := H
  have A3 := ak hG
  clear hG
  obtain rfl := Option.some.inj H
  go_enter Tryz.func107, Tryz.ntmps107
  go_wp2_with (first | (go_at_call 92; (with_reducible refine (bT.calls a0 oy _ A3.out).mono ?_); rintro e w4 ⟨rfl, hb⟩; have av := ak (au (by repeat (first | (with_reducible first | exact HB.out | apply aa | apply J | apply ab) | exact HB.out)) hb); clear HB; have HB := av; clear av; (try clear hb); (try clear bC); (try clear hk); (try clear hi)))
  go_ret
  exact ⟨by first | rfl | (simp [aq, ao] <;> rfl) | (simp [*, aq, ao] <;> rfl), by repeat (first | (with_reducible first | exact HB.out | apply aa | apply J | apply ab) | exact HB.out)⟩
end Go.Proofs.YtndddnglapkplaaGreatDoor.V
end

section
namespace Go.Proofs.YtndddnglapkplaaGreatDoor.V
structure BkOk (b : Bk) : Prop where
 a0 : 0 ≤ b.addr
 a1 : b.addr < 4294967296
 s8 : dK b.slots
 f8 : dK b.free
def nK (a : Int) : Int := a - a % 64
theorem GN (n : Nat) : n &&& 4294967232 = n % 4294967296 - n % 64 := by
 have h1 : n &&& 4294967232 = (n % 4294967296) &&& 4294967232 := by
  apply Nat.eq_of_testBit_eq
  intro i
  rw [Nat.testBit_and, Nat.testBit_and, show (4294967296 : Nat) = 2 ^ 32 from rfl, Nat.testBit_mod_two_pow]
  by_cases h : i < 32
  ·simp [h]
  ·have : (4294967232 : Nat).testBit i = false := Nat.testBit_lt_two_pow (Nat.lt_of_lt_of_le (show (4294967232 : Nat) < 2 ^ 32 by decide) (Nat.pow_le_pow_right (by omega) (by omega)))
   rw [this]
   simp
 have h2 : (n % 4294967296) &&& 4294967232 = (n % 4294967296) / 64 * 64 := by
  apply Nat.eq_of_testBit_eq
  intro i
  rw [Nat.testBit_and, show (64 : Nat) = 2 ^ 6 from rfl, Nat.testBit_mul_two_pow, Nat.testBit_div_two_pow]
  rw [show (4294967232 : Nat) = 67108863 * 2 ^ 6 from rfl, Nat.testBit_mul_two_pow, show (67108863 : Nat) = 2 ^ 26 - 1 from rfl, Nat.testBit_two_pow_sub_one]
  by_cases h6 : 6 ≤ i
  ·by_cases X2 : i < 32
   ·have e : 6 + (i - 6) = i := by omega
    simp [h6, show i - 6 < 26 by omega, e]
   ·have : (n % 4294967296).testBit i = false := Nat.testBit_lt_two_pow (Nat.lt_of_lt_of_le (Nat.mod_lt _ (by decide)) (Nat.pow_le_pow_right (n := 2) (by omega) (show 32 ≤ i by omega)))
    simp [this, h6, show ¬ (i - 6 < 26) by omega]
  ·simp [h6]
 rw [h1, h2]
 omega
theorem BS (a : Int) (h0 : 0 ≤ a) (h1 : a < 4294967296) : fW.f a = some (nK a) := by
 obtain ⟨n, rfl⟩ : ∃ n : Nat, a = (n : Int) := ⟨a.toNat, by omega⟩
 unfold fW.f nK
 rw [show fC.f 26 = some ((4294967232 : Nat) : Int) from rfl, Option.bind_some]
 congr 1
 rw [u32_and_nat n 4294967232 (by omega) (by omega), GN]
 omega
def ko (s : ByteArray) : Bool := decide (s.toList = []) || dE s
theorem Jm (s : ByteArray) : iD.f s = some (ko s) := by
 unfold iD.f bT.f ko
 by_cases h : s.toList = []
 ·rw [if_pos h]; simp [h]
 ·rw [if_neg h]; simp [h]
def eZ (b : Bk) : Bool := (nK b.addr == b.addr) && (ko b.aff && (decide (b.attrs.length ≤ 64) && (jQ b && jI b)))
def gA.T1 : Bool × List (List Nat × List Nat) := (true, [([], []), ([0], [0]), ([1], [1]), ([], []), ([3], [3]), ([2, 4], [2, 4]), ([5, 2], [5]), ([6], [6]), ([7, 6], [6, 7]), ([8, 6, 6], [6, 8]), ([6, 9], [6, 9]), ([10, 9], [10]), ([11], [11]), ([12, 11], [11, 12]), ([13, 11], [11, 13]), ([14, 11], [11, 14]), ([11, 15], [11, 15]), ([16, 11], [16]), ([17], [17]), ([18, 17, 17], [17, 18]), ([17, 19], [17, 19]), ([20, 19], [20]), ([21], [21]), ([22, 21, 21], [21, 22]), ([21, 23], [21, 23]), ([24, 23, 0, 1, 2, 3, 4, 5, 6, 7, 8, 9, 10, 11, 12, 13, 14, 15, 16, 17, 18, 19, 20, 21, 22, 23, 24], [24])])
def gA.B1 : List Nat := [0, 1, 3, 0, 8, 31, 63, 127, 255, 511, 1023, 2047, 4095, 8191, 16383, 32767, 65535, 131071, 262143, 524287, 1048575, 2097151, 4194303, 8388607, 16777215, 33554431]
theorem gA.tab1 : dS .any (opsOf Tryz.f76 1) = gA.T1 := by kernel_rfl
theorem gA.bits1 : ew gA.T1.2 gA.B1 = true := by kernel_rfl
set_option maxHeartbeats 8000000 in
set_option maxRecDepth 100000 in
theorem vz (b : Bk) (hk : BkOk b) (v : Value) (w : World) (h : rh w v b) :
  Calls Tryz.prog 76 #[v] w fun e w' => e = .returned (.bool (eZ b)) ∧ Below w.heap.size w w' := by
 obtain ⟨A, c, A', c', rfl, hr⟩ := h
 have HL := ak hr.l64
 have HR := ak hr
 have HS := ak hk.s8
 have HF := ak hk.f8
 have tj := ak (BS b.addr hk.a0 hk.a1)
 have uy := ak (Jm b.aff)
 have HLL := ak (show (Tryz.prog.info? 64).map (·.size) = some (en b.addr b.aff b.slots (.slice A b.free.length c) (.slice A' b.attrs.length c')).length by rw [fl _ _ _ _ _ hr.l64]; kernel_rfl)
 clear hr hk
 go_enter Tryz.func76, Tryz.ntmps76
 go_wp2_with (refine fL rfl 64 (.tmp 0) rfl _ rfl ?_; intro g W1 hg hbx aW; have HX := ak (show bS W1.drew g _ _ from hbx); have HB := ak (dq aW); have kx := ak ((HR.out.below aW).below (dq (Below.refl W1.heap.size W1))); have HZ := ak (Below.refl W1.drew.heap.size W1.drew); clear hbx aW hg HR)
 cases h1 : (nK b.addr == b.addr) with
 | false =>
  have HV := ak (show eZ b = false by unfold eZ; rw [h1]; rfl)
  refine ee (n := 26) (S := fun w' => bS w' g (en b.addr b.aff b.slots (.slice A b.free.length c) (.slice A' b.attrs.length c')) 64) (ds := []) #[false, false, false, false, false, false, false, false, false, false, false, false, false, false, false, false, false, false, false, false, false, false, false, false, false, false] (by kernel_rfl) rfl rfl HX.out (fun hHeld => ?_); refine cV gA.tab1 gA.bits1 (fun an cj => ?_)
  refine pu 0 an.out ?_
  refine tk 1 an.out cj.out hHeld ?_ (hv := by intro w' dg; have s0 := dg.cell 0 _ rfl; go_simp; with_reducible rfl)
  refine pu 3 an.out ?_
  refine tk 4 an.out cj.out hHeld ?_ (hv := by intro w' dg; have s0 := dg.cell 0 _ rfl; go_simp; with_reducible rfl)
  refine on 2 an.out (fun K hK => ?_)
  refine gs Tryz.func106 #[.int .u32 b.addr] (fW.calls _ _ _ tj.out) ?_
  rintro e V2 ⟨rfl, hb⟩
  refine ⟨_, rfl, ?_⟩
  have HXn := hHeld.below hb; have HZn := ak (au HZ.out hb); clear HZ; have HZ := HZn; clear HZn hb
  refine kn hK HXn (fun hHeld => ?_)
  clear hK K
  refine pu 5 an.out ?_
  refine pu 6 an.out ?_
  refine po 7 an.out ?_
  refine po 8 an.out ?_
  refine po 9 an.out ?_
  refine pu 10 an.out ?_
  refine pu 11 an.out ?_
  refine po 12 an.out ?_
  refine po 13 an.out ?_
  refine po 14 an.out ?_
  refine po 15 an.out ?_
  refine pu 16 an.out ?_
  refine pu 17 an.out ?_
  refine po 18 an.out ?_
  refine po 19 an.out ?_
  refine pu 20 an.out ?_
  refine pu 21 an.out ?_
  refine po 22 an.out ?_
  refine po 23 an.out ?_
  refine pu 24 an.out ?_
  refine pu 25 an.out ?_
  refine dn an.out ?_
  try go_wp2
  go_ret
  refine ⟨?_, HB.out.trans (HZ.out.mono HB.out.size)⟩
  rw [HV.out]; rfl
 | true =>
  cases h2 : ko b.aff with
  | false =>
   have HV := ak (show eZ b = false by unfold eZ; rw [h1, h2]; rfl)
   rw [h2] at uy
   refine ee (n := 26) (S := fun w' => bS w' g (en b.addr b.aff b.slots (.slice A b.free.length c) (.slice A' b.attrs.length c')) 64) (ds := []) #[false, false, false, false, false, false, false, false, false, false, false, false, false, false, false, false, false, false, false, false, false, false, false, false, false, false] (by kernel_rfl) rfl rfl HX.out (fun hHeld => ?_); refine cV gA.tab1 gA.bits1 (fun an cj => ?_)
   refine pu 0 an.out ?_
   refine tk 1 an.out cj.out hHeld ?_ (hv := by intro w' dg; have s0 := dg.cell 0 _ rfl; go_simp; with_reducible rfl)
   refine pu 3 an.out ?_
   refine tk 4 an.out cj.out hHeld ?_ (hv := by intro w' dg; have s0 := dg.cell 0 _ rfl; go_simp; with_reducible rfl)
   refine on 2 an.out (fun K hK => ?_)
   refine gs Tryz.func106 #[.int .u32 b.addr] (fW.calls _ _ _ tj.out) ?_
   rintro e V2 ⟨rfl, hb⟩
   refine ⟨_, rfl, ?_⟩
   have HXn := hHeld.below hb; have HZn := ak (au HZ.out hb); clear HZ; have HZ := HZn; clear HZn hb
   refine kn hK HXn (fun hHeld => ?_)
   clear hK K
   refine pu 5 an.out ?_
   refine pu 6 an.out ?_
   refine pu 7 an.out ?_
   refine tk 8 an.out cj.out hHeld ?_ (hv := by intro w' dg; have s0 := dg.cell 1 _ rfl; go_simp; with_reducible rfl)
   refine on 9 an.out (fun K hK => ?_)
   refine gs Tryz.func107 #[.string b.aff] (iD.calls _ _ _ uy.out) ?_
   rintro e V9 ⟨rfl, hb⟩
   refine ⟨_, rfl, ?_⟩
   have HXn := hHeld.below hb; have HZn := ak (au HZ.out hb); clear HZ; have HZ := HZn; clear HZn hb
   refine kn hK HXn (fun hHeld => ?_)
   clear hK K
   refine pu 10 an.out ?_
   refine pu 11 an.out ?_
   refine po 12 an.out ?_
   refine po 13 an.out ?_
   refine po 14 an.out ?_
   refine po 15 an.out ?_
   refine pu 16 an.out ?_
   refine pu 17 an.out ?_
   refine po 18 an.out ?_
   refine po 19 an.out ?_
   refine pu 20 an.out ?_
   refine pu 21 an.out ?_
   refine po 22 an.out ?_
   refine po 23 an.out ?_
   refine pu 24 an.out ?_
   refine pu 25 an.out ?_
   refine dn an.out ?_
   try go_wp2
   go_ret
   refine ⟨?_, HB.out.trans (HZ.out.mono HB.out.size)⟩
   rw [HV.out]; rfl
  | true =>
   rw [h2] at uy
   by_cases h3 : b.attrs.length ≤ 64
   ·have Vs : decide ((b.attrs.length : Int) ≤ 64) = true := by simp; omega
    have HN := ak h3
    cases h4 : jQ b with
    | false =>
     have HV := ak (show eZ b = false by unfold eZ; rw [h1, h2, h4]; simp)
     have nS := ak h4
     refine ee (n := 26) (S := fun w' => bS w' g (en b.addr b.aff b.slots (.slice A b.free.length c) (.slice A' b.attrs.length c')) 64) (ds := []) #[false, false, false, false, false, false, false, false, false, false, false, false, false, false, false, false, false, false, false, false, false, false, false, false, false, false] (by kernel_rfl) rfl rfl HX.out (fun hHeld => ?_); refine cV gA.tab1 gA.bits1 (fun an cj => ?_)
     refine pu 0 an.out ?_
     refine tk 1 an.out cj.out hHeld ?_ (hv := by intro w' dg; have s0 := dg.cell 0 _ rfl; go_simp; with_reducible rfl)
     refine pu 3 an.out ?_
     refine tk 4 an.out cj.out hHeld ?_ (hv := by intro w' dg; have s0 := dg.cell 0 _ rfl; go_simp; with_reducible rfl)
     refine on 2 an.out (fun K hK => ?_)
     refine gs Tryz.func106 #[.int .u32 b.addr] (fW.calls _ _ _ tj.out) ?_
     rintro e V2 ⟨rfl, hb⟩
     refine ⟨_, rfl, ?_⟩
     have HXn := hHeld.below hb; have HZn := ak (au HZ.out hb); clear HZ; have HZ := HZn; clear HZn hb
     refine kn hK HXn (fun hHeld => ?_)
     clear hK K
     refine pu 5 an.out ?_
     refine pu 6 an.out ?_
     refine pu 7 an.out ?_
     refine tk 8 an.out cj.out hHeld ?_ (hv := by intro w' dg; have s0 := dg.cell 1 _ rfl; go_simp; with_reducible rfl)
     refine on 9 an.out (fun K hK => ?_)
     refine gs Tryz.func107 #[.string b.aff] (iD.calls _ _ _ uy.out) ?_
     rintro e V9 ⟨rfl, hb⟩
     refine ⟨_, rfl, ?_⟩
     have HXn := hHeld.below hb; have HZn := ak (au HZ.out hb); clear HZ; have HZ := HZn; clear HZn hb
     refine kn hK HXn (fun hHeld => ?_)
     clear hK K
     refine pu 10 an.out ?_
     refine pu 11 an.out ?_
     refine pu 12 an.out ?_
     refine tk 13 an.out cj.out hHeld ?_ (hv := by intro w' dg; have s0 := dg.cell 67 _ (pd _ _ _ _ _ HL.out); go_simp; with_reducible rfl)
     refine pu 14 an.out ?_
     refine pu 15 an.out ?_
     refine pu 16 an.out ?_
     refine pu 17 an.out ?_
     refine tk 18 an.out cj.out hHeld ?_ (hv := by exact fun _ dg => kQ 64 (.tmp 1) rfl g rfl _ _ _ dg Tryz.underlying64 rfl HLL.out)
     refine on 19 an.out (fun K hK => ?_)
     refine gs Tryz.func108 #[.agg (en b.addr b.aff b.slots (.slice A b.free.length c) (.slice A' b.attrs.length c')).toArray] (xT b HS.out HN.out _ _ ⟨A, c, A', c', rfl, kx.out.below HZ.out⟩) ?_
     rintro e VE ⟨rfl, hb⟩
     refine ⟨_, rfl, ?_⟩
     have HXn := hHeld.below hb; rw [nS.out]; have HZn := ak (au HZ.out hb); clear HZ; have HZ := HZn; clear HZn hb
     refine kn hK HXn (fun hHeld => ?_)
     clear hK K
     refine pu 20 an.out ?_
     refine pu 21 an.out ?_
     refine po 22 an.out ?_
     refine po 23 an.out ?_
     refine pu 24 an.out ?_
     refine pu 25 an.out ?_
     refine dn an.out ?_
     try go_wp2
     go_ret
     refine ⟨?_, HB.out.trans (HZ.out.mono HB.out.size)⟩
     rw [HV.out]; rfl
    | true =>
     have HV := ak (show eZ b = jI b by unfold eZ; rw [h1, h2, h4, decide_eq_true h3]; rfl)
     have nS := ak h4
     refine ee (n := 26) (S := fun w' => bS w' g (en b.addr b.aff b.slots (.slice A b.free.length c) (.slice A' b.attrs.length c')) 64) (ds := []) #[false, false, false, false, false, false, false, false, false, false, false, false, false, false, false, false, false, false, false, false, false, false, false, false, false, false] (by kernel_rfl) rfl rfl HX.out (fun hHeld => ?_); refine cV gA.tab1 gA.bits1 (fun an cj => ?_)
     refine pu 0 an.out ?_
     refine tk 1 an.out cj.out hHeld ?_ (hv := by intro w' dg; have s0 := dg.cell 0 _ rfl; go_simp; with_reducible rfl)
     refine pu 3 an.out ?_
     refine tk 4 an.out cj.out hHeld ?_ (hv := by intro w' dg; have s0 := dg.cell 0 _ rfl; go_simp; with_reducible rfl)
     refine on 2 an.out (fun K hK => ?_)
     refine gs Tryz.func106 #[.int .u32 b.addr] (fW.calls _ _ _ tj.out) ?_
     rintro e V2 ⟨rfl, hb⟩
     refine ⟨_, rfl, ?_⟩
     have HXn := hHeld.below hb; have HZn := ak (au HZ.out hb); clear HZ; have HZ := HZn; clear HZn hb
     refine kn hK HXn (fun hHeld => ?_)
     clear hK K
     refine pu 5 an.out ?_
     refine pu 6 an.out ?_
     refine pu 7 an.out ?_
     refine tk 8 an.out cj.out hHeld ?_ (hv := by intro w' dg; have s0 := dg.cell 1 _ rfl; go_simp; with_reducible rfl)
     refine on 9 an.out (fun K hK => ?_)
     refine gs Tryz.func107 #[.string b.aff] (iD.calls _ _ _ uy.out) ?_
     rintro e V9 ⟨rfl, hb⟩
     refine ⟨_, rfl, ?_⟩
     have HXn := hHeld.below hb; have HZn := ak (au HZ.out hb); clear HZ; have HZ := HZn; clear HZn hb
     refine kn hK HXn (fun hHeld => ?_)
     clear hK K
     refine pu 10 an.out ?_
     refine pu 11 an.out ?_
     refine pu 12 an.out ?_
     refine tk 13 an.out cj.out hHeld ?_ (hv := by intro w' dg; have s0 := dg.cell 67 _ (pd _ _ _ _ _ HL.out); go_simp; with_reducible rfl)
     refine pu 14 an.out ?_
     refine pu 15 an.out ?_
     refine pu 16 an.out ?_
     refine pu 17 an.out ?_
     refine tk 18 an.out cj.out hHeld ?_ (hv := by exact fun _ dg => kQ 64 (.tmp 1) rfl g rfl _ _ _ dg Tryz.underlying64 rfl HLL.out)
     refine on 19 an.out (fun K hK => ?_)
     refine gs Tryz.func108 #[.agg (en b.addr b.aff b.slots (.slice A b.free.length c) (.slice A' b.attrs.length c')).toArray] (xT b HS.out HN.out _ _ ⟨A, c, A', c', rfl, kx.out.below HZ.out⟩) ?_
     rintro e VE ⟨rfl, hb⟩
     refine ⟨_, rfl, ?_⟩
     have HXn := hHeld.below hb; rw [nS.out]; have HZn := ak (au HZ.out hb); clear HZ; have HZ := HZn; clear HZn hb
     refine kn hK HXn (fun hHeld => ?_)
     clear hK K
     refine pu 20 an.out ?_
     refine pu 21 an.out ?_
     refine tk 22 an.out cj.out hHeld ?_ (hv := by exact fun _ dg => kQ 64 (.tmp 1) rfl g rfl _ _ _ dg Tryz.underlying64 rfl HLL.out)
     refine on 23 an.out (fun K hK => ?_)
     refine gs Tryz.func109 #[.agg (en b.addr b.aff b.slots (.slice A b.free.length c) (.slice A' b.attrs.length c')).toArray] (Gw b HF.out HS.out _ _ ⟨A, c, A', c', rfl, kx.out.below HZ.out⟩) ?_
     rintro e X8 ⟨rfl, hb⟩
     refine ⟨_, rfl, ?_⟩
     have HXn := hHeld.below hb; have HZn := ak (au HZ.out hb); clear HZ; have HZ := HZn; clear HZn hb
     refine kn hK HXn (fun hHeld => ?_)
     clear hK K
     refine pu 24 an.out ?_
     refine pu 25 an.out ?_
     refine dn an.out ?_
     try go_wp2
     go_ret
     refine ⟨?_, HB.out.trans (HZ.out.mono HB.out.size)⟩
     rw [HV.out]; rfl
   ·have Vs : decide ((b.attrs.length : Int) ≤ 64) = false := by simp; omega
    have HV := ak (show eZ b = false by unfold eZ; rw [h1, h2, decide_eq_false h3]; rfl)
    refine ee (n := 26) (S := fun w' => bS w' g (en b.addr b.aff b.slots (.slice A b.free.length c) (.slice A' b.attrs.length c')) 64) (ds := []) #[false, false, false, false, false, false, false, false, false, false, false, false, false, false, false, false, false, false, false, false, false, false, false, false, false, false] (by kernel_rfl) rfl rfl HX.out (fun hHeld => ?_); refine cV gA.tab1 gA.bits1 (fun an cj => ?_)
    refine pu 0 an.out ?_
    refine tk 1 an.out cj.out hHeld ?_ (hv := by intro w' dg; have s0 := dg.cell 0 _ rfl; go_simp; with_reducible rfl)
    refine pu 3 an.out ?_
    refine tk 4 an.out cj.out hHeld ?_ (hv := by intro w' dg; have s0 := dg.cell 0 _ rfl; go_simp; with_reducible rfl)
    refine on 2 an.out (fun K hK => ?_)
    refine gs Tryz.func106 #[.int .u32 b.addr] (fW.calls _ _ _ tj.out) ?_
    rintro e V2 ⟨rfl, hb⟩
    refine ⟨_, rfl, ?_⟩
    have HXn := hHeld.below hb; have HZn := ak (au HZ.out hb); clear HZ; have HZ := HZn; clear HZn hb
    refine kn hK HXn (fun hHeld => ?_)
    clear hK K
    refine pu 5 an.out ?_
    refine pu 6 an.out ?_
    refine pu 7 an.out ?_
    refine tk 8 an.out cj.out hHeld ?_ (hv := by intro w' dg; have s0 := dg.cell 1 _ rfl; go_simp; with_reducible rfl)
    refine on 9 an.out (fun K hK => ?_)
    refine gs Tryz.func107 #[.string b.aff] (iD.calls _ _ _ uy.out) ?_
    rintro e V9 ⟨rfl, hb⟩
    refine ⟨_, rfl, ?_⟩
    have HXn := hHeld.below hb; have HZn := ak (au HZ.out hb); clear HZ; have HZ := HZn; clear HZn hb
    refine kn hK HXn (fun hHeld => ?_)
    clear hK K
    refine pu 10 an.out ?_
    refine pu 11 an.out ?_
    refine pu 12 an.out ?_
    refine tk 13 an.out cj.out hHeld ?_ (hv := by intro w' dg; have s0 := dg.cell 67 _ (pd _ _ _ _ _ HL.out); go_simp; with_reducible rfl)
    refine pu 14 an.out ?_
    refine pu 15 an.out ?_
    refine pu 16 an.out ?_
    refine pu 17 an.out ?_
    refine po 18 an.out ?_
    refine po 19 an.out ?_
    refine pu 20 an.out ?_
    refine pu 21 an.out ?_
    refine po 22 an.out ?_
    refine po 23 an.out ?_
    refine pu 24 an.out ?_
    refine pu 25 an.out ?_
    refine dn an.out ?_
    try go_wp2
    go_ret
    refine ⟨?_, HB.out.trans (HZ.out.mono HB.out.size)⟩
    rw [HV.out]; rfl
end Go.Proofs.YtndddnglapkplaaGreatDoor.V
end

section
namespace Go.Proofs.YtndddnglapkplaaGreatDoor.V
theorem iU : (Tryz.prog.info? 5).map (fun i => (i.zero, i.size, i.bytes)) = some (some (.int .u8 0), 1, 1) := by kernel_rfl
theorem Jy : (Tryz.prog.info? 81).map (fun i => (i.zero, i.size, i.bytes)) = some (some (.agg #[.string ⟨#[]⟩, .string ⟨#[]⟩]), 2, 32) := by kernel_rfl
theorem DM {α : Type} {d : Kd α} {w : World} {xs : List α} (h : Kd.C d w none xs.length xs) : xs = [] := by
 rcases Nat.eq_zero_or_pos xs.length with h0 | h0
 ·exact List.eq_nil_of_length_eq_zero h0
 ·obtain ⟨ad, he, _⟩ := h.2.2 h0
  cases he
set_option maxHeartbeats 2000000 in
set_option maxRecDepth 100000 in
theorem Ko (xs : List Int) (A : Option Addr) (c : Nat) (w : World) (hr : Kd.C (Kd.int .u8) w A xs.length xs) (hc : xs.length ≤ c) (hl : xs.length ≤ 4294967296) :
  Calls Tryz.prog 113 #[.slice A xs.length c] w fun e w' => ∃ v, e = .returned v ∧ Kd.R (Kd.int .u8) 5 w' w.heap.size (fun _ => True) v xs ∧ Below w.heap.size w w' := by
 have XS : ∀ (w : World) (a : Option Addr) (n c n' c' : Nat), (binOp .eql 61 (.slice a n c) (.slice none n' c')).run Tryz.prog w = .ok (.bool a.isNone) w := fun w a n c n' c' => Lib.run_eql_slice_nil w _ _ a n c n' c' Tryz.underlying61
 cases A with
 | none =>
  obtain rfl := DM hr
  clear hr
  go_enter Tryz.func113, Tryz.ntmps113
  go_wp2
  go_ret
  exact ⟨_, rfl, Kd.R_nil _ _ _ _ _, Below.refl _ _⟩
 | some ad =>
  have HR := ak hr
  have HL := ak hl
  clear hr hl
  go_enter Tryz.func113, Tryz.ntmps113
  go_wp2_with (first
   | ((with_reducible refine aA (N := 5) rfl ?_); refine Kd.R_lit (Kd.int .u8) w.heap.size 5 (w0 := w) ?hg (N := 5) ?hd (xs := ([] : List Int)) (inner := []) (ok := fun _ => True) (okp := fun _ => True) ?hr ?hp (fun _ hk => hk) trivial (Below.refl _ _) (Nat.le_refl _) (by simp) ?_; (case hd => rfl); (case hg => rfl); (case hr => first | (go_simp; done) | (go_simp; rfl)); (case hp => exact (ct.none _ _)); intro v1 w1 fK aW dh mo; have nO := ak fK; have cP := ak aW; clear fK aW dh mo)
   | ((with_reducible refine ei (b := .append) (xs := #[.tmp 5, .tmp 6]) rfl ?_); at_builtin; refine Kd.R_append_rows (Kd.int .u8) (w0 := w) w.heap.size rfl (.tmp 5) (.tmp 6) 61 5 (.int .u8 0) 1 rfl Tryz.underlying61 iU rfl (by decide) (by omega) _ [] xs (some ad) xs.length c (fun _ => True) (fun _ => False) rfl rfl nO.out (Kd.C_below HR.out cP.out) (fun x cs h => h) (fun _ h => h.elim) (fun _ _ => trivial) cP.out cP.out.size (by have := HL.out; simp; omega) ?_; intro v2 w2 UO bC dH Xx))
  go_ret
  exact ⟨_, rfl, UO, bC⟩
end Go.Proofs.YtndddnglapkplaaGreatDoor.V
end

section
namespace Go.Proofs.YtndddnglapkplaaGreatDoor.V
theorem cR {α : Type} {d : Kd α} {e : Nat} {W W1 : World} {base g t : Nat} {ok : Nat → Prop} {v : Value} {xs : List α} {cs : List Value} (h : Kd.R d e W base ok v xs) (hb : bS W g cs t) (ht : ∀ q, q ∈ e :: d.E → q ≠ t) (hg : W.grownBy W1 (some g)) : Kd.R d e W1 base ok v xs :=
 Kd.R_mono (Kd.R_grown (Kd.R_types h hb ht) hg (fun k hk he => hk.2 (Option.some.inj he))) (fun _ hk => hk.1)
def yd (W : World) (base : Nat) (v : Value) (b : Bk) : Prop := b.slots.length = 64 ∧ ∃ vf va, v = .agg (en b.addr b.aff b.slots vf va).toArray ∧ Kd.R (Kd.int .u8) 5 W base (fun _ => True) vf b.free ∧ Kd.R vH 81 W base (fun _ => True) va b.attrs
theorem yd.toV {W : World} {base : Nat} {v : Value} {b : Bk} (h : yd W base v b) : rh W v b := by
 obtain ⟨hl, vf, va, rfl, hf, ha⟩ := h
 obtain ⟨A, c, rfl, h1, h2⟩ := Kd.R_reads hf
 obtain ⟨A', c', rfl, h3, h4⟩ := Kd.R_reads ha
 exact ⟨A, c, A', c', rfl, hl, h2, h1, h4, h3⟩
theorem yd.below {W W1 : World} {base : Nat} {v : Value} {b : Bk} (h : yd W base v b) (hb : Below W.heap.size W W1) : yd W1 base v b := by
 obtain ⟨hl, vf, va, rfl, hf, ha⟩ := h
 exact ⟨hl, vf, va, rfl, Kd.R_below hf hb, Kd.R_below ha hb⟩
def KK : Bk := ⟨0, ⟨#[]⟩, List.replicate 64 0, [], []⟩
def ju : List Value := en 0 ⟨#[]⟩ (List.replicate 64 0) (.slice none 0 0) (.slice none 0 0)
theorem uW (w : World) : (zeroValue 64).run Tryz.prog w = .ok (.agg ju.toArray) w := by kernel_rfl
theorem CB (W : World) (base : Nat) : yd W base (.agg ju.toArray) KK := ⟨rfl, _, _, rfl, Kd.R_nil _ _ _ _ _, Kd.R_nil _ _ _ _ _⟩
theorem vy (l : List Value) (h : l.length = 68) : (Tryz.prog.info? 64).map (·.size) = some l.length := by rw [h]; kernel_rfl
end Go.Proofs.YtndddnglapkplaaGreatDoor.V
end

