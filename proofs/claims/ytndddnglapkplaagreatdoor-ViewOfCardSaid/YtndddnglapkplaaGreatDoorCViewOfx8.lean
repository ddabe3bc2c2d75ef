/- The law ViewOf for every input: texts of ours, put together (part 9 of 17). No further condition. -/
import Derived.Test.YtndddnglapkplaaGreatDoorCViewOfx2
import Derived.Test.YtndddnglapkplaaGreatDoorCViewOfx5
import Derived.Test.YtndddnglapkplaaGreatDoorCViewOfx3
import Derived.Test.YtndddnglapkplaaGreatDoorCViewOfx7
import Derived.Test.YtndddnglapkplaaGreatDoorCViewOfx6
import Derived.Test.YtndddnglapkplaaGreatDoorCViewOfw0
import Derived.Outline
import Derived.Test.YtndddnglapkplaaGreatDoorCViewOfx4
import Derived.Lib.ConvBytes
import Derived.Lib.AtoiErrMem
import Derived.Laws.CopyRow
import Derived.Laws.IdiomCopy
set_option linter.unusedVariables false
set_option linter.unusedSimpArgs false
set_option linter.unusedSectionVars false
open Go.RowKit Go.Proofs.YtndddnglapkplaaGreatDoorW.PrintWords Go.Proofs.YtndddnglapkplaaGreatDoorW.PrintLast Go.Proofs.YtndddnglapkplaaGreatDoorW.PrintMore Go.Proofs.YtndddnglapkplaaGreatDoor.Z
namespace Go.Proofs.YtndddnglapkplaaGreatDoor.V
section
attribute [local go_sem] bq bn bI bH aW aV bp bj
def kz.f (k : Nat) (a0 : ByteArray) : Option (Int × Bool) := (strings_CutPrefix.f a0 (⟨#[98, 108, 111, 99, 107, 47]⟩ : ByteArray)).bind fun wN => ((dp.f k wN.1).bind fun pG => (if wN.2 = true then (if pG.2 = true then (some (pG.1, true)) else (some (0, false))) else (some (0, false))))
set_option maxHeartbeats 8000000 in
set_option maxRecDepth 100000 in
theorem kz.calls (k : Nat) (a0 : ByteArray) (r1 : Int) (r2 : Bool) (w : World) (h : kz.f k a0 = some (r1, r2)) :
  Calls Tryz.prog 54 #[.string a0] w fun e w' => e = .returned (.tuple #[.int .u32 r1, .bool r2]) ∧ Below w.heap.size w w' := by
 have HB := ak (Below.refl w.heap.size w)
 have H : ((strings_CutPrefix.f a0 (⟨#[98, 108, 111, 99, 107, 47]⟩ : ByteArray)).bind fun wN => ((dp.f k wN.1).bind fun pG => (if wN.2 = true then (if pG.2 = true then (some (pG.1, true)) else (some (0, false))) else (some (0, false))))) = some (r1, r2) := h
 clear h
 replace H := Option.bind_eq_some_iff.mp H
 obtain ⟨⟨oe, EA⟩, eS, H⟩ := H
 replace H : ((dp.f k oe).bind fun pG => (if EA = true then (if pG.2 = true then (some (pG.1, true)) else (some (0, false))) else (some (0, false)))) = some (r1, r2) := H
 have A2 := ak eS
 clear eS
 replace H := Option.bind_eq_some_iff.mp H
 obtain ⟨⟨vO, AS⟩, jO, H⟩ := H
 replace H : (if EA = true then (if AS = true then (some (vO, true)) else (some (0, false))) else (some (0, false))) = some (r1, r2) := H
 have A3 := ak jO
 clear jO
 by_cases c4 : EA = true
 ·subst c4
  replace H : (if AS = true then (some (vO, true)) else (some (0, false))) = some (r1, r2) := by rw [if_pos rfl] at H; exact H
  by_cases c5 : AS = true
  ·subst c5
   replace H : (some (vO, true)) = some (r1, r2) := by rw [if_pos rfl] at H; exact H
   simp only [Option.some.injEq, Prod.mk.injEq] at H
   obtain ⟨rfl, rfl⟩ := H
   go_enter Tryz.func54, Tryz.ntmps54
   go_wp2_with (first | ((with_reducible refine au (f := 81) rfl ?_); refine gC (some 10) Tryz.func81 #[.string a0, .string (⟨#[98, 108, 111, 99, 107, 47]⟩ : ByteArray)] ?_; (with_reducible refine (strings_CutPrefix.calls a0 (⟨#[98, 108, 111, 99, 107, 47]⟩ : ByteArray) oe true _ A2.out).mono ?_); rintro e w' ⟨rfl, ⟨nd, rfl⟩⟩; refine ⟨_, rfl, ?_⟩) | ((with_reducible refine au (f := 87) rfl ?_); refine gC (some 15) Tryz.func87 #[.string oe] ?_; (with_reducible refine (dp.calls k oe vO true _ A3.out).mono ?_); rintro e w6 ⟨rfl, hb⟩; refine ⟨_, rfl, ?_⟩; replace HB := bs hb; (try clear hb); (try clear aU); (try clear hk); (try clear hi)))
   go_ret2
   exact ⟨rg, bl⟩
  ·replace c5 := Bool.eq_false_iff.mpr c5
   subst c5
   replace H : (some (0, false)) = some (r1, r2) := by rw [if_neg (show ¬ (false = true) by decide)] at H; exact H
   simp only [Option.some.injEq, Prod.mk.injEq] at H
   obtain ⟨rfl, rfl⟩ := H
   go_enter Tryz.func54, Tryz.ntmps54
   go_wp2_with (first | ((with_reducible refine au (f := 81) rfl ?_); refine gC (some 10) Tryz.func81 #[.string a0, .string (⟨#[98, 108, 111, 99, 107, 47]⟩ : ByteArray)] ?_; (with_reducible refine (strings_CutPrefix.calls a0 (⟨#[98, 108, 111, 99, 107, 47]⟩ : ByteArray) oe true _ A2.out).mono ?_); rintro e w' ⟨rfl, ⟨nd, rfl⟩⟩; refine ⟨_, rfl, ?_⟩) | ((with_reducible refine au (f := 87) rfl ?_); refine gC (some 15) Tryz.func87 #[.string oe] ?_; (with_reducible refine (dp.calls k oe vO false _ A3.out).mono ?_); rintro e w7 ⟨rfl, hb⟩; refine ⟨_, rfl, ?_⟩; replace HB := bs hb; (try clear hb); (try clear aU); (try clear hk); (try clear hi)))
   go_ret2
   exact ⟨rg, bl⟩
 ·replace c4 := Bool.eq_false_iff.mpr c4
  subst c4
  replace H : (some (0, false)) = some (r1, r2) := by rw [if_neg (show ¬ (false = true) by decide)] at H; exact H
  simp only [Option.some.injEq, Prod.mk.injEq] at H
  obtain ⟨rfl, rfl⟩ := H
  go_enter Tryz.func54, Tryz.ntmps54
  go_wp2_with (first | ((with_reducible refine au (f := 81) rfl ?_); refine gC (some 10) Tryz.func81 #[.string a0, .string (⟨#[98, 108, 111, 99, 107, 47]⟩ : ByteArray)] ?_; (with_reducible refine (strings_CutPrefix.calls a0 (⟨#[98, 108, 111, 99, 107, 47]⟩ : ByteArray) oe false _ A2.out).mono ?_); rintro e w' ⟨rfl, ⟨nd, rfl⟩⟩; refine ⟨_, rfl, ?_⟩) | ((with_reducible refine au (f := 87) rfl ?_); refine gC (some 15) Tryz.func87 #[.string oe] ?_; (with_reducible refine (dp.calls k oe vO AS _ A3.out).mono ?_); rintro e w8 ⟨rfl, hb⟩; refine ⟨_, rfl, ?_⟩; replace HB := bs hb; (try clear hb); (try clear aU); (try clear hk); (try clear hi)))
  go_ret2
  exact ⟨rg, bl⟩
end
section
def jh : ByteArray := ⟨#[112, 111, 111, 108, 47]⟩
def iY : ByteArray := ⟨#[98, 108, 111, 99, 107, 47]⟩
def ni : ByteArray := ⟨#[97, 102, 102, 47]⟩
def fa : ByteArray := ⟨#[104, 97, 110, 100, 108, 101, 47]⟩
def iT : ByteArray := ⟨#[110, 111, 100, 101, 47]⟩
theorem eV (p t : ByteArray) : (p ++ t).data.toList = p.data.toList ++ t.data.toList := by simp
theorem QZ (p t : ByteArray) : strings_CutPrefix.f (p ++ t) p = some (t, true) := by
 obtain ⟨q, h1, h2⟩ := pre_true (p ++ t) p t.data.toList (eV p t)
 rw [h1, fh h2]
theorem LB {s p q : ByteArray} (h : s.data.toList = p.data.toList ++ q.data.toList) : q.size ≤ s.size ∧ s = p ++ q := by
 refine ⟨?_, fh (by rw [h, eV])⟩
 have h1 := cG s; have h2 := cG q
 have := congrArg List.length h
 rw [List.length_append] at this
 omega
def Ku (s : ByteArray) (a : Nat) : ByteArray := ni ++ s ++ (⟨#[47]⟩ : ByteArray) ++ jm (wD a) 26
theorem Kt (s : ByteArray) (a : Nat) : Ku s a = ni ++ (s ++ ((⟨#[47]⟩ : ByteArray) ++ jm (wD a) 26)) := by
 apply fh
 simp [Ku]
theorem LP (key : ByteArray) (hs : key.size ≤ 1000) (k : Nat) (hk : 4 ≤ k) :
  (∃ (s : ByteArray) (v : Nat), bU s = true ∧ v < 4294967296 ∧ wD v = v ∧ key = Ku s v ∧ iU.f k key = some (s, (v : Int), true)) ∨ (iU.f k key = some (⟨#[]⟩, 0, false)) := by
 have hcut : ∀ t : ByteArray, t.size ≤ 1000 → strings_Cut.f t (⟨#[47]⟩ : ByteArray) = some (bY 47 t) := fun t ht => by
  unfold strings_Cut.f
  rw [if_pos (by first | omega | (dsimp only; omega))]
 unfold iU.f bP.f
 rcases Ii key ⟨#[97, 102, 102, 47]⟩ with ⟨q, h1, h2⟩ | h1
 ·obtain ⟨h3, h4⟩ := LB h2
  have hz := pE 47 q
  rw [h1, Option.bind_some, hcut q (by first | omega | (dsimp only; omega)), Option.bind_some, pd _ (by first | omega | (dsimp only; omega)) k hk, Option.bind_some, if_pos rfl]
  cases hb : oL (bY 47 q).2.1 with
  | none => exact .inr rfl
  | some v =>
   obtain ⟨g1, g2, g3, g4⟩ := JU hb
   rw [if_pos rfl, Option.bind_some]
   cases hr : bU (bY 47 q).1 with
   | false => exact .inr rfl
   | true =>
    refine .inl ⟨(bY 47 q).1, v, hr, g1, g4, ?_, rfl⟩
    have hok : (bY 47 q).2.2 = true := by
     unfold bY at g3 ⊢
     by_cases hm : Lib.indexByte q.data.toList 47 = -1
     ·rw [if_pos hm] at g3
      have := congrArg (fun b : ByteArray => b.data.toList) g3
      simp only [nP] at this
      unfold zl at this
      simp at this
     ·rw [if_neg hm]
    obtain ⟨c1, _⟩ := xn 47 q hok
    rw [h4, Kt]
    apply fh
    rw [eV, eV, eV, eV, c1, g3, g4]
    simp [ni]
 ·have hz := pE 47 key
  rw [h1, Option.bind_some, hcut key hs, Option.bind_some, pd _ (by first | omega | (dsimp only; omega)) k hk, Option.bind_some]
  exact .inr rfl
end
section
attribute [local go_sem] bq bn bI bH aW aV bp bj
def cA.l0 : Nat → ByteArray → Int → Option (Int × Int × Bool)
 | 0, _, _ => none
 | k + 1, x0, x4 => if x4 < (x0.size : Int) then (if 0 ≤ x4 then (if (bt x0 x4) = 47 then (if x4 ≤ (x0.size : Int) then ((aK.f k (x0.extract 0 (x4 : Int).toNat)).bind fun CS => (if 0 ≤ (wrap64 (x4 + 1)) then (if (wrap64 (x4 + 1)) ≤ (x0.size : Int) then ((aA.f k (x0.extract ((wrap64 (x4 + 1)) : Int).toNat x0.size) 32).bind fun lD => (if CS.2 = true then (if lD.2 = true then ((cL.f k CS.1 lD.1).bind fun kF => (if kF = true then (some (CS.1, lD.1, true)) else (some (0, 0, false)))) else (some (0, 0, false))) else (some (0, 0, false)))) else (none)) else (none))) else (none)) else (cA.l0 k x0 (wrap64 (x4 + 1)))) else (none)) else (some (0, 0, false))
def cA.f (k : Nat) (a0 : ByteArray) : Option (Int × Int × Bool) := cA.l0 k a0 0
set_option maxHeartbeats 8000000 in
set_option maxRecDepth 100000 in
theorem cA.calls (k : Nat) (a0 : ByteArray) (r1 : Int) (r2 : Int) (r3 : Bool) (w : World) (h : cA.f k a0 = some (r1, r2, r3)) :
  Calls Tryz.prog 62 #[.string a0] w fun e w' => e = .returned (.tuple #[.agg #[.int .u32 r1, .int .i64 r2], .bool r3]) ∧ Below w.heap.size w w' := by
 have JZ := Tryz.underlying43
 have HB := ak (Below.refl w.heap.size w)
 have H : (cA.l0 k a0 0) = some (r1, r2, r3) := h
 clear h
 have H' := ak H; clear H
 go_enter Tryz.func62, Tryz.ntmps62
 go_wp2_with (first | ((with_reducible refine af (N := 2) rfl ?_); refine bE (N := 2) (cs := #[.int .u32 0, .int .i64 0]) (t := 43) ?_; intro mH hg w2 hbox hb; have bA := ak (hbox); have aA8 := ak (gl hg : w.heap.size ≤ mH); have aB8 := ak (gl hg : w.heap.size ≤ mH); replace HB := bs hb; clear hb hbox hg))
 go_loopg [4] k (fun kq v4 w' => ∃ (df : Int) (ij : Int) (eN : Int), v4 = .int .i64 df ∧ Aside0 (cA.l0 kq a0 df = some (r1, r2, r3)) ∧ Aside0 (kq ≤ k) ∧ Aside0 (w'.heap[mH]? = some (.cells #[.int .u32 ij, .int .i64 eN] 43 (0, 0))) ∧ Aside0 (Below w.heap.size w w'))
 case atStart => exact ⟨(0), (0), (0), rf, H', ⟨Nat.le_refl _⟩, ⟨by (with_reducible repeat (first | refine ag ?_ _ | refine aj ?_ | refine ah ?_ _)); exact bA.out⟩, ⟨bl⟩⟩
 case round =>
  clear H'
  obtain ⟨df, ij, eN, rfl, HA, ee, bA, HB⟩ := hrel
  cases gk with
  | zero => exact absurd HA.out (by simp [cA.l0])
  | succ k1 =>
   have H := HA.out
   clear HA
   simp only [cA.l0] at H
   by_cases c3 : df < (a0.size : Int)
   ·rw [if_pos c3] at H
    have gq := decide_eq_true c3
    clear c3
    by_cases c4 : 0 ≤ df
    ·rw [if_pos c4] at H
     have eQ := decide_eq_true c4
     clear c4
     by_cases c6 : (bt a0 df) = 47
     ·rw [if_pos c6] at H
      have jd : ((bt a0 df) == 47) = true := beq_iff_eq.mpr c6
      have xr : ((bt a0 df) != 47) = false := bne_eq_false_iff_eq.mpr c6
      clear c6
      have qV := eq_true (od : 0 ≤ df)
      by_cases c8 : df ≤ (a0.size : Int)
      ·rw [if_pos c8] at H
       have qU := eq_true c8
       have CR := decide_eq_true c8
       clear c8
       replace H := Option.bind_eq_some_iff.mp H
       obtain ⟨⟨fE, AN⟩, Nf, H⟩ := H
       replace H : (if 0 ≤ (wrap64 (df + 1)) then (if (wrap64 (df + 1)) ≤ (a0.size : Int) then ((aA.f k1 (a0.extract ((wrap64 (df + 1)) : Int).toNat a0.size) 32).bind fun lD => (if AN = true then (if lD.2 = true then ((cL.f k1 fE lD.1).bind fun kF => (if kF = true then (some (fE, lD.1, true)) else (some (0, 0, false)))) else (some (0, 0, false))) else (some (0, 0, false)))) else (none)) else (none)) = some (r1, r2, r3) := H
       have A9 := ak Nf
       clear Nf
       obtain ⟨qd, oM⟩ : ∃ j_ : Int, (wrap64 (df + 1)) = j_ := ⟨_, rfl⟩
       replace H : (if 0 ≤ (qd) then (if (qd) ≤ (a0.size : Int) then ((aA.f k1 (a0.extract ((qd) : Int).toNat a0.size) 32).bind fun lD => (if AN = true then (if lD.2 = true then ((cL.f k1 fE lD.1).bind fun kF => (if kF = true then (some (fE, lD.1, true)) else (some (0, 0, false)))) else (some (0, 0, false))) else (some (0, 0, false)))) else (none)) else (none)) = some (r1, r2, r3) := by first | (rw [oM] at H; exact H) | (simp only [oM] at H ⊢; exact H)
       (try rw [oM] at A9)
       have aC9 : (IntKind.i64.wrap (df + 1)) = qd := (gO _).trans oM
       by_cases iy : 0 ≤ (qd)
       ·rw [if_pos iy] at H
        have vk := eq_true iy
        have BQ := decide_eq_true iy
        clear iy
        by_cases dB : (qd) ≤ (a0.size : Int)
        ·rw [if_pos dB] at H
         have u9 := eq_true dB
         have Kk := decide_eq_true dB
         clear dB
         replace H := Option.bind_eq_some_iff.mp H
         obtain ⟨⟨iX, AM⟩, GY, H⟩ := H
         replace H : (if AN = true then (if AM = true then ((cL.f k1 fE iX).bind fun kF => (if kF = true then (some (fE, iX, true)) else (some (0, 0, false)))) else (some (0, 0, false))) else (some (0, 0, false))) = some (r1, r2, r3) := H
         have GZ := ak GY
         clear GY
         by_cases hG : AN = true
         ·subst hG
          replace H : (if AM = true then ((cL.f k1 fE iX).bind fun kF => (if kF = true then (some (fE, iX, true)) else (some (0, 0, false)))) else (some (0, 0, false))) = some (r1, r2, r3) := by rw [if_pos rfl] at H; exact H
          by_cases u7 : AM = true
          ·subst u7
           replace H : ((cL.f k1 fE iX).bind fun kF => (if kF = true then (some (fE, iX, true)) else (some (0, 0, false)))) = some (r1, r2, r3) := by rw [if_pos rfl] at H; exact H
           replace H := Option.bind_eq_some_iff.mp H
           obtain ⟨kF, Wn, H⟩ := H
           replace H : (if kF = true then (some (fE, iX, true)) else (some (0, 0, false))) = some (r1, r2, r3) := H
           have Za := ak Wn
           clear Wn
           by_cases BP : kF = true
           ·subst BP
            replace H : (some (fE, iX, true)) = some (r1, r2, r3) := by rw [if_pos rfl] at H; exact H
            simp only [Option.some.injEq, Prod.mk.injEq] at H
            obtain ⟨rfl, rfl, rfl⟩ := H
            have p5 : 0 ≤ (df : Int) := od
            have q5 : df < (a0.size : Int) := od
            have tT := fi a0 df
            replace p5 := eq_true p5
            replace q5 := eq_true q5
            go_wp2_with (first | ((with_reducible refine au (f := 97) rfl ?_); refine gC (some 24) Tryz.func97 #[.string (a0.extract 0 (df : Int).toNat)] ?_; (with_reducible refine (aK.calls k1 (a0.extract 0 (df : Int).toNat) fE true _ A9.out).mono ?_); rintro e Pu ⟨rfl, hb⟩; refine ⟨_, rfl, ?_⟩; replace bA := bm bA hb; replace HB := bs hb; (try clear hb); (try clear aU); (try clear hk); (try clear hi)) | ((with_reducible refine au (f := 98) rfl ?_); refine wu (some 32) rfl rfl Tryz.func98 (by kernel_rfl) rfl #[.string (a0.extract ((qd) : Int).toNat a0.size), .int .i64 32] rfl (by (try simp only [List.map_toArray, List.map_cons, List.map_nil]); first | done | (simp only [oM]; rfl) | rfl | (simp only [List.length_drop, List.length_take]; rfl)) ?_; (with_reducible refine (aA.calls k1 (a0.extract ((qd) : Int).toNat a0.size) 32 iX true _ GZ.out).mono ?_); rintro e rn ⟨rfl, hb⟩; refine ⟨_, rfl, ?_⟩; replace bA := bm bA hb; replace HB := bs hb; (try clear hb); (try clear aU); (try clear hk); (try clear hi)) | ((with_reducible refine af (N := 9) rfl ?_); refine bE (N := 9) (cs := #[.int .u32 0, .int .i64 0]) (t := 43) ?_; intro jV hg X4 hbox hb; have eg := ak (hbox); have CZ := ak (gl hg : w.heap.size ≤ jV); have C5 := ak (gl hg : w.heap.size ≤ jV); replace HB := bs hb; have dR := ak (nl bA hg); have jw := ak (ng bA hg); replace bA := bm bA hb; clear hb hbox hg; have aK1 := jw.out; have aI0 := dR.out; have Cy := cf eg 0; have Cx := cf eg 1; have Cm := J eg.out 0; have Cl := J eg.out 1) | (go_at_call 49; (with_reducible refine (cL.calls k1 fE iX true _ Za.out).mono ?_); rintro e S8 ⟨rfl, hb⟩; replace bA := ak (hJ (g := mH) (o := .cells #[.int .u32 ij, .int .i64 eN] 43 (0, 0)) (by (with_reducible repeat (first | refine ag ?_ _ | refine aj ?_ | refine ah ?_ _)); refine dr ?_ dR.out _; (with_reducible repeat (first | refine ag ?_ _ | refine aj ?_ | refine ah ?_ _)); refine dr ?_ dR.out _; (with_reducible repeat (first | refine ag ?_ _ | refine aj ?_ | refine ah ?_ _)); exact bA.out) hb); replace eg := ak (hJ (g := jV) (o := .cells #[.int .u32 fE, .int .i64 iX] 43 (0, 0)) (by (with_reducible repeat (first | refine ag ?_ _ | refine aj ?_ | refine ah ?_ _)); refine aM (cs := #[.int .u32 fE, .int .i64 0]) ?_ 1 _ rfl; (with_reducible repeat (first | refine ag ?_ _ | refine aj ?_ | refine ah ?_ _)); refine aM (cs := #[.int .u32 0, .int .i64 0]) ?_ 0 _ rfl; (with_reducible repeat (first | refine ag ?_ _ | refine aj ?_ | refine ah ?_ _)); exact eg.out) hb); replace HB := bs hb; (try clear hb); (try clear aU); (try clear hk); (try clear hi); have zf := cf eg 0; have ze := cf eg 1; have zd := J eg.out 0; have zb := J eg.out 1; have Iy := cf bA 0; have Ix := cf bA 1; have Iw := J bA.out 0; have Iv := J bA.out 1))
            refine bodyPost_ret (bT rfl _ _ mH 43 #[.int .u32 fE, .int .i64 iX] (0, 0) _ rfl (by (with_reducible repeat (first | refine ag ?_ _ | refine aj ?_ | refine ah ?_ _)); refine aM (cs := #[.int .u32 fE, .int .i64 eN]) ?_ 1 _ rfl; (with_reducible repeat (first | refine ag ?_ _ | refine aj ?_ | refine ah ?_ _)); refine aM (cs := #[.int .u32 ij, .int .i64 eN]) ?_ 0 _ rfl; (with_reducible repeat (first | refine ag ?_ _ | refine aj ?_ | refine ah ?_ _)); exact bA.out) Tryz.underlying43 rfl (by kernel_rfl)) rfl ?_
            exact ⟨by first | rfl | (simp [db, da] <;> rfl) | (simp only [← oM]; first | rfl | (simp [db, da] <;> rfl)) | (simp [*, db, da] <;> rfl), bl⟩
           ·replace BP := Bool.eq_false_iff.mpr BP
            subst BP
            replace H : (some (0, 0, false)) = some (r1, r2, r3) := by rw [if_neg (show ¬ (false = true) by decide)] at H; exact H
            simp only [Option.some.injEq, Prod.mk.injEq] at H
            obtain ⟨rfl, rfl, rfl⟩ := H
            have p5 : 0 ≤ (df : Int) := od
            have q5 : df < (a0.size : Int) := od
            have tT := fi a0 df
            replace p5 := eq_true p5
            replace q5 := eq_true q5
            go_wp2_with (first | ((with_reducible refine au (f := 97) rfl ?_); refine gC (some 24) Tryz.func97 #[.string (a0.extract 0 (df : Int).toNat)] ?_; (with_reducible refine (aK.calls k1 (a0.extract 0 (df : Int).toNat) fE true _ A9.out).mono ?_); rintro e S7 ⟨rfl, hb⟩; refine ⟨_, rfl, ?_⟩; replace bA := bm bA hb; replace HB := bs hb; (try clear hb); (try clear aU); (try clear hk); (try clear hi)) | ((with_reducible refine au (f := 98) rfl ?_); refine wu (some 32) rfl rfl Tryz.func98 (by kernel_rfl) rfl #[.string (a0.extract ((qd) : Int).toNat a0.size), .int .i64 32] rfl (by (try simp only [List.map_toArray, List.map_cons, List.map_nil]); first | done | (simp only [oM]; rfl) | rfl | (simp only [List.length_drop, List.length_take]; rfl)) ?_; (with_reducible refine (aA.calls k1 (a0.extract ((qd) : Int).toNat a0.size) 32 iX true _ GZ.out).mono ?_); rintro e X3 ⟨rfl, hb⟩; refine ⟨_, rfl, ?_⟩; replace bA := bm bA hb; replace HB := bs hb; (try clear hb); (try clear aU); (try clear hk); (try clear hi)) | ((with_reducible refine af (N := 9) rfl ?_); refine bE (N := 9) (cs := #[.int .u32 0, .int .i64 0]) (t := 43) ?_; intro jV hg w28 hbox hb; have eg := ak (hbox); have CZ := ak (gl hg : w.heap.size ≤ jV); have C5 := ak (gl hg : w.heap.size ≤ jV); replace HB := bs hb; have dR := ak (nl bA hg); have jw := ak (ng bA hg); replace bA := bm bA hb; clear hb hbox hg; have aJ8 := jw.out; have aH7 := dR.out; have RZ := cf eg 0; have RY := cf eg 1; have RB := J eg.out 0; have RA := J eg.out 1) | (go_at_call 49; (with_reducible refine (cL.calls k1 fE iX false _ Za.out).mono ?_); rintro e w31 ⟨rfl, hb⟩; replace bA := ak (hJ (g := mH) (o := .cells #[.int .u32 ij, .int .i64 eN] 43 (0, 0)) (by (with_reducible repeat (first | refine ag ?_ _ | refine aj ?_ | refine ah ?_ _)); refine dr ?_ dR.out _; (with_reducible repeat (first | refine ag ?_ _ | refine aj ?_ | refine ah ?_ _)); refine dr ?_ dR.out _; (with_reducible repeat (first | refine ag ?_ _ | refine aj ?_ | refine ah ?_ _)); exact bA.out) hb); replace eg := ak (hJ (g := jV) (o := .cells #[.int .u32 fE, .int .i64 iX] 43 (0, 0)) (by (with_reducible repeat (first | refine ag ?_ _ | refine aj ?_ | refine ah ?_ _)); refine aM (cs := #[.int .u32 fE, .int .i64 0]) ?_ 1 _ rfl; (with_reducible repeat (first | refine ag ?_ _ | refine aj ?_ | refine ah ?_ _)); refine aM (cs := #[.int .u32 0, .int .i64 0]) ?_ 0 _ rfl; (with_reducible repeat (first | refine ag ?_ _ | refine aj ?_ | refine ah ?_ _)); exact eg.out) hb); replace HB := bs hb; (try clear hb); (try clear aU); (try clear hk); (try clear hi); have RX := cf bA 0; have RW := cf bA 1; have Rz := J bA.out 0; have Ry := J bA.out 1))
            refine bodyPost_ret (bT rfl _ _ mH 43 #[.int .u32 0, .int .i64 0] (0, 0) _ rfl (by (with_reducible repeat (first | refine ag ?_ _ | refine aj ?_ | refine ah ?_ _)); refine aM (cs := #[.int .u32 0, .int .i64 eN]) ?_ 1 _ rfl; (with_reducible repeat (first | refine ag ?_ _ | refine aj ?_ | refine ah ?_ _)); refine aM (cs := #[.int .u32 ij, .int .i64 eN]) ?_ 0 _ rfl; (with_reducible repeat (first | refine ag ?_ _ | refine aj ?_ | refine ah ?_ _)); exact bA.out) Tryz.underlying43 rfl (by kernel_rfl)) rfl ?_
            exact ⟨by first | rfl | (simp [db, da] <;> rfl) | (simp only [← oM]; first | rfl | (simp [db, da] <;> rfl)) | (simp [*, db, da] <;> rfl), bl⟩
          ·replace u7 := Bool.eq_false_iff.mpr u7
           subst u7
           replace H : (some (0, 0, false)) = some (r1, r2, r3) := by rw [if_neg (show ¬ (false = true) by decide)] at H; exact H
           simp only [Option.some.injEq, Prod.mk.injEq] at H
           obtain ⟨rfl, rfl, rfl⟩ := H
           have p5 : 0 ≤ (df : Int) := od
           have q5 : df < (a0.size : Int) := od
           have tT := fi a0 df
           replace p5 := eq_true p5
           replace q5 := eq_true q5
           go_wp2_with (first | ((with_reducible refine au (f := 97) rfl ?_); refine gC (some 24) Tryz.func97 #[.string (a0.extract 0 (df : Int).toNat)] ?_; (with_reducible refine (aK.calls k1 (a0.extract 0 (df : Int).toNat) fE true _ A9.out).mono ?_); rintro e w33 ⟨rfl, hb⟩; refine ⟨_, rfl, ?_⟩; replace bA := bm bA hb; replace HB := bs hb; (try clear hb); (try clear aU); (try clear hk); (try clear hi)) | ((with_reducible refine au (f := 98) rfl ?_); refine wu (some 32) rfl rfl Tryz.func98 (by kernel_rfl) rfl #[.string (a0.extract ((qd) : Int).toNat a0.size), .int .i64 32] rfl (by (try simp only [List.map_toArray, List.map_cons, List.map_nil]); first | done | (simp only [oM]; rfl) | rfl | (simp only [List.length_drop, List.length_take]; rfl)) ?_; (with_reducible refine (aA.calls k1 (a0.extract ((qd) : Int).toNat a0.size) 32 iX false _ GZ.out).mono ?_); rintro e w34 ⟨rfl, hb⟩; refine ⟨_, rfl, ?_⟩; replace bA := bm bA hb; replace HB := bs hb; (try clear hb); (try clear aU); (try clear hk); (try clear hi)) | ((with_reducible refine af (N := 9) rfl ?_); refine bE (N := 9) (cs := #[.int .u32 0, .int .i64 0]) (t := 43) ?_; intro jV hg w35 hbox hb; have eg := ak (hbox); have CZ := ak (gl hg : w.heap.size ≤ jV); have C5 := ak (gl hg : w.heap.size ≤ jV); replace HB := bs hb; have dR := ak (nl bA hg); have jw := ak (ng bA hg); replace bA := bm bA hb; clear hb hbox hg; have aJ5 := jw.out; have aH4 := dR.out; have ax4 := cf eg 0; have ax3 := cf eg 1; have am9 := J eg.out 0; have am8 := J eg.out 1; have ax2 := cf bA 0; have ax1 := cf bA 1; have am7 := J bA.out 0; have am6 := J bA.out 1))
           refine bodyPost_ret (bT rfl _ _ mH 43 #[.int .u32 0, .int .i64 0] (0, 0) _ rfl (by (with_reducible repeat (first | refine ag ?_ _ | refine aj ?_ | refine ah ?_ _)); refine aM (cs := #[.int .u32 0, .int .i64 eN]) ?_ 1 _ rfl; (with_reducible repeat (first | refine ag ?_ _ | refine aj ?_ | refine ah ?_ _)); refine aM (cs := #[.int .u32 ij, .int .i64 eN]) ?_ 0 _ rfl; (with_reducible repeat (first | refine ag ?_ _ | refine aj ?_ | refine ah ?_ _)); refine dr ?_ dR.out _; (with_reducible repeat (first | refine ag ?_ _ | refine aj ?_ | refine ah ?_ _)); refine dr ?_ dR.out _; (with_reducible repeat (first | refine ag ?_ _ | refine aj ?_ | refine ah ?_ _)); exact bA.out) Tryz.underlying43 rfl (by kernel_rfl)) rfl ?_
           exact ⟨by first | rfl | (simp [db, da] <;> rfl) | (simp only [← oM]; first | rfl | (simp [db, da] <;> rfl)) | (simp [*, db, da] <;> rfl), bl⟩
         ·replace hG := Bool.eq_false_iff.mpr hG
          subst hG
          replace H : (some (0, 0, false)) = some (r1, r2, r3) := by rw [if_neg (show ¬ (false = true) by decide)] at H; exact H
          simp only [Option.some.injEq, Prod.mk.injEq] at H
          obtain ⟨rfl, rfl, rfl⟩ := H
          have p5 : 0 ≤ (df : Int) := od
          have q5 : df < (a0.size : Int) := od
          have tT := fi a0 df
          replace p5 := eq_true p5
          replace q5 := eq_true q5
          go_wp2_with (first | ((with_reducible refine au (f := 97) rfl ?_); refine gC (some 24) Tryz.func97 #[.string (a0.extract 0 (df : Int).toNat)] ?_; (with_reducible refine (aK.calls k1 (a0.extract 0 (df : Int).toNat) fE false _ A9.out).mono ?_); rintro e w39 ⟨rfl, hb⟩; refine ⟨_, rfl, ?_⟩; replace bA := bm bA hb; replace HB := bs hb; (try clear hb); (try clear aU); (try clear hk); (try clear hi)) | ((with_reducible refine au (f := 98) rfl ?_); refine wu (some 32) rfl rfl Tryz.func98 (by kernel_rfl) rfl #[.string (a0.extract ((qd) : Int).toNat a0.size), .int .i64 32] rfl (by (try simp only [List.map_toArray, List.map_cons, List.map_nil]); first | done | (simp only [oM]; rfl) | rfl | (simp only [List.length_drop, List.length_take]; rfl)) ?_; (with_reducible refine (aA.calls k1 (a0.extract ((qd) : Int).toNat a0.size) 32 iX AM _ GZ.out).mono ?_); rintro e w40 ⟨rfl, hb⟩; refine ⟨_, rfl, ?_⟩; replace bA := bm bA hb; replace HB := bs hb; (try clear hb); (try clear aU); (try clear hk); (try clear hi)) | ((with_reducible refine af (N := 9) rfl ?_); refine bE (N := 9) (cs := #[.int .u32 0, .int .i64 0]) (t := 43) ?_; intro jV hg w41 hbox hb; have eg := ak (hbox); have CZ := ak (gl hg : w.heap.size ≤ jV); have C5 := ak (gl hg : w.heap.size ≤ jV); replace HB := bs hb; have dR := ak (nl bA hg); have jw := ak (ng bA hg); replace bA := bm bA hb; clear hb hbox hg; have WS := jw.out; have WO := dR.out; have ax0 := cf eg 0; have aw9 := cf eg 1; have am5 := J eg.out 0; have am4 := J eg.out 1; have RV := cf bA 0; have RU := cf bA 1; have Rx := J bA.out 0; have Rv := J bA.out 1))
          refine bodyPost_ret (bT rfl _ _ mH 43 #[.int .u32 0, .int .i64 0] (0, 0) _ rfl (by (with_reducible repeat (first | refine ag ?_ _ | refine aj ?_ | refine ah ?_ _)); refine aM (cs := #[.int .u32 0, .int .i64 eN]) ?_ 1 _ rfl; (with_reducible repeat (first | refine ag ?_ _ | refine aj ?_ | refine ah ?_ _)); refine aM (cs := #[.int .u32 ij, .int .i64 eN]) ?_ 0 _ rfl; (with_reducible repeat (first | refine ag ?_ _ | refine aj ?_ | refine ah ?_ _)); refine dr ?_ dR.out _; (with_reducible repeat (first | refine ag ?_ _ | refine aj ?_ | refine ah ?_ _)); refine dr ?_ dR.out _; (with_reducible repeat (first | refine ag ?_ _ | refine aj ?_ | refine ah ?_ _)); exact bA.out) Tryz.underlying43 rfl (by kernel_rfl)) rfl ?_
          exact ⟨by first | rfl | (simp [db, da] <;> rfl) | (simp only [← oM]; first | rfl | (simp [db, da] <;> rfl)) | (simp [*, db, da] <;> rfl), bl⟩
        ·rw [if_neg dB] at H
         exact absurd H (by simp)
       ·rw [if_neg iy] at H
        exact absurd H (by simp)
      ·rw [if_neg c8] at H
       exact absurd H (by simp)
     ·rw [if_neg c6] at H
      have jd : ((bt a0 df) == 47) = false := beq_eq_false_iff_ne.mpr c6
      have xr : ((bt a0 df) != 47) = true := bne_iff_ne.mpr c6
      have H' := ak H; clear H
      have p5 : 0 ≤ (df : Int) := od
      have q5 : df < (a0.size : Int) := od
      have tT := fi a0 df
      replace p5 := eq_true p5
      replace q5 := eq_true q5
      go_wp2
      go_roundg k1
      case measure => have := ee.out; omega
      case rel => exact ⟨(wrap64 (df + 1)), (ij), (eN), rf, H', ⟨by have := ee.out; omega⟩, ⟨by (with_reducible repeat (first | refine ag ?_ _ | refine aj ?_ | refine ah ?_ _)); exact bA.out⟩, ⟨bl⟩⟩
    ·rw [if_neg c4] at H
     exact absurd H (by simp)
   ·rw [if_neg c3] at H
    have gq := decide_eq_false c3
    clear c3
    simp only [Option.some.injEq, Prod.mk.injEq] at H
    obtain ⟨rfl, rfl, rfl⟩ := H
    have aw8 := cf bA 0
    have aw7 := cf bA 1
    have am3 := J bA.out 0
    have am2 := J bA.out 1
    go_wp2
    refine bodyPost_ret (bT rfl _ _ mH 43 #[.int .u32 0, .int .i64 0] (0, 0) _ rfl (by (with_reducible repeat (first | refine ag ?_ _ | refine aj ?_ | refine ah ?_ _)); refine aM (cs := #[.int .u32 0, .int .i64 eN]) ?_ 1 _ rfl; (with_reducible repeat (first | refine ag ?_ _ | refine aj ?_ | refine ah ?_ _)); refine aM (cs := #[.int .u32 ij, .int .i64 eN]) ?_ 0 _ rfl; (with_reducible repeat (first | refine ag ?_ _ | refine aj ?_ | refine ah ?_ _)); exact bA.out) Tryz.underlying43 rfl (by kernel_rfl)) rfl ?_
    exact ⟨rg, bl⟩
end
section
theorem index_none (c : UInt8) : ∀ l : List UInt8, c ∉ l → Lib.indexByte l c = -1
 | [], _ => rfl
 | b :: l, h => by
  have h1 : ¬ b = c := fun e => h (by simp [e])
  have ih := index_none c l (fun e => h (by simp [e]))
  rw [Lib.indexByte, ih]
  simp [h1]
theorem Tr (s : ByteArray) (hs : s.size < 1000000) : ∀ (d k i : Nat), s.size - i ≤ d → d + 3 * s.size + 60 ≤ k → i ≤ s.size → (47 : UInt8) ∉ s.data.toList.take i →
  cA.l0 k s (i : Int) = some (match oR s with | some (v, n) => ((v : Int), (n : Int), true) | none => (0, 0, false)) := by
 intro d
 have hl := cG s
 induction d with
 | zero =>
  intro k i hd hk hi hn
  obtain ⟨k, rfl⟩ : ∃ m, k = m + 1 := ⟨k - 1, by omega⟩
  rw [List.take_of_length_le (by omega)] at hn
  have hm := index_none 47 _ hn
  have : oR s = none := by unfold oR bY; rw [if_pos hm]; rfl
  rw [cA.l0, if_neg (by omega), this]
 | succ d ih =>
  intro k i hd hk hi hn
  by_cases hie : i = s.size
  ·exact ih k i (by omega) (by omega) hi hn
  obtain ⟨k, rfl⟩ : ∃ m, k = m + 1 := ⟨k - 1, by omega⟩
  obtain ⟨b, h1, h2, h3⟩ := I0 s i (by omega)
  rw [cA.l0, if_pos (by omega), if_pos (by omega), h2]
  by_cases hb : b = 47
  ·subst hb
   obtain ⟨c1, c2, c3⟩ := wG 47 s (s.data.toList.take i) (s.data.toList.drop (i + 1)) (by rw [← h1, List.take_append_drop]) hn
   have e1 : ((i : Int) + 1).toNat = i + 1 := by omega
   have z1 : (s.extract 0 i).size ≤ s.size := by simp; omega
   have z2 : (s.extract (i + 1) s.size).size ≤ s.size := by simp
   rw [if_pos (show (((47 : UInt8).toNat : Int) = 47) from rfl), if_pos (by omega), Int.toNat_natCast, Nz _ (by omega) k (by omega), Option.bind_some, bB ((i : Int) + 1) (by omega) (by omega), if_pos (by omega), if_pos (by omega), e1, Nx _ (by omega) k (by omega), Option.bind_some]
   rw [Lib.extract_from_zero, Lib.extract_to_end]
   unfold oR
   rw [if_pos c3, c1, c2]
   cases hv : nr (s.data.toList.take i) with
   | none => rfl
   | some v =>
    rw [Option.bind_some]
    cases hq : byteOf (s.data.toList.drop (i + 1)) with
    | none => rfl
    | some n =>
     rw [Option.bind_some]
     by_cases tU : n ≤ 32
     ·simp only [tU, if_true, true_and]
      have hm := Lo v (Ag hv).2 (n : Int) k (by omega)
      rw [hm, Option.bind_some]
      by_cases zI : v % sz n = 0
      ·rw [E9 tU zI, if_pos rfl, if_pos zI]
      ·have : nX v (n : Int) = false := by simp [nX, zI]
       rw [this, if_neg zI]
       rfl
     ·simp [tU]
  ·have hne : ¬ ((b.toNat : Int) = 47) := by
    intro h
    exact hb (UInt8.toNat_inj.1 (by simpa using (by omega : b.toNat = 47)))
   rw [if_neg hne, bB ((i : Int) + 1) (by omega) (by omega)]
   refine ih k (i + 1) (by omega) (by omega) (by omega) ?_
   rw [List.take_add_one]
   have hg : s.data.toList[i]? = some b := by
    have := congrArg (fun l => l[0]?) h1
    simpa using this
   rw [hg]
   simp only [Option.toList_some, List.mem_append, List.mem_singleton, not_or]
   exact ⟨hn, fun e => hb e.symm⟩
theorem Ws (s : ByteArray) (hs : s.size < 1000000) (k : Nat) (hk : 4 * s.size + 60 ≤ k) : cA.f k s = some (match oR s with | some (v, n) => ((v : Int), (n : Int), true) | none => (0, 0, false)) :=
 Tr s hs s.size k 0 (by omega) (by omega) (by omega) (by simp)
end
section
theorem JF {P : Program} {ops : Array Oper} {Q : Exit → Act → World → Prop} {oi : Oper} {a : Act} {w : World} {K : Act → World → Prop} (hw : Region.wanted oi (yielded ops a.tmps) = true) (hN : oi.dst = none) (ty : TypeId) (x y : Operand) (ho : oi.op = .store ty x y)
  (g : Nat) (cs : List Value) (hx : a.eval x = .pointer (some ⟨g, 0, none⟩)) (hy : a.eval y = .agg cs.toArray)
  (t : Nat) (old : List Value) (hb : bC w g old t) (n : Nat) (hi : (P.info? ty).map (·.size) = some n) (hn : cs.length = n) (hold : old.length = n) (h1 : ∀ v ∈ cs, v.oneCell' = true)
  (h : ∀ W1, bC W1 g cs t → w.grownBy W1 (some g) → K a W1) : if Region.wanted oi (yielded ops a.tmps) = true then Oper.wp P oi a w K Q else K (a.put none undef) w := by
 have hrun : (execOp a.eval oi).run P w = .ok .skip (w.setRow g cs.toArray) := by
  unfold execOp
  simp only [ho, hx, hy, Instr.storeAt, Instr.sureAddr, Sem.run_bind, Sem.run_pure, Result.andThen_ok, run_storeVar_row w g t ty old.toArray cs.toArray hb (by rw [hi]; simp [hn]) (by simp; omega) (by rw [Array.all_eq_true_iff_forall_mem]; intro v hv; exact h1 v (by simpa using hv))]
 exact uG hw hN hrun (h _ (setRow_heap w g old.toArray cs.toArray t (0, 0) hb) (tp w g _))
theorem Dh {P : Program} {ops : Array Oper} {Q : Exit → Act → World → Prop} {oi : Oper} {a : Act} {w : World} {K : Act → World → Prop} (hw : Region.wanted oi (yielded ops a.tmps) = true) (ty : TypeId) (ho : oi.op = .alloc ty) (cs : List Value) (hz : ∀ w, (zeroValue ty).run P w = .ok (.agg cs.toArray) w)
  (h : ∀ g W1, w.heap.size ≤ g → bC W1 g cs ty → Below w.heap.size w W1 → K (a.put oi.dst (.pointer (some ⟨g, 0, none⟩))) W1) : if Region.wanted oi (yielded ops a.tmps) = true then Oper.wp P oi a w K Q else K (a.put oi.dst undef) w := by
 have := h w.heap.size (w.alloc (.cells cs.toArray ty)) (Nat.le_refl _) (heap_alloc_new w _) (cO (Below.refl _ _) _)
 rw [if_pos hw]
 unfold Oper.wp execOp
 simp only [ho, Instr.alloc, newVar, newRow, newObj, Value.cells, Sem.run_bind, hz, Result.andThen_ok]
 exact this
end
section
def aq.f (a0 a1 : ByteArray) : Option (ByteArray × Bool) := some (if a0.size < a1.size then (⟨#[]⟩, false) else if (a0.extract 0 a1.size).toList = a1.toList then (a0.extract a1.size a0.size, true) else (⟨#[]⟩, false))
set_option maxHeartbeats 2000000 in
theorem aq.calls (a0 : ByteArray) (a1 : ByteArray) (r1 : ByteArray) (r2 : Bool) (w : World) (h : aq.f a0 a1 = some (r1, r2)) :
  Calls Tryz.prog 36 #[.string a0, .string a1] w fun e w' => e = .returned (.tuple #[.string r1, .bool r2]) ∧ Below w.heap.size w w' := by
 have h := Option.some.inj h
 by_cases c1 : a0.size < a1.size
 ·rw [if_pos c1] at h
  cases h
  have b1 : decide ((a0.size : Int) < (a1.size : Int)) = true := by simp; omega
  have b2 : decide (a0.size < a1.size) = true := by simp; omega
  go_enter Tryz.func36, Tryz.ntmps36
  go_wp2
  go_ret2
  exact ⟨rfl, Below.refl _ _⟩
 ·rw [if_neg c1] at h
  have b1 : decide ((a0.size : Int) < (a1.size : Int)) = false := by simp; omega
  have b2 : decide (a0.size < a1.size) = false := by simp; omega
  have nF : ((a1.size : Int) ≤ (a0.size : Int)) = True := eq_true (by omega)
  have xt : (a1.size ≤ a0.size) = True := eq_true (by omega)
  by_cases c2 : (a0.extract 0 a1.size).toList = a1.toList
  ·rw [if_pos c2] at h
   cases h
   have d1 : ((a0.extract 0 a1.size).toList == a1.toList) = true := by rw [c2]; exact beq_self_eq_true _
   clear c2
   go_enter Tryz.func36, Tryz.ntmps36
   go_wp2
   go_ret2
   exact ⟨rfl, Below.refl _ _⟩
  ·rw [if_neg c2] at h
   cases h
   have d1 : ((a0.extract 0 a1.size).toList == a1.toList) = false := by rw [beq_eq_false_iff_ne]; exact c2
   clear c2
   go_enter Tryz.func36, Tryz.ntmps36
   go_wp2
   go_ret2
   exact ⟨rfl, Below.refl _ _⟩
theorem BR (p t : ByteArray) : aq.f (p ++ t) p = some (t, true) := by
 unfold aq.f
 have hs : (p ++ t).size = p.size + t.size := ByteArray.size_append
 have e : ((p ++ t).extract 0 p.size).toList = p.toList := by
  rw [Lib.toList_data, Lib.toList_data, Lib.extract_from_zero, eV, ← cG p]
  simp
 rw [if_neg (by omega), if_pos e]
 congr 1
 congr 1
 apply fh
 rw [Lib.extract_to_end, eV, ← cG p]
 simp
theorem DP (s p : ByteArray) (h : ∀ t, s ≠ p ++ t) : aq.f s p = some (⟨#[]⟩, false) := by
 unfold aq.f
 by_cases c1 : s.size < p.size
 ·rw [if_pos c1]
 ·rw [if_neg c1, if_neg]
  intro he
  refine h (s.extract p.size s.size) (fh ?_)
  rw [Lib.toList_data, Lib.toList_data, Lib.extract_from_zero] at he
  rw [eV, Lib.extract_to_end, ← he, List.take_append_drop]
theorem MG (s : ByteArray) (x y : List UInt8) (h : s.data.toList = x ++ 45 :: y) (hx : (45 : UInt8) ∉ x) (t : ByteArray) (ht : t.data.toList = x ++ 47 :: y) : oR t = fZ s := by
 obtain ⟨c1, c2, c3⟩ := wG 45 s x y h hx
 have e : (bY 45 s).1 ++ (⟨#[47]⟩ : ByteArray) ++ (bY 45 s).2.1 = t := by
  apply fh
  rw [ht]
  simp [c1, c2]
 unfold fZ
 rw [e]
 cases hq : oR t with
 | none => rfl
 | some q =>
  obtain ⟨v, n⟩ := q
  obtain ⟨g1, g2, g3, g4, _⟩ := tG hq
  rw [Option.bind_some, if_pos]
  apply fh
  rw [nP, h]
  have h1 := ln g2 g3
  rw [← g4, ht] at h1
  have i1 : (47 : UInt8) ∉ qe v := Bi v 47 (.inr (.inr rfl))
  have i2 : (47 : UInt8) ∉ fg n := CP n (by omega) 47 (.inl (by decide))
  have PI : (47 : UInt8) ∉ x := by
   have hc := congrArg (List.count 47) h1
   rw [List.count_append, List.count_append, List.count_cons_self, List.count_cons_self, List.count_eq_zero.2 i1, List.count_eq_zero.2 i2] at hc
   exact List.count_eq_zero.1 (by omega)
  obtain ⟨k1, k2, k3⟩ := wG 47 t x y ht PI
  obtain ⟨_, _, _, _, _, m1, m2⟩ := tG hq
  rw [m1, ri] at k1
  rw [m2] at k2
  have k2' : fg n = y := by rw [← k2]; simp [fB]
  rw [← k1, ← k2']
  rfl
theorem MF (s : ByteArray) (h : (45 : UInt8) ∉ s.data.toList) : fZ s = none := by
 cases hq : fZ s with
 | none => rfl
 | some q =>
  obtain ⟨v, n⟩ := q
  obtain ⟨_, _, _, g4⟩ := oo hq
  refine absurd ?_ h
  rw [g4, nP]
  exact List.mem_append_right _ (List.mem_cons_self)
def iV (s : ByteArray) : Int × Int × Bool := match fZ s with | some (v, n) => ((v : Int), (n : Int), true) | none => (0, 0, false)
def ye : List Value := [.int .u32 0, .int .i64 0]
def dv.f (a0 : ByteArray) : Option (Int × Int × Bool) := if a0.size ≤ 1000 then some (iV a0) else none
def uY.T5 : Bool × List (List Nat × List Nat) := (true, [([], []), ([], []), ([0, 1], [0, 1]), ([2], [2]), ([], []), ([], []), ([5], [5]), ([4, 6], [4, 6]), ([3, 7], [3, 7]), ([8], [8]), ([9], [9]), ([10], [10]), ([10], [10]), ([], []), ([13, 11, 9, 0, 1, 2, 3, 4, 5, 6, 7, 8, 9, 10, 11, 13], [11, 13]), ([12, 14, 0, 1, 2, 3, 4, 5, 6, 7, 8, 9, 10, 11, 12, 13, 14], [12])])
def uY.B5 : List Nat := [0, 0, 3, 7, 0, 0, 32, 112, 255, 511, 1023, 2047, 2047, 0, 12287, 32767]
theorem uY.tab5 : dA .any (opsOf Tryz.f37 5) = uY.T5 := by kernel_rfl
theorem uY.bits5 : dy uY.T5.2 uY.B5 = true := by kernel_rfl
set_option maxHeartbeats 4000000 in
set_option maxRecDepth 100000 in
theorem Ov (s : ByteArray) (hs : s.size ≤ 1000) (w : World) :
  Calls Tryz.prog 37 #[.string s] w fun e w' => e = .returned (.tuple #[.agg #[.int .u32 (iV s).1, .int .i64 (iV s).2.1], .bool (iV s).2.2]) ∧ Below w.heap.size w w' := by
 have HS := ak hs
 obtain ⟨d, hd⟩ : ∃ d, iV s = d := ⟨_, rfl⟩
 have HD := ak hd
 rw [hd]
 clear hd
 obtain ⟨d1, d2, d3⟩ := d
 dsimp only
 go_enter Tryz.func37, Tryz.ntmps37
 go_wp2_with (first
  | (refine aE (some 2) rfl rfl 43 rfl ye (fun _ => by kernel_rfl) ?_; intro g2 W1 dz cP aw; have HX := ak cP; have HB := ak aw; have fR := ak dz; clear cP aw dz))
 go_loopw [4] (fun i W => ∃ j : Nat, j ≤ s.size ∧ i = .int .i64 j ∧ W = W1 ∧ Aside0 ((45 : UInt8) ∉ s.data.toList.take j)) (fun i _ => s.size - (intOf i).toNat)
 case atStart => exact ⟨0, by omega, rfl, rfl, ⟨by simp⟩⟩
 case round =>
  obtain ⟨j, hj, rfl, rfl, HJ⟩ := hrel
  by_cases hjn : j < s.size
  ·have hjb : decide ((j : Int) < (s.size : Int)) = true := by simp; omega
   have hx := fi s (j : Int)
   have hzr := xu s (j : Int)
   have hel : s.data.toList[j]'(by rw [cG]; exact hjn) = UInt8.ofNat (bt s (j : Int)).toNat := by
    have := hx (by rw [Int.toNat_natCast]; exact hjn)
    rw [← this]
    simp
    rfl
   obtain ⟨z, hz⟩ : ∃ z, bt s (j : Int) = z := ⟨_, rfl⟩
   rw [hz] at hx hzr hel
   rw [Int.toNat_natCast] at hx
   by_cases P6 : z = 45
   ·have aw : (z == 45) = true := by rw [beq_iff_eq]; exact P6
    have hcut : s.data.toList = s.data.toList.take j ++ 45 :: s.data.toList.drop (j + 1) := by
     conv => lhs; rw [← List.take_append_drop j s.data.toList, List.drop_eq_getElem_cons (by rw [cG]; exact hjn), hel, P6]
     rfl
    have hne := MG s _ _ hcut HJ.out (s.extract 0 j ++ (⟨#[47]⟩ : ByteArray) ++ s.extract (j + 1) s.size) (by
     rw [eV, eV, Lib.extract_from_zero, Lib.extract_to_end]; simp)
    obtain ⟨tx, htx⟩ : ∃ tx, tx = s.extract 0 j ++ (⟨#[47]⟩ : ByteArray) ++ s.extract (j + 1) s.size := ⟨_, rfl⟩
    have htz : tx.size ≤ 1001 := by rw [htx, ByteArray.size_append, ByteArray.size_append, ByteArray.size_extract, ByteArray.size_extract, Fe]; omega
    have hp := Ws tx (by omega) (4 * tx.size + 60) (Nat.le_refl _)
    rw [← htx] at hne
    rw [hne] at hp
    have HP := ak (show cA.f (4 * tx.size + 60) tx = some (d1, d2, d3) by rw [hp, ← HD.out]; rfl)
    have HTX := ak htx
    have s1 : (9223372036854775807 < j + 1) = False := eq_false (by omega)
    have s2 : (9223372036854775807 < j + 1 + (s.size - (j + 1))) = False := eq_false (by omega)
    have s3 : (s.size - (j + 1)) = s.size - (j + 1) := rfl
    have Yl : wrap64 ((j : Int) + 1) = ((j + 1 : Nat) : Int) := by rw [bB _ (by omega) (by omega)]; omega
    have Yk : IntKind.i64.wrap ((j : Int) + 1) = ((j + 1 : Nat) : Int) := by rw [gO]; exact Yl
    have c1 : (0 ≤ (j : Int) + 1) = True := eq_true (by omega)
    have c2 : ((j : Int) + 1 ≤ (s.size : Int)) = True := eq_true (by omega)
    clear P6 hcut hne htx hp hel s3 htz
    go_wp2
    replace HX := ak (HX.out.below (bu (Below.refl _ _)))
    replace HB := ak (bu HB.out)
    refine dV (n := 16) (S := fun w' => True) (ds := []) #[false, false, false, false, false, false, false, false, false, false, false, false, false, false, false, false] (by kernel_rfl) rfl rfl trivial (fun hHeld => ?_); refine cz uY.tab5 uY.bits5 (fun aa bV => ?_)
    refine pu 0 aa.out ?_
    refine pu 1 aa.out ?_
    refine pu 2 aa.out ?_
    refine pu 3 aa.out ?_
    refine pu 4 aa.out ?_
    refine pu 5 aa.out ?_
    refine pu 6 aa.out ?_
    refine pu 7 aa.out ?_
    refine pu 8 aa.out ?_
    refine JX (σ := Nat) 2 #[true, true, true, true, true, true, true, true, true, true, true, true, true, true, false, false] (fun s => [(27, .tuple #[.agg #[.int .u32 d1, .int .i64 d2], .bool d3]), (17, .tuple #[.agg #[.int .u32 d1, .int .i64 d2], .bool d3]), (28, .agg #[.int .u32 d1, .int .i64 d2]), (29, .bool d3), (26, .string tx), (5, .pointer (some ⟨s, 0, none⟩))]) (fun s w' => Aside0 (bC w' g2 ye 43) ∧ Aside0 (Below w.heap.size w w') ∧ Aside0 (bC w' s ye 43) ∧ Aside0 (w.heap.size ≤ s) ∧ Aside0 (g2 ≠ s)) ?_ ?_
    rotate_left
    ·intro qt
     refine tw 9 13 aa.out (fun K hK => ?_) (fun K hK => ?_)
     ·skip
      rw [← HTX.out]
      refine gs Tryz.func62 #[.string tx] (cA.calls (4 * tx.size + 60) tx d1 d2 d3 _ HP.out) ?_
      rintro e V1 ⟨rfl, ao⟩
      refine ⟨_, rfl, ?_⟩
      replace HX := mv ao HX; (try replace hQ := mv ao hQ); replace HB := mv ao HB; clear ao
      refine kn hK trivial (fun hHeld => ?_)
      clear hK K
      refine pu 10 aa.out ?_
      refine pu 11 aa.out ?_
      refine pu 12 aa.out ?_
      refine on 13 aa.out (fun K hK => ?_)
      refine Dh (by rfl) 43 rfl ye (fun _ => by kernel_rfl) ?_
      intro gQ V3 bO Dy ao
      have hGE := ge HB bO
      have hNX := ak (show g2 ≠ gQ by have := HX.out.lt; omega)
      replace HX := mv ao HX
      replace HB := mv ao HB
      have hQ := ak Dy
      clear bO Dy ao
      refine kn hK trivial (fun hHeld => ?_)
      clear hK K
      exact nc (qt gQ _ ⟨HX, HB, hQ, hGE, hNX⟩)
     ·skip
      refine Dh (by rfl) 43 rfl ye (fun _ => by kernel_rfl) ?_
      intro gQ V3 bO Dy ao
      have hGE := ge HB bO
      have hNX := ak (show g2 ≠ gQ by have := HX.out.lt; omega)
      replace HX := mv ao HX
      replace HB := mv ao HB
      have hQ := ak Dy
      clear bO Dy ao
      refine kn hK trivial (fun hHeld => ?_)
      clear hK K
      refine on 9 aa.out (fun K hK => ?_)
      rw [← HTX.out]
      refine gs Tryz.func62 #[.string tx] (cA.calls (4 * tx.size + 60) tx d1 d2 d3 _ HP.out) ?_
      rintro e V1 ⟨rfl, ao⟩
      refine ⟨_, rfl, ?_⟩
      replace HX := mv ao HX; (try replace hQ := mv ao hQ); replace HB := mv ao HB; clear ao
      refine kn hK trivial (fun hHeld => ?_)
      clear hK K
      refine pu 10 aa.out ?_
      refine pu 11 aa.out ?_
      refine pu 12 aa.out ?_
      exact nc (qt gQ _ ⟨HX, HB, hQ, hGE, hNX⟩)
    intro s_ w' hFF; obtain ⟨HX, HB, hQ, hGE, hNX⟩ := hFF
    refine nj ?_
    refine ow 14 aa.out (fun K hK => ?_)
    refine JF (by rfl) rfl 43 (.tmp 5) (.tmp 28) rfl s_ [.int .u32 d1, .int .i64 d2] rfl rfl 43 _ hQ.out 2 (by kernel_rfl) rfl rfl (by intro u hu; simp at hu; rcases hu with rfl | rfl <;> rfl) ?_
    intro V9 Dy bO; replace HX := gn HX hNX bO; replace HB := gb HB hGE bO; have hY := ak Dy; clear Dy bO hQ
    refine hK.out _ _ trivial (fun hHeld => ?_)
    clear hK K
    refine pu 15 aa.out ?_
    refine dn aa.out ?_
    clear hHeld
    go_wp2_with (first
     | (refine a7 rfl 43 (.tmp 5) rfl s_ rfl _ _ _ hY.out Tryz.underlying43 rfl 2 (by kernel_rfl) rfl ?_)
     | (refine ay rfl 43 (.tmp 2) (.tmp 30) rfl g2 [.int .u32 d1, .int .i64 d2] rfl rfl 43 _ HX.out 2 (by kernel_rfl) rfl rfl (by intro u hu; simp at hu; rcases hu with rfl | rfl <;> rfl) ?_; intro W9 eP cI))
    refine bodyPost_ret (bT rfl _ _ g2 43 _ (0, 0) _ rfl eP Tryz.underlying43 rfl (by kernel_rfl)) rfl ⟨rfl, HB.out.grown cI HB.out.size (by intro k hk; cases hk; exact fR.out)⟩
   ·have aw : (z == 45) = false := by rw [beq_eq_false_iff_ne]; exact P6
    have um := ak (show (45 : UInt8) ∉ s.data.toList.take (j + 1) by
     rw [List.take_add_one, List.getElem?_eq_getElem (by rw [cG]; exact hjn), hel]
     intro hm
     rcases List.mem_append.1 hm with h | h
     ·exact HJ.out h
     ·simp at h
      have h2 := congrArg UInt8.toNat h
      rw [show (UInt8.ofNat z.toNat).toNat = z.toNat % 256 from rfl] at h2
      have : (45 : UInt8).toNat = 45 := rfl
      omega)
    clear hel
    go_wp2
    go_roundw
    case rel => exact ⟨j + 1, by omega, by go_num, (by first | rfl | trivial), um⟩
    case measure => simp [intOf]; omega
  ·obtain rfl : j = s.size := by omega
   have hjb : decide ((s.size : Int) < (s.size : Int)) = false := by simp
   have HN := ak (show iV s = (0, 0, false) by
    unfold iV
    rw [MF s (by have := HJ.out; rwa [List.take_of_length_le (by rw [cG]; omega)] at this)])
   have hq := HD.out.symm.trans HN.out
   simp only [Prod.mk.injEq] at hq
   obtain ⟨rfl, rfl, rfl⟩ := hq
   go_wp2_with (first
    | ((with_reducible refine af (N := 32) rfl ?_); refine dE rfl 43 #[] rfl ye (by kernel_rfl) ?_)
    | (refine ay rfl 43 (.tmp 2) (.tmp 32) rfl g2 ye rfl rfl 43 _ HX.out 2 (by kernel_rfl) rfl rfl (by intro u hu; simp [ye] at hu; rcases hu with rfl | rfl <;> rfl) ?_; intro W9 eP cI))
   refine bodyPost_ret (bT rfl _ _ g2 43 _ (0, 0) _ rfl eP Tryz.underlying43 rfl (by kernel_rfl)) rfl ⟨rfl, HB.out.grown cI HB.out.size (by intro k hk; cases hk; exact fR.out)⟩
theorem dv.calls (a0 : ByteArray) (r1 : Int) (r2 : Int) (r3 : Bool) (w : World) (h : dv.f a0 = some (r1, r2, r3)) :
  Calls Tryz.prog 37 #[.string a0] w fun e w' => e = .returned (.tuple #[.agg #[.int .u32 r1, .int .i64 r2], .bool r3]) ∧ Below w.heap.size w w' := by
 unfold dv.f at h
 split at h
 ·rename_i hs
  have e := Option.some.inj h
  refine (Ov a0 hs w).mono ?_
  rw [e]
  exact fun _ _ h => h
 ·cases h
end
section
def fK.f (l0 : List Int) : Option (List Int) := if l0.length ≤ 4294967296 then some l0 else none
theorem fK.calls (A0 : Option Addr) (c0 : Nat) (l0 : List Int) (r : List Int) (w : World) (nS : Kd.C (Kd.int .u8) w A0 l0.length l0) (en : l0.length ≤ c0) (h : fK.f l0 = some r) :
  Calls Tryz.prog 113 #[.slice A0 l0.length c0] w fun e w' => ∃ rq : Value, e = .returned rq ∧ Kd.R (Kd.int .u8) 5 w' w.heap.size (fun _ => True) rq r ∧ Below w.heap.size w w' := by
 unfold fK.f at h
 split at h
 ·rename_i hl
  obtain rfl := Option.some.inj h
  exact Sr l0 A0 c0 w nS en hl
 ·cases h
end
section
structure Rd (W : World) (g : Nat) (ok : Nat → Prop) (v : Value) (l : List Int) (bad : Bool) : Prop where
 box : bC W g [v, .bool bad] 185
 vw : Kd.V (Kd.int .u8) 5 W 0 ok v l
 ng : ∀ k, ok k → k ≠ g
section
variable {W W1 : World} {g : Nat} {ok : Nat → Prop} {v : Value} {l : List Int} {bad : Bool}
theorem Rd.below (h : Rd W g ok v l bad) (hb : Below W.heap.size W W1) : Rd W1 g ok v l bad := ⟨h.box.below hb, Kd.V_below h.vw hb, h.ng⟩
theorem Rd.grown (h : Rd W g ok v l bad) {row : Option Nat} (hg : W.grownBy W1 row) (hr : ∀ k, ok k → some k ≠ row) (hn : some g ≠ row) : Rd W1 g ok v l bad := ⟨h.box.grown hg hn, Kd.V_grown h.vw hg hr, h.ng⟩
end
def aC (l : List Int) (bad : Bool) (n : Int) : List Int × List Int × Bool := if bad = false ∧ 0 ≤ n ∧ n ≤ l.length then (l.take n.toNat, l.drop n.toNat, false) else ([], l, true)
theorem lG {g : Nat} {ok : Nat → Prop} {v : Value} {l : List Int} {bad : Bool} (W : World) (h : Rd W g ok v l bad) :
  Calls Tryz.prog 95 #[.pointer (some ⟨g, 0, none⟩)] W fun e W' => e = .returned (.bool bad) ∧ Below W.heap.size W W' := by
 have h1 := h.box.cell 1 _ rfl
 clear h
 go_enter Tryz.func95, Tryz.ntmps95
 go_wp2
 go_ret
 exact ⟨rfl, Below.refl _ _⟩
theorem uF {g : Nat} {ok : Nat → Prop} {v : Value} {l : List Int} {bad : Bool} (W : World) (h : Rd W g ok v l bad) :
  Calls Tryz.prog 114 #[.pointer (some ⟨g, 0, none⟩)] W fun e W' => e = .returned (.tuple #[]) ∧ Rd W' g ok v l true ∧ W.grownBy W' (some g) := by
 have hb := h.box
 have H := ak h
 have h1 := h.box.cell 1 _ rfl
 have xJ := h.box.frozen 1
 clear h
 go_enter Tryz.func114, Tryz.ntmps114
 go_wp2
 go_end0
 exact ⟨rfl, ⟨hb.set 1 (.bool true), Kd.V_far (p := ⟨g, 1, none⟩) H.out.vw (fun k hk => H.out.ng k hk) _, H.out.ng⟩, b8 _ _ _ _⟩
theorem U1 (A : Option Addr) (n c : Nat) (j : Int) (h0 : 0 ≤ j) (hm : j ≤ n) (hc : n ≤ c) : ∀ W : World, (Instr.slice 61 (.slice A n c) none (some (.int .i64 j)) (some (.int .i64 j))).run Tryz.prog W = .ok (.slice A j.toNat j.toNat) W := by
 intro W
 obtain ⟨i, hi, hz⟩ := Option.map_eq_some_iff.1 kA
 have hel : Tryz.prog.elem 61 = 5 := by simp [Program.elem, Tryz.underlying61]
 have hu : Tryz.prog.underlying 61 = some (.slice (Tryz.prog.elem 61)) := by rw [hel]; exact Tryz.underlying61
 have ha : (A.map fun x => x.add 0) = A := by cases A <;> simp [Addr.add]
 rw [run_slice_hm W 61 A n c hu .i64 .i64 j j h0 (Int.le_refl _) (by omega), hel]
 simp [sizeOf, typeInfo, hi, sliced, Result.andThen, ha]
theorem Xo (A : Option Addr) (n c : Nat) (j : Int) (h0 : 0 ≤ j) (hm : j ≤ n) : ∀ W : World, (Instr.slice 61 (.slice A n c) (some (.int .i64 j)) none none).run Tryz.prog W = .ok (.slice (if c = j.toNat then A else A.map (·.add (j.toNat * 1))) (n - j.toNat) (c - j.toNat)) W := by
 obtain ⟨i, hi, hz⟩ := Option.map_eq_some_iff.1 kA
 simp only [Prod.mk.injEq] at hz
 exact OC 61 5 .i64 Tryz.underlying61 hi 1 hz.2.1 A n c j h0 hm
theorem SI {W : World} {ok : Nat → Prop} {A : Option Addr} {l : List Int} (hF : Kd.F (Kd.int .u8) W ok A l.length l) (m : Nat) (hm : m ≤ l.length) : Kd.V (Kd.int .u8) 5 W 0 ok (.slice A m m) (l.take m) :=
 ⟨A, m, by rw [List.length_take, Nat.min_eq_left hm], by rw [List.length_take]; omega, Kd.F_take hF hm⟩
theorem SJ {W : World} {ok : Nat → Prop} {A : Option Addr} {l : List Int} {c : Nat} (hF : Kd.F (Kd.int .u8) W ok A l.length l) (m : Nat) (hm : m ≤ l.length) (hc : l.length ≤ c) : Kd.V (Kd.int .u8) 5 W 0 ok (.slice (if c = m then A else A.map (·.add (m * 1))) (l.length - m) (c - m)) (l.drop m) :=
 ⟨_, c - m, by rw [List.length_drop]; rfl, by rw [List.length_drop]; omega, Kd.F_cut hF hm hc⟩
set_option maxHeartbeats 1000000 in
theorem sg {g : Nat} {ok : Nat → Prop} {v : Value} {l : List Int} {bad : Bool} (n : Int) (tV : -9223372036854775808 ≤ n) (kk : n ≤ 9223372036854775807) (W : World) (h : Rd W g ok v l bad) :
  Calls Tryz.prog 90 #[.pointer (some ⟨g, 0, none⟩), .int .i64 n] W fun e W' => ∃ u v', e = .returned u ∧ Kd.V (Kd.int .u8) 5 W' 0 ok u (aC l bad n).1 ∧ Rd W' g ok v' (aC l bad n).2.1 (aC l bad n).2.2 ∧ W.grownBy W' (some g) := by
 have H := ak h
 obtain ⟨A, c, rfl, hc, hF⟩ := h.vw
 have HF := ak hF
 have h0 := h.box.cell 0 _ rfl
 by_cases hg : bad = false ∧ 0 ≤ n ∧ n ≤ l.length
 ·have HP := ak (show aC l bad n = (l.take n.toNat, l.drop n.toNat, false) from if_pos hg)
  obtain ⟨rfl, xI, cj⟩ := hg
  rw [HP.out]
  have b1 : decide (n < 0) = false := by simp; omega
  have b2 : decide ((l.length : Int) < n) = false := by simp; omega
  have b3 : decide (n > (l.length : Int)) = false := by simp; omega
  have q1 := U1 A l.length c n xI cj hc
  have q2 := Xo A l.length c n xI cj
  have VA := ak (SI hF n.toNat (by omega))
  have Ft := SJ hF n.toNat (by omega) hc
  obtain ⟨A2, My⟩ : ∃ A2, A2 = (if c = n.toNat then A else A.map (·.add (n.toNat * 1))) := ⟨_, rfl⟩
  rw [← My] at q2 Ft
  have Qt := ak Ft
  clear My Ft
  clear h hF
  go_enter Tryz.func90, Tryz.ntmps90
  go_wp2_with (first
   | (go_at_call 95; refine (lG _ H.out).mono ?_; rintro e W1 ⟨rfl, aw⟩; have H1 := ak (H.out.below aw); have bR := ak aw; have BH := H1.out.box.cell 0 _ rfl; have xJ := H1.out.box.frozen 0; clear h0 aw))
  go_ret
  have hS := b8 W1 g 0 (.slice A2 (l.length - n.toNat) (c - n.toNat))
  have hng : ∀ k, ok k → some k ≠ some g := fun k hk e => H.out.ng k hk (Option.some.inj e)
  refine ⟨_, _, rfl, Kd.V_grown (Kd.V_step VA.out (fun k hk hl => bR.out.block k hl)) hS hng, ⟨H1.out.box.set 0 _, Kd.V_grown (Kd.V_step Qt.out (fun k hk hl => bR.out.block k hl)) hS hng, H.out.ng⟩, ?_⟩
  exact (ef bR.out _).trans hS
 ·have HP := ak (show aC l bad n = ([], l, true) from if_neg hg)
  rw [HP.out]
  clear h hF
  cases hbd : bad with
  | true =>
   subst hbd
   clear hg
   go_enter Tryz.func90, Tryz.ntmps90
   go_wp2_with (first
    | (go_at_call 95; refine (lG _ H.out).mono ?_; rintro e W1 ⟨rfl, aw⟩; have H1 := ak (H.out.below aw); have bR := ak aw; clear h0 aw)
    | (go_at_call 114; refine (uF _ H1.out).mono ?_; rintro e W2 ⟨rfl, jk, dz⟩; have H2 := ak jk; have fR := ak dz; clear jk dz))
   go_ret
   exact ⟨_, _, rfl, Kd.V_nil _ _ _ _ _, H2.out, (ef bR.out _).trans fR.out⟩
  | false =>
   subst hbd
   by_cases hneg : n < 0
   ·have b1 : decide (n < 0) = true := by simp; omega
    clear hg
    go_enter Tryz.func90, Tryz.ntmps90
    go_wp2_with (first
     | (go_at_call 95; refine (lG _ H.out).mono ?_; rintro e W1 ⟨rfl, aw⟩; have H1 := ak (H.out.below aw); have bR := ak aw; clear h0 aw)
     | (go_at_call 114; refine (uF _ H1.out).mono ?_; rintro e W2 ⟨rfl, jk, dz⟩; have H2 := ak jk; have fR := ak dz; clear jk dz))
    go_ret
    exact ⟨_, _, rfl, Kd.V_nil _ _ _ _ _, H2.out, (ef bR.out _).trans fR.out⟩
   ·have hbig : (l.length : Int) < n := by
     rcases Int.lt_or_le (l.length : Int) n with h | h
     ·exact h
     ·exact absurd ⟨rfl, by omega, h⟩ hg
    have b1 : decide (n < 0) = false := by simp; omega
    have b2 : decide ((l.length : Int) < n) = true := by simp; omega
    clear hg
    go_enter Tryz.func90, Tryz.ntmps90
    go_wp2_with (first
     | (go_at_call 95; refine (lG _ H.out).mono ?_; rintro e W1 ⟨rfl, aw⟩; have H1 := ak (H.out.below aw); have bR := ak aw; have BH := H1.out.box.cell 0 _ rfl; clear h0 aw)
     | (go_at_call 114; refine (uF _ H1.out).mono ?_; rintro e W2 ⟨rfl, jk, dz⟩; have H2 := ak jk; have fR := ak dz; clear jk dz))
    go_ret
    exact ⟨_, _, rfl, Kd.V_nil _ _ _ _ _, H2.out, (ef bR.out _).trans fR.out⟩
end
section
theorem Aq {g : Nat} {ok : Nat → Prop} {v : Value} {l : List Int} {bad : Bool} (W : World) (h : Rd W g ok v l bad) :
  Calls Tryz.prog 85 #[.pointer (some ⟨g, 0, none⟩)] W fun e W' => e = .returned (.bool (!bad && ((l.length : Int) == 0))) ∧ Below W.heap.size W W' := by
 have H := ak h
 obtain ⟨A, c, rfl, hc, hF⟩ := h.vw
 clear h hF
 cases bad with
 | true =>
  go_enter Tryz.func85, Tryz.ntmps85
  go_wp2_with (first
   | (go_at_call 95; refine (lG _ H.out).mono ?_; rintro e W1 ⟨rfl, aw⟩; have bR := ak aw; clear aw))
  go_ret
  exact ⟨rfl, bR.out⟩
 | false =>
  go_enter Tryz.func85, Tryz.ntmps85
  go_wp2_with (first
   | (go_at_call 95; refine (lG _ H.out).mono ?_; rintro e W1 ⟨rfl, aw⟩; have BH := (H.out.below aw).box.cell 0 _ rfl; have bR := ak aw; clear aw))
  go_ret
  exact ⟨rfl, bR.out⟩
def az (l : List Int) : Nat := l.foldl (fun n c => n * 256 + c.toNat) 0
theorem Dm (l : List Int) (x : Int) : az (l ++ [x]) = az l * 256 + x.toNat := by simp [az, List.foldl_append]
theorem Ij : ∀ (l : List Int), dC l → ∀ n, l.foldl (fun n c => n * 256 + c.toNat) n < (n + 1) * 256 ^ l.length
 | [], _, n => by simp
 | x :: l, h, n => by
  have h1 := Ij l (fun y hy => h y (by simp [hy])) (n * 256 + x.toNat)
  have h2 := h x (by simp)
  have h3 : (n * 256 + x.toNat + 1) * 256 ^ l.length ≤ ((n + 1) * 256) * 256 ^ l.length := Nat.mul_le_mul_right _ (by omega)
  rw [List.foldl_cons, List.length_cons, Nat.pow_succ, Nat.mul_comm (256 ^ l.length) 256, ← Nat.mul_assoc]
  omega
theorem s5 {l : List Int} (h : dC l) : az l < 256 ^ l.length := by
 have := Ij l h 0
 simpa [az] using this
theorem LM (n b : Nat) (hn : n < 72057594037927936) (hb : b < 256) : Go.bits .or .u64 ((n : Int) * 256) (b : Int) = ((n * 256 + b : Nat) : Int) := by
 rw [show (n : Int) * 256 = ((n * 256 : Nat) : Int) by omega, u64_or_nat _ _ (by omega) (by omega), nat_join 8 _ _ (by omega) (by omega)]
set_option maxHeartbeats 1000000 in
theorem AI {g : Nat} {ok : Nat → Prop} {v : Value} {l : List Int} {bad : Bool} (m : Nat) (Ms : 1 ≤ m) (lv : m ≤ 7) (hl : dC l) (W : World) (h : Rd W g ok v l bad) :
  Calls Tryz.prog 84 #[.pointer (some ⟨g, 0, none⟩), .int .i64 (m : Int)] W fun e W' => ∃ v', e = .returned (.int .u64 (az (aC l bad m).1 : Nat)) ∧ Rd W' g ok v' (aC l bad m).2.1 (aC l bad m).2.2 ∧ W.grownBy W' (some g) := by
 have H := ak h
 obtain ⟨p, hp⟩ : ∃ p, p = aC l bad m := ⟨_, rfl⟩
 have Ys : dC p.1 := by
  rw [hp]; unfold aC; split
  ·exact fun x hx => hl x (List.mem_of_mem_take hx)
  ·intro x hx; simp at hx
 have hpl : p.1.length ≤ 7 := by
  rw [hp]; unfold aC; split
  ·simp; omega
  ·simp
 rw [← hp]
 have HP := ak hp
 have QC := ak Ys
 obtain ⟨L, l', bad'⟩ := p
 have b1 : decide ((m : Int) < 1) = false := by simp; omega
 have b2 : decide (8 < (m : Int)) = false := by simp; omega
 have b3 : decide ((m : Int) > 8) = false := by simp; omega
 clear h hp Ys
 dsimp only at QC hpl ⊢
 go_enter Tryz.func84, Tryz.ntmps84
 go_wp2_with (first
  | (go_at_call 90; refine (sg (m : Int) (by omega) (by omega) _ H.out).mono ?_; rw [← HP.out]; rintro e W1 ⟨u, v', rfl, hv, hr, hg⟩; have HR := ak hr; have HG := ak hg; obtain ⟨A, c, rfl, hc, hF⟩ := hv; have HF := ak hF; clear hr hg hF))
 go_loopw [5, 7, 20] (fun s _ i V => ∃ k : Nat, k ≤ L.length ∧ V = W1 ∧ i = .int .i64 k ∧ s = .int .u64 ((az (L.take k) : Nat) : Int)) (fun _ _ i _ => L.length - (intOf i).toNat)
 case atStart => exact ⟨0, by omega, rfl, rfl, rfl⟩
 case round =>
  obtain ⟨k, hk, rfl, rfl, rfl⟩ := hrel
  by_cases hkn : k < L.length
  ·have hkb : decide ((k : Int) < (L.length : Int)) = true := by simp; omega
   obtain ⟨ad, eA, hx⟩ := Kd.at_int (HF.out wr (fun _ _ _ => rfl)) k (by omega) (by omega)
   cases eA
   rw [Int.toNat_natCast] at hx
   have p1 : ((k : Int) < (L.length : Int)) = True := eq_true (by omega)
   obtain ⟨z, hz⟩ : ∃ z : Nat, rd L k = (z : Int) := ⟨(rd L k).toNat, by have := (iA QC.out k).1; omega⟩
   have rG : z < 256 := by have := (iA QC.out k).2; omega
   rw [hz] at hx
   obtain ⟨n, hn⟩ : ∃ n, n = az (L.take k) := ⟨_, rfl⟩
   have hnl : n < 72057594037927936 := by
    have h1 := s5 (l := L.take k) (fun x hx => QC.out x (List.mem_of_mem_take hx))
    have h2 : (256 : Nat) ^ (L.take k).length ≤ 256 ^ 7 := Nat.pow_le_pow_right (by omega) (by rw [List.length_take]; omega)
    rw [hn]
    exact Nat.lt_of_lt_of_le h1 (Nat.le_trans h2 (by decide))
   have hnx : az (L.take (k + 1)) = n * 256 + z := by
    rw [List.take_add_one, List.getElem?_eq_getElem hkn]
    have e : L[k] = (z : Int) := by rw [← hz]; simp [rd, List.getD, hkn]
    rw [e]
    show az (L.take k ++ [(z : Int)]) = _
    rw [Dm, ← hn, Int.toNat_natCast]
   have HNX := ak hnx
   rw [← hn]
   clear hn hnx hz
   go_wp2
   rw [LM n z hnl rG]
   exact ⟨⟨k + 1, by omega, trivial, by go_num, by rw [HNX.out]⟩, by simp [intOf]; omega⟩
  ·obtain rfl : k = L.length := by omega
   have hkb : decide ((L.length : Int) < (L.length : Int)) = false := by simp
   rw [List.take_of_length_le (Nat.le_refl L.length)]
   go_wp2
   go_ret
   exact ⟨_, rfl, HR.out, HG.out⟩
theorem vJ {g : Nat} {ok : Nat → Prop} {v : Value} {l : List Int} {bad : Bool} (hl : dC l) (W : World) (h : Rd W g ok v l bad) :
  Calls Tryz.prog 84 #[.pointer (some ⟨g, 0, none⟩), .int .i64 1] W fun e W' => ∃ v', e = .returned (.int .u64 (az (aC l bad 1).1 : Nat)) ∧ Rd W' g ok v' (aC l bad 1).2.1 (aC l bad 1).2.2 ∧ W.grownBy W' (some g) := AI 1 (by omega) (by omega) hl W h
theorem Tm {g : Nat} {ok : Nat → Prop} {v : Value} {l : List Int} {bad : Bool} (hl : dC l) (W : World) (h : Rd W g ok v l bad) :
  Calls Tryz.prog 84 #[.pointer (some ⟨g, 0, none⟩), .int .i64 4] W fun e W' => ∃ v', e = .returned (.int .u64 (az (aC l bad 4).1 : Nat)) ∧ Rd W' g ok v' (aC l bad 4).2.1 (aC l bad 4).2.2 ∧ W.grownBy W' (some g) := AI 4 (by omega) (by omega) hl W h
theorem b9 {l : List Int} (hl : dC l) (bad : Bool) (n : Int) : dC (aC l bad n).1 ∧ dC (aC l bad n).2.1 := by
 unfold aC
 split
 ·exact ⟨fun x hx => hl x (List.mem_of_mem_take hx), fun x hx => hl x (List.mem_of_mem_drop hx)⟩
 ·exact ⟨fun x hx => by simp at hx, hl⟩
theorem jJ (l : List Int) (bad : Bool) (n : Nat) : (aC l bad n).1.length ≤ n := by
 unfold aC
 split
 ·rw [List.length_take]; omega
 ·simp
theorem pf {l : List Int} (hl : dC l) (bad : Bool) : az (aC l bad 1).1 < 256 := by
 have h1 := s5 (b9 hl bad 1).1
 have h2 := jJ l bad 1
 exact Nat.lt_of_lt_of_le h1 (Nat.pow_le_pow_right (by omega) h2)
def cK (l : List Int) (bad : Bool) : List Int × List Int × Bool := aC (aC l bad 1).2.1 ((aC l bad 1).2.2 || decide (64 < az (aC l bad 1).1)) (az (aC l bad 1).1 : Nat)
set_option maxHeartbeats 1000000 in
theorem z6 {g : Nat} {ok : Nat → Prop} {v : Value} {l : List Int} {bad : Bool} (hl : dC l) (W : World) (h : Rd W g ok v l bad) :
  Calls Tryz.prog 88 #[.pointer (some ⟨g, 0, none⟩)] W fun e W' => ∃ v', e = .returned (.string (strOfNums (cK l bad).1)) ∧ Rd W' g ok v' (cK l bad).2.1 (cK l bad).2.2 ∧ W.grownBy W' (some g) := by
 have H := ak h
 have HL := ak hl
 have hn := pf hl bad
 have HU := ak (vJ hl (bad := bad) (g := g) (ok := ok) (v := v))
 have HT : Aside0 (cK l bad = aC (aC l bad 1).2.1 ((aC l bad 1).2.2 || decide (64 < az (aC l bad 1).1)) (az (aC l bad 1).1 : Nat)) := ⟨rfl⟩
 generalize hp : aC l bad 1 = p at hn HU HT
 generalize hq : cK l bad = q at HT ⊢
 clear hp hq
 obtain ⟨L, l1, Gj⟩ := p
 dsimp only at hn HU HT
 generalize az L = n at hn HU HT
 by_cases uV : 64 < n
 ·have b1 : decide (64 < n) = true := by simp; omega
  have HQ := ak (show q = aC l1 true (n : Int) by rw [HT.out, b1, Bool.or_true])
  clear h hl HT
  go_enter Tryz.func88, Tryz.ntmps88
  go_wp2_with (first
   | (go_at_call 84; refine (HU.out _ H.out).mono ?_; rintro e W1 ⟨v1, rfl, iN, cj⟩; have H1 := ak iN; have qI := ak cj; clear iN cj)
   | (go_at_call 114; refine (uF _ H1.out).mono ?_; rintro e W2 ⟨rfl, jk, dz⟩; have H2 := ak jk; have fR := ak (qI.out.trans dz); clear jk dz)
   | (go_at_call 90; refine (sg (n : Int) (by omega) (by omega) _ H2.out).mono ?_; rw [← HQ.out]; rintro e W3 ⟨u, v3, rfl, Fs, fP, dd⟩; have H3 := ak fP; have uo := ak (fR.out.trans dd); obtain ⟨A3, c3, rfl, xK, yx⟩ := Fs; have hst := Kd.C_string (P := Tryz.prog) (src := 61) (dst := 9) (c := c3) Tryz.underlying61 Tryz.underlying5 Tryz.underlying9 (yx W3 (fun _ _ _ => rfl)); clear fP dd yx))
  go_ret
  exact ⟨_, rfl, H3.out, uo.out⟩
 ·have b1 : decide (64 < n) = false := by simp; omega
  have HQ := ak (show q = aC l1 Gj (n : Int) by rw [HT.out, b1, Bool.or_false])
  clear h hl HT
  go_enter Tryz.func88, Tryz.ntmps88
  go_wp2_with (first
   | (go_at_call 84; refine (HU.out _ H.out).mono ?_; rintro e W1 ⟨v1, rfl, iN, cj⟩; have H1 := ak iN; have qI := ak cj; clear iN cj)
   | (go_at_call 90; refine (sg (n : Int) (by omega) (by omega) _ H1.out).mono ?_; rw [← HQ.out]; rintro e W3 ⟨u, v3, rfl, Fs, fP, dd⟩; have H3 := ak fP; have uo := ak (qI.out.trans dd); obtain ⟨A3, c3, rfl, xK, yx⟩ := Fs; have hst := Kd.C_string (P := Tryz.prog) (src := 61) (dst := 9) (c := c3) Tryz.underlying61 Tryz.underlying5 Tryz.underlying9 (yx W3 (fun _ _ _ => rfl)); clear fP dd yx))
  go_ret
  exact ⟨_, rfl, H3.out, uo.out⟩
theorem JV (l : List Int) (A : Option Addr) (c : Nat) (w : World) (hC : Kd.C (Kd.int .u8) w A l.length l) (hc : l.length ≤ c) (hl : l.length ≤ 4294967296) :
  Calls Tryz.prog 83 #[.slice A l.length c] w fun e w' => ∃ g v, e = .returned (.pointer (some ⟨g, 0, none⟩)) ∧ Rd w' g (fun k => w.heap.size ≤ k ∧ k ≠ g) v l false ∧ w.heap.size ≤ g ∧ Below w.heap.size w w' := by
 have HC := ak hC
 have HF := ak (show fK.f l = some l from if_pos hl)
 clear hC
 go_enter Tryz.func83, Tryz.ntmps83
 go_wp2_with (first
  | (go_at_call 113; refine (fK.calls A c l l w HC.out hc HF.out).mono ?_; rintro e W1 ⟨v1, rfl, fx, aw⟩; have kg := ak fx; have bR := ak aw; obtain ⟨A1, c1, rfl⟩ := Kd.R_slice fx; clear fx aw)
  | (refine cH rfl 185 (.tmp 5) rfl _ rfl ?_; intro g W2 hg hbx aU))
 go_ret
 have hW : W1.heap.size ≤ g := hg
 refine ⟨g, _, rfl, ⟨hbx, ?_, fun k hk => hk.2⟩, Nat.le_trans bR.out.size hW, bR.out.trans (aU.mono bR.out.size)⟩
 refine Kd.V_below (Kd.R_V (base := w.heap.size) (Kd.R_mono (Kd.R_bound kg.out) (fun k hk => ⟨hk.2.1, fun e => ?_⟩))) aU
 have := hk.2.2.1
 omega
end
section
theorem Gg : Tryz.prog.built 64 [] = some kW.toArray := by kernel_rfl
theorem xR : ∀ v ∈ kW, v.oneCell' = true := tg _ _ _ _ _ rfl rfl
end
section
structure Rw where
 addr : Int
 aff : ByteArray
 slots : List Int
 free : List Int
 attrs : List S78
structure RwR (W : World) (b : Rw) (A : Option Addr) (c : Nat) (A' : Option Addr) (c' : Nat) : Prop where
 l64 : b.slots.length = 64
 fr : Kd.C (Kd.int .u8) W A b.free.length b.free
 fc : b.free.length ≤ c
 ar : Kd.C iZ W A' b.attrs.length b.attrs
 ac : b.attrs.length ≤ c'
theorem RwR.below {W W1 : World} {b : Rw} {A A' : Option Addr} {c c' : Nat} (h : RwR W b A c A' c') (hb : Below W.heap.size W W1) : RwR W1 b A c A' c' := ⟨h.l64, Kd.C_below h.fr hb, h.fc, Kd.C_below h.ar hb, h.ac⟩
def Vi (W : World) (v : Value) (b : Rw) : Prop := ∃ A c A' c', v = .agg (eY b.addr b.aff b.slots (.slice A b.free.length c) (.slice A' b.attrs.length c')).toArray ∧ RwR W b A c A' c'
theorem Vi.below {W W1 : World} {v : Value} {b : Rw} (h : Vi W v b) (hb : Below W.heap.size W W1) : Vi W1 v b := by
 obtain ⟨A, c, A', c', e, hr⟩ := h
 exact ⟨A, c, A', c', e, hr.below hb⟩
def cv (a : S78) : At := ⟨a.f0, a.f1⟩
def ours (r : Rw) : Bk := ⟨r.addr, r.aff, r.slots, r.free.take 70, (r.attrs.take 70).map cv⟩
theorem dh {P : Program} {ops : Array Oper} {rest : List Oper} {o : Oper} {a : Act} {w : World} {Q : Exit → Act → World → Prop} (hgd : o.guard = none) (t : TypeId) (parts : Array (Nat × Operand)) (ho : o.op = .build t parts) (vals : List (Nat × Value)) (hv : (parts.map fun (i, x) => (i, a.eval x)).toList = vals) (cs : List Value)
  (hf : P.built t vals = some cs.toArray) (h : wpList P ops Q rest (a.put o.dst (.agg cs.toArray)) w) : wpList P ops Q (o :: rest) a w := dE hgd t parts ho cs (by rw [hv]; exact hf) h
end
section
def gG (l : List Int) : List Int × List Int × Bool := cK (cK l false).2.1 (cK l false).2.2
def vo (l : List Int) : At := ⟨strOfNums (cK l false).1, strOfNums (gG l).1⟩
def eL : Nat → List Int → Bool → List At × List Int × Bool
 | 0, l, bad => ([], l, bad)
 | n + 1, l, bad => if bad = true then ([], l, true) else (vo l :: (eL n (gG l).2.1 (gG l).2.2).1, (eL n (gG l).2.1 (gG l).2.2).2)
def o6 (l : List Int) (bad : Bool) : List At × List Int × Bool := eL (az (aC l bad 1).1) (aC l bad 1).2.1 (aC l bad 1).2.2
theorem lU {l : List Int} (hl : dC l) (bad : Bool) : dC (cK l bad).2.1 := (b9 (b9 hl bad 1).2 _ _).2
theorem DS : ∀ (n : Nat) (l : List Int) (bad : Bool), dC l → dC (eL n l bad).2.1
 | 0, l, bad, h => h
 | n + 1, l, bad, h => by
  unfold eL
  split
  ·exact h
  ·exact DS n _ _ (lU (lU h _) _)
theorem U5 (s : ByteArray) : Tryz.prog.built 81 [(0, .string s)] = some [Value.string s, .string ⟨#[]⟩].toArray := by kernel_rfl
theorem Rd.bound {W : World} {g : Nat} {ok : Nat → Prop} {v : Value} {l : List Int} {bad : Bool} (h : Rd W g ok v l bad) : Rd W g (fun k => ok k ∧ k < W.heap.size) v l bad := ⟨h.box, Kd.V_bound h.vw, fun k hk => h.ng k hk.1⟩
theorem Rd.mono {W : World} {g : Nat} {ok ok' : Nat → Prop} {v : Value} {l : List Int} {bad : Bool} (h : Rd W g ok v l bad) (hm : ∀ k, ok k → ok' k) (hn : ∀ k, ok' k → k ≠ g) : Rd W g ok' v l bad := ⟨h.box, Kd.V_mono h.vw hm, hn⟩
theorem th {α : Type} {d : Kd α} {e base g : Nat} {W W1 : World} {ok : Nat → Prop} {v : Value} {xs : List α} (h : d.R e W base ok v xs) (hg : W.grownBy W1 (some g)) (hlt : g < base) : d.R e W1 base ok v xs :=
 Kd.R_mono (Kd.R_grown (Kd.R_bound h) hg (fun k hk he => by have := hk.2.1; have := Option.some.inj he; omega)) (fun _ hk => hk.1)
set_option maxHeartbeats 4000000 in
theorem Fl {g : Nat} {ok : Nat → Prop} {v : Value} {l : List Int} {bad : Bool} (hl : dC l) (w : World) (h : Rd w g ok v l bad) :
  Calls Tryz.prog 89 #[.pointer (some ⟨g, 0, none⟩)] w fun e w' => ∃ o v', e = .returned o ∧ Kd.R Bf 81 w' w.heap.size (fun _ => True) o (o6 l bad).1 ∧ Rd w' g ok v' (o6 l bad).2.1 (o6 l bad).2.2 ∧ w.grownBy w' (some g) := by
 have hgl := h.box.lt
 have HNG := ak h.ng
 have H := ak h.bound
 have HU := ak (vJ hl (bad := bad) (g := g) (ok := fun k => ok k ∧ k < w.heap.size) (v := v))
 have PJ := (b9 hl bad 1).2
 have hn := pf hl bad
 have HF : Aside0 (eL (az (aC l bad 1).1) (aC l bad 1).2.1 (aC l bad 1).2.2 = o6 l bad) := ⟨rfl⟩
 generalize hfu : o6 l bad = full at HF ⊢
 generalize hp : aC l bad 1 = p at HU PJ HF hn
 obtain ⟨L, l1, Gj⟩ := p
 dsimp only at HU PJ HF hn
 generalize az L = n at HU HF hn
 clear h hp hfu hl
 go_enter Tryz.func89, Tryz.ntmps89
 go_wp2_with (first
  | (go_at_call 84; refine (HU.out _ H.out).mono ?_; rintro e W1 ⟨v1, rfl, iN, cj⟩; have H1 := ak iN; have qI := ak cj; clear iN cj))
 go_loopw [3, 4, 5] (fun o nv _ W => ∃ (m : Nat) (l2 : List Int) (fC : Bool) (acc : List At) (v2 : Value), m + acc.length = n ∧ nv = .int .u64 ((m : Nat) : Int) ∧ Aside0 (Kd.R Bf 81 W w.heap.size (fun _ => True) o acc) ∧ Aside0 (Rd W g (fun k => ok k ∧ k < w.heap.size) v2 l2 fC) ∧ Aside0 (w.grownBy W (some g)) ∧ Aside0 (dC l2) ∧ Aside0 (full = (acc ++ (eL m l2 fC).1, (eL m l2 fC).2))) (fun _ nv _ _ => (intOf nv).toNat)
 case atStart => exact ⟨n, l1, Gj, [], v1, by simp, rfl, ⟨Kd.R_nil _ _ _ _ _⟩, H1, qI, ⟨PJ⟩, ⟨by rw [← HF.out, List.nil_append]⟩⟩
 case round =>
  clear H1 qI PJ HF HU
  obtain ⟨m, l2, fC, acc, v2, hm, rfl, HO, HR, HG, H8, HE⟩ := hrel
  obtain ⟨W, rfl⟩ : ∃ W : World, W = wr := ⟨_, rfl⟩
  cases m with
  | zero =>
   obtain ⟨Ao, co, rfl⟩ := Kd.R_slice HO.out
   go_wp2
   go_ret
   have e : full = (acc, l2, fC) := by rw [HE.out]; simp [eL]
   rw [e]
   exact ⟨_, _, rfl, HO.out, HR.out.mono (fun _ hk => hk.1) HNG.out, HG.out⟩
  | succ m =>
   have hgt : decide ((0 : Int) < ((m + 1 : Nat) : Int)) = true := by rw [decide_eq_true_eq]; omega
   cases fC with
   | true =>
    obtain ⟨Ao, co, rfl⟩ := Kd.R_slice HO.out
    have e : full = (acc, l2, true) := by rw [HE.out]; simp [eL]
    go_wp2_with (first
     | (go_at_call 95; refine (lG _ HR.out).mono ?_; rintro e W1 ⟨rfl, aw⟩; have ke := ak (HR.out.below aw); have kg := ak (Kd.R_below HO.out aw); have qI := ak (HG.out.trans (ef aw _)); clear aw))
    go_ret
    rw [e]
    exact ⟨_, _, rfl, kg.out, ke.out.mono (fun _ hk => hk.1) HNG.out, qI.out⟩
   | false =>
    have pM := ak (show full = (acc ++ (vo l2 :: (eL m (gG l2).2.1 (gG l2).2.2).1), (eL m (gG l2).2.1 (gG l2).2.2).2) from HE.out)
    have BY := ak (fun (W : World) (v : Value) (h : Rd W g (fun k => ok k ∧ k < w.heap.size) v l2 false) => z6 H8.out W h)
    have Bo := lU H8.out false
    have yL := ak (fun (W : World) (v : Value) (h : Rd W g (fun k => ok k ∧ k < w.heap.size) v (cK l2 false).2.1 (cK l2 false).2.2) => z6 Bo W h)
    have nK := ak (lU Bo (cK l2 false).2.2)
    have HA : Aside0 (vo l2 = ⟨strOfNums (cK l2 false).1, strOfNums (cK (cK l2 false).2.1 (cK l2 false).2.2).1⟩) := ⟨rfl⟩
    have HTE : Aside0 (gG l2 = cK (cK l2 false).2.1 (cK l2 false).2.2) := ⟨rfl⟩
    generalize gG l2 = q1 at pM HTE
    generalize vo l2 = U9 at pM HA
    generalize cK l2 false = q0 at BY yL nK HA HTE Bo
    generalize cK q0.2.1 q0.2.2 = q2 at yL nK HA HTE
    obtain ⟨b0, l3, d3⟩ := q0
    obtain ⟨b1, l4, d4⟩ := q2
    dsimp only at BY yL nK HA HTE
    obtain ⟨s0, mi⟩ : ∃ s0, s0 = strOfNums b0 := ⟨_, rfl⟩
    obtain ⟨s1, rV⟩ : ∃ s1, s1 = strOfNums b1 := ⟨_, rfl⟩
    rw [← mi] at BY HA
    rw [← rV] at yL HA
    obtain rfl := HA.out
    obtain ⟨L, hL⟩ : ∃ L : List At, L = acc ++ [⟨s0, s1⟩] := ⟨_, rfl⟩
    have HL := ak hL
    have bR := ak (U5 s0)
    have hac : acc.length ≤ 255 := by omega
    clear mi rV Bo H8 HE hL
    obtain ⟨Ao, co, rfl⟩ := Kd.R_slice HO.out
    go_wp2_with (first
     | (go_at_call 95; refine (lG _ HR.out).mono ?_; rintro e W1 ⟨rfl, aw⟩; have ke := ak (HR.out.below aw); have kg := ak (Kd.R_below HO.out aw); have qI := ak (HG.out.trans (ef aw _)); clear aw HR HO HG)
     | (go_at_call 88; refine (BY.out _ _ ke.out).mono ?_; rintro e W2 ⟨v3, rfl, jk, dz⟩; have qz := ak jk; have sJ := ak (th kg.out dz hgl); have fR := ak (qI.out.trans dz); clear jk dz ke kg qI)
     | ((with_reducible refine af (N := 19) rfl ?_); refine dh rfl 81 #[(0, .tmp 18)] rfl [(0, .string s0)] (by simp only [List.map_toArray, List.map_cons, List.map_nil]; rfl) [Value.string s0, .string ⟨#[]⟩] bR.out ?_)
     | (refine aE (some 5) rfl rfl 81 rfl [.string ⟨#[]⟩, .string ⟨#[]⟩] (fun _ => by kernel_rfl) ?_; intro ga W3 hga Ir fy; have kV := ak Ir; have vt := ak (qz.out.below fy); have xN := ak (Kd.R_below (Kd.R_mono (ok' := fun k => k ≠ ga) (Kd.R_bound sJ.out) (fun k hk => by have := hk.2.2.1; omega)) fy); have uo := ak (fR.out.trans (ef fy _)); have HGA := ak (show w.heap.size ≤ ga from Nat.le_trans fR.out.size hga); clear Ir fy hga qz sJ fR)
     | (refine ay rfl 81 (.tmp 5) (.tmp 19) rfl ga [.string s0, .string ⟨#[]⟩] rfl rfl 81 _ kV.out 2 (by kernel_rfl) rfl rfl (by intro u hu; simp at hu; rcases hu with rfl | rfl <;> rfl) ?_; intro W4 Fq cQ; have nT := ak Fq; have Ja := ak (vt.out.grown cQ (fun k hk e => by have := hk.2; have := HGA.out; have := Option.some.inj e; omega) (fun e => by have := HGA.out; have := Option.some.inj e; omega)); have Na := ak (Kd.R_grown xN.out cQ (fun k hk e => hk (Option.some.inj e))); have jf := ak (uo.out.andThen cQ (fun j hj => .inl (by have := HGA.out; cases hj; exact this))); clear Fq cQ kV vt xN uo)
     | (go_at_call 88; refine (yL.out _ _ Ja.out).mono ?_; rintro e W5 ⟨v4, rfl, yn, dH⟩; have Qy := ak yn; have Jd := ak (th Na.out dH hgl); have nJ := ak (nT.out.grown dH (fun e => by have := HGA.out; have := Option.some.inj e; omega)); have mT := ak (jf.out.trans dH); have Up := nJ.out.frozen 1; have BC := nJ.out.cell 1 _ rfl; clear yn dH Ja Na jf nT)
     | (generalize FP : W5.setCell ⟨ga, 1, none⟩ (.string s1) = W6; have FO : bC W6 ga [.string s0, .string s1] 81 := (by rw [← FP]; exact nJ.out.set 1 (.string s1)); have hgS : W5.grownBy W6 (some ga) := (by rw [← FP]; exact b8 W5 ga 1 (.string s1)); refine a7 rfl 81 (.tmp 5) rfl ga rfl _ _ _ FO Tryz.underlying81 rfl 2 (by kernel_rfl) rfl ?_; have Qx := ak (Qy.out.grown hgS (fun k hk e => by have := hk.2; have := HGA.out; have := Option.some.inj e; omega) (fun e => by have := HGA.out; have := Option.some.inj e; omega)); have wU := ak (Kd.R_grown Jd.out hgS (fun k hk e => hk (Option.some.inj e))); have HLT := FO.lt; have qC := ak (mT.out.andThen hgS (fun j hj => .inl (by have := HGA.out; cases hj; exact this))); clear hgS Up BC FP FO)
     | ((with_reducible refine cx (b := .append) (xs := #[.tmp 23, .tmp 25]) rfl ?_); at_builtin; refine Kd.R_append Bf (w0 := W6) w.heap.size rfl (.tmp 23) (.tmp 25) 62 81 (.agg #[.string ⟨#[]⟩, .string ⟨#[]⟩]) 32 rfl Tryz.underlying62 Rl rfl (by decide) (by omega) _ acc ⟨s0, s1⟩ [.string s0, .string s1] (fun k => k ≠ ga) (fun _ => False) rfl rfl (Rb _ _ _ _) (fun _ h => h.elim) (fun k hk => by omega) wU.out (Below.refl _ _) qC.out.size (by omega) ?_; intro v7 w7 qF ov dq Ak; rw [← HL.out] at qF; have D0 := ak (Kd.R_mono (ok' := fun _ => True) qF (fun _ _ => trivial)); have Qw := ak (Qx.out.grown dq (fun k hk e => by have := hk.2; have := Kd.R_base wU.out k e.symm; omega) (fun e => by have := Kd.R_base wU.out _ e.symm; omega)); have iP := ak (qC.out.andThen dq (fun j hj => .inl (Kd.R_base wU.out j hj))); clear qF ov dq Ak))
    go_roundw
    case rel => exact ⟨m, q1.2.1, q1.2.2, L, v4, by rw [HL.out, List.length_append, List.length_singleton]; omega, by go_num, D0, by rw [HTE.out]; exact Qw, iP, by rw [HTE.out]; exact nK, ⟨by rw [pM.out, HL.out]; simp⟩⟩
    case measure => simp [intOf]
end
section
theorem kL (s : ByteArray) : dC (bytesOf s) := by
 intro x hx
 simp only [bytesOf, List.mem_map] at hx
 obtain ⟨b, _, rfl⟩ := hx
 have := b.toNat_lt
 omega
def r0 (s : ByteArray) := aC (bytesOf s) false 1
def r1 (s : ByteArray) := aC (r0 s).2.1 (r0 s).2.2 4
def r2 (s : ByteArray) := cK (r1 s).2.1 (r1 s).2.2
def r3 (s : ByteArray) := o6 (r2 s).2.1 (r2 s).2.2
def r4 (s : ByteArray) := aC (r3 s).2.1 (r3 s).2.2 64
def r5 (s : ByteArray) := aC (r4 s).2.1 (r4 s).2.2 1
def r6 (s : ByteArray) := aC (r5 s).2.1 (r5 s).2.2 (az (r5 s).1 : Nat)
def kY (sl L : List Int) : List Int := L ++ sl.drop L.length
def cd (s : ByteArray) : Bk := ⟨(az (r1 s).1 : Nat), strOfNums (r2 s).1, kY (List.replicate 64 0) (r4 s).1, (r6 s).1, (r3 s).1⟩
def ju (s : ByteArray) : Bool := !(r6 s).2.2 && (((r6 s).2.1.length : Int) == 0)
def cB (s : ByteArray) : Bool := ju s && (decide (az (r0 s).1 = 66) && fl (cd s))
theorem pX (s : ByteArray) : dC (r0 s).2.1 := (b9 (kL s) _ _).2
theorem uD (s : ByteArray) : dC (r1 s).2.1 := (b9 (pX s) _ _).2
theorem wX (s : ByteArray) : dC (r2 s).2.1 := lU (uD s) _
theorem Jw (s : ByteArray) : dC (r3 s).2.1 := DS _ _ _ (b9 (wX s) _ 1).2
theorem AJ (s : ByteArray) : dC (r4 s).2.1 := (b9 (Jw s) _ _).2
theorem Px (s : ByteArray) : dC (r5 s).2.1 := (b9 (AJ s) _ _).2
theorem Lz (s : ByteArray) : (r4 s).1.length ≤ 64 := jJ _ _ 64
theorem MH {sl L : List Int} (hs : sl.length = 64) (h : L.length ≤ 64) : (kY sl L).length = 64 := by
 rw [kY, List.length_append, List.length_drop]
 omega
theorem y6 (s : ByteArray) : az (r1 s).1 < 4294967296 := by
 have h1 := s5 (b9 (pX s) (r0 s).2.2 4).1
 have h2 := jJ (r0 s).2.1 (r0 s).2.2 4
 exact Nat.lt_of_lt_of_le h1 (Nat.pow_le_pow_right (by omega) h2)
theorem ry (s : ByteArray) : BkOk (cd s) := by
 refine ⟨by show (0 : Int) ≤ ((_ : Nat) : Int); omega, by show (((az (r1 s).1 : Nat)) : Int) < 4294967296; have := y6 s; omega, ?_, (b9 (Px s) _ _).1⟩
 intro x hx
 have hx' : x ∈ (r4 s).1 ++ (List.replicate 64 (0 : Int)).drop (r4 s).1.length := hx
 rcases List.mem_append.1 hx' with h | h
 ·exact (b9 (Jw s) _ _).1 x h
 ·have := List.eq_of_mem_replicate (List.mem_of_mem_drop h)
  omega
section
variable {g : Nat} {ok : Nat → Prop} {v : Value} {W : World}
theorem JN (s : ByteArray) (h : Rd W g ok v (bytesOf s) false) : Calls Tryz.prog 84 #[.pointer (some ⟨g, 0, none⟩), .int .i64 1] W fun e W' => ∃ v', e = .returned (.int .u64 (az (r0 s).1 : Nat)) ∧ Rd W' g ok v' (r0 s).2.1 (r0 s).2.2 ∧ W.grownBy W' (some g) := vJ (kL s) W h
theorem Py (s : ByteArray) (h : Rd W g ok v (r0 s).2.1 (r0 s).2.2) : Calls Tryz.prog 84 #[.pointer (some ⟨g, 0, none⟩), .int .i64 4] W fun e W' => ∃ v', e = .returned (.int .u64 (az (r1 s).1 : Nat)) ∧ Rd W' g ok v' (r1 s).2.1 (r1 s).2.2 ∧ W.grownBy W' (some g) := Tm (pX s) W h
theorem Wu (s : ByteArray) (h : Rd W g ok v (r1 s).2.1 (r1 s).2.2) : Calls Tryz.prog 88 #[.pointer (some ⟨g, 0, none⟩)] W fun e W' => ∃ v', e = .returned (.string (strOfNums (r2 s).1)) ∧ Rd W' g ok v' (r2 s).2.1 (r2 s).2.2 ∧ W.grownBy W' (some g) := z6 (uD s) W h
theorem WG (s : ByteArray) (h : Rd W g ok v (r2 s).2.1 (r2 s).2.2) : Calls Tryz.prog 89 #[.pointer (some ⟨g, 0, none⟩)] W fun e W' => ∃ o v', e = .returned o ∧ Kd.R Bf 81 W' W.heap.size (fun _ => True) o (r3 s).1 ∧ Rd W' g ok v' (r3 s).2.1 (r3 s).2.2 ∧ W.grownBy W' (some g) := Fl (wX s) W h
theorem WE (s : ByteArray) (h : Rd W g ok v (r3 s).2.1 (r3 s).2.2) : Calls Tryz.prog 90 #[.pointer (some ⟨g, 0, none⟩), .int .i64 64] W fun e W' => ∃ u v', e = .returned u ∧ Kd.V (Kd.int .u8) 5 W' 0 ok u (r4 s).1 ∧ Rd W' g ok v' (r4 s).2.1 (r4 s).2.2 ∧ W.grownBy W' (some g) := sg 64 (by omega) (by omega) W h
theorem Wt (s : ByteArray) (h : Rd W g ok v (r4 s).2.1 (r4 s).2.2) : Calls Tryz.prog 84 #[.pointer (some ⟨g, 0, none⟩), .int .i64 1] W fun e W' => ∃ v', e = .returned (.int .u64 (az (r5 s).1 : Nat)) ∧ Rd W' g ok v' (r5 s).2.1 (r5 s).2.2 ∧ W.grownBy W' (some g) := vJ (AJ s) W h
theorem y5 (s : ByteArray) : az (r5 s).1 < 256 := pf (AJ s) _
theorem we (s : ByteArray) : az (r0 s).1 < 256 := pf (kL s) _
theorem WD (s : ByteArray) (h : Rd W g ok v (r5 s).2.1 (r5 s).2.2) : Calls Tryz.prog 90 #[.pointer (some ⟨g, 0, none⟩), .int .i64 (az (r5 s).1 : Nat)] W fun e W' => ∃ u v', e = .returned u ∧ Kd.V (Kd.int .u8) 5 W' 0 ok u (r6 s).1 ∧ Rd W' g ok v' (r6 s).2.1 (r6 s).2.2 ∧ W.grownBy W' (some g) := by
 have := y5 s
 exact sg (az (r5 s).1 : Nat) (by omega) (by omega) W h
theorem WA (s : ByteArray) (h : Rd W g ok v (r6 s).2.1 (r6 s).2.2) : Calls Tryz.prog 85 #[.pointer (some ⟨g, 0, none⟩)] W fun e W' => e = .returned (.bool (ju s)) ∧ Below W.heap.size W W' := Aq W h
end
theorem vy (s : ByteArray) (hs : s.size ≤ 1000000) (w : World) :
  Calls Tryz.prog 83 #[.slice (some ⟨w.heap.size, 0, none⟩) s.size (grownCap w s.size 0 5)] (Lib.bytesWorld w 5 s) fun e w' => ∃ g v, e = .returned (.pointer (some ⟨g, 0, none⟩)) ∧ Rd w' g (fun k => (w.heap.size < k ∧ k ≠ g) ∧ k < w'.heap.size) v (bytesOf s) false ∧ w.heap.size < g ∧ Below w.heap.size w w' := by
 have hC : Kd.C (Kd.int .u8) (Lib.bytesWorld w 5 s) (some ⟨w.heap.size, 0, none⟩) (bytesOf s).length (bytesOf s) := by
  rw [eU]
  exact Kd.C_of_reads (zM w 5 s (by omega))
 have h := JV (bytesOf s) (some ⟨w.heap.size, 0, none⟩) (grownCap w s.size 0 5) (Lib.bytesWorld w 5 s) hC (by rw [eU]; exact grownCap_ge _ _ _ _) (by rw [eU]; omega)
 rw [eU, Lib.bytesWorld_size] at h
 refine h.mono ?_
 rintro e w' ⟨g, v, rfl, hr, hg, hb⟩
 have iI : Below w.heap.size w w' := (Lib.bytesWorld_below w 5 s).trans (hb.mono (by omega))
 refine ⟨g, v, rfl, (hr.mono (ok' := fun k => w.heap.size < k ∧ k ≠ g) (fun k hk => ⟨by have := hk.1; omega, hk.2⟩) (fun k hk => hk.2)).bound, by omega, iI⟩
theorem NH {ys : List Int} {news : List Value} (h : bZ (fun (x : Int) (cs : List Value) => cs = [Value.int .u8 x]) 1 ys news) : news = ys.map (Value.int .u8) := by
 have hl : news.length = ys.length * 1 := h.1
 apply List.ext_getElem
 ·rw [List.length_map]; omega
 ·intro q h1 h2
  have e := h.2 q _ (List.getElem?_eq_getElem (show q < ys.length by omega))
  rw [Nat.mul_one, List.drop_eq_getElem_cons h1, List.take_succ_cons, List.take_zero] at e
  injection e with e _
  rw [e, List.getElem_map]
set_option maxRecDepth 100000 in
theorem Kf {W : World} {g : Nat} {a : Int} {s : ByteArray} {sl : List Int} {vf va : Value} {ok : Nat → Prop} {u : Value} {L : List Int} (ty : TypeId) (hb : bC W g (eY a s sl vf va) 64) (hl : sl.length = 64) (hv : Kd.V (Kd.int .u8) 5 W 0 ok u L) (hL : L.length ≤ 64) :
  ∃ v' w', (Builtin.copy_ #[61, 61] ty #[.slice (some ⟨g, 2, none⟩) 64 64, u]).run Tryz.prog W = .ok v' w' ∧ bC w' g (eY a s (kY sl L) vf va) 64 ∧ W.grownBy w' (some g) := by
 have hsz : (Tryz.prog.info? 5).map (·.size) = some 1 := by kernel_rfl
 obtain ⟨A, c, rfl, hc, hF⟩ := hv
 have hC := hF W (fun _ _ _ => rfl)
 rcases A with _ | ad
 ·have h0 : L = [] := by
   rcases Nat.eq_zero_or_pos L.length with h0 | h0
   ·exact List.eq_nil_of_length_eq_zero h0
   ·obtain ⟨ad, h, _⟩ := hC.2.2 h0
    cases h
  subst h0
  exact ⟨_, W, run_copy_none W 61 61 ty 5 _ _ 64 64 0 c Tryz.underlying61 hsz rfl, hb, World.grownBy.refl W _⟩
 ·obtain ⟨news, hnr, hnc⟩ := gu.inner_ hC
  obtain rfl := NH hnr
  have h68 := iz a s sl vf va hl
  refine ⟨_, _, run_copy_row Tryz.prog W 61 61 ty 5 g 2 64 64 ad L.length c (eY a s sl vf va).toArray 64 (L.map (Value.int .u8)) Tryz.underlying61 hsz hb ?_ hnc ?_ ?_, ?_, ?_⟩
  ·rw [List.length_map]; exact (Nat.min_eq_left hL).symm
  ·rw [List.length_map, List.size_toArray, h68]; omega
  ·intro x hx
   obtain ⟨z, _, rfl⟩ := List.mem_map.1 hx
   rfl
  ·have := setRow_heap W g _ (((eY a s sl vf va).toArray.toList.take 2 ++ L.map (Value.int .u8) ++ (eY a s sl vf va).toArray.toList.drop (2 + (L.map (Value.int .u8)).length)).toArray) 64 _ hb
   refine this.trans ?_
   congr 2
   rw [List.length_map, ← List.drop_drop]
   simp [eY, kY, List.drop_append, List.length_map, hl, show L.length - 64 = 0 by omega]
  ·exact tp _ _ _
theorem JB {ops : Array Oper} {o : Oper} {a : Act} {w : World} {K : Act → World → Prop} {Q : Exit → Act → World → Prop} {E : Prop} (hg : o.guard = none) (d x : Operand) (dT sT : TypeId)
  (hop : o.op = Op.call { callee := Callee.builtin Builtin.copy, args := #[d, x], argTypes := #[dT, sT] }) (v u : Value) (hd : a.eval d = v) (hx : a.eval x = u) {v' : Value} {w' : World}
  (hr : (Builtin.copy_ #[dT, sT] o.type #[v, u]).run Tryz.prog w = .ok v' w') (hK : K (a.put o.dst v') w') : if Region.wanted o (yielded ops a.tmps) = true then Oper.wp Tryz.prog o a w K Q else E := by
 rw [if_pos (by simp [Region.wanted, hg])]
 unfold Oper.wp
 simp [execOp, hop, resolve, invoke, builtin, hd, hx, hr, Result.andThen]
 exact hK
theorem U4 (x : Int) : Tryz.prog.built 64 [(0, .int .u32 x)] = some (eY x ⟨#[]⟩ (List.replicate 64 0) (.slice none 0 0) (.slice none 0 0)).toArray := by kernel_rfl
end
section
def rF.T6 : Bool × List (List Nat × List Nat) := (true, [([], []), ([0], [0]), ([], []), ([2], [2]), ([1, 3, 3], [1, 3])])
def rF.B6 : List Nat := [0, 1, 0, 4, 15]
theorem rF.tab6 : dA .any (opsOf Tryz.f55 6) = rF.T6 := by kernel_rfl
theorem rF.bits6 : dy rF.T6.2 rF.B6 = true := by kernel_rfl
set_option maxHeartbeats 8000000 in
set_option maxRecDepth 100000 in
theorem Lu (s : ByteArray) (hs : s.size ≤ 1000000) (w : World) :
  Calls Tryz.prog 55 #[.string s] w fun e w' => ∃ v, e = .returned (.tuple #[v, .int .i64 (if cB s = true then 0 else 3)]) ∧ dY (fun W => sm W v (if cB s = true then cd s else S4)) w' (fun k => w.heap.size ≤ k) ∧ Below w.heap.size w w' := by
 have tV := we s
 have kk := y6 s
 have Ue := y5 s
 have HN := ak (vy s hs)
 have H0 := ak (@JN · · · · s)
 have H1 := ak (@Py · · · · s)
 have H2 := ak (@Wu · · · · s)
 have H3 := ak (@WG · · · · s)
 have H4 := ak (@WE · · · · s)
 have H5 := ak (@Wt · · · · s)
 have H6 := ak (@WD · · · · s)
 have H7 := ak (@WA · · · · s)
 have GK := ak (Lz s)
 have HBK : Aside0 (cd s = ⟨(az (r1 s).1 : Nat), strOfNums (r2 s).1, kY (List.replicate 64 0) (r4 s).1, (r6 s).1, (r3 s).1⟩) := ⟨rfl⟩
 have HOK : Aside0 (cB s = (ju s && (decide (az (r0 s).1 = 66) && fl (cd s)))) := ⟨rfl⟩
 have HBO := ak (ry s)
 generalize cB s = rok at HOK ⊢
 generalize cd s = rbk at HBK HOK HBO ⊢
 generalize ju s = rdn at H7 HOK
 generalize az (r0 s).1 = n0 at tV H0 HOK
 generalize az (r1 s).1 = n1 at kk H1 HBK
 generalize az (r5 s).1 = n5 at Ue H5 H6
 generalize strOfNums (r2 s).1 = aff at H2 HBK
 generalize (r4 s).1 = L4 at H4 GK HBK
 generalize (r6 s).1 = L6 at H6 HBK
 generalize (r3 s).1 = L3 at H3 HBK
 have kb := fun (w : World) => Lib.run_convert_string_bytes (P := Tryz.prog) w 9 61 5 s Tryz.underlying9 Tryz.underlying61 Tryz.underlying5
 have HBR := ak (U4 (n1 : Int))
 have CW := ak (show (List.replicate 64 (0 : Int)).length = 64 by simp)
 have HSL := ak (MH CW.out GK.out)
 obtain ⟨Z, hZ⟩ : ∃ Z : List Int, Z = List.replicate 64 0 := ⟨_, rfl⟩
 obtain ⟨SL, hSL⟩ : ∃ SL : List Int, SL = kY Z L4 := ⟨_, rfl⟩
 rw [← hZ] at HBR CW HSL HBK
 rw [← hSL] at HSL HBK
 have HSE := ak hSL
 clear hZ hSL
 go_enter Tryz.func55, Tryz.ntmps55
 go_wp2_with (first
  | (refine aE (some 2) rfl rfl 64 rfl kW AB ?_; intro g2 W1 dz cP aw; have eM := ak cP; have bR := ak aw; have fR := ak dz; have HGL := ak cP.lt; clear cP aw dz)
  | (go_at_call 83; refine (HN.out _).mono ?_; rintro e W2 ⟨gr, v2, rfl, jk, hgr, aU⟩; have iO := ak (eM.out.below aU); have qz := ak jk; have HGR := ak hgr; have HNE := ak (show g2 ≠ gr by have := HGL.out; omega); have HGB := ak (show w.heap.size ≤ gr by have := bR.out.size; omega); have dW := ak (bR.out.trans (aU.mono bR.out.size)); clear jk hgr aU eM HN)
  | (go_at_call 84; refine (H0.out _ _ _ _ qz.out).mono ?_; rintro e W3 ⟨v3, rfl, fP, dd⟩; have vt := ak fP; have kV := ak (iO.out.grown dd (fun e => HNE.out (Option.some.inj e))); have DY := ak dd.size; have ep := ak (dW.out.grown dd dW.out.size (by intro k hk; cases hk; exact HGB.out)); clear fP dd qz iO)
  | (go_at_call 84; refine (H1.out _ _ _ _ vt.out).mono ?_; rintro e W4 ⟨v4, rfl, yo, cQ⟩; have Ja := ak yo; have nT := ak (kV.out.grown cQ (fun e => HNE.out (Option.some.inj e))); have M6 := ak (Nat.le_trans DY.out cQ.size); have iQ := ak (ep.out.grown cQ ep.out.size (by intro k hk; cases hk; exact HGB.out)); clear yo cQ vt kV ep DY)
  | ((with_reducible refine af (N := 15) rfl ?_); refine dh rfl 64 #[(0, .tmp 14)] rfl [(0, .int .u32 (n1 : Int))] (by simp only [List.map_toArray, List.map_cons, List.map_nil]; rfl) (eY (n1 : Int) ⟨#[]⟩ Z (.slice none 0 0) (.slice none 0 0)) HBR.out ?_)
  | (refine aE (some 6) rfl rfl 64 rfl kW AB ?_; intro g6 W5 jD FL FM; have wS := ak FL; have nJ := ak (nT.out.below FM); have Qy := ak (Ja.out.below FM); have lK := ak (iQ.out.trans (FM.mono iQ.out.size)); have qC := ak (show W2.heap.size ≤ g6 by have := M6.out; omega); have GM := ak (show w.heap.size ≤ g6 by have := iQ.out.size; omega); have uk := ak (show g2 ≠ g6 by have := nT.out.lt; omega); have mN := ak (show gr ≠ g6 by have := Ja.out.box.lt; omega); clear FL FM jD nT Ja iQ M6)
  | (refine ay rfl 64 (.tmp 6) (.tmp 15) rfl g6 (eY (n1 : Int) ⟨#[]⟩ Z (.slice none 0 0) (.slice none 0 0)) rfl rfl 64 _ wS.out 68 (by kernel_rfl) (iz _ _ _ _ _ CW.out) rfl (tg _ _ _ _ _ rfl rfl) ?_; intro W6 Yh jD; have DW := ak Yh; have sI := ak (nJ.out.grown jD (fun e => uk.out (Option.some.inj e))); have Qx := ak (Qy.out.grown jD (fun k hk e => by have := hk.2; have := qC.out; have := Option.some.inj e; omega) (fun e => mN.out (Option.some.inj e))); have nM := ak (lK.out.grown jD lK.out.size (by intro k hk; cases hk; exact GM.out)); clear Yh jD wS nJ Qy lK)
  | (go_at_call 88; refine (H2.out _ _ _ _ Qx.out).mono ?_; rintro e W7 ⟨v7, rfl, Yq, dq⟩; have Qw := ak Yq; have uj := ak (sI.out.grown dq (fun e => HNE.out (Option.some.inj e))); have yK := ak (DW.out.grown dq (fun e => mN.out (Option.some.inj e).symm)); have mU := ak (nM.out.grown dq nM.out.size (by intro k hk; cases hk; exact HGB.out)); have Yv := yK.out.frozen 1; have IA := yK.out.cell 1 _ rfl; clear Yq dq Qx sI DW nM)
  | (generalize yw : W7.setCell ⟨g6, 1, none⟩ (.string aff) = W8; go_at_call 89; have ym : bC W8 g6 (eY (n1 : Int) aff Z (.slice none 0 0) (.slice none 0 0)) 64 := (by rw [← yw]; exact yK.out.set 1 (.string aff)); have dG : W7.grownBy W8 (some g6) := (by rw [← yw]; exact b8 W7 g6 1 (.string aff)); have YV := ak (Qw.out.grown dG (fun k hk e => by have := hk.2; have := qC.out; have := Option.some.inj e; omega) (fun e => mN.out (Option.some.inj e))); have mu := ak (uj.out.grown dG (fun e => uk.out (Option.some.inj e))); have jN := ak (mU.out.grown dG mU.out.size (by intro k hk; cases hk; exact GM.out)); refine (H3.out _ _ _ _ YV.out).mono ?_; rintro e W9 ⟨o9, v9, rfl, wq, Yo, cI⟩; have QD := ak (Kd.R_lower wq jN.out.size); have YU := ak Yo; have Qs := ak (mu.out.grown cI (fun e => HNE.out (Option.some.inj e))); have Gz := ak (ym.grown cI (fun e => mN.out (Option.some.inj e).symm)); have qE := ak (jN.out.grown cI jN.out.size (by intro k hk; cases hk; exact HGB.out)); obtain ⟨A9, c9, rfl⟩ := Kd.R_slice wq; have hf9 := Gz.out.frozen 67; have hc9 := Gz.out.cell 67 _ (si _ _ _ _ _ CW.out); clear wq Yo cI ym dG yw Yv IA Qw uj yK mU YV mu jN))
 generalize Ok : W9.setCell ⟨g6, 67, none⟩ (.slice A9 L3.length c9) = vq
 have TY : bC vq g6 (eY (n1 : Int) aff Z (.slice none 0 0) (.slice A9 L3.length c9)) 64 := by
  rw [← Ok]
  have := Gz.out.set 67 (.slice A9 L3.length c9)
  rwa [Km _ _ _ _ _ CW.out] at this
 have gJ : W9.grownBy vq (some g6) := by rw [← Ok]; exact b8 W9 g6 67 _
 have hbd : Below vq.heap.size vq vq.drew := bu (Below.refl _ _)
 have OW := ak (Rd.below (YU.out.grown gJ (fun k hk e => by have := hk.2; have := qC.out; have := Option.some.inj e; omega) (fun e => mN.out (Option.some.inj e))) hbd)
 have Vz := ak ((Qs.out.grown gJ (fun e => uk.out (Option.some.inj e))).below hbd)
 have VX := ak (Kd.R_below (bS QD.out Gz.out (by decide) gJ) hbd)
 have Pf := ak (bu (qE.out.grown gJ qE.out.size (by intro k hk; cases hk; exact GM.out)))
 have Vs := ak (TY.below hbd)
 clear Ok TY gJ hbd YU Qs Gz qE QD hf9 hc9
 refine dV (n := 5) (S := fun w' => True) (ds := []) #[false, false, false, false, false] (by kernel_rfl) rfl rfl trivial (fun hHeld => ?_); refine cz rF.tab6 rF.bits6 (fun aa bV => ?_)
 refine pu 0 aa.out ?_
 refine pu 1 aa.out ?_
 refine pu 2 aa.out ?_
 refine on 3 aa.out (fun K hK => ?_)
 refine gs Tryz.func90 #[.pointer (some ⟨gr, 0, none⟩), .int .i64 64] (H4.out _ _ _ _ OW.out) ?_
 rintro e YR ⟨u11, v11, rfl, T2, Uc, xi⟩
 refine ⟨_, rfl, ?_⟩
 have VN := ak Uc; have Vy := ak (Vz.out.grown xi (fun e => HNE.out (Option.some.inj e))); have OS := ak (Vs.out.grown xi (fun e => mN.out (Option.some.inj e).symm)); have VW := ak (bS VX.out OW.out.box (by decide) xi); have Pe := ak (Pf.out.grown xi Pf.out.size (by intro k hk; cases hk; exact HGB.out)); have VF := ak T2; clear Uc xi T2 OW Vz Vs VX Pf
 refine kn hK trivial (fun hHeld => ?_)
 clear hK K
 refine on 4 aa.out (fun K hK => ?_)
 obtain ⟨v12, Qq, hrun, Ob, xh⟩ := Kf 3 OS.out CW.out VF.out GK.out
 rw [← HSE.out] at Ob
 have OV := ak (VN.out.grown xh (fun k hk e => by have := hk.2; have := qC.out; have := Option.some.inj e; omega) (fun e => mN.out (Option.some.inj e)))
 have Vx := ak (Vy.out.grown xh (fun e => uk.out (Option.some.inj e)))
 have VU := ak (bS VW.out OS.out (by decide) xh)
 have AA := ak (Pe.out.grown xh Pe.out.size (by intro k hk; cases hk; exact GM.out))
 have Vr := ak Ob
 refine JB rfl (.tmp 23) (.tmp 25) 61 61 rfl _ _ rfl rfl hrun ?_
 clear hrun Ob xh VN Vy OS VW Pe VF
 refine kn hK trivial (fun hHeld => ?_)
 clear hK K
 refine dn aa.out ?_
 go_wp2_with (first
  | (go_at_call 84; refine (H5.out _ _ _ _ OV.out).mono ?_; rintro e W13 ⟨X7, rfl, Ub, FC⟩; have OU := ak Ub; have Vv := ak (Vx.out.grown FC (fun e => HNE.out (Option.some.inj e))); have Vq := ak (Vr.out.grown FC (fun e => mN.out (Option.some.inj e).symm)); have VT := ak (bS VU.out OV.out.box (by decide) FC); have Pd := ak (AA.out.grown FC AA.out.size (by intro k hk; cases hk; exact HGB.out)); clear Ub FC OV Vx Vr VU AA)
  | (go_at_call 90; refine (H6.out _ _ _ _ OU.out).mono ?_; rintro e Vh ⟨u14, X6, rfl, Zv, Ua, xg⟩; have VM := ak Ua; have Vu := ak (Vv.out.grown xg (fun e => HNE.out (Option.some.inj e))); have GA := ak (Vq.out.grown xg (fun e => mN.out (Option.some.inj e).symm)); have VR := ak (bS VT.out OU.out.box (by decide) xg); have Pc := ak (Pd.out.grown xg Pd.out.size (by intro k hk; cases hk; exact HGB.out)); obtain ⟨yR, hG, rfl, Uz, UE⟩ := Zv; have Pa := ak Uz; have VE := ak UE; have ZN := GA.out.frozen 66; have Z2 := GA.out.cell 66 _ (Gh _ _ _ _ _ HSL.out); clear Ua xg Uz UE OU Vv Vq VT Pd))
 generalize Oj : Vh.setCell ⟨g6, 66, none⟩ (.slice yR L6.length hG) = YQ
 have TX : bC YQ g6 (eY (n1 : Int) aff SL (.slice yR L6.length hG) (.slice A9 L3.length c9)) 64 := by
  rw [← Oj]
  have := GA.out.set 66 (.slice yR L6.length hG)
  rwa [Kn _ _ _ _ _ HSL.out] at this
 have Ck : Vh.grownBy YQ (some g6) := by rw [← Oj]; exact b8 Vh g6 66 _
 have VL := ak (VM.out.grown Ck (fun k hk e => by have := hk.2; have := qC.out; have := Option.some.inj e; omega) (fun e => mN.out (Option.some.inj e)))
 have Vt := ak (Vu.out.grown Ck (fun e => uk.out (Option.some.inj e)))
 have VQ := ak (bS VR.out GA.out (by decide) Ck)
 have Pb := ak (Pc.out.grown Ck Pc.out.size (by intro k hk; cases hk; exact GM.out))
 have VD := ak (Kd.F_grown VE.out Ck (fun k hk e => by have := hk.2; have := qC.out; have := Option.some.inj e; omega))
 have Vp := ak TX
 clear Oj TX Ck VM Vu GA Pc VR VE ZN Z2
 go_at_call 85
 refine (H7.out _ _ _ _ VL.out).mono ?_
 rintro e Qp ⟨rfl, CJ⟩
 have Ky := ak (Vt.out.below CJ)
 have OR := ak (Vp.out.below CJ)
 have yN := ak (Pb.out.trans (CJ.mono Pb.out.size))
 have OY := ak (Kd.R_below VQ.out CJ)
 have OT := ak (Kd.F_below VD.out CJ)
 clear CJ VL Vt Vp Pb VQ VD H0 H1 H2 H3 H4 H5 H6 H7
 cases rdn with
 | false =>
  obtain rfl : rok = false := by rw [HOK.out]; rfl
  go_wp2_with (first
   | (refine dE rfl 64 #[] rfl kW Gg ?_)
   | (refine ay rfl 64 (.tmp 2) (.tmp 45) rfl g2 kW rfl rfl 64 _ Ky.out 68 (by kernel_rfl) rfl rfl xR ?_; intro Vg Ai xf))
  exact bodyPost_ret (bT rfl _ _ g2 64 _ (0, 0) _ rfl Ai Tryz.underlying64 rfl (by simp only [List.size_toArray]; exact AX _ rfl)) rfl ⟨_, rfl, fun W' _ => (Js W' 0).toV, yN.out.grown xf yN.out.size (by intro k hk; cases hk; exact fR.out)⟩
 | true =>
  by_cases pz : n0 = 66
  ·subst pz
   cases hrt : fl rbk with
   | false =>
    have HRT := ak hrt
    obtain rfl : rok = false := by rw [HOK.out, hrt]; rfl
    clear hrt
    obtain rfl := HBK.out
    have hv : sm Qp (.agg (eY (n1 : Int) aff SL (.slice yR L6.length hG) (.slice A9 L3.length c9)).toArray) ⟨(n1 : Int), aff, SL, L6, L3⟩ := by
     obtain ⟨A', c', hq, hcc, hC⟩ := Kd.R_reads OY.out
     cases hq
     exact ⟨yR, hG, A9, c9, rfl, HSL.out, OT.out Qp (fun _ _ _ => rfl), Pa.out, hC, hcc⟩
    have HV := ak hv
    clear hv
    go_wp2_with (first
     | ((with_reducible refine af (N := 41) rfl ?_); refine bL (by rfl) ?_; refine a7 rfl 64 (.tmp 6) rfl g6 rfl _ _ _ OR.out Tryz.underlying64 rfl 68 (by kernel_rfl) (iz _ _ _ _ _ HSL.out) ?_)
     | (go_at_call 76; refine (AZ _ HBO.out _ _ HV.out).mono ?_; rintro e W17 ⟨rfl, vC⟩; rw [HRT.out]; have Kx := ak (Ky.out.below vC); have GU := ak (yN.out.trans (vC.mono yN.out.size)); clear vC)
     | (refine dE rfl 64 #[] rfl kW Gg ?_)
     | (refine ay rfl 64 (.tmp 2) (.tmp 45) rfl g2 kW rfl rfl 64 _ Kx.out 68 (by kernel_rfl) rfl rfl xR ?_; intro Vg Ai xf))
    exact bodyPost_ret (bT rfl _ _ g2 64 _ (0, 0) _ rfl Ai Tryz.underlying64 rfl (by simp only [List.size_toArray]; exact AX _ rfl)) rfl ⟨_, rfl, fun W' _ => (Js W' 0).toV, GU.out.grown xf GU.out.size (by intro k hk; cases hk; exact fR.out)⟩
   | true =>
    have HRT := ak hrt
    obtain rfl : rok = true := by rw [HOK.out, hrt]; rfl
    clear hrt
    obtain rfl := HBK.out
    have hv : sm Qp (.agg (eY (n1 : Int) aff SL (.slice yR L6.length hG) (.slice A9 L3.length c9)).toArray) ⟨(n1 : Int), aff, SL, L6, L3⟩ := by
     obtain ⟨A', c', hq, hcc, hC⟩ := Kd.R_reads OY.out
     cases hq
     exact ⟨yR, hG, A9, c9, rfl, HSL.out, OT.out Qp (fun _ _ _ => rfl), Pa.out, hC, hcc⟩
    have HV := ak hv
    clear hv
    go_wp2_with (first
     | ((with_reducible refine af (N := 41) rfl ?_); refine bL (by rfl) ?_; refine a7 rfl 64 (.tmp 6) rfl g6 rfl _ _ _ OR.out Tryz.underlying64 rfl 68 (by kernel_rfl) (iz _ _ _ _ _ HSL.out) ?_)
     | (go_at_call 76; refine (AZ _ HBO.out _ _ HV.out).mono ?_; rintro e W17 ⟨rfl, vC⟩; rw [HRT.out]; have Kx := ak (Ky.out.below vC); have ab0 := ak (OR.out.below vC); have VP := ak (Kd.R_below OY.out vC); have ab1 := ak (Kd.F_below OT.out vC); have GU := ak (yN.out.trans (vC.mono yN.out.size)); clear vC)
     | (refine a7 rfl 64 (.tmp 6) rfl g6 rfl _ _ _ ab0.out Tryz.underlying64 rfl 68 (by kernel_rfl) (iz _ _ _ _ _ HSL.out) ?_)
     | (refine ay rfl 64 (.tmp 2) (.tmp 46) rfl g2 (eY (n1 : Int) aff SL (.slice yR L6.length hG) (.slice A9 L3.length c9)) rfl rfl 64 _ Kx.out 68 (by kernel_rfl) (iz _ _ _ _ _ HSL.out) rfl (tg _ _ _ _ _ rfl rfl) ?_; intro Vg Ai xf))
    refine bodyPost_ret (bT rfl _ _ g2 64 _ (0, 0) _ rfl Ai Tryz.underlying64 rfl (by simp only [List.size_toArray]; exact AX _ (iz _ _ _ _ _ HSL.out))) rfl ⟨_, rfl, fun W' hW' => ⟨yR, hG, A9, c9, rfl, HSL.out, ?_, Pa.out, ?_, ?_⟩, GU.out.grown xf GU.out.size (by intro k hk; cases hk; exact fR.out)⟩
    ·exact Kd.F_grown ab1.out xf (fun k hk e => by have := hk.1.1; have := HGL.out; have := Option.some.inj e; omega) W' (fun k hk hl => hW' k (by have := hk.1.1; have := HGL.out; have := fR.out; omega) hl)
    ·obtain ⟨A', c', hq, hcc, hC⟩ := Kd.R_reads (Kd.R_move (Kd.R_bound (bS VP.out Kx.out (by decide) xf)) (fun k hk => hW' k hk.2.1 hk.2.2.1))
     cases hq
     exact hC
    ·obtain ⟨A', c', hq, hcc, hC⟩ := Kd.R_reads VP.out
     cases hq
     exact hcc
  ·obtain rfl : rok = false := by rw [HOK.out, decide_eq_false pz]; rfl
   have aw : ((n0 : Int) == 66) = false := by rw [beq_eq_false_iff_ne]; omega
   have aU : ((n0 : Int) != 66) = true := by rw [bne, aw]; rfl
   have fy : (n0 == 66) = false := by rw [beq_eq_false_iff_ne]; exact pz
   go_wp2_with (first
    | (refine dE rfl 64 #[] rfl kW Gg ?_)
    | (refine ay rfl 64 (.tmp 2) (.tmp 45) rfl g2 kW rfl rfl 64 _ Ky.out 68 (by kernel_rfl) rfl rfl xR ?_; intro Vg Ai xf))
   exact bodyPost_ret (bT rfl _ _ g2 64 _ (0, 0) _ rfl Ai Tryz.underlying64 rfl (by simp only [List.size_toArray]; exact AX _ rfl)) rfl ⟨_, rfl, fun W' _ => (Js W' 0).toV, yN.out.grown xf yN.out.size (by intro k hk; cases hk; exact fR.out)⟩
end
section
def vc (a : At) : S78 := ⟨a.f0, a.f1⟩
def gw : List Value := [.int .u32 0, .string ⟨#[]⟩, .slice none 0 0, .slice none 0 0, .slice none 0 0]
theorem Bj : (Tryz.prog.info? 3).map (fun i => (i.zero, i.size, i.bytes)) = some (some (.int .i64 0), 1, 8) := by kernel_rfl
theorem Fk : (Tryz.prog.info? 78).map (fun i => (i.zero, i.size, i.bytes)) = some (some (.agg #[.string ⟨#[]⟩, .string ⟨#[]⟩]), 2, 32) := by kernel_rfl
theorem MT (x : Int) (s : ByteArray) : Tryz.prog.built 49 [(0, .int .u32 x), (1, .string s)] = some [Value.int .u32 x, .string s, .slice none 0 0, .slice none 0 0, .slice none 0 0].toArray := by kernel_rfl
theorem I5 {α β : Type} {d : Kd α} {d' : Kd β} {e e' b1 base : Nat} {W w1 : World} {ok ok' : Nat → Prop} {u v : Value} {xs : List α} {ys : List β} (h : d.R e W base ok u xs) (ho : ∀ k, ok k → k < b1) (hv : d'.R e' W b1 ok' v ys) (hg : W.grownBy w1 v.ownBlock) : d.R e w1 base ok u xs :=
 Kd.R_grown h hg (fun k hk he => by have := ho k hk; have := Kd.R_base hv k he.symm; omega)
end
section
def lR (n : Nat) : List Int := [((n / 16777216 % 256 : Nat) : Int), ((n / 65536 % 256 : Nat) : Int), ((n / 256 % 256 : Nat) : Int), ((n % 256 : Nat) : Int)]
def im (s : ByteArray) : List Int := (s.size : Int) :: bytesOf s
theorem k5 (s : ByteArray) : (im s).length = s.size + 1 := by simp [im, eU]
end
section
def vD (a : At) : List Int := im a.f0 ++ im a.f1
def jC (b : Bk) (k : Nat) : List Int := 66 :: (lR b.addr.toNat ++ im b.aff ++ [(b.attrs.length : Int)] ++ (b.attrs.take k).flatMap vD)
def nO (b : Bk) : List Int := jC b b.attrs.length ++ b.slots ++ [(b.free.length : Int)] ++ b.free
theorem zD (b : Bk) (k : Nat) (h : k < b.attrs.length) : jC b (k + 1) = jC b k ++ im (nI b.attrs k).f0 ++ im (nI b.attrs k).f1 := by
 unfold jC
 rw [Hv _ _ h]
 simp [vD]
theorem Np {s : ByteArray} (h : s.toList = []) : s.size = 0 := by
 rw [ByteArray.toList_eq] at h
 have := congrArg List.length h
 rw [cG] at this
 simpa using this
theorem fq {s : ByteArray} (h : bU s = true) : 0 < s.size ∧ s.size ≤ 64 := by
 unfold bU at h
 simp only [Bool.and_eq_true, decide_eq_true_eq] at h
 exact ⟨h.1.2, h.2⟩
theorem xd {s : ByteArray} (h : mg s = true) : s.size ≤ 64 := by
 unfold mg at h
 rw [Bool.or_eq_true, decide_eq_true_eq] at h
 rcases h with h | h
 ·rw [Np h]; omega
 ·exact (fq h).2
structure RightP (b : Bk) : Prop where
 first : se b.addr = b.addr
 owner : mg b.aff = true
 na : b.attrs.length ≤ 64
 sa : ∀ s ∈ b.slots, s ≤ (b.attrs.length : Int)
 may : ∀ j, j < b.attrs.length → iD (nI b.attrs j) = true
 nd : ∀ j, j < b.attrs.length → (b.attrs.take j).any (sameAt (nI b.attrs j)) = false
 used : (iG (jG b.slots)).length = b.attrs.length
 fr : ∀ j, j < b.free.length → lB b j = false
 zc : b.slots.countP (fun x => x == 0) = b.free.length
theorem yX {b : Bk} (h : fl b = true) : RightP b := by
 unfold fl lH lA at h
 simp only [Bool.and_eq_true, decide_eq_true_eq, List.all_eq_true, beq_iff_eq, List.mem_range, Bool.not_eq_true'] at h
 obtain ⟨h1, h2, h3, ⟨h4, h5, h6⟩, h7, h8⟩ := h
 exact ⟨h1, h2, h3, h4, fun j hj => (h5 j hj).1, fun j hj => (h5 j hj).2, h6, h7, h8⟩
theorem RightP.free_len {b : Bk} (h : RightP b) (hl : b.slots.length = 64) : b.free.length ≤ 64 := by
 rw [← h.zc, ← hl]
 exact List.countP_le_length
theorem OL (a : At) (h : iD a = true) : (vD a).length ≤ 130 := by
 unfold iD at h
 rw [Bool.and_eq_true] at h
 have h1 := (fq h.1).2
 have h2 := (fq h.2).2
 simp [vD, k5]
 omega
theorem Bm {b : Bk} (h : RightP b) : ∀ k, k ≤ b.attrs.length → (jC b k).length ≤ 71 + 130 * k := by
 intro k
 induction k with
 | zero =>
  intro _
  have := xd h.owner
  simp [jC, lR, k5]
  omega
 | succ k ih =>
  intro hk
  have h1 := ih (by omega)
  have h2 := OL _ (h.may k (by omega))
  rw [zD _ _ (by omega)]
  simp [vD] at h2 ⊢
  omega
end
section
theorem qP (xs ys : List Int) (h : xs.Nodup) (hs : ∀ x ∈ xs, x ∈ ys) : xs.length ≤ ys.length := h.length_le_of_subset hs
theorem zB (s n : Nat) : (jH s n).Nodup := by
 unfold jH List.Nodup
 rw [List.pairwise_map]
 exact (List.Pairwise.filter _ List.nodup_range).imp (fun {a b} h e => h (by omega))
theorem strOfNums_size (l : List Int) : (strOfNums l).size = l.length := by
 simp [strOfNums, ByteArray.size]
end
section
attribute [local go_sem] bq bn bI bH aW aV bp bj
mutual
def av.j0 : Nat → Int → Int → Bool → Option (List Int)
 | 0, _, _, _ => none
 | k + 1, x0, x1, xT => if xT = true then (some ([] : List Int)) else (if 0 ≤ x1 then (if (x1 : Int).toNat ≤ 281474976710656 then (av.l0 k x0 (List.replicate (x1 : Int).toNat 0) (wrap64 (x1 - 1))) else (none)) else (none))
def av.l0 : Nat → Int → List Int → Int → Option (List Int)
 | 0, _, _, _ => none
 | k + 1, x0, x5, x6 => if x6 ≥ 0 then (if 0 ≤ x6 then (if x6 < (x5.length : Int) then (av.l0 k (IntKind.u64.wrap (Int.tdiv x0 256)) (x5.set (x6 : Int).toNat ((Int.tmod x0 256) % 256)) (wrap64 (x6 - 1))) else (none)) else (none)) else (some x5)
end
def av.f (k : Nat) (a0 : Int) (a1 : Int) : Option (List Int) := if a1 < 1 then (av.j0 k a0 a1 true) else (av.j0 k a0 a1 (decide (a1 > 8)))
theorem av.mono_l : ∀ k, (∀ y0 y1 y2, bQ (av.j0 k y0 y1 y2) (av.j0 (k + 1) y0 y1 y2)) ∧ (∀ y0 y1 y2, bQ (av.l0 k y0 y1 y2) (av.l0 (k + 1) y0 y1 y2))
 | 0 => ⟨fun _ _ _ r h => by simp [av.j0] at h, fun _ _ _ r h => by simp [av.l0] at h⟩
 | k + 1 => by
  obtain ⟨iH, tN⟩ := av.mono_l k
  refine ⟨?_, ?_⟩
  ·intro y0 y1 y2
   unfold av.j0
   repeat' first
   | (with_reducible exact iH _ _ _)
   | (with_reducible exact tN _ _ _)
   | (with_reducible exact bQ.refl _)
   | (with_reducible exact bQ.none _)
   | (with_reducible refine bQ.ite ?_ ?_)
   | (with_reducible refine bQ.bind ?_ (fun _ => ?_))
   | exact iH _ _ _
   | exact tN _ _ _
   | exact bQ.none _
   | refine bQ.ite ?_ ?_
   | refine bQ.bind ?_ (fun _ => ?_)
  ·intro y0 y1 y2
   unfold av.l0
   repeat' first
   | (with_reducible exact iH _ _ _)
   | (with_reducible exact tN _ _ _)
   | (with_reducible exact bQ.refl _)
   | (with_reducible exact bQ.none _)
   | (with_reducible refine bQ.ite ?_ ?_)
   | (with_reducible refine bQ.bind ?_ (fun _ => ?_))
   | exact iH _ _ _
   | exact tN _ _ _
   | exact bQ.none _
   | refine bQ.ite ?_ ?_
   | refine bQ.bind ?_ (fun _ => ?_)
theorem av.mono : ∀ a0 a1 k, bQ (av.f k a0 a1) (av.f (k + 1) a0 a1) := by
 intro a0 a1 k
 obtain ⟨iH, tN⟩ := av.mono_l k
 unfold av.f
 repeat' first
   | (with_reducible exact iH _ _ _)
   | (with_reducible exact tN _ _ _)
   | (with_reducible exact bQ.refl _)
   | (with_reducible exact bQ.none _)
   | (with_reducible refine bQ.ite ?_ ?_)
   | (with_reducible refine bQ.bind ?_ (fun _ => ?_))
   | exact iH _ _ _
   | exact tN _ _ _
   | exact bQ.none _
   | refine bQ.ite ?_ ?_
   | refine bQ.bind ?_ (fun _ => ?_)
set_option maxHeartbeats 8000000 in
set_option maxRecDepth 100000 in
theorem av.calls (k : Nat) (a0 : Int) (a1 : Int) (r : List Int) (w : World) (h : av.f k a0 a1 = some r) :
  Calls Tryz.prog 63 #[.int .u64 a0, .int .i64 a1] w fun e w' => ∃ rq : Value, e = .returned (rq) ∧ Kd.R (Kd.int .u8) 5 w' w.heap.size (fun _ => True) rq r ∧ Below w.heap.size w w' := by
 have HB := ak (Below.refl w.heap.size w)
 have H : (if a1 < 1 then (av.j0 k a0 a1 true) else (av.j0 k a0 a1 (decide (a1 > 8)))) = some r := h
 clear h
 have oG := ak H
 clear H
 go_enter Tryz.func63, Tryz.ntmps63
 go_upto_region 1 with (fail)
 go_cut [12] (fun v12 wc => ∃ (kq : Nat) (Ej : Bool), v12 = .bool Ej ∧ Aside0 (av.j0 kq a0 a1 Ej = some r) ∧ Aside0 (kq ≤ k) ∧ Aside0 (Below w.heap.size w wc))
 case first =>
  have H := oG.out
  clear oG
  by_cases c4 : a1 < 1
  ·rw [if_pos c4] at H
   have eQ := decide_eq_true c4
   clear c4
   (first | rw [eQ] | (simp only [gO, kj]; rw [eQ]) | skip)
   have H' := ak H; clear H
   go_wp2
   go_meet
   case rel => exact ⟨_, (true), rf, H', ⟨by first | omega | exact Nat.le_refl _⟩, ⟨bl⟩⟩
  ·rw [if_neg c4] at H
   have eQ := decide_eq_false c4
   clear c4
   (first | rw [eQ] | (simp only [gO, kj]; rw [eQ]) | skip)
   have H' := ak H; clear H
   go_wp2
   go_meet
   case rel => exact ⟨_, (decide (a1 > 8)), rf, H', ⟨by first | omega | exact Nat.le_refl _⟩, ⟨bl⟩⟩
 case rest =>
  clear oG
  obtain ⟨kq, Ej, rfl, HA, um, HB⟩ := hcut
  cases kq with
  | zero => exact absurd HA.out (by simp [av.j0])
  | succ tH =>
   have H := HA.out
   clear HA
   simp only [av.j0] at H
   by_cases c5 : Ej = true
   ·subst c5
    replace H : (some ([] : List Int)) = some r := by rw [if_pos rfl] at H; exact H
    obtain rfl := Option.some.inj H
    go_wp2
    go_ret
    exact ⟨_, rg, by first | exact Kd.R_nil _ _ _ _ _ | exact Kd.N_nil _ _ _ _ _ | exact Kd.V_nil _ _ _ _ _ | exact Kd.Q_nil _ _ _ _ _ | exact Kd.S_nil _ _ _ _ _, bl⟩
   ·replace c5 := Bool.eq_false_iff.mpr c5
    subst c5
    replace H : (if 0 ≤ a1 then (if (a1 : Int).toNat ≤ 281474976710656 then (av.l0 tH a0 (List.replicate (a1 : Int).toNat 0) (wrap64 (a1 - 1))) else (none)) else (none)) = some r := by rw [if_neg (show ¬ (false = true) by decide)] at H; exact H
    by_cases c6 : 0 ≤ a1
    ·rw [if_pos c6] at H
     have jd := eq_true c6
     have xr := decide_eq_true c6
     clear c6
     by_cases c7 : (a1 : Int).toNat ≤ 281474976710656
     ·rw [if_pos c7] at H
      have qV := eq_true c7
      have Av := decide_eq_true c7
      clear c7
      obtain ⟨KO, wk⟩ : ∃ y_ : List Int, y_ = (List.replicate (a1 : Int).toNat 0) := ⟨_, rfl⟩
      replace H : (av.l0 tH a0 KO (wrap64 (a1 - 1))) = some r := by first | (rw [wk]; with_reducible exact H) | (have gN := (Option.bind_some _ _).symm.trans H; rw [wk]; with_reducible exact gN) | (have gN := (Option.bind_some _ _).symm.trans H; with_reducible exact gN) | with_reducible exact H | (rw [wk]; exact H) | exact H
      have I7 := ak wk
      clear wk
      have H' := ak H; clear H
      go_wp2_with (first | ((with_reducible refine af (N := 14) rfl ?_); refine Kd.R_make (Kd.int .u8) _ 5 rfl (N := 14) rfl 61 _ _ rfl a1 rfl rfl Tryz.underlying61 (.int .u8 0) 1 PH rfl (by decide) (by omega) 0 (ok := fun _ => True) (okp := fun _ => True) rfl (fun _ hk => hk) trivial (od) (Nat.le_trans (Nat.mul_le_mul_right _ (od : a1.toNat ≤ 281474976710656)) (by omega)) (Below.refl _ _) (Nat.le_refl _) ?_; intro Ti w8 wq hb bO jI; clear bO jI; (first | rw [← I7.out] at wq | (simp only [Int.reduceToNat] at wq; rw [← I7.out] at wq)); have SP := ak (Kd.R_lower wq (fj bl)); replace HB := bs hb; clear hb wq))
      go_loopg [0, 6] tH (fun kq v0 v6 w' => ∃ (xU : Int) (zW : List Int) (pS : Int), v0 = .int .u64 xU ∧ v6 = .int .i64 pS ∧ Aside0 (av.l0 kq xU zW pS = some r) ∧ Aside0 (kq ≤ tH) ∧ Aside0 (Kd.R (Kd.int .u8) 5 w' w.heap.size (fun _ => True) Ti zW) ∧ Aside0 (Below w.heap.size w w'))
      case atStart => exact ⟨(a0), (KO), (wrap64 (a1 - 1)), rf, rf, H', ⟨Nat.le_refl _⟩, ⟨by (with_reducible repeat (first | apply Kd.R_alloc | apply Kd.R_drewN | apply Kd.R_drew)); exact SP.out⟩, ⟨bl⟩⟩
      case round =>
       clear H'
       obtain ⟨xU, zW, pS, rfl, rfl, HA, kO, CX, HB⟩ := hrel
       cases gk with
       | zero => exact absurd HA.out (by simp [av.l0])
       | succ k2 =>
        have H := HA.out
        clear HA
        simp only [av.l0] at H
        by_cases c10 : pS ≥ 0
        ·rw [if_pos c10] at H
         have zp := decide_eq_true c10
         clear c10
         by_cases iy : 0 ≤ pS
         ·rw [if_pos iy] at H
          have vk := decide_eq_true iy
          clear iy
          by_cases dB : pS < (zW.length : Int)
          ·rw [if_pos dB] at H
           have u9 := decide_eq_true dB
           clear dB
           obtain ⟨Es, wj⟩ : ∃ y_ : List Int, y_ = (zW.set (pS : Int).toNat ((Int.tmod xU 256) % 256)) := ⟨_, rfl⟩
           replace H : (av.l0 k2 (IntKind.u64.wrap (Int.tdiv xU 256)) Es (wrap64 (pS - 1))) = some r := by first | (rw [wj]; with_reducible exact H) | (have gN := (Option.bind_some _ _).symm.trans H; rw [wj]; with_reducible exact gN) | (have gN := (Option.bind_some _ _).symm.trans H; with_reducible exact gN) | with_reducible exact H | (rw [wj]; exact H) | exact H
           have SM := ak wj
           clear wj
           have H' := ak H; clear H
           have TE : 0 ≤ (pS : Int) := od
           have Tz : (pS : Int) < ((zW.length : Int) : Int) := od
           obtain ⟨On, aa1, UQ, UI, aa0, aT6, Wb⟩ := Kd.R_form CX.out (by omega)
           (first | cases UQ | (injection UQ with P9 en_ ec_; (first | subst P9 | (injection P9 with P9; subst P9)); subst ec_; clear en_))
           have ac3 := ak UI
           have aU5 := ak Wb
           clear UI aa0 Wb
           obtain ⟨aC7, aE4⟩ := Kd.R_celln 0 CX.out (pS : Int) TE Tz
           replace TE := eq_true TE
           replace Tz := eq_true Tz
           have OX := Kd.R_putg CX.out (pS : Int) ((Int.tmod xU 256) % 256)
           go_wp2_with (first | ((with_reducible refine cg (t := 5) (p := 26) rfl ?_); refine G3 (t := 5) (p := 26) (v := ?vo_w15) (w1 := (wr.setCell ⟨On, (pS : Int).toNat, none⟩ (.int .u8 ((Int.tmod xU 256) % 256)))) ?hg ?ho ?hn ?hr ?_; (case ho => rfl); (case hg => rfl); (case hn => rfl); (case hr => first | (go_simp; done) | (go_simp; rfl)); intro vG hw; have hg : wr.grownBy vG (some On) := (by rw [hw]; exact OX.2); have Yr : Kd.R (Kd.int .u8) 5 vG w.heap.size (fun _ => True) (.slice (some ⟨On, 0, none⟩) zW.length aa1) Es := (by rw [hw, SM.out]; exact OX.1); clear OX; replace CX := ak (Yr); replace HB := ak ((by rw [hw]; exact vm (HB.out) ac3.out : Below w.heap.size w vG)); clear hg hw Yr))
           go_roundg k2
           case measure => have := um.out; have := kO.out; omega
           case rel => exact ⟨(IntKind.u64.wrap (Int.tdiv xU 256)), (Es), (wrap64 (pS - 1)), rf, rf, H', ⟨by have := um.out; have := kO.out; omega⟩, ⟨by (with_reducible repeat (first | apply Kd.R_alloc | apply Kd.R_drewN | apply Kd.R_drew)); exact CX.out⟩, ⟨bl⟩⟩
          ·rw [if_neg dB] at H
           exact absurd H (by simp)
         ·rw [if_neg iy] at H
          exact absurd H (by simp)
        ·rw [if_neg c10] at H
         have zp := decide_eq_false c10
         clear c10
         obtain rfl := Option.some.inj H
         go_wp2
         go_ret
         exact ⟨_, rg, by (with_reducible repeat (first | apply Kd.R_alloc | apply Kd.R_drewN | apply Kd.R_drew)); exact CX.out, bl⟩
     ·rw [if_neg c7] at H
      exact absurd H (by simp)
    ·rw [if_neg c6] at H
     exact absurd H (by simp)
end
section
attribute [local go_sem] bq bn bI bH aW aV bp bj
def ew.f (a0 : ByteArray) : Option (List Int) := (some (([((a0.size : Int)) % 256] : List Int) : List Int)).bind fun kZ => (if kZ.length + a0.size < 140737488355328 then (some (kZ ++ bytesOf a0)) else (none))
set_option maxHeartbeats 8000000 in
set_option maxRecDepth 100000 in
theorem ew.calls (a0 : ByteArray) (r : List Int) (w : World) (h : ew.f a0 = some r) :
  Calls Tryz.prog 103 #[.string a0] w fun e w' => ∃ rq : Value, e = .returned (rq) ∧ Kd.R (Kd.int .u8) 5 w' w.heap.size (fun _ => True) rq r ∧ Below w.heap.size w w' := by
 have HB := ak (Below.refl w.heap.size w)
 have H : ((some (([((a0.size : Int)) % 256] : List Int) : List Int)).bind fun kZ => (if kZ.length + a0.size < 140737488355328 then (some (kZ ++ bytesOf a0)) else (none))) = some r := h
 clear h
 obtain ⟨kZ, tS⟩ : ∃ y_ : List Int, y_ = (([((a0.size : Int)) % 256] : List Int)) := ⟨_, rfl⟩
 replace H : (if kZ.length + a0.size < 140737488355328 then (some (kZ ++ bytesOf a0)) else (none)) = some r := by first | (rw [tS]; with_reducible exact H) | (have gN := (Option.bind_some _ _).symm.trans H; rw [tS]; with_reducible exact gN) | (have gN := (Option.bind_some _ _).symm.trans H; with_reducible exact gN) | with_reducible exact H | (rw [tS]; exact H) | exact H
 have Gw := ak tS
 clear tS
 by_cases c2 : kZ.length + a0.size < 140737488355328
 ·rw [if_pos c2] at H
  have aa9 := ak c2
  clear c2
  obtain ⟨Ho, tR⟩ : ∃ y_ : List Int, y_ = (kZ ++ bytesOf a0) := ⟨_, rfl⟩
  replace H : (some Ho) = some r := by first | (rw [tR]; with_reducible exact H) | (have gN := (Option.bind_some _ _).symm.trans H; rw [tR]; with_reducible exact gN) | (have gN := (Option.bind_some _ _).symm.trans H; with_reducible exact gN) | with_reducible exact H | (rw [tR]; exact H) | exact H
  have OQ := ak tR
  clear tR
  obtain rfl := Option.some.inj H
  go_enter Tryz.func103, Tryz.ntmps103
  go_wp2_with (first | ((with_reducible refine af (N := 6) rfl ?_); refine Kd.R_lit (Kd.int .u8) _ 5 ?hg (N := 6) ?hd (xs := ([((a0.size : Int)) % 256] : List Int)) (inner := [.int .u8 (((a0.size : Int)) % 256)]) (ok := fun _ => True) (okp := fun _ => True) ?hr ?hp (fun _ hk => hk) trivial (Below.refl _ _) (Nat.le_refl _) (by simp) ?_; (case hd => rfl); (case hg => rfl); (case hr => first | (go_simp; done) | (go_simp; rfl)); (case hp => exact (bZ.one (show Kd.M (Kd.int .u8) _ _ _ (((a0.size : Int)) % 256) [.int .u8 (((a0.size : Int)) % 256)] from rfl) (bZ.none _ _))); intro QP w3 pq hb bO jI; clear bO jI; (first | rw [← Gw.out] at pq | (simp only [Int.reduceToNat] at pq; rw [← Gw.out] at pq)); have GC := ak (Kd.R_lower pq (fj bl)); replace HB := bs hb; clear hb pq) | (at_builtin; refine z8 (w0 := w) w.heap.size rfl (.tmp 6) _ 61 9 5 rfl Tryz.underlying61 Tryz.underlying9 PH QP kZ a0 rfl rfl ?aO ?aB ?aS ?aL ?_; (case aB => exact bl); (case aO => exact (Kd.own_of_R (by (with_reducible repeat (first | apply Kd.R_alloc | apply Kd.R_drewN | apply Kd.R_drew)); exact GC.out))); (case aS => exact (fj bl)); (case aL => have := aa9.out; omega); intro QO w5 sH hb hg; have ho := Kd.R_of_own (h1 := fun _ => rfl) (ok := fun _ => True) sH (fun _ _ => trivial); clear sH; have hat := True.intro; rw [← OQ.out] at ho; change Kd.R (Kd.int .u8) 5 w5 w.heap.size (fun _ => True) QO Ho at ho; replace HB := ak (hb); have O2 := ak (ho); clear GC; clear ho hb hg hat))
  go_ret
  exact ⟨_, rg, by (with_reducible repeat (first | apply Kd.R_alloc | apply Kd.R_drewN | apply Kd.R_drew)); exact O2.out, bl⟩
 ·rw [if_neg c2] at H
  exact absurd H (by simp)
end
end Go.Proofs.YtndddnglapkplaaGreatDoor.V
