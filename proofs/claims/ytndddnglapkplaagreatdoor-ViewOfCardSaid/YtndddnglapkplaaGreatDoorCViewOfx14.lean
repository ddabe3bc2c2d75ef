/- The law ViewOf for every input: texts of ours, put together (part 15 of 17). No further condition. -/
import Derived.Test.YtndddnglapkplaaGreatDoorCViewOfx2
import Derived.Test.YtndddnglapkplaaGreatDoorCViewOfx5
import Derived.Test.YtndddnglapkplaaGreatDoorCViewOfx3
import Derived.Test.YtndddnglapkplaaGreatDoorCViewOfx8
import Derived.Test.YtndddnglapkplaaGreatDoorCViewOfx13
import Derived.Test.YtndddnglapkplaaGreatDoorCViewOfx12
import Derived.Outline
import Derived.BigGuard
set_option linter.unusedVariables false
set_option linter.unusedSimpArgs false
set_option linter.unusedSectionVars false
open Go.RowKit Go.Proofs.YtndddnglapkplaaGreatDoorW.PrintWords Go.Proofs.YtndddnglapkplaaGreatDoorW.PrintLast Go.Proofs.YtndddnglapkplaaGreatDoorW.PrintMore Go.Proofs.YtndddnglapkplaaGreatDoor.Z
namespace Go.Proofs.YtndddnglapkplaaGreatDoor.V
section
attribute [local go_sem] bq bn bI bH aW aV bp bj
mutual
def aG.l0 : Nat → ByteArray → ByteArray → Int → Option (Int × ByteArray × Int × Int × Int × Bool × Int × ByteArray × List Int × List Int × (List (S78)) × Int × (List (S144)) × Bool)
 | 0, _, _, _ => none
 | k + 1, x0, x1, x5 => if x5 < (x0.size : Int) then (if 0 ≤ x5 then (if (bt x0 x5) = 47 then (if 0 ≤ (wrap64 (x5 + 1)) then (if (wrap64 (x5 + 1)) ≤ (x0.size : Int) then ((dv.f (x0.extract ((wrap64 (x5 + 1)) : Int).toNat x0.size)).bind fun ra => (aG.l1 k x0 x1 x5 ra.2.2 1 ra.1 ra.2.1)) else (none)) else (none)) else (aG.l0 k x0 x1 (wrap64 (x5 + 1)))) else (none)) else (some (0, (⟨#[]⟩ : ByteArray), 0, 0, 0, false, 0, (⟨#[]⟩ : ByteArray), ([] : List Int), ([] : List Int), ([] : List (S78)), 0, ([] : List (S144)), false))
def aG.l1 : Nat → ByteArray → ByteArray → Int → Bool → Int → Int → Int → Option (Int × ByteArray × Int × Int × Int × Bool × Int × ByteArray × List Int × List Int × (List (S78)) × Int × (List (S144)) × Bool)
 | 0, _, _, _, _, _, _, _ => none
 | k + 1, x0, x1, x5, x7, x8, rm, rl => if x8 ≤ 3 then (if x7 = true then (if rl = 26 then (if 0 ≤ x5 then (if x5 ≤ (x0.size : Int) then ((al.f k (x0.extract 0 (x5 : Int).toNat)).bind fun vQ => (if vQ = true then ((some (([(x8) % 256] : List Int) : List Int)).bind fun gV => (if 1 + (strOfNums gV).size ≤ 9223372036854775807 then (if x1.toList = ((⟨#[65]⟩ : ByteArray) ++ (strOfNums gV)).toList then (some (3, x0.extract 0 (x5 : Int).toNat, rm, 0, 0, false, 0, (⟨#[]⟩ : ByteArray), ([] : List Int), ([] : List Int), ([] : List (S78)), x8, ([] : List (S144)), false)) else (aG.l1 k x0 x1 x5 x7 (wrap64 (x8 + 1)) rm rl)) else (none))) else (aG.l1 k x0 x1 x5 x7 (wrap64 (x8 + 1)) rm rl))) else (none)) else (none)) else (aG.l1 k x0 x1 x5 x7 (wrap64 (x8 + 1)) rm rl)) else (aG.l1 k x0 x1 x5 x7 (wrap64 (x8 + 1)) rm rl)) else (some (0, (⟨#[]⟩ : ByteArray), 0, 0, 0, false, 0, (⟨#[]⟩ : ByteArray), ([] : List Int), ([] : List Int), ([] : List (S78)), 0, ([] : List (S144)), false))
end
def aG.f (k : Nat) (a0 : ByteArray) (a1 : ByteArray) : Option (Int × ByteArray × Int × Int × Int × Bool × Int × ByteArray × List Int × List Int × (List (S78)) × Int × (List (S144)) × Bool) := aG.l0 k a0 a1 0
def aG.T10 : Bool × List (List Nat × List Nat) := (true, [([], []), ([], []), ([0, 1], [0, 1]), ([], []), ([3], [3]), ([], []), ([2, 4, 5], [2, 4, 5]), ([6, 0, 1, 2, 3, 4, 5, 6], [6])])
def aG.B10 : List Nat := [0, 0, 3, 0, 8, 0, 63, 127]
theorem aG.tab10 : dA .any (opsOf Tryz.f41 10) = aG.T10 := by kernel_rfl
theorem aG.bits10 : dy aG.T10.2 aG.B10 = true := by kernel_rfl
set_option maxHeartbeats 8000000 in
set_option maxRecDepth 100000 in
theorem aG.calls (k : Nat) (a0 : ByteArray) (a1 : ByteArray) (r1 : Int) (r2 : ByteArray) (r3 : Int) (r4 : Int) (r5 : Int) (r6 : Bool) (r7 : Int) (r8 : ByteArray) (r9 : List Int) (vZ : List Int) (vY : List (S78)) (vX : Int) (vW : List (S144)) (vV : Bool) (w : World) (h : aG.f k a0 a1 = some (r1, r2, r3, r4, r5, r6, r7, r8, r9, vZ, vY, vX, vW, vV)) :
  Calls Tryz.prog 41 #[.string a0, .string a1] w fun e w' => ∃ Th Tg Tl Tk : Value, e = .returned (.agg #[.int .i64 r1, .string r2, .int .u32 r3, .int .u32 r4, .int .i64 r5, .bool r6, .int .u32 r7, .string r8, Th, Tg, Tl, .int .i64 vX, Tk, .bool vV]) ∧ Kd.R (Kd.int .i64) 3 w' w.heap.size (fun k_ => some k_ ≠ (Tg : Value).ownBlock) Th r9 ∧ Kd.R (Kd.int .i64) 3 w' w.heap.size (fun k_ => some k_ ≠ (Th : Value).ownBlock) Tg vZ ∧ Kd.R iZ 78 w' w.heap.size (fun _ => True) Tl vY ∧ Kd.R ja 144 w' w.heap.size (fun _ => True) Tk vW ∧ Below w.heap.size w w' := by
 have Zt := Tryz.underlying52
 have JZ := Tryz.underlying43
 have HB := ak (Below.refl w.heap.size w)
 have H : (aG.l0 k a0 a1 0) = some (r1, r2, r3, r4, r5, r6, r7, r8, r9, vZ, vY, vX, vW, vV) := h
 clear h
 have H' := ak H; clear H
 go_enter Tryz.func41, Tryz.ntmps41
 go_wp2_with (first | ((with_reducible refine af (N := 4) rfl ?_); (try (refine bL (by rfl) ?_; dsimp only)); refine bE (N := 4) (cs := #[.int .i64 0, .string (⟨#[]⟩ : ByteArray), .int .u32 0, .int .u32 0, .int .i64 0, .bool false, .int .u32 0, .string (⟨#[]⟩ : ByteArray), .slice none 0 0, .slice none 0 0, .slice none 0 0, .int .i64 0, .slice none 0 0, .bool false]) (t := 52) ?_; intro de hg w3 hbox hb; have aJ := ak (hbox); have aB0 := ak (gl hg : w.heap.size ≤ de); have aC0 := ak (gl hg : w.heap.size ≤ de); replace HB := bs hb; clear hb hbox hg))
 go_loopg [5] k (fun kq v5 w' => ∃ (bW : Int) (n8 : Int) (mA : ByteArray) (kP : Int) (jK : Int) (iR : Int) (ik : Bool) (gE : Int) (fS : ByteArray) (ev : Int) (dP : Bool), v5 = .int .i64 bW ∧ Aside0 (aG.l0 kq a0 a1 bW = some (r1, r2, r3, r4, r5, r6, r7, r8, r9, vZ, vY, vX, vW, vV)) ∧ Aside0 (kq ≤ k) ∧ Aside0 (w'.heap[de]? = some (.cells #[.int .i64 n8, .string mA, .int .u32 kP, .int .u32 jK, .int .i64 iR, .bool ik, .int .u32 gE, .string fS, (.slice none 0 0), (.slice none 0 0), (.slice none 0 0), .int .i64 ev, (.slice none 0 0), .bool dP] 52 (0, 0))) ∧ Aside0 (Below w.heap.size w w'))
 case atStart => exact ⟨(0), (0), ((⟨#[]⟩ : ByteArray)), (0), (0), (0), (false), (0), ((⟨#[]⟩ : ByteArray)), (0), (false), rf, H', ⟨Nat.le_refl _⟩, ⟨by (with_reducible repeat (first | refine ag ?_ _ | refine aj ?_ | refine ah ?_ _)); exact aJ.out⟩, ⟨bl⟩⟩
 case round =>
  clear H'
  obtain ⟨bW, n8, mA, kP, jK, iR, ik, gE, fS, ev, dP, rfl, HA, ee, aJ, HB⟩ := hrel
  cases gk with
  | zero => exact absurd HA.out (by simp [aG.l0])
  | succ k1 =>
   have H := HA.out
   clear HA
   simp only [aG.l0] at H
   by_cases c4 : bW < (a0.size : Int)
   ·rw [if_pos c4] at H
    have eQ := decide_eq_true c4
    clear c4
    by_cases c5 : 0 ≤ bW
    ·rw [if_pos c5] at H
     have nF := decide_eq_true c5
     clear c5
     by_cases c7 : (bt a0 bW) = 47
     ·rw [if_pos c7] at H
      have qV : ((bt a0 bW) == 47) = true := beq_iff_eq.mpr c7
      have Av : ((bt a0 bW) != 47) = false := bne_eq_false_iff_eq.mpr c7
      clear c7
      obtain ⟨Dt, Cj⟩ : ∃ j_ : Int, (wrap64 (bW + 1)) = j_ := ⟨_, rfl⟩
      replace H : (if 0 ≤ (Dt) then (if (Dt) ≤ (a0.size : Int) then ((dv.f (a0.extract ((Dt) : Int).toNat a0.size)).bind fun ra => (aG.l1 k1 a0 a1 bW ra.2.2 1 ra.1 ra.2.1)) else (none)) else (none)) = some (r1, r2, r3, r4, r5, r6, r7, r8, r9, vZ, vY, vX, vW, vV) := by first | (rw [Cj] at H; exact H) | (simp only [Cj] at H ⊢; exact H)
      have aK7 : (IntKind.i64.wrap (bW + 1)) = Dt := (gO _).trans Cj
      by_cases c9 : 0 ≤ (Dt)
      ·rw [if_pos c9] at H
       have xq := eq_true c9
       have aa2 := decide_eq_true c9
       clear c9
       by_cases c10 : (Dt) ≤ (a0.size : Int)
       ·rw [if_pos c10] at H
        have zp := eq_true c10
        have Qn := decide_eq_true c10
        clear c10
        replace H := Option.bind_eq_some_iff.mp H
        obtain ⟨⟨ed, gH, AU⟩, G0, H⟩ := H
        replace H : (aG.l1 k1 a0 a1 bW AU 1 ed gH) = some (r1, r2, r3, r4, r5, r6, r7, r8, r9, vZ, vY, vX, vW, vV) := H
        have QH := ak G0
        clear G0
        have H' := ak H; clear H
        have p6 : 0 ≤ (bW : Int) := od
        have q6 : bW < (a0.size : Int) := od
        have Mh := fi a0 bW
        replace p6 := eq_true p6
        replace q6 := eq_true q6
        go_wp2_with (first | ((with_reducible refine au (f := 37) rfl ?_); refine wu (some 24) rfl rfl Tryz.func37 (by kernel_rfl) rfl #[.string (a0.extract ((Dt) : Int).toNat a0.size)] rfl (by (try simp only [List.map_toArray, List.map_cons, List.map_nil]); first | done | (simp only [Cj]; rfl) | rfl | (simp only [List.length_drop, List.length_take]; rfl)) ?_; (with_reducible refine (dv.calls (a0.extract ((Dt) : Int).toNat a0.size) ed gH AU _ QH.out).mono ?_); rintro e KR ⟨rfl, hb⟩; refine ⟨_, rfl, ?_⟩; replace aJ := bm aJ hb; replace HB := bs hb; (try clear hb); (try clear aU); (try clear hk); (try clear hi)) | ((with_reducible refine af (N := 6) rfl ?_); (try (refine bL (by rfl) ?_; dsimp only)); refine bE (N := 6) (cs := #[.int .u32 0, .int .i64 0]) (t := 43) ?_; intro te hg tj hbox hb; have cT := ak (hbox); have aA9 := ak (gl hg : w.heap.size ≤ te); have aB9 := ak (gl hg : w.heap.size ≤ te); replace HB := bs hb; have cF := ak (nl aJ hg); have aN := ak (ng aJ hg); replace aJ := bm aJ hb; clear hb hbox hg; have aK4 := aN.out; have aI3 := cF.out; have Sb := cf cT 0; have Sa := cf cT 1; have RJ := J cT.out 0; have RI := J cT.out 1))
        go_loopg [8] k1 (fun kq v8 w' => ∃ (fF : Int) (iS : Int) (gF : ByteArray) (fo : Int) (eO : Int) (ec : Int) (dD : Bool) (du : Int) (dc : ByteArray) (b6 : Int) (bN : Bool), v8 = .int .i64 fF ∧ Aside0 (aG.l1 kq a0 a1 bW AU fF ed gH = some (r1, r2, r3, r4, r5, r6, r7, r8, r9, vZ, vY, vX, vW, vV)) ∧ Aside0 (kq ≤ k1) ∧ Aside0 (w'.heap[de]? = some (.cells #[.int .i64 iS, .string gF, .int .u32 fo, .int .u32 eO, .int .i64 ec, .bool dD, .int .u32 du, .string dc, (.slice none 0 0), (.slice none 0 0), (.slice none 0 0), .int .i64 b6, (.slice none 0 0), .bool bN] 52 (0, 0))) ∧ Aside0 (w'.heap[te]? = some (.cells #[.int .u32 ed, .int .i64 gH] 43 (0, 0))) ∧ Aside0 (Below w.heap.size w w'))
        case atStart => exact ⟨(1), (n8), (mA), (kP), (jK), (iR), (ik), (gE), (fS), (ev), (dP), rf, H', ⟨Nat.le_refl _⟩, ⟨by (with_reducible repeat (first | refine ag ?_ _ | refine aj ?_ | refine ah ?_ _)); refine dr ?_ cF.out _; (with_reducible repeat (first | refine ag ?_ _ | refine aj ?_ | refine ah ?_ _)); refine dr ?_ cF.out _; (with_reducible repeat (first | refine ag ?_ _ | refine aj ?_ | refine ah ?_ _)); exact aJ.out⟩, ⟨by (with_reducible repeat (first | refine ag ?_ _ | refine aj ?_ | refine ah ?_ _)); refine aM (cs := #[.int .u32 ed, .int .i64 0]) ?_ 1 _ rfl; (with_reducible repeat (first | refine ag ?_ _ | refine aj ?_ | refine ah ?_ _)); refine aM (cs := #[.int .u32 0, .int .i64 0]) ?_ 0 _ rfl; (with_reducible repeat (first | refine ag ?_ _ | refine aj ?_ | refine ah ?_ _)); exact cT.out⟩, ⟨bl⟩⟩
        case round =>
         clear H'
         obtain ⟨fF, iS, gF, fo, eO, ec, dD, du, dc, b6, bN, rfl, HA, kO, aJ, cT, HB⟩ := hrel
         cases gk with
         | zero => exact absurd HA.out (by simp [aG.l1])
         | succ k2 =>
          have H := HA.out
          clear HA
          simp only [aG.l1] at H
          by_cases qG : fF ≤ 3
          ·rw [if_pos qG] at H
           have Eo := decide_eq_true qG
           clear qG
           by_cases BP : AU = true
           ·subst BP
            replace H : (if gH = 26 then (if 0 ≤ bW then (if bW ≤ (a0.size : Int) then ((al.f k2 (a0.extract 0 (bW : Int).toNat)).bind fun vQ => (if vQ = true then ((some (([(fF) % 256] : List Int) : List Int)).bind fun gV => (if 1 + (strOfNums gV).size ≤ 9223372036854775807 then (if a1.toList = ((⟨#[65]⟩ : ByteArray) ++ (strOfNums gV)).toList then (some (3, a0.extract 0 (bW : Int).toNat, ed, 0, 0, false, 0, (⟨#[]⟩ : ByteArray), ([] : List Int), ([] : List Int), ([] : List (S78)), fF, ([] : List (S144)), false)) else (aG.l1 k2 a0 a1 bW true (wrap64 (fF + 1)) ed gH)) else (none))) else (aG.l1 k2 a0 a1 bW true (wrap64 (fF + 1)) ed gH))) else (none)) else (none)) else (aG.l1 k2 a0 a1 bW true (wrap64 (fF + 1)) ed gH)) = some (r1, r2, r3, r4, r5, r6, r7, r8, r9, vZ, vY, vX, vW, vV) := by rw [if_pos rfl] at H; exact H
            by_cases ug : gH = 26
            ·rw [if_pos ug] at H
             have Ki : (gH == 26) = true := beq_iff_eq.mpr ug
             have Kh : (gH != 26) = false := bne_eq_false_iff_eq.mpr ug
             clear ug
             by_cases MP : 0 ≤ bW
             ·rw [if_pos MP] at H
              have aP3 := eq_true MP
              have aP2 := decide_eq_true MP
              clear MP
              by_cases MO : bW ≤ (a0.size : Int)
              ·rw [if_pos MO] at H
               have aP1 := eq_true MO
               have aP0 := decide_eq_true MO
               clear MO
               replace H := Option.bind_eq_some_iff.mp H
               obtain ⟨vQ, GX, H⟩ := H
               replace H : (if vQ = true then ((some (([(fF) % 256] : List Int) : List Int)).bind fun gV => (if 1 + (strOfNums gV).size ≤ 9223372036854775807 then (if a1.toList = ((⟨#[65]⟩ : ByteArray) ++ (strOfNums gV)).toList then (some (3, a0.extract 0 (bW : Int).toNat, ed, 0, 0, false, 0, (⟨#[]⟩ : ByteArray), ([] : List Int), ([] : List Int), ([] : List (S78)), fF, ([] : List (S144)), false)) else (aG.l1 k2 a0 a1 bW true (wrap64 (fF + 1)) ed gH)) else (none))) else (aG.l1 k2 a0 a1 bW true (wrap64 (fF + 1)) ed gH)) = some (r1, r2, r3, r4, r5, r6, r7, r8, r9, vZ, vY, vX, vW, vV) := H
               have Jr := ak GX
               clear GX
               by_cases BO : vQ = true
               ·subst BO
                replace H : ((some (([(fF) % 256] : List Int) : List Int)).bind fun gV => (if 1 + (strOfNums gV).size ≤ 9223372036854775807 then (if a1.toList = ((⟨#[65]⟩ : ByteArray) ++ (strOfNums gV)).toList then (some (3, a0.extract 0 (bW : Int).toNat, ed, 0, 0, false, 0, (⟨#[]⟩ : ByteArray), ([] : List Int), ([] : List Int), ([] : List (S78)), fF, ([] : List (S144)), false)) else (aG.l1 k2 a0 a1 bW true (wrap64 (fF + 1)) ed gH)) else (none))) = some (r1, r2, r3, r4, r5, r6, r7, r8, r9, vZ, vY, vX, vW, vV) := by rw [if_pos rfl] at H; exact H
                obtain ⟨gV, wm⟩ : ∃ y_ : List Int, y_ = (([(fF) % 256] : List Int)) := ⟨_, rfl⟩
                replace H : (if 1 + (strOfNums gV).size ≤ 9223372036854775807 then (if a1.toList = ((⟨#[65]⟩ : ByteArray) ++ (strOfNums gV)).toList then (some (3, a0.extract 0 (bW : Int).toNat, ed, 0, 0, false, 0, (⟨#[]⟩ : ByteArray), ([] : List Int), ([] : List Int), ([] : List (S78)), fF, ([] : List (S144)), false)) else (aG.l1 k2 a0 a1 bW true (wrap64 (fF + 1)) ed gH)) else (none)) = some (r1, r2, r3, r4, r5, r6, r7, r8, r9, vZ, vY, vX, vW, vV) := by first | (rw [wm]; with_reducible exact H) | (have gN := (Option.bind_some _ _).symm.trans H; rw [wm]; with_reducible exact gN) | (have gN := (Option.bind_some _ _).symm.trans H; with_reducible exact gN) | with_reducible exact H | (rw [wm]; exact H) | exact H
                have zs := ak wm
                clear wm
                by_cases MN : 1 + (strOfNums gV).size ≤ 9223372036854775807
                ·rw [if_pos MN] at H
                 have aO9 := eq_true MN
                 have aO8 := decide_eq_true MN
                 try have aO7 := eq_false (Nat.not_lt.2 MN)
                 by_cases Gb : a1.toList = ((⟨#[65]⟩ : ByteArray) ++ (strOfNums gV)).toList
                 ·rw [if_pos Gb] at H
                  have XL : (a1.toList == ((⟨#[65]⟩ : ByteArray) ++ (strOfNums gV)).toList) = true := beq_iff_eq.mpr Gb
                  have XK : (a1.toList != ((⟨#[65]⟩ : ByteArray) ++ (strOfNums gV)).toList) = false := bne_eq_false_iff_eq.mpr Gb
                  clear Gb
                  have aO6 := eq_true (od : 0 ≤ bW)
                  have aO5 := eq_true (od : bW ≤ (a0.size : Int))
                  simp only [Option.some.injEq, Prod.mk.injEq] at H
                  obtain ⟨rfl, rfl, rfl, rfl, rfl, rfl, rfl, rfl, rfl, rfl, rfl, rfl, rfl, rfl⟩ := H
                  have aJ9 := aN.out
                  have aH8 := cF.out
                  have ay3 := cf cT 0
                  have ay2 := cf cT 1
                  have an8 := J cT.out 0
                  have an7 := J cT.out 1
                  try go_wp2_with (first | (go_at_call 43; (with_reducible refine (al.calls k2 (a0.extract 0 (bW : Int).toNat) true _ Jr.out).mono ?_); rintro e w' ⟨rfl, ⟨nd, rfl⟩⟩; (try (rw [qu wr]; generalize pj : World.drewN wr _ = wr; have ot : Aside0 (wr.heap[de]? = some (.cells #[.int .i64 iS, .string gF, .int .u32 fo, .int .u32 eO, .int .i64 ec, .bool dD, .int .u32 du, .string dc, .slice none 0 0, .slice none 0 0, .slice none 0 0, .int .i64 b6, .slice none 0 0, .bool bN] 52 (0, 0))) := ⟨by rw [← pj]; exact (bk aJ)⟩; have oq : Aside0 (wr.heap[te]? = some (.cells #[.int .u32 ed, .int .i64 gH] 43 (0, 0))) := ⟨by rw [← pj]; exact (bk cT)⟩; have LU : Aside0 (Below w.heap.size w wr) := ⟨by rw [← pj]; exact bl⟩; clear aJ cT HB pj; have aJ := ot; have cT := oq; have HB := LU; clear ot oq LU))) | ((with_reducible refine af (N := 47) rfl ?_); (try (refine bL (by rfl) ?_; dsimp only)); refine Kd.R_lit (Kd.int .u8) _ 5 ?hg (N := 47) ?hd (xs := ([(fF) % 256] : List Int)) (inner := [.int .u8 ((fF) % 256)]) (ok := fun _ => True) (okp := fun _ => True) ?hr ?hp (fun _ hk => hk) trivial (Below.refl _ _) (Nat.le_refl _) (by simp) ?_; (case hd => rfl); (case hg => rfl); (case hr => first | (go_simp; done) | (go_simp; rfl)); (case hp => exact (bZ.one (show Kd.M (Kd.int .u8) _ _ _ ((fF) % 256) [.int .u8 ((fF) % 256)] from rfl) (bZ.none _ _))); intro Tj X2 Fx hb bO jI; clear bO jI; (first | rw [← zs.out] at Fx | (simp only [Int.reduceToNat] at Fx; rw [← zs.out] at Fx)); have ti := ak (Kd.R_lower Fx (fj bl)); replace aJ := bm aJ hb; replace cT := bm cT hb; replace HB := bs hb; clear hb Fx; have aN3 := di (P := Tryz.prog) Tryz.underlying61 Tryz.underlying5 Tryz.underlying9 (Kd.own_of_R ti.out)))
                  replace ti := ak (Kd.R_drew ti.out)
                  replace aJ := ak (aj aJ.out)
                  replace cT := ak (aj cT.out)
                  replace HB := ak (gM HB.out)
                  refine dV (n := 8) (S := fun w' => w'.cell? ⟨te, 0, none⟩ = some (.int .u32 ed) ∧ w'.cell? ⟨te, 1, none⟩ = some (.int .i64 gH)) (ds := []) #[false, false, false, false, false, false, false, false] (by kernel_rfl) rfl rfl ⟨(cD cT.out 0).trans rfl, (cD cT.out 1).trans rfl⟩ (fun hHeld => ?_); refine cz aG.tab10 aG.bits10 (fun aa bV => ?_)
                  generalize X2.drew = w32 at ti aJ cT HB hHeld ⊢
                  refine pu 0 aa.out ?_
                  refine pu 1 aa.out ?_
                  refine pu 2 aa.out ?_
                  refine pu 3 aa.out ?_
                  refine pu 5 aa.out ?_
                  refine tk 4 aa.out bV.out hHeld ?_ (hv := by rintro w' ⟨s0, s1⟩; go_simp; with_reducible rfl)
                  refine pu 6 aa.out ?_
                  refine ow 7 aa.out (fun K hK => ?_)
                  have aS6 := cf aJ 0
                  have aN1 := J aJ.out 0
                  have ae0 := aN.out
                  have af4 := cF.out
                  have aS5 := cf aJ 1
                  have aN0 := J aJ.out 1
                  have ad9 := aN.out
                  have af3 := cF.out
                  have aS4 := cf aJ 2
                  have aM9 := J aJ.out 2
                  have ad8 := aN.out
                  have af2 := cF.out
                  have aS3 := cf aJ 3
                  have aM8 := J aJ.out 3
                  have ad7 := aN.out
                  have af1 := cF.out
                  have aS2 := cf aJ 4
                  have aM7 := J aJ.out 4
                  have ad6 := aN.out
                  have af0 := cF.out
                  have aS1 := cf aJ 5
                  have aM6 := J aJ.out 5
                  have ad5 := aN.out
                  have ae9 := cF.out
                  have aS0 := cf aJ 6
                  have aM5 := J aJ.out 6
                  have ad4 := aN.out
                  have ae8 := cF.out
                  have aR9 := cf aJ 7
                  have aM4 := J aJ.out 7
                  have ad3 := aN.out
                  have ae7 := cF.out
                  have aR8 := cf aJ 8
                  have aM3 := J aJ.out 8
                  have ad2 := aN.out
                  have ae6 := cF.out
                  have aR7 := cf aJ 9
                  have aM2 := J aJ.out 9
                  have ad1 := aN.out
                  have ae5 := cF.out
                  have aR6 := cf aJ 10
                  have aM1 := J aJ.out 10
                  have ad0 := aN.out
                  have ae4 := cF.out
                  have aR5 := cf aJ 11
                  have aM0 := J aJ.out 11
                  have ac9 := aN.out
                  have ae3 := cF.out
                  have aR4 := cf aJ 12
                  have aL9 := J aJ.out 12
                  have ac8 := aN.out
                  have ae2 := cF.out
                  have aR3 := cf aJ 13
                  have aL8 := J aJ.out 13
                  have ac7 := aN.out
                  have ae1 := cF.out
                  refine uG (w1 := ?_) (by rfl) rfl ?_ ?_
                  rotate_left
                  ·go_simp
                   rfl
                  refine hK.out _ _ ⟨((cell_far (p := ⟨de, _, none⟩) aN.out _).trans (((cell_far (p := ⟨de, _, none⟩) aN.out _).trans (((cell_far (p := ⟨de, _, none⟩) aN.out _).trans (((cell_far (p := ⟨de, _, none⟩) aN.out _).trans (((cell_far (p := ⟨de, _, none⟩) aN.out _).trans (((cell_far (p := ⟨de, _, none⟩) aN.out _).trans (((cell_far (p := ⟨de, _, none⟩) aN.out _).trans (((cell_far (p := ⟨de, _, none⟩) aN.out _).trans (((cell_far (p := ⟨de, _, none⟩) aN.out _).trans (((cell_far (p := ⟨de, _, none⟩) aN.out _).trans (((cell_far (p := ⟨de, _, none⟩) aN.out _).trans (((cell_far (p := ⟨de, _, none⟩) aN.out _).trans (((cell_far (p := ⟨de, _, none⟩) aN.out _).trans (((cell_far (p := ⟨de, _, none⟩) aN.out _).trans (hHeld.1)))))))))))))))))))))))))))), ((cell_far (p := ⟨de, _, none⟩) aN.out _).trans (((cell_far (p := ⟨de, _, none⟩) aN.out _).trans (((cell_far (p := ⟨de, _, none⟩) aN.out _).trans (((cell_far (p := ⟨de, _, none⟩) aN.out _).trans (((cell_far (p := ⟨de, _, none⟩) aN.out _).trans (((cell_far (p := ⟨de, _, none⟩) aN.out _).trans (((cell_far (p := ⟨de, _, none⟩) aN.out _).trans (((cell_far (p := ⟨de, _, none⟩) aN.out _).trans (((cell_far (p := ⟨de, _, none⟩) aN.out _).trans (((cell_far (p := ⟨de, _, none⟩) aN.out _).trans (((cell_far (p := ⟨de, _, none⟩) aN.out _).trans (((cell_far (p := ⟨de, _, none⟩) aN.out _).trans (((cell_far (p := ⟨de, _, none⟩) aN.out _).trans (((cell_far (p := ⟨de, _, none⟩) aN.out _).trans (hHeld.2))))))))))))))))))))))))))))⟩ (fun hHeld => ?_)
                  clear hK K
                  refine dn aa.out ?_
                  try go_wp2
                  refine bodyPost_ret (results_cell_row rfl _ _ de 52 #[.int .i64 3, .string (a0.extract 0 (bW : Int).toNat), .int .u32 ed, .int .u32 0, .int .i64 0, .bool false, .int .u32 0, .string (⟨#[]⟩ : ByteArray), .slice none 0 0, .slice none 0 0, .slice none 0 0, .int .i64 fF, .slice none 0 0, .bool false] (0, 0) _ rfl (by (with_reducible repeat (first | refine ag ?_ _ | refine aj ?_ | refine ah ?_ _)); refine aM (cs := #[.int .i64 3, .string (a0.extract 0 (bW : Int).toNat), .int .u32 ed, .int .u32 0, .int .i64 0, .bool false, .int .u32 0, .string (⟨#[]⟩ : ByteArray), .slice none 0 0, .slice none 0 0, .slice none 0 0, .int .i64 fF, .slice none 0 0, .bool bN]) ?_ 13 _ rfl; (with_reducible repeat (first | refine ag ?_ _ | refine aj ?_ | refine ah ?_ _)); refine aM (cs := #[.int .i64 3, .string (a0.extract 0 (bW : Int).toNat), .int .u32 ed, .int .u32 0, .int .i64 0, .bool false, .int .u32 0, .string (⟨#[]⟩ : ByteArray), .slice none 0 0, .slice none 0 0, .slice none 0 0, .int .i64 fF, .slice none 0 0, .bool bN]) ?_ 12 _ rfl; (with_reducible repeat (first | refine ag ?_ _ | refine aj ?_ | refine ah ?_ _)); refine aM (cs := #[.int .i64 3, .string (a0.extract 0 (bW : Int).toNat), .int .u32 ed, .int .u32 0, .int .i64 0, .bool false, .int .u32 0, .string (⟨#[]⟩ : ByteArray), .slice none 0 0, .slice none 0 0, .slice none 0 0, .int .i64 b6, .slice none 0 0, .bool bN]) ?_ 11 _ rfl; (with_reducible repeat (first | refine ag ?_ _ | refine aj ?_ | refine ah ?_ _)); refine aM (cs := #[.int .i64 3, .string (a0.extract 0 (bW : Int).toNat), .int .u32 ed, .int .u32 0, .int .i64 0, .bool false, .int .u32 0, .string (⟨#[]⟩ : ByteArray), .slice none 0 0, .slice none 0 0, .slice none 0 0, .int .i64 b6, .slice none 0 0, .bool bN]) ?_ 10 _ rfl; (with_reducible repeat (first | refine ag ?_ _ | refine aj ?_ | refine ah ?_ _)); refine aM (cs := #[.int .i64 3, .string (a0.extract 0 (bW : Int).toNat), .int .u32 ed, .int .u32 0, .int .i64 0, .bool false, .int .u32 0, .string (⟨#[]⟩ : ByteArray), .slice none 0 0, .slice none 0 0, .slice none 0 0, .int .i64 b6, .slice none 0 0, .bool bN]) ?_ 9 _ rfl; (with_reducible repeat (first | refine ag ?_ _ | refine aj ?_ | refine ah ?_ _)); refine aM (cs := #[.int .i64 3, .string (a0.extract 0 (bW : Int).toNat), .int .u32 ed, .int .u32 0, .int .i64 0, .bool false, .int .u32 0, .string (⟨#[]⟩ : ByteArray), .slice none 0 0, .slice none 0 0, .slice none 0 0, .int .i64 b6, .slice none 0 0, .bool bN]) ?_ 8 _ rfl; (with_reducible repeat (first | refine ag ?_ _ | refine aj ?_ | refine ah ?_ _)); refine aM (cs := #[.int .i64 3, .string (a0.extract 0 (bW : Int).toNat), .int .u32 ed, .int .u32 0, .int .i64 0, .bool false, .int .u32 0, .string dc, .slice none 0 0, .slice none 0 0, .slice none 0 0, .int .i64 b6, .slice none 0 0, .bool bN]) ?_ 7 _ rfl; (with_reducible repeat (first | refine ag ?_ _ | refine aj ?_ | refine ah ?_ _)); refine aM (cs := #[.int .i64 3, .string (a0.extract 0 (bW : Int).toNat), .int .u32 ed, .int .u32 0, .int .i64 0, .bool false, .int .u32 du, .string dc, .slice none 0 0, .slice none 0 0, .slice none 0 0, .int .i64 b6, .slice none 0 0, .bool bN]) ?_ 6 _ rfl; (with_reducible repeat (first | refine ag ?_ _ | refine aj ?_ | refine ah ?_ _)); refine aM (cs := #[.int .i64 3, .string (a0.extract 0 (bW : Int).toNat), .int .u32 ed, .int .u32 0, .int .i64 0, .bool dD, .int .u32 du, .string dc, .slice none 0 0, .slice none 0 0, .slice none 0 0, .int .i64 b6, .slice none 0 0, .bool bN]) ?_ 5 _ rfl; (with_reducible repeat (first | refine ag ?_ _ | refine aj ?_ | refine ah ?_ _)); refine aM (cs := #[.int .i64 3, .string (a0.extract 0 (bW : Int).toNat), .int .u32 ed, .int .u32 0, .int .i64 ec, .bool dD, .int .u32 du, .string dc, .slice none 0 0, .slice none 0 0, .slice none 0 0, .int .i64 b6, .slice none 0 0, .bool bN]) ?_ 4 _ rfl; (with_reducible repeat (first | refine ag ?_ _ | refine aj ?_ | refine ah ?_ _)); refine aM (cs := #[.int .i64 3, .string (a0.extract 0 (bW : Int).toNat), .int .u32 ed, .int .u32 eO, .int .i64 ec, .bool dD, .int .u32 du, .string dc, .slice none 0 0, .slice none 0 0, .slice none 0 0, .int .i64 b6, .slice none 0 0, .bool bN]) ?_ 3 _ rfl; (with_reducible repeat (first | refine ag ?_ _ | refine aj ?_ | refine ah ?_ _)); refine aM (cs := #[.int .i64 3, .string (a0.extract 0 (bW : Int).toNat), .int .u32 fo, .int .u32 eO, .int .i64 ec, .bool dD, .int .u32 du, .string dc, .slice none 0 0, .slice none 0 0, .slice none 0 0, .int .i64 b6, .slice none 0 0, .bool bN]) ?_ 2 _ rfl; (with_reducible repeat (first | refine ag ?_ _ | refine aj ?_ | refine ah ?_ _)); refine aM (cs := #[.int .i64 3, .string gF, .int .u32 fo, .int .u32 eO, .int .i64 ec, .bool dD, .int .u32 du, .string dc, .slice none 0 0, .slice none 0 0, .slice none 0 0, .int .i64 b6, .slice none 0 0, .bool bN]) ?_ 1 _ rfl; (with_reducible repeat (first | refine ag ?_ _ | refine aj ?_ | refine ah ?_ _)); refine aM (cs := #[.int .i64 iS, .string gF, .int .u32 fo, .int .u32 eO, .int .i64 ec, .bool dD, .int .u32 du, .string dc, .slice none 0 0, .slice none 0 0, .slice none 0 0, .int .i64 b6, .slice none 0 0, .bool bN]) ?_ 0 _ rfl; (with_reducible repeat (first | refine ag ?_ _ | refine aj ?_ | refine ah ?_ _)); exact aJ.out) Tryz.underlying52 rfl (by kernel_rfl)) rfl ?_
                  exact ⟨_, _, _, _, by first | rfl | (simp [db, da] <;> rfl) | (simp only [← Cj]; first | rfl | (simp [db, da] <;> rfl)) | (simp [*, db, da] <;> rfl), by first | exact Kd.R_nil _ _ _ _ _ | exact Kd.N_nil _ _ _ _ _ | exact Kd.V_nil _ _ _ _ _ | exact Kd.Q_nil _ _ _ _ _ | exact Kd.S_nil _ _ _ _ _, by first | exact Kd.R_nil _ _ _ _ _ | exact Kd.N_nil _ _ _ _ _ | exact Kd.V_nil _ _ _ _ _ | exact Kd.Q_nil _ _ _ _ _ | exact Kd.S_nil _ _ _ _ _, by first | exact Kd.R_nil _ _ _ _ _ | exact Kd.N_nil _ _ _ _ _ | exact Kd.V_nil _ _ _ _ _ | exact Kd.Q_nil _ _ _ _ _ | exact Kd.S_nil _ _ _ _ _, by first | exact Kd.R_nil _ _ _ _ _ | exact Kd.N_nil _ _ _ _ _ | exact Kd.V_nil _ _ _ _ _ | exact Kd.Q_nil _ _ _ _ _ | exact Kd.S_nil _ _ _ _ _, bl⟩
                 ·rw [if_neg Gb] at H
                  have XL : (a1.toList == ((⟨#[65]⟩ : ByteArray) ++ (strOfNums gV)).toList) = false := beq_eq_false_iff_ne.mpr Gb
                  have XK : (a1.toList != ((⟨#[65]⟩ : ByteArray) ++ (strOfNums gV)).toList) = true := bne_iff_ne.mpr Gb
                  have H' := ak H; clear H
                  have aJ2 := aN.out
                  have aH1 := cF.out
                  have aw4 := cf cT 0
                  have aw3 := cf cT 1
                  have al9 := J cT.out 0
                  have al8 := J cT.out 1
                  go_wp2_with (first | (go_at_call 43; (with_reducible refine (al.calls k2 (a0.extract 0 (bW : Int).toNat) true _ Jr.out).mono ?_); rintro e w' ⟨rfl, ⟨nd, rfl⟩⟩) | ((with_reducible refine af (N := 47) rfl ?_); (try (refine bL (by rfl) ?_; dsimp only)); refine Kd.R_lit (Kd.int .u8) _ 5 ?hg (N := 47) ?hd (xs := ([(fF) % 256] : List Int)) (inner := [.int .u8 ((fF) % 256)]) (ok := fun _ => True) (okp := fun _ => True) ?hr ?hp (fun _ hk => hk) trivial (Below.refl _ _) (Nat.le_refl _) (by simp) ?_; (case hd => rfl); (case hg => rfl); (case hr => first | (go_simp; done) | (go_simp; rfl)); (case hp => exact (bZ.one (show Kd.M (Kd.int .u8) _ _ _ ((fF) % 256) [.int .u8 ((fF) % 256)] from rfl) (bZ.none _ _))); intro Tj w49 Fw hb bO jI; clear bO jI; (first | rw [← zs.out] at Fw | (simp only [Int.reduceToNat] at Fw; rw [← zs.out] at Fw)); have ti := ak (Kd.R_lower Fw (fj bl)); replace aJ := bm aJ hb; replace cT := bm cT hb; replace HB := bs hb; clear hb Fw; have aN2 := di (P := Tryz.prog) Tryz.underlying61 Tryz.underlying5 Tryz.underlying9 (Kd.own_of_R ti.out)))
                  go_roundg k2
                  case measure => have := ee.out; have := kO.out; omega
                  case rel => exact ⟨(wrap64 (fF + 1)), (iS), (gF), (fo), (eO), (ec), (dD), (du), (dc), (b6), (bN), rf, H', ⟨by have := ee.out; have := kO.out; omega⟩, ⟨by (with_reducible repeat (first | refine ag ?_ _ | refine aj ?_ | refine ah ?_ _)); exact aJ.out⟩, ⟨by (with_reducible repeat (first | refine ag ?_ _ | refine aj ?_ | refine ah ?_ _)); exact cT.out⟩, ⟨bl⟩⟩
                ·rw [if_neg MN] at H
                 exact absurd H (by simp)
               ·replace BO := Bool.eq_false_iff.mpr BO
                subst BO
                replace H : (aG.l1 k2 a0 a1 bW true (wrap64 (fF + 1)) ed gH) = some (r1, r2, r3, r4, r5, r6, r7, r8, r9, vZ, vY, vX, vW, vV) := by rw [if_neg (show ¬ (false = true) by decide)] at H; exact H
                have H' := ak H; clear H
                have aI8 := aN.out
                have aG7 := cF.out
                have RT := cf cT 0
                have RS := cf cT 1
                have Ru := J cT.out 0
                have Rt := J cT.out 1
                go_wp2_with (first | (go_at_call 43; (with_reducible refine (al.calls k2 (a0.extract 0 (bW : Int).toNat) false _ Jr.out).mono ?_); rintro e w' ⟨rfl, ⟨nd, rfl⟩⟩))
                go_roundg k2
                case measure => have := ee.out; have := kO.out; omega
                case rel => exact ⟨(wrap64 (fF + 1)), (iS), (gF), (fo), (eO), (ec), (dD), (du), (dc), (b6), (bN), rf, H', ⟨by have := ee.out; have := kO.out; omega⟩, ⟨by (with_reducible repeat (first | refine ag ?_ _ | refine aj ?_ | refine ah ?_ _)); exact aJ.out⟩, ⟨by (with_reducible repeat (first | refine ag ?_ _ | refine aj ?_ | refine ah ?_ _)); exact cT.out⟩, ⟨bl⟩⟩
              ·rw [if_neg MO] at H
               exact absurd H (by simp)
             ·rw [if_neg MP] at H
              exact absurd H (by simp)
            ·rw [if_neg ug] at H
             have Ki : (gH == 26) = false := beq_eq_false_iff_ne.mpr ug
             have Kh : (gH != 26) = true := bne_iff_ne.mpr ug
             have H' := ak H; clear H
             have aI7 := aN.out
             have aG6 := cF.out
             have av5 := cf cT 0
             have av4 := cf cT 1
             have al0 := J cT.out 0
             have ak9 := J cT.out 1
             go_wp2
             go_roundg k2
             case measure => have := ee.out; have := kO.out; omega
             case rel => exact ⟨(wrap64 (fF + 1)), (iS), (gF), (fo), (eO), (ec), (dD), (du), (dc), (b6), (bN), rf, H', ⟨by have := ee.out; have := kO.out; omega⟩, ⟨by (with_reducible repeat (first | refine ag ?_ _ | refine aj ?_ | refine ah ?_ _)); exact aJ.out⟩, ⟨by (with_reducible repeat (first | refine ag ?_ _ | refine aj ?_ | refine ah ?_ _)); exact cT.out⟩, ⟨bl⟩⟩
           ·replace BP := Bool.eq_false_iff.mpr BP
            subst BP
            replace H : (aG.l1 k2 a0 a1 bW false (wrap64 (fF + 1)) ed gH) = some (r1, r2, r3, r4, r5, r6, r7, r8, r9, vZ, vY, vX, vW, vV) := by rw [if_neg (show ¬ (false = true) by decide)] at H; exact H
            have H' := ak H; clear H
            go_wp2
            go_roundg k2
            case measure => have := ee.out; have := kO.out; omega
            case rel => exact ⟨(wrap64 (fF + 1)), (iS), (gF), (fo), (eO), (ec), (dD), (du), (dc), (b6), (bN), rf, H', ⟨by have := ee.out; have := kO.out; omega⟩, ⟨by (with_reducible repeat (first | refine ag ?_ _ | refine aj ?_ | refine ah ?_ _)); exact aJ.out⟩, ⟨by (with_reducible repeat (first | refine ag ?_ _ | refine aj ?_ | refine ah ?_ _)); exact cT.out⟩, ⟨bl⟩⟩
          ·rw [if_neg qG] at H
           have Eo := decide_eq_false qG
           clear qG
           simp only [Option.some.injEq, Prod.mk.injEq] at H
           obtain ⟨rfl, rfl, rfl, rfl, rfl, rfl, rfl, rfl, rfl, rfl, rfl, rfl, rfl, rfl⟩ := H
           have aI6 := cF.out
           have aG5 := aN.out
           have av3 := cf aJ 0
           have av2 := cf aJ 1
           have av1 := cf aJ 2
           have av0 := cf aJ 3
           have au9 := cf aJ 4
           have au8 := cf aJ 5
           have au7 := cf aJ 6
           have au6 := cf aJ 7
           have au5 := cf aJ 8
           have au4 := cf aJ 9
           have ZW := cf aJ 10
           have ZV := cf aJ 11
           have ZU := cf aJ 12
           have ZT := cf aJ 13
           have ak8 := J aJ.out 0
           have ak7 := J aJ.out 1
           have ak6 := J aJ.out 2
           have ak5 := J aJ.out 3
           have ak4 := J aJ.out 4
           have ak3 := J aJ.out 5
           have ak2 := J aJ.out 6
           have ak1 := J aJ.out 7
           have ak0 := J aJ.out 8
           have aj9 := J aJ.out 9
           have ZH := J aJ.out 10
           have ZG := J aJ.out 11
           have ZF := J aJ.out 12
           have ZE := J aJ.out 13
           go_wp2
           refine bodyPost_ret (results_cell_row rfl _ _ de 52 #[.int .i64 0, .string (⟨#[]⟩ : ByteArray), .int .u32 0, .int .u32 0, .int .i64 0, .bool false, .int .u32 0, .string (⟨#[]⟩ : ByteArray), .slice none 0 0, .slice none 0 0, .slice none 0 0, .int .i64 0, .slice none 0 0, .bool false] (0, 0) _ rfl (by (with_reducible repeat (first | refine ag ?_ _ | refine aj ?_ | refine ah ?_ _)); refine aM (cs := #[.int .i64 0, .string (⟨#[]⟩ : ByteArray), .int .u32 0, .int .u32 0, .int .i64 0, .bool false, .int .u32 0, .string (⟨#[]⟩ : ByteArray), .slice none 0 0, .slice none 0 0, .slice none 0 0, .int .i64 0, .slice none 0 0, .bool bN]) ?_ 13 _ rfl; (with_reducible repeat (first | refine ag ?_ _ | refine aj ?_ | refine ah ?_ _)); refine aM (cs := #[.int .i64 0, .string (⟨#[]⟩ : ByteArray), .int .u32 0, .int .u32 0, .int .i64 0, .bool false, .int .u32 0, .string (⟨#[]⟩ : ByteArray), .slice none 0 0, .slice none 0 0, .slice none 0 0, .int .i64 0, .slice none 0 0, .bool bN]) ?_ 12 _ rfl; (with_reducible repeat (first | refine ag ?_ _ | refine aj ?_ | refine ah ?_ _)); refine aM (cs := #[.int .i64 0, .string (⟨#[]⟩ : ByteArray), .int .u32 0, .int .u32 0, .int .i64 0, .bool false, .int .u32 0, .string (⟨#[]⟩ : ByteArray), .slice none 0 0, .slice none 0 0, .slice none 0 0, .int .i64 b6, .slice none 0 0, .bool bN]) ?_ 11 _ rfl; (with_reducible repeat (first | refine ag ?_ _ | refine aj ?_ | refine ah ?_ _)); refine aM (cs := #[.int .i64 0, .string (⟨#[]⟩ : ByteArray), .int .u32 0, .int .u32 0, .int .i64 0, .bool false, .int .u32 0, .string (⟨#[]⟩ : ByteArray), .slice none 0 0, .slice none 0 0, .slice none 0 0, .int .i64 b6, .slice none 0 0, .bool bN]) ?_ 10 _ rfl; (with_reducible repeat (first | refine ag ?_ _ | refine aj ?_ | refine ah ?_ _)); refine aM (cs := #[.int .i64 0, .string (⟨#[]⟩ : ByteArray), .int .u32 0, .int .u32 0, .int .i64 0, .bool false, .int .u32 0, .string (⟨#[]⟩ : ByteArray), .slice none 0 0, .slice none 0 0, .slice none 0 0, .int .i64 b6, .slice none 0 0, .bool bN]) ?_ 9 _ rfl; (with_reducible repeat (first | refine ag ?_ _ | refine aj ?_ | refine ah ?_ _)); refine aM (cs := #[.int .i64 0, .string (⟨#[]⟩ : ByteArray), .int .u32 0, .int .u32 0, .int .i64 0, .bool false, .int .u32 0, .string (⟨#[]⟩ : ByteArray), .slice none 0 0, .slice none 0 0, .slice none 0 0, .int .i64 b6, .slice none 0 0, .bool bN]) ?_ 8 _ rfl; (with_reducible repeat (first | refine ag ?_ _ | refine aj ?_ | refine ah ?_ _)); refine aM (cs := #[.int .i64 0, .string (⟨#[]⟩ : ByteArray), .int .u32 0, .int .u32 0, .int .i64 0, .bool false, .int .u32 0, .string dc, .slice none 0 0, .slice none 0 0, .slice none 0 0, .int .i64 b6, .slice none 0 0, .bool bN]) ?_ 7 _ rfl; (with_reducible repeat (first | refine ag ?_ _ | refine aj ?_ | refine ah ?_ _)); refine aM (cs := #[.int .i64 0, .string (⟨#[]⟩ : ByteArray), .int .u32 0, .int .u32 0, .int .i64 0, .bool false, .int .u32 du, .string dc, .slice none 0 0, .slice none 0 0, .slice none 0 0, .int .i64 b6, .slice none 0 0, .bool bN]) ?_ 6 _ rfl; (with_reducible repeat (first | refine ag ?_ _ | refine aj ?_ | refine ah ?_ _)); refine aM (cs := #[.int .i64 0, .string (⟨#[]⟩ : ByteArray), .int .u32 0, .int .u32 0, .int .i64 0, .bool dD, .int .u32 du, .string dc, .slice none 0 0, .slice none 0 0, .slice none 0 0, .int .i64 b6, .slice none 0 0, .bool bN]) ?_ 5 _ rfl; (with_reducible repeat (first | refine ag ?_ _ | refine aj ?_ | refine ah ?_ _)); refine aM (cs := #[.int .i64 0, .string (⟨#[]⟩ : ByteArray), .int .u32 0, .int .u32 0, .int .i64 ec, .bool dD, .int .u32 du, .string dc, .slice none 0 0, .slice none 0 0, .slice none 0 0, .int .i64 b6, .slice none 0 0, .bool bN]) ?_ 4 _ rfl; (with_reducible repeat (first | refine ag ?_ _ | refine aj ?_ | refine ah ?_ _)); refine aM (cs := #[.int .i64 0, .string (⟨#[]⟩ : ByteArray), .int .u32 0, .int .u32 eO, .int .i64 ec, .bool dD, .int .u32 du, .string dc, .slice none 0 0, .slice none 0 0, .slice none 0 0, .int .i64 b6, .slice none 0 0, .bool bN]) ?_ 3 _ rfl; (with_reducible repeat (first | refine ag ?_ _ | refine aj ?_ | refine ah ?_ _)); refine aM (cs := #[.int .i64 0, .string (⟨#[]⟩ : ByteArray), .int .u32 fo, .int .u32 eO, .int .i64 ec, .bool dD, .int .u32 du, .string dc, .slice none 0 0, .slice none 0 0, .slice none 0 0, .int .i64 b6, .slice none 0 0, .bool bN]) ?_ 2 _ rfl; (with_reducible repeat (first | refine ag ?_ _ | refine aj ?_ | refine ah ?_ _)); refine aM (cs := #[.int .i64 0, .string gF, .int .u32 fo, .int .u32 eO, .int .i64 ec, .bool dD, .int .u32 du, .string dc, .slice none 0 0, .slice none 0 0, .slice none 0 0, .int .i64 b6, .slice none 0 0, .bool bN]) ?_ 1 _ rfl; (with_reducible repeat (first | refine ag ?_ _ | refine aj ?_ | refine ah ?_ _)); refine aM (cs := #[.int .i64 iS, .string gF, .int .u32 fo, .int .u32 eO, .int .i64 ec, .bool dD, .int .u32 du, .string dc, .slice none 0 0, .slice none 0 0, .slice none 0 0, .int .i64 b6, .slice none 0 0, .bool bN]) ?_ 0 _ rfl; (with_reducible repeat (first | refine ag ?_ _ | refine aj ?_ | refine ah ?_ _)); exact aJ.out) Tryz.underlying52 rfl (by kernel_rfl)) rfl ?_
           exact ⟨_, _, _, _, by first | rfl | (simp [db, da] <;> rfl) | (simp only [← Cj]; first | rfl | (simp [db, da] <;> rfl)) | (simp [*, db, da] <;> rfl), by first | exact Kd.R_nil _ _ _ _ _ | exact Kd.N_nil _ _ _ _ _ | exact Kd.V_nil _ _ _ _ _ | exact Kd.Q_nil _ _ _ _ _ | exact Kd.S_nil _ _ _ _ _, by first | exact Kd.R_nil _ _ _ _ _ | exact Kd.N_nil _ _ _ _ _ | exact Kd.V_nil _ _ _ _ _ | exact Kd.Q_nil _ _ _ _ _ | exact Kd.S_nil _ _ _ _ _, by first | exact Kd.R_nil _ _ _ _ _ | exact Kd.N_nil _ _ _ _ _ | exact Kd.V_nil _ _ _ _ _ | exact Kd.Q_nil _ _ _ _ _ | exact Kd.S_nil _ _ _ _ _, by first | exact Kd.R_nil _ _ _ _ _ | exact Kd.N_nil _ _ _ _ _ | exact Kd.V_nil _ _ _ _ _ | exact Kd.Q_nil _ _ _ _ _ | exact Kd.S_nil _ _ _ _ _, bl⟩
       ·rw [if_neg c10] at H
        exact absurd H (by simp)
      ·rw [if_neg c9] at H
       exact absurd H (by simp)
     ·rw [if_neg c7] at H
      have qV : ((bt a0 bW) == 47) = false := beq_eq_false_iff_ne.mpr c7
      have Av : ((bt a0 bW) != 47) = true := bne_iff_ne.mpr c7
      have H' := ak H; clear H
      have p6 : 0 ≤ (bW : Int) := od
      have q6 : bW < (a0.size : Int) := od
      have Mh := fi a0 bW
      replace p6 := eq_true p6
      replace q6 := eq_true q6
      go_wp2
      go_roundg k1
      case measure => have := ee.out; omega
      case rel => exact ⟨(wrap64 (bW + 1)), (n8), (mA), (kP), (jK), (iR), (ik), (gE), (fS), (ev), (dP), rf, H', ⟨by have := ee.out; omega⟩, ⟨by (with_reducible repeat (first | refine ag ?_ _ | refine aj ?_ | refine ah ?_ _)); exact aJ.out⟩, ⟨bl⟩⟩
    ·rw [if_neg c5] at H
     exact absurd H (by simp)
   ·rw [if_neg c4] at H
    have eQ := decide_eq_false c4
    clear c4
    simp only [Option.some.injEq, Prod.mk.injEq] at H
    obtain ⟨rfl, rfl, rfl, rfl, rfl, rfl, rfl, rfl, rfl, rfl, rfl, rfl, rfl, rfl⟩ := H
    have au3 := cf aJ 0
    have au2 := cf aJ 1
    have au1 := cf aJ 2
    have au0 := cf aJ 3
    have at7 := cf aJ 4
    have at6 := cf aJ 5
    have at5 := cf aJ 6
    have at4 := cf aJ 7
    have at3 := cf aJ 8
    have at2 := cf aJ 9
    have ZS := cf aJ 10
    have ZR := cf aJ 11
    have ZQ := cf aJ 12
    have ZP := cf aJ 13
    have aj8 := J aJ.out 0
    have aj7 := J aJ.out 1
    have aj6 := J aJ.out 2
    have aj5 := J aJ.out 3
    have aj4 := J aJ.out 4
    have aj3 := J aJ.out 5
    have aj2 := J aJ.out 6
    have aj1 := J aJ.out 7
    have aj0 := J aJ.out 8
    have ai9 := J aJ.out 9
    have ZD := J aJ.out 10
    have ZC := J aJ.out 11
    have ZB := J aJ.out 12
    have ZA := J aJ.out 13
    go_wp2
    refine bodyPost_ret (results_cell_row rfl _ _ de 52 #[.int .i64 0, .string (⟨#[]⟩ : ByteArray), .int .u32 0, .int .u32 0, .int .i64 0, .bool false, .int .u32 0, .string (⟨#[]⟩ : ByteArray), .slice none 0 0, .slice none 0 0, .slice none 0 0, .int .i64 0, .slice none 0 0, .bool false] (0, 0) _ rfl (by (with_reducible repeat (first | refine ag ?_ _ | refine aj ?_ | refine ah ?_ _)); refine aM (cs := #[.int .i64 0, .string (⟨#[]⟩ : ByteArray), .int .u32 0, .int .u32 0, .int .i64 0, .bool false, .int .u32 0, .string (⟨#[]⟩ : ByteArray), .slice none 0 0, .slice none 0 0, .slice none 0 0, .int .i64 0, .slice none 0 0, .bool dP]) ?_ 13 _ rfl; (with_reducible repeat (first | refine ag ?_ _ | refine aj ?_ | refine ah ?_ _)); refine aM (cs := #[.int .i64 0, .string (⟨#[]⟩ : ByteArray), .int .u32 0, .int .u32 0, .int .i64 0, .bool false, .int .u32 0, .string (⟨#[]⟩ : ByteArray), .slice none 0 0, .slice none 0 0, .slice none 0 0, .int .i64 0, .slice none 0 0, .bool dP]) ?_ 12 _ rfl; (with_reducible repeat (first | refine ag ?_ _ | refine aj ?_ | refine ah ?_ _)); refine aM (cs := #[.int .i64 0, .string (⟨#[]⟩ : ByteArray), .int .u32 0, .int .u32 0, .int .i64 0, .bool false, .int .u32 0, .string (⟨#[]⟩ : ByteArray), .slice none 0 0, .slice none 0 0, .slice none 0 0, .int .i64 ev, .slice none 0 0, .bool dP]) ?_ 11 _ rfl; (with_reducible repeat (first | refine ag ?_ _ | refine aj ?_ | refine ah ?_ _)); refine aM (cs := #[.int .i64 0, .string (⟨#[]⟩ : ByteArray), .int .u32 0, .int .u32 0, .int .i64 0, .bool false, .int .u32 0, .string (⟨#[]⟩ : ByteArray), .slice none 0 0, .slice none 0 0, .slice none 0 0, .int .i64 ev, .slice none 0 0, .bool dP]) ?_ 10 _ rfl; (with_reducible repeat (first | refine ag ?_ _ | refine aj ?_ | refine ah ?_ _)); refine aM (cs := #[.int .i64 0, .string (⟨#[]⟩ : ByteArray), .int .u32 0, .int .u32 0, .int .i64 0, .bool false, .int .u32 0, .string (⟨#[]⟩ : ByteArray), .slice none 0 0, .slice none 0 0, .slice none 0 0, .int .i64 ev, .slice none 0 0, .bool dP]) ?_ 9 _ rfl; (with_reducible repeat (first | refine ag ?_ _ | refine aj ?_ | refine ah ?_ _)); refine aM (cs := #[.int .i64 0, .string (⟨#[]⟩ : ByteArray), .int .u32 0, .int .u32 0, .int .i64 0, .bool false, .int .u32 0, .string (⟨#[]⟩ : ByteArray), .slice none 0 0, .slice none 0 0, .slice none 0 0, .int .i64 ev, .slice none 0 0, .bool dP]) ?_ 8 _ rfl; (with_reducible repeat (first | refine ag ?_ _ | refine aj ?_ | refine ah ?_ _)); refine aM (cs := #[.int .i64 0, .string (⟨#[]⟩ : ByteArray), .int .u32 0, .int .u32 0, .int .i64 0, .bool false, .int .u32 0, .string fS, .slice none 0 0, .slice none 0 0, .slice none 0 0, .int .i64 ev, .slice none 0 0, .bool dP]) ?_ 7 _ rfl; (with_reducible repeat (first | refine ag ?_ _ | refine aj ?_ | refine ah ?_ _)); refine aM (cs := #[.int .i64 0, .string (⟨#[]⟩ : ByteArray), .int .u32 0, .int .u32 0, .int .i64 0, .bool false, .int .u32 gE, .string fS, .slice none 0 0, .slice none 0 0, .slice none 0 0, .int .i64 ev, .slice none 0 0, .bool dP]) ?_ 6 _ rfl; (with_reducible repeat (first | refine ag ?_ _ | refine aj ?_ | refine ah ?_ _)); refine aM (cs := #[.int .i64 0, .string (⟨#[]⟩ : ByteArray), .int .u32 0, .int .u32 0, .int .i64 0, .bool ik, .int .u32 gE, .string fS, .slice none 0 0, .slice none 0 0, .slice none 0 0, .int .i64 ev, .slice none 0 0, .bool dP]) ?_ 5 _ rfl; (with_reducible repeat (first | refine ag ?_ _ | refine aj ?_ | refine ah ?_ _)); refine aM (cs := #[.int .i64 0, .string (⟨#[]⟩ : ByteArray), .int .u32 0, .int .u32 0, .int .i64 iR, .bool ik, .int .u32 gE, .string fS, .slice none 0 0, .slice none 0 0, .slice none 0 0, .int .i64 ev, .slice none 0 0, .bool dP]) ?_ 4 _ rfl; (with_reducible repeat (first | refine ag ?_ _ | refine aj ?_ | refine ah ?_ _)); refine aM (cs := #[.int .i64 0, .string (⟨#[]⟩ : ByteArray), .int .u32 0, .int .u32 jK, .int .i64 iR, .bool ik, .int .u32 gE, .string fS, .slice none 0 0, .slice none 0 0, .slice none 0 0, .int .i64 ev, .slice none 0 0, .bool dP]) ?_ 3 _ rfl; (with_reducible repeat (first | refine ag ?_ _ | refine aj ?_ | refine ah ?_ _)); refine aM (cs := #[.int .i64 0, .string (⟨#[]⟩ : ByteArray), .int .u32 kP, .int .u32 jK, .int .i64 iR, .bool ik, .int .u32 gE, .string fS, .slice none 0 0, .slice none 0 0, .slice none 0 0, .int .i64 ev, .slice none 0 0, .bool dP]) ?_ 2 _ rfl; (with_reducible repeat (first | refine ag ?_ _ | refine aj ?_ | refine ah ?_ _)); refine aM (cs := #[.int .i64 0, .string mA, .int .u32 kP, .int .u32 jK, .int .i64 iR, .bool ik, .int .u32 gE, .string fS, .slice none 0 0, .slice none 0 0, .slice none 0 0, .int .i64 ev, .slice none 0 0, .bool dP]) ?_ 1 _ rfl; (with_reducible repeat (first | refine ag ?_ _ | refine aj ?_ | refine ah ?_ _)); refine aM (cs := #[.int .i64 n8, .string mA, .int .u32 kP, .int .u32 jK, .int .i64 iR, .bool ik, .int .u32 gE, .string fS, .slice none 0 0, .slice none 0 0, .slice none 0 0, .int .i64 ev, .slice none 0 0, .bool dP]) ?_ 0 _ rfl; (with_reducible repeat (first | refine ag ?_ _ | refine aj ?_ | refine ah ?_ _)); exact aJ.out) Tryz.underlying52 rfl (by kernel_rfl)) rfl ?_
    exact ⟨_, _, _, _, rg, by first | exact Kd.R_nil _ _ _ _ _ | exact Kd.N_nil _ _ _ _ _ | exact Kd.V_nil _ _ _ _ _ | exact Kd.Q_nil _ _ _ _ _ | exact Kd.S_nil _ _ _ _ _, by first | exact Kd.R_nil _ _ _ _ _ | exact Kd.N_nil _ _ _ _ _ | exact Kd.V_nil _ _ _ _ _ | exact Kd.Q_nil _ _ _ _ _ | exact Kd.S_nil _ _ _ _ _, by first | exact Kd.R_nil _ _ _ _ _ | exact Kd.N_nil _ _ _ _ _ | exact Kd.V_nil _ _ _ _ _ | exact Kd.Q_nil _ _ _ _ _ | exact Kd.S_nil _ _ _ _ _, by first | exact Kd.R_nil _ _ _ _ _ | exact Kd.N_nil _ _ _ _ _ | exact Kd.V_nil _ _ _ _ _ | exact Kd.Q_nil _ _ _ _ _ | exact Kd.S_nil _ _ _ _ _, bl⟩
end
section
abbrev T13 := Int × ByteArray × Int × Int × Int × Bool × Int × ByteArray × List Int × List Int × (List S78) × Int × (List S144) × Bool
def KZ (k : Int) (s : ByteArray) (a st : Int) : T13 := (k, s, a, 0, 0, false, 0, ⟨#[]⟩, [], [], [], st, [], false)
def nW (val : ByteArray) (k : Int) : Bool := decide (val.toList = ((⟨#[65]⟩ : ByteArray) ++ strOfNums [k % 256]).toList)
def Gp (x : ByteArray) (d : Int × Int × Bool) : Bool := d.2.2 && (decide (d.2.1 = 26) && bU x)
theorem Gm (t val : ByteArray) (i : Nat) (hi : i ≤ t.size) (ht : t.size ≤ 1000) (d1 d2 : Int) (d3 : Bool) (x : Int) (hx : 1 ≤ x) (h3 : x ≤ 3) (k : Nat) (hk : 1005 ≤ k) :
  aG.l1 (k + 1) t val (i : Int) d3 x d1 d2 = if (Gp (t.extract 0 i) (d1, d2, d3) && nW val x) = true then some (KZ 3 (t.extract 0 i) d1 x) else aG.l1 k t val (i : Int) d3 (x + 1) d1 d2 := by
 rw [aG.l1, if_pos h3]
 have hw : wrap64 (x + 1) = x + 1 := bB _ (by omega) (by omega)
 rw [hw]
 unfold Gp
 cases d3 with
 | false => rfl
 | true =>
  rw [if_pos rfl]
  by_cases P7 : d2 = 26
  ·rw [if_pos P7, if_pos (by omega), if_pos (by omega), Int.toNat_natCast, sN _ (by rw [ByteArray.size_extract]; omega) k (by rw [ByteArray.size_extract]; omega), Option.bind_some, decide_eq_true P7]
   cases bU (t.extract 0 i) with
   | false => rfl
   | true =>
    rw [if_pos rfl, Option.bind_some, if_pos (by rw [strOfNums_size]; show 1 + 1 ≤ _; omega)]
    unfold nW
    by_cases hv : val.toList = ((⟨#[65]⟩ : ByteArray) ++ strOfNums [x % 256]).toList
    ·rw [if_pos hv, decide_eq_true hv]; rfl
    ·rw [if_neg hv, decide_eq_false hv]; rfl
  ·rw [if_neg P7, decide_eq_false P7]
   rfl
theorem Sz (t val : ByteArray) (i d1 d2 : Int) (d3 : Bool) (k : Nat) : aG.l1 (k + 1) t val i d3 4 d1 d2 = some (KZ 0 ⟨#[]⟩ 0 0) := by
 rw [aG.l1, if_neg (by omega)]
 rfl
theorem JE (val : ByteArray) (n : Nat) (hn : n < 256) : nW val n = true ↔ val.data.toList = [65, UInt8.ofNat n] := by
 unfold nW
 rw [decide_eq_true_iff, Lib.toList_data, Lib.toList_data, eV]
 rw [show ((n : Int) % 256) = (n : Int) by omega]
 have : (strOfNums [(n : Int)]).data.toList = [UInt8.ofNat n] := by simp [strOfNums]
 rw [this]
 rfl
theorem SB (val : ByteArray) : (l7 val = (1, 0) ↔ nW val 1 = true) ∧ (l7 val = (2, 0) ↔ nW val 2 = true) ∧ (l7 val = (3, 0) ↔ nW val 3 = true) ∧ ((l7 val).2 = 0 → (l7 val = (1, 0) ∨ l7 val = (2, 0) ∨ l7 val = (3, 0))) := by
 have s1 := JE val 1 (by decide)
 have s2 := JE val 2 (by decide)
 have s3 := JE val 3 (by decide)
 have t1 : nW val 1 = nW val ((1 : Nat) : Int) := rfl
 have t2 : nW val 2 = nW val ((2 : Nat) : Int) := rfl
 have t3 : nW val 3 = nW val ((3 : Nat) : Int) := rfl
 rw [t1, t2, t3, s1, s2, s3]
 have ht := Ex val 65 3
 unfold l7
 rw [ht]
 match val.data.toList with
 | [] => simp
 | [x] => simp
 | [x, y] =>
  dsimp only
  have ex := sK x 65 65 rfl
  have e0 := sK y 0 0 rfl
  have e1 := sK y 1 1 rfl
  have e2 := sK y 2 2 rfl
  have e3 := sK y 3 3 rfl
  by_cases h1 : x = 65
  ·have hx := ex.2 h1
   by_cases h2 : (y.toNat : Int) > 3
   ·have n1 : ¬ y = 1 := fun h => by have := e1.2 h; omega
    have n2 : ¬ y = 2 := fun h => by have := e2.2 h; omega
    have n3 : ¬ y = 3 := fun h => by have := e3.2 h; omega
    simp [h2, n1, n2, n3]
   ·rcases (show (y.toNat : Int) = 0 ∨ (y.toNat : Int) = 1 ∨ (y.toNat : Int) = 2 ∨ (y.toNat : Int) = 3 by omega) with h | h | h | h
    ·obtain rfl := e0.1 h; subst h1; decide
    ·obtain rfl := e1.1 h; subst h1; decide
    ·obtain rfl := e2.1 h; subst h1; decide
    ·obtain rfl := e3.1 h; subst h1; decide
  ·have hx : ¬ (x.toNat : Int) = 65 := mt ex.1 h1
   simp [hx, h1]
 | x :: y :: z :: l => simp
def Gn (x : ByteArray) (d : Int × Int × Bool) (val : ByteArray) : Rc := if Gp x d = true ∧ (l7 val).2 = 0 then .aff x d.1 (l7 val).1 else .no
def zZ : Rc → T13
 | .aff s a k => KZ 3 s a k
 | _ => KZ 0 ⟨#[]⟩ 0 0
theorem Ks (t val : ByteArray) (i : Nat) (hi : i ≤ t.size) (ht : t.size ≤ 1000) (d : Int × Int × Bool) (k : Nat) (hk : 1010 ≤ k) : aG.l1 k t val (i : Int) d.2.2 1 d.1 d.2.1 = some (zZ (Gn (t.extract 0 i) d val)) := by
 obtain ⟨d1, d2, d3⟩ := d
 obtain ⟨h1, h2, h3, h4⟩ := SB val
 obtain ⟨k, rfl⟩ : ∃ m, k = m + 4 := ⟨k - 4, by omega⟩
 dsimp only
 rw [Gm t val i hi ht d1 d2 d3 1 (by omega) (by omega) (k + 3) (by omega), Gm t val i hi ht d1 d2 d3 (1 + 1) (by omega) (by omega) (k + 2) (by omega), Gm t val i hi ht d1 d2 d3 (1 + 1 + 1) (by omega) (by omega) (k + 1) (by omega), show (1 + 1 + 1 + 1 : Int) = 4 from rfl, Sz, show (1 + 1 : Int) = 2 from rfl, show (2 + 1 : Int) = 3 from rfl]
 unfold Gn
 cases Gp (t.extract 0 i) (d1, d2, d3) with
 | false => rfl
 | true =>
  simp only [Bool.true_and, true_and]
  by_cases b1 : nW val 1 = true
  ·rw [if_pos b1, h1.2 b1]; rfl
  ·rw [if_neg b1]
   by_cases b2 : nW val 2 = true
   ·rw [if_pos b2, h2.2 b2]; rfl
   ·rw [if_neg b2]
    by_cases b3 : nW val 3 = true
    ·rw [if_pos b3, h3.2 b3]; rfl
    ·rw [if_neg b3, if_neg]
     ·rfl
     ·intro h
      rcases h4 h with h | h | h
      ·exact b1 (h1.1 h)
      ·exact b2 (h2.1 h)
      ·exact b3 (h3.1 h)
def nZ (t val : ByteArray) : Rc := if (bY 47 t).2.2 = true then Gn (bY 47 t).1 (iV (bY 47 t).2.1) val else .no
theorem M1 (t val : ByteArray) (ht : t.size ≤ 1000) : ∀ (d i k : Nat), i + d = t.size → (47 : UInt8) ∉ t.data.toList.take i → d + 1012 ≤ k → aG.l0 k t val (i : Int) = some (zZ (nZ t val))
 | 0, i, k, hi, hn, hk => by
  obtain ⟨k, rfl⟩ : ∃ m, k = m + 1 := ⟨k - 1, by omega⟩
  rw [aG.l0, if_neg (by omega)]
  unfold nZ
  rw [if_neg]
  ·rfl
  ·intro h
   obtain ⟨h1, _⟩ := xn 47 t h
   refine hn ?_
   rw [List.take_of_length_le (by rw [cG]; omega), h1]
   exact List.mem_append_right _ List.mem_cons_self
 | d + 1, i, k, hi, hn, hk => by
  obtain ⟨k, rfl⟩ : ∃ m, k = m + 1 := ⟨k - 1, by omega⟩
  have hil : i < t.data.toList.length := by rw [cG]; omega
  have hg : t.data.toList[i] = t[i] := rfl
  rw [aG.l0, if_pos (by omega), if_pos (by omega), yG t i (by omega)]
  have hw : wrap64 ((i : Int) + 1) = ((i + 1 : Nat) : Int) := by rw [bB _ (by omega) (by omega)]; omega
  have hu : ((t[i].toNat : Int) = 47) ↔ t[i] = 47 := sK t[i] 47 47 rfl
  rw [hw]
  by_cases hb : t[i] = 47
  ·rw [if_pos (hu.2 hb), if_pos (by omega), if_pos (by omega), Int.toNat_natCast]
   have hsp : t.data.toList = t.data.toList.take i ++ 47 :: t.data.toList.drop (i + 1) := by
    conv => lhs; rw [← List.take_append_drop i t.data.toList, List.drop_eq_getElem_cons hil, hg, hb]
   obtain ⟨c1, c2, c3⟩ := wG 47 t _ _ hsp hn
   have e1 : (bY 47 t).1 = t.extract 0 i := fh (by rw [c1, Lib.extract_from_zero])
   have e2 : (bY 47 t).2.1 = t.extract (i + 1) t.size := fh (by rw [c2, Lib.extract_to_end])
   unfold dv.f
   rw [if_pos (by rw [ByteArray.size_extract]; omega), Option.bind_some, Ks t val i (by omega) ht _ k (by omega)]
   unfold nZ
   rw [if_pos c3, e1, e2]
  ·rw [if_neg (fun h => hb (hu.1 h))]
   refine M1 t val ht d (i + 1) k (by omega) ?_ (by omega)
   rw [List.take_succ_eq_append_getElem hil, hg]
   intro h
   rcases List.mem_append.1 h with h | h
   ·exact hn h
   ·exact hb (List.mem_singleton.1 h).symm
theorem XR (t val : ByteArray) (ht : t.size ≤ 1000) : aG.f 3000 t val = some (zZ (nZ t val)) := M1 t val ht t.size 0 3000 (by omega) (by simp) (by omega)
theorem SC {key val t : ByteArray} (h : dk ni key = some t) : dt key val = nZ t val := by
 have hO : oA key = match (if bU (bY 47 t).1 = true then (oL (bY 47 t).2.1).map fun v => ((bY 47 t).1, v) else none) with | some (s, v) => (s, (v : Int), true) | none => (⟨#[]⟩, 0, false) := by unfold oA; rw [h]; rfl
 rw [Zh h]
 unfold gy nZ Gn Gp
 rw [hO]
 unfold iV oL
 cases hr : bU (bY 47 t).1 with
 | false => simp
 | true =>
  cases hd : fZ (bY 47 t).2.1 with
  | none => simp
  | some q =>
   obtain ⟨v, n⟩ := q
   have hc : (bY 47 t).2.2 = true := by
    obtain ⟨_, _, _, g4⟩ := oo hd
    cases hc : (bY 47 t).2.2 with
    | true => rfl
    | false =>
     unfold bY at g4 hc
     split at hc
     ·next hm =>
      rw [if_pos hm] at g4
      have := congrArg (fun b : ByteArray => b.data.toList) g4
      simp only [nP] at this
      unfold zl at this
      simp at this
     ·cases hc
   by_cases hn : n = 26
   ·subst hn
    rw [hc]
    by_cases hz : (l7 val).2 = 0
    ·simp [hz]
    ·simp [hz]
   ·have tU : ¬ ((n : Int) = 26) := by omega
    simp [hn, tU]
end
section
theorem Lk (W : World) : (Instr.buildSlice 108 2 #[(0, .bool false), (1, .bool true)]).run Tryz.prog W = .ok (.slice (some ⟨W.heap.size, 0, none⟩) 2 2) (W.alloc (.cells [Value.bool false, .bool true].toArray 4)) := by
 go_simp
theorem JC {ops : Array Oper} {rest : List Oper} {o : Oper} {a : Act} {w : World} {Q : Exit → Act → World → Prop} (hgd : o.guard = none) (ho : o.op = .buildSlice 108 2 #[(0, .const (.bool false)), (1, .const (.bool true))])
  (h : ∀ g W1, w.heap.size ≤ g → bC W1 g [.bool false, .bool true] 4 → Below w.heap.size w W1 → wpList Tryz.prog ops Q rest (a.put o.dst (.slice (some ⟨g, 0, none⟩) 2 2)) W1) : wpList Tryz.prog ops Q (o :: rest) a w := by
 refine o0 hgd (v := .slice (some ⟨w.heap.size, 0, none⟩) 2 2) (w1 := w.alloc (.cells [Value.bool false, .bool true].toArray 4)) ?_ (h _ _ (Nat.le_refl _) (heap_alloc_new w _) (cO (Below.refl _ _) _))
 unfold execOp
 simp only [ho, List.map_toArray, List.map_cons, List.map_nil, show a.eval (.const (.bool false)) = .bool false from rfl, show a.eval (.const (.bool true)) = .bool true from rfl, Sem.run_bind, Lk w, Result.andThen_ok, Sem.run_pure]
set_option maxHeartbeats 16000000 in
set_option maxRecDepth 100000 in
theorem tq (key t val : ByteArray) (h : dk jh key = some t) (d1 d2 : Int) (d3 bm : Bool) (p : Bool → Bool) (tx : Bool → ByteArray) (hnet : dv.f t = some (d1, d2, d3)) (hrt : d3 = true → ∀ o, fJ.f 33 d1 d2 o = some bm) (hpt : d3 = true → bm = true → ∀ o, Vn d1 d2 o (tx o)) (hp : ∀ o, ((tx o).toList == val.toList) = p o)
  (R : Rc) (hR : R = if (d3 && (bm && p false)) = true then .pool ⟨⟨d1, d2⟩, false⟩ else if (d3 && (bm && p true)) = true then .pool ⟨⟨d1, d2⟩, true⟩ else .no) (w : World) : Calls Tryz.prog 13 #[.string key, .string val] w (oE R w) := by
 have hlk := wh (c := 112) h rfl (by decide)
 have mR := ak (show aq.f key ⟨#[112, 111, 111, 108, 47]⟩ = some (t, true) by have h_ := dQ jh key; rw [h] at h_; exact h_)
 have HNF := ak hnet
 have HRT := ak hrt
 have HPT := ak hpt
 have HP := ak hp
 have HR := ak hR
 clear hnet hrt hpt hp hR
 go_enter Tryz.func13, Tryz.ntmps13
 go_wp2_with (first
  | go_big_skip
  | ((with_reducible refine af (N := 4) rfl ?_); refine aE (some 4) rfl rfl 52 rfl dJ iK ?_; intro g4 W1 cQ cP aw; have HX := ak cP; have HB := ak aw; have jf := ak cQ; clear cP aw cQ)
  | (go_at_call 36; refine (aq.calls key ⟨#[112, 111, 111, 108, 47]⟩ _ _ _ mR.out).mono ?_; rintro e W2 ⟨rfl, ao⟩; clear mR; replace HX := mv ao HX; replace HB := mv ao HB; clear ao)
  | (go_at_call 37; refine (dv.calls t d1 d2 _ _ HNF.out).mono ?_; rintro e W2 ⟨rfl, ao⟩; clear HNF; replace HX := mv ao HX; replace HB := mv ao HB; clear ao)
  | ((with_reducible refine af (N := 7) rfl ?_); refine aE (some 7) rfl rfl 43 rfl ye (fun _ => by kernel_rfl) ?_; intro g7 W3 dq j8 ao; have iP := ak (show w.heap.size ≤ g7 by have := HB.out.size; omega); have nU := ak (show g4 ≠ g7 by have := HX.out.lt; omega); have HY := ak j8; clear j8 dq; replace HX := mv ao HX; replace HB := mv ao HB; clear ao)
  | ((with_reducible refine cg (t := 43) (p := 7) (v := .tmp 34) rfl ?_); refine ay rfl 43 (.tmp 7) (.tmp 34) rfl g7 [.int .u32 d1, .int .i64 d2] rfl rfl 43 _ HY.out 2 (by kernel_rfl) rfl rfl (by intro u hu; simp at hu; rcases hu with rfl | rfl <;> rfl) ?_; intro W4 ph bO; replace HY := ak ph; replace HX := gn HX nU bO; replace HB := gb HB iP bO; clear ph bO)
  | ((with_reducible refine af (N := 36) rfl ?_); refine JC rfl rfl ?_; intro gS W5 hgS hbs ao; have HS := ak hbs; replace HY := mv ao HY; clear hbs hgS; replace HX := mv ao HX; replace HB := mv ao HB; clear ao))
 have aU4 := ak (show w.heap.size ≤ g4 from jf.out)
 go_loopw [10, 11, 38] (fun _ _ i Z => ∃ j : Nat, j ≤ 2 ∧ i = .int .i64 j ∧ Aside0 ((1 ≤ j → (d3 && (bm && p false)) = false) ∧ (2 ≤ j → (d3 && (bm && p true)) = false)) ∧ Aside0 (bC Z g4 dJ 52) ∧ Aside0 (bC Z g7 [.int .u32 d1, .int .i64 d2] 43) ∧ Aside0 (bC Z gS [.bool false, .bool true] 4) ∧ Aside0 (Below w.heap.size w Z)) (fun _ _ i _ => 2 - (intOf i).toNat)
 case atStart => exact ⟨0, by omega, rfl, ⟨fun h => by omega, fun h => by omega⟩, HX, HY, HS, HB⟩
 case round =>
  clear HX HY HS HB
  obtain ⟨j, hj, rfl, HJ, HX, HY, HS, HB⟩ := hrel
  obtain ⟨Z, rfl⟩ : ∃ Z : World, Z = wr := ⟨_, rfl⟩
  by_cases lO : j < 2
  ·obtain ⟨o, ho⟩ : ∃ o : Bool, o = decide (j = 1) := ⟨_, rfl⟩
   have hjb : decide ((j : Int) < 2) = true := by simp; omega
   have p1 : ((j : Int) < 2) = True := eq_true (by omega)
   have mi : Z.cell? ⟨gS, j, none⟩ = some (.bool o) := HS.out.cell j _ (by rw [ho]; match j, lO with | 0, _ => rfl | 1, _ => rfl)
   have HO := ak ho
   have HTX := ak (HP.out o)
   obtain ⟨po, hpo⟩ : ∃ b, p o = b := ⟨_, rfl⟩
   have hto : ((tx o).toList == val.toList) = po := (HP.out o).trans hpo
   have HPO := ak hpo
   have hcs : (d3 = true ∧ bm = true ∧ po = true) ∨ (d3 = false ∨ (d3 = true ∧ bm = false) ∨ (d3 = true ∧ bm = true ∧ po = false)) := by cases d3 <;> cases bm <;> cases po <;> simp
   clear ho hpo
   rcases hcs with ⟨rfl, rfl, rfl⟩ | hcs
   ·have HRR := ak (show R = .pool ⟨⟨d1, d2⟩, o⟩ by
     rw [HR.out]
     have hpo := HPO.out
     have ho := HO.out
     match j, lO with
     | 0, _ =>
      obtain rfl : o = false := ho
      rw [hpo]
      rfl
     | 1, _ =>
      obtain rfl : o = true := ho
      rw [if_neg (by rw [HJ.out.1 (by omega)]; decide), hpo]
      rfl)
    clear HR HJ
    replace HRT := ak (HRT.out rfl)
    replace HPT := ak (HPT.out rfl rfl)
    go_wp2_with (first
     | go_big_skip
     | ((with_reducible refine af (N := 42) rfl ?_); refine a7 rfl 43 (.tmp 7) rfl g7 rfl _ _ _ HY.out Tryz.underlying43 rfl 2 (by kernel_rfl) rfl ?_)
     | ((with_reducible refine af (N := 44) rfl ?_); refine dh rfl 45 #[(0, .tmp 42), (1, .tmp 43)] rfl [(0, .agg #[.int .u32 d1, .int .i64 d2]), (1, .bool o)] (by simp only [List.map_toArray, List.map_cons, List.map_nil]; rfl) [.int .u32 d1, .int .i64 d2, .bool o] (by kernel_rfl) ?_)
     | ((with_reducible refine af (N := 11) rfl ?_); refine aE (some 11) rfl rfl 45 rfl [.int .u32 0, .int .i64 0, .bool false] (fun _ => by kernel_rfl) ?_; intro g11 W6 xi gK ao; have xz := ak (show w.heap.size ≤ g11 ∧ g4 < g11 ∧ g7 < g11 ∧ gS < g11 by have := HB.out.size; have := HX.out.lt; have := HY.out.lt; have := HS.out.lt; omega); have HZ := ak gK; clear gK xi; replace HY := mv ao HY; replace HS := mv ao HS; replace HX := mv ao HX; replace HB := mv ao HB; clear ao)
     | ((with_reducible refine cg (t := 45) (p := 11) (v := .tmp 44) rfl ?_); refine ay rfl 45 (.tmp 11) (.tmp 44) rfl g11 [.int .u32 d1, .int .i64 d2, .bool o] rfl rfl 45 _ HZ.out 3 (by kernel_rfl) rfl rfl (by intro u hu; simp at hu; rcases hu with rfl | rfl | rfl <;> rfl) ?_; intro W7 yk bO; replace HZ := ak yk; replace HX := ak (HX.out.grown bO (fun e => by have := xz.out; have := Option.some.inj e; omega)); replace HY := ak (HY.out.grown bO (fun e => by have := xz.out; have := Option.some.inj e; omega)); replace HS := ak (HS.out.grown bO (fun e => by have := xz.out; have := Option.some.inj e; omega)); replace HB := ak (HB.out.grown bO HB.out.size (by intro k hk; cases hk; exact xz.out.1)); clear yk bO)
     | ((with_reducible refine af (N := 47) rfl ?_); refine bL (by rfl) ?_; refine a7 rfl 45 (.tmp 11) rfl g11 rfl _ _ _ HZ.out Tryz.underlying45 rfl 3 (by kernel_rfl) rfl ?_)
     | (go_at_call 38; refine (fJ.calls 33 d1 d2 o _ _ (HRT.out o)).mono ?_; rintro e W8 ⟨rfl, ao⟩; replace HZ := mv ao HZ; replace HY := mv ao HY; replace HS := mv ao HS; replace HX := mv ao HX; replace HB := mv ao HB; clear ao)
     | ((with_reducible refine af (N := 51) rfl ?_); refine bL (by rfl) ?_; refine a7 rfl 45 (.tmp 11) rfl g11 rfl _ _ _ HZ.out Tryz.underlying45 rfl 3 (by kernel_rfl) rfl ?_)
     | (go_at_call 39; refine (HPT.out o _).mono ?_; rintro e W9 ⟨rfl, ao⟩; replace HZ := mv ao HZ; replace HY := mv ao HY; replace HS := mv ao HS; replace HX := mv ao HX; replace HB := mv ao HB; clear ao)
     | ((with_reducible refine af (N := 56) rfl ?_); refine a7 rfl 45 (.tmp 11) rfl g11 rfl _ _ _ HZ.out Tryz.underlying45 rfl 3 (by kernel_rfl) rfl ?_)
     | ((with_reducible refine af (N := 57) rfl ?_); refine dh rfl 52 #[(0, .const (.int .i64 1)), (3, .tmp 56)] rfl [(0, .int .i64 1), (3, .agg #[.int .u32 d1, .int .i64 d2, .bool o])] (by simp only [List.map_toArray, List.map_cons, List.map_nil]; rfl) (nw 1 ⟨#[]⟩ 0 d1 d2 o 0 (.slice none 0 0) false) (by kernel_rfl) ?_)
     | ((with_reducible refine cg (t := 52) (p := 4) (v := .tmp 57) rfl ?_); refine ay rfl 52 (.tmp 4) (.tmp 57) rfl g4 (nw 1 ⟨#[]⟩ 0 d1 d2 o 0 (.slice none 0 0) false) rfl rfl 52 _ HX.out 14 (by kernel_rfl) rfl rfl (nu _ _ _ _ _ _ _ _ _ _ _) ?_; intro W9 eP cI))
    refine bodyPost_ret (results_cell_row rfl _ _ g4 52 _ (0, 0) _ rfl eP Tryz.underlying52 rfl (by kernel_rfl)) rfl ?_
    rw [HRR.out]
    exact o7 rfl rfl (Kd.R_nil _ _ _ _ _) (HB.out.grown cI HB.out.size (by intro k hk; cases hk; exact jf.out))
   ·have HNJ := ak (show (1 ≤ j + 1 → (d3 && (bm && p false)) = false) ∧ (2 ≤ j + 1 → (d3 && (bm && p true)) = false) by
     have hpo := HPO.out
     have ho := HO.out
     have hno : (d3 && (bm && po)) = false := by rcases hcs with rfl | ⟨rfl, rfl⟩ | ⟨rfl, rfl, rfl⟩ <;> simp
     match j, lO with
     | 0, _ =>
      obtain rfl : o = false := ho
      rw [hpo]
      exact ⟨fun _ => hno, fun h => by omega⟩
     | 1, _ =>
      obtain rfl : o = true := ho
      rw [hpo]
      exact ⟨fun _ => HJ.out.1 (by omega), fun _ => hno⟩)
    clear HR HJ
    rcases hcs with rfl | ⟨rfl, rfl⟩ | ⟨rfl, rfl, rfl⟩
    all_goals
     (try replace HRT := ak (HRT.out rfl))
     (try replace HPT := ak (HPT.out rfl rfl))
     go_wp2_with (first
      | go_big_skip
      | ((with_reducible refine af (N := 42) rfl ?_); refine a7 rfl 43 (.tmp 7) rfl g7 rfl _ _ _ HY.out Tryz.underlying43 rfl 2 (by kernel_rfl) rfl ?_)
      | ((with_reducible refine af (N := 44) rfl ?_); refine dh rfl 45 #[(0, .tmp 42), (1, .tmp 43)] rfl [(0, .agg #[.int .u32 d1, .int .i64 d2]), (1, .bool o)] (by simp only [List.map_toArray, List.map_cons, List.map_nil]; rfl) [.int .u32 d1, .int .i64 d2, .bool o] (by kernel_rfl) ?_)
      | ((with_reducible refine af (N := 11) rfl ?_); refine aE (some 11) rfl rfl 45 rfl [.int .u32 0, .int .i64 0, .bool false] (fun _ => by kernel_rfl) ?_; intro g11 W6 xi gK ao; have xz := ak (show w.heap.size ≤ g11 ∧ g4 < g11 ∧ g7 < g11 ∧ gS < g11 by have := HB.out.size; have := HX.out.lt; have := HY.out.lt; have := HS.out.lt; omega); have HZ := ak gK; clear gK xi; replace HY := mv ao HY; replace HS := mv ao HS; replace HX := mv ao HX; replace HB := mv ao HB; clear ao)
      | ((with_reducible refine cg (t := 45) (p := 11) (v := .tmp 44) rfl ?_); refine ay rfl 45 (.tmp 11) (.tmp 44) rfl g11 [.int .u32 d1, .int .i64 d2, .bool o] rfl rfl 45 _ HZ.out 3 (by kernel_rfl) rfl rfl (by intro u hu; simp at hu; rcases hu with rfl | rfl | rfl <;> rfl) ?_; intro W7 yk bO; replace HZ := ak yk; replace HX := ak (HX.out.grown bO (fun e => by have := xz.out; have := Option.some.inj e; omega)); replace HY := ak (HY.out.grown bO (fun e => by have := xz.out; have := Option.some.inj e; omega)); replace HS := ak (HS.out.grown bO (fun e => by have := xz.out; have := Option.some.inj e; omega)); replace HB := ak (HB.out.grown bO HB.out.size (by intro k hk; cases hk; exact xz.out.1)); clear yk bO)
      | ((with_reducible refine af (N := 47) rfl ?_); refine bL (by rfl) ?_; refine a7 rfl 45 (.tmp 11) rfl g11 rfl _ _ _ HZ.out Tryz.underlying45 rfl 3 (by kernel_rfl) rfl ?_)
      | (go_at_call 38; refine (fJ.calls 33 d1 d2 o _ _ (HRT.out o)).mono ?_; rintro e W8 ⟨rfl, ao⟩; replace HZ := mv ao HZ; replace HY := mv ao HY; replace HS := mv ao HS; replace HX := mv ao HX; replace HB := mv ao HB; clear ao)
      | ((with_reducible refine af (N := 51) rfl ?_); refine bL (by rfl) ?_; refine a7 rfl 45 (.tmp 11) rfl g11 rfl _ _ _ HZ.out Tryz.underlying45 rfl 3 (by kernel_rfl) rfl ?_)
      | (go_at_call 39; refine (HPT.out o _).mono ?_; rintro e W9 ⟨rfl, ao⟩; replace HZ := mv ao HZ; replace HY := mv ao HY; replace HS := mv ao HS; replace HX := mv ao HX; replace HB := mv ao HB; clear ao))
     go_roundw
     case rel => exact ⟨j + 1, by omega, by go_num, HNJ, HX, HY, HS, HB⟩
     case measure => simp [intOf]; omega
  ·obtain rfl : j = 2 := by omega
   have HRR := ak (show R = .no by rw [HR.out, if_neg (by rw [HJ.out.1 (by omega)]; decide), if_neg (by rw [HJ.out.2 (by omega)]; decide)])
   clear HR HJ HY HS
   go_wp2_with (first
    | go_big_skip
    | ((with_reducible refine af (N := 59) rfl ?_); refine dE rfl 52 #[] rfl dJ (qW _) ?_)
    | ((with_reducible refine cg (t := 52) (p := 4) (v := .tmp 59) rfl ?_); refine ay rfl 52 (.tmp 4) (.tmp 59) rfl g4 dJ rfl rfl 52 _ HX.out 14 (by kernel_rfl) rfl rfl (nu 0 ⟨#[]⟩ 0 0 0 false 0 none 0 0 false) ?_; intro W9 eP cI))
   refine bodyPost_ret (results_cell_row rfl _ _ g4 52 _ (0, 0) _ rfl eP Tryz.underlying52 rfl (by kernel_rfl)) rfl ?_
   rw [HRR.out]
   exact o7 (r := .no) (k := 0) (s := ⟨#[]⟩) (a := 0) (pa := 0) (pb := 0) (po := false) (st := 0) (v := .slice none 0 0) (g := false) rfl rfl (Kd.R_nil _ _ _ _ _) (HB.out.grown cI HB.out.size (by intro k hk; cases hk; exact jf.out))
theorem QU (key t val : ByteArray) (h : dk jh key = some t) (hk : key.size ≤ 1000) (hv : val.size ≤ 1000000) (w : World) : Calls Tryz.prog 13 #[.string key, .string val] w (oE (dt key val) w) := by
 have hnf : dv.f t = some (iV t) := if_pos (Nat.le_trans (lM h) hk)
 cases hd : fZ t with
 | none =>
  rw [LC h hd]
  refine tq key t val h 0 0 false false (fun _ => (⟨#[]⟩ : ByteArray).toList == val.toList) (fun _ => ⟨#[]⟩) (by rw [hnf]; unfold iV; rw [hd]) (fun h => by cases h) (fun h => by cases h) (fun _ => rfl) _ rfl w
 | some q =>
  obtain ⟨v, n⟩ := q
  obtain ⟨g1, g2, g3, g4⟩ := oo hd
  have Ud : dv.f t = some ((v : Int), (n : Int), true) := by rw [hnf]; unfold iV; rw [hd]
  cases hm : jS v n with
  | false =>
   rw [NL h hd hm]
   exact tq key t val h v n true false (fun _ => (⟨#[]⟩ : ByteArray).toList == val.toList) (fun _ => ⟨#[]⟩) Ud (fun _ o => by rw [yB v n g1 o 33 (by omega), hm]) (fun _ h => by cases h) (fun _ => rfl) _ rfl w
  | true =>
   rw [NM h hd hm]
   have hn : n ≤ 26 := by unfold jS at hm; simp only [Bool.and_eq_true, decide_eq_true_eq] at hm; exact hm.2.2
   exact tq key t val h v n true true (tA v n val) (fun o => strOfNums (qQ v n o)) Ud (fun _ o => by rw [yB v n g1 o 33 (by omega), hm]) (fun _ _ o => J9 v n g1 (by omega) o) (fun _ => rfl) _ rfl w
end
section
theorem Kd.M_lower_ {α : Type} {d : Kd α} {w : World} {base base' : Nat} {ok : Nat → Prop} {x : α} {cs : List Value} (h : d.M w base ok x cs) (hb : base' ≤ base) : d.M w base' ok x cs := d.M_lower hb h
theorem Q7 {W W1 : World} {g base : Nat} {ok : Nat → Prop} {x : rk} {cs cells : List Value} (h : e7.M W base ok x cs) (hx : bC W g cells 52) (hg : W.grownBy W1 (some g)) : e7.M W1 base ok x cs :=
 e7.M_mono (fun _ hk => hk.1) (Kd.M_grown (Kd.M_types h hx (by decide)) hg (fun k hk e => hk.2 (Option.some.inj e)))
theorem SA (t val : ByteArray) (ht : t.size ≤ 1000) (w : World) : Calls Tryz.prog 41 #[.string t, .string val] w (oE (nZ t val) w) := by
 obtain ⟨s, a, k, hs, htp⟩ : ∃ s a k, j4 (nZ t val) = ⟨(zZ (nZ t val)).1, s, a, C9, z49, k, [], false⟩ ∧ zZ (nZ t val) = KZ (zZ (nZ t val)).1 s a k := by
  have : (∃ s a k, nZ t val = .aff s a k) ∨ nZ t val = .no := by
   unfold nZ Gn
   split
   ·split
    ·exact .inl ⟨_, _, _, rfl⟩
    ·exact .inr rfl
   ·exact .inr rfl
  rcases this with ⟨s, a, k, h⟩ | h
  ·rw [h]; exact ⟨s, a, k, rfl, rfl⟩
  ·rw [h]; exact ⟨⟨#[]⟩, 0, 0, rfl, rfl⟩
 generalize (zZ (nZ t val)).1 = x at hs htp
 have hf := XR t val ht
 rw [htp] at hf
 refine (aG.calls 3000 t val x s a 0 0 false 0 ⟨#[]⟩ [] [] [] k [] false w hf).mono ?_
 rintro e w' ⟨v8, v9, v10, v12, he, h8, h9, YI, YH, hb⟩
 refine ⟨_, he, ?_, hb⟩
 rw [hs]
 exact za _ _ _ _ (Kd.R_mono h8 (fun _ _ => trivial)) (Kd.R_mono h9 (fun _ _ => trivial)) YI YH
set_option maxHeartbeats 16000000 in
set_option maxRecDepth 100000 in
theorem Tv (key t val : ByteArray) (h : dk ni key = some t) (hk : key.size ≤ 1000) (hv : val.size ≤ 1000000) (w : World) : Calls Tryz.prog 13 #[.string key, .string val] w (oE (dt key val) w) := by
 have hlk := wh (c := 97) h rfl (by decide)
 have mR := ak (show aq.f key ⟨#[112, 111, 111, 108, 47]⟩ = some (⟨#[]⟩, false) by have h_ := dQ jh key; rw [(cE h (c := 97) (d := 112) rfl rfl (by decide))] at h_; exact h_)
 have mw := ak (show aq.f key ⟨#[98, 108, 111, 99, 107, 47]⟩ = some (⟨#[]⟩, false) by have h_ := dQ iY key; rw [(cE h (c := 97) (d := 98) rfl rfl (by decide))] at h_; exact h_)
 have nL := ak (show aq.f key ⟨#[97, 102, 102, 47]⟩ = some (t, true) by have h_ := dQ ni key; rw [h] at h_; exact h_)
 rw [SC h]
 have HAF := ak (SA t val (Nat.le_trans (lM h) hk))
 generalize nZ t val = R at HAF ⊢
 clear hk hv
 go_enter Tryz.func13, Tryz.ntmps13
 go_wp2_with (first
  | go_big_skip
  | ((with_reducible refine af (N := 4) rfl ?_); refine aE (some 4) rfl rfl 52 rfl dJ iK ?_; intro g4 W1 cQ cP aw; have HX := ak cP; have HB := ak aw; have jf := ak cQ; clear cP aw cQ)
  | (go_at_call 36; refine (aq.calls key ⟨#[112, 111, 111, 108, 47]⟩ _ _ _ mR.out).mono ?_; rintro e W2 ⟨rfl, ao⟩; clear mR; replace HX := mv ao HX; replace HB := mv ao HB; clear ao)
  | (go_at_call 36; refine (aq.calls key ⟨#[98, 108, 111, 99, 107, 47]⟩ _ _ _ mw.out).mono ?_; rintro e W2 ⟨rfl, ao⟩; clear mw; replace HX := mv ao HX; replace HB := mv ao HB; clear ao)
  | (go_at_call 36; refine (aq.calls key ⟨#[97, 102, 102, 47]⟩ _ _ _ nL.out).mono ?_; rintro e W2 ⟨rfl, ao⟩; clear nL; replace HX := mv ao HX; replace HB := mv ao HB; clear ao)
  | (go_at_call 41; refine (HAF.out _).mono ?_; rintro e W5 ⟨cs, rfl, uT, ao⟩; have HM := ak (Kd.M_lower_ uT HB.out.size); have HCL := ak (e7.K_len (e7.K_of_M uT)); have pN := ak (@Kd.K_one _ e7 _ _ _ (e7.K_of_M uT)); clear uT; replace HX := mv ao HX; replace HB := mv ao HB; clear ao)
  | ((with_reducible refine cg (t := 52) (p := 4) (v := .tmp 103) rfl ?_); refine ay rfl 52 (.tmp 4) (.tmp 103) rfl g4 cs rfl rfl 52 _ HX.out 14 (by kernel_rfl) HCL.out rfl pN.out ?_; intro W9 eP cI))
 exact bodyPost_ret (results_cell_row rfl _ _ g4 52 _ (0, 0) _ rfl eP Tryz.underlying52 rfl (by rw [List.size_toArray, HCL.out]; kernel_rfl)) rfl ⟨cs, rfl, Q7 HM.out HX.out cI, (HB.out.grown cI HB.out.size (by intro k hk; cases hk; exact jf.out))⟩
end
section
theorem Tu (key val : ByteArray) (hk : key.size ≤ 1000) (hv : val.size ≤ 1000000) (w : World) : Calls Tryz.prog 13 #[.string key, .string val] w (oE (dt key val) w) := by
 cases h0 : dk jh key with
 | some t => exact QU key t val h0 hk hv w
 | none =>
  cases h1 : dk iY key with
  | some t => exact Tt key t val h1 hk hv w
  | none =>
   cases h2 : dk ni key with
   | some t => exact Tv key t val h2 hk hv w
   | none =>
    cases h3 : dk fa key with
    | some t => exact Ts key t val h3 hk hv w
    | none =>
     cases h4 : dk iT key with
     | some t => exact QW key t val h4 hk hv w
     | none => exact QV key val h0 h1 h2 h3 h4 w
abbrev qy := S91
def jZ (x : qy) : It := ⟨x.f0, x.f1, x.f2⟩
def j6 (l : List qy) : List rk := l.map fun x => j4 (gP (jZ x))
def C8 (l : List qy) (w : World) (e : Ending) (w' : World) : Prop := ∃ v, e = .returned (.tuple #[v, .bool (iE (l.map jZ))]) ∧ Kd.R e7 52 w' w.heap.size (fun _ => True) v (if iE (l.map jZ) = true then j6 l else []) ∧ Below w.heap.size w w'
theorem M0 {l : List qy} {w w' : World} {e : Ending} (he : e = .returned (.tuple #[.slice none 0 0, .bool false])) (h : iE (l.map jZ) = false) (hb : Below w.heap.size w w') : C8 l w e w' := ⟨_, by rw [h]; exact he, by rw [h]; exact Kd.R_nil _ _ _ _ _, hb⟩
theorem Sy {l : List qy} {w w' : World} {e : Ending} {v : Value} (he : e = .returned (.tuple #[v, .bool true])) (h : iE (l.map jZ) = true) (hr : Kd.R e7 52 w' w.heap.size (fun _ => True) v (j6 l)) (hb : Below w.heap.size w w') : C8 l w e w' := ⟨v, by rw [h]; exact he, by rw [h]; exact hr, hb⟩
theorem Ib (l : List qy) (j : Nat) (hj : j < l.length) : ir (l.map jZ) (j : Int) = jZ (cM l (j : Int)) := by
 simp [ir, cM, List.getD, hj]
theorem Ra (r : Rc) : ((j4 r).f0 == 0) = r.isNo := by cases r <;> rfl
theorem Fb {W W1 : World} {g base b3 : Nat} {x : rk} {cs cells : List Value} (h : e7.M W base (fun k => b3 ≤ k) x cs) (hx : bC W g cells 52) (hg : W.grownBy W1 (some g)) : e7.M W1 base (fun k => b3 ≤ k ∧ k ≠ g) x cs :=
 Kd.M_grown (Kd.M_types h hx (by decide)) hg (fun k hk e => hk.2 (Option.some.inj e))
theorem EG {W : World} {g base : Nat} {ok : Nat → Prop} {x : rk} {cs : List Value} (hx : bC W g cs 52) (h : e7.M W base ok x cs) : W.cell? ⟨g, 0, none⟩ = some (.int .i64 x.f0) := by
 obtain ⟨v8, v9, v10, v12, rfl, _⟩ := LZ h
 exact hx.cell 0 _ rfl
theorem EF (W : World) (cs : List Value) (hl : cs.length = 14) : (Instr.buildSlice 36 1 #[(0, .agg cs.toArray)]).run Tryz.prog W = .ok (.slice (some ⟨W.heap.size, 0, none⟩) 1 1) (W.alloc (.cells cs.toArray 52)) := by
 have h1 : ¬ (¬ cs.length = 14 ∨ 14 < cs.length) := by omega
 go_simp
 rw [An cs 0 _ (by simp [hl])]
 simp only [List.take_zero, List.nil_append]
theorem D7 {ops : Array Oper} {rest : List Oper} {o : Oper} {a : Act} {w : World} {Q : Exit → Act → World → Prop} (hgd : o.guard = none) (x : Operand) (ho : o.op = .buildSlice 36 1 #[(0, x)]) (cs : List Value) (hx : a.eval x = .agg cs.toArray) (hl : cs.length = 14)
  (h : wpList Tryz.prog ops Q rest (a.put o.dst (.slice (some ⟨w.heap.size, 0, none⟩) 1 1)) (w.alloc (.cells cs.toArray 52))) : wpList Tryz.prog ops Q (o :: rest) a w := by
 refine o0 hgd (v := .slice (some ⟨w.heap.size, 0, none⟩) 1 1) (w1 := w.alloc (.cells cs.toArray 52)) ?_ h
 unfold execOp
 simp only [ho, List.map_toArray, List.map_cons, List.map_nil, hx, Sem.run_bind, EF w cs hl, Result.andThen_ok, Sem.run_pure]
set_option maxHeartbeats 16000000 in
set_option maxRecDepth 100000 in
theorem I3 (l : List qy) (hl : l.length ≤ 1000) (hz : ∀ x ∈ l, x.f0.size ≤ 1000 ∧ x.f1.size ≤ 1000000) (A : Option Addr) (c : Nat) (w : World) (hC : Kd.C kS w A l.length l) (hc : l.length ≤ c) :
  Calls Tryz.prog 9 #[.slice A l.length c] w (C8 l w) := by
 have HC := ak hC
 have HZ := ak hz
 clear hC hz
 go_enter Tryz.func9, Tryz.ntmps9
 go_wp2_with fail
 go_loopw [4, 5, 6, 8, 9, 12] (fun va _ _ _ _ i Z => ∃ j : Nat, j ≤ l.length ∧ i = .int .i64 j ∧ Aside0 (∀ i, i < j → lX (l.map jZ) i = true) ∧ Aside0 (Kd.R e7 52 Z w.heap.size (fun _ => True) va (j6 (l.take j))) ∧ Aside0 (Below w.heap.size w Z)) (fun _ _ _ _ _ i _ => l.length - (intOf i).toNat)
 case atStart => exact ⟨0, by omega, rfl, ⟨fun i hi => by omega⟩, ⟨Kd.R_nil _ _ _ _ _⟩, ⟨Below.refl _ _⟩⟩
 case round =>
  obtain ⟨j, hj, rfl, HFI, HA, HB⟩ := hrel
  obtain ⟨Z, rfl⟩ : ∃ Z : World, Z = wr := ⟨_, rfl⟩
  by_cases hjn : j < l.length
  ·have hjb : decide ((j : Int) < (l.length : Int)) = true := by simp; omega
   obtain ⟨ad, eA, j7, eD, ji⟩ := BT (Kd.C_below HC.out HB.out) j (by omega) (by omega)
   cases eA
   rw [Int.toNat_natCast] at j7 eD ji
   have p1 : ((j : Int) < (l.length : Int)) = True := eq_true (by omega)
   have hsz := HZ.out (cM l (j : Int)) (by simp [cM, List.getD, hjn])
   have hfi : lX (l.map jZ) j = (!uI (l.map jZ) j && !(gP (jZ (cM l (j : Int)))).isNo) := by unfold lX; rw [Ib l j hjn]
   have hsn : uI (l.map jZ) j = (l.take j).any fun y => decide (y.f0 = (cM l (j : Int)).f0) := by
    unfold uI
    rw [Ib l j hjn, ← List.map_take, List.any_map]
    rfl
   have htk : j6 (l.take (j + 1)) = j6 (l.take j) ++ [j4 (gP (jZ (cM l (j : Int))))] := by
    unfold j6
    rw [List.take_succ_eq_append_getElem hjn, List.map_append]
    simp [cM, List.getD, hjn]
   generalize hxx : cM l (j : Int) = x at j7 eD ji hsz hfi hsn htk
   obtain ⟨key, val, rev⟩ := x
   dsimp only at j7 eD ji hsz hsn
   have HTK := ak htk
   have HFJ := ak hfi
   have HSN := ak hsn
   have HSZ := ak hsz
   have hj0 : (0 ≤ (j : Int)) = True := eq_true (by omega)
   have hjl : ((j : Int) ≤ (l.length : Int)) = True := eq_true (by omega)
   have hjc : ((j : Int) ≤ (c : Int)) = True := eq_true (by omega)
   clear hsz hfi hsn htk hxx
   go_wp2_with (first
    | ((with_reducible refine af (N := 6) rfl ?_); refine aE (some 6) rfl rfl 91 rfl [.string ⟨#[]⟩, .string ⟨#[]⟩, .int .i64 0] (fun _ => by kernel_rfl) ?_; intro g6 W1 jD cP ao; have HI := ak cP; have qC := ak (show w.heap.size ≤ g6 by have := HB.out.size; omega); clear cP jD; replace HA := mv ao HA; replace HB := mv ao HB; clear ao)
    | ((with_reducible refine cg (t := 91) (p := 6) (v := .tmp 16) rfl ?_); refine ay rfl 91 (.tmp 6) (.tmp 16) rfl g6 [.string key, .string val, .int .i64 rev] rfl rfl 91 _ HI.out 3 (by kernel_rfl) rfl rfl (by intro u hu; simp at hu; rcases hu with rfl | rfl | rfl <;> rfl) ?_; intro W2 kK bO; replace HA := gr HA HI bO; replace HB := gb HB qC bO; replace HI := ak kK; clear kK bO))
   go_loopw [8, 21] (fun _ i V => ∃ m : Nat, m ≤ j ∧ i = .int .i64 m ∧ Aside0 (∀ y, y ∈ l.take m → y.f0 ≠ key) ∧ Aside0 (bC V g6 [.string key, .string val, .int .i64 rev] 91) ∧ Aside0 (Kd.R e7 52 V w.heap.size (fun _ => True) u4 (j6 (l.take j))) ∧ Aside0 (Below w.heap.size w V)) (fun _ i _ => j - (intOf i).toNat)
   case atStart => exact ⟨0, by omega, rfl, ⟨fun y hy => by simp at hy⟩, HI, HA, HB⟩
   case round =>
    clear HI HA HB
    obtain ⟨m, hm, rfl, HNM, HI, HA, HB⟩ := hrel
    obtain ⟨V, rfl⟩ : ∃ V : World, V = wr := ⟨_, rfl⟩
    by_cases hmj : m < j
    ·have hmb : decide ((m : Int) < (j : Int)) = true := by simp; omega
     obtain ⟨ae, eE, iM, lu, uS⟩ := BT (Kd.C_below HC.out HB.out) m (by omega) (by omega)
     cases eE
     rw [Int.toNat_natCast] at iM lu uS
     have p2 : ((m : Int) < (j : Int)) = True := eq_true (by omega)
     have htm : l.take (m + 1) = l.take m ++ [cM l (m : Int)] := by
      rw [List.take_succ_eq_append_getElem (by omega)]
      simp [cM, List.getD, show m < l.length by omega]
     have hmem : cM l (m : Int) ∈ l.take j := by
      have hml : m < l.length := by omega
      have hge : cM l (m : Int) = l[m] := by simp [cM, List.getD, hml]
      rw [hge]
      exact List.mem_take_iff_getElem.2 ⟨m, by omega, rfl⟩
     generalize cM l (m : Int) = y at iM lu uS htm hmem
     have HTM := ak htm
     have HME := ak hmem
     obtain ⟨eq, heq⟩ : ∃ b, (y.f0.toList == key.toList) = b := ⟨_, rfl⟩
     clear htm hmem
     cases eq with
     | true =>
      have HNO := ak (show iE (l.map jZ) = false from CL (by rw [List.length_map]; exact hjn) (by
       rw [HFJ.out, HSN.out, List.any_eq_true.2 ⟨y, HME.out, decide_eq_true ((xC _ _).1 (beq_iff_eq.1 heq))⟩]
       rfl))
      go_wp2_with (first
       | ((with_reducible refine af (N := 8) rfl ?_); refine aE (some 8) rfl rfl 91 rfl [.string ⟨#[]⟩, .string ⟨#[]⟩, .int .i64 0] (fun _ => by kernel_rfl) ?_; intro g8 W3 dG j8 ao; have HY := ak j8; have GO := ak (show w.heap.size ≤ g8 ∧ g6 < g8 by have := HB.out.size; have := HI.out.lt; omega); clear j8 dG; replace HI := mv ao HI; replace HA := mv ao HA; replace HB := mv ao HB; clear ao)
       | ((with_reducible refine cg (t := 91) (p := 8) (v := .tmp 24) rfl ?_); refine ay rfl 91 (.tmp 8) (.tmp 24) rfl g8 [.string y.f0, .string y.f1, .int .i64 y.f2] rfl rfl 91 _ HY.out 3 (by kernel_rfl) rfl rfl (by intro u hu; simp at hu; rcases hu with rfl | rfl | rfl <;> rfl) ?_; intro W4 ph bO; replace HA := gr HA HY bO; replace HI := ak (HI.out.grown bO (fun e => by have := GO.out; have := Option.some.inj e; omega)); replace HB := ak (HB.out.grown bO HB.out.size (by intro k hk; cases hk; exact GO.out.1)); have iM := ph.cell 0 _ rfl; have kU := HI.out.cell 0 _ rfl; clear ph bO HY))
      go_ret2
      exact M0 rfl HNO.out HB.out
     | false =>
      have HNE := ak (show y.f0 ≠ key from fun e => by rw [e, beq_self_eq_true] at heq; cases heq)
      go_wp2_with (first
       | ((with_reducible refine af (N := 8) rfl ?_); refine aE (some 8) rfl rfl 91 rfl [.string ⟨#[]⟩, .string ⟨#[]⟩, .int .i64 0] (fun _ => by kernel_rfl) ?_; intro g8 W3 dG j8 ao; have HY := ak j8; have GO := ak (show w.heap.size ≤ g8 ∧ g6 < g8 by have := HB.out.size; have := HI.out.lt; omega); clear j8 dG; replace HI := mv ao HI; replace HA := mv ao HA; replace HB := mv ao HB; clear ao)
       | ((with_reducible refine cg (t := 91) (p := 8) (v := .tmp 24) rfl ?_); refine ay rfl 91 (.tmp 8) (.tmp 24) rfl g8 [.string y.f0, .string y.f1, .int .i64 y.f2] rfl rfl 91 _ HY.out 3 (by kernel_rfl) rfl rfl (by intro u hu; simp at hu; rcases hu with rfl | rfl | rfl <;> rfl) ?_; intro W4 ph bO; replace HA := gr HA HY bO; replace HI := ak (HI.out.grown bO (fun e => by have := GO.out; have := Option.some.inj e; omega)); replace HB := ak (HB.out.grown bO HB.out.size (by intro k hk; cases hk; exact GO.out.1)); have iM := ph.cell 0 _ rfl; have kU := HI.out.cell 0 _ rfl; clear ph bO HY))
      go_roundw
      case rel => exact ⟨m + 1, by omega, by go_num, ⟨fun z hz => by
       rw [HTM.out] at hz
       rcases List.mem_append.1 hz with hz | hz
       ·exact HNM.out z hz
       ·rw [List.mem_singleton] at hz
        rw [hz]
        exact HNE.out⟩, HI, HA, HB⟩
      case measure => simp [intOf]; omega
    ·obtain rfl : m = j := by omega
     have hmb : decide ((m : Int) < (m : Int)) = false := by simp
     have p2 : ((m : Int) < (m : Int)) = False := eq_false (by omega)
     have hfj : lX (l.map jZ) m = !(dt key val).isNo := by
      rw [HFJ.out, HSN.out, List.any_eq_false.2 (fun y hy => by rw [decide_eq_false (HNM.out y hy)]; decide)]
      rfl
     have HRD := ak (fun W => Tu key val HSZ.out.1 HSZ.out.2 W)
     have hkn := Ra (dt key val)
     have htk : j6 (l.take (m + 1)) = j6 (l.take m) ++ [j4 (dt key val)] := HTK.out
     have hln : (j6 (l.take m)).length ≤ 1000 := by unfold j6; rw [List.length_map, List.length_take]; omega
     obtain ⟨R, hR⟩ : ∃ R, R = dt key val := ⟨_, rfl⟩
     rw [← hR] at HRD hfj hkn htk
     obtain ⟨no, hno⟩ : ∃ b, R.isNo = b := ⟨_, rfl⟩
     rw [hno] at hkn hfj
     have HTR := ak htk
     have HFR := ak hfj
     have HLN := ak hln
     obtain ⟨r, hr⟩ : ∃ r, r = j4 R := ⟨_, rfl⟩
     have HRR := ak hr
     rw [← hr] at hkn
     obtain ⟨M, hM⟩ : ∃ M, M = j6 (l.take m) := ⟨_, rfl⟩
     rw [← hM] at HA HLN HTR
     clear hR hno hfj htk hln hr hM HNM HFJ HSN HTK
     have kU := HI.out.cell 0 _ rfl
     have uU := HI.out.cell 1 _ rfl
     cases no with
     | true =>
      have HNO := ak (show iE (l.map jZ) = false from CL (by rw [List.length_map]; exact hjn) (by rw [HFR.out]; rfl))
      go_wp2_with (first
       | (go_at_call 13; refine (HRD.out _).mono ?_; rintro e W5 ⟨cs, rfl, uT, ao⟩; have HOW := ak (fun k hk => ((Kd.R_bound HA.out).1 k hk).2.2.1); have HM := ak (Kd.M_lower_ (show e7.M W5 V.heap.size (fun k => V.heap.size ≤ k) r cs by rw [HRR.out]; exact e7.M_mono (fun k hk => hk.2.1) (e7.M_bound uT)) HB.out.size); have HCL := ak (e7.K_len (e7.K_of_M uT)); have pN := ak (@Kd.K_one _ e7 _ _ _ (e7.K_of_M uT)); have HVS := ak ao.size; clear uT; replace HI := mv ao HI; replace HA := mv ao HA; replace HB := mv ao HB; clear ao)
       | ((with_reducible refine af (N := 9) rfl ?_); refine aE (some 9) rfl rfl 52 rfl dJ iK ?_; intro g9 W6 cI gK ao; have HY := ak gK; have Wa := ak (show w.heap.size ≤ g9 ∧ V.heap.size ≤ g9 by have := HB.out.size; have := HVS.out; omega); replace HM := ak (Kd.M_below HM.out ao); replace HA := ak (show Kd.R e7 52 W6 w.heap.size (fun k => k ≠ g9) u4 M from Kd.R_below (Kd.R_mono (Kd.R_bound HA.out) (fun k hk => by have := hk.2.2.1; omega)) ao); clear gK cI; replace HB := mv ao HB; clear ao)
       | ((with_reducible refine cg (t := 52) (p := 9) (v := .tmp 35) rfl ?_); refine ay rfl 52 (.tmp 9) (.tmp 35) rfl g9 cs rfl rfl 52 _ HY.out 14 (by kernel_rfl) HCL.out rfl pN.out ?_; intro W7 ph bO; replace HA := ak (Kd.R_grown HA.out bO (fun k hk e => hk (Option.some.inj e))); replace HM := ak (Fb HM.out HY.out bO); replace HB := ak (HB.out.grown bO HB.out.size (by intro k hk; cases hk; exact Wa.out.1)); replace HY := ak ph; have iM := EG HY.out HM.out; clear ph bO))
      go_ret2
      exact M0 rfl HNO.out HB.out
     | false =>
      go_wp2_with (first
       | (go_at_call 13; refine (HRD.out _).mono ?_; rintro e W5 ⟨cs, rfl, uT, ao⟩; have HOW := ak (fun k hk => ((Kd.R_bound HA.out).1 k hk).2.2.1); have HM := ak (Kd.M_lower_ (show e7.M W5 V.heap.size (fun k => V.heap.size ≤ k) r cs by rw [HRR.out]; exact e7.M_mono (fun k hk => hk.2.1) (e7.M_bound uT)) HB.out.size); have HCL := ak (e7.K_len (e7.K_of_M uT)); have pN := ak (@Kd.K_one _ e7 _ _ _ (e7.K_of_M uT)); have HVS := ak ao.size; clear uT; replace HI := mv ao HI; replace HA := mv ao HA; replace HB := mv ao HB; clear ao)
       | ((with_reducible refine af (N := 9) rfl ?_); refine aE (some 9) rfl rfl 52 rfl dJ iK ?_; intro g9 W6 cI gK ao; have HY := ak gK; have Wa := ak (show w.heap.size ≤ g9 ∧ V.heap.size ≤ g9 by have := HB.out.size; have := HVS.out; omega); replace HM := ak (Kd.M_below HM.out ao); replace HA := ak (show Kd.R e7 52 W6 w.heap.size (fun k => k ≠ g9) u4 M from Kd.R_below (Kd.R_mono (Kd.R_bound HA.out) (fun k hk => by have := hk.2.2.1; omega)) ao); clear gK cI; replace HB := mv ao HB; clear ao)
       | ((with_reducible refine cg (t := 52) (p := 9) (v := .tmp 35) rfl ?_); refine ay rfl 52 (.tmp 9) (.tmp 35) rfl g9 cs rfl rfl 52 _ HY.out 14 (by kernel_rfl) HCL.out rfl pN.out ?_; intro W7 ph bO; replace HA := ak (Kd.R_grown HA.out bO (fun k hk e => hk (Option.some.inj e))); replace HM := ak (Fb HM.out HY.out bO); replace HB := ak (HB.out.grown bO HB.out.size (by intro k hk; cases hk; exact Wa.out.1)); replace HY := ak ph; have iM := EG HY.out HM.out; clear ph bO)
       | ((with_reducible refine af (N := 40) rfl ?_); refine a7 rfl 52 (.tmp 9) rfl g9 rfl _ _ _ HY.out Tryz.underlying52 rfl 14 (by kernel_rfl) HCL.out ?_)
       | ((with_reducible refine af (N := 41) rfl ?_); refine D7 rfl (.tmp 40) rfl cs rfl HCL.out ?_)
       | ((with_reducible refine cx (b := .append) (xs := #[.tmp 39, .tmp 41]) rfl ?_); at_builtin; refine Kd.R_append e7 (w0 := W7) w.heap.size rfl (.tmp 39) (.tmp 41) 36 52 (.agg dJ.toArray) _ rfl Tryz.underlying36 TW rfl (by decide) (by omega) u4 M r cs (fun k => k ≠ g9) (fun k => V.heap.size ≤ k ∧ k ≠ g9) rfl rfl HM.out (fun k hk => ⟨hk.2, fun e => by have := HOW.out k e.symm; have := hk.1; omega⟩) (fun k hk => by have := HY.out.lt; omega) HA.out (Below.refl _ _) HB.out.size (by have := HLN.out; omega) ?_; intro v8 w8 gR fU dG lW; replace HB := ak (HB.out.trans fU); replace HA := ak (Kd.R_mono (ok' := fun _ => True) gR (fun _ _ => trivial)); clear gR fU dG lW))
      go_roundw
      case rel => exact ⟨m + 1, by omega, by go_num, ⟨fun i hi => by
       by_cases he : i < m
       ·exact HFI.out i he
       ·obtain rfl : i = m := by omega
        rw [HFR.out]
        rfl⟩, ⟨by rw [HTR.out, ← HRR.out]; exact HA.out⟩, HB⟩
      case measure => simp [intOf]; omega
  ·obtain rfl : j = l.length := by omega
   have hjb : decide ((l.length : Int) < (l.length : Int)) = false := by simp
   have p1 : ((l.length : Int) < (l.length : Int)) = False := eq_false (by omega)
   have HGD := ak (show iE (l.map jZ) = true from Al (fun i hi => HFI.out i (by rw [List.length_map] at hi; exact hi)))
   rw [List.take_length] at HA
   go_wp2
   go_ret2
   exact Sy rfl HGD.out HA.out HB.out
end
section
theorem uE {ops : Array Oper} {rest : List Oper} {o : Oper} {a : Act} {w : World} {Q : Exit → Act → World → Prop} (hgd : o.guard = none) (x y : Operand) (ho : o.op = .store 9 x y) (g j : Nat) (hx : a.eval x = .pointer (some ⟨g, j, none⟩)) (s : ByteArray) (hy : a.eval y = .string s)
  (t : Nat) (cs : List Value) (hb : bC w g cs t) {old : Value} (hj : cs[j]? = some old) (h : ∀ W1, bC W1 g (cs.set j (.string s)) t → w.grownBy W1 (some g) → wpList Tryz.prog ops Q rest (a.put o.dst undef) W1) : wpList Tryz.prog ops Q (o :: rest) a w := by
 have hc := hb.cell j old hj
 have hf := hb.frozen j
 refine Hx hgd (w1 := w.setCell ⟨g, j, none⟩ (.string s)) ?_ (h _ (hb.set j _) (b8 w g j _))
 unfold execOp
 simp only [ho, hx, hy]
 go_simp
def nC (x : qy) : qy := ⟨if x.f0.size ≤ 130 then x.f0 else x.f0.extract 0 130, if x.f1.size ≤ 600 then x.f1 else x.f1.extract 0 600, x.f2⟩
def ue (l : List qy) : List qy := (l.take 12).map nC
theorem IE (l : List qy) : (ue l).length ≤ 12 := by unfold ue; rw [List.length_map, List.length_take]; omega
theorem DM (l : List qy) : ∀ x ∈ ue l, x.f0.size ≤ 130 ∧ x.f1.size ≤ 600 := fun x hx => by
 obtain ⟨y, _, rfl⟩ := List.mem_map.1 hx
 unfold nC
 dsimp only
 refine ⟨?_, ?_⟩
 ·split
  ·assumption
  ·rw [ByteArray.size_extract]; omega
 ·split
  ·assumption
  ·rw [ByteArray.size_extract]; omega
set_option maxHeartbeats 16000000 in
set_option maxRecDepth 100000 in
theorem IF (l : List qy) (A : Option Addr) (c : Nat) (w : World) (hC : Kd.C kS w A l.length l) (hc : l.length ≤ c) :
  Calls Tryz.prog 6 #[.slice A l.length c] w fun e w' => ∃ v, e = .returned v ∧ Kd.R kS 91 w' w.heap.size (fun _ => True) v (ue l) ∧ Below w.heap.size w w' := by
 have HC := ak hC
 have hmx := hC.2.1
 clear hC
 go_enter Tryz.func6, Tryz.ntmps6
 go_wp2_with fail
 go_loopw [3, 4, 5, 8] (fun va _ _ i Z => ∃ j : Nat, j ≤ l.length ∧ j ≤ 12 ∧ i = .int .i64 j ∧ Aside0 (Kd.R kS 91 Z w.heap.size (fun _ => True) va ((l.take j).map nC)) ∧ Aside0 (Below w.heap.size w Z)) (fun _ _ _ i _ => l.length - (intOf i).toNat)
 case atStart => exact ⟨0, by omega, by omega, rfl, ⟨Kd.R_nil _ _ _ _ _⟩, ⟨Below.refl _ _⟩⟩
 case round =>
  obtain ⟨j, hj, Zz, rfl, HA, HB⟩ := hrel
  obtain ⟨Z, rfl⟩ : ∃ Z : World, Z = wr := ⟨_, rfl⟩
  by_cases hjn : j < l.length
  ·have hjb : decide ((j : Int) < (l.length : Int)) = true := by simp; omega
   obtain ⟨ad, eA, j7, eD, ji⟩ := BT (Kd.C_below HC.out HB.out) j (by omega) (by omega)
   cases eA
   rw [Int.toNat_natCast] at j7 eD ji
   have p1 : ((j : Int) < (l.length : Int)) = True := eq_true (by omega)
   have htk : (l.take (j + 1)).map nC = (l.take j).map nC ++ [nC (cM l (j : Int))] := by
    rw [List.take_succ_eq_append_getElem hjn, List.map_append]
    simp [cM, List.getD, hjn]
   generalize cM l (j : Int) = x at j7 eD ji htk
   obtain ⟨key, val, rev⟩ := x
   dsimp only at j7 eD ji
   have HTK := ak htk
   have HLN := ak (show ((l.take j).map nC).length ≤ 12 by rw [List.length_map, List.length_take]; omega)
   obtain ⟨M, hM⟩ : ∃ M, M = (l.take j).map nC := ⟨_, rfl⟩
   rw [← hM] at HA HTK HLN
   have ab7 := ak (show j = 12 → M = ue l from fun h => by rw [hM, h]; rfl)
   clear htk hM
   by_cases YH : j < 12
   ·have Z7 : decide ((j : Int) ≥ 12) = false := by simp; omega
    have WX : decide ((12 : Int) ≤ (j : Int)) = false := by simp; omega
    by_cases hv : val.size ≤ 600
    ·have hvb : decide ((val.size : Int) > 600) = false := by simp; omega
     have hvb' : decide ((600 : Int) < (val.size : Int)) = false := by simp; omega
     by_cases hk : key.size ≤ 130
     ·have hkb : decide ((key.size : Int) > 130) = false := by simp; omega
      have hkb' : decide ((130 : Int) < (key.size : Int)) = false := by simp; omega
      have HCU := ak (show nC ⟨key, val, rev⟩ = ⟨key, val, rev⟩ by unfold nC; rw [if_pos hk, if_pos hv])
      go_wp2_with (first
       | ((with_reducible refine af (N := 5) rfl ?_); refine aE (some 5) rfl rfl 91 rfl [.string ⟨#[]⟩, .string ⟨#[]⟩, .int .i64 0] (fun _ => by kernel_rfl) ?_; intro g5 W1 dH cP ao; have HI := ak cP; have mT := ak (show w.heap.size ≤ g5 by have := HB.out.size; omega); replace HA := ak (show Kd.R kS 91 W1 w.heap.size (fun k => k ≠ g5) u3 M from Kd.R_below (Kd.R_mono (Kd.R_bound HA.out) (fun k hk => by have := hk.2.2.1; omega)) ao); clear cP dH; replace HB := mv ao HB; clear ao)
       | ((with_reducible refine cg (t := 91) (p := 5) (v := .tmp 12) rfl ?_); refine ay rfl 91 (.tmp 5) (.tmp 12) rfl g5 [.string key, .string val, .int .i64 rev] rfl rfl 91 _ HI.out 3 (by kernel_rfl) rfl rfl (by intro u hu; simp at hu; rcases hu with rfl | rfl | rfl <;> rfl) ?_; intro W2 kK bO; replace HA := ak (Kd.R_grown HA.out bO (fun k hk e => hk (Option.some.inj e))); replace HB := gb HB mT bO; replace HI := ak kK; have kU := HI.out.cell 0 _ rfl; have uU := HI.out.cell 1 _ rfl; clear kK bO)
       | ((with_reducible refine af (N := 32) rfl ?_); refine a7 rfl 91 (.tmp 5) rfl g5 rfl _ _ _ HI.out Tryz.underlying91 rfl 3 (by kernel_rfl) rfl ?_)
       | ((with_reducible refine cx (b := .append) (xs := #[.tmp 31, .tmp 33]) rfl ?_); at_builtin; refine Kd.R_append kS w.heap.size rfl (.tmp 31) (.tmp 33) 22 91 (.agg #[.string ⟨#[]⟩, .string ⟨#[]⟩, .int .i64 0]) _ rfl Tryz.underlying22 Bl rfl (by decide) (by omega) u3 M ⟨key, val, rev⟩ [.string (key), .string (val), .int .i64 rev] (fun k => k ≠ g5) (fun _ => False) rfl rfl (y9 _ _ _ _) (fun _ h => h.elim) (fun k hk => by have := HI.out.lt; omega) HA.out (Below.refl _ _) HB.out.size (by have := HLN.out; omega) ?_; intro v8 w8 gR fU dG lW; replace HB := ak (HB.out.trans fU); replace HA := ak (Kd.R_mono (ok' := fun _ => True) gR (fun _ _ => trivial)); clear gR fU dG lW))
      go_roundw
      case rel => exact ⟨j + 1, by omega, by omega, by go_num, ⟨by rw [HTK.out, HCU.out]; exact HA.out⟩, HB⟩
      case measure => simp [intOf]; omega
     ·have hkb : decide ((key.size : Int) > 130) = true := by simp; omega
      have hkb' : decide ((130 : Int) < (key.size : Int)) = true := by simp; omega
      have hk1 : ((130 : Int) ≤ (key.size : Int)) = True := eq_true (by omega)
      have HCU := ak (show nC ⟨key, val, rev⟩ = ⟨key.extract 0 130, val, rev⟩ by unfold nC; rw [if_neg hk, if_pos hv])
      go_wp2_with (first
       | ((with_reducible refine af (N := 5) rfl ?_); refine aE (some 5) rfl rfl 91 rfl [.string ⟨#[]⟩, .string ⟨#[]⟩, .int .i64 0] (fun _ => by kernel_rfl) ?_; intro g5 W1 dH cP ao; have HI := ak cP; have mT := ak (show w.heap.size ≤ g5 by have := HB.out.size; omega); replace HA := ak (show Kd.R kS 91 W1 w.heap.size (fun k => k ≠ g5) u3 M from Kd.R_below (Kd.R_mono (Kd.R_bound HA.out) (fun k hk => by have := hk.2.2.1; omega)) ao); clear cP dH; replace HB := mv ao HB; clear ao)
       | ((with_reducible refine cg (t := 91) (p := 5) (v := .tmp 12) rfl ?_); refine ay rfl 91 (.tmp 5) (.tmp 12) rfl g5 [.string key, .string val, .int .i64 rev] rfl rfl 91 _ HI.out 3 (by kernel_rfl) rfl rfl (by intro u hu; simp at hu; rcases hu with rfl | rfl | rfl <;> rfl) ?_; intro W2 kK bO; replace HA := ak (Kd.R_grown HA.out bO (fun k hk e => hk (Option.some.inj e))); replace HB := gb HB mT bO; replace HI := ak kK; have kU := HI.out.cell 0 _ rfl; have uU := HI.out.cell 1 _ rfl; clear kK bO)
       | ((with_reducible refine cg (t := 9) (p := 30) (v := .tmp 29) rfl ?_); refine uE rfl (.tmp 30) (.tmp 29) rfl g5 0 rfl (key.extract 0 130) rfl _ _ HI.out (old := _) rfl ?_; intro W3 kK bO; replace HA := ak (Kd.R_grown HA.out bO (fun k hk e => hk (Option.some.inj e))); replace HB := gb HB mT bO; replace HI := ak kK; clear kU uU; have kU := HI.out.cell 0 _ rfl; have uU := HI.out.cell 1 _ rfl; clear kK bO)
       | ((with_reducible refine af (N := 32) rfl ?_); refine a7 rfl 91 (.tmp 5) rfl g5 rfl _ _ _ HI.out Tryz.underlying91 rfl 3 (by kernel_rfl) rfl ?_)
       | ((with_reducible refine cx (b := .append) (xs := #[.tmp 31, .tmp 33]) rfl ?_); at_builtin; refine Kd.R_append kS w.heap.size rfl (.tmp 31) (.tmp 33) 22 91 (.agg #[.string ⟨#[]⟩, .string ⟨#[]⟩, .int .i64 0]) _ rfl Tryz.underlying22 Bl rfl (by decide) (by omega) u3 M ⟨key.extract 0 130, val, rev⟩ [.string (key.extract 0 130), .string (val), .int .i64 rev] (fun k => k ≠ g5) (fun _ => False) rfl rfl (y9 _ _ _ _) (fun _ h => h.elim) (fun k hk => by have := HI.out.lt; omega) HA.out (Below.refl _ _) HB.out.size (by have := HLN.out; omega) ?_; intro v8 w8 gR fU dG lW; replace HB := ak (HB.out.trans fU); replace HA := ak (Kd.R_mono (ok' := fun _ => True) gR (fun _ _ => trivial)); clear gR fU dG lW))
      go_roundw
      case rel => exact ⟨j + 1, by omega, by omega, by go_num, ⟨by rw [HTK.out, HCU.out]; exact HA.out⟩, HB⟩
      case measure => simp [intOf]; omega
    ·have hvb : decide ((val.size : Int) > 600) = true := by simp; omega
     have hvb' : decide ((600 : Int) < (val.size : Int)) = true := by simp; omega
     have Yn : ((600 : Int) ≤ (val.size : Int)) = True := eq_true (by omega)
     by_cases hk : key.size ≤ 130
     ·have hkb : decide ((key.size : Int) > 130) = false := by simp; omega
      have hkb' : decide ((130 : Int) < (key.size : Int)) = false := by simp; omega
      have HCU := ak (show nC ⟨key, val, rev⟩ = ⟨key, val.extract 0 600, rev⟩ by unfold nC; rw [if_pos hk, if_neg hv])
      go_wp2_with (first
       | ((with_reducible refine af (N := 5) rfl ?_); refine aE (some 5) rfl rfl 91 rfl [.string ⟨#[]⟩, .string ⟨#[]⟩, .int .i64 0] (fun _ => by kernel_rfl) ?_; intro g5 W1 dH cP ao; have HI := ak cP; have mT := ak (show w.heap.size ≤ g5 by have := HB.out.size; omega); replace HA := ak (show Kd.R kS 91 W1 w.heap.size (fun k => k ≠ g5) u3 M from Kd.R_below (Kd.R_mono (Kd.R_bound HA.out) (fun k hk => by have := hk.2.2.1; omega)) ao); clear cP dH; replace HB := mv ao HB; clear ao)
       | ((with_reducible refine cg (t := 91) (p := 5) (v := .tmp 12) rfl ?_); refine ay rfl 91 (.tmp 5) (.tmp 12) rfl g5 [.string key, .string val, .int .i64 rev] rfl rfl 91 _ HI.out 3 (by kernel_rfl) rfl rfl (by intro u hu; simp at hu; rcases hu with rfl | rfl | rfl <;> rfl) ?_; intro W2 kK bO; replace HA := ak (Kd.R_grown HA.out bO (fun k hk e => hk (Option.some.inj e))); replace HB := gb HB mT bO; replace HI := ak kK; have kU := HI.out.cell 0 _ rfl; have uU := HI.out.cell 1 _ rfl; clear kK bO)
       | ((with_reducible refine cg (t := 9) (p := 22) (v := .tmp 21) rfl ?_); refine uE rfl (.tmp 22) (.tmp 21) rfl g5 1 rfl (val.extract 0 600) rfl _ _ HI.out (old := _) rfl ?_; intro W3 kK bO; replace HA := ak (Kd.R_grown HA.out bO (fun k hk e => hk (Option.some.inj e))); replace HB := gb HB mT bO; replace HI := ak kK; clear kU uU; have kU := HI.out.cell 0 _ rfl; have uU := HI.out.cell 1 _ rfl; clear kK bO)
       | ((with_reducible refine af (N := 32) rfl ?_); refine a7 rfl 91 (.tmp 5) rfl g5 rfl _ _ _ HI.out Tryz.underlying91 rfl 3 (by kernel_rfl) rfl ?_)
       | ((with_reducible refine cx (b := .append) (xs := #[.tmp 31, .tmp 33]) rfl ?_); at_builtin; refine Kd.R_append kS w.heap.size rfl (.tmp 31) (.tmp 33) 22 91 (.agg #[.string ⟨#[]⟩, .string ⟨#[]⟩, .int .i64 0]) _ rfl Tryz.underlying22 Bl rfl (by decide) (by omega) u3 M ⟨key, val.extract 0 600, rev⟩ [.string (key), .string (val.extract 0 600), .int .i64 rev] (fun k => k ≠ g5) (fun _ => False) rfl rfl (y9 _ _ _ _) (fun _ h => h.elim) (fun k hk => by have := HI.out.lt; omega) HA.out (Below.refl _ _) HB.out.size (by have := HLN.out; omega) ?_; intro v8 w8 gR fU dG lW; replace HB := ak (HB.out.trans fU); replace HA := ak (Kd.R_mono (ok' := fun _ => True) gR (fun _ _ => trivial)); clear gR fU dG lW))
      go_roundw
      case rel => exact ⟨j + 1, by omega, by omega, by go_num, ⟨by rw [HTK.out, HCU.out]; exact HA.out⟩, HB⟩
      case measure => simp [intOf]; omega
     ·have hkb : decide ((key.size : Int) > 130) = true := by simp; omega
      have hkb' : decide ((130 : Int) < (key.size : Int)) = true := by simp; omega
      have hk1 : ((130 : Int) ≤ (key.size : Int)) = True := eq_true (by omega)
      have HCU := ak (show nC ⟨key, val, rev⟩ = ⟨key.extract 0 130, val.extract 0 600, rev⟩ by unfold nC; rw [if_neg hk, if_neg hv])
      go_wp2_with (first
       | ((with_reducible refine af (N := 5) rfl ?_); refine aE (some 5) rfl rfl 91 rfl [.string ⟨#[]⟩, .string ⟨#[]⟩, .int .i64 0] (fun _ => by kernel_rfl) ?_; intro g5 W1 dH cP ao; have HI := ak cP; have mT := ak (show w.heap.size ≤ g5 by have := HB.out.size; omega); replace HA := ak (show Kd.R kS 91 W1 w.heap.size (fun k => k ≠ g5) u3 M from Kd.R_below (Kd.R_mono (Kd.R_bound HA.out) (fun k hk => by have := hk.2.2.1; omega)) ao); clear cP dH; replace HB := mv ao HB; clear ao)
       | ((with_reducible refine cg (t := 91) (p := 5) (v := .tmp 12) rfl ?_); refine ay rfl 91 (.tmp 5) (.tmp 12) rfl g5 [.string key, .string val, .int .i64 rev] rfl rfl 91 _ HI.out 3 (by kernel_rfl) rfl rfl (by intro u hu; simp at hu; rcases hu with rfl | rfl | rfl <;> rfl) ?_; intro W2 kK bO; replace HA := ak (Kd.R_grown HA.out bO (fun k hk e => hk (Option.some.inj e))); replace HB := gb HB mT bO; replace HI := ak kK; have kU := HI.out.cell 0 _ rfl; have uU := HI.out.cell 1 _ rfl; clear kK bO)
       | ((with_reducible refine cg (t := 9) (p := 22) (v := .tmp 21) rfl ?_); refine uE rfl (.tmp 22) (.tmp 21) rfl g5 1 rfl (val.extract 0 600) rfl _ _ HI.out (old := _) rfl ?_; intro W3 kK bO; replace HA := ak (Kd.R_grown HA.out bO (fun k hk e => hk (Option.some.inj e))); replace HB := gb HB mT bO; replace HI := ak kK; clear kU uU; have kU := HI.out.cell 0 _ rfl; have uU := HI.out.cell 1 _ rfl; clear kK bO)
       | ((with_reducible refine cg (t := 9) (p := 30) (v := .tmp 29) rfl ?_); refine uE rfl (.tmp 30) (.tmp 29) rfl g5 0 rfl (key.extract 0 130) rfl _ _ HI.out (old := _) rfl ?_; intro W3 kK bO; replace HA := ak (Kd.R_grown HA.out bO (fun k hk e => hk (Option.some.inj e))); replace HB := gb HB mT bO; replace HI := ak kK; clear kU uU; have kU := HI.out.cell 0 _ rfl; have uU := HI.out.cell 1 _ rfl; clear kK bO)
       | ((with_reducible refine af (N := 32) rfl ?_); refine a7 rfl 91 (.tmp 5) rfl g5 rfl _ _ _ HI.out Tryz.underlying91 rfl 3 (by kernel_rfl) rfl ?_)
       | ((with_reducible refine cx (b := .append) (xs := #[.tmp 31, .tmp 33]) rfl ?_); at_builtin; refine Kd.R_append kS w.heap.size rfl (.tmp 31) (.tmp 33) 22 91 (.agg #[.string ⟨#[]⟩, .string ⟨#[]⟩, .int .i64 0]) _ rfl Tryz.underlying22 Bl rfl (by decide) (by omega) u3 M ⟨key.extract 0 130, val.extract 0 600, rev⟩ [.string (key.extract 0 130), .string (val.extract 0 600), .int .i64 rev] (fun k => k ≠ g5) (fun _ => False) rfl rfl (y9 _ _ _ _) (fun _ h => h.elim) (fun k hk => by have := HI.out.lt; omega) HA.out (Below.refl _ _) HB.out.size (by have := HLN.out; omega) ?_; intro v8 w8 gR fU dG lW; replace HB := ak (HB.out.trans fU); replace HA := ak (Kd.R_mono (ok' := fun _ => True) gR (fun _ _ => trivial)); clear gR fU dG lW))
      go_roundw
      case rel => exact ⟨j + 1, by omega, by omega, by go_num, ⟨by rw [HTK.out, HCU.out]; exact HA.out⟩, HB⟩
      case measure => simp [intOf]; omega
   ·have Z7 : decide ((j : Int) ≥ 12) = true := by simp; omega
    have WX : decide ((12 : Int) ≤ (j : Int)) = true := by simp; omega
    have HFW := ak (show M = ue l from ab7.out (by omega))
    go_wp2_with (first
     | ((with_reducible refine af (N := 5) rfl ?_); refine aE (some 5) rfl rfl 91 rfl [.string ⟨#[]⟩, .string ⟨#[]⟩, .int .i64 0] (fun _ => by kernel_rfl) ?_; intro g5 W1 dH cP ao; have HI := ak cP; have mT := ak (show w.heap.size ≤ g5 by have := HB.out.size; omega); replace HA := ak (show Kd.R kS 91 W1 w.heap.size (fun k => k ≠ g5) u3 M from Kd.R_below (Kd.R_mono (Kd.R_bound HA.out) (fun k hk => by have := hk.2.2.1; omega)) ao); clear cP dH; replace HB := mv ao HB; clear ao)
     | ((with_reducible refine cg (t := 91) (p := 5) (v := .tmp 12) rfl ?_); refine ay rfl 91 (.tmp 5) (.tmp 12) rfl g5 [.string key, .string val, .int .i64 rev] rfl rfl 91 _ HI.out 3 (by kernel_rfl) rfl rfl (by intro u hu; simp at hu; rcases hu with rfl | rfl | rfl <;> rfl) ?_; intro W2 kK bO; replace HA := ak (Kd.R_grown HA.out bO (fun k hk e => hk (Option.some.inj e))); replace HB := gb HB mT bO; replace HI := ak kK; have kU := HI.out.cell 0 _ rfl; have uU := HI.out.cell 1 _ rfl; clear kK bO))
    go_ret
    exact ⟨_, rfl, by rw [← HFW.out]; exact Kd.R_mono HA.out (fun _ _ => trivial), HB.out⟩
  ·obtain rfl : j = l.length := by omega
   have hjb : decide ((l.length : Int) < (l.length : Int)) = false := by simp
   have p1 : ((l.length : Int) < (l.length : Int)) = False := eq_false (by omega)
   have HFW := ak (show (l.take l.length).map nC = ue l by unfold ue; rw [List.take_length, List.take_of_length_le Zz])
   go_wp2
   go_ret
   exact ⟨_, rfl, by rw [← HFW.out]; exact HA.out, HB.out⟩
end
section
attribute [local go_sem] bq bn bI bH aW aV bp bj
def cX.l0 : Nat → Int → Int → List (S52) → Int → Int → Option (Int)
 | 0, _, _, _, _, _ => none
 | k + 1, x1, x5, x8, x9, vF => if vF < x9 then (if 0 ≤ vF then (if vF < (x8.length : Int) then (if ((dN x8 vF).f0) = x1 then (cX.l0 k x1 (wrap64 (x5 + 1)) x8 x9 (wrap64 (vF + 1))) else (cX.l0 k x1 x5 x8 x9 (wrap64 (vF + 1)))) else (none)) else (none)) else (some x5)
def cX.f (k : Nat) (l0 : List (S52)) (a1 : Int) : Option (Int) := cX.l0 k a1 0 l0 (l0.length : Int) 0
set_option maxHeartbeats 8000000 in
set_option maxRecDepth 100000 in
theorem cX.calls (k : Nat) (A0 : Option Addr) (c0 : Nat) (l0 : List (S52)) (a1 : Int) (r : Int) (w : World) (nS : Kd.C e7 w A0 l0.length l0) (en : l0.length ≤ c0) (h : cX.f k l0 a1 = some r) :
  Calls Tryz.prog 11 #[.slice A0 l0.length c0, .int .i64 a1] w fun e w' => e = .returned (.int .i64 r) ∧ Below w.heap.size w w' := by
 have Zt := Tryz.underlying52
 have lJ := ak nS
 have qJ := ak en
 clear nS en
 have HB := ak (Below.refl w.heap.size w)
 have H : (cX.l0 k a1 0 l0 (l0.length : Int) 0) = some r := h
 clear h
 have H' := ak H; clear H
 go_enter Tryz.func11, Tryz.ntmps11
 go_wp2
 go_loopg [5, 10] k (fun kq v5 v10 w' => ∃ (bW : Int) (dX : Int), v5 = .int .i64 bW ∧ v10 = .int .i64 dX ∧ Aside0 (cX.l0 kq a1 bW l0 (l0.length : Int) dX = some r) ∧ Aside0 (kq ≤ k) ∧ Aside0 (Below w.heap.size w w'))
 case atStart => exact ⟨(0), (0), rf, rf, H', ⟨Nat.le_refl _⟩, ⟨bl⟩⟩
 case round =>
  clear H'
  obtain ⟨bW, dX, rfl, rfl, HA, ee, HB⟩ := hrel
  cases gk with
  | zero => exact absurd HA.out (by simp [cX.l0])
  | succ k1 =>
   have H := HA.out
   clear HA
   simp only [cX.l0] at H
   by_cases c3 : dX < (l0.length : Int)
   ·rw [if_pos c3] at H
    have gq := decide_eq_true c3
    clear c3
    by_cases c4 : 0 ≤ dX
    ·rw [if_pos c4] at H
     have eQ := decide_eq_true c4
     clear c4
     by_cases c5 : dX < (l0.length : Int)
     ·rw [if_pos c5] at H
      have nF := decide_eq_true c5
      clear c5
      by_cases c6 : ((dN l0 dX).f0) = a1
      ·rw [if_pos c6] at H
       have jd : (((dN l0 dX).f0) == a1) = true := beq_iff_eq.mpr c6
       have xr : (((dN l0 dX).f0) != a1) = false := bne_eq_false_iff_eq.mpr c6
       clear c6
       have H' := ak H; clear H
       have tF : 0 ≤ (dX : Int) := od
       have tz : dX < (l0.length : Int) := od
       obtain ⟨SH, Pp, OG, Po, OF, Nh, MR, Ng, MQ, FZ, rU, rT, rS, rR, rQ, rP, rO, rN, rM, rL, qi, qh, qg, qf, rY, sd, rX, rZ, qk, qm, qj, ql⟩ := MX lJ.out dX tF tz
       cases FZ
       replace rU := hc HB rU
       replace rT := hc HB rT
       replace rS := hc HB rS
       replace rR := hc HB rR
       replace rQ := hc HB rQ
       replace rP := hc HB rP
       replace rO := hc HB rO
       replace rN := hc HB rN
       replace rM := hc HB rM
       replace rL := hc HB rL
       replace qi := hc HB qi
       replace qh := hc HB qh
       replace qg := hc HB qg
       replace qf := hc HB qf
       have M8 := ak sd
       have Nd := ak rY
       clear sd rY
       have M7 := ak rZ
       have Nc := ak rX
       clear rZ rX
       have KA := ak qm
       have KJ := ak qk
       clear qm qk
       have Kz := ak ql
       have KI := ak qj
       clear ql qj
       replace tF := eq_true tF
       replace tz := eq_true tz
       go_wp2_with (first | ((with_reducible refine af (N := 7) rfl ?_); refine bE (N := 7) (cs := #[.int .i64 0, .string (⟨#[]⟩ : ByteArray), .int .u32 0, .int .u32 0, .int .i64 0, .bool false, .int .u32 0, .string (⟨#[]⟩ : ByteArray), .slice none 0 0, .slice none 0 0, .slice none 0 0, .int .i64 0, .slice none 0 0, .bool false]) (t := 52) ?_; intro wC hg w7 hbox hb; have bM := ak (hbox); have SV := ak (gl hg : w.heap.size ≤ wC); have SZ := ak (gl hg : w.heap.size ≤ wC); replace HB := bs hb; clear hb hbox hg; have qq := cf bM 0; have qp := cf bM 1; have FH := cf bM 2; have Ut := cf bM 3; have Us := cf bM 4; have aF2 := cf bM 5; have aF1 := cf bM 6; have aF0 := cf bM 7; have aE9 := cf bM 8; have aE8 := cf bM 9; have aq0 := cf bM 10; have ap9 := cf bM 11; have ap8 := cf bM 12; have ap7 := cf bM 13; have qo := J bM.out 0; have qn := J bM.out 1; have FD := J bM.out 2; have Um := J bM.out 3; have Ul := J bM.out 4; have aD7 := J bM.out 5; have aD6 := J bM.out 6; have aD5 := J bM.out 7; have aD4 := J bM.out 8; have aD3 := J bM.out 9; have af8 := J bM.out 10; have af7 := J bM.out 11; have af6 := J bM.out 12; have af5 := J bM.out 13))
       go_roundg k1
       case measure => have := ee.out; omega
       case rel => exact ⟨(wrap64 (bW + 1)), (wrap64 (dX + 1)), rf, rf, H', ⟨by have := ee.out; omega⟩, ⟨bl⟩⟩
      ·rw [if_neg c6] at H
       have jd : (((dN l0 dX).f0) == a1) = false := beq_eq_false_iff_ne.mpr c6
       have xr : (((dN l0 dX).f0) != a1) = true := bne_iff_ne.mpr c6
       have H' := ak H; clear H
       have tF : 0 ≤ (dX : Int) := od
       have tz : dX < (l0.length : Int) := od
       obtain ⟨SH, Pp, OG, Po, OF, Nh, MR, Ng, MQ, FZ, rU, rT, rS, rR, rQ, rP, rO, rN, rM, rL, qi, qh, qg, qf, rY, sd, rX, rZ, qk, qm, qj, ql⟩ := MX lJ.out dX tF tz
       cases FZ
       replace rU := hc HB rU
       replace rT := hc HB rT
       replace rS := hc HB rS
       replace rR := hc HB rR
       replace rQ := hc HB rQ
       replace rP := hc HB rP
       replace rO := hc HB rO
       replace rN := hc HB rN
       replace rM := hc HB rM
       replace rL := hc HB rL
       replace qi := hc HB qi
       replace qh := hc HB qh
       replace qg := hc HB qg
       replace qf := hc HB qf
       have M8 := ak sd
       have Nd := ak rY
       clear sd rY
       have M7 := ak rZ
       have Nc := ak rX
       clear rZ rX
       have KA := ak qm
       have KJ := ak qk
       clear qm qk
       have Kz := ak ql
       have KI := ak qj
       clear ql qj
       replace tF := eq_true tF
       replace tz := eq_true tz
       go_wp2_with (first | ((with_reducible refine af (N := 7) rfl ?_); refine bE (N := 7) (cs := #[.int .i64 0, .string (⟨#[]⟩ : ByteArray), .int .u32 0, .int .u32 0, .int .i64 0, .bool false, .int .u32 0, .string (⟨#[]⟩ : ByteArray), .slice none 0 0, .slice none 0 0, .slice none 0 0, .int .i64 0, .slice none 0 0, .bool false]) (t := 52) ?_; intro wC hg w9 hbox hb; have bM := ak (hbox); have SV := ak (gl hg : w.heap.size ≤ wC); have SZ := ak (gl hg : w.heap.size ≤ wC); replace HB := bs hb; clear hb hbox hg; have tc := cf bM 0; have tb := cf bM 1; have CH := cf bM 2; have Sh := cf bM 3; have Sg := cf bM 4; have aA1 := cf bM 5; have aA0 := cf bM 6; have az9 := cf bM 7; have az8 := cf bM 8; have az7 := cf bM 9; have Z0 := cf bM 10; have ZZ := cf bM 11; have ZY := cf bM 12; have ZX := cf bM 13; have ta := J bM.out 0; have s9 := J bM.out 1; have Cw := J bM.out 2; have RQ := J bM.out 3; have RP := J bM.out 4; have ap6 := J bM.out 5; have ap5 := J bM.out 6; have ap4 := J bM.out 7; have ap3 := J bM.out 8; have ap2 := J bM.out 9; have ZL := J bM.out 10; have ZK := J bM.out 11; have ZJ := J bM.out 12; have ZI := J bM.out 13))
       go_roundg k1
       case measure => have := ee.out; omega
       case rel => exact ⟨(bW), (wrap64 (dX + 1)), rf, rf, H', ⟨by have := ee.out; omega⟩, ⟨bl⟩⟩
     ·rw [if_neg c5] at H
      exact absurd H (by simp)
    ·rw [if_neg c4] at H
     exact absurd H (by simp)
   ·rw [if_neg c3] at H
    have gq := decide_eq_false c3
    clear c3
    obtain rfl := Option.some.inj H
    go_wp2
    go_ret
    exact ⟨rg, bl⟩
end
end Go.Proofs.YtndddnglapkplaaGreatDoor.V
