/- The law ViewApart for every input: texts of ours, put together (part 7 of 16). No further condition. -/
import Derived.Test.YtndddnglapkplaaGreatDoorCViewApartx2
import Derived.Test.YtndddnglapkplaaGreatDoorCViewApartx5
import Derived.Test.YtndddnglapkplaaGreatDoorCViewApartx3
import Derived.Lib.Strings
import Derived.Lib.SplitLaws
import Derived.Shelf.Strings.Builder1
import Derived.Shelf.Strings.Builder2
import Derived.Shelf.Strings.OnBuilder
import Derived.Shelf.Small.Wraps
import Derived.Shelf.Strings.BuilderF
import Derived.Shelf.Strings.BuilderK
import Derived.Shelf.Utf8.RuneCount
import Derived.Shelf.Strings.Builder2Cap
import Derived.Shelf.Strings.Search1
import Derived.Shelf.Strings.Search2
import Derived.Shelf.Strings.Search3
import Derived.Shelf.Strings.Cut
import Derived.Shelf.Strings.Count
import Derived.Shelf.LaysM
import Derived.Shelf.Strings.Shaped
import Derived.Shelf.Strings.Prefix
import Derived.Shelf.Strings.Split
import Derived.Shelf.Strings.Replace
import Derived.Shelf.Strings.SplitShaped
import Derived.Shelf.Unicode.Decode
import Derived.Shelf.Strings.RuneCount
import Derived.Shelf.Strings.Explode
import Derived.Shelf.Unicode.DecodeSlow
import Derived.Shelf.Unicode.DecodeAny
import Derived.Shelf.Strings.BuilderCap
import Derived.Test.YtndddnglapkplaaGreatDoorProg
import Derived.Outline
import Derived.Handy
set_option linter.unusedVariables false
set_option linter.unusedSimpArgs false
open Go.RowKit Go.Proofs.YtndddnglapkplaaGreatDoorW.PrintWords Go.Proofs.YtndddnglapkplaaGreatDoorW.PrintLast Go.Proofs.YtndddnglapkplaaGreatDoorW.PrintMore Go.Proofs.YtndddnglapkplaaGreatDoor.Z
section
namespace Go.Proofs.YtndddnglapkplaaGreatDoor.V
attribute [local go_sem] bI bG bP bO bw bu bH bF
def cg.l0 : Nat → Int → ByteArray → Bool → Option (ByteArray)
 | 0, _, _, _ => none
 | k + 1, x0, x3, x4 => if x4 = true then ((some (([(48 + (Int.tmod x0 10)) % 256] : List Int) : List Int)).bind fun iT => (if (strOfNums iT).size + x3.size ≤ 9223372036854775807 then (cg.l0 k ((Int.tdiv x0 10) % 256) ((strOfNums iT) ++ x3) (decide (((Int.tdiv x0 10) % 256) > 0))) else (none))) else (some x3)
def cg.f (k : Nat) (a0 : Int) : Option (ByteArray) := cg.l0 k a0 (⟨#[]⟩ : ByteArray) true
theorem cg.mono_l : ∀ k, (∀ y0 y1 y2, cA (cg.l0 k y0 y1 y2) (cg.l0 (k + 1) y0 y1 y2))
 | 0 => fun _ _ _ r h => by simp [cg.l0] at h
 | k + 1 => by
  have jg := cg.mono_l k
  ·intro y0 y1 y2
   unfold cg.l0
   repeat' first
   | (with_reducible exact jg _ _ _)
   | (with_reducible exact cA.refl _)
   | (with_reducible exact cA.none _)
   | (with_reducible refine cA.ite ?_ ?_)
   | (with_reducible refine cA.bind ?_ (fun _ => ?_))
   | exact jg _ _ _
   | exact cA.none _
   | refine cA.ite ?_ ?_
   | refine cA.bind ?_ (fun _ => ?_)
theorem cg.mono : ∀ a0 k, cA (cg.f k a0) (cg.f (k + 1) a0) := by
 intro a0 k
 have jg := cg.mono_l k
 unfold cg.f
 repeat' first
   | (with_reducible exact jg _ _ _)
   | (with_reducible exact cA.refl _)
   | (with_reducible exact cA.none _)
   | (with_reducible refine cA.ite ?_ ?_)
   | (with_reducible refine cA.bind ?_ (fun _ => ?_))
   | exact jg _ _ _
   | exact cA.none _
   | refine cA.ite ?_ ?_
   | refine cA.bind ?_ (fun _ => ?_)
set_option maxHeartbeats 8000000 in
set_option maxRecDepth 100000 in
theorem cg.calls (k : Nat) (a0 : Int) (r : ByteArray) (w : World) (h : cg.f k a0 = some r) :
  Calls Tryz.prog 145 #[.int .u8 a0] w fun e w' => e = .returned (.string r) ∧ Below w.heap.size w w' := by
 have HB := ak (Below.refl w.heap.size w)
 have H : (cg.l0 k a0 (⟨#[]⟩ : ByteArray) true) = some r := h
 clear h
 have H' := ak H
 clear H
 go_enter Tryz.func145, Tryz.ntmps145
 go_wp2
 go_loopg [0, 3, 4] k (fun kq v0 v3 v4 w' => ∃ (gT : Int) (aw : ByteArray) (cM : Bool), v0 = .int .u8 gT ∧ v3 = .string aw ∧ v4 = .bool cM ∧ Aside0 (cg.l0 kq gT aw cM = some r) ∧ Aside0 (kq ≤ k) ∧ Aside0 (Below w.heap.size w w'))
 case atStart => exact ⟨(a0), ((⟨#[]⟩ : ByteArray)), (true), (by first | rfl | (simp; done) | (simp [*]; done)), (by first | rfl | (simp; done) | (simp [*]; done)), (by first | rfl | (simp; done) | (simp [*]; done)), H', ⟨Nat.le_refl _⟩, ⟨by repeat (first | (with_reducible first | exact HB.out | apply aa | apply J | apply ab) | exact HB.out)⟩⟩
 case round =>
  clear H'
  obtain ⟨gT, aw, cM, rfl, rfl, rfl, HA, cC, HB⟩ := hrel
  cases gk with
  | zero => exact absurd HA.out (by simp [cg.l0])
  | succ k1 =>
   have H := HA.out
   clear HA
   simp only [cg.l0] at H
   by_cases c2 : cM = true
   ·subst c2
    have H1 : ((some (([(48 + (Int.tmod gT 10)) % 256] : List Int) : List Int)).bind fun iT => (if (strOfNums iT).size + aw.size ≤ 9223372036854775807 then (cg.l0 k1 ((Int.tdiv gT 10) % 256) ((strOfNums iT) ++ aw) (decide (((Int.tdiv gT 10) % 256) > 0))) else (none))) = some r := by rw [if_pos rfl] at H; exact H
    clear H
    have H := H1
    clear H1
    obtain ⟨iT, oY⟩ : ∃ y_ : List Int, y_ = (([(48 + (Int.tmod gT 10)) % 256] : List Int)) := ⟨_, rfl⟩
    replace H : (if (strOfNums iT).size + aw.size ≤ 9223372036854775807 then (cg.l0 k1 ((Int.tdiv gT 10) % 256) ((strOfNums iT) ++ aw) (decide (((Int.tdiv gT 10) % 256) > 0))) else (none)) = some r := by first | (rw [oY]; with_reducible exact H) | (have iO := (Option.bind_some _ _).symm.trans H; rw [oY]; with_reducible exact iO) | (have iO := (Option.bind_some _ _).symm.trans H; with_reducible exact iO) | with_reducible exact H | (rw [oY]; exact H) | exact H
    have Al := ak oY
    clear oY
    by_cases c3 : (strOfNums iT).size + aw.size ≤ 9223372036854775807
    ·rw [if_pos c3] at H
     have gw := eq_true c3
     have zT : decide ((strOfNums iT).size + aw.size ≤ 9223372036854775807) = true := decide_eq_true c3
     try have QQ : (9223372036854775807 < (strOfNums iT).size + aw.size) = False := eq_false (Nat.not_lt.2 c3)
     have H' := ak H
     clear H
     go_wp2_with (first | ((with_reducible refine aA (N := 11) rfl ?_); refine Kd.R_lit (Kd.int .u8) _ 5 ?hg (N := 11) ?hd (xs := ([(48 + (Int.tmod gT 10)) % 256] : List Int)) (inner := [.int .u8 ((48 + (Int.tmod gT 10)) % 256)]) (ok := fun _ => True) (okp := fun _ => True) ?hr ?hp (fun _ hk => hk) trivial (Below.refl _ _) (Nat.le_refl _) (by simp) ?_; (case hd => rfl); (case hg => rfl); (case hr => first | (go_simp; done) | (go_simp; rfl)); (case hp => exact (ct.one (show Kd.M (Kd.int .u8) _ _ _ ((48 + (Int.tmod gT 10)) % 256) [.int .u8 ((48 + (Int.tmod gT 10)) % 256)] from rfl) (ct.none _ _))); intro Q0 w4 uf hb fG od; clear fG od; (first | rw [← Al.out] at uf | (simp only [Int.reduceToNat] at uf; rw [← Al.out] at uf)); have av := ak (Kd.R_lower uf (ay (by repeat (first | (with_reducible first | exact HB.out | apply aa | apply J | apply ab) | exact HB.out)))); have az := ak (au (by repeat (first | (with_reducible first | exact HB.out | apply aa | apply J | apply ab) | exact HB.out)) hb); clear HB; have G5 := av; have HB := az; clear av az; clear hb uf; have Xu := ry (P := Tryz.prog) Tryz.underlying61 Tryz.underlying5 Tryz.underlying9 (Kd.own_of_R G5.out)))
     go_roundg k1
     case measure => have := cC.out; omega
     case rel => exact ⟨((Int.tdiv gT 10) % 256), ((strOfNums iT) ++ aw), (decide (((Int.tdiv gT 10) % 256) > 0)), (by first | rfl | (simp; done) | (simp [*]; done)), (by first | rfl | (simp; done) | (simp [*]; done)), (by first | rfl | (simp; done) | (simp [*]; done)), H', ⟨by have := cC.out; omega⟩, ⟨by repeat (first | (with_reducible first | exact HB.out | apply aa | apply J | apply ab) | exact HB.out)⟩⟩
    ·rw [if_neg c3] at H
     exact absurd H (by simp)
   ·replace c2 := Bool.eq_false_iff.mpr c2
    subst c2
    have H1 : (some aw) = some r := by rw [if_neg (show ¬ (false = true) by decide)] at H; exact H
    clear H
    have H := H1
    clear H1
    obtain rfl := Option.some.inj H
    go_wp2
    go_ret
    exact ⟨by first | rfl | (simp [aq, ao] <;> rfl) | (simp [*, aq, ao] <;> rfl), by repeat (first | (with_reducible first | exact HB.out | apply aa | apply J | apply ab) | exact HB.out)⟩
end Go.Proofs.YtndddnglapkplaaGreatDoor.V
end

section
namespace Go.Proofs.YtndddnglapkplaaGreatDoor.V
attribute [local go_sem] bI bG bP bO bw bu bH bF
mutual
def bY.j0 : Nat → ByteArray → Int → Bool → Option (Int × Bool)
 | 0, _, _, _ => none
 | k + 1, x0, x4, KL => if KL = true then (some (0, false)) else (bY.l0 k x0 x4 (x0.size : Int) 0)
def bY.l0 : Nat → ByteArray → Int → Int → Int → Option (Int × Bool)
 | 0, _, _, _, _ => none
 | k + 1, x0, x4, Ps, yy => if yy < Ps then (if 0 ≤ yy then (if yy < (x0.size : Int) then (if (bt x0 yy) < 48 then (some (0, false)) else (if (bt x0 yy) > 57 then (some (0, false)) else (bY.l0 k x0 (wrap64 ((wrap64 (10 * x4)) + (((bt x0 yy) - 48) % 256))) Ps (wrap64 (yy + 1))))) else (none)) else (none)) else (if x4 < 256 then ((cg.f k ((x4) % 256)).bind fun tr => (some ((x4) % 256, (tr.toList == x0.toList)))) else (some ((x4) % 256, false)))
end
def bY.f (k : Nat) (a0 : ByteArray) : Option (Int × Bool) := if a0.toList = ([] : List UInt8) then (bY.j0 k a0 0 true) else (bY.j0 k a0 0 (decide ((a0.size : Int) > 3)))
theorem bY.mono_l : ∀ k, (∀ y0 y1 y2, cA (bY.j0 k y0 y1 y2) (bY.j0 (k + 1) y0 y1 y2)) ∧ (∀ y0 y1 y2 y3, cA (bY.l0 k y0 y1 y2 y3) (bY.l0 (k + 1) y0 y1 y2 y3))
 | 0 => ⟨fun _ _ _ r h => by simp [bY.j0] at h, fun _ _ _ _ r h => by simp [bY.l0] at h⟩
 | k + 1 => by
  obtain ⟨jg, zb⟩ := bY.mono_l k
  refine ⟨?_, ?_⟩
  ·intro y0 y1 y2
   unfold bY.j0
   repeat' first
   | (with_reducible exact jg _ _ _)
   | (with_reducible exact zb _ _ _ _)
   | (with_reducible exact cg.mono _ _)
   | (with_reducible exact cA.refl _)
   | (with_reducible exact cA.none _)
   | (with_reducible refine cA.ite ?_ ?_)
   | (with_reducible refine cA.bind ?_ (fun _ => ?_))
   | exact jg _ _ _
   | exact zb _ _ _ _
   | exact cg.mono _ _
   | exact cA.none _
   | refine cA.ite ?_ ?_
   | refine cA.bind ?_ (fun _ => ?_)
  ·intro y0 y1 y2 y3
   unfold bY.l0
   repeat' first
   | (with_reducible exact jg _ _ _)
   | (with_reducible exact zb _ _ _ _)
   | (with_reducible exact cg.mono _ _)
   | (with_reducible exact cA.refl _)
   | (with_reducible exact cA.none _)
   | (with_reducible refine cA.ite ?_ ?_)
   | (with_reducible refine cA.bind ?_ (fun _ => ?_))
   | exact jg _ _ _
   | exact zb _ _ _ _
   | exact cg.mono _ _
   | exact cA.none _
   | refine cA.ite ?_ ?_
   | refine cA.bind ?_ (fun _ => ?_)
theorem bY.mono : ∀ a0 k, cA (bY.f k a0) (bY.f (k + 1) a0) := by
 intro a0 k
 obtain ⟨jg, zb⟩ := bY.mono_l k
 unfold bY.f
 repeat' first
   | (with_reducible exact jg _ _ _)
   | (with_reducible exact zb _ _ _ _)
   | (with_reducible exact cg.mono _ _)
   | (with_reducible exact cA.refl _)
   | (with_reducible exact cA.none _)
   | (with_reducible refine cA.ite ?_ ?_)
   | (with_reducible refine cA.bind ?_ (fun _ => ?_))
   | exact jg _ _ _
   | exact zb _ _ _ _
   | exact cg.mono _ _
   | exact cA.none _
   | refine cA.ite ?_ ?_
   | refine cA.bind ?_ (fun _ => ?_)
set_option maxHeartbeats 8000000 in
set_option maxRecDepth 100000 in
theorem bY.calls (k : Nat) (a0 : ByteArray) (r1 : Int) (r2 : Bool) (w : World) (h : bY.f k a0 = some (r1, r2)) :
  Calls Tryz.prog 130 #[.string a0] w fun e w' => e = .returned (.tuple #[.int .u8 r1, .bool r2]) ∧ Below w.heap.size w w' := by
 have HB := ak (Below.refl w.heap.size w)
 have H : (if a0.toList = ([] : List UInt8) then (bY.j0 k a0 0 true) else (bY.j0 k a0 0 (decide ((a0.size : Int) > 3)))) = some (r1, r2) := h
 clear h
 have tl := ak H
 clear H
 go_enter Tryz.func130, Tryz.ntmps130
 go_upto_region 2 with (fail)
 go_cut [12] (fun v12 wc => ∃ (kq : Nat) (yr : Bool), v12 = .bool yr ∧ Aside0 (bY.j0 kq a0 0 yr = some (r1, r2)) ∧ Aside0 (kq ≤ k) ∧ Aside0 (Below w.heap.size w wc))
 case first =>
  have H := tl.out
  clear tl
  by_cases c3 : a0.toList = ([] : List UInt8)
  ·rw [if_pos c3] at H
   have gw : (a0.toList == ([] : List UInt8)) = true := beq_iff_eq.mpr c3
   have zT : (a0.toList != ([] : List UInt8)) = false := bne_eq_false_iff_eq.mpr c3
   clear c3
   (first | rw [gw] | (simp only [cp, cL]; rw [gw]) | skip)
   have H' := ak H
   clear H
   go_wp2
   go_meet
   case rel => exact ⟨_, (true), (by first | rfl | (simp; done) | (simp [*]; done)), H', ⟨by first | omega | exact Nat.le_refl _⟩, ⟨by repeat (first | (with_reducible first | exact HB.out | apply aa | apply J | apply ab) | exact HB.out)⟩⟩
  ·rw [if_neg c3] at H
   have gw : (a0.toList == ([] : List UInt8)) = false := beq_eq_false_iff_ne.mpr c3
   have zT : (a0.toList != ([] : List UInt8)) = true := bne_iff_ne.mpr c3
   (first | rw [gw] | (simp only [cp, cL]; rw [gw]) | skip)
   have H' := ak H
   clear H
   go_wp2
   go_meet
   case rel => exact ⟨_, (decide ((a0.size : Int) > 3)), (by first | rfl | (simp; done) | (simp [*]; done)), H', ⟨by first | omega | exact Nat.le_refl _⟩, ⟨by repeat (first | (with_reducible first | exact HB.out | apply aa | apply J | apply ab) | exact HB.out)⟩⟩
 case rest =>
  clear tl
  obtain ⟨kq, yr, rfl, HA, kN, HB⟩ := hcut
  cases kq with
  | zero => exact absurd HA.out (by simp [bY.j0])
  | succ oW =>
   have H := HA.out
   clear HA
   simp only [bY.j0] at H
   by_cases c4 : yr = true
   ·subst c4
    have H1 : (some (0, false)) = some (r1, r2) := by rw [if_pos rfl] at H; exact H
    clear H
    have H := H1
    clear H1
    simp only [Option.some.injEq, Prod.mk.injEq] at H
    obtain ⟨rfl, rfl⟩ := H
    go_wp2
    go_ret2
    exact ⟨by first | rfl | (simp [aq, ao] <;> rfl) | (simp [*, aq, ao] <;> rfl), by repeat (first | (with_reducible first | exact HB.out | apply aa | apply J | apply ab) | exact HB.out)⟩
   ·replace c4 := Bool.eq_false_iff.mpr c4
    subst c4
    have H1 : (bY.l0 oW a0 0 (a0.size : Int) 0) = some (r1, r2) := by rw [if_neg (show ¬ (false = true) by decide)] at H; exact H
    clear H
    have H := H1
    clear H1
    have H' := ak H
    clear H
    go_wp2
    go_loopg [4, 15] oW (fun kq v4 Ut w' => ∃ (rj : Int) (dW : Int), v4 = .int .i64 rj ∧ Ut = .int .i64 dW ∧ Aside0 (bY.l0 kq a0 rj (a0.size : Int) dW = some (r1, r2)) ∧ Aside0 (kq ≤ oW) ∧ Aside0 (Below w.heap.size w w'))
    case atStart => exact ⟨(0), (0), (by first | rfl | (simp; done) | (simp [*]; done)), (by first | rfl | (simp; done) | (simp [*]; done)), H', ⟨Nat.le_refl _⟩, ⟨by repeat (first | (with_reducible first | exact HB.out | apply aa | apply J | apply ab) | exact HB.out)⟩⟩
    case round =>
     clear H'
     obtain ⟨rj, dW, rfl, rfl, HA, mC, HB⟩ := hrel
     cases gk with
     | zero => exact absurd HA.out (by simp [bY.l0])
     | succ k2 =>
      have H := HA.out
      clear HA
      simp only [bY.l0] at H
      by_cases c5 : dW < (a0.size : Int)
      ·rw [if_pos c5] at H
       have mb : decide (dW < (a0.size : Int)) = true := decide_eq_true c5
       clear c5
       by_cases c6 : 0 ≤ dW
       ·rw [if_pos c6] at H
        have jq : decide (0 ≤ dW) = true := decide_eq_true c6
        clear c6
        by_cases c7 : dW < (a0.size : Int)
        ·rw [if_pos c7] at H
         have nn : decide (dW < (a0.size : Int)) = true := decide_eq_true c7
         clear c7
         by_cases c9 : (bt a0 dW) < 48
         ·rw [if_pos c9] at H
          have qh : decide ((bt a0 dW) < 48) = true := decide_eq_true c9
          clear c9
          simp only [Option.some.injEq, Prod.mk.injEq] at H
          obtain ⟨rfl, rfl⟩ := H
          have p8 : 0 ≤ (dW : Int) := of_decide_eq_true (by first | (with_reducible assumption) | assumption)
          have q8 : dW < (a0.size : Int) := of_decide_eq_true (by first | (with_reducible assumption) | assumption)
          have PD := cb a0 dW
          replace p8 := eq_true p8
          replace q8 := eq_true q8
          go_wp2
          go_ret2
          exact ⟨by first | rfl | (simp [aq, ao] <;> rfl) | (simp [*, aq, ao] <;> rfl), by repeat (first | (with_reducible first | exact HB.out | apply aa | apply J | apply ab) | exact HB.out)⟩
         ·rw [if_neg c9] at H
          have qh : decide ((bt a0 dW) < 48) = false := decide_eq_false c9
          clear c9
          by_cases eD : (bt a0 dW) > 57
          ·rw [if_pos eD] at H
           have mT : decide (57 < (bt a0 dW)) = true := decide_eq_true eD
           clear eD
           simp only [Option.some.injEq, Prod.mk.injEq] at H
           obtain ⟨rfl, rfl⟩ := H
           have p8 : 0 ≤ (dW : Int) := of_decide_eq_true (by first | (with_reducible assumption) | assumption)
           have q8 : dW < (a0.size : Int) := of_decide_eq_true (by first | (with_reducible assumption) | assumption)
           have PD := cb a0 dW
           replace p8 := eq_true p8
           replace q8 := eq_true q8
           have xz : 0 ≤ (dW : Int) := of_decide_eq_true (by first | (with_reducible assumption) | assumption)
           have xx : dW < (a0.size : Int) := of_decide_eq_true (by first | (with_reducible assumption) | assumption)
           have Lq := cb a0 dW
           replace xz := eq_true xz
           replace xx := eq_true xx
           go_wp2
           go_ret2
           exact ⟨by first | rfl | (simp [aq, ao] <;> rfl) | (simp [*, aq, ao] <;> rfl), by repeat (first | (with_reducible first | exact HB.out | apply aa | apply J | apply ab) | exact HB.out)⟩
          ·rw [if_neg eD] at H
           have mT : decide (57 < (bt a0 dW)) = false := decide_eq_false eD
           clear eD
           have H' := ak H
           clear H
           have p8 : 0 ≤ (dW : Int) := of_decide_eq_true (by first | (with_reducible assumption) | assumption)
           have q8 : dW < (a0.size : Int) := of_decide_eq_true (by first | (with_reducible assumption) | assumption)
           have PD := cb a0 dW
           replace p8 := eq_true p8
           replace q8 := eq_true q8
           have xz : 0 ≤ (dW : Int) := of_decide_eq_true (by first | (with_reducible assumption) | assumption)
           have xx : dW < (a0.size : Int) := of_decide_eq_true (by first | (with_reducible assumption) | assumption)
           have Lq := cb a0 dW
           replace xz := eq_true xz
           replace xx := eq_true xx
           have Px : 0 ≤ (dW : Int) := of_decide_eq_true (by first | (with_reducible assumption) | assumption)
           have Pv : dW < (a0.size : Int) := of_decide_eq_true (by first | (with_reducible assumption) | assumption)
           have Xj := cb a0 dW
           replace Px := eq_true Px
           replace Pv := eq_true Pv
           go_wp2
           go_roundg k2
           case measure => have := kN.out; have := mC.out; omega
           case rel => exact ⟨(wrap64 ((wrap64 (10 * rj)) + (((bt a0 dW) - 48) % 256))), (wrap64 (dW + 1)), (by first | rfl | (simp; done) | (simp [*]; done)), (by first | rfl | (simp; done) | (simp [*]; done)), H', ⟨by have := kN.out; have := mC.out; omega⟩, ⟨by repeat (first | (with_reducible first | exact HB.out | apply aa | apply J | apply ab) | exact HB.out)⟩⟩
        ·rw [if_neg c7] at H
         exact absurd H (by simp)
       ·rw [if_neg c6] at H
        exact absurd H (by simp)
      ·rw [if_neg c5] at H
       have mb : decide (dW < (a0.size : Int)) = false := decide_eq_false c5
       clear c5
       by_cases jK : rj < 256
       ·rw [if_pos jK] at H
        have wb : decide (rj < 256) = true := decide_eq_true jK
        clear jK
        replace H := Option.bind_eq_some_iff.mp H
        obtain ⟨tr, AO, H⟩ := H
        replace H : (some ((rj) % 256, (tr.toList == a0.toList))) = some (r1, r2) := H
        have ri := ak AO
        clear AO
        simp only [Option.some.injEq, Prod.mk.injEq] at H
        obtain ⟨rfl, rfl⟩ := H
        go_wp2_with (first | (go_at_call 145; (with_reducible refine (cg.calls k2 ((rj) % 256) tr _ ri.out).mono ?_); rintro e mI ⟨rfl, hb⟩; have av := ak (au (by repeat (first | (with_reducible first | exact HB.out | apply aa | apply J | apply ab) | exact HB.out)) hb); clear HB; have HB := av; clear av; (try clear hb); (try clear bC); (try clear hk); (try clear hi)))
        go_ret2
        exact ⟨by first | rfl | (simp [aq, ao] <;> rfl) | (simp [*, aq, ao] <;> rfl), by repeat (first | (with_reducible first | exact HB.out | apply aa | apply J | apply ab) | exact HB.out)⟩
       ·rw [if_neg jK] at H
        have wb : decide (rj < 256) = false := decide_eq_false jK
        clear jK
        simp only [Option.some.injEq, Prod.mk.injEq] at H
        obtain ⟨rfl, rfl⟩ := H
        go_wp2
        go_ret2
        exact ⟨by first | rfl | (simp [aq, ao] <;> rfl) | (simp [*, aq, ao] <;> rfl), by repeat (first | (with_reducible first | exact HB.out | apply aa | apply J | apply ab) | exact HB.out)⟩
end Go.Proofs.YtndddnglapkplaaGreatDoor.V
end

section
namespace Go.Proofs.YtndddnglapkplaaGreatDoor.V
attribute [local go_sem] bI bG bP bO bw bu bH bF
def aI.f : Nat → Int → Option (ByteArray)
 | 0, _ => none
 | k + 1, a0 => if a0 < 10 then (some (strOfNums (([(wrap64 (48 + a0)) % 256] : List Int)))) else ((aI.f k (wrap64 (Int.tdiv a0 10))).bind fun hI => ((aI.f k (Int.tmod a0 10)).bind fun gK => (if hI.size + gK.size ≤ 9223372036854775807 then (some (hI ++ gK)) else (none))))
theorem aI.mono_l : ∀ k, (∀ y0, cA (aI.f k y0) (aI.f (k + 1) y0))
 | 0 => fun _ r h => by simp [aI.f] at h
 | k + 1 => by
  have jg := aI.mono_l k
  ·intro y0
   unfold aI.f
   repeat' first
   | (with_reducible exact jg _)
   | (with_reducible exact cA.refl _)
   | (with_reducible exact cA.none _)
   | (with_reducible refine cA.ite ?_ ?_)
   | (with_reducible refine cA.bind ?_ (fun _ => ?_))
   | exact jg _
   | exact cA.none _
   | refine cA.ite ?_ ?_
   | refine cA.bind ?_ (fun _ => ?_)
theorem aI.mono : ∀ a0 k, cA (aI.f k a0) (aI.f (k + 1) a0) := by
 intro a0 k
 have jg := aI.mono_l k
 exact jg a0
set_option maxHeartbeats 8000000 in
set_option maxRecDepth 100000 in
theorem aI.calls (k : Nat) : ∀ (a0 : Int) (r : ByteArray) (w : World) (h : aI.f k a0 = some r),
  Calls Tryz.prog 104 #[.int .i64 a0] w fun e w' => e = .returned (.string r) ∧ Below w.heap.size w w' := by
 induction k using Nat.strongRecOn with
 | _ k ih =>
 intro a0 r w h
 cases k with
 | zero => exact absurd h (by simp [aI.f])
 | succ k =>
 simp only [aI.f] at h
 have HB := ak (Below.refl w.heap.size w)
 have H : (if a0 < 10 then (some (strOfNums (([(wrap64 (48 + a0)) % 256] : List Int)))) else ((aI.f k (wrap64 (Int.tdiv a0 10))).bind fun hI => ((aI.f k (Int.tmod a0 10)).bind fun gK => (if hI.size + gK.size ≤ 9223372036854775807 then (some (hI ++ gK)) else (none))))) = some r := h
 clear h
 by_cases c2 : a0 < 10
 ·rw [if_pos c2] at H
  have gY : decide (a0 < 10) = true := decide_eq_true c2
  clear c2
  obtain ⟨Jd, o0⟩ : ∃ y_ : List Int, y_ = (([(wrap64 (48 + a0)) % 256] : List Int)) := ⟨_, rfl⟩
  replace H : (some (strOfNums Jd)) = some r := by first | (rw [o0]; with_reducible exact H) | (have iO := (Option.bind_some _ _).symm.trans H; rw [o0]; with_reducible exact iO) | (have iO := (Option.bind_some _ _).symm.trans H; with_reducible exact iO) | with_reducible exact H | (rw [o0]; exact H) | exact H
  have Ap := ak o0
  clear o0
  obtain rfl := Option.some.inj H
  go_enter Tryz.func104, Tryz.ntmps104
  go_wp2_with (first | ((with_reducible refine aA (N := 8) rfl ?_); refine Kd.R_lit (Kd.int .u8) _ 5 ?hg (N := 8) ?hd (xs := ([(wrap64 (48 + a0)) % 256] : List Int)) (inner := [.int .u8 ((wrap64 (48 + a0)) % 256)]) (ok := fun _ => True) (okp := fun _ => True) ?hr ?hp (fun _ hk => hk) trivial (Below.refl _ _) (Nat.le_refl _) (by simp) ?_; (case hd => rfl); (case hg => rfl); (case hr => first | (go_simp; done) | (go_simp; rfl)); (case hp => exact (ct.one (show Kd.M (Kd.int .u8) _ _ _ ((wrap64 (48 + a0)) % 256) [.int .u8 ((wrap64 (48 + a0)) % 256)] from rfl) (ct.none _ _))); intro Q2 w3 mm hb fG od; clear fG od; (first | rw [← Ap.out] at mm | (simp only [Int.reduceToNat] at mm; rw [← Ap.out] at mm)); have av := ak (Kd.R_lower mm (ay (by repeat (first | (with_reducible first | exact HB.out | apply aa | apply J | apply ab) | exact HB.out)))); have az := ak (au (by repeat (first | (with_reducible first | exact HB.out | apply aa | apply J | apply ab) | exact HB.out)) hb); clear HB; have G7 := av; have HB := az; clear av az; clear hb mm; have QC := ry (P := Tryz.prog) Tryz.underlying61 Tryz.underlying5 Tryz.underlying9 (Kd.own_of_R G7.out)))
  go_ret
  exact ⟨by first | rfl | (simp [aq, ao] <;> rfl) | (simp [*, aq, ao] <;> rfl), by repeat (first | (with_reducible first | exact HB.out | apply aa | apply J | apply ab) | exact HB.out)⟩
 ·rw [if_neg c2] at H
  have gY : decide (a0 < 10) = false := decide_eq_false c2
  clear c2
  replace H := Option.bind_eq_some_iff.mp H
  obtain ⟨hI, pZ, H⟩ := H
  replace H : ((aI.f k (Int.tmod a0 10)).bind fun gK => (if hI.size + gK.size ≤ 9223372036854775807 then (some (hI ++ gK)) else (none))) = some r := H
  have A6 := ak pZ
  clear pZ
  replace H := Option.bind_eq_some_iff.mp H
  obtain ⟨gK, pY, H⟩ := H
  replace H : (if hI.size + gK.size ≤ 9223372036854775807 then (some (hI ++ gK)) else (none)) = some r := H
  have A7 := ak pY
  clear pY
  by_cases c8 : hI.size + gK.size ≤ 9223372036854775807
  ·rw [if_pos c8] at H
   have ma := eq_true c8
   have rK : decide (hI.size + gK.size ≤ 9223372036854775807) = true := decide_eq_true c8
   try have Mk : (9223372036854775807 < hI.size + gK.size) = False := eq_false (Nat.not_lt.2 c8)
   obtain rfl := Option.some.inj H
   go_enter Tryz.func104, Tryz.ntmps104
   go_wp2_with (first | ((with_reducible refine aD (f := 104) rfl ?_); refine bg (some 12) rfl rfl Tryz.func104 (by kernel_rfl) rfl #[.int .i64 (wrap64 (Int.tdiv a0 10))] rfl (by (try simp only [List.map_toArray, List.map_cons, List.map_nil]); first | done | rfl | (simp only [List.length_drop, List.length_take]; rfl)) ?_; (with_reducible refine (ih k (by omega) (wrap64 (Int.tdiv a0 10)) hI _ A6.out).mono ?_); rintro e w9 ⟨rfl, hb⟩; refine ⟨_, rfl, ?_⟩; have av := ak (au (by repeat (first | (with_reducible first | exact HB.out | apply aa | apply J | apply ab) | exact HB.out)) hb); clear HB; have HB := av; clear av; (try clear hb); (try clear bC); (try clear hk); (try clear hi)) | ((with_reducible refine aD (f := 104) rfl ?_); refine bg (some 15) rfl rfl Tryz.func104 (by kernel_rfl) rfl #[.int .i64 (Int.tmod a0 10)] rfl (by (try simp only [List.map_toArray, List.map_cons, List.map_nil]); first | done | rfl | (simp only [List.length_drop, List.length_take]; rfl)) ?_; (with_reducible refine (ih k (by omega) (Int.tmod a0 10) gK _ A7.out).mono ?_); rintro e js ⟨rfl, hb⟩; refine ⟨_, rfl, ?_⟩; have av := ak (au (by repeat (first | (with_reducible first | exact HB.out | apply aa | apply J | apply ab) | exact HB.out)) hb); clear HB; have HB := av; clear av; (try clear hb); (try clear bC); (try clear hk); (try clear hi)))
   go_ret
   exact ⟨by first | rfl | (simp [aq, ao] <;> rfl) | (simp [*, aq, ao] <;> rfl), by repeat (first | (with_reducible first | exact HB.out | apply aa | apply J | apply ab) | exact HB.out)⟩
  ·rw [if_neg c8] at H
   exact absurd H (by simp)
end Go.Proofs.YtndddnglapkplaaGreatDoor.V
end

section
namespace Go.Proofs.YtndddnglapkplaaGreatDoor.V
attribute [local go_sem] bI bG bP bO bw bu bH bF
def aJ.l0 : Nat → ByteArray → Int → Int → Int → Option (Int × Bool)
 | 0, _, _, _, _ => none
 | k + 1, x0, x1, x6, x7 => if x7 < (x0.size : Int) then (if 0 ≤ x7 then (if (bt x0 x7) < 48 then (some (0, false)) else (if (bt x0 x7) > 57 then (some (0, false)) else (if x6 > x1 then (some (0, false)) else (aJ.l0 k x0 x1 (wrap64 ((wrap64 ((wrap64 (10 * x6)) + (wrap64 (bt x0 x7)))) - 48)) (wrap64 (x7 + 1)))))) else (none)) else (if x0.toList = ([] : List UInt8) then (some (0, false)) else (if x6 > x1 then (some (0, false)) else ((aI.f k x6).bind fun lH => (if lH.toList = x0.toList then (some (x6, true)) else (some (0, false))))))
def aJ.f (k : Nat) (a0 : ByteArray) (a1 : Int) : Option (Int × Bool) := aJ.l0 k a0 a1 0 0
theorem aJ.mono_l : ∀ k, (∀ y0 y1 y2 y3, cA (aJ.l0 k y0 y1 y2 y3) (aJ.l0 (k + 1) y0 y1 y2 y3))
 | 0 => fun _ _ _ _ r h => by simp [aJ.l0] at h
 | k + 1 => by
  have jg := aJ.mono_l k
  ·intro y0 y1 y2 y3
   unfold aJ.l0
   repeat' first
   | (with_reducible exact jg _ _ _ _)
   | (with_reducible exact aI.mono _ _)
   | (with_reducible exact cA.refl _)
   | (with_reducible exact cA.none _)
   | (with_reducible refine cA.ite ?_ ?_)
   | (with_reducible refine cA.bind ?_ (fun _ => ?_))
   | exact jg _ _ _ _
   | exact aI.mono _ _
   | exact cA.none _
   | refine cA.ite ?_ ?_
   | refine cA.bind ?_ (fun _ => ?_)
theorem aJ.mono : ∀ a0 a1 k, cA (aJ.f k a0 a1) (aJ.f (k + 1) a0 a1) := by
 intro a0 a1 k
 have jg := aJ.mono_l k
 unfold aJ.f
 repeat' first
   | (with_reducible exact jg _ _ _ _)
   | (with_reducible exact aI.mono _ _)
   | (with_reducible exact cA.refl _)
   | (with_reducible exact cA.none _)
   | (with_reducible refine cA.ite ?_ ?_)
   | (with_reducible refine cA.bind ?_ (fun _ => ?_))
   | exact jg _ _ _ _
   | exact aI.mono _ _
   | exact cA.none _
   | refine cA.ite ?_ ?_
   | refine cA.bind ?_ (fun _ => ?_)
set_option maxHeartbeats 8000000 in
set_option maxRecDepth 100000 in
theorem aJ.calls (k : Nat) (a0 : ByteArray) (a1 : Int) (r1 : Int) (r2 : Bool) (w : World) (h : aJ.f k a0 a1 = some (r1, r2)) :
  Calls Tryz.prog 98 #[.string a0, .int .i64 a1] w fun e w' => e = .returned (.tuple #[.int .i64 r1, .bool r2]) ∧ Below w.heap.size w w' := by
 have HB := ak (Below.refl w.heap.size w)
 have H : (aJ.l0 k a0 a1 0 0) = some (r1, r2) := h
 clear h
 have H' := ak H
 clear H
 go_enter Tryz.func98, Tryz.ntmps98
 go_wp2
 go_loopg [6, 7] k (fun kq v6 v7 w' => ∃ (eI : Int) (bX : Int), v6 = .int .i64 eI ∧ v7 = .int .i64 bX ∧ Aside0 (aJ.l0 kq a0 a1 eI bX = some (r1, r2)) ∧ Aside0 (kq ≤ k) ∧ Aside0 (Below w.heap.size w w'))
 case atStart => exact ⟨(0), (0), (by first | rfl | (simp; done) | (simp [*]; done)), (by first | rfl | (simp; done) | (simp [*]; done)), H', ⟨Nat.le_refl _⟩, ⟨by repeat (first | (with_reducible first | exact HB.out | apply aa | apply J | apply ab) | exact HB.out)⟩⟩
 case round =>
  clear H'
  obtain ⟨eI, bX, rfl, rfl, HA, cC, HB⟩ := hrel
  cases gk with
  | zero => exact absurd HA.out (by simp [aJ.l0])
  | succ k1 =>
   have H := HA.out
   clear HA
   simp only [aJ.l0] at H
   by_cases c3 : bX < (a0.size : Int)
   ·rw [if_pos c3] at H
    have gw : decide (bX < (a0.size : Int)) = true := decide_eq_true c3
    clear c3
    by_cases c4 : 0 ≤ bX
    ·rw [if_pos c4] at H
     have fj : decide (0 ≤ bX) = true := decide_eq_true c4
     clear c4
     by_cases c6 : (bt a0 bX) < 48
     ·rw [if_pos c6] at H
      have jq : decide ((bt a0 bX) < 48) = true := decide_eq_true c6
      clear c6
      simp only [Option.some.injEq, Prod.mk.injEq] at H
      obtain ⟨rfl, rfl⟩ := H
      have p5 : 0 ≤ (bX : Int) := of_decide_eq_true (by first | (with_reducible assumption) | assumption)
      have q5 : bX < (a0.size : Int) := of_decide_eq_true (by first | (with_reducible assumption) | assumption)
      have xM := cb a0 bX
      replace p5 := eq_true p5
      replace q5 := eq_true q5
      go_wp2
      go_ret2
      exact ⟨by first | rfl | (simp [aq, ao] <;> rfl) | (simp [*, aq, ao] <;> rfl), by repeat (first | (with_reducible first | exact HB.out | apply aa | apply J | apply ab) | exact HB.out)⟩
     ·rw [if_neg c6] at H
      have jq : decide ((bt a0 bX) < 48) = false := decide_eq_false c6
      clear c6
      by_cases c8 : (bt a0 bX) > 57
      ·rw [if_pos c8] at H
       have ma : decide (57 < (bt a0 bX)) = true := decide_eq_true c8
       clear c8
       simp only [Option.some.injEq, Prod.mk.injEq] at H
       obtain ⟨rfl, rfl⟩ := H
       have p5 : 0 ≤ (bX : Int) := of_decide_eq_true (by first | (with_reducible assumption) | assumption)
       have q5 : bX < (a0.size : Int) := of_decide_eq_true (by first | (with_reducible assumption) | assumption)
       have xM := cb a0 bX
       replace p5 := eq_true p5
       replace q5 := eq_true q5
       have p7 : 0 ≤ (bX : Int) := of_decide_eq_true (by first | (with_reducible assumption) | assumption)
       have q7 : bX < (a0.size : Int) := of_decide_eq_true (by first | (with_reducible assumption) | assumption)
       have Ij := cb a0 bX
       replace p7 := eq_true p7
       replace q7 := eq_true q7
       go_wp2
       go_ret2
       exact ⟨by first | rfl | (simp [aq, ao] <;> rfl) | (simp [*, aq, ao] <;> rfl), by repeat (first | (with_reducible first | exact HB.out | apply aa | apply J | apply ab) | exact HB.out)⟩
      ·rw [if_neg c8] at H
       have ma : decide (57 < (bt a0 bX)) = false := decide_eq_false c8
       clear c8
       by_cases c9 : eI > a1
       ·rw [if_pos c9] at H
        have qh : decide (a1 < eI) = true := decide_eq_true c9
        clear c9
        simp only [Option.some.injEq, Prod.mk.injEq] at H
        obtain ⟨rfl, rfl⟩ := H
        have p5 : 0 ≤ (bX : Int) := of_decide_eq_true (by first | (with_reducible assumption) | assumption)
        have q5 : bX < (a0.size : Int) := of_decide_eq_true (by first | (with_reducible assumption) | assumption)
        have xM := cb a0 bX
        replace p5 := eq_true p5
        replace q5 := eq_true q5
        have p7 : 0 ≤ (bX : Int) := of_decide_eq_true (by first | (with_reducible assumption) | assumption)
        have q7 : bX < (a0.size : Int) := of_decide_eq_true (by first | (with_reducible assumption) | assumption)
        have Ij := cb a0 bX
        replace p7 := eq_true p7
        replace q7 := eq_true q7
        go_wp2
        go_ret2
        exact ⟨by first | rfl | (simp [aq, ao] <;> rfl) | (simp [*, aq, ao] <;> rfl), by repeat (first | (with_reducible first | exact HB.out | apply aa | apply J | apply ab) | exact HB.out)⟩
       ·rw [if_neg c9] at H
        have qh : decide (a1 < eI) = false := decide_eq_false c9
        clear c9
        have H' := ak H
        clear H
        have p5 : 0 ≤ (bX : Int) := of_decide_eq_true (by first | (with_reducible assumption) | assumption)
        have q5 : bX < (a0.size : Int) := of_decide_eq_true (by first | (with_reducible assumption) | assumption)
        have xM := cb a0 bX
        replace p5 := eq_true p5
        replace q5 := eq_true q5
        have p7 : 0 ≤ (bX : Int) := of_decide_eq_true (by first | (with_reducible assumption) | assumption)
        have q7 : bX < (a0.size : Int) := of_decide_eq_true (by first | (with_reducible assumption) | assumption)
        have Ij := cb a0 bX
        replace p7 := eq_true p7
        replace q7 := eq_true q7
        have xz : 0 ≤ (bX : Int) := of_decide_eq_true (by first | (with_reducible assumption) | assumption)
        have xx : bX < (a0.size : Int) := of_decide_eq_true (by first | (with_reducible assumption) | assumption)
        have Lq := cb a0 bX
        replace xz := eq_true xz
        replace xx := eq_true xx
        go_wp2
        go_roundg k1
        case measure => have := cC.out; omega
        case rel => exact ⟨(wrap64 ((wrap64 ((wrap64 (10 * eI)) + (wrap64 (bt a0 bX)))) - 48)), (wrap64 (bX + 1)), (by first | rfl | (simp; done) | (simp [*]; done)), (by first | rfl | (simp; done) | (simp [*]; done)), H', ⟨by have := cC.out; omega⟩, ⟨by repeat (first | (with_reducible first | exact HB.out | apply aa | apply J | apply ab) | exact HB.out)⟩⟩
    ·rw [if_neg c4] at H
     exact absurd H (by simp)
   ·rw [if_neg c3] at H
    have gw : decide (bX < (a0.size : Int)) = false := decide_eq_false c3
    clear c3
    by_cases eD : a0.toList = ([] : List UInt8)
    ·rw [if_pos eD] at H
     have mT : (a0.toList == ([] : List UInt8)) = true := beq_iff_eq.mpr eD
     have pT : (a0.toList != ([] : List UInt8)) = false := bne_eq_false_iff_eq.mpr eD
     clear eD
     simp only [Option.some.injEq, Prod.mk.injEq] at H
     obtain ⟨rfl, rfl⟩ := H
     go_wp2
     go_ret2
     exact ⟨by first | rfl | (simp [aq, ao] <;> rfl) | (simp [*, aq, ao] <;> rfl), by repeat (first | (with_reducible first | exact HB.out | apply aa | apply J | apply ab) | exact HB.out)⟩
    ·rw [if_neg eD] at H
     have mT : (a0.toList == ([] : List UInt8)) = false := beq_eq_false_iff_ne.mpr eD
     have pT : (a0.toList != ([] : List UInt8)) = true := bne_iff_ne.mpr eD
     by_cases ft : eI > a1
     ·rw [if_pos ft] at H
      have pS : decide (a1 < eI) = true := decide_eq_true ft
      clear ft
      simp only [Option.some.injEq, Prod.mk.injEq] at H
      obtain ⟨rfl, rfl⟩ := H
      go_wp2
      go_ret2
      exact ⟨by first | rfl | (simp [aq, ao] <;> rfl) | (simp [*, aq, ao] <;> rfl), by repeat (first | (with_reducible first | exact HB.out | apply aa | apply J | apply ab) | exact HB.out)⟩
     ·rw [if_neg ft] at H
      have pS : decide (a1 < eI) = false := decide_eq_false ft
      clear ft
      replace H := Option.bind_eq_some_iff.mp H
      obtain ⟨lH, tn, H⟩ := H
      replace H : (if lH.toList = a0.toList then (some (eI, true)) else (some (0, false))) = some (r1, r2) := H
      have wz := ak tn
      clear tn
      by_cases fD : lH.toList = a0.toList
      ·rw [if_pos fD] at H
       have rL : (lH.toList == a0.toList) = true := beq_iff_eq.mpr fD
       have Dm : (lH.toList != a0.toList) = false := bne_eq_false_iff_eq.mpr fD
       clear fD
       simp only [Option.some.injEq, Prod.mk.injEq] at H
       obtain ⟨rfl, rfl⟩ := H
       go_wp2_with (first | (go_at_call 104; (with_reducible refine (aI.calls k1 eI lH _ wz.out).mono ?_); rintro e mI ⟨rfl, hb⟩; have av := ak (au (by repeat (first | (with_reducible first | exact HB.out | apply aa | apply J | apply ab) | exact HB.out)) hb); clear HB; have HB := av; clear av; (try clear hb); (try clear bC); (try clear hk); (try clear hi)))
       go_ret2
       exact ⟨by first | rfl | (simp [aq, ao] <;> rfl) | (simp [*, aq, ao] <;> rfl), by repeat (first | (with_reducible first | exact HB.out | apply aa | apply J | apply ab) | exact HB.out)⟩
      ·rw [if_neg fD] at H
       have rL : (lH.toList == a0.toList) = false := beq_eq_false_iff_ne.mpr fD
       have Dm : (lH.toList != a0.toList) = true := bne_iff_ne.mpr fD
       simp only [Option.some.injEq, Prod.mk.injEq] at H
       obtain ⟨rfl, rfl⟩ := H
       go_wp2_with (first | (go_at_call 104; (with_reducible refine (aI.calls k1 eI lH _ wz.out).mono ?_); rintro e DP ⟨rfl, hb⟩; have av := ak (au (by repeat (first | (with_reducible first | exact HB.out | apply aa | apply J | apply ab) | exact HB.out)) hb); clear HB; have HB := av; clear av; (try clear hb); (try clear bC); (try clear hk); (try clear hi)))
       go_ret2
       exact ⟨by first | rfl | (simp [aq, ao] <;> rfl) | (simp [*, aq, ao] <;> rfl), by repeat (first | (with_reducible first | exact HB.out | apply aa | apply J | apply ab) | exact HB.out)⟩
end Go.Proofs.YtndddnglapkplaaGreatDoor.V
end

section
namespace Go.Proofs.YtndddnglapkplaaGreatDoor.V
theorem up {α : Type} (F : Nat → Option α) (hm : ∀ k, cA (F k) (F (k + 1))) {k k' : Nat} (h : k ≤ k') {r : α} (hr : F k = some r) : F k' = some r := by
 obtain ⟨d, rfl⟩ := Nat.le.dest h
 induction d with
 | zero => exact hr
 | succ n ih => exact hm _ _ (ih (by omega))
def eE (n : Nat) : List UInt8 := if n < 10 then [UInt8.ofNat (48 + n)] else if n < 100 then [UInt8.ofNat (48 + n / 10), UInt8.ofNat (48 + n % 10)] else [UInt8.ofNat (48 + n / 100), UInt8.ofNat (48 + n / 10 % 10), UInt8.ofNat (48 + n % 10)]
def eK (n : Nat) : ByteArray := ⟨(eE n).toArray⟩
theorem BV : ((List.range 256).all fun n => decide (cg.f 5 (n : Int) = some (eK n))) = true := by kernel_rfl
theorem Jp : ((List.range 256).all fun n => decide (aI.f 4 (n : Int) = some (eK n))) = true := by kernel_rfl
theorem Je : ((List.range 256).all fun n => decide (bY.f 12 (eK n) = some ((n : Int), true))) = true := by kernel_rfl
theorem FF : ((List.range 256).all fun n => decide (aJ.f 12 (eK n) 255 = some ((n : Int), true))) = true := by kernel_rfl
end Go.Proofs.YtndddnglapkplaaGreatDoor.V
end

section
namespace Go.Proofs.YtndddnglapkplaaGreatDoor.V
def byteOf (w : List UInt8) : Option Nat := (List.range 256).find? fun n => eE n == w
theorem GA : ((List.range 256).all fun n => byteOf (eE n) == some n) = true := by kernel_rfl
theorem lS (n : Nat) (h : n < 256) : byteOf (eE n) = some n := by
 have := List.all_eq_true.1 GA n (List.mem_range.2 h)
 simpa using this
theorem eU {w : List UInt8} {n : Nat} (h : byteOf w = some n) : n < 256 ∧ w = eE n := by
 unfold byteOf at h
 have h1 := List.find?_some h
 have h2 := List.mem_of_find?_eq_some h
 exact ⟨List.mem_range.1 h2, (by simpa using h1 : eE n = w).symm⟩
theorem pK (n : Nat) : (eK n).data.toList = eE n := by simp [eK]
theorem tI {s : ByteArray} {n : Nat} (h : s.data.toList = eE n) : s = eK n := by
 cases s with
 | mk d => simp [eK]; rw [← h]
theorem pF {s t : ByteArray} (h : s.toList = t.toList) : s.data.toList = t.data.toList := by rw [← Lib.toList_data, ← Lib.toList_data, h]
theorem kC (n : Nat) : (eE n).length ≤ 3 := by unfold eE; split <;> (try split) <;> simp
theorem Om (n : Nat) (hn : n < 256) (k : Nat) (hk : 5 ≤ k) : cg.f k (n : Int) = some (eK n) :=
 up (fun k => cg.f k (n : Int)) (cg.mono _) hk (by have := List.all_eq_true.1 BV n (List.mem_range.2 hn); simpa using this)
theorem tC (n : Nat) (hn : n < 256) (k : Nat) (hk : 4 ≤ k) : aI.f k (n : Int) = some (eK n) :=
 up (fun k => aI.f k (n : Int)) (aI.mono _) hk (by have := List.all_eq_true.1 Jp n (List.mem_range.2 hn); simpa using this)
theorem KP (s : ByteArray) (hs : s.size ≤ 3) : ∀ (d k j : Nat) (v : Int), s.size - j ≤ d → d + 6 ≤ k → j ≤ s.size →
  ∃ r, bY.l0 k s v (s.size : Int) (j : Int) = some r ∧ (r.2 = true → ∃ n : Nat, n < 256 ∧ s.data.toList = eE n) := by
 intro d
 induction d with
 | zero =>
  intro k j v hd hk hj
  obtain ⟨k, rfl⟩ : ∃ m, k = m + 1 := ⟨k - 1, by omega⟩
  unfold bY.l0
  rw [if_neg (by omega)]
  by_cases hv : v < 256
  ·obtain ⟨n, hn⟩ : ∃ n : Nat, v % 256 = n := ⟨(v % 256).toNat, by omega⟩
   rw [if_pos hv, hn, Om n (by omega) k (by omega)]
   refine ⟨_, rfl, fun h => ⟨n, by omega, ?_⟩⟩
   have e := pF (by simpa using h : (eK n).toList = s.toList)
   rw [← e, pK]
  ·rw [if_neg hv]
   exact ⟨_, rfl, fun h => (by cases h)⟩
 | succ d ih =>
  intro k j v hd hk hj
  by_cases lC : j = s.size
  ·exact ih k j v (by omega) (by omega) hj
  obtain ⟨k, rfl⟩ : ∃ m, k = m + 1 := ⟨k - 1, by omega⟩
  unfold bY.l0
  rw [if_pos (by omega), if_pos (by omega), if_pos (by omega)]
  split
  ·exact ⟨_, rfl, fun h => (by cases h)⟩
  ·split
   ·exact ⟨_, rfl, fun h => (by cases h)⟩
   ·rw [bM ((j : Int) + 1) (by omega) (by omega)]
    exact ih k (j + 1) _ (by omega) (by omega) (by omega)
def tp (s : ByteArray) (r : Int × Bool) : Prop := match byteOf s.data.toList with
 | some n => r = ((n : Int), true)
 | none => r.2 = false
theorem NC (s : ByteArray) (k : Nat) (hk : 12 ≤ k) : ∃ r, bY.f k s = some r ∧ tp s r := by
 cases hb : byteOf s.data.toList with
 | some n =>
  obtain ⟨h1, h2⟩ := eU hb
  have e := tI h2
  subst e
  refine ⟨((n : Int), true), up (fun k => bY.f k (eK n)) (bY.mono _) hk ?_, by unfold tp; rw [hb]⟩
  have := List.all_eq_true.1 Je n (List.mem_range.2 h1)
  simpa using this
 | none =>
  suffices h : ∃ r, bY.f k s = some r ∧ (r.2 = true → ∃ n : Nat, n < 256 ∧ s.data.toList = eE n) by
   obtain ⟨r, h1, h2⟩ := h
   refine ⟨r, h1, ?_⟩
   unfold tp
   rw [hb]
   cases hr : r.2 with
   | false => rfl
   | true =>
    obtain ⟨n, hn, e⟩ := h2 hr
    rw [e, lS n hn] at hb
    cases hb
  obtain ⟨k, rfl⟩ : ∃ m, k = m + 1 := ⟨k - 1, by omega⟩
  simp only [bY.f, bY.j0]
  split
  ·exact ⟨_, rfl, fun h => (by cases h)⟩
  ·by_cases h3 : s.size ≤ 3
   ·rw [if_neg (by simp; omega)]
    exact KP s h3 3 k 0 0 (by omega) (by omega) (by omega)
   ·rw [if_pos (by simp; omega)]
    exact ⟨_, rfl, fun h => (by cases h)⟩
theorem Bz (s : ByteArray) (hs : s.size < 4611686018427387904) (most : Int) (hm : most ≤ 255) : ∀ (d k j : Nat) (v : Int), s.size - j ≤ d → d + 6 ≤ k → j ≤ s.size → 0 ≤ v → v ≤ 3000 →
  ∃ r, aJ.l0 k s most v (j : Int) = some r ∧ (r.2 = true → ∃ n : Nat, n < 256 ∧ (n : Int) ≤ most ∧ s.data.toList = eE n) ∧ (r.2 = false → r.1 = 0) := by
 intro d
 induction d with
 | zero =>
  intro k j v hd hk hj h0 h1
  obtain ⟨k, rfl⟩ : ∃ m, k = m + 1 := ⟨k - 1, by omega⟩
  unfold aJ.l0
  rw [if_neg (by omega)]
  split
  ·exact ⟨_, rfl, fun h => by simp at h, fun _ => rfl⟩
  ·split
   ·exact ⟨_, rfl, fun h => by simp at h, fun _ => rfl⟩
   ·rename_i hv
    obtain ⟨n, rfl⟩ : ∃ n : Nat, v = n := ⟨v.toNat, by omega⟩
    rw [tC n (by omega) k (by omega)]
    by_cases he : (eK n).toList = s.toList
    ·refine ⟨((n : Int), true), by simp [he], fun h => ⟨n, by omega, by omega, ?_⟩, fun h => (by cases h)⟩
     rw [← pF he, pK]
    ·exact ⟨(0, false), by simp [he], fun h => (by cases h), fun _ => rfl⟩
 | succ d ih =>
  intro k j v hd hk hj h0 h1
  by_cases lC : j = s.size
  ·exact ih k j v (by omega) (by omega) hj h0 h1
  obtain ⟨k, rfl⟩ : ∃ m, k = m + 1 := ⟨k - 1, by omega⟩
  unfold aJ.l0
  rw [if_pos (by omega), if_pos (by omega)]
  split
  ·exact ⟨_, rfl, fun h => by simp at h, fun _ => rfl⟩
  ·split
   ·exact ⟨_, rfl, fun h => by simp at h, fun _ => rfl⟩
   ·split
    ·exact ⟨_, rfl, fun h => by simp at h, fun _ => rfl⟩
    ·rename_i c1 c2 c3
     have hb := rM s j
     rw [bM (10 * v) (by omega) (by omega), bM (bt s j) (by omega) (by omega), bM (10 * v + bt s j) (by omega) (by omega), bM (10 * v + bt s j - 48) (by omega) (by omega), bM ((j : Int) + 1) (by omega) (by omega)]
     exact ih k (j + 1) _ (by omega) (by omega) (by omega) (by omega) (by omega)
theorem KU (s : ByteArray) (hs : s.size < 4611686018427387904) (k : Nat) (hk : s.size + 12 ≤ k) : aJ.f k s 255 = some (match byteOf s.data.toList with | some n => ((n : Int), true) | none => (0, false)) := by
 cases hb : byteOf s.data.toList with
 | some n =>
  obtain ⟨h1, h2⟩ := eU hb
  have e := tI h2
  subst e
  refine up (fun k => aJ.f k (eK n) 255) (aJ.mono _ _) (show 12 ≤ k by omega) ?_
  have := List.all_eq_true.1 FF n (List.mem_range.2 h1)
  simpa using this
 | none =>
  obtain ⟨r, h1, h2, h3⟩ := Bz s hs 255 (by omega) s.size k 0 0 (by omega) (by omega) (by omega) (by omega) (by omega)
  unfold aJ.f
  have e : r = (0, false) := by
   cases hr : r.2 with
   | false => rw [← h3 hr, ← hr]
   | true =>
    obtain ⟨n, hn, _, e⟩ := h2 hr
    rw [e, lS n hn] at hb
    cases hb
  rw [← e]
  exact h1
end Go.Proofs.YtndddnglapkplaaGreatDoor.V
end

section
namespace Go.Proofs
open Go.Shelf
def Tryz.lays169_ren : Go.Shelf.Ren := ⟨fun | 169 => 139 | n => n, fun | 70 => 203 | 9 => 9 | 0 => 0 | 72 => 205 | 37 => 61 | 127 => 219 | 3 => 3 | 5 => 5 | n => n, fun | n => n⟩
theorem Tryz.lays169 : Go.Proofs.Lays.n169 Tryz.prog Tryz.lays169_ren := {
 mixed := by kernel_rfl
 f169 := Tryz.func139.trans (congrArg some (by kernel_rfl))
 t0 := Tryz.underlying0
 a0 := Tryz.isAgg0
 z0 := Tryz.sizeOf0
 v0 := Tryz.zeroValue0
 t3 := Tryz.underlying3
 a3 := Tryz.isAgg3
 z3 := Tryz.sizeOf3
 v3 := Tryz.zeroValue3
 t9 := Tryz.underlying9
 a9 := Tryz.isAgg9
 z9 := Tryz.sizeOf9
 v9 := Tryz.zeroValue9
 t37 := Tryz.underlying61
 a37 := Tryz.isAgg61
 z37 := Tryz.sizeOf61
 v37 := Tryz.zeroValue61
 t70 := Tryz.underlying203
 a70 := Tryz.isAgg203
 z70 := Tryz.sizeOf203
 v70 := Tryz.zeroValue203
 t72 := Tryz.underlying205
 a72 := Tryz.isAgg205
 z72 := Tryz.sizeOf205
 v72 := Tryz.zeroValue205
 t127 := Tryz.underlying219
 a127 := Tryz.isAgg219
 z127 := Tryz.sizeOf219
 v127 := Tryz.zeroValue219 }
theorem Tryz.Builder_Extra_169 : Builder.Extra Tryz.prog Tryz.lays169_ren := {
 sizeBuilder := by kernel_rfl
 liesBuilder := by kernel_rfl
 t5 := Tryz.underlying5
 a5 := Tryz.isAgg5
 z5 := Tryz.sizeOf5
 v5 := Tryz.zeroValue5
 infoByte := by kernel_rfl
 cellsByte := by kernel_rfl
 sizeByte := by kernel_rfl
 neB5 := by decide }
open Go.RowKit in
theorem Tryz.Builder_String_any (B b : Nat) (l : List UInt8) (w : World) (h : Lib.IsBuilder 205 5 B b (Lib.byteCells l) w) (hBw : B ≤ w.heap.size) :
  Calls Tryz.prog 139 #[.pointer (some ⟨b, 0, none⟩)] w fun e w' => e = .returned (.string ⟨l.toArray⟩) ∧ Below B w w' := Any.Builder_String_any Tryz.lays169 Tryz.Builder_Extra_169 B b l w h hBw
def Tryz.lays165_ren : Go.Shelf.Ren := ⟨fun | 165 => 135 | 240 => 150 | 241 => 151 | 276 => 156 | 277 => 157 | n => n, fun | 70 => 203 | 3 => 3 | 0 => 0 | 4 => 4 | 9 => 9 | 20 => 20 | 72 => 205 | 37 => 61 | 164 => 223 | 5 => 5 | n => n, fun | n => n⟩
theorem Tryz.lays165 : Go.Proofs.Lays.n165 Tryz.prog Tryz.lays165_ren := {
 mixed := by kernel_rfl
 f165 := Tryz.func135.trans (congrArg some (by kernel_rfl))
 f240 := Tryz.func150.trans (congrArg some (by kernel_rfl))
 f241 := Tryz.func151.trans (congrArg some (by kernel_rfl))
 f276 := Tryz.func156.trans (congrArg some (by kernel_rfl))
 f277 := Tryz.func157.trans (congrArg some (by kernel_rfl))
 t0 := Tryz.underlying0
 a0 := Tryz.isAgg0
 z0 := Tryz.sizeOf0
 v0 := Tryz.zeroValue0
 t3 := Tryz.underlying3
 a3 := Tryz.isAgg3
 z3 := Tryz.sizeOf3
 v3 := Tryz.zeroValue3
 t4 := Tryz.underlying4
 a4 := Tryz.isAgg4
 z4 := Tryz.sizeOf4
 v4 := Tryz.zeroValue4
 t9 := Tryz.underlying9
 a9 := Tryz.isAgg9
 z9 := Tryz.sizeOf9
 v9 := Tryz.zeroValue9
 t20 := Tryz.underlying20
 a20 := Tryz.isAgg20
 z20 := Tryz.sizeOf20
 v20 := Tryz.zeroValue20
 t37 := Tryz.underlying61
 a37 := Tryz.isAgg61
 z37 := Tryz.sizeOf61
 v37 := Tryz.zeroValue61
 t70 := Tryz.underlying203
 a70 := Tryz.isAgg203
 z70 := Tryz.sizeOf203
 v70 := Tryz.zeroValue203
 t72 := Tryz.underlying205
 a72 := Tryz.isAgg205
 z72 := Tryz.sizeOf205
 v72 := Tryz.zeroValue205
 t164 := Tryz.underlying223
 a164 := Tryz.isAgg223
 z164 := Tryz.sizeOf223
 v164 := Tryz.zeroValue223 }
theorem Tryz.Builder_Extra_165 : Builder.Extra Tryz.prog Tryz.lays165_ren := {
 sizeBuilder := by kernel_rfl
 liesBuilder := by kernel_rfl
 t5 := Tryz.underlying5
 a5 := Tryz.isAgg5
 z5 := Tryz.sizeOf5
 v5 := Tryz.zeroValue5
 infoByte := by kernel_rfl
 cellsByte := by kernel_rfl
 sizeByte := by kernel_rfl
 neB5 := by decide }
open Go.RowKit in
theorem Tryz.Builder_Grow_fresh (B b n : Nat) (w : World) (hB : B ≤ b) (hbk : w.heap[b]? = some (.cells #[.pointer none, .slice none 0 0] 205 (0, 0))) (hBw : B ≤ w.heap.size) (hn : n ≤ 281474976710656) :
  Calls Tryz.prog 135 #[.pointer (some ⟨b, 0, none⟩), .int .i64 n] w fun e w' => e = .returned (.tuple #[]) ∧ (Lib.BuilderAt 205 5 B b (.pointer (some ⟨b, 0, none⟩)) [] w' ∧ Below B w w') := Any.Builder_Grow_fresh Tryz.lays165 Tryz.Builder_Extra_165 B b n w hB hbk hBw hn
def Tryz.lays156_ren : Go.Shelf.Ren := ⟨fun | 156 => 147 | 165 => 135 | 166 => 137 | 169 => 139 | 240 => 150 | 241 => 151 | 276 => 156 | 277 => 157 | n => n, fun | 31 => 197 | 9 => 9 | 3 => 3 | 4 => 4 | 0 => 0 | 20 => 20 | 72 => 205 | 76 => 209 | 70 => 203 | 37 => 61 | 75 => 208 | 127 => 219 | 164 => 223 | 5 => 5 | 80 => 152 | n => n, fun | n => n⟩
theorem Tryz.lays156 : Go.Proofs.Lays.n156 Tryz.prog Tryz.lays156_ren := {
 mixed := by kernel_rfl
 f156 := Tryz.func147.trans (congrArg some (by kernel_rfl))
 f165 := Tryz.func135.trans (congrArg some (by kernel_rfl))
 f166 := Tryz.func137.trans (congrArg some (by kernel_rfl))
 f169 := Tryz.func139.trans (congrArg some (by kernel_rfl))
 f240 := Tryz.func150.trans (congrArg some (by kernel_rfl))
 f241 := Tryz.func151.trans (congrArg some (by kernel_rfl))
 f276 := Tryz.func156.trans (congrArg some (by kernel_rfl))
 f277 := Tryz.func157.trans (congrArg some (by kernel_rfl))
 t0 := Tryz.underlying0
 a0 := Tryz.isAgg0
 z0 := Tryz.sizeOf0
 v0 := Tryz.zeroValue0
 t3 := Tryz.underlying3
 a3 := Tryz.isAgg3
 z3 := Tryz.sizeOf3
 v3 := Tryz.zeroValue3
 t4 := Tryz.underlying4
 a4 := Tryz.isAgg4
 z4 := Tryz.sizeOf4
 v4 := Tryz.zeroValue4
 t9 := Tryz.underlying9
 a9 := Tryz.isAgg9
 z9 := Tryz.sizeOf9
 v9 := Tryz.zeroValue9
 t20 := Tryz.underlying20
 a20 := Tryz.isAgg20
 z20 := Tryz.sizeOf20
 v20 := Tryz.zeroValue20
 t31 := Tryz.underlying197
 a31 := Tryz.isAgg197
 z31 := Tryz.sizeOf197
 v31 := Tryz.zeroValue197
 t37 := Tryz.underlying61
 a37 := Tryz.isAgg61
 z37 := Tryz.sizeOf61
 v37 := Tryz.zeroValue61
 t70 := Tryz.underlying203
 a70 := Tryz.isAgg203
 z70 := Tryz.sizeOf203
 v70 := Tryz.zeroValue203
 t72 := Tryz.underlying205
 a72 := Tryz.isAgg205
 z72 := Tryz.sizeOf205
 v72 := Tryz.zeroValue205
 t75 := Tryz.underlying208
 a75 := Tryz.isAgg208
 z75 := Tryz.sizeOf208
 v75 := Tryz.zeroValue208
 t76 := Tryz.underlying209
 a76 := Tryz.isAgg209
 z76 := Tryz.sizeOf209
 v76 := Tryz.zeroValue209
 t127 := Tryz.underlying219
 a127 := Tryz.isAgg219
 z127 := Tryz.sizeOf219
 v127 := Tryz.zeroValue219
 t164 := Tryz.underlying223
 a164 := Tryz.isAgg223
 z164 := Tryz.sizeOf223
 v164 := Tryz.zeroValue223 }
theorem Tryz.Builder_Extra_156 : Builder.Extra Tryz.prog Tryz.lays156_ren := {
 sizeBuilder := by kernel_rfl
 liesBuilder := by kernel_rfl
 t5 := Tryz.underlying5
 a5 := Tryz.isAgg5
 z5 := Tryz.sizeOf5
 v5 := Tryz.zeroValue5
 infoByte := by kernel_rfl
 cellsByte := by kernel_rfl
 sizeByte := by kernel_rfl
 neB5 := by decide }
open Go.RowKit in
theorem Tryz.strings_Join (bk o c : Nat) (xs : List ByteArray) (sep : ByteArray) (w : World) (hcells : ∀ (j : Nat) x, xs[j]? = some x → w.cell? ⟨bk, o + j, none⟩ = some (.string x)) (hbk : bk < w.heap.size) (hN : xs.length ≤ 140737488355328) (hcap : xs.length ≤ c) (hlen : (Lib.join (xs.map (·.data.toList)) sep.data.toList).length ≤ 140737488355328) :
  Calls Tryz.prog 147 #[.slice (some ⟨bk, o, none⟩) xs.length c, .string sep] w fun e w' => e = .returned (.string ⟨(Lib.join (xs.map (·.data.toList)) sep.data.toList).toArray⟩) ∧ Below w.heap.size w w' := Any.strings_Join Tryz.lays156 Tryz.Builder_Extra_156 bk o c xs sep w hcells hbk hN hcap hlen
def Tryz.lays210_ren : Go.Shelf.Ren := ⟨fun | 210 => 110 | 206 => 122 | n => n, fun | 9 => 9 | 4 => 4 | 3 => 3 | n => n, fun | n => n⟩
theorem Tryz.lays210 : Go.Proofs.Lays.n210 Tryz.prog Tryz.lays210_ren := {
 mixed := by kernel_rfl
 f206 := Tryz.func122.trans (congrArg some (by kernel_rfl))
 f210 := Tryz.func110.trans (congrArg some (by kernel_rfl))
 t3 := Tryz.underlying3
 a3 := Tryz.isAgg3
 z3 := Tryz.sizeOf3
 v3 := Tryz.zeroValue3
 t4 := Tryz.underlying4
 a4 := Tryz.isAgg4
 z4 := Tryz.sizeOf4
 v4 := Tryz.zeroValue4
 t9 := Tryz.underlying9
 a9 := Tryz.isAgg9
 z9 := Tryz.sizeOf9
 v9 := Tryz.zeroValue9 }
open Go.RowKit in
theorem Tryz.stringslite_CutPrefix (s p : ByteArray) (w : World) :
  Calls Tryz.prog 110 #[.string s, .string p] w fun e w' => e = .returned (.tuple #[.string ⟨(Lib.trimPrefix s.data.toList p.data.toList).toArray⟩, .bool (Lib.hasPrefix s.data.toList p.data.toList)]) ∧ w' = w := Any.stringslite_CutPrefix Tryz.lays210 s p w
def Tryz.lays103_ren : Go.Shelf.Ren := ⟨fun | 103 => 81 | 210 => 110 | 206 => 122 | n => n, fun | 9 => 9 | 4 => 4 | 24 => 104 | 3 => 3 | n => n, fun | n => n⟩
theorem Tryz.lays103 : Go.Proofs.Lays.n103 Tryz.prog Tryz.lays103_ren := {
 mixed := by kernel_rfl
 f103 := Tryz.func81.trans (congrArg some (by kernel_rfl))
 f206 := Tryz.func122.trans (congrArg some (by kernel_rfl))
 f210 := Tryz.func110.trans (congrArg some (by kernel_rfl))
 t3 := Tryz.underlying3
 a3 := Tryz.isAgg3
 z3 := Tryz.sizeOf3
 v3 := Tryz.zeroValue3
 t4 := Tryz.underlying4
 a4 := Tryz.isAgg4
 z4 := Tryz.sizeOf4
 v4 := Tryz.zeroValue4
 t9 := Tryz.underlying9
 a9 := Tryz.isAgg9
 z9 := Tryz.sizeOf9
 v9 := Tryz.zeroValue9
 t24 := Tryz.underlying104
 a24 := Tryz.isAgg104
 z24 := Tryz.sizeOf104
 v24 := Tryz.zeroValue104 }
open Go.RowKit in
theorem Tryz.strings_CutPrefix (s p : ByteArray) (w : World) :
  Calls Tryz.prog 81 #[.string s, .string p] w fun e w' => e = .returned (.tuple #[.string ⟨(Lib.trimPrefix s.data.toList p.data.toList).toArray⟩, .bool (Lib.hasPrefix s.data.toList p.data.toList)]) ∧ w' = w := Any.strings_CutPrefix Tryz.lays103 s p w
def Tryz.lays219_ren : Go.Shelf.Ren := ⟨fun | 219 => 126 | 217 => 140 | 225 => 141 | 224 => 142 | 267 => 143 | 266 => 153 | 314 => 154 | n => n, fun | 9 => 9 | 3 => 3 | 4 => 4 | 5 => 5 | 46 => 186 | 146 => 220 | 51 => 41 | n => n, fun | 1 => 0 | n => n⟩
theorem Tryz.lays219 : Go.Proofs.Lays.n219 Tryz.prog Tryz.lays219_ren := {
 mixed := by kernel_rfl
 f217 := Tryz.func140.trans (congrArg some (by kernel_rfl))
 f219 := Tryz.func126.trans (congrArg some (by kernel_rfl))
 f224 := Tryz.func142.trans (congrArg some (by kernel_rfl))
 f225 := Tryz.func141.trans (congrArg some (by kernel_rfl))
 f266 := Tryz.func153.trans (congrArg some (by kernel_rfl))
 f267 := Tryz.func143.trans (congrArg some (by kernel_rfl))
 f314 := Tryz.func154.trans (congrArg some (by kernel_rfl))
 t3 := Tryz.underlying3
 a3 := Tryz.isAgg3
 z3 := Tryz.sizeOf3
 v3 := Tryz.zeroValue3
 t4 := Tryz.underlying4
 a4 := Tryz.isAgg4
 z4 := Tryz.sizeOf4
 v4 := Tryz.zeroValue4
 t5 := Tryz.underlying5
 a5 := Tryz.isAgg5
 z5 := Tryz.sizeOf5
 v5 := Tryz.zeroValue5
 t9 := Tryz.underlying9
 a9 := Tryz.isAgg9
 z9 := Tryz.sizeOf9
 v9 := Tryz.zeroValue9
 t46 := Tryz.underlying186
 a46 := Tryz.isAgg186
 z46 := Tryz.sizeOf186
 v46 := Tryz.zeroValue186
 t51 := Tryz.underlying41
 a51 := Tryz.isAgg41
 z51 := Tryz.sizeOf41
 v51 := Tryz.zeroValue41
 t146 := Tryz.underlying220
 a146 := Tryz.isAgg220
 z146 := Tryz.sizeOf220
 v146 := Tryz.zeroValue220
 g1 := by kernel_rfl }
open Go.RowKit Go.Lib in
theorem Tryz.stringslite_Index_one (s : ByteArray) (c : UInt8) (w : World) :
  Calls Tryz.prog 126 #[.string s, .string ⟨#[c]⟩] w fun e w' => e = .returned (.int .i64 (Lib.indexByte s.data.toList c)) ∧ w' = w := Any.stringslite_Index_one Tryz.lays219 s c w
def Tryz.lays143_ren : Go.Shelf.Ren := ⟨fun | 143 => 136 | 219 => 126 | 217 => 140 | 225 => 141 | 224 => 142 | 267 => 143 | 266 => 153 | 314 => 154 | n => n, fun | 9 => 9 | 3 => 3 | 4 => 4 | 5 => 5 | 46 => 186 | 146 => 220 | 51 => 41 | n => n, fun | 1 => 0 | n => n⟩
theorem Tryz.lays143 : Go.Proofs.Lays.n143 Tryz.prog Tryz.lays143_ren := {
 mixed := by kernel_rfl
 f143 := Tryz.func136.trans (congrArg some (by kernel_rfl))
 f217 := Tryz.func140.trans (congrArg some (by kernel_rfl))
 f219 := Tryz.func126.trans (congrArg some (by kernel_rfl))
 f224 := Tryz.func142.trans (congrArg some (by kernel_rfl))
 f225 := Tryz.func141.trans (congrArg some (by kernel_rfl))
 f266 := Tryz.func153.trans (congrArg some (by kernel_rfl))
 f267 := Tryz.func143.trans (congrArg some (by kernel_rfl))
 f314 := Tryz.func154.trans (congrArg some (by kernel_rfl))
 t3 := Tryz.underlying3
 a3 := Tryz.isAgg3
 z3 := Tryz.sizeOf3
 v3 := Tryz.zeroValue3
 t4 := Tryz.underlying4
 a4 := Tryz.isAgg4
 z4 := Tryz.sizeOf4
 v4 := Tryz.zeroValue4
 t5 := Tryz.underlying5
 a5 := Tryz.isAgg5
 z5 := Tryz.sizeOf5
 v5 := Tryz.zeroValue5
 t9 := Tryz.underlying9
 a9 := Tryz.isAgg9
 z9 := Tryz.sizeOf9
 v9 := Tryz.zeroValue9
 t46 := Tryz.underlying186
 a46 := Tryz.isAgg186
 z46 := Tryz.sizeOf186
 v46 := Tryz.zeroValue186
 t51 := Tryz.underlying41
 a51 := Tryz.isAgg41
 z51 := Tryz.sizeOf41
 v51 := Tryz.zeroValue41
 t146 := Tryz.underlying220
 a146 := Tryz.isAgg220
 z146 := Tryz.sizeOf220
 v146 := Tryz.zeroValue220
 g1 := by kernel_rfl }
open Go.RowKit Go.Lib in
theorem Tryz.strings_Index_one (s : ByteArray) (c : UInt8) (w : World) :
  Calls Tryz.prog 136 #[.string s, .string ⟨#[c]⟩] w fun e w' => e = .returned (.int .i64 (Lib.indexByte s.data.toList c)) ∧ w' = w := Any.strings_Index_one Tryz.lays143 s c w
def Tryz.lays145_ren : Go.Shelf.Ren := ⟨fun | 145 => 91 | 220 => 115 | 219 => 126 | 217 => 140 | 225 => 141 | 224 => 142 | 267 => 143 | 266 => 153 | 314 => 154 | n => n, fun | 9 => 9 | 4 => 4 | 59 => 170 | 3 => 3 | 5 => 5 | 46 => 186 | 146 => 220 | 51 => 41 | n => n, fun | 1 => 0 | n => n⟩
theorem Tryz.lays145 : Go.Proofs.Lays.n145 Tryz.prog Tryz.lays145_ren := {
 mixed := by kernel_rfl
 f145 := Tryz.func91.trans (congrArg some (by kernel_rfl))
 f217 := Tryz.func140.trans (congrArg some (by kernel_rfl))
 f219 := Tryz.func126.trans (congrArg some (by kernel_rfl))
 f220 := Tryz.func115.trans (congrArg some (by kernel_rfl))
 f224 := Tryz.func142.trans (congrArg some (by kernel_rfl))
 f225 := Tryz.func141.trans (congrArg some (by kernel_rfl))
 f266 := Tryz.func153.trans (congrArg some (by kernel_rfl))
 f267 := Tryz.func143.trans (congrArg some (by kernel_rfl))
 f314 := Tryz.func154.trans (congrArg some (by kernel_rfl))
 t3 := Tryz.underlying3
 a3 := Tryz.isAgg3
 z3 := Tryz.sizeOf3
 v3 := Tryz.zeroValue3
 t4 := Tryz.underlying4
 a4 := Tryz.isAgg4
 z4 := Tryz.sizeOf4
 v4 := Tryz.zeroValue4
 t5 := Tryz.underlying5
 a5 := Tryz.isAgg5
 z5 := Tryz.sizeOf5
 v5 := Tryz.zeroValue5
 t9 := Tryz.underlying9
 a9 := Tryz.isAgg9
 z9 := Tryz.sizeOf9
 v9 := Tryz.zeroValue9
 t46 := Tryz.underlying186
 a46 := Tryz.isAgg186
 z46 := Tryz.sizeOf186
 v46 := Tryz.zeroValue186
 t51 := Tryz.underlying41
 a51 := Tryz.isAgg41
 z51 := Tryz.sizeOf41
 v51 := Tryz.zeroValue41
 t59 := Tryz.underlying170
 a59 := Tryz.isAgg170
 z59 := Tryz.sizeOf170
 v59 := Tryz.zeroValue170
 t146 := Tryz.underlying220
 a146 := Tryz.isAgg220
 z146 := Tryz.sizeOf220
 v146 := Tryz.zeroValue220
 g1 := by kernel_rfl }
open Go.RowKit Go.Lib in
theorem Tryz.strings_Cut (s sep : ByteArray) (m : Int) (w : World) (hs : s.size < 4294967281) (hm : w.cell? ⟨0, 0, none⟩ = some (.int .i64 m)) :
  Calls Tryz.prog 91 #[.string s, .string sep] w fun e w' => e = .returned (.tuple #[.string ⟨(Lib.cut s.data.toList sep.data.toList).1.toArray⟩, .string ⟨(Lib.cut s.data.toList sep.data.toList).2.1.toArray⟩, .bool (Lib.cut s.data.toList sep.data.toList).2.2]) ∧ ∃ n, w' = w.drewN n := Any.strings_Cut Tryz.lays145 s sep m w hs hm
def Tryz.lays138_ren : Go.Shelf.Ren := ⟨fun | 138 => 134 | 195 => 148 | 218 => 149 | 143 => 136 | 219 => 126 | 217 => 140 | 225 => 141 | 224 => 142 | 267 => 143 | 266 => 153 | 314 => 154 | n => n, fun | 9 => 9 | 3 => 3 | 4 => 4 | 5 => 5 | 0 => 0 | 46 => 186 | 146 => 220 | 51 => 41 | n => n, fun | 1 => 0 | n => n⟩
theorem Tryz.lays138 : Go.Proofs.Lays.n138 Tryz.prog Tryz.lays138_ren := {
 mixed := by kernel_rfl
 f138 := Tryz.func134.trans (congrArg some (by kernel_rfl))
 f143 := Tryz.func136.trans (congrArg some (by kernel_rfl))
 f195 := Tryz.func148.trans (congrArg some (by kernel_rfl))
 f217 := Tryz.func140.trans (congrArg some (by kernel_rfl))
 f218 := Tryz.func149.trans (congrArg some (by kernel_rfl))
 f219 := Tryz.func126.trans (congrArg some (by kernel_rfl))
 f224 := Tryz.func142.trans (congrArg some (by kernel_rfl))
 f225 := Tryz.func141.trans (congrArg some (by kernel_rfl))
 f266 := Tryz.func153.trans (congrArg some (by kernel_rfl))
 f267 := Tryz.func143.trans (congrArg some (by kernel_rfl))
 f314 := Tryz.func154.trans (congrArg some (by kernel_rfl))
 t0 := Tryz.underlying0
 a0 := Tryz.isAgg0
 z0 := Tryz.sizeOf0
 v0 := Tryz.zeroValue0
 t3 := Tryz.underlying3
 a3 := Tryz.isAgg3
 z3 := Tryz.sizeOf3
 v3 := Tryz.zeroValue3
 t4 := Tryz.underlying4
 a4 := Tryz.isAgg4
 z4 := Tryz.sizeOf4
 v4 := Tryz.zeroValue4
 t5 := Tryz.underlying5
 a5 := Tryz.isAgg5
 z5 := Tryz.sizeOf5
 v5 := Tryz.zeroValue5
 t9 := Tryz.underlying9
 a9 := Tryz.isAgg9
 z9 := Tryz.sizeOf9
 v9 := Tryz.zeroValue9
 t46 := Tryz.underlying186
 a46 := Tryz.isAgg186
 z46 := Tryz.sizeOf186
 v46 := Tryz.zeroValue186
 t51 := Tryz.underlying41
 a51 := Tryz.isAgg41
 z51 := Tryz.sizeOf41
 v51 := Tryz.zeroValue41
 t146 := Tryz.underlying220
 a146 := Tryz.isAgg220
 z146 := Tryz.sizeOf220
 v146 := Tryz.zeroValue220
 g1 := by kernel_rfl }
open Go.RowKit Go.Lib in
theorem Tryz.strings_Count_one (s : ByteArray) (c : UInt8) (w : World) :
  Calls Tryz.prog 134 #[.string s, .string ⟨#[c]⟩] w fun e w' => e = .returned (.int .i64 (Lib.countByte s.data.toList c)) ∧ w' = w := Any.strings_Count_one Tryz.lays138 s c w
def Tryz.lays206_ren : Go.Shelf.Ren := ⟨fun | 206 => 122 | n => n, fun | 9 => 9 | 4 => 4 | 3 => 3 | n => n, fun | n => n⟩
theorem Tryz.lays206 : Go.Proofs.Lays.n206 Tryz.prog Tryz.lays206_ren := {
 mixed := by kernel_rfl
 f206 := Tryz.func122.trans (congrArg some (by kernel_rfl))
 t3 := Tryz.underlying3
 a3 := Tryz.isAgg3
 z3 := Tryz.sizeOf3
 v3 := Tryz.zeroValue3
 t4 := Tryz.underlying4
 a4 := Tryz.isAgg4
 z4 := Tryz.sizeOf4
 v4 := Tryz.zeroValue4
 t9 := Tryz.underlying9
 a9 := Tryz.isAgg9
 z9 := Tryz.sizeOf9
 v9 := Tryz.zeroValue9 }
open Go.RowKit Go.Lib in
theorem Tryz.stringslite_HasPrefix (s p : ByteArray) (w : World) :
  Calls Tryz.prog 122 #[.string s, .string p] w fun e w' => e = .returned (.bool (Lib.hasPrefix s.data.toList p.data.toList)) ∧ w' = w := Any.stringslite_HasPrefix Tryz.lays206 s p w
def Tryz.lays221_ren : Go.Shelf.Ren := ⟨fun | 221 => 144 | 268 => 155 | 138 => 134 | 143 => 136 | 195 => 148 | 197 => 138 | 218 => 149 | 219 => 126 | 260 => 152 | 217 => 140 | 225 => 141 | 224 => 142 | 267 => 143 | 266 => 153 | 314 => 154 | n => n, fun | 9 => 9 | 3 => 3 | 31 => 197 | 4 => 4 | 0 => 0 | 105 => 211 | 21 => 21 | 5 => 5 | 46 => 186 | 119 => 225 | 139 => 228 | 138 => 227 | 146 => 220 | 51 => 41 | n => n, fun | 1 => 0 | 3 => 1 | 4 => 2 | n => n⟩
theorem Tryz.lays221 : Go.Proofs.Lays.n221 Tryz.prog Tryz.lays221_ren := {
 mixed := by kernel_rfl
 f138 := Tryz.func134.trans (congrArg some (by kernel_rfl))
 f143 := Tryz.func136.trans (congrArg some (by kernel_rfl))
 f195 := Tryz.func148.trans (congrArg some (by kernel_rfl))
 f197 := Tryz.func138.trans (congrArg some (by kernel_rfl))
 f217 := Tryz.func140.trans (congrArg some (by kernel_rfl))
 f218 := Tryz.func149.trans (congrArg some (by kernel_rfl))
 f219 := Tryz.func126.trans (congrArg some (by kernel_rfl))
 f221 := Tryz.func144.trans (congrArg some (by kernel_rfl))
 f224 := Tryz.func142.trans (congrArg some (by kernel_rfl))
 f225 := Tryz.func141.trans (congrArg some (by kernel_rfl))
 f260 := Tryz.func152.trans (congrArg some (by kernel_rfl))
 f266 := Tryz.func153.trans (congrArg some (by kernel_rfl))
 f267 := Tryz.func143.trans (congrArg some (by kernel_rfl))
 f268 := Tryz.func155.trans (congrArg some (by kernel_rfl))
 f314 := Tryz.func154.trans (congrArg some (by kernel_rfl))
 t0 := Tryz.underlying0
 a0 := Tryz.isAgg0
 z0 := Tryz.sizeOf0
 v0 := Tryz.zeroValue0
 t3 := Tryz.underlying3
 a3 := Tryz.isAgg3
 z3 := Tryz.sizeOf3
 v3 := Tryz.zeroValue3
 t4 := Tryz.underlying4
 a4 := Tryz.isAgg4
 z4 := Tryz.sizeOf4
 v4 := Tryz.zeroValue4
 t5 := Tryz.underlying5
 a5 := Tryz.isAgg5
 z5 := Tryz.sizeOf5
 v5 := Tryz.zeroValue5
 t9 := Tryz.underlying9
 a9 := Tryz.isAgg9
 z9 := Tryz.sizeOf9
 v9 := Tryz.zeroValue9
 t21 := Tryz.underlying21
 a21 := Tryz.isAgg21
 z21 := Tryz.sizeOf21
 v21 := Tryz.zeroValue21
 t31 := Tryz.underlying197
 a31 := Tryz.isAgg197
 z31 := Tryz.sizeOf197
 v31 := Tryz.zeroValue197
 t46 := Tryz.underlying186
 a46 := Tryz.isAgg186
 z46 := Tryz.sizeOf186
 v46 := Tryz.zeroValue186
 t51 := Tryz.underlying41
 a51 := Tryz.isAgg41
 z51 := Tryz.sizeOf41
 v51 := Tryz.zeroValue41
 t105 := Tryz.underlying211
 a105 := Tryz.isAgg211
 z105 := Tryz.sizeOf211
 v105 := Tryz.zeroValue211
 t119 := Tryz.underlying225
 a119 := Tryz.isAgg225
 z119 := Tryz.sizeOf225
 t138 := Tryz.underlying227
 a138 := Tryz.isAgg227
 z138 := Tryz.sizeOf227
 v138 := Tryz.zeroValue227
 t139 := Tryz.underlying228
 a139 := Tryz.isAgg228
 z139 := Tryz.sizeOf228
 v139 := Tryz.zeroValue228
 t146 := Tryz.underlying220
 a146 := Tryz.isAgg220
 z146 := Tryz.sizeOf220
 v146 := Tryz.zeroValue220
 g1 := by kernel_rfl
 g3 := by kernel_rfl
 g4 := by kernel_rfl }
def Tryz.lays154_ren : Go.Shelf.Ren := ⟨fun | 154 => 125 | 138 => 134 | 165 => 135 | 143 => 136 | 166 => 137 | 197 => 138 | 169 => 139 | 195 => 148 | 218 => 149 | 240 => 150 | 241 => 151 | 219 => 126 | 260 => 152 | 276 => 156 | 277 => 157 | 217 => 140 | 225 => 141 | 224 => 142 | 267 => 143 | 266 => 153 | 314 => 154 | n => n, fun | 9 => 9 | 3 => 3 | 4 => 4 | 72 => 205 | 0 => 0 | 76 => 209 | 105 => 211 | 21 => 21 | 5 => 5 | 70 => 203 | 20 => 20 | 37 => 61 | 75 => 208 | 127 => 219 | 164 => 223 | 46 => 186 | 119 => 225 | 139 => 228 | 138 => 227 | 146 => 220 | 51 => 41 | 80 => 152 | n => n, fun | 1 => 0 | 3 => 1 | 4 => 2 | n => n⟩
theorem Tryz.lays154 : Go.Proofs.Lays.n154 Tryz.prog Tryz.lays154_ren := {
 mixed := by kernel_rfl
 f138 := Tryz.func134.trans (congrArg some (by kernel_rfl))
 f143 := Tryz.func136.trans (congrArg some (by kernel_rfl))
 f154 := Tryz.func125.trans (congrArg some (by kernel_rfl))
 f165 := Tryz.func135.trans (congrArg some (by kernel_rfl))
 f166 := Tryz.func137.trans (congrArg some (by kernel_rfl))
 f169 := Tryz.func139.trans (congrArg some (by kernel_rfl))
 f195 := Tryz.func148.trans (congrArg some (by kernel_rfl))
 f197 := Tryz.func138.trans (congrArg some (by kernel_rfl))
 f217 := Tryz.func140.trans (congrArg some (by kernel_rfl))
 f218 := Tryz.func149.trans (congrArg some (by kernel_rfl))
 f219 := Tryz.func126.trans (congrArg some (by kernel_rfl))
 f224 := Tryz.func142.trans (congrArg some (by kernel_rfl))
 f225 := Tryz.func141.trans (congrArg some (by kernel_rfl))
 f240 := Tryz.func150.trans (congrArg some (by kernel_rfl))
 f241 := Tryz.func151.trans (congrArg some (by kernel_rfl))
 f260 := Tryz.func152.trans (congrArg some (by kernel_rfl))
 f266 := Tryz.func153.trans (congrArg some (by kernel_rfl))
 f267 := Tryz.func143.trans (congrArg some (by kernel_rfl))
 f276 := Tryz.func156.trans (congrArg some (by kernel_rfl))
 f277 := Tryz.func157.trans (congrArg some (by kernel_rfl))
 f314 := Tryz.func154.trans (congrArg some (by kernel_rfl))
 t0 := Tryz.underlying0
 a0 := Tryz.isAgg0
 z0 := Tryz.sizeOf0
 v0 := Tryz.zeroValue0
 t3 := Tryz.underlying3
 a3 := Tryz.isAgg3
 z3 := Tryz.sizeOf3
 v3 := Tryz.zeroValue3
 t4 := Tryz.underlying4
 a4 := Tryz.isAgg4
 z4 := Tryz.sizeOf4
 v4 := Tryz.zeroValue4
 t5 := Tryz.underlying5
 a5 := Tryz.isAgg5
 z5 := Tryz.sizeOf5
 v5 := Tryz.zeroValue5
 t9 := Tryz.underlying9
 a9 := Tryz.isAgg9
 z9 := Tryz.sizeOf9
 v9 := Tryz.zeroValue9
 t20 := Tryz.underlying20
 a20 := Tryz.isAgg20
 z20 := Tryz.sizeOf20
 v20 := Tryz.zeroValue20
 t21 := Tryz.underlying21
 a21 := Tryz.isAgg21
 z21 := Tryz.sizeOf21
 v21 := Tryz.zeroValue21
 t37 := Tryz.underlying61
 a37 := Tryz.isAgg61
 z37 := Tryz.sizeOf61
 v37 := Tryz.zeroValue61
 t46 := Tryz.underlying186
 a46 := Tryz.isAgg186
 z46 := Tryz.sizeOf186
 v46 := Tryz.zeroValue186
 t51 := Tryz.underlying41
 a51 := Tryz.isAgg41
 z51 := Tryz.sizeOf41
 v51 := Tryz.zeroValue41
 t70 := Tryz.underlying203
 a70 := Tryz.isAgg203
 z70 := Tryz.sizeOf203
 v70 := Tryz.zeroValue203
 t72 := Tryz.underlying205
 a72 := Tryz.isAgg205
 z72 := Tryz.sizeOf205
 v72 := Tryz.zeroValue205
 t75 := Tryz.underlying208
 a75 := Tryz.isAgg208
 z75 := Tryz.sizeOf208
 v75 := Tryz.zeroValue208
 t76 := Tryz.underlying209
 a76 := Tryz.isAgg209
 z76 := Tryz.sizeOf209
 v76 := Tryz.zeroValue209
 t105 := Tryz.underlying211
 a105 := Tryz.isAgg211
 z105 := Tryz.sizeOf211
 v105 := Tryz.zeroValue211
 t119 := Tryz.underlying225
 a119 := Tryz.isAgg225
 z119 := Tryz.sizeOf225
 t127 := Tryz.underlying219
 a127 := Tryz.isAgg219
 z127 := Tryz.sizeOf219
 v127 := Tryz.zeroValue219
 t138 := Tryz.underlying227
 a138 := Tryz.isAgg227
 z138 := Tryz.sizeOf227
 v138 := Tryz.zeroValue227
 t139 := Tryz.underlying228
 a139 := Tryz.isAgg228
 z139 := Tryz.sizeOf228
 v139 := Tryz.zeroValue228
 t146 := Tryz.underlying220
 a146 := Tryz.isAgg220
 z146 := Tryz.sizeOf220
 v146 := Tryz.zeroValue220
 t164 := Tryz.underlying223
 a164 := Tryz.isAgg223
 z164 := Tryz.sizeOf223
 v164 := Tryz.zeroValue223
 g1 := by kernel_rfl
 g3 := by kernel_rfl
 g4 := by kernel_rfl }
theorem Tryz.Builder_Extra_154 : Builder.Extra Tryz.prog Tryz.lays154_ren := {
 sizeBuilder := by kernel_rfl
 liesBuilder := by kernel_rfl
 t5 := Tryz.underlying5
 a5 := Tryz.isAgg5
 z5 := Tryz.sizeOf5
 v5 := Tryz.zeroValue5
 infoByte := by kernel_rfl
 cellsByte := by kernel_rfl
 sizeByte := by kernel_rfl
 neB5 := by decide }
open Go.RowKit Go.Lib in
theorem Tryz.strings_Replace (s nZ new : ByteArray) (n : Int) (m : Int) (w : World) (hs : s.size < 4294967281) (hm : w.cell? ⟨0, 0, none⟩ = some (.int .i64 m)) (h1 : 1 ≤ nZ.size) (hlen : s.size + Lib.countB s nZ * new.size ≤ 140737488355328) :
  Calls Tryz.prog 125 #[.string s, .string nZ, .string new, .int .i64 n] w fun e w' =>
   e = .returned (.string ⟨(Lib.replace s.data.toList nZ.data.toList new.data.toList n).toArray⟩) ∧ Below w.heap.size w w' := Any.strings_Replace Tryz.lays154 Tryz.Builder_Extra_154 s nZ new n m w hs hm h1 hlen
end Go.Proofs
end

section
namespace Go.Proofs.YtndddnglapkplaaGreatDoor.V
def cutAt (c : UInt8) : List UInt8 → List (List UInt8)
 | [] => [[]]
 | b :: l => if b = c then [] :: cutAt c l else match cutAt c l with
  | [] => [[b]]
  | p :: r => (b :: p) :: r
theorem rJ (c : UInt8) : ∀ l, cutAt c l ≠ []
 | [] => by simp [cutAt]
 | b :: l => by
  unfold cutAt
  split
  ·simp
  ·split <;> simp
theorem rV (c : UInt8) (l : List UInt8) : Lib.index (c :: l) [c] = 0 := by simp [Lib.index]
theorem rU (b c : UInt8) (l : List UInt8) (h : b ≠ c) : Lib.index (b :: l) [c] = if Lib.index l [c] = -1 then -1 else Lib.index l [c] + 1 := by
 rw [Lib.index]
 simp [Ne.symm h]
theorem index_one (c : UInt8) : ∀ l : List UInt8, Lib.index l [c] = Lib.indexByte l c
 | [] => by simp [Lib.index, Lib.indexByte]
 | b :: l => by
  by_cases h : b = c
  ·subst h
   rw [rV]
   simp [Lib.indexByte]
  ·rw [rU b c l h, index_one c l]
   simp [Lib.indexByte, h]
theorem si (c : UInt8) : ∀ l : List UInt8, Lib.splitK [c] 0 (Lib.count l [c]) l = cutAt c l
 | [] => by
  rw [Lib.count_one]
  rfl
 | b :: l => by
  have ih := si c l
  rw [Lib.count_one] at ih ⊢
  by_cases h : b = c
  ·subst h
   rw [List.count_cons_self, Lib.splitK, rV, if_neg (by decide)]
   simp [cutAt, ih]
  ·rw [List.count_cons_of_ne h]
   have e : cutAt c (b :: l) = match cutAt c l with
    | [] => [[b]]
    | p :: r => (b :: p) :: r := by rw [cutAt, if_neg h]
   rw [e, ← ih]
   cases hk : List.count c l with
   | zero => rfl
   | succ k =>
    rw [Lib.splitK, Lib.splitK, rU b c l h]
    by_cases hi : Lib.index l [c] = -1
    ·simp [hi]
    ·have hg := Lib.index_ge l [c]
     obtain ⟨i, LC⟩ : ∃ i : Nat, Lib.index l [c] = i := ⟨(Lib.index l [c]).toNat, by omega⟩
     rw [LC]
     have n1 : ((i : Int) = -1) = False := eq_false (by omega)
     have n2 : ((i : Int) + 1 = -1) = False := eq_false (by omega)
     have e1 : ((i : Int) + 1).toNat = i + 1 := by omega
     simp [e1, n1, n2]
theorem pieces_eq (s : ByteArray) (c : UInt8) : (Lib.splitB ⟨#[c]⟩ 0 (Lib.countB s ⟨#[c]⟩) s).map (·.data.toList) = cutAt c s.data.toList := by
 rw [Lib.splitB_data]
 exact si c _
set_option maxHeartbeats 2000000 in
set_option maxRecDepth 100000 in
theorem D8 (s : ByteArray) (c : UInt8) (w : World) (hs : s.size < 4294967281) :
  Calls Tryz.prog 129 #[.string s, .string ⟨#[c]⟩] w fun e w' =>
   e = .returned (.slice (some ⟨w.heap.size, 0, none⟩) (Lib.splitB ⟨#[c]⟩ 0 (Lib.countB s ⟨#[c]⟩) s).length (Lib.splitB ⟨#[c]⟩ 0 (Lib.countB s ⟨#[c]⟩) s).length) ∧ w' = w.alloc (.cells ((Lib.splitB ⟨#[c]⟩ 0 (Lib.countB s ⟨#[c]⟩) s).map Value.string).toArray 9) := by
 have h1 : 1 ≤ (⟨#[c]⟩ : ByteArray).size := by simp [ByteArray.size]
 have hle := Lib.countB_le ⟨#[c]⟩ h1 s.size s (Nat.le_refl _)
 have hlen := Lib.splitB_all ⟨#[c]⟩ h1 0 _ s rfl
 have g := Any.strings_genSplit_core Tryz.lays221 (by kernel_rfl) s ⟨#[c]⟩ 0 (-1) (Lib.countB s ⟨#[c]⟩ + 1) w hs h1 (Nat.zero_le _)
  (fun x cs hx => (Any.strings_Index_one Tryz.lays143 x c _).mono fun e w' ⟨he, hw⟩ => ⟨by rw [he, ← index_one], hw⟩)
  ((Any.strings_Count_one Tryz.lays138 s c w).mono fun e w' ⟨he, hw⟩ => ⟨by rw [he]; show _ = Ending.returned (Value.int .i64 ((Lib.count s.data.toList [c] : Nat) : Int)); rw [Lib.count_one]; rfl, hw⟩)
  (by decide) (by decide) (by rw [if_pos (by decide)]; omega)
 rw [Nat.add_sub_cancel, hlen] at g
 have e2 : Lib.cellsOf (Lib.splitB ⟨#[c]⟩ 0 (Lib.countB s ⟨#[c]⟩) s) (Lib.countB s ⟨#[c]⟩ + 1) = ((Lib.splitB ⟨#[c]⟩ 0 (Lib.countB s ⟨#[c]⟩) s).map Value.string).toArray := by rw [← hlen]; exact Lib.cellsOf_full _
 rw [e2] at g
 rw [hlen]
 obtain ⟨N, hN⟩ : ∃ N, Lib.countB s ⟨#[c]⟩ + 1 = N := ⟨_, rfl⟩
 rw [hN] at g ⊢
 go_enter Tryz.func129, Tryz.ntmps129
 go_wp2_with (go_at_call 144; refine g.mono ?_; rintro e w' ⟨rfl, hw⟩; rw [hw])
 go_ret
 exact ⟨rfl, rfl⟩
def cN (c : UInt8) (s : ByteArray) : ByteArray × ByteArray × Bool :=
 if Lib.indexByte s.data.toList c = -1 then (s, ⟨#[]⟩, false) else (s.extract 0 (Lib.indexByte s.data.toList c).toNat, s.extract ((Lib.indexByte s.data.toList c).toNat + 1) s.size, true)
set_option maxHeartbeats 2000000 in
set_option maxRecDepth 100000 in
theorem y5 (s : ByteArray) (c : UInt8) (w : World) (hs : s.size < 4294967281) :
  Calls Tryz.prog 115 #[.string s, .string ⟨#[c]⟩] w fun e w' => e = .returned (.tuple #[.string (cN c s).1, .string (cN c s).2.1, .bool (cN c s).2.2]) ∧ Drawn0 w w' := by
 rcases Lib.indexB_cases s ⟨#[c]⟩ with hix | ⟨i, hix, hroom⟩
 ·have hi : Lib.indexByte s.data.toList c = -1 := by rw [← index_one]; exact hix
  have e : cN c s = (s, ⟨#[]⟩, false) := by unfold cN; rw [if_pos hi]
  rw [e]
  go_enter Tryz.func115, Tryz.ntmps115
  go_wp2_with (go_at_call 126; refine (Tryz.stringslite_Index_one _ _ _).mono ?_; rintro e w' ⟨rfl, hw⟩; rw [hw, hi])
  go_ret3
  exact ⟨rfl, by repeat (first | exact Drawn0.refl _ | apply Drawn0.step)⟩
 ·have hi : Lib.indexByte s.data.toList c = i := by rw [← index_one]; exact hix
  have e : cN c s = (s.extract 0 i, s.extract (i + 1) s.size, true) := by
   unfold cN
   rw [if_neg (by omega), hi]
   rfl
  have h1 : (⟨#[c]⟩ : ByteArray).size = 1 := by simp [ByteArray.size]
  rw [h1] at hroom
  rw [e]
  have c1 : (0 : Int) ≤ ↑i := by omega
  have c2 : (↑i : Int) ≤ ↑s.size := by omega
  have c3 : (0 : Int) ≤ ↑i + 1 := by omega
  have c4 : (↑i + 1 : Int) ≤ ↑s.size := by omega
  go_enter Tryz.func115, Tryz.ntmps115
  go_wp2_with (first | (go_at_call 126; refine (Tryz.stringslite_Index_one _ _ _).mono ?_; rintro e w' ⟨rfl, hw⟩; rw [hw, hi]) | go_quiet (fail))
  go_ret3
  exact ⟨rfl, by repeat (first | exact Drawn0.refl _ | apply Drawn0.step)⟩
set_option maxHeartbeats 2000000 in
set_option maxRecDepth 100000 in
theorem BW (s : ByteArray) (c : UInt8) (w : World) (hs : s.size < 4294967281) :
  Calls Tryz.prog 91 #[.string s, .string ⟨#[c]⟩] w fun e w' => e = .returned (.tuple #[.string (cN c s).1, .string (cN c s).2.1, .bool (cN c s).2.2]) ∧ Drawn0 w w' := by
 go_enter Tryz.func91, Tryz.ntmps91
 go_wp2_with (go_at_call 115; refine (y5 s c _ hs).mono ?_; rintro e w' ⟨rfl, ⟨n, rfl⟩⟩)
 go_ret3
 exact ⟨rfl, by repeat (first | exact Drawn0.refl _ | exact ⟨_, rfl⟩ | apply Drawn0.step)⟩
end Go.Proofs.YtndddnglapkplaaGreatDoor.V
end

section
namespace Go.Proofs.YtndddnglapkplaaGreatDoor.V
attribute [local go_sem] bI bG bP bO bw bu bH bF
mutual
def a8.l0 : Nat → ByteArray → Int → Int → ByteArray → Int → Option (Int × Bool)
 | 0, _, _, _, _, _ => none
 | k + 1, x0, x4, x5, x6, x7 => if x7 ≤ (x0.size : Int) then (if x7 < (x0.size : Int) then (if 0 ≤ x7 then (a8.j1 k x0 x4 x5 x6 x7 ((bt x0 x7) != 46)) else (none)) else (a8.j1 k x0 x4 x5 x6 x7 false)) else (if x5 = 4 then (some ((x4) % 4294967296, true)) else (some (0, false)))
def a8.j1 : Nat → ByteArray → Int → Int → ByteArray → Int → Bool → Option (Int × Bool)
 | 0, _, _, _, _, _, _ => none
 | k + 1, x0, x4, x5, x6, x7, Uh => if Uh = true then (if 0 ≤ x7 then (if x7 ≤ (wrap64 (x7 + 1)) then (if (wrap64 (x7 + 1)) ≤ (x0.size : Int) then (if x6.size + (x0.extract (x7 : Int).toNat ((wrap64 (x7 + 1)) : Int).toNat).size ≤ 9223372036854775807 then (a8.l0 k x0 x4 x5 (x6 ++ (x0.extract (x7 : Int).toNat ((wrap64 (x7 + 1)) : Int).toNat)) (wrap64 (x7 + 1))) else (none)) else (none)) else (none)) else (none)) else ((aJ.f k x6 255).bind fun qQ => (if qQ.2 = true then (if (wrap64 (x5 + 1)) > 4 then (some (0, false)) else (a8.l0 k x0 (wrap64 ((wrap64 (256 * x4)) + qQ.1)) (wrap64 (x5 + 1)) (⟨#[]⟩ : ByteArray) (wrap64 (x7 + 1)))) else (some (0, false))))
end
def a8.f (k : Nat) (a0 : ByteArray) : Option (Int × Bool) := a8.l0 k a0 0 0 (⟨#[]⟩ : ByteArray) 0
set_option maxHeartbeats 8000000 in
set_option maxRecDepth 100000 in
theorem a8.calls (k : Nat) (a0 : ByteArray) (r1 : Int) (r2 : Bool) (w : World) (h : a8.f k a0 = some (r1, r2)) :
  Calls Tryz.prog 97 #[.string a0] w fun e w' => e = .returned (.tuple #[.int .u32 r1, .bool r2]) ∧ Below w.heap.size w w' := by
 have HB := ak (Below.refl w.heap.size w)
 have H : (a8.l0 k a0 0 0 (⟨#[]⟩ : ByteArray) 0) = some (r1, r2) := h
 clear h
 have H' := ak H
 clear H
 go_enter Tryz.func97, Tryz.ntmps97
 go_wp2
 go_loopg [4, 5, 6, 7] k (fun kq v4 v5 v6 v7 w' => ∃ (cM : Int) (fE : Int) (eI : ByteArray) (bX : Int), v4 = .int .i64 cM ∧ v5 = .int .i64 fE ∧ v6 = .string eI ∧ v7 = .int .i64 bX ∧ Aside0 (a8.l0 kq a0 cM fE eI bX = some (r1, r2)) ∧ Aside0 (kq ≤ k) ∧ Aside0 (Below w.heap.size w w'))
 case atStart => exact ⟨(0), (0), ((⟨#[]⟩ : ByteArray)), (0), (by first | rfl | (simp; done) | (simp [*]; done)), (by first | rfl | (simp; done) | (simp [*]; done)), (by first | rfl | (simp; done) | (simp [*]; done)), (by first | rfl | (simp; done) | (simp [*]; done)), H', ⟨Nat.le_refl _⟩, ⟨by repeat (first | (with_reducible first | exact HB.out | apply aa | apply J | apply ab) | exact HB.out)⟩⟩
 case round =>
  clear H'
  obtain ⟨cM, fE, eI, bX, rfl, rfl, rfl, rfl, HA, cC, HB⟩ := hrel
  cases gk with
  | zero => exact absurd HA.out (by simp [a8.l0])
  | succ k1 =>
   have H := HA.out
   clear HA
   simp only [a8.l0] at H
   by_cases c2 : bX ≤ (a0.size : Int)
   ·rw [if_pos c2] at H
    have gY : decide (bX ≤ (a0.size : Int)) = true := decide_eq_true c2
    clear c2
    have AK := ak H
    clear H
    go_upto_region 5 with (fail)
    go_cut [25] (fun Us wc => ∃ (kq : Nat) (yp : Bool), Us = .bool yp ∧ Aside0 (a8.j1 kq a0 cM fE eI bX yp = some (r1, r2)) ∧ Aside0 (kq ≤ k1) ∧ Aside0 (Below w.heap.size w wc))
    case first =>
     have H := AK.out
     clear AK
     by_cases c4 : bX < (a0.size : Int)
     ·rw [if_pos c4] at H
      have fj : decide (bX < (a0.size : Int)) = true := decide_eq_true c4
      clear c4
      (first | rw [fj] | (simp only [cp, cL]; rw [fj]) | skip)
      by_cases c5 : 0 ≤ bX
      ·rw [if_pos c5] at H
       have mb : decide (0 ≤ bX) = true := decide_eq_true c5
       clear c5
       have H' := ak H
       clear H
       have p6 : 0 ≤ (bX : Int) := of_decide_eq_true (by first | (with_reducible assumption) | assumption)
       have q6 : bX < (a0.size : Int) := of_decide_eq_true (by first | (with_reducible assumption) | assumption)
       have Lo := cb a0 bX
       replace p6 := eq_true p6
       replace q6 := eq_true q6
       go_wp2
       go_meet
       case rel => exact ⟨_, (((bt a0 bX) != 46)), (by first | rfl | (simp; done) | (simp [*]; done)), H', ⟨by have := cC.out; first | omega | exact Nat.le_refl _⟩, ⟨by repeat (first | (with_reducible first | exact HB.out | apply aa | apply J | apply ab) | exact HB.out)⟩⟩
      ·rw [if_neg c5] at H
       exact absurd H (by simp)
     ·rw [if_neg c4] at H
      have fj : decide (bX < (a0.size : Int)) = false := decide_eq_false c4
      clear c4
      (first | rw [fj] | (simp only [cp, cL]; rw [fj]) | skip)
      have H' := ak H
      clear H
      go_wp2
      go_meet
      case rel => exact ⟨_, (false), (by first | rfl | (simp; done) | (simp [*]; done)), H', ⟨by have := cC.out; first | omega | exact Nat.le_refl _⟩, ⟨by repeat (first | (with_reducible first | exact HB.out | apply aa | apply J | apply ab) | exact HB.out)⟩⟩
    case rest =>
     clear AK
     obtain ⟨kq, yp, rfl, HA, ph, HB⟩ := hcut
     cases kq with
     | zero => exact absurd HA.out (by simp [a8.j1])
     | succ oV =>
      have H := HA.out
      clear HA
      simp only [a8.j1] at H
      by_cases c7 : yp = true
      ·subst c7
       have H1 : (if 0 ≤ bX then (if bX ≤ (wrap64 (bX + 1)) then (if (wrap64 (bX + 1)) ≤ (a0.size : Int) then (if eI.size + (a0.extract (bX : Int).toNat ((wrap64 (bX + 1)) : Int).toNat).size ≤ 9223372036854775807 then (a8.l0 oV a0 cM fE (eI ++ (a0.extract (bX : Int).toNat ((wrap64 (bX + 1)) : Int).toNat)) (wrap64 (bX + 1))) else (none)) else (none)) else (none)) else (none)) = some (r1, r2) := by rw [if_pos rfl] at H; exact H
       clear H
       have H := H1
       clear H1
       by_cases c8 : 0 ≤ bX
       ·rw [if_pos c8] at H
        have ma := eq_true c8
        have rK : decide (0 ≤ bX) = true := decide_eq_true c8
        clear c8
        by_cases c9 : bX ≤ (wrap64 (bX + 1))
        ·rw [if_pos c9] at H
         have qh := eq_true c9
         have Xz : decide (bX ≤ (wrap64 (bX + 1))) = true := decide_eq_true c9
         by_cases c10 : (wrap64 (bX + 1)) ≤ (a0.size : Int)
         ·rw [if_pos c10] at H
          have tN := eq_true c10
          have Xe : decide ((wrap64 (bX + 1)) ≤ (a0.size : Int)) = true := decide_eq_true c10
          by_cases eD : eI.size + (a0.extract (bX : Int).toNat ((wrap64 (bX + 1)) : Int).toNat).size ≤ 9223372036854775807
          ·rw [if_pos eD] at H
           have mT := eq_true eD
           have pT : decide (eI.size + (a0.extract (bX : Int).toNat ((wrap64 (bX + 1)) : Int).toNat).size ≤ 9223372036854775807) = true := decide_eq_true eD
           try have Pf : (9223372036854775807 < eI.size + (a0.extract (bX : Int).toNat ((wrap64 (bX + 1)) : Int).toNat).size) = False := eq_false (Nat.not_lt.2 eD)
           have H' := ak H
           clear H
           go_wp2
           go_roundg oV
           case measure => have := cC.out; have := ph.out; omega
           case rel => exact ⟨(cM), (fE), (eI ++ (a0.extract (bX : Int).toNat ((wrap64 (bX + 1)) : Int).toNat)), (wrap64 (bX + 1)), (by first | rfl | (simp; done) | (simp [*]; done)), (by first | rfl | (simp; done) | (simp [*]; done)), (by first | rfl | (simp; done) | (simp [*]; done)), (by first | rfl | (simp; done) | (simp [*]; done)), H', ⟨by have := cC.out; have := ph.out; omega⟩, ⟨by repeat (first | (with_reducible first | exact HB.out | apply aa | apply J | apply ab) | exact HB.out)⟩⟩
          ·rw [if_neg eD] at H
           exact absurd H (by simp)
         ·rw [if_neg c10] at H
          exact absurd H (by simp)
        ·rw [if_neg c9] at H
         exact absurd H (by simp)
       ·rw [if_neg c8] at H
        exact absurd H (by simp)
      ·replace c7 := Bool.eq_false_iff.mpr c7
       subst c7
       have H1 : ((aJ.f oV eI 255).bind fun qQ => (if qQ.2 = true then (if (wrap64 (fE + 1)) > 4 then (some (0, false)) else (a8.l0 oV a0 (wrap64 ((wrap64 (256 * cM)) + qQ.1)) (wrap64 (fE + 1)) (⟨#[]⟩ : ByteArray) (wrap64 (bX + 1)))) else (some (0, false)))) = some (r1, r2) := by rw [if_neg (show ¬ (false = true) by decide)] at H; exact H
       clear H
       have H := H1
       clear H1
       replace H := Option.bind_eq_some_iff.mp H
       obtain ⟨⟨ql, DW⟩, Nz, H⟩ := H
       replace H : (if DW = true then (if (wrap64 (fE + 1)) > 4 then (some (0, false)) else (a8.l0 oV a0 (wrap64 ((wrap64 (256 * cM)) + ql)) (wrap64 (fE + 1)) (⟨#[]⟩ : ByteArray) (wrap64 (bX + 1)))) else (some (0, false))) = some (r1, r2) := H
       have NA := ak Nz
       clear Nz
       by_cases jK : DW = true
       ·subst jK
        have H1 : (if (wrap64 (fE + 1)) > 4 then (some (0, false)) else (a8.l0 oV a0 (wrap64 ((wrap64 (256 * cM)) + ql)) (wrap64 (fE + 1)) (⟨#[]⟩ : ByteArray) (wrap64 (bX + 1)))) = some (r1, r2) := by rw [if_pos rfl] at H; exact H
        clear H
        have H := H1
        clear H1
        by_cases fD : (wrap64 (fE + 1)) > 4
        ·rw [if_pos fD] at H
         have rL : decide (4 < (wrap64 (fE + 1))) = true := decide_eq_true fD
         clear fD
         simp only [Option.some.injEq, Prod.mk.injEq] at H
         obtain ⟨rfl, rfl⟩ := H
         go_wp2_with (first | ((with_reducible refine aD (f := 98) rfl ?_); refine bg (some 35) rfl rfl Tryz.func98 (by kernel_rfl) rfl #[.string eI, .int .i64 255] rfl (by (try simp only [List.map_toArray, List.map_cons, List.map_nil]); first | done | rfl | (simp only [List.length_drop, List.length_take]; rfl)) ?_; (with_reducible refine (aJ.calls oV eI 255 ql true _ NA.out).mono ?_); rintro e mI ⟨rfl, hb⟩; refine ⟨_, rfl, ?_⟩; have av := ak (au (by repeat (first | (with_reducible first | exact HB.out | apply aa | apply J | apply ab) | exact HB.out)) hb); clear HB; have HB := av; clear av; (try clear hb); (try clear bC); (try clear hk); (try clear hi)))
         go_ret2
         exact ⟨by first | rfl | (simp [aq, ao] <;> rfl) | (simp [*, aq, ao] <;> rfl), by repeat (first | (with_reducible first | exact HB.out | apply aa | apply J | apply ab) | exact HB.out)⟩
        ·rw [if_neg fD] at H
         have rL : decide (4 < (wrap64 (fE + 1))) = false := decide_eq_false fD
         clear fD
         have H' := ak H
         clear H
         go_wp2_with (first | ((with_reducible refine aD (f := 98) rfl ?_); refine bg (some 35) rfl rfl Tryz.func98 (by kernel_rfl) rfl #[.string eI, .int .i64 255] rfl (by (try simp only [List.map_toArray, List.map_cons, List.map_nil]); first | done | rfl | (simp only [List.length_drop, List.length_take]; rfl)) ?_; (with_reducible refine (aJ.calls oV eI 255 ql true _ NA.out).mono ?_); rintro e DP ⟨rfl, hb⟩; refine ⟨_, rfl, ?_⟩; have av := ak (au (by repeat (first | (with_reducible first | exact HB.out | apply aa | apply J | apply ab) | exact HB.out)) hb); clear HB; have HB := av; clear av; (try clear hb); (try clear bC); (try clear hk); (try clear hi)))
         go_roundg oV
         case measure => have := cC.out; have := ph.out; omega
         case rel => exact ⟨(wrap64 ((wrap64 (256 * cM)) + ql)), (wrap64 (fE + 1)), ((⟨#[]⟩ : ByteArray)), (wrap64 (bX + 1)), (by first | rfl | (simp; done) | (simp [*]; done)), (by first | rfl | (simp; done) | (simp [*]; done)), (by first | rfl | (simp; done) | (simp [*]; done)), (by first | rfl | (simp; done) | (simp [*]; done)), H', ⟨by have := cC.out; have := ph.out; omega⟩, ⟨by repeat (first | (with_reducible first | exact HB.out | apply aa | apply J | apply ab) | exact HB.out)⟩⟩
       ·replace jK := Bool.eq_false_iff.mpr jK
        subst jK
        have H1 : (some (0, false)) = some (r1, r2) := by rw [if_neg (show ¬ (false = true) by decide)] at H; exact H
        clear H
        have H := H1
        clear H1
        simp only [Option.some.injEq, Prod.mk.injEq] at H
        obtain ⟨rfl, rfl⟩ := H
        go_wp2_with (first | ((with_reducible refine aD (f := 98) rfl ?_); refine bg (some 35) rfl rfl Tryz.func98 (by kernel_rfl) rfl #[.string eI, .int .i64 255] rfl (by (try simp only [List.map_toArray, List.map_cons, List.map_nil]); first | done | rfl | (simp only [List.length_drop, List.length_take]; rfl)) ?_; (with_reducible refine (aJ.calls oV eI 255 ql false _ NA.out).mono ?_); rintro e u2 ⟨rfl, hb⟩; refine ⟨_, rfl, ?_⟩; have av := ak (au (by repeat (first | (with_reducible first | exact HB.out | apply aa | apply J | apply ab) | exact HB.out)) hb); clear HB; have HB := av; clear av; (try clear hb); (try clear bC); (try clear hk); (try clear hi)))
        go_ret2
        exact ⟨by first | rfl | (simp [aq, ao] <;> rfl) | (simp [*, aq, ao] <;> rfl), by repeat (first | (with_reducible first | exact HB.out | apply aa | apply J | apply ab) | exact HB.out)⟩
   ·rw [if_neg c2] at H
    have gY : decide (bX ≤ (a0.size : Int)) = false := decide_eq_false c2
    clear c2
    by_cases pR : fE = 4
    ·rw [if_pos pR] at H
     have Dk : (fE == 4) = true := beq_iff_eq.mpr pR
     have O9 : (fE != 4) = false := bne_eq_false_iff_eq.mpr pR
     clear pR
     simp only [Option.some.injEq, Prod.mk.injEq] at H
     obtain ⟨rfl, rfl⟩ := H
     go_wp2
     go_ret2
     exact ⟨by first | rfl | (simp [aq, ao] <;> rfl) | (simp [*, aq, ao] <;> rfl), by repeat (first | (with_reducible first | exact HB.out | apply aa | apply J | apply ab) | exact HB.out)⟩
    ·rw [if_neg pR] at H
     have Dk : (fE == 4) = false := beq_eq_false_iff_ne.mpr pR
     have O9 : (fE != 4) = true := bne_iff_ne.mpr pR
     simp only [Option.some.injEq, Prod.mk.injEq] at H
     obtain ⟨rfl, rfl⟩ := H
     go_wp2
     go_ret2
     exact ⟨by first | rfl | (simp [aq, ao] <;> rfl) | (simp [*, aq, ao] <;> rfl), by repeat (first | (with_reducible first | exact HB.out | apply aa | apply J | apply ab) | exact HB.out)⟩
end Go.Proofs.YtndddnglapkplaaGreatDoor.V
end

section
namespace Go.Proofs.YtndddnglapkplaaGreatDoor.V
def jv : List (List UInt8) → Option Nat
 | [a, b, c, d] => (byteOf a).bind fun a => (byteOf b).bind fun b => (byteOf c).bind fun c => (byteOf d).bind fun d => some (((a * 256 + b) * 256 + c) * 256 + d)
 | _ => none
def kV (s : List UInt8) : Option Nat := jv (cutAt 46 s)
def o8 : List (List UInt8) → Nat → Nat → Int × Bool
 | [], n, v => if n = 4 then ((v : Int) % 4294967296, true) else (0, false)
 | p :: ps, n, v => match byteOf p with
  | none => (0, false)
  | some x => if n + 1 > 4 then (0, false) else o8 ps (n + 1) (256 * v + x)
theorem Ki (ps : List (List UInt8)) : o8 ps 0 0 = match jv ps with | some v => ((v : Int), true) | none => (0, false) := by
 have lt : ∀ p x, byteOf p = some x → x < 256 := fun p x h => (eU h).1
 match ps with
 | [] => rfl
 | [a] => simp only [o8, jv]; cases byteOf a <;> rfl
 | [a, b] => simp only [o8, jv]; cases byteOf a <;> cases byteOf b <;> rfl
 | [a, b, c] => simp only [o8, jv]; cases byteOf a <;> cases byteOf b <;> cases byteOf c <;> rfl
 | [a, b, c, d] =>
  simp only [o8, jv]
  cases ha : byteOf a with
  | none => rfl
  | some a =>
   cases hb : byteOf b with
   | none => rfl
   | some b =>
    cases hc : byteOf c with
    | none => rfl
    | some c =>
     cases hd : byteOf d with
     | none => rfl
     | some d =>
      have := lt _ _ ha; have := lt _ _ hb; have := lt _ _ hc; have := lt _ _ hd
      simp
      omega
 | a :: b :: c :: d :: e :: r =>
  simp only [o8, jv]
  cases byteOf a <;> cases byteOf b <;> cases byteOf c <;> cases byteOf d <;> cases byteOf e <;> rfl
def kD (cur : List UInt8) : List (List UInt8) → List (List UInt8)
 | [] => [cur]
 | p :: r => (cur ++ p) :: r
theorem Dy (cur : List UInt8) (b c : UInt8) (l : List UInt8) (h : b ≠ c) : kD cur (cutAt c (b :: l)) = kD (cur ++ [b]) (cutAt c l) := by
 rw [cutAt, if_neg h]
 cases hc : cutAt c l with
 | nil => exact absurd hc (rJ c l)
 | cons p r => simp [kD]
theorem Dz (cur : List UInt8) (c : UInt8) (l : List UInt8) : kD cur (cutAt c (c :: l)) = cur :: cutAt c l := by
 rw [cutAt, if_pos rfl]
 simp [kD]
theorem Bm (cur : List UInt8) (c : UInt8) : kD cur (cutAt c []) = [cur] := by simp [kD, cutAt]
theorem s7 (c : UInt8) (l : List UInt8) : kD [] (cutAt c l) = cutAt c l := by
 cases hc : cutAt c l with
 | nil => exact absurd hc (rJ c l)
 | cons p r => rfl
theorem Ci (s : ByteArray) (j : Nat) (hj : j < s.size) : ∃ b : UInt8, s.data.toList.drop j = b :: s.data.toList.drop (j + 1) ∧ bt s (j : Int) = (b.toNat : Int) ∧ (s.extract j (j + 1)).data.toList = [b] := by
 have hl := cw s
 refine ⟨s.data.toList[j]'(by omega), List.drop_eq_getElem_cons (by omega), ?_, ?_⟩
 ·simp [bt, hj]
  rfl
 ·rw [Lib.extract_data]
  rw [List.drop_eq_getElem_cons (by omega)]
  simp
theorem K4 (n : Nat) (h : n ≤ 4) : 256 ^ n ≤ 4294967296 := by
 match n, h with
 | 0, _ => decide
 | 1, _ => decide
 | 2, _ => decide
 | 3, _ => decide
 | 4, _ => decide
theorem xy (s : ByteArray) (hs : s.size < 1152921504606846976) (k i v n : Nat) (cur : ByteArray) (hc : cur.size ≤ s.size) (hk : s.size + 12 ≤ k) (hi : i ≤ s.size) (hn : n ≤ 4) (hv : v < 256 ^ n) :
  a8.j1 (k + 1) s (v : Int) (n : Int) cur (i : Int) false = match byteOf cur.data.toList with
   | none => some (0, false)
   | some x => if n + 1 > 4 then some (0, false) else a8.l0 k s ((256 * v + x : Nat) : Int) ((n + 1 : Nat) : Int) ⟨#[]⟩ ((i + 1 : Nat) : Int) := by
 have hp : v < 4294967296 := Nat.lt_of_lt_of_le hv (K4 n hn)
 clear hv
 have W1 : Aside0 (wrap64 (256 * (v : Int)) = 256 * (v : Int)) := ⟨bM _ (by omega) (by omega)⟩
 have W3 : Aside0 (wrap64 ((n : Int) + 1) = (n : Int) + 1) := ⟨bM _ (by omega) (by omega)⟩
 have W4 : Aside0 (wrap64 ((i : Int) + 1) = (i : Int) + 1) := ⟨bM _ (by omega) (by omega)⟩
 have hr := KU cur (by omega) k (by omega)
 have hlt : ∀ x, byteOf cur.data.toList = some x → x < 256 := fun x h => (eU h).1
 generalize byteOf cur.data.toList = o at hr hlt ⊢
 rw [a8.j1, if_neg (by decide), hr]
 clear hr
 cases o with
 | none => rfl
 | some x =>
  have hx := hlt x rfl
  clear hlt
  rw [Option.bind_some, if_pos rfl]
  show _ = if n + 1 > 4 then some (0, false) else a8.l0 k s ((256 * v + x : Nat) : Int) ((n + 1 : Nat) : Int) ⟨#[]⟩ ((i + 1 : Nat) : Int)
  have W2 : Aside0 (wrap64 (256 * (v : Int) + x) = 256 * (v : Int) + x) := ⟨bM _ (by omega) (by omega)⟩
  rw [W1.out, W2.out, W3.out, W4.out]
  by_cases h4 : n + 1 > 4
  ·rw [if_pos (by omega), if_pos h4]
  ·rw [if_neg (by omega), if_neg h4, show ((256 * v + x : Nat) : Int) = 256 * (v : Int) + x by omega, show ((n + 1 : Nat) : Int) = (n : Int) + 1 by omega, show ((i + 1 : Nat) : Int) = (i : Int) + 1 by omega]
theorem Ec (s : ByteArray) (hs : s.size < 1152921504606846976) : ∀ (d k i : Nat) (v n : Nat) (cur : ByteArray), s.size - i ≤ d → 2 * d + s.size + 20 ≤ k → i ≤ s.size → cur.size ≤ i → n ≤ 4 → v < 256 ^ n →
  a8.l0 k s (v : Int) (n : Int) cur (i : Int) = some (o8 (kD cur.data.toList (cutAt 46 (s.data.toList.drop i))) n v) := by
 intro d
 induction d with
 | zero =>
  intro k i v n cur hd hk hi hc hn hv
  obtain ⟨k, rfl⟩ : ∃ m, k = m + 3 := ⟨k - 3, by omega⟩
  obtain rfl : i = s.size := by omega
  have hdrop : s.data.toList.drop s.size = [] := by rw [List.drop_eq_nil_iff]; rw [cw]; omega
  rw [hdrop, Bm]
  rw [a8.l0, if_pos (by omega), if_neg (by omega), xy s hs (k + 1) s.size v n cur (by omega) (by omega) (by omega) hn hv]
  simp only [o8]
  cases hb : byteOf cur.data.toList with
  | none => rfl
  | some x =>
   by_cases h4 : n + 1 > 4
   ·simp [h4]
   ·simp only [h4, if_false]
    rw [a8.l0, if_neg (by omega)]
    by_cases h5 : n + 1 = 4
    ·rw [if_pos h5, if_pos (by omega)]
    ·rw [if_neg h5, if_neg (by omega)]
 | succ d ih =>
  intro k i v n cur hd hk hi hc hn hv
  by_cases hie : i = s.size
  ·exact ih k i v n cur (by omega) (by omega) hi hc hn hv
  obtain ⟨k, rfl⟩ : ∃ m, k = m + 2 := ⟨k - 2, by omega⟩
  obtain ⟨b, h1, h2, h3⟩ := Ci s i (by omega)
  rw [h1, a8.l0, if_pos (by omega), if_pos (by omega), if_pos (by omega), h2]
  by_cases hb : b = 46
  ·subst hb
   rw [Dz, show ((((46 : UInt8).toNat : Int)) != 46) = false from rfl, xy s hs k i v n cur (by omega) (by omega) (by omega) hn hv]
   simp only [o8]
   cases hq : byteOf cur.data.toList with
   | none => rfl
   | some x =>
    have hx := (eU hq).1
    by_cases h4 : n + 1 > 4
    ·simp [h4]
    ·simp only [h4, if_false]
     rw [ih k (i + 1) (256 * v + x) (n + 1) ⟨#[]⟩ (by omega) (by omega) (by omega) (by simp [ByteArray.size]) (by omega) (by rw [Nat.pow_succ]; omega)]
     have e := s7 46 (List.drop (i + 1) s.data.toList)
     show some (o8 (kD [] (cutAt 46 (List.drop (i + 1) s.data.toList))) (n + 1) (256 * v + x)) = _
     rw [e]
  ·have hne : (((b.toNat : Int)) != 46) = true := by
    simp
    intro h
    exact hb (UInt8.toNat_inj.1 (by simpa using (by omega : b.toNat = 46)))
   rw [hne, Dy _ _ _ _ hb, a8.j1, if_pos rfl, bM ((i : Int) + 1) (by omega) (by omega), if_pos (by omega), if_pos (by omega), if_pos (by omega)]
   have e1 : ((i : Int) + 1).toNat = i + 1 := by omega
   rw [e1, Int.toNat_natCast]
   have hsz : (s.extract i (i + 1)).size = 1 := by simp; omega
   rw [if_pos (by omega)]
   have := ih k (i + 1) v n (cur ++ s.extract i (i + 1)) (by omega) (by omega) (by omega) (by rw [ByteArray.size_append]; omega) hn hv
   rw [show (cur ++ s.extract i (i + 1)).data.toList = cur.data.toList ++ [b] by rw [← h3]; simp] at this
   exact this
theorem FJ (s : ByteArray) (hs : s.size < 1152921504606846976) (k : Nat) (hk : 3 * s.size + 20 ≤ k) : a8.f k s = some (match kV s.data.toList with | some v => ((v : Int), true) | none => (0, false)) := by
 have h := Ec s hs s.size k 0 0 0 ⟨#[]⟩ (by omega) (by omega) (by omega) (by simp [ByteArray.size]) (by omega) (by omega)
 unfold a8.f kV
 rw [← Ki, ← s7]
 exact h
end Go.Proofs.YtndddnglapkplaaGreatDoor.V
end

section
namespace Go.Proofs.YtndddnglapkplaaGreatDoor.V
def bU (a i : Nat) : Nat := a / 2 ^ (8 * (3 - i)) % 256
def fk (a : Nat) (j : Nat) : List Value := (List.range 4).map fun i => .int .u8 (if i < j then (bU a i : Int) else 0)
def mj (a : Nat) : List Int := [(bU a 0 : Int), (bU a 1 : Int), (bU a 2 : Int), (bU a 3 : Int)]
theorem Bi (a j : Nat) (hj : j < 4) : (fk a j).set j (.int .u8 (bU a j : Int)) = fk a (j + 1) := by
 match j, hj with
 | 0, _ => simp [fk, List.range_succ_eq_map]
 | 1, _ => simp [fk, List.range_succ_eq_map]
 | 2, _ => simp [fk, List.range_succ_eq_map]
 | 3, _ => simp [fk, List.range_succ_eq_map]
theorem Bj (a : Nat) : fk a 4 = (mj a).map (Value.int .u8) := by simp [fk, mj, List.range_succ_eq_map]
set_option maxHeartbeats 2000000 in
set_option maxRecDepth 100000 in
theorem Bd (a : Nat) (ha : a < 4294967296) (w : World) :
  Calls Tryz.prog 146 #[.int .u32 (a : Int)] w fun e w' => e = .returned (.agg ((mj a).map (Value.int .u8)).toArray) ∧ Below w.heap.size w w' := by
 have HA := ak ha
 clear ha
 go_enter Tryz.func146, Tryz.ntmps146
 go_wp2
 go_loopw [5] (fun i W => ∃ j : Nat, j ≤ 4 ∧ i = .int .i64 j ∧ Aside0 (bS W (w.heap.size + 1) (fk a j) 199) ∧ Aside0 (bS W w.heap.size (fk a 0) 199) ∧ Aside0 (Below w.heap.size w W)) (fun i _ => 4 - (intOf i).toNat)
 case atStart => exact ⟨0, by omega, rfl, ⟨by have := heap_alloc_new (w.alloc (.cells #[Value.int .u8 0, Value.int .u8 0, Value.int .u8 0, Value.int .u8 0] 199)) (.cells #[Value.int .u8 0, Value.int .u8 0, Value.int .u8 0, Value.int .u8 0] 199); simpa [bS, fk, List.range_succ_eq_map] using this⟩, ⟨bS.alloc (show bS (w.alloc _) w.heap.size (fk a 0) _ from heap_alloc_new w _) _⟩, ⟨by repeat (first | apply aa | exact Below.refl _ _)⟩⟩
 case round =>
  obtain ⟨j, hj, rfl, H1, H0, HB⟩ := hrel
  obtain ⟨W, rfl⟩ : ∃ W : World, W = wr := ⟨_, rfl⟩
  by_cases lC : j < 4
  ·have hjb : decide ((j : Int) < 4) = true := by simp; omega
   have hc := H1.out.cell j _ (show (fk a j)[j]? = some (.int .u8 0) by
    simp [fk, List.getElem?_map, List.getElem?_range lC])
   have hf := H1.out.frozen j
   go_wp2
   have hv : (↑a / 2 ^ (8 * (3 - j)) % 256 : Int) = ((bU a j : Nat) : Int) := by simp [bU]
   rw [hv]
   exact ⟨⟨j + 1, by omega, by go_num, ⟨by rw [← Bi a j lC]; exact H1.out.set j _⟩, ⟨H0.out.far (by simp) _⟩, ⟨HB.out.setCell (by simp) _⟩⟩, by simp [intOf]; omega⟩
  ·have hjb : decide ((j : Int) < 4) = false := by simp; omega
   obtain rfl : j = 4 := by omega
   go_wp2_with (first | (refine bN rfl 199 (.tmp 3) rfl (w.heap.size + 1) rfl _ _ _ H1.out Tryz.underlying199 rfl 4 (by kernel_rfl) (by simp [fk]) ?_) | (refine aM rfl 199 (.tmp 2) (.tmp 17) rfl w.heap.size (fk a 4) rfl rfl _ _ H0.out 4 (by kernel_rfl) (by simp [fk]) (by simp [fk]) (by intro v hv; simp [fk] at hv; obtain ⟨i, _, rfl⟩ := hv; rfl) ?_; intro W1 aW dh))
   exact bodyPost_ret (results_cell_row rfl _ _ w.heap.size 199 _ (0, 0) _ rfl aW Tryz.underlying199 rfl (by kernel_rfl)) rfl ⟨by rw [Bj], HB.out.grown dh HB.out.size (by intro k hk; cases hk; omega)⟩
theorem tz (n b : Nat) (hn : n < 16777216) (hb : b < 256) : bits .or .u32 ((n : Int) * 256 % 4294967296) ((b : Int) % 4294967296) = ((n * 256 + b : Nat) : Int) := by
 rw [show (n : Int) * 256 % 4294967296 = ((n * 256 : Nat) : Int) by omega, show (b : Int) % 4294967296 = (b : Int) by omega, u32_or_nat _ _ (by omega) (by omega), nat_join 8 _ _ (by omega) (by omega)]
theorem or_zero (b : Nat) (hb : b < 256) : bits .or .u32 0 ((b : Int) % 4294967296) = (b : Int) := by
 have := tz 0 b (by omega) hb
 simpa using this
set_option maxHeartbeats 2000000 in
set_option maxRecDepth 100000 in
theorem Lc (b0 b1 b2 b3 : Nat) (h0 : b0 < 256) (h1 : b1 < 256) (h2 : b2 < 256) (h3 : b3 < 256) (w : World) :
  Calls Tryz.prog 131 #[.agg #[.int .u8 (b0 : Int), .int .u8 (b1 : Int), .int .u8 (b2 : Int), .int .u8 (b3 : Int)]] w fun e w' => e = .returned (.int .u32 ((((b0 * 256 + b1) * 256 + b2) * 256 + b3 : Nat) : Int)) ∧ Below w.heap.size w w' := by
 have HA := ak (And.intro h0 (And.intro h1 (And.intro h2 h3)))
 clear h0 h1 h2 h3
 go_enter Tryz.func131, Tryz.ntmps131
 have hi := fun (w : World) (i : Nat) (h : i < 4) => nT (P := Tryz.prog) w 199 5 4 .u8 Tryz.underlying199 Tryz.underlying5 (fun _ => by kernel_rfl) [(b0 : Int), (b1 : Int), (b2 : Int), (b3 : Int)] rfl i h
 have rW : ∀ w, (Instr.index 199 (.agg #[.int .u8 (b0 : Int), .int .u8 (b1 : Int), .int .u8 (b2 : Int), .int .u8 (b3 : Int)]) (.int .i64 0)).run Tryz.prog w = .ok (.int .u8 (b0 : Int)) w := fun w => hi w 0 (by decide)
 have XZ : ∀ w, (Instr.index 199 (.agg #[.int .u8 (b0 : Int), .int .u8 (b1 : Int), .int .u8 (b2 : Int), .int .u8 (b3 : Int)]) (.int .i64 1)).run Tryz.prog w = .ok (.int .u8 (b1 : Int)) w := fun w => hi w 1 (by decide)
 have LC : ∀ w, (Instr.index 199 (.agg #[.int .u8 (b0 : Int), .int .u8 (b1 : Int), .int .u8 (b2 : Int), .int .u8 (b3 : Int)]) (.int .i64 2)).run Tryz.prog w = .ok (.int .u8 (b2 : Int)) w := fun w => hi w 2 (by decide)
 have XY : ∀ w, (Instr.index 199 (.agg #[.int .u8 (b0 : Int), .int .u8 (b1 : Int), .int .u8 (b2 : Int), .int .u8 (b3 : Int)]) (.int .i64 3)).run Tryz.prog w = .ok (.int .u8 (b3 : Int)) w := fun w => hi w 3 (by decide)
 clear hi
 go_wp2
 go_rounds 5
 go_ret
 refine ⟨?_, aa (Below.refl _ _) _⟩
 obtain ⟨h0, h1, h2, h3⟩ := HA.out
 rw [or_zero b0 h0, tz b0 b1 (by omega) h1, tz _ b2 (by omega) h2, tz _ b3 (by omega) h3]
 rfl
end Go.Proofs.YtndddnglapkplaaGreatDoor.V
end

section
namespace Go.Proofs.YtndddnglapkplaaGreatDoor.V
theorem Lj {base : Nat} {ok : Nat → Prop} {v : Value} (xs : List ByteArray) (sep : ByteArray) (w : World) (h : Kd.R Kd.string 9 w base ok v xs) (h0 : 0 < xs.length) (hN : xs.length ≤ 140737488355328)
  (hlen : (Lib.join (xs.map (·.data.toList)) sep.data.toList).length ≤ 140737488355328) :
  Calls Tryz.prog 147 #[v, .string sep] w fun e w' => e = .returned (.string ⟨(Lib.join (xs.map (·.data.toList)) sep.data.toList).toArray⟩) ∧ Below w.heap.size w w' := by
 obtain ⟨hl, hx⟩ := Kd.own_of_R h
 rcases hx with ⟨_, hn⟩ | ⟨g, cap, cur, rfl, hb, hg, hc, hm, hz, ht⟩
 ·omega
 refine Tryz.strings_Join g 0 cap xs sep w (fun j x hj => ?_) (Array.getElem?_eq_some_iff.1 hg).1 hN hc hlen
 rw [cell_of_row w g (0 + j) _ _ (0, 0) hg, Nat.zero_add]
 have lC : j < xs.length := (List.getElem?_eq_some_iff.1 hj).1
 have e : (fH Value.string xs)[j]? = some (.string x) := by simp [fH, hj]
 rw [← ht, List.getElem?_take_of_lt (by omega)] at e
 simpa using e
theorem Km (n : Nat) (hn : n < 256) (w : World) : Calls Tryz.prog 145 #[.int .u8 (n : Int)] w fun e w' => e = .returned (.string (eK n)) ∧ Below w.heap.size w w' :=
 cg.calls 5 _ _ w (by have := List.all_eq_true.1 BV n (List.mem_range.2 hn); simpa using this)
def fO (a : Nat) : List ByteArray := [eK (bU a 0), eK (bU a 1), eK (bU a 2), eK (bU a 3)]
def jf (a : Nat) : ByteArray := ⟨(Lib.join ((fO a).map (·.data.toList)) [46]).toArray⟩
theorem jW (a i : Nat) : bU a i < 256 := Nat.mod_lt _ (by decide)
theorem AQ (a j : Nat) (hj : j < 4) : (fO a)[j]? = some (eK (bU a j)) := by
 match j, hj with
 | 0, _ => rfl
 | 1, _ => rfl
 | 2, _ => rfl
 | 3, _ => rfl
theorem yF (a j : Nat) (hj : j < 4) : (fO a).take (j + 1) = (fO a).take j ++ [eK (bU a j)] := by
 rw [List.take_add_one, AQ a j hj]
 rfl
theorem yn (a j : Nat) (hj : j < 4) : (mj a).getD j 0 = (bU a j : Int) := by
 match j, hj with
 | 0, _ => rfl
 | 1, _ => rfl
 | 2, _ => rfl
 | 3, _ => rfl
theorem rT (a : Nat) : (Lib.join ((fO a).map (·.data.toList)) [46]).length ≤ 15 := by
 have h := Lib.join_length (eE (bU a 0)) [eE (bU a 1), eE (bU a 2), eE (bU a 3)] [46]
 have e : (fO a).map (·.data.toList) = [eE (bU a 0), eE (bU a 1), eE (bU a 2), eE (bU a 3)] := by simp [fO, eK]
 rw [e, h]
 have h0 := kC (bU a 0); have h1 := kC (bU a 1); have h2 := kC (bU a 2); have h3 := kC (bU a 3)
 simp [Lib.lens]
 omega
set_option maxHeartbeats 2000000 in
set_option maxRecDepth 100000 in
theorem Be (a : Nat) (ha : a < 4294967296) (w : World) :
  Calls Tryz.prog 132 #[.int .u32 (a : Int)] w fun e w' => e = .returned (.string (jf a)) ∧ Below w.heap.size w w' := by
 have HA := ak ha
 clear ha
 go_enter Tryz.func132, Tryz.ntmps132
 go_wp2_with (go_at_call 146; refine (Bd a HA.out _).mono ?_; rintro e W0 ⟨rfl, iv⟩)
 go_loopw [3, 8] (fun v i W => ∃ j : Nat, j ≤ 4 ∧ i = .int .i64 j ∧ Aside0 (Kd.R Kd.string 9 W w.heap.size (fun _ => True) v ((fO a).take j)) ∧ Aside0 (Below w.heap.size w W)) (fun _ i _ => 4 - (intOf i).toNat)
 case atStart => exact ⟨0, by omega, rfl, ⟨Kd.R_nil _ _ _ _ _⟩, ⟨iv⟩⟩
 case round =>
  obtain ⟨j, hj, rfl, HO, HB⟩ := hrel
  obtain ⟨W, rfl⟩ : ∃ W : World, W = wr := ⟨_, rfl⟩
  by_cases lC : j < 4
  ·have hjb : decide ((j : Int) < 4) = true := by simp; omega
   have hi : ∀ w, (Instr.index 199 (.agg ((mj a).map (Value.int .u8)).toArray) (.int .i64 (j : Int))).run Tryz.prog w = .ok (.int .u8 (bU a j : Int)) w := fun w => by
    rw [← yn a j lC]
    exact nT (P := Tryz.prog) w 199 5 4 .u8 Tryz.underlying199 Tryz.underlying5 (fun _ => by kernel_rfl) (mj a) rfl j lC
   have HL := ak (show ((fO a).take j).length ≤ 4 by simp [fO]; omega)
   have HF := ak (yF a j lC)
   go_wp2_with (first | (go_at_call 145; refine (Km _ (jW a j) _).mono ?_; rintro e W1 ⟨rfl, aW⟩; have nO := ak (Kd.R_below HO.out aW); have cP := ak (HB.out.trans (aW.mono HB.out.size)); clear aW) | ((with_reducible refine ei (b := .append) (xs := #[.tmp 11, .tmp 14]) rfl ?_); at_builtin; refine Kd.R_append Kd.string (w0 := w) w.heap.size rfl (.tmp 11) (.tmp 14) 197 9 (.string ⟨#[]⟩) 16 rfl Tryz.underlying197 NZ rfl (by decide) (by omega) u3 ((fO a).take j) (eK (bU a j)) [.string (eK (bU a j))] (fun _ => True) (fun _ => False) rfl rfl ?aP (fun _ hk => hk.elim) ?aF ?aO ?aB ?aS ?aL ?_; (case aP => rfl); (case aB => exact cP.out); (case aF => exact (fun _ _ => trivial)); (case aO => exact nO.out); (case aS => exact cP.out.size); (case aL => have := HL.out; omega); intro v1 w1 ho hb hg hat; rw [← HF.out] at ho; have Ja := ak ho; have iw := ak hb; clear ho hb hg hat))
   exact ⟨⟨j + 1, by omega, by go_num, Ja, iw⟩, by simp [intOf]; omega⟩
  ·have hjb : decide ((j : Int) < 4) = false := by simp; omega
   obtain rfl : j = 4 := by omega
   have HJ := ak (show Kd.R Kd.string 9 W w.heap.size (fun _ => True) u3 (fO a) from HO.out)
   go_wp2_with (go_at_call 147; refine (Lj (fO a) ⟨#[46]⟩ W HJ.out (by simp [fO]) (by simp [fO]) (Nat.le_trans (rT a) (by omega))).mono ?_; rintro e W1 ⟨rfl, aW⟩)
   go_ret
   exact ⟨rfl, HB.out.trans (aW.mono HB.out.size)⟩
end Go.Proofs.YtndddnglapkplaaGreatDoor.V
end

section
namespace Go.Proofs.YtndddnglapkplaaGreatDoor.V
def kd (f : Nat → Nat) (j : Nat) : List Value := (List.range 4).map fun i => .int .u8 (if i < j then (f i : Int) else 0)
theorem Fk (f : Nat → Nat) (j : Nat) (hj : j < 4) : (kd f j).set j (.int .u8 (f j : Int)) = kd f (j + 1) := by
 match j, hj with
 | 0, _ => simp [kd, List.range_succ_eq_map]
 | 1, _ => simp [kd, List.range_succ_eq_map]
 | 2, _ => simp [kd, List.range_succ_eq_map]
 | 3, _ => simp [kd, List.range_succ_eq_map]
theorem Bv (s : ByteArray) (w : World) : Calls Tryz.prog 130 #[.string s] w fun e w' => ∃ r : Int × Bool, tp s r ∧ e = .returned (.tuple #[.int .u8 r.1, .bool r.2]) ∧ Below w.heap.size w w' := by
 obtain ⟨r, h1, h2⟩ := NC s 12 (Nat.le_refl _)
 exact (bY.calls 12 s r.1 r.2 w h1).mono fun e w' ⟨h3, h4⟩ => ⟨r, h2, h3, h4⟩
theorem KN (s : ByteArray) (n : Nat) (h : byteOf s.data.toList = some n) (w : World) : Calls Tryz.prog 130 #[.string s] w fun e w' => e = .returned (.tuple #[.int .u8 (n : Int), .bool true]) ∧ Below w.heap.size w w' :=
 (Bv s w).mono fun e w' ⟨r, h1, h2, h3⟩ => ⟨by unfold tp at h1; rw [h] at h1; rw [h2, h1], h3⟩
theorem KO (s : ByteArray) (h : byteOf s.data.toList = none) (w : World) : Calls Tryz.prog 130 #[.string s] w fun e w' => ∃ x, e = .returned (.tuple #[.int .u8 x, .bool false]) ∧ Below w.heap.size w w' :=
 (Bv s w).mono fun e w' ⟨r, h1, h2, h3⟩ => ⟨r.1, by unfold tp at h1; rw [h] at h1; rw [h2, h1], h3⟩
def gj (s : ByteArray) : Int × Int := match kV s.data.toList with
 | some v => ((v : Int), 0)
 | none => (0, 3)
def tv (s : ByteArray) : List ByteArray := Lib.splitB ⟨#[46]⟩ 0 (Lib.countB s ⟨#[46]⟩) s
theorem oP (s : ByteArray) : (tv s).map (·.data.toList) = cutAt 46 s.data.toList := pieces_eq s 46
def eY (s : ByteArray) (i : Nat) : Nat := (byteOf ((tv s).getD i ⟨#[]⟩).data.toList).getD 0
set_option maxHeartbeats 2000000 in
set_option maxRecDepth 100000 in
theorem Ej (s : ByteArray) (hs : s.size < 4294967281) (w : World) :
  Calls Tryz.prog 123 #[.string s] w fun e w' => e = .returned (.tuple #[.int .u32 (gj s).1, .int .i64 (gj s).2]) ∧ Below w.heap.size w w' := by
 obtain ⟨ps, hps⟩ : ∃ ps, tv s = ps := ⟨_, rfl⟩
 have hsp := D8 s 46 w hs
 rw [show Lib.splitB ⟨#[46]⟩ 0 (Lib.countB s ⟨#[46]⟩) s = ps from hps] at hsp
 by_cases h4 : ps.length = 4
 ·have hlen := h4
  have ES : ((ps.length : Int) == 4) = true := by simp; omega
  have HR : Aside0 (∀ i (hi : i < 4), (tv s).getD i ⟨#[]⟩ = ps.getD i ⟨#[]⟩) := ⟨fun i hi => by rw [hps]⟩
  have HP := ak hps
  clear hps
  go_enter Tryz.func123, Tryz.ntmps123
  go_wp2_with (go_at_call 129; refine hsp.mono ?_; rintro e w' ⟨rfl, rfl⟩)
  go_loopw [17] (fun i W => ∃ j : Nat, j ≤ 4 ∧ i = .int .i64 j ∧ Aside0 (bS W (w.heap.size + 1) (kd (eY s) j) 199) ∧ Aside0 (bS W w.heap.size (ps.map Value.string) 9) ∧ Aside0 (∀ i, i < j → byteOf (ps.getD i ⟨#[]⟩).data.toList = some (eY s i)) ∧ Aside0 (Below w.heap.size w W)) (fun i _ => 4 - (intOf i).toNat)
  case atStart => exact ⟨0, by omega, rfl, ⟨by have := heap_alloc_new (w.alloc (.cells (List.map Value.string ps).toArray 9)) (.cells #[Value.int .u8 0, Value.int .u8 0, Value.int .u8 0, Value.int .u8 0] 199); simpa [bS, kd, List.range_succ_eq_map] using this⟩, ⟨bS.alloc (show bS (w.alloc _) w.heap.size (ps.map Value.string) _ from heap_alloc_new w _) _⟩, ⟨fun i hi => by omega⟩, ⟨by repeat (first | apply aa | exact Below.refl _ _)⟩⟩
  case round =>
   obtain ⟨j, hj, rfl, H1, H0, HV, HB⟩ := hrel
   obtain ⟨W, rfl⟩ : ∃ W : World, W = wr := ⟨_, rfl⟩
   by_cases lC : j < 4
   ·have hjb : decide ((j : Int) < 4) = true := by simp; omega
    obtain ⟨p, hp⟩ : ∃ p, ps[j]? = some p := ⟨ps[j]'(by omega), List.getElem?_eq_getElem (by omega)⟩
    have hpc := H0.out.cell j (.string p) (by simp [hp])
    have hc := H1.out.cell j (.int .u8 0) (show (kd (eY s) j)[j]? = some (.int .u8 0) by simp [kd, List.getElem?_map, List.getElem?_range lC])
    have hf := H1.out.frozen j
    have HG := ak (show ps.getD j ⟨#[]⟩ = p by simp [List.getD, hp])
    have HPV := ak (show eY s j = (byteOf p.data.toList).getD 0 by unfold eY; rw [HR.out j lC, HG.out])
    cases hbp : byteOf p.data.toList with
    | none =>
     have HE := ak (show gj s = (0, 3) by
      unfold gj kV
      rw [← oP, HP.out]
      match ps, h4, j, lC, hp with
      | [a, b, c, d], _, 0, _, hp => simp at hp; subst hp; simp [jv, hbp]
      | [a, b, c, d], _, 1, _, hp => simp at hp; subst hp; simp [jv, hbp]
      | [a, b, c, d], _, 2, _, hp => simp at hp; subst hp; simp [jv, hbp]
      | [a, b, c, d], _, 3, _, hp => simp at hp; subst hp; simp [jv, hbp])
     clear hc hf
     go_wp2_with (go_at_call 130; refine (KO p hbp _).mono ?_; rintro e W1 ⟨x, rfl, aW⟩)
     go_ret2
     exact ⟨by rw [HE.out]; rfl, HB.out.trans (aW.mono HB.out.size)⟩
    | some n =>
     have HN : Aside0 (byteOf (ps.getD j ⟨#[]⟩).data.toList = some (eY s j)) := ⟨by rw [HG.out, HPV.out, hbp]; rfl⟩
     have hbq : byteOf p.data.toList = some (eY s j) := by rw [← HG.out]; exact HN.out
     clear hc hf
     go_wp2_with (go_at_call 130; refine (KN p _ hbq _).mono ?_; rintro e W1 ⟨rfl, aW⟩; have Nr := ak (H1.out.below aW); have VW := ak (H0.out.below aW); have cP := ak (HB.out.trans (aW.mono HB.out.size)); have mr := Nr.out.cell j (.int .u8 0) (show (kd (eY s) j)[j]? = some (.int .u8 0) by simp [kd, List.getElem?_map, List.getElem?_range lC]); have zs := Nr.out.frozen j; clear aW)
     exact ⟨⟨j + 1, by omega, by go_num, ⟨by rw [← Fk _ j lC]; exact Nr.out.set j _⟩, ⟨VW.out.far (by simp) _⟩, ⟨fun i hi => by
      by_cases h : i < j
      ·exact HV.out i h
      ·obtain rfl : i = j := by omega
       exact HN.out⟩, ⟨cP.out.setCell (by simp) _⟩⟩, by simp [intOf]; omega⟩
   ·have hjb : decide ((j : Int) < 4) = false := by simp; omega
    obtain rfl : j = 4 := by omega
    have HE : Aside0 (gj s = (((((eY s 0 * 256 + eY s 1) * 256 + eY s 2) * 256 + eY s 3 : Nat) : Int), 0)) := ⟨by
     unfold gj kV
     rw [← oP, HP.out]
     have v0 := HV.out 0 (by omega); have v1 := HV.out 1 (by omega); have v2 := HV.out 2 (by omega); have v3 := HV.out 3 (by omega)
     match ps, h4 with
     | [a, b, c, d], _ => simp at v0 v1 v2 v3; simp [jv, v0, v1, v2, v3]⟩
    have hlt : ∀ i, i < 4 → eY s i < 256 := fun i hi => (eU (HV.out i hi)).1
    go_wp2_with (first | (refine bN rfl 199 (.tmp 5) rfl (w.heap.size + 1) rfl _ _ _ H1.out Tryz.underlying199 rfl 4 (by kernel_rfl) (by simp [kd]) ?_; rw [show (kd (eY s) 4).toArray = #[.int .u8 (eY s 0 : Int), .int .u8 (eY s 1 : Int), .int .u8 (eY s 2 : Int), .int .u8 (eY s 3 : Int)] by simp [kd, List.range_succ_eq_map]]) | (go_at_call 131; refine (Lc _ _ _ _ (hlt 0 (by omega)) (hlt 1 (by omega)) (hlt 2 (by omega)) (hlt 3 (by omega)) _).mono ?_; rintro e W1 ⟨rfl, aW⟩))
    go_ret2
    exact ⟨by rw [HE.out]; rfl, HB.out.trans (aW.mono HB.out.size)⟩
 ·have ES : ((ps.length : Int) == 4) = false := by simp; omega
  have HE := ak (show gj s = (0, 3) by
   unfold gj kV
   rw [← oP, hps]
   match ps, h4 with
   | [], _ => rfl
   | [a], _ => rfl
   | [a, b], _ => rfl
   | [a, b, c], _ => rfl
   | a :: b :: c :: d :: e :: r, _ => rfl)
  go_enter Tryz.func123, Tryz.ntmps123
  go_wp2_with (go_at_call 129; refine hsp.mono ?_; rintro e w' ⟨rfl, rfl⟩)
  go_ret2
  exact ⟨by rw [HE.out]; rfl, aa (Below.refl _ _) _⟩
end Go.Proofs.YtndddnglapkplaaGreatDoor.V
end

section
namespace Go.Proofs.YtndddnglapkplaaGreatDoor.V
def jo.f (a0 : Int) : Option ByteArray := if 0 ≤ a0 ∧ a0 < 4294967296 then some (jf a0.toNat) else none
theorem jo.calls (a0 : Int) (r : ByteArray) (w : World) (h : jo.f a0 = some r) :
  Calls Tryz.prog 132 #[.int .u32 a0] w fun e w' => e = .returned (.string r) ∧ Below w.heap.size w w' := by
 unfold jo.f at h
 split at h
 ·rename_i hr
  obtain ⟨n, rfl⟩ : ∃ n : Nat, a0 = n := ⟨a0.toNat, by omega⟩
  obtain rfl := Option.some.inj h
  exact Be n (by omega) w
 ·cases h
end Go.Proofs.YtndddnglapkplaaGreatDoor.V
end

section
namespace Go.Proofs.YtndddnglapkplaaGreatDoor.V
attribute [local go_sem] bI bG bP bO bw bu bH bF
def aX.l0 : Nat → Int → Int → Option (Int)
 | 0, _, _ => none
 | k + 1, x5, x6 => if x6 < 3 then (aX.l0 k (wrap64 (Int.tdiv x5 256)) (wrap64 (x6 + 1))) else (some (Int.tmod x5 256))
def aX.f (k : Nat) (a0 : Int) (a1 : Int) : Option (Int) := aX.l0 k (wrap64 (a0)) a1
set_option maxHeartbeats 8000000 in
set_option maxRecDepth 100000 in
theorem aX.calls (k : Nat) (a0 : Int) (a1 : Int) (r : Int) (w : World) (h : aX.f k a0 a1 = some r) :
  Calls Tryz.prog 105 #[.int .u32 a0, .int .i64 a1] w fun e w' => e = .returned (.int .i64 r) ∧ Drawn0 w w' := by
 have H : (aX.l0 k (wrap64 (a0)) a1) = some r := h
 clear h
 have H' := ak H
 clear H
 go_enter Tryz.func105, Tryz.ntmps105
 go_wp2
 go_loopg [5, 6] k (fun kq v5 v6 w' => ∃ (fE : Int) (eI : Int), v5 = .int .i64 fE ∧ v6 = .int .i64 eI ∧ Aside0 (aX.l0 kq fE eI = some r) ∧ Aside0 (kq ≤ k) ∧ Drawn0 w w')
 case atStart => exact ⟨(wrap64 (a0)), (a1), (by first | rfl | (simp; done) | (simp [*]; done)), (by first | rfl | (simp; done) | (simp [*]; done)), H', ⟨Nat.le_refl _⟩, by repeat (first | exact Drawn0.refl _ | apply Drawn0.step)⟩
 case round =>
  clear H'
  obtain ⟨fE, eI, rfl, rfl, HA, cC, ⟨m1, rfl⟩⟩ := hrel
  cases gk with
  | zero => exact absurd HA.out (by simp [aX.l0])
  | succ k1 =>
   have H := HA.out
   clear HA
   simp only [aX.l0] at H
   by_cases c3 : eI < 3
   ·rw [if_pos c3] at H
    have gw : decide (eI < 3) = true := decide_eq_true c3
    clear c3
    have H' := ak H
    clear H
    go_wp2
    go_roundg k1
    case measure => have := cC.out; omega
    case rel => exact ⟨(wrap64 (Int.tdiv fE 256)), (wrap64 (eI + 1)), (by first | rfl | (simp; done) | (simp [*]; done)), (by first | rfl | (simp; done) | (simp [*]; done)), H', ⟨by have := cC.out; omega⟩, by repeat (first | exact Drawn0.refl _ | apply Drawn0.step)⟩
   ·rw [if_neg c3] at H
    have gw : decide (eI < 3) = false := decide_eq_false c3
    clear c3
    obtain rfl := Option.some.inj H
    go_wp2
    go_ret
    exact ⟨by first | rfl | (simp; done) | (simp [*]; done), by repeat (first | exact Drawn0.refl _ | apply Drawn0.step)⟩
end Go.Proofs.YtndddnglapkplaaGreatDoor.V
end

