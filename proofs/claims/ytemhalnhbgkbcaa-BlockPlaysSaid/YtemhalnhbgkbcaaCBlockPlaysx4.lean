/- The law BlockPlays for every input: texts of ours, put together (part 5 of 17). No further condition. -/
import Derived.Test.YtemhalnhbgkbcaaCBlockPlaysx2
import Derived.Test.YtemhalnhbgkbcaaCBlockPlaysx3
import Derived.Laws.RangeAny
import Derived.Outline
import Derived.WalkSpells
set_option linter.unusedVariables false
set_option linter.unusedSimpArgs false
open Go.RowKit Go.Proofs.YtemhalnhbgkbcaaW.PrintWords Go.Proofs.YtemhalnhbgkbcaaW.PrintLast Go.Proofs.YtemhalnhbgkbcaaW.PrintMore Go.Proofs.Ytemhalnhbgkbcaa.Z
section
namespace Go.Proofs.Ytemhalnhbgkbcaa.V
attribute [local go_sem] dA dy ed ec cP cN dz dx
def aw.l0 : Nat → ByteArray → Int → Option (Bool)
 | 0, _, _ => none
 | k + 1, x0, x3 => if x3 < (x0.size : Int) then (if 0 ≤ x3 then (if (bt x0 x3) ≥ 97 then (if (bt x0 x3) ≤ 122 then (aw.l0 k x0 (wrap64 (x3 + 1))) else (if (bt x0 x3) ≥ 65 then (if (bt x0 x3) ≤ 90 then (aw.l0 k x0 (wrap64 (x3 + 1))) else (if (bt x0 x3) ≥ 48 then (if (bt x0 x3) ≤ 57 then (aw.l0 k x0 (wrap64 (x3 + 1))) else (if (bt x0 x3) = 46 then (aw.l0 k x0 (wrap64 (x3 + 1))) else (if (bt x0 x3) = 45 then (aw.l0 k x0 (wrap64 (x3 + 1))) else (if ((bt x0 x3) = 95) then (aw.l0 k x0 (wrap64 (x3 + 1))) else (some false))))) else (if (bt x0 x3) = 46 then (aw.l0 k x0 (wrap64 (x3 + 1))) else (if (bt x0 x3) = 45 then (aw.l0 k x0 (wrap64 (x3 + 1))) else (if ((bt x0 x3) = 95) then (aw.l0 k x0 (wrap64 (x3 + 1))) else (some false)))))) else (if (bt x0 x3) ≥ 48 then (if (bt x0 x3) ≤ 57 then (aw.l0 k x0 (wrap64 (x3 + 1))) else (if (bt x0 x3) = 46 then (aw.l0 k x0 (wrap64 (x3 + 1))) else (if (bt x0 x3) = 45 then (aw.l0 k x0 (wrap64 (x3 + 1))) else (if ((bt x0 x3) = 95) then (aw.l0 k x0 (wrap64 (x3 + 1))) else (some false))))) else (if (bt x0 x3) = 46 then (aw.l0 k x0 (wrap64 (x3 + 1))) else (if (bt x0 x3) = 45 then (aw.l0 k x0 (wrap64 (x3 + 1))) else (if ((bt x0 x3) = 95) then (aw.l0 k x0 (wrap64 (x3 + 1))) else (some false))))))) else (if (bt x0 x3) ≥ 65 then (if (bt x0 x3) ≤ 90 then (aw.l0 k x0 (wrap64 (x3 + 1))) else (if (bt x0 x3) ≥ 48 then (if (bt x0 x3) ≤ 57 then (aw.l0 k x0 (wrap64 (x3 + 1))) else (if (bt x0 x3) = 46 then (aw.l0 k x0 (wrap64 (x3 + 1))) else (if (bt x0 x3) = 45 then (aw.l0 k x0 (wrap64 (x3 + 1))) else (if ((bt x0 x3) = 95) then (aw.l0 k x0 (wrap64 (x3 + 1))) else (some false))))) else (if (bt x0 x3) = 46 then (aw.l0 k x0 (wrap64 (x3 + 1))) else (if (bt x0 x3) = 45 then (aw.l0 k x0 (wrap64 (x3 + 1))) else (if ((bt x0 x3) = 95) then (aw.l0 k x0 (wrap64 (x3 + 1))) else (some false)))))) else (if (bt x0 x3) ≥ 48 then (if (bt x0 x3) ≤ 57 then (aw.l0 k x0 (wrap64 (x3 + 1))) else (if (bt x0 x3) = 46 then (aw.l0 k x0 (wrap64 (x3 + 1))) else (if (bt x0 x3) = 45 then (aw.l0 k x0 (wrap64 (x3 + 1))) else (if ((bt x0 x3) = 95) then (aw.l0 k x0 (wrap64 (x3 + 1))) else (some false))))) else (if (bt x0 x3) = 46 then (aw.l0 k x0 (wrap64 (x3 + 1))) else (if (bt x0 x3) = 45 then (aw.l0 k x0 (wrap64 (x3 + 1))) else (if ((bt x0 x3) = 95) then (aw.l0 k x0 (wrap64 (x3 + 1))) else (some false))))))) else (none)) else (if (x0.size : Int) ≥ 1 then (some (decide ((x0.size : Int) ≤ 64))) else (some false))
def aw.f (k : Nat) (a0 : ByteArray) : Option (Bool) := aw.l0 k a0 0
theorem aw.mono_l : ∀ k, (∀ y0 y1, aC (aw.l0 k y0 y1) (aw.l0 (k + 1) y0 y1))
 | 0 => fun _ _ r h => by simp [aw.l0] at h
 | k + 1 => by
  have cE := aw.mono_l k
  ·intro y0 y1
   unfold aw.l0
   repeat' first
   | (with_reducible exact cE _ _)
   | (with_reducible exact aC.refl _)
   | (with_reducible exact aC.none _)
   | (with_reducible refine aC.ite ?_ ?_)
   | (with_reducible refine aC.bind ?_ (fun _ => ?_))
   | exact cE _ _
   | exact aC.none _
   | refine aC.ite ?_ ?_
   | refine aC.bind ?_ (fun _ => ?_)
theorem aw.mono : ∀ a0 k, aC (aw.f k a0) (aw.f (k + 1) a0) := by
 intro a0 k
 have cE := aw.mono_l k
 unfold aw.f
 repeat' first
   | (with_reducible exact cE _ _)
   | (with_reducible exact aC.refl _)
   | (with_reducible exact aC.none _)
   | (with_reducible refine aC.ite ?_ ?_)
   | (with_reducible refine aC.bind ?_ (fun _ => ?_))
   | exact cE _ _
   | exact aC.none _
   | refine aC.ite ?_ ?_
   | refine aC.bind ?_ (fun _ => ?_)
set_option maxHeartbeats 8000000 in
set_option maxRecDepth 100000 in
theorem aw.calls (k : Nat) (a0 : ByteArray) (r : Bool) (w : World) (h : aw.f k a0 = some r) :
  Calls Try.prog 81 #[.string a0] w fun e w' => e = .returned (.bool r) ∧ Drawn0 w w' := by
 have H : (aw.l0 k a0 0) = some r := h
 clear h
 have H' := ak H
 clear H
 go_enter Try.func81, Try.ntmps81
 go_wp2
 go_loopg [3] k (fun kq v3 w' => ∃ (av : Int), v3 = .int .i64 av ∧ Aside0 (aw.l0 kq a0 av = some r) ∧ Aside0 (kq ≤ k) ∧ Drawn0 w w')
 case atStart => exact ⟨(0), (by first | rfl | (simp; done) | (simp [*]; done)), H', ⟨Nat.le_refl _⟩, by repeat (first | exact Drawn0.refl _ | apply Drawn0.step)⟩
 case round =>
  clear H'
  obtain ⟨av, rfl, HA, dq, ⟨m1, rfl⟩⟩ := hrel
  cases gk with
  | zero => exact absurd HA.out (by simp [aw.l0])
  | succ k1 =>
   have H := HA.out
   clear HA
   simp only [aw.l0] at H
   by_cases c2 : av < (a0.size : Int)
   ·rw [if_pos c2] at H
    have lW : decide (av < (a0.size : Int)) = true := decide_eq_true c2
    clear c2
    by_cases c3 : 0 ≤ av
    ·rw [if_pos c3] at H
     have kT : decide (0 ≤ av) = true := decide_eq_true c3
     clear c3
     by_cases c5 : (bt a0 av) ≥ 97
     ·rw [if_pos c5] at H
      have zb : decide (97 ≤ (bt a0 av)) = true := decide_eq_true c5
      clear c5
      by_cases c6 : (bt a0 av) ≤ 122
      ·rw [if_pos c6] at H
       have oK : decide ((bt a0 av) ≤ 122) = true := decide_eq_true c6
       clear c6
       have H' := ak H
       clear H
       have p4 : 0 ≤ (av : Int) := of_decide_eq_true (by first | (with_reducible assumption) | assumption)
       have q4 : av < (a0.size : Int) := of_decide_eq_true (by first | (with_reducible assumption) | assumption)
       have jq := fz a0 av
       replace p4 := eq_true p4
       replace q4 := eq_true q4
       go_wp2
       go_roundg k1
       case measure => have := dq.out; omega
       case rel => exact ⟨(wrap64 (av + 1)), (by first | rfl | (simp; done) | (simp [*]; done)), H', ⟨by have := dq.out; omega⟩, by repeat (first | exact Drawn0.refl _ | apply Drawn0.step)⟩
      ·rw [if_neg c6] at H
       have oK : decide ((bt a0 av) ≤ 122) = false := decide_eq_false c6
       clear c6
       by_cases c7 : (bt a0 av) ≥ 65
       ·rw [if_pos c7] at H
        have lh : decide (65 ≤ (bt a0 av)) = true := decide_eq_true c7
        clear c7
        by_cases c8 : (bt a0 av) ≤ 90
        ·rw [if_pos c8] at H
         have sK : decide ((bt a0 av) ≤ 90) = true := decide_eq_true c8
         clear c8
         have H' := ak H
         clear H
         have p4 : 0 ≤ (av : Int) := of_decide_eq_true (by first | (with_reducible assumption) | assumption)
         have q4 : av < (a0.size : Int) := of_decide_eq_true (by first | (with_reducible assumption) | assumption)
         have jq := fz a0 av
         replace p4 := eq_true p4
         replace q4 := eq_true q4
         go_wp2
         go_roundg k1
         case measure => have := dq.out; omega
         case rel => exact ⟨(wrap64 (av + 1)), (by first | rfl | (simp; done) | (simp [*]; done)), H', ⟨by have := dq.out; omega⟩, by repeat (first | exact Drawn0.refl _ | apply Drawn0.step)⟩
        ·rw [if_neg c8] at H
         have sK : decide ((bt a0 av) ≤ 90) = false := decide_eq_false c8
         clear c8
         by_cases c9 : (bt a0 av) ≥ 48
         ·rw [if_pos c9] at H
          have EF : decide (48 ≤ (bt a0 av)) = true := decide_eq_true c9
          clear c9
          by_cases c10 : (bt a0 av) ≤ 57
          ·rw [if_pos c10] at H
           have Hz : decide ((bt a0 av) ≤ 57) = true := decide_eq_true c10
           clear c10
           have H' := ak H
           clear H
           have p4 : 0 ≤ (av : Int) := of_decide_eq_true (by first | (with_reducible assumption) | assumption)
           have q4 : av < (a0.size : Int) := of_decide_eq_true (by first | (with_reducible assumption) | assumption)
           have jq := fz a0 av
           replace p4 := eq_true p4
           replace q4 := eq_true q4
           go_wp2
           go_roundg k1
           case measure => have := dq.out; omega
           case rel => exact ⟨(wrap64 (av + 1)), (by first | rfl | (simp; done) | (simp [*]; done)), H', ⟨by have := dq.out; omega⟩, by repeat (first | exact Drawn0.refl _ | apply Drawn0.step)⟩
          ·rw [if_neg c10] at H
           have Hz : decide ((bt a0 av) ≤ 57) = false := decide_eq_false c10
           clear c10
           by_cases l7 : (bt a0 av) = 46
           ·rw [if_pos l7] at H
            have zO : ((bt a0 av) == 46) = true := beq_iff_eq.mpr l7
            have C8 : ((bt a0 av) != 46) = false := bne_eq_false_iff_eq.mpr l7
            clear l7
            have H' := ak H
            clear H
            have p4 : 0 ≤ (av : Int) := of_decide_eq_true (by first | (with_reducible assumption) | assumption)
            have q4 : av < (a0.size : Int) := of_decide_eq_true (by first | (with_reducible assumption) | assumption)
            have jq := fz a0 av
            replace p4 := eq_true p4
            replace q4 := eq_true q4
            go_wp2
            go_roundg k1
            case measure => have := dq.out; omega
            case rel => exact ⟨(wrap64 (av + 1)), (by first | rfl | (simp; done) | (simp [*]; done)), H', ⟨by have := dq.out; omega⟩, by repeat (first | exact Drawn0.refl _ | apply Drawn0.step)⟩
           ·rw [if_neg l7] at H
            have zO : ((bt a0 av) == 46) = false := beq_eq_false_iff_ne.mpr l7
            have C8 : ((bt a0 av) != 46) = true := bne_iff_ne.mpr l7
            by_cases mC : (bt a0 av) = 45
            ·rw [if_pos mC] at H
             have C7 : ((bt a0 av) == 45) = true := beq_iff_eq.mpr mC
             have Hy : ((bt a0 av) != 45) = false := bne_eq_false_iff_eq.mpr mC
             clear mC
             have H' := ak H
             clear H
             have p4 : 0 ≤ (av : Int) := of_decide_eq_true (by first | (with_reducible assumption) | assumption)
             have q4 : av < (a0.size : Int) := of_decide_eq_true (by first | (with_reducible assumption) | assumption)
             have jq := fz a0 av
             replace p4 := eq_true p4
             replace q4 := eq_true q4
             go_wp2
             go_roundg k1
             case measure => have := dq.out; omega
             case rel => exact ⟨(wrap64 (av + 1)), (by first | rfl | (simp; done) | (simp [*]; done)), H', ⟨by have := dq.out; omega⟩, by repeat (first | exact Drawn0.refl _ | apply Drawn0.step)⟩
            ·rw [if_neg mC] at H
             have C7 : ((bt a0 av) == 45) = false := beq_eq_false_iff_ne.mpr mC
             have Hy : ((bt a0 av) != 45) = true := bne_iff_ne.mpr mC
             by_cases oY : ((bt a0 av) = 95)
             ·rw [if_pos oY] at H
              have Hx : ((bt a0 av) == 95) = true := beq_iff_eq.mpr oY
              have Hw : ((bt a0 av) != 95) = false := bne_eq_false_iff_eq.mpr oY
              clear oY
              have H' := ak H
              clear H
              have p4 : 0 ≤ (av : Int) := of_decide_eq_true (by first | (with_reducible assumption) | assumption)
              have q4 : av < (a0.size : Int) := of_decide_eq_true (by first | (with_reducible assumption) | assumption)
              have jq := fz a0 av
              replace p4 := eq_true p4
              replace q4 := eq_true q4
              go_wp2
              go_roundg k1
              case measure => have := dq.out; omega
              case rel => exact ⟨(wrap64 (av + 1)), (by first | rfl | (simp; done) | (simp [*]; done)), H', ⟨by have := dq.out; omega⟩, by repeat (first | exact Drawn0.refl _ | apply Drawn0.step)⟩
             ·rw [if_neg oY] at H
              have Hx : ((bt a0 av) == 95) = false := beq_eq_false_iff_ne.mpr oY
              have Hw : ((bt a0 av) != 95) = true := bne_iff_ne.mpr oY
              obtain rfl := Option.some.inj H
              have p4 : 0 ≤ (av : Int) := of_decide_eq_true (by first | (with_reducible assumption) | assumption)
              have q4 : av < (a0.size : Int) := of_decide_eq_true (by first | (with_reducible assumption) | assumption)
              have jq := fz a0 av
              replace p4 := eq_true p4
              replace q4 := eq_true q4
              go_wp2
              go_ret
              exact ⟨by first | rfl | (simp; done) | (simp [*]; done), by repeat (first | exact Drawn0.refl _ | apply Drawn0.step)⟩
         ·rw [if_neg c9] at H
          have EF : decide (48 ≤ (bt a0 av)) = false := decide_eq_false c9
          clear c9
          by_cases tt : (bt a0 av) = 46
          ·rw [if_pos tt] at H
           have Hv : ((bt a0 av) == 46) = true := beq_iff_eq.mpr tt
           have Tk : ((bt a0 av) != 46) = false := bne_eq_false_iff_eq.mpr tt
           clear tt
           have H' := ak H
           clear H
           have p4 : 0 ≤ (av : Int) := of_decide_eq_true (by first | (with_reducible assumption) | assumption)
           have q4 : av < (a0.size : Int) := of_decide_eq_true (by first | (with_reducible assumption) | assumption)
           have jq := fz a0 av
           replace p4 := eq_true p4
           replace q4 := eq_true q4
           go_wp2
           go_roundg k1
           case measure => have := dq.out; omega
           case rel => exact ⟨(wrap64 (av + 1)), (by first | rfl | (simp; done) | (simp [*]; done)), H', ⟨by have := dq.out; omega⟩, by repeat (first | exact Drawn0.refl _ | apply Drawn0.step)⟩
          ·rw [if_neg tt] at H
           have Hv : ((bt a0 av) == 46) = false := beq_eq_false_iff_ne.mpr tt
           have Tk : ((bt a0 av) != 46) = true := bne_iff_ne.mpr tt
           by_cases wO : (bt a0 av) = 45
           ·rw [if_pos wO] at H
            have LM : ((bt a0 av) == 45) = true := beq_iff_eq.mpr wO
            have Tj : ((bt a0 av) != 45) = false := bne_eq_false_iff_eq.mpr wO
            clear wO
            have H' := ak H
            clear H
            have p4 : 0 ≤ (av : Int) := of_decide_eq_true (by first | (with_reducible assumption) | assumption)
            have q4 : av < (a0.size : Int) := of_decide_eq_true (by first | (with_reducible assumption) | assumption)
            have jq := fz a0 av
            replace p4 := eq_true p4
            replace q4 := eq_true q4
            go_wp2
            go_roundg k1
            case measure => have := dq.out; omega
            case rel => exact ⟨(wrap64 (av + 1)), (by first | rfl | (simp; done) | (simp [*]; done)), H', ⟨by have := dq.out; omega⟩, by repeat (first | exact Drawn0.refl _ | apply Drawn0.step)⟩
           ·rw [if_neg wO] at H
            have LM : ((bt a0 av) == 45) = false := beq_eq_false_iff_ne.mpr wO
            have Tj : ((bt a0 av) != 45) = true := bne_iff_ne.mpr wO
            by_cases wN : ((bt a0 av) = 95)
            ·rw [if_pos wN] at H
             have LL : ((bt a0 av) == 95) = true := beq_iff_eq.mpr wN
             have Ti : ((bt a0 av) != 95) = false := bne_eq_false_iff_eq.mpr wN
             clear wN
             have H' := ak H
             clear H
             have p4 : 0 ≤ (av : Int) := of_decide_eq_true (by first | (with_reducible assumption) | assumption)
             have q4 : av < (a0.size : Int) := of_decide_eq_true (by first | (with_reducible assumption) | assumption)
             have jq := fz a0 av
             replace p4 := eq_true p4
             replace q4 := eq_true q4
             go_wp2
             go_roundg k1
             case measure => have := dq.out; omega
             case rel => exact ⟨(wrap64 (av + 1)), (by first | rfl | (simp; done) | (simp [*]; done)), H', ⟨by have := dq.out; omega⟩, by repeat (first | exact Drawn0.refl _ | apply Drawn0.step)⟩
            ·rw [if_neg wN] at H
             have LL : ((bt a0 av) == 95) = false := beq_eq_false_iff_ne.mpr wN
             have Ti : ((bt a0 av) != 95) = true := bne_iff_ne.mpr wN
             obtain rfl := Option.some.inj H
             have p4 : 0 ≤ (av : Int) := of_decide_eq_true (by first | (with_reducible assumption) | assumption)
             have q4 : av < (a0.size : Int) := of_decide_eq_true (by first | (with_reducible assumption) | assumption)
             have jq := fz a0 av
             replace p4 := eq_true p4
             replace q4 := eq_true q4
             go_wp2
             go_ret
             exact ⟨by first | rfl | (simp; done) | (simp [*]; done), by repeat (first | exact Drawn0.refl _ | apply Drawn0.step)⟩
       ·rw [if_neg c7] at H
        have lh : decide (65 ≤ (bt a0 av)) = false := decide_eq_false c7
        clear c7
        by_cases xE : (bt a0 av) ≥ 48
        ·rw [if_pos xE] at H
         have LK : decide (48 ≤ (bt a0 av)) = true := decide_eq_true xE
         clear xE
         by_cases xD : (bt a0 av) ≤ 57
         ·rw [if_pos xD] at H
          have LJ : decide ((bt a0 av) ≤ 57) = true := decide_eq_true xD
          clear xD
          have H' := ak H
          clear H
          have p4 : 0 ≤ (av : Int) := of_decide_eq_true (by first | (with_reducible assumption) | assumption)
          have q4 : av < (a0.size : Int) := of_decide_eq_true (by first | (with_reducible assumption) | assumption)
          have jq := fz a0 av
          replace p4 := eq_true p4
          replace q4 := eq_true q4
          go_wp2
          go_roundg k1
          case measure => have := dq.out; omega
          case rel => exact ⟨(wrap64 (av + 1)), (by first | rfl | (simp; done) | (simp [*]; done)), H', ⟨by have := dq.out; omega⟩, by repeat (first | exact Drawn0.refl _ | apply Drawn0.step)⟩
         ·rw [if_neg xD] at H
          have LJ : decide ((bt a0 av) ≤ 57) = false := decide_eq_false xD
          clear xD
          by_cases EV : (bt a0 av) = 46
          ·rw [if_pos EV] at H
           have Th : ((bt a0 av) == 46) = true := beq_iff_eq.mpr EV
           have Tg : ((bt a0 av) != 46) = false := bne_eq_false_iff_eq.mpr EV
           clear EV
           have H' := ak H
           clear H
           have p4 : 0 ≤ (av : Int) := of_decide_eq_true (by first | (with_reducible assumption) | assumption)
           have q4 : av < (a0.size : Int) := of_decide_eq_true (by first | (with_reducible assumption) | assumption)
           have jq := fz a0 av
           replace p4 := eq_true p4
           replace q4 := eq_true q4
           go_wp2
           go_roundg k1
           case measure => have := dq.out; omega
           case rel => exact ⟨(wrap64 (av + 1)), (by first | rfl | (simp; done) | (simp [*]; done)), H', ⟨by have := dq.out; omega⟩, by repeat (first | exact Drawn0.refl _ | apply Drawn0.step)⟩
          ·rw [if_neg EV] at H
           have Th : ((bt a0 av) == 46) = false := beq_eq_false_iff_ne.mpr EV
           have Tg : ((bt a0 av) != 46) = true := bne_iff_ne.mpr EV
           by_cases EU : (bt a0 av) = 45
           ·rw [if_pos EU] at H
            have Tf : ((bt a0 av) == 45) = true := beq_iff_eq.mpr EU
            have Te : ((bt a0 av) != 45) = false := bne_eq_false_iff_eq.mpr EU
            clear EU
            have H' := ak H
            clear H
            have p4 : 0 ≤ (av : Int) := of_decide_eq_true (by first | (with_reducible assumption) | assumption)
            have q4 : av < (a0.size : Int) := of_decide_eq_true (by first | (with_reducible assumption) | assumption)
            have jq := fz a0 av
            replace p4 := eq_true p4
            replace q4 := eq_true q4
            go_wp2
            go_roundg k1
            case measure => have := dq.out; omega
            case rel => exact ⟨(wrap64 (av + 1)), (by first | rfl | (simp; done) | (simp [*]; done)), H', ⟨by have := dq.out; omega⟩, by repeat (first | exact Drawn0.refl _ | apply Drawn0.step)⟩
           ·rw [if_neg EU] at H
            have Tf : ((bt a0 av) == 45) = false := beq_eq_false_iff_ne.mpr EU
            have Te : ((bt a0 av) != 45) = true := bne_iff_ne.mpr EU
            by_cases ET : ((bt a0 av) = 95)
            ·rw [if_pos ET] at H
             have Td : ((bt a0 av) == 95) = true := beq_iff_eq.mpr ET
             have Tc : ((bt a0 av) != 95) = false := bne_eq_false_iff_eq.mpr ET
             clear ET
             have H' := ak H
             clear H
             have p4 : 0 ≤ (av : Int) := of_decide_eq_true (by first | (with_reducible assumption) | assumption)
             have q4 : av < (a0.size : Int) := of_decide_eq_true (by first | (with_reducible assumption) | assumption)
             have jq := fz a0 av
             replace p4 := eq_true p4
             replace q4 := eq_true q4
             go_wp2
             go_roundg k1
             case measure => have := dq.out; omega
             case rel => exact ⟨(wrap64 (av + 1)), (by first | rfl | (simp; done) | (simp [*]; done)), H', ⟨by have := dq.out; omega⟩, by repeat (first | exact Drawn0.refl _ | apply Drawn0.step)⟩
            ·rw [if_neg ET] at H
             have Td : ((bt a0 av) == 95) = false := beq_eq_false_iff_ne.mpr ET
             have Tc : ((bt a0 av) != 95) = true := bne_iff_ne.mpr ET
             obtain rfl := Option.some.inj H
             have p4 : 0 ≤ (av : Int) := of_decide_eq_true (by first | (with_reducible assumption) | assumption)
             have q4 : av < (a0.size : Int) := of_decide_eq_true (by first | (with_reducible assumption) | assumption)
             have jq := fz a0 av
             replace p4 := eq_true p4
             replace q4 := eq_true q4
             go_wp2
             go_ret
             exact ⟨by first | rfl | (simp; done) | (simp [*]; done), by repeat (first | exact Drawn0.refl _ | apply Drawn0.step)⟩
        ·rw [if_neg xE] at H
         have LK : decide (48 ≤ (bt a0 av)) = false := decide_eq_false xE
         clear xE
         by_cases wM : (bt a0 av) = 46
         ·rw [if_pos wM] at H
          have Tb : ((bt a0 av) == 46) = true := beq_iff_eq.mpr wM
          have Ta : ((bt a0 av) != 46) = false := bne_eq_false_iff_eq.mpr wM
          clear wM
          have H' := ak H
          clear H
          have p4 : 0 ≤ (av : Int) := of_decide_eq_true (by first | (with_reducible assumption) | assumption)
          have q4 : av < (a0.size : Int) := of_decide_eq_true (by first | (with_reducible assumption) | assumption)
          have jq := fz a0 av
          replace p4 := eq_true p4
          replace q4 := eq_true q4
          go_wp2
          go_roundg k1
          case measure => have := dq.out; omega
          case rel => exact ⟨(wrap64 (av + 1)), (by first | rfl | (simp; done) | (simp [*]; done)), H', ⟨by have := dq.out; omega⟩, by repeat (first | exact Drawn0.refl _ | apply Drawn0.step)⟩
         ·rw [if_neg wM] at H
          have Tb : ((bt a0 av) == 46) = false := beq_eq_false_iff_ne.mpr wM
          have Ta : ((bt a0 av) != 46) = true := bne_iff_ne.mpr wM
          by_cases ES : (bt a0 av) = 45
          ·rw [if_pos ES] at H
           have S9 : ((bt a0 av) == 45) = true := beq_iff_eq.mpr ES
           have S8 : ((bt a0 av) != 45) = false := bne_eq_false_iff_eq.mpr ES
           clear ES
           have H' := ak H
           clear H
           have p4 : 0 ≤ (av : Int) := of_decide_eq_true (by first | (with_reducible assumption) | assumption)
           have q4 : av < (a0.size : Int) := of_decide_eq_true (by first | (with_reducible assumption) | assumption)
           have jq := fz a0 av
           replace p4 := eq_true p4
           replace q4 := eq_true q4
           go_wp2
           go_roundg k1
           case measure => have := dq.out; omega
           case rel => exact ⟨(wrap64 (av + 1)), (by first | rfl | (simp; done) | (simp [*]; done)), H', ⟨by have := dq.out; omega⟩, by repeat (first | exact Drawn0.refl _ | apply Drawn0.step)⟩
          ·rw [if_neg ES] at H
           have S9 : ((bt a0 av) == 45) = false := beq_eq_false_iff_ne.mpr ES
           have S8 : ((bt a0 av) != 45) = true := bne_iff_ne.mpr ES
           by_cases ER : ((bt a0 av) = 95)
           ·rw [if_pos ER] at H
            have S6 : ((bt a0 av) == 95) = true := beq_iff_eq.mpr ER
            have S5 : ((bt a0 av) != 95) = false := bne_eq_false_iff_eq.mpr ER
            clear ER
            have H' := ak H
            clear H
            have p4 : 0 ≤ (av : Int) := of_decide_eq_true (by first | (with_reducible assumption) | assumption)
            have q4 : av < (a0.size : Int) := of_decide_eq_true (by first | (with_reducible assumption) | assumption)
            have jq := fz a0 av
            replace p4 := eq_true p4
            replace q4 := eq_true q4
            go_wp2
            go_roundg k1
            case measure => have := dq.out; omega
            case rel => exact ⟨(wrap64 (av + 1)), (by first | rfl | (simp; done) | (simp [*]; done)), H', ⟨by have := dq.out; omega⟩, by repeat (first | exact Drawn0.refl _ | apply Drawn0.step)⟩
           ·rw [if_neg ER] at H
            have S6 : ((bt a0 av) == 95) = false := beq_eq_false_iff_ne.mpr ER
            have S5 : ((bt a0 av) != 95) = true := bne_iff_ne.mpr ER
            obtain rfl := Option.some.inj H
            have p4 : 0 ≤ (av : Int) := of_decide_eq_true (by first | (with_reducible assumption) | assumption)
            have q4 : av < (a0.size : Int) := of_decide_eq_true (by first | (with_reducible assumption) | assumption)
            have jq := fz a0 av
            replace p4 := eq_true p4
            replace q4 := eq_true q4
            go_wp2
            go_ret
            exact ⟨by first | rfl | (simp; done) | (simp [*]; done), by repeat (first | exact Drawn0.refl _ | apply Drawn0.step)⟩
     ·rw [if_neg c5] at H
      have zb : decide (97 ≤ (bt a0 av)) = false := decide_eq_false c5
      clear c5
      by_cases Gs : (bt a0 av) ≥ 65
      ·rw [if_pos Gs] at H
       have S4 : decide (65 ≤ (bt a0 av)) = true := decide_eq_true Gs
       clear Gs
       by_cases Gr : (bt a0 av) ≤ 90
       ·rw [if_pos Gr] at H
        have S3 : decide ((bt a0 av) ≤ 90) = true := decide_eq_true Gr
        clear Gr
        have H' := ak H
        clear H
        have p4 : 0 ≤ (av : Int) := of_decide_eq_true (by first | (with_reducible assumption) | assumption)
        have q4 : av < (a0.size : Int) := of_decide_eq_true (by first | (with_reducible assumption) | assumption)
        have jq := fz a0 av
        replace p4 := eq_true p4
        replace q4 := eq_true q4
        go_wp2
        go_roundg k1
        case measure => have := dq.out; omega
        case rel => exact ⟨(wrap64 (av + 1)), (by first | rfl | (simp; done) | (simp [*]; done)), H', ⟨by have := dq.out; omega⟩, by repeat (first | exact Drawn0.refl _ | apply Drawn0.step)⟩
       ·rw [if_neg Gr] at H
        have S3 : decide ((bt a0 av) ≤ 90) = false := decide_eq_false Gr
        clear Gr
        by_cases Gq : (bt a0 av) ≥ 48
        ·rw [if_pos Gq] at H
         have S1 : decide (48 ≤ (bt a0 av)) = true := decide_eq_true Gq
         clear Gq
         by_cases Gp : (bt a0 av) ≤ 57
         ·rw [if_pos Gp] at H
          have S0 : decide ((bt a0 av) ≤ 57) = true := decide_eq_true Gp
          clear Gp
          have H' := ak H
          clear H
          have p4 : 0 ≤ (av : Int) := of_decide_eq_true (by first | (with_reducible assumption) | assumption)
          have q4 : av < (a0.size : Int) := of_decide_eq_true (by first | (with_reducible assumption) | assumption)
          have jq := fz a0 av
          replace p4 := eq_true p4
          replace q4 := eq_true q4
          go_wp2
          go_roundg k1
          case measure => have := dq.out; omega
          case rel => exact ⟨(wrap64 (av + 1)), (by first | rfl | (simp; done) | (simp [*]; done)), H', ⟨by have := dq.out; omega⟩, by repeat (first | exact Drawn0.refl _ | apply Drawn0.step)⟩
         ·rw [if_neg Gp] at H
          have S0 : decide ((bt a0 av) ≤ 57) = false := decide_eq_false Gp
          clear Gp
          by_cases EP : (bt a0 av) = 46
          ·rw [if_pos EP] at H
           have SZ : ((bt a0 av) == 46) = true := beq_iff_eq.mpr EP
           have SY : ((bt a0 av) != 46) = false := bne_eq_false_iff_eq.mpr EP
           clear EP
           have H' := ak H
           clear H
           have p4 : 0 ≤ (av : Int) := of_decide_eq_true (by first | (with_reducible assumption) | assumption)
           have q4 : av < (a0.size : Int) := of_decide_eq_true (by first | (with_reducible assumption) | assumption)
           have jq := fz a0 av
           replace p4 := eq_true p4
           replace q4 := eq_true q4
           go_wp2
           go_roundg k1
           case measure => have := dq.out; omega
           case rel => exact ⟨(wrap64 (av + 1)), (by first | rfl | (simp; done) | (simp [*]; done)), H', ⟨by have := dq.out; omega⟩, by repeat (first | exact Drawn0.refl _ | apply Drawn0.step)⟩
          ·rw [if_neg EP] at H
           have SZ : ((bt a0 av) == 46) = false := beq_eq_false_iff_ne.mpr EP
           have SY : ((bt a0 av) != 46) = true := bne_iff_ne.mpr EP
           by_cases EO : (bt a0 av) = 45
           ·rw [if_pos EO] at H
            have SX : ((bt a0 av) == 45) = true := beq_iff_eq.mpr EO
            have SW : ((bt a0 av) != 45) = false := bne_eq_false_iff_eq.mpr EO
            clear EO
            have H' := ak H
            clear H
            have p4 : 0 ≤ (av : Int) := of_decide_eq_true (by first | (with_reducible assumption) | assumption)
            have q4 : av < (a0.size : Int) := of_decide_eq_true (by first | (with_reducible assumption) | assumption)
            have jq := fz a0 av
            replace p4 := eq_true p4
            replace q4 := eq_true q4
            go_wp2
            go_roundg k1
            case measure => have := dq.out; omega
            case rel => exact ⟨(wrap64 (av + 1)), (by first | rfl | (simp; done) | (simp [*]; done)), H', ⟨by have := dq.out; omega⟩, by repeat (first | exact Drawn0.refl _ | apply Drawn0.step)⟩
           ·rw [if_neg EO] at H
            have SX : ((bt a0 av) == 45) = false := beq_eq_false_iff_ne.mpr EO
            have SW : ((bt a0 av) != 45) = true := bne_iff_ne.mpr EO
            by_cases wL : ((bt a0 av) = 95)
            ·rw [if_pos wL] at H
             have SV : ((bt a0 av) == 95) = true := beq_iff_eq.mpr wL
             have SU : ((bt a0 av) != 95) = false := bne_eq_false_iff_eq.mpr wL
             clear wL
             have H' := ak H
             clear H
             have p4 : 0 ≤ (av : Int) := of_decide_eq_true (by first | (with_reducible assumption) | assumption)
             have q4 : av < (a0.size : Int) := of_decide_eq_true (by first | (with_reducible assumption) | assumption)
             have jq := fz a0 av
             replace p4 := eq_true p4
             replace q4 := eq_true q4
             go_wp2
             go_roundg k1
             case measure => have := dq.out; omega
             case rel => exact ⟨(wrap64 (av + 1)), (by first | rfl | (simp; done) | (simp [*]; done)), H', ⟨by have := dq.out; omega⟩, by repeat (first | exact Drawn0.refl _ | apply Drawn0.step)⟩
            ·rw [if_neg wL] at H
             have SV : ((bt a0 av) == 95) = false := beq_eq_false_iff_ne.mpr wL
             have SU : ((bt a0 av) != 95) = true := bne_iff_ne.mpr wL
             obtain rfl := Option.some.inj H
             have p4 : 0 ≤ (av : Int) := of_decide_eq_true (by first | (with_reducible assumption) | assumption)
             have q4 : av < (a0.size : Int) := of_decide_eq_true (by first | (with_reducible assumption) | assumption)
             have jq := fz a0 av
             replace p4 := eq_true p4
             replace q4 := eq_true q4
             go_wp2
             go_ret
             exact ⟨by first | rfl | (simp; done) | (simp [*]; done), by repeat (first | exact Drawn0.refl _ | apply Drawn0.step)⟩
        ·rw [if_neg Gq] at H
         have S1 : decide (48 ≤ (bt a0 av)) = false := decide_eq_false Gq
         clear Gq
         by_cases vL : (bt a0 av) = 46
         ·rw [if_pos vL] at H
          have LI : ((bt a0 av) == 46) = true := beq_iff_eq.mpr vL
          have LH : ((bt a0 av) != 46) = false := bne_eq_false_iff_eq.mpr vL
          clear vL
          have H' := ak H
          clear H
          have p4 : 0 ≤ (av : Int) := of_decide_eq_true (by first | (with_reducible assumption) | assumption)
          have q4 : av < (a0.size : Int) := of_decide_eq_true (by first | (with_reducible assumption) | assumption)
          have jq := fz a0 av
          replace p4 := eq_true p4
          replace q4 := eq_true q4
          go_wp2
          go_roundg k1
          case measure => have := dq.out; omega
          case rel => exact ⟨(wrap64 (av + 1)), (by first | rfl | (simp; done) | (simp [*]; done)), H', ⟨by have := dq.out; omega⟩, by repeat (first | exact Drawn0.refl _ | apply Drawn0.step)⟩
         ·rw [if_neg vL] at H
          have LI : ((bt a0 av) == 46) = false := beq_eq_false_iff_ne.mpr vL
          have LH : ((bt a0 av) != 46) = true := bne_iff_ne.mpr vL
          by_cases vK : (bt a0 av) = 45
          ·rw [if_pos vK] at H
           have LG : ((bt a0 av) == 45) = true := beq_iff_eq.mpr vK
           have LF : ((bt a0 av) != 45) = false := bne_eq_false_iff_eq.mpr vK
           clear vK
           have H' := ak H
           clear H
           have p4 : 0 ≤ (av : Int) := of_decide_eq_true (by first | (with_reducible assumption) | assumption)
           have q4 : av < (a0.size : Int) := of_decide_eq_true (by first | (with_reducible assumption) | assumption)
           have jq := fz a0 av
           replace p4 := eq_true p4
           replace q4 := eq_true q4
           go_wp2
           go_roundg k1
           case measure => have := dq.out; omega
           case rel => exact ⟨(wrap64 (av + 1)), (by first | rfl | (simp; done) | (simp [*]; done)), H', ⟨by have := dq.out; omega⟩, by repeat (first | exact Drawn0.refl _ | apply Drawn0.step)⟩
          ·rw [if_neg vK] at H
           have LG : ((bt a0 av) == 45) = false := beq_eq_false_iff_ne.mpr vK
           have LF : ((bt a0 av) != 45) = true := bne_iff_ne.mpr vK
           by_cases EN : ((bt a0 av) = 95)
           ·rw [if_pos EN] at H
            have SS : ((bt a0 av) == 95) = true := beq_iff_eq.mpr EN
            have SR : ((bt a0 av) != 95) = false := bne_eq_false_iff_eq.mpr EN
            clear EN
            have H' := ak H
            clear H
            have p4 : 0 ≤ (av : Int) := of_decide_eq_true (by first | (with_reducible assumption) | assumption)
            have q4 : av < (a0.size : Int) := of_decide_eq_true (by first | (with_reducible assumption) | assumption)
            have jq := fz a0 av
            replace p4 := eq_true p4
            replace q4 := eq_true q4
            go_wp2
            go_roundg k1
            case measure => have := dq.out; omega
            case rel => exact ⟨(wrap64 (av + 1)), (by first | rfl | (simp; done) | (simp [*]; done)), H', ⟨by have := dq.out; omega⟩, by repeat (first | exact Drawn0.refl _ | apply Drawn0.step)⟩
           ·rw [if_neg EN] at H
            have SS : ((bt a0 av) == 95) = false := beq_eq_false_iff_ne.mpr EN
            have SR : ((bt a0 av) != 95) = true := bne_iff_ne.mpr EN
            obtain rfl := Option.some.inj H
            have p4 : 0 ≤ (av : Int) := of_decide_eq_true (by first | (with_reducible assumption) | assumption)
            have q4 : av < (a0.size : Int) := of_decide_eq_true (by first | (with_reducible assumption) | assumption)
            have jq := fz a0 av
            replace p4 := eq_true p4
            replace q4 := eq_true q4
            go_wp2
            go_ret
            exact ⟨by first | rfl | (simp; done) | (simp [*]; done), by repeat (first | exact Drawn0.refl _ | apply Drawn0.step)⟩
      ·rw [if_neg Gs] at H
       have S4 : decide (65 ≤ (bt a0 av)) = false := decide_eq_false Gs
       clear Gs
       by_cases Gn : (bt a0 av) ≥ 48
       ·rw [if_pos Gn] at H
        have SQ : decide (48 ≤ (bt a0 av)) = true := decide_eq_true Gn
        clear Gn
        by_cases Gm : (bt a0 av) ≤ 57
        ·rw [if_pos Gm] at H
         have SP : decide ((bt a0 av) ≤ 57) = true := decide_eq_true Gm
         clear Gm
         have H' := ak H
         clear H
         have p4 : 0 ≤ (av : Int) := of_decide_eq_true (by first | (with_reducible assumption) | assumption)
         have q4 : av < (a0.size : Int) := of_decide_eq_true (by first | (with_reducible assumption) | assumption)
         have jq := fz a0 av
         replace p4 := eq_true p4
         replace q4 := eq_true q4
         go_wp2
         go_roundg k1
         case measure => have := dq.out; omega
         case rel => exact ⟨(wrap64 (av + 1)), (by first | rfl | (simp; done) | (simp [*]; done)), H', ⟨by have := dq.out; omega⟩, by repeat (first | exact Drawn0.refl _ | apply Drawn0.step)⟩
        ·rw [if_neg Gm] at H
         have SP : decide ((bt a0 av) ≤ 57) = false := decide_eq_false Gm
         clear Gm
         by_cases tr : (bt a0 av) = 46
         ·rw [if_pos tr] at H
          have Hu : ((bt a0 av) == 46) = true := beq_iff_eq.mpr tr
          have SO : ((bt a0 av) != 46) = false := bne_eq_false_iff_eq.mpr tr
          clear tr
          have H' := ak H
          clear H
          have p4 : 0 ≤ (av : Int) := of_decide_eq_true (by first | (with_reducible assumption) | assumption)
          have q4 : av < (a0.size : Int) := of_decide_eq_true (by first | (with_reducible assumption) | assumption)
          have jq := fz a0 av
          replace p4 := eq_true p4
          replace q4 := eq_true q4
          go_wp2
          go_roundg k1
          case measure => have := dq.out; omega
          case rel => exact ⟨(wrap64 (av + 1)), (by first | rfl | (simp; done) | (simp [*]; done)), H', ⟨by have := dq.out; omega⟩, by repeat (first | exact Drawn0.refl _ | apply Drawn0.step)⟩
         ·rw [if_neg tr] at H
          have Hu : ((bt a0 av) == 46) = false := beq_eq_false_iff_ne.mpr tr
          have SO : ((bt a0 av) != 46) = true := bne_iff_ne.mpr tr
          by_cases wK : (bt a0 av) = 45
          ·rw [if_pos wK] at H
           have LD : ((bt a0 av) == 45) = true := beq_iff_eq.mpr wK
           have SN : ((bt a0 av) != 45) = false := bne_eq_false_iff_eq.mpr wK
           clear wK
           have H' := ak H
           clear H
           have p4 : 0 ≤ (av : Int) := of_decide_eq_true (by first | (with_reducible assumption) | assumption)
           have q4 : av < (a0.size : Int) := of_decide_eq_true (by first | (with_reducible assumption) | assumption)
           have jq := fz a0 av
           replace p4 := eq_true p4
           replace q4 := eq_true q4
           go_wp2
           go_roundg k1
           case measure => have := dq.out; omega
           case rel => exact ⟨(wrap64 (av + 1)), (by first | rfl | (simp; done) | (simp [*]; done)), H', ⟨by have := dq.out; omega⟩, by repeat (first | exact Drawn0.refl _ | apply Drawn0.step)⟩
          ·rw [if_neg wK] at H
           have LD : ((bt a0 av) == 45) = false := beq_eq_false_iff_ne.mpr wK
           have SN : ((bt a0 av) != 45) = true := bne_iff_ne.mpr wK
           by_cases wJ : ((bt a0 av) = 95)
           ·rw [if_pos wJ] at H
            have LC : ((bt a0 av) == 95) = true := beq_iff_eq.mpr wJ
            have SM : ((bt a0 av) != 95) = false := bne_eq_false_iff_eq.mpr wJ
            clear wJ
            have H' := ak H
            clear H
            have p4 : 0 ≤ (av : Int) := of_decide_eq_true (by first | (with_reducible assumption) | assumption)
            have q4 : av < (a0.size : Int) := of_decide_eq_true (by first | (with_reducible assumption) | assumption)
            have jq := fz a0 av
            replace p4 := eq_true p4
            replace q4 := eq_true q4
            go_wp2
            go_roundg k1
            case measure => have := dq.out; omega
            case rel => exact ⟨(wrap64 (av + 1)), (by first | rfl | (simp; done) | (simp [*]; done)), H', ⟨by have := dq.out; omega⟩, by repeat (first | exact Drawn0.refl _ | apply Drawn0.step)⟩
           ·rw [if_neg wJ] at H
            have LC : ((bt a0 av) == 95) = false := beq_eq_false_iff_ne.mpr wJ
            have SM : ((bt a0 av) != 95) = true := bne_iff_ne.mpr wJ
            obtain rfl := Option.some.inj H
            have p4 : 0 ≤ (av : Int) := of_decide_eq_true (by first | (with_reducible assumption) | assumption)
            have q4 : av < (a0.size : Int) := of_decide_eq_true (by first | (with_reducible assumption) | assumption)
            have jq := fz a0 av
            replace p4 := eq_true p4
            replace q4 := eq_true q4
            go_wp2
            go_ret
            exact ⟨by first | rfl | (simp; done) | (simp [*]; done), by repeat (first | exact Drawn0.refl _ | apply Drawn0.step)⟩
       ·rw [if_neg Gn] at H
        have SQ : decide (48 ≤ (bt a0 av)) = false := decide_eq_false Gn
        clear Gn
        by_cases pF : (bt a0 av) = 46
        ·rw [if_pos pF] at H
         have Ht : ((bt a0 av) == 46) = true := beq_iff_eq.mpr pF
         have Hs : ((bt a0 av) != 46) = false := bne_eq_false_iff_eq.mpr pF
         clear pF
         have H' := ak H
         clear H
         have p4 : 0 ≤ (av : Int) := of_decide_eq_true (by first | (with_reducible assumption) | assumption)
         have q4 : av < (a0.size : Int) := of_decide_eq_true (by first | (with_reducible assumption) | assumption)
         have jq := fz a0 av
         replace p4 := eq_true p4
         replace q4 := eq_true q4
         go_wp2
         go_roundg k1
         case measure => have := dq.out; omega
         case rel => exact ⟨(wrap64 (av + 1)), (by first | rfl | (simp; done) | (simp [*]; done)), H', ⟨by have := dq.out; omega⟩, by repeat (first | exact Drawn0.refl _ | apply Drawn0.step)⟩
        ·rw [if_neg pF] at H
         have Ht : ((bt a0 av) == 46) = false := beq_eq_false_iff_ne.mpr pF
         have Hs : ((bt a0 av) != 46) = true := bne_iff_ne.mpr pF
         by_cases EL : (bt a0 av) = 45
         ·rw [if_pos EL] at H
          have SK : ((bt a0 av) == 45) = true := beq_iff_eq.mpr EL
          have SJ : ((bt a0 av) != 45) = false := bne_eq_false_iff_eq.mpr EL
          clear EL
          have H' := ak H
          clear H
          have p4 : 0 ≤ (av : Int) := of_decide_eq_true (by first | (with_reducible assumption) | assumption)
          have q4 : av < (a0.size : Int) := of_decide_eq_true (by first | (with_reducible assumption) | assumption)
          have jq := fz a0 av
          replace p4 := eq_true p4
          replace q4 := eq_true q4
          go_wp2
          go_roundg k1
          case measure => have := dq.out; omega
          case rel => exact ⟨(wrap64 (av + 1)), (by first | rfl | (simp; done) | (simp [*]; done)), H', ⟨by have := dq.out; omega⟩, by repeat (first | exact Drawn0.refl _ | apply Drawn0.step)⟩
         ·rw [if_neg EL] at H
          have SK : ((bt a0 av) == 45) = false := beq_eq_false_iff_ne.mpr EL
          have SJ : ((bt a0 av) != 45) = true := bne_iff_ne.mpr EL
          by_cases EK : ((bt a0 av) = 95)
          ·rw [if_pos EK] at H
           have SI : ((bt a0 av) == 95) = true := beq_iff_eq.mpr EK
           have SH : ((bt a0 av) != 95) = false := bne_eq_false_iff_eq.mpr EK
           clear EK
           have H' := ak H
           clear H
           have p4 : 0 ≤ (av : Int) := of_decide_eq_true (by first | (with_reducible assumption) | assumption)
           have q4 : av < (a0.size : Int) := of_decide_eq_true (by first | (with_reducible assumption) | assumption)
           have jq := fz a0 av
           replace p4 := eq_true p4
           replace q4 := eq_true q4
           go_wp2
           go_roundg k1
           case measure => have := dq.out; omega
           case rel => exact ⟨(wrap64 (av + 1)), (by first | rfl | (simp; done) | (simp [*]; done)), H', ⟨by have := dq.out; omega⟩, by repeat (first | exact Drawn0.refl _ | apply Drawn0.step)⟩
          ·rw [if_neg EK] at H
           have SI : ((bt a0 av) == 95) = false := beq_eq_false_iff_ne.mpr EK
           have SH : ((bt a0 av) != 95) = true := bne_iff_ne.mpr EK
           obtain rfl := Option.some.inj H
           have p4 : 0 ≤ (av : Int) := of_decide_eq_true (by first | (with_reducible assumption) | assumption)
           have q4 : av < (a0.size : Int) := of_decide_eq_true (by first | (with_reducible assumption) | assumption)
           have jq := fz a0 av
           replace p4 := eq_true p4
           replace q4 := eq_true q4
           go_wp2
           go_ret
           exact ⟨by first | rfl | (simp; done) | (simp [*]; done), by repeat (first | exact Drawn0.refl _ | apply Drawn0.step)⟩
    ·rw [if_neg c3] at H
     exact absurd H (by simp)
   ·rw [if_neg c2] at H
    have lW : decide (av < (a0.size : Int)) = false := decide_eq_false c2
    clear c2
    by_cases Gl : (a0.size : Int) ≥ 1
    ·rw [if_pos Gl] at H
     have SG : decide (1 ≤ (a0.size : Int)) = true := decide_eq_true Gl
     have SF : decide (1 ≤ a0.size) = true := decide_eq_true (by omega)
     clear Gl
     obtain rfl := Option.some.inj H
     go_wp2
     go_ret
     exact ⟨by first | rfl | (simp; done) | (simp [*]; done), by repeat (first | exact Drawn0.refl _ | apply Drawn0.step)⟩
    ·rw [if_neg Gl] at H
     have SG : decide (1 ≤ (a0.size : Int)) = false := decide_eq_false Gl
     have SF : decide (1 ≤ a0.size) = false := decide_eq_false (by omega)
     clear Gl
     obtain rfl := Option.some.inj H
     go_wp2
     go_ret
     exact ⟨by first | rfl | (simp; done) | (simp [*]; done), by repeat (first | exact Drawn0.refl _ | apply Drawn0.step)⟩
end Go.Proofs.Ytemhalnhbgkbcaa.V
end

section
namespace Go.Proofs.Ytemhalnhbgkbcaa.V
def lT (c : Int) : Bool := (decide (97 ≤ c) && decide (c ≤ 122)) || (decide (65 ≤ c) && decide (c ≤ 90)) || (decide (48 ≤ c) && decide (c ≤ 57)) || decide (c = 46) || decide (c = 45) || decide (c = 95)
def lv (s : ByteArray) (i : Nat) : Bool := (s.data.toList.drop i).all fun b => lT (b.toNat : Int)
def fX (s : ByteArray) : Bool := lv s 0 && decide (0 < s.size) && decide (s.size ≤ 64)
theorem Sg (c : Int) (k : Nat) (hk : 2 < k) : cg.f k c = some (lT c) := by
 obtain ⟨k, rfl⟩ : ∃ m, k = m + 1 + 1 := ⟨k - 2, by omega⟩
 unfold cg.f lT
 simp only [cg.j0, cg.j1]
 repeat' split
 all_goals first | (simp_all; done) | (simp_all; omega) | (exfalso; simp_all; omega)
theorem BJ (c : Int) (w : World) : Calls Try.prog 112 #[.int .i32 c] w fun e w' => e = .returned (.bool (lT c)) ∧ Drawn0 w w' :=
 cg.calls 3 c _ w (Sg c 3 (by omega))
theorem EW (s : ByteArray) (i : Nat) (h : i < s.size) : bt s (i : Int) = (s[i].toNat : Int) := by simp [bt, h]
theorem sP (s : ByteArray) (i : Nat) (h : i < s.size) : lv s i = (lT (bt s (i : Int)) && lv s (i + 1)) := by
 have h' : i < s.data.toList.length := by simpa using h
 unfold lv
 rw [List.drop_eq_getElem_cons h', List.all_cons, EW s i h]
 rfl
theorem yG (s : ByteArray) (i : Nat) (h : s.size ≤ i) : lv s i = true := by
 unfold lv
 rw [List.drop_of_length_le (by simpa using h)]
 rfl
theorem toList_nil (s : ByteArray) : s.data.toList = [] ↔ s.size = 0 := by
 constructor
 ·intro h
  have := congrArg List.length h
  simpa using this
 ·intro h
  exact List.eq_nil_of_length_eq_zero (by simpa using h)
theorem Kb (k : Nat) (s : ByteArray) (i : Nat) (h : i < s.size) (hm : s.size ≤ 9223372036854775807) : aw.l0 (k + 1) s (i : Int) = if lT (bt s (i : Int)) then aw.l0 k s ((i + 1 : Nat) : Int) else some false := by
 simp only [aw.l0]
 rw [if_pos (show (i : Int) < (s.size : Int) by omega), if_pos (show (0 : Int) ≤ (i : Int) by omega), show wrap64 ((i : Int) + 1) = ((i + 1 : Nat) : Int) by unfold wrap64; omega]
 generalize aw.l0 k s ((i + 1 : Nat) : Int) = A
 generalize bt s (i : Int) = c
 unfold lT
 repeat' split
 all_goals first | rfl | (exfalso; simp_all; omega) | (simp_all; done) | (simp_all; omega)
theorem Qf (s : ByteArray) (hm : s.size ≤ 9223372036854775807) : ∀ (d k i : Nat), i + d = s.size → d < k → aw.l0 k s (i : Int) = some (lv s i && decide (0 < s.size) && decide (s.size ≤ 64)) := by
 intro d
 induction d with
 | zero =>
  intro k i hi hk
  obtain ⟨k, rfl⟩ : ∃ m, k = m + 1 := ⟨k - 1, by omega⟩
  simp only [aw.l0]
  rw [if_neg (by omega), yG s i (by omega)]
  by_cases h1 : 0 < s.size
  ·rw [if_pos (by omega)]
   simp [h1]
   omega
  ·rw [if_neg (by omega)]
   simp [h1]
 | succ d ih =>
  intro k i hi hk
  obtain ⟨k, rfl⟩ : ∃ m, k = m + 1 := ⟨k - 1, by omega⟩
  rw [Kb k s i (by omega) hm, sP s i (by omega)]
  by_cases h : lT (bt s (i : Int)) = true
  ·rw [if_pos h, ih k (i + 1) (by omega) (by omega), h, Bool.true_and]
  ·have h' : lT (bt s (i : Int)) = false := by simpa using h
   rw [if_neg h, h']
   simp
theorem yb (s : ByteArray) (hm : s.size ≤ 9223372036854775807) (k : Nat) (hk : s.size < k) : aw.f k s = some (fX s) := Qf s hm s.size k 0 (by omega) hk
theorem wD (w : World) (s : ByteArray) (p n : Nat) : ((w.iter s p).drewN n).iterPos w.heap.size = p := World.iterPos_iter (w.drewN n) s p
theorem rz {w : World} {s : ByteArray} {p : Nat} (h : Below w.heap.size w w) : Below w.heap.size w (w.iter s p) := af h _
theorem yy (c : Int) (h : 128 ≤ c) : lT c = false := by
 unfold lT
 simp
 omega
theorem yt (s : ByteArray) : s.toList = [] ↔ s.size = 0 := by rw [ByteArray.toList_eq]; exact toList_nil s
set_option maxHeartbeats 2000000 in
set_option maxRecDepth 100000 in
theorem ID (s : ByteArray) (w : World) : Calls Try.prog 104 #[.string s] w fun e w' => e = .returned (.bool (fX s)) ∧ Below w.heap.size w w' := by
 go_enter Try.func104, Try.ntmps104
 go_wp2
 go_loopw [4] (fun c W => ∃ pos nd : Nat, W = (w.iter s pos).drewN nd ∧ pos ≤ s.size ∧ Aside0 (lv s 0 = lv s pos)) (fun _ W => s.size - W.iterPos w.heap.size)
 case atStart => exact ⟨0, 0, rfl, by omega, ⟨rfl⟩⟩
 case round =>
  obtain ⟨pos, nd, rfl, hpos, HA⟩ := hrel
  by_cases hp : pos < s.size
  ·have hnx : ∀ ty, (Instr.next (.pointer (some ⟨w.heap.size, 0, none⟩)) true ty).run Try.prog ((w.iter s pos).drewN nd) = .ok (.tuple #[.bool true, .int .i64 pos, .int .i32 (Utf8.decode s pos).1]) ((w.iter s (pos + (Utf8.decode s pos).2)).drewN nd) := fun ty => run_next_any (w.drewN nd) s pos ty hp
   by_cases ha : (s[pos]'hp).toNat < 128
   ·have hd := decode_ascii s pos hp ha
    rw [hd] at hnx
    have hbt := EW s pos hp
    have hst := sP s pos hp
    cases hok : lT (bt s (pos : Int)) with
    | true =>
     have xU := ak (show lv s 0 = lv s (pos + 1) by rw [HA.out, hst, hok, Bool.true_and])
     rw [hbt] at hok
     have HOK := ak hok
     clear hok hst hbt hd ha
     go_wp2_with (go_at_call 112; refine (BJ _ _).mono ?_; rintro e w' ⟨rfl, ⟨DN, rfl⟩⟩; rw [HOK.out])
     go_roundw
     case rel => exact ⟨pos + 1, nd + DN, rfl, by omega, xU⟩
     case measure => rw [wD, wD]; omega
    | false =>
     have HF := ak (show fX s = false by unfold fX; rw [HA.out, hst, hok]; rfl)
     rw [hbt] at hok
     have HOK := ak hok
     clear hok hst hbt hd ha
     go_wp2_with (go_at_call 112; refine (BJ _ _).mono ?_; rintro e w' ⟨rfl, ⟨DN, rfl⟩⟩; rw [HOK.out])
     go_ret
     exact ⟨by rw [HF.out]; rfl, by repeat (first | exact Below.refl _ _ | apply ab | apply rz)⟩
   ·have hd := decode_high s pos hp (by omega)
    have hst := sP s pos hp
    have hok : lT (bt s (pos : Int)) = false := yy _ (by rw [EW s pos hp]; omega)
    have HF := ak (show fX s = false by unfold fX; rw [HA.out, hst, hok]; rfl)
    have HOK := ak (yy ((Utf8.decode s pos).1 : Int) (by omega))
    generalize Utf8.decode s pos = D at hnx HOK
    clear hok hst hd ha
    go_wp2_with (go_at_call 112; refine (BJ _ _).mono ?_; rintro e w' ⟨rfl, ⟨DN, rfl⟩⟩; rw [HOK.out])
    go_ret
    exact ⟨by rw [HF.out]; rfl, by repeat (first | exact Below.refl _ _ | apply ab | apply rz)⟩
  ·have hnx : ∀ ty, (Instr.next (.pointer (some ⟨w.heap.size, 0, none⟩)) true ty).run Try.prog ((w.iter s pos).drewN nd) = .ok (.tuple #[.bool false]) ((w.iter s pos).drewN nd) := fun ty => run_next_end (w.drewN nd) s pos ty hp
   have hall : lv s 0 = true := by rw [HA.out, yG s pos (by omega)]
   by_cases h0 : s.size = 0
   ·have hn : s.toList = [] := (yt s).2 h0
    have F5 : (!s.toList.isEmpty) = false := by rw [hn]; rfl
    have HF := ak (show fX s = false by unfold fX; rw [h0]; simp)
    clear h0 hall HA hpos hp
    go_wp2
    go_ret
    exact ⟨by rw [HF.out]; rfl, by repeat (first | exact Below.refl _ _ | apply ab | apply rz)⟩
   ·have hn : ¬ s.toList = [] := fun h => h0 ((yt s).1 h)
    have F5 : (!s.toList.isEmpty) = true := by cases hh : s.toList <;> simp_all
    have HF := ak (show fX s = decide ((s.size : Int) ≤ 64) by
     unfold fX
     rw [hall, decide_eq_true (show 0 < s.size by omega)]
     simp only [Bool.true_and]
     exact decide_eq_decide.2 (by omega))
    clear h0 hall HA hpos hp
    go_wp2
    go_ret
    exact ⟨by rw [HF.out]; rfl, by repeat (first | exact Below.refl _ _ | apply ab | apply rz)⟩
def fK.f (a0 : ByteArray) : Option Bool := some (fX a0)
theorem fK.calls (a0 : ByteArray) (r : Bool) (w : World) (h : fK.f a0 = some r) : Calls Try.prog 104 #[.string a0] w fun e w' => e = .returned (.bool r) ∧ Below w.heap.size w w' := by
 obtain rfl := Option.some.inj h
 exact ID a0 w
end Go.Proofs.Ytemhalnhbgkbcaa.V
end

section
namespace Go.Proofs.Ytemhalnhbgkbcaa.V
attribute [local go_sem] dA dy ed ec cP cN dz dx
def qR.f (a6 : ByteArray) (a8 : ByteArray) : Option (Bool) := (fK.f a6).bind fun uL => (if uL = true then ((fK.f a8).bind fun oe => (some oe)) else (some false))
set_option maxHeartbeats 8000000 in
set_option maxRecDepth 100000 in
theorem qR.calls (a6 : ByteArray) (a8 : ByteArray) (r : Bool) (w : World) (h : qR.f a6 a8 = some r) :
  Calls Try.prog 88 #[.agg #[.string a6, .string a8]] w fun e w' => e = .returned (.bool r) ∧ Below w.heap.size w w' := by
 have Kq := Try.underlying85
 have HB := ak (Below.refl w.heap.size w)
 have H : ((fK.f a6).bind fun uL => (if uL = true then ((fK.f a8).bind fun oe => (some oe)) else (some false))) = some r := h
 clear h
 replace H := Option.bind_eq_some_iff.mp H
 obtain ⟨uL, CI, H⟩ := H
 replace H : (if uL = true then ((fK.f a8).bind fun oe => (some oe)) else (some false)) = some r := H
 have A2 := ak CI
 clear CI
 by_cases c3 : uL = true
 ·subst c3
  have H1 : ((fK.f a8).bind fun oe => (some oe)) = some r := by rw [if_pos rfl] at H; exact H
  clear H
  have H := H1
  clear H1
  replace H := Option.bind_eq_some_iff.mp H
  obtain ⟨oe, xW, H⟩ := H
  replace H : (some oe) = some r := H
  have A4 := ak xW
  clear xW
  obtain rfl := Option.some.inj H
  go_enter Try.func88, Try.ntmps88
  go_wp2_with (first | ((with_reducible refine aJ (N := 1) rfl ?_); refine eY ?hg (N := 1) ?hd (cs := #[.string a6, .string a8]) (t := 85) ?hr ?_; (case hd => rfl); (case hg => rfl); (case hr => first | (go_simp; done) | (go_simp; rfl)); intro j4 hg w5 hbox hb; have bR := ak (bA (by repeat (first | (with_reducible first | exact HB.out | apply af | apply ab | apply ai) | exact HB.out)) hb); have bX := ak (hbox); have dh := ak ((by rw [hg]; exact (bo (by repeat (first | (with_reducible first | exact HB.out | apply af | apply ab | apply ai) | exact HB.out))) : w.heap.size ≤ j4)); have dX := ak ((by rw [hg]; exact (bo (by repeat (first | (with_reducible first | exact HB.out | apply af | apply ab | apply ai) | exact HB.out))) : w.heap.size ≤ j4)); clear HB; have HB := bR; have gw := bX; have PS := dh; have rP := dX; clear bR bX dh dX; clear hb hbox hg; have Ef : w5.cell? ⟨j4, 0, none⟩ = some (.string a6) := (al gw.out 0).trans rfl; have Ee : w5.cell? ⟨j4, 1, none⟩ = some (.string a8) := (al gw.out 1).trans rfl; have D8 := aj gw.out 0; have D7 := aj gw.out 1) | ((with_reducible refine dp (f := 104) rfl ?_); refine fQ (some 5) rfl rfl Try.func104 (by kernel_rfl) rfl #[.string a6] rfl (by (try simp only [List.map_toArray, List.map_cons, List.map_nil]); first | done | rfl | (simp only [List.length_drop, List.length_take]; rfl)) ?_; (with_reducible refine (fK.calls a6 true _ A2.out).mono ?_); rintro e w7 ⟨rfl, hb⟩; refine ⟨_, rfl, ?_⟩; have bR := ak (eh (g := j4) (o := .cells #[.string a6, .string a8] 85 (0, 0)) (by (with_reducible repeat (first | refine ax ?_ _ | refine aG ?_ | refine ay ?_ _)); exact gw.out) hb); have bX := ak (bA (by repeat (first | (with_reducible first | exact HB.out | apply af | apply ab | apply ai | refine aD ?_ rP.out) | exact HB.out)) hb); clear gw; clear HB; have gw := bR; have HB := bX; clear bR bX; (try clear hb); (try clear eX); (try clear hk); (try clear hi); have Ed : w7.cell? ⟨j4, 0, none⟩ = some (.string a6) := (al gw.out 0).trans rfl; have Ec : w7.cell? ⟨j4, 1, none⟩ = some (.string a8) := (al gw.out 1).trans rfl; have D6 := aj gw.out 0; have D5 := aj gw.out 1) | (go_at_call 104; (with_reducible refine (fK.calls a8 oe _ A4.out).mono ?_); rintro e w9 ⟨rfl, hb⟩; have bR := ak (eh (g := j4) (o := .cells #[.string a6, .string a8] 85 (0, 0)) (by (with_reducible repeat (first | refine ax ?_ _ | refine aG ?_ | refine ay ?_ _)); exact gw.out) hb); have bX := ak (bA (by repeat (first | (with_reducible first | exact HB.out | apply af | apply ab | apply ai | refine aD ?_ rP.out) | exact HB.out)) hb); clear gw; clear HB; have gw := bR; have HB := bX; clear bR bX; (try clear hb); (try clear eX); (try clear hk); (try clear hi)))
  go_ret
  exact ⟨by first | rfl | (simp [bf, bd] <;> rfl) | (simp [*, bf, bd] <;> rfl), by repeat (first | (with_reducible first | exact HB.out | apply af | apply ab | apply ai | refine aD ?_ rP.out) | exact HB.out)⟩
 ·replace c3 := Bool.eq_false_iff.mpr c3
  subst c3
  have H1 : (some false) = some r := by rw [if_neg (show ¬ (false = true) by decide)] at H; exact H
  clear H
  have H := H1
  clear H1
  obtain rfl := Option.some.inj H
  go_enter Try.func88, Try.ntmps88
  go_wp2_with (first | ((with_reducible refine aJ (N := 1) rfl ?_); refine eY ?hg (N := 1) ?hd (cs := #[.string a6, .string a8]) (t := 85) ?hr ?_; (case hd => rfl); (case hg => rfl); (case hr => first | (go_simp; done) | (go_simp; rfl)); intro j4 hg Cf hbox hb; have bR := ak (bA (by repeat (first | (with_reducible first | exact HB.out | apply af | apply ab | apply ai) | exact HB.out)) hb); have bX := ak (hbox); have dh := ak ((by rw [hg]; exact (bo (by repeat (first | (with_reducible first | exact HB.out | apply af | apply ab | apply ai) | exact HB.out))) : w.heap.size ≤ j4)); have dX := ak ((by rw [hg]; exact (bo (by repeat (first | (with_reducible first | exact HB.out | apply af | apply ab | apply ai) | exact HB.out))) : w.heap.size ≤ j4)); clear HB; have HB := bR; have gw := bX; have PS := dh; have rP := dX; clear bR bX dh dX; clear hb hbox hg; have Ga : Cf.cell? ⟨j4, 0, none⟩ = some (.string a6) := (al gw.out 0).trans rfl; have F9 : Cf.cell? ⟨j4, 1, none⟩ = some (.string a8) := (al gw.out 1).trans rfl; have F8 := aj gw.out 0; have F7 := aj gw.out 1) | ((with_reducible refine dp (f := 104) rfl ?_); refine fQ (some 5) rfl rfl Try.func104 (by kernel_rfl) rfl #[.string a6] rfl (by (try simp only [List.map_toArray, List.map_cons, List.map_nil]); first | done | rfl | (simp only [List.length_drop, List.length_take]; rfl)) ?_; (with_reducible refine (fK.calls a6 false _ A2.out).mono ?_); rintro e FW ⟨rfl, hb⟩; refine ⟨_, rfl, ?_⟩; have bR := ak (eh (g := j4) (o := .cells #[.string a6, .string a8] 85 (0, 0)) (by (with_reducible repeat (first | refine ax ?_ _ | refine aG ?_ | refine ay ?_ _)); exact gw.out) hb); have bX := ak (bA (by repeat (first | (with_reducible first | exact HB.out | apply af | apply ab | apply ai | refine aD ?_ rP.out) | exact HB.out)) hb); clear gw; clear HB; have gw := bR; have HB := bX; clear bR bX; (try clear hb); (try clear eX); (try clear hk); (try clear hi)))
  go_ret
  exact ⟨by first | rfl | (simp [bf, bd] <;> rfl) | (simp [*, bf, bd] <;> rfl), by repeat (first | (with_reducible first | exact HB.out | apply af | apply ab | apply ai | refine aD ?_ rP.out) | exact HB.out)⟩
end Go.Proofs.Ytemhalnhbgkbcaa.V
end

section
namespace Go.Proofs.Ytemhalnhbgkbcaa.V
def fj (a : At) : Bool := fX a.f0 && fX a.f1
theorem Rg (a : At) : qR.f a.f0 a.f1 = some (fj a) := by
 unfold qR.f fK.f fj
 cases h : fX a.f0 <;> simp
theorem kv (a : At) (w : World) : Calls Try.prog 88 #[fv a] w fun e w' => e = .returned (.bool (fj a)) ∧ Below w.heap.size w w' := qR.calls a.f0 a.f1 _ w (Rg a)
def iR (l : List At) (j : Nat) : At := dE l (j : Int)
def gy (l : List Int) : Nat := xi (l.map fun s => s - 1)
def lu (b : Bk) : Bool := (b.slots.all fun s => decide (s ≤ (b.attrs.length : Int))) && ((List.range b.attrs.length).all (fun j => fj (iR b.attrs j) && !((b.attrs.take j).any (sameAt (iR b.attrs j)))) && decide ((iO (gy b.slots)).length = b.attrs.length))
def lA (l : List At) : List (At × Int) := l.map fun a => (a, 1)
theorem Dx (l : List At) (a : At) : numOf (lA l) a = if l.any (sameAt a) = true then 1 else 0 := by
 unfold numOf lA
 induction l with
 | nil => rfl
 | cons x l ih =>
  rw [List.map_cons, List.find?_cons, List.any_cons]
  cases h : sameAt a x with
  | true => simp
  | false => simpa using ih
theorem J0 (l : List At) (a : At) (h : l.any (sameAt a) = false) (v : Int) : putAt (lA l) a v = lA l ++ [(a, v)] := by
 have : idxOf (lA l) a = none := by
  unfold idxOf lA
  simpa using h
 unfold putAt
 rw [this]
theorem Fq (l : List At) : (lA l).length = l.length := by simp [lA]
theorem nP (l : List At) (j : Nat) (h : j < l.length) : iR l j = l[j] := by simp [iR, dE, List.getD, h]
theorem xZ (l : List At) (j : Nat) (h : j < l.length) : l.take (j + 1) = l.take j ++ [iR l j] := by
 rw [List.take_add_one, List.getElem?_eq_getElem h, nP l j h]
 rfl
def o5.T13 : Bool × List (List Nat × List Nat) := (true, [([], []), ([], []), ([0, 1], [0, 1]), ([2], [2]), ([0, 1, 0, 1], [0, 1]), ([4], [4]), ([0, 5, 3, 4, 0, 1, 2, 3, 4, 5], [0, 3, 5])])
def o5.B13 : List Nat := [0, 0, 3, 7, 3, 19, 63]
theorem o5.tab13 : eI .any (opsOf Try.f86 13) = o5.T13 := by kernel_rfl
theorem o5.bits13 : eb o5.T13.2 o5.B13 = true := by kernel_rfl
def oZ.T17 : Bool × List (List Nat × List Nat) := (true, [([], []), ([0], [0]), ([], []), ([2], [2]), ([3], [3]), ([1, 4], [1, 4]), ([5, 1, 0, 1, 2, 3, 4, 5], [5])])
def oZ.B17 : List Nat := [0, 1, 0, 4, 12, 31, 63]
theorem oZ.tab17 : eI .any (opsOf Try.f86 17) = oZ.T17 := by kernel_rfl
theorem oZ.bits17 : eb oZ.T17.2 oZ.B17 = true := by kernel_rfl
set_option maxHeartbeats 4000000 in
set_option maxRecDepth 100000 in
theorem CB (b : Bk) (hs : pI b.slots) (hn : b.attrs.length ≤ 64) (v : Value) (w : World) (h : jb w v b) :
  Calls Try.prog 86 #[v] w fun e w' => e = .returned (.bool (lu b)) ∧ Below w.heap.size w w' := by
 obtain ⟨A, c, A', c', rfl, hr⟩ := h
 have hl := hr.l64
 have HR := ak hr
 have HS := ak hs
 have HL := ak hl
 have hmm := @run_makeMap Try.prog
 have hlen : (Try.prog.info? 47).map (·.size) = some (b.slots.map (Value.int .u8)).length := by rw [List.length_map, hl]; kernel_rfl
 have HLN := ak hlen
 clear hr hs hl hlen
 go_enter Try.func86, Try.ntmps86
 go_wp2_with (first
  | (refine aV rfl 57 (.tmp 0) rfl _ rfl ?_; intro g W1 hg hbx cI; have HX := ak hbx; have HB := ak cI; have HG := ak hg; have HRR := ak (HR.out.below cI); have rj := hbx.cell 67 _ (gv _ _ _ _ _ HL.out); clear hbx cI hg HR)
  | (refine fN rfl 47 (.tmp 10) rfl g 2 rfl 57 _ (b.slots.map (Value.int .u8)) (.array 64 5) (HX.out.alloc _) (mf _ _ _ _ _ HL.out) Try.underlying47 rfl HLN.out ?_))
 have HM := ak (show nQ (W1.alloc (.map #[] 0)) W1.heap.size [] from heap_alloc_new W1 _)
 have gD := ak (HX.out.alloc (.map #[] 0))
 have sS := ak (af (Below.refl W1.heap.size W1) (.map #[] 0))
 have HLT := ak HX.out.lt
 have AX := ak (show w.heap.size ≤ W1.heap.size from HB.out.size)
 have gl := HX
 have cG := HB
 have mG := HRR
 have HGM := ak (Eq.refl W1.heap.size)
 clear HX HB HRR rj hmm
 generalize W1.alloc (Obj.map #[] 0) = W2 at HM gD sS ⊢
 generalize hgm : W1.heap.size = gm at HM AX HLT sS HGM ⊢
 have HGE := ak hgm
 clear hgm HGM
 have rj := gD.out.cell 67 _ (gv _ _ _ _ _ HL.out)
 go_loopw [4, 6, 12] (fun s _ i W => ∃ k nd : Nat, k ≤ 64 ∧ W = W2.drewN nd ∧ i = .int .i64 k ∧ s = .int .u64 ((gy (b.slots.take k) : Nat) : Int) ∧ Aside0 (∀ j, j < k → rd b.slots (j : Int) ≤ (b.attrs.length : Int))) (fun _ _ i _ => 64 - (intOf i).toNat)
 case atStart => exact ⟨0, 0, by omega, rfl, rfl, rfl, ⟨fun j hj => by omega⟩⟩
 case round =>
  obtain ⟨k, nd, hk, rfl, rfl, rfl, HJ⟩ := hrel
  by_cases p8 : k < 64
  ·have hkb : decide ((k : Int) < 64) = true := by simp; omega
   have hkl : k < b.slots.length := by have := HL.out; omega
   obtain ⟨m, hm⟩ : ∃ m : Nat, rd b.slots k = (m : Int) := ⟨(rd b.slots k).toNat, by have := (lG HS.out k).1; omega⟩
   have sB : m < 256 := by have := (lG HS.out k).2; omega
   have hix := fun w => qe b.slots HL.out k p8 w
   have zI : b.slots.getD k 0 = (m : Int) := by rw [← hm]; simp [rd]
   rw [zI] at hix
   by_cases hbig : m ≤ b.attrs.length
   ·have hgb : decide (b.attrs.length < m) = false := by simp; omega
    have HU := ak (show mU (gy (b.slots.take k)) ((m : Int) - 1) = gy (b.slots.take (k + 1)) by
     unfold gy xi
     rw [List.take_add_one, List.map_append, List.foldl_append, List.getElem?_eq_getElem hkl]
     have : b.slots[k] = (m : Int) := by rw [← zI]; simp [List.getD, List.getElem?_eq_getElem hkl]
     rw [this]
     rfl)
    have tX := ak (show ∀ j, j < k + 1 → rd b.slots (j : Int) ≤ (b.attrs.length : Int) from fun j hj => by
     by_cases h : j < k
     ·exact HJ.out j h
     ·obtain rfl : j = k := by omega
      rw [hm]
      omega)
    clear hm zI
    go_wp2_with (go_at_call 21; refine (yO (gy (b.slots.take k)) (qH _) _ _).mono ?_; rintro e w' ⟨rfl, ⟨Qo, rfl⟩⟩; rw [HU.out])
    go_roundw
    case rel => exact ⟨k + 1, nd + Qo, by omega, by simp, by go_num, rfl, tX⟩
    case measure => simp [intOf]; omega
   ·have hgb : decide (b.attrs.length < m) = true := by simp; omega
    have HV := ak (show lu b = false by
     unfold lu
     rw [Bool.and_eq_false_iff]
     left
     rw [List.all_eq_false]
     refine ⟨b.slots[k], List.getElem_mem _, ?_⟩
     have : b.slots[k] = (m : Int) := by rw [← zI]; simp [List.getD, List.getElem?_eq_getElem hkl]
     rw [this]
     simp
     omega)
    clear hm zI
    go_wp2
    go_ret
    exact ⟨by rw [HV.out]; rfl, by apply ab; exact cG.out.trans (sS.out.mono AX.out)⟩
  ·obtain rfl : k = 64 := by omega
   rw [show ((64 : Nat) : Int) = (64 : Int) from rfl]
   have hkb : decide ((64 : Int) < 64) = false := by decide
   have HT := ak (show b.slots.take 64 = b.slots from List.take_of_length_le (by have := HL.out; omega))
   have HA := ak (show (b.slots.all fun s => decide (s ≤ (b.attrs.length : Int))) = true by
    rw [List.all_eq_true]
    intro s hs
    obtain ⟨j, hj, rfl⟩ := List.getElem_of_mem hs
    have := HJ.out j (by have := HL.out; omega)
    simpa [rd, List.getD, hj] using this)
   go_wp2_with fail
   go_loopw [8, 30] (fun _ i W => ∃ k : Nat, k ≤ b.attrs.length ∧ i = .int .i64 k ∧ Aside0 (nQ W gm (lA (b.attrs.take k))) ∧ Aside0 (Below gm W1 W) ∧ Aside0 (∀ j, j < k → fj (iR b.attrs j) = true ∧ (b.attrs.take j).any (sameAt (iR b.attrs j)) = false)) (fun _ i _ => b.attrs.length - (intOf i).toNat)
   case atStart => exact ⟨0, by omega, rfl, HM, ⟨by apply ab; exact sS.out⟩, ⟨fun j hj => by omega⟩⟩
   case round =>
    clear HM gD rj HJ sS
    obtain ⟨k, hk, rfl, HM, HZ, HJ⟩ := hrel
    obtain ⟨W, rfl⟩ : ∃ W : World, W = wr := ⟨_, rfl⟩
    have HR := ak (mG.out.below (by rw [HGE.out]; exact HZ.out))
    by_cases hkn : k < b.attrs.length
    ·have hkb : decide ((k : Int) < (b.attrs.length : Int)) = true := by simp; omega
     obtain ⟨ad, eA, kE, mq⟩ := nv HR.out.ar k (by omega) (by omega)
     cases eA
     rw [Int.toNat_natCast] at kE mq
     have p1 : ((k : Int) < (b.attrs.length : Int)) = True := eq_true (by omega)
     obtain ⟨a, ha⟩ : ∃ a : At, iR b.attrs k = a := ⟨_, rfl⟩
     have ha' : dE b.attrs (k : Int) = a := ha
     rw [ha'] at kE mq
     have kZ := ak ha
     have HK := ak (show (lA (b.attrs.take (k + 1))) = lA (b.attrs.take k) ++ [(a, 1)] by
      unfold lA
      rw [xZ _ _ hkn, ha]
      simp)
     have hbad : (fj a = false ∨ (b.attrs.take k).any (sameAt a) = true) → lu b = false := fun h => by
      unfold lu
      rw [HA.out, Bool.true_and, Bool.and_eq_false_iff]
      left
      rw [List.all_eq_false]
      refine ⟨k, by simpa using hkn, ?_⟩
      rw [ha]
      rcases h with h | h <;> rw [h] <;> simp
     have HBAD := ak hbad
     have tX := ak (show fj a = true → (b.attrs.take k).any (sameAt a) = false → ∀ j, j < k + 1 → fj (iR b.attrs j) = true ∧ (b.attrs.take j).any (sameAt (iR b.attrs j)) = false from fun h1 h2 j hj => by
      by_cases hjk : j < k
      ·exact HJ.out j hjk
      ·obtain rfl : j = k := by omega
       rw [ha]
       exact ⟨h1, h2⟩)
     clear ha ha' hbad
     go_wp2_with (first
      | (refine aH (some 8) rfl rfl 85 rfl [.string ⟨#[]⟩, .string ⟨#[]⟩] (fun _ => by kernel_rfl) ?_; intro ga W3 hga ja yW)
      | (refine a7 rfl 85 (.tmp 8) (.tmp 33) rfl ga [.string a.f0, .string a.f1] rfl rfl 85 _ ja 2 (by kernel_rfl) rfl rfl (by intro u hu; simp at hu; rcases hu with rfl | rfl <;> rfl) ?_; intro W4 m0 D4))
     have qU := ak m0
     have Uq := ja.lt
     have hbW : Below W.heap.size W W4 := yW.grown D4 yW.size (fun q hq => by cases hq; exact hga)
     have Ry := ak (show nQ W4 gm (lA (b.attrs.take k)) from (hbW.block gm (Array.getElem?_eq_some_iff.1 HM.out).1).trans HM.out)
     have HGW := ak (show gm ≤ W.heap.size from by have := (Array.getElem?_eq_some_iff.1 HM.out).1; omega)
     have o7 := ak (HZ.out.trans (hbW.mono HGW.out))
     have HGA := ak (show gm ≠ ga by have := (Array.getElem?_eq_some_iff.1 HM.out).1; omega)
     have HLK := ak (show (lA (b.attrs.take k)).length < 1000 by rw [Fq, List.length_take]; omega)
     have HGS := ak (show gm ≤ W4.heap.size from Nat.le_trans HGW.out hbW.size)
     clear HM HR HZ ja m0 hga yW D4 hbW Uq kE mq
     obtain ⟨n, n5⟩ : ∃ n : Nat, numOf (lA (b.attrs.take k)) a = (n : Int) := by
      rw [Dx]
      split
      ·exact ⟨1, rfl⟩
      ·exact ⟨0, rfl⟩
     have Rx := ak n5
     have CE := ak (show (n = 1 ∧ (b.attrs.take k).any (sameAt a) = true) ∨ (n = 0 ∧ (b.attrs.take k).any (sameAt a) = false) by
      rw [Dx] at n5
      split at n5
      ·rename_i h; exact .inl ⟨by omega, h⟩
      ·rename_i h; exact .inr ⟨by omega, by simpa using h⟩)
     clear n5
     refine dR (n := 7) (S := fun w' => w'.cell? ⟨ga, 0, none⟩ = some (.string a.f0) ∧ w'.cell? ⟨ga, 1, none⟩ = some (.string a.f1) ∧ ∃ L1, nQ w' gm L1 ∧ numOf L1 a = (n : Int)) (ds := [6]) #[false, false, false, false, false, false, false] (by kernel_rfl) rfl rfl ⟨qU.out.cell 0 _ rfl, qU.out.cell 1 _ rfl, _, Ry.out, Rx.out⟩ (fun hHeld => ?_); refine b5 o5.tab13 o5.bits13 (fun ag bM => ?_)
     refine pu 0 ag.out ?_
     refine tk 1 ag.out bM.out hHeld ?_ (hv := by intro w' bj; obtain ⟨s0, s1, s2⟩ := bj; go_simp; with_reducible rfl)
     refine tk 2 ag.out bM.out hHeld ?_ (hv := by intro w' bj; obtain ⟨s0, s1, L1, s2, s3⟩ := bj; have hlk := yS _ _ _ s2 a; rw [s3] at hlk; simp only [fv] at hlk; go_simp; with_reducible rfl)
     refine pu 3 ag.out ?_
     refine on 4 ag.out (fun K hK => ?_)
     obtain ⟨W6, W7, jj, QE, TQ, TO, TM, yD, QK⟩ := Jq W4.drew gm _ Ry.out HLK.out a (wrap64 ((n : Int) + 1)); rw [Rx.out] at QE; simp only [fv] at QE
     refine zL (v := .tuple #[.int .i64 (n : Int), .int .i64 jj]) (w1 := W6) (by rfl) ?_ ?_
     ·go_simp
      try rfl
     refine kn hK ⟨(QK _ HGA.out.symm).trans (qU.out.cell 0 _ rfl), (QK _ HGA.out.symm).trans (qU.out.cell 1 _ rfl), by obtain ⟨L1, h1, h2⟩ := TQ; exact ⟨L1, h1, h2.trans Rx.out⟩⟩ (fun hHeld => ?_)
     clear hK K
     refine pu 5 ag.out ?_
     refine vW (i := 6) (N := none) #[true, true, true, true, true, true, true] rfl rfl (ph ag.out (by kernel_rfl)) (by decide) (fun K hK => ?_)
     refine rm (w1 := ?_) (by rfl) rfl ?_ ?_
     rotate_left
     ·go_simp
      rfl
     refine hK.out _ _ ?_
     clear hK K
     refine dn ag.out ?_
     have yM := ak (show aX W7 ga [.string a.f0, .string a.f1] 85 from (show aX W4.drew ga _ _ from qU.out).grown yD (fun e => HGA.out (Option.some.inj e).symm))
     have GN := ak TM
     have JH := ak ((show Below gm W1 W4.drew from bL o7.out).grown yD HGS.out (fun q hq => by cases hq; exact Nat.le_refl _))
     have RK := ak (show gm ≤ W7.heap.size from Nat.le_trans HGS.out yD.size)
     clear TM yD QK QE TO TQ qU Ry o7 hHeld
     have Lh := yM.out.cell 0 _ rfl
     have zF := yM.out.cell 1 _ rfl
     cases hmy : fj a with
     | false =>
      have HV := ak (HBAD.out (.inl hmy))
      have HMY := ak hmy
      clear hmy
      go_wp2_with (go_at_call 88; refine (kv a _).mono ?_; rintro e W8 ⟨rfl, pE⟩; rw [HMY.out])
      go_ret
      exact ⟨by rw [HV.out]; rfl, cG.out.trans ((JH.out.trans (pE.mono RK.out)).mono AX.out)⟩
     | true =>
      have HMY := ak hmy
      clear hmy
      rcases CE.out with ⟨oy, Cu⟩ | ⟨oy, Cu⟩
      ·have HV := ak (HBAD.out (.inr Cu))
       have Ny := ak (show wrap64 ((n : Int) + 1) = 2 by rw [oy]; unfold wrap64; omega)
       clear oy Cu
       go_wp2_with (first | (go_at_call 88; refine (kv a _).mono ?_; rintro e W8 ⟨rfl, pE⟩; rw [HMY.out]; have yI := ak (JH.out.trans (pE.mono RK.out)); have Ul := (yM.out.below pE).cell 0 _ rfl; have Uk := (yM.out.below pE).cell 1 _ rfl; have E7 := ak (show nQ W8 gm _ from (pE.block gm (Array.getElem?_eq_some_iff.1 GN.out).1).trans GN.out); have hlk := yS _ _ _ E7.out a; rw [Cm, Ny.out] at hlk; simp only [fv] at hlk; clear pE yM GN JH Lh zF))
       go_ret
       exact ⟨by rw [HV.out]; rfl, cG.out.trans (yI.out.mono AX.out)⟩
      ·have Ny := ak (show wrap64 ((n : Int) + 1) = 1 by rw [oy]; unfold wrap64; omega)
       have TY := ak (tX.out HMY.out Cu)
       have HPU := ak (show putAt (lA (b.attrs.take k)) a (wrap64 ((n : Int) + 1)) = lA (b.attrs.take (k + 1)) by rw [Ny.out, J0 _ _ Cu, HK.out])
       clear oy Cu
       go_wp2_with (first | (go_at_call 88; refine (kv a _).mono ?_; rintro e W8 ⟨rfl, pE⟩; rw [HMY.out]; have yI := ak (JH.out.trans (pE.mono RK.out)); have Ul := (yM.out.below pE).cell 0 _ rfl; have Uk := (yM.out.below pE).cell 1 _ rfl; have E7 := ak (show nQ W8 gm _ from (pE.block gm (Array.getElem?_eq_some_iff.1 GN.out).1).trans GN.out); have hlk := yS _ _ _ E7.out a; rw [Cm, Ny.out] at hlk; simp only [fv] at hlk; clear pE yM GN JH Lh zF))
       rw [HPU.out] at E7
       go_roundw
       case rel => exact ⟨k + 1, by omega, by go_num, E7, yI, TY⟩
       case measure => simp [intOf]; omega
    ·obtain rfl : k = b.attrs.length := by omega
     have hkb : decide ((b.attrs.length : Int) < (b.attrs.length : Int)) = false := by simp
     have HAA := ak (show (List.range b.attrs.length).all (fun j => fj (iR b.attrs j) && !((b.attrs.take j).any (sameAt (iR b.attrs j)))) = true by
      rw [List.all_eq_true]
      intro j hj
      obtain ⟨h1, h2⟩ := HJ.out j (by simpa using hj)
      rw [h1, h2]
      rfl)
     have HV := ak (show lu b = decide ((iO (gy b.slots)).length = b.attrs.length) by
      unfold lu
      rw [HA.out, HAA.out, Bool.true_and, Bool.true_and])
     have HXW := ak (gl.out.below (by rw [HGE.out]; exact HZ.out))
     have rj := HXW.out.cell 67 _ (gv _ _ _ _ _ HL.out)
     rw [HT.out]
     go_wp2_with fail
     refine dR (n := 7) (S := fun w' => w'.cell? ⟨g, 67, none⟩ = some (Value.slice A' b.attrs.length c')) (ds := []) #[false, false, false, false, false, false, false] (by kernel_rfl) rfl rfl rj (fun hHeld => ?_); refine b5 oZ.tab17 oZ.bits17 (fun ag bM => ?_)
     refine pu 0 ag.out ?_
     refine pu 2 ag.out ?_
     refine tk 3 ag.out bM.out hHeld ?_
     refine pu 4 ag.out ?_
     refine on 1 ag.out (fun K hK => ?_)
     refine gs Try.func27 #[.int .u64 ((gy b.slots : Nat) : Int)] (N3 (gy b.slots) (qH _) _) ?_
     rintro e W9 ⟨rfl, ⟨nd9, rfl⟩⟩
     refine ⟨_, rfl, ?_⟩
     refine kn hK hHeld (fun hHeld => ?_)
     clear hK K
     refine pu 5 ag.out ?_
     refine pu 6 ag.out ?_
     refine dn ag.out ?_
     try go_wp2
     go_ret
     refine ⟨?_, by apply ab; exact ai (cG.out.trans (HZ.out.mono AX.out))⟩
     rw [HV.out]
     show Ending.returned (Value.bool ((((iO (gy b.slots)).length : Nat) : Int) == ((b.attrs.length : Nat) : Int))) = _
     congr 2
     rw [Bool.eq_iff_iff, beq_iff_eq, decide_eq_true_eq]
     exact Int.ofNat_inj
end Go.Proofs.Ytemhalnhbgkbcaa.V
end

section
namespace Go.Proofs.Ytemhalnhbgkbcaa.V
attribute [local go_sem] dA dy ed ec cP cN dz dx
def oX.f (a0 : Int) : Option (Int) := some ((IntKind.u64.wrap (4294967296 - (IntKind.u64.wrap (2 ^ (32 - (mn (mx a0 0) 32)).toNat)))) % 4294967296)
set_option maxHeartbeats 8000000 in
set_option maxRecDepth 100000 in
theorem oX.calls (a0 : Int) (r : Int) (w : World) (h : oX.f a0 = some r) :
  Calls Try.prog 105 #[.int .i64 a0] w fun e w' => e = .returned (.int .u32 r) ∧ Below w.heap.size w w' := by
 have HB := ak (Below.refl w.heap.size w)
 have H : (some ((IntKind.u64.wrap (4294967296 - (IntKind.u64.wrap (2 ^ (32 - (mn (mx a0 0) 32)).toNat)))) % 4294967296)) = some r := h
 clear h
 obtain ⟨DW, D3⟩ : ∃ j_ : Int, (mx a0 0) = j_ := ⟨_, rfl⟩
 replace H : (some ((IntKind.u64.wrap (4294967296 - (IntKind.u64.wrap (2 ^ (32 - (mn (DW) 32)).toNat)))) % 4294967296)) = some r := by first | (rw [D3] at H; exact H) | (simp only [D3] at H ⊢; exact H)
 (try (have ae3 : 0 ≤ DW := by (rw [← D3]; unfold mx; (repeat' split) <;> omega)))
 (try (have ae2 : 0 ≤ DW := by omega))
 have ae4 : (if a0 < 0 then 0 else a0) = DW := D3
 obtain ⟨Cs, uE⟩ : ∃ j_ : Int, (mn (DW) 32) = j_ := ⟨_, rfl⟩
 replace H : (some ((IntKind.u64.wrap (4294967296 - (IntKind.u64.wrap (2 ^ (32 - (Cs)).toNat)))) % 4294967296)) = some r := by first | (rw [uE] at H; exact H) | (simp only [uE] at H ⊢; exact H)
 have Lm : (if 32 < (DW) then 32 else (DW)) = Cs := uE
 obtain rfl := Option.some.inj H
 go_enter Try.func105, Try.ntmps105
 go_wp2
 go_ret
 exact ⟨by first | rfl | (simp [bf, bd] <;> rfl) | (simp only [← D3, ← uE]; first | rfl | (simp [bf, bd] <;> rfl)) | (simp [*, bf, bd] <;> rfl), by repeat (first | (with_reducible first | exact HB.out | apply af | apply ab | apply ai) | exact HB.out)⟩
end Go.Proofs.Ytemhalnhbgkbcaa.V
end

section
namespace Go.Proofs.Ytemhalnhbgkbcaa.V
attribute [local go_sem] dA dy ed ec cP cN dz dx
def im.f (a0 : Int) : Option (Int) := (oX.f 26).bind fun uM => (some (Go.bits .and .u32 a0 uM))
set_option maxHeartbeats 8000000 in
set_option maxRecDepth 100000 in
theorem im.calls (a0 : Int) (r : Int) (w : World) (h : im.f a0 = some r) :
  Calls Try.prog 80 #[.int .u32 a0] w fun e w' => e = .returned (.int .u32 r) ∧ Below w.heap.size w w' := by
 have HB := ak (Below.refl w.heap.size w)
 have H : ((oX.f 26).bind fun uM => (some (Go.bits .and .u32 a0 uM))) = some r := h
 clear h
 replace H := Option.bind_eq_some_iff.mp H
 obtain ⟨uM, CI, H⟩ := H
 replace H : (some (Go.bits .and .u32 a0 uM)) = some r := H
 have A2 := ak CI
 clear CI
 obtain rfl := Option.some.inj H
 go_enter Try.func80, Try.ntmps80
 go_wp2_with (first | ((with_reducible refine dp (f := 105) rfl ?_); refine fQ (some 4) rfl rfl Try.func105 (by kernel_rfl) rfl #[.int .i64 26] rfl (by (try simp only [List.map_toArray, List.map_cons, List.map_nil]); first | done | rfl | (simp only [List.length_drop, List.length_take]; rfl)) ?_; (with_reducible refine (oX.calls 26 uM _ A2.out).mono ?_); rintro e w3 ⟨rfl, hb⟩; refine ⟨_, rfl, ?_⟩; have bR := ak (bA (by repeat (first | (with_reducible first | exact HB.out | apply af | apply ab | apply ai) | exact HB.out)) hb); clear HB; have HB := bR; clear bR; (try clear hb); (try clear eX); (try clear hk); (try clear hi)))
 go_ret
 exact ⟨by first | rfl | (simp [bf, bd] <;> rfl) | (simp [*, bf, bd] <;> rfl), by repeat (first | (with_reducible first | exact HB.out | apply af | apply ab | apply ai) | exact HB.out)⟩
end Go.Proofs.Ytemhalnhbgkbcaa.V
end

section
namespace Go.Proofs.Ytemhalnhbgkbcaa.V
attribute [local go_sem] dA dy ed ec cP cN dz dx
def il.f (a0 : ByteArray) : Option (Bool) := if a0.toList = ([] : List UInt8) then (some true) else ((fK.f a0).bind fun uN => (some uN))
set_option maxHeartbeats 8000000 in
set_option maxRecDepth 100000 in
theorem il.calls (a0 : ByteArray) (r : Bool) (w : World) (h : il.f a0 = some r) :
  Calls Try.prog 79 #[.string a0] w fun e w' => e = .returned (.bool r) ∧ Below w.heap.size w w' := by
 have HB := ak (Below.refl w.heap.size w)
 have H : (if a0.toList = ([] : List UInt8) then (some true) else ((fK.f a0).bind fun uN => (some uN))) = some r := h
 clear h
 by_cases c2 : a0.toList = ([] : List UInt8)
 ·rw [if_pos c2] at H
  have lW : (a0.toList == ([] : List UInt8)) = true := beq_iff_eq.mpr c2
  have uG : (a0.toList != ([] : List UInt8)) = false := bne_eq_false_iff_eq.mpr c2
  clear c2
  obtain rfl := Option.some.inj H
  go_enter Try.func79, Try.ntmps79
  go_wp2
  go_ret
  exact ⟨by first | rfl | (simp [bf, bd] <;> rfl) | (simp [*, bf, bd] <;> rfl), by repeat (first | (with_reducible first | exact HB.out | apply af | apply ab | apply ai) | exact HB.out)⟩
 ·rw [if_neg c2] at H
  have lW : (a0.toList == ([] : List UInt8)) = false := beq_eq_false_iff_ne.mpr c2
  have uG : (a0.toList != ([] : List UInt8)) = true := bne_iff_ne.mpr c2
  replace H := Option.bind_eq_some_iff.mp H
  obtain ⟨uN, nJ, H⟩ := H
  replace H : (some uN) = some r := H
  have A3 := ak nJ
  clear nJ
  obtain rfl := Option.some.inj H
  go_enter Try.func79, Try.ntmps79
  go_wp2_with (first | (go_at_call 104; (with_reducible refine (fK.calls a0 uN _ A3.out).mono ?_); rintro e w4 ⟨rfl, hb⟩; have bR := ak (bA (by repeat (first | (with_reducible first | exact HB.out | apply af | apply ab | apply ai) | exact HB.out)) hb); clear HB; have HB := bR; clear bR; (try clear hb); (try clear eX); (try clear hk); (try clear hi)))
  go_ret
  exact ⟨by first | rfl | (simp [bf, bd] <;> rfl) | (simp [*, bf, bd] <;> rfl), by repeat (first | (with_reducible first | exact HB.out | apply af | apply ab | apply ai) | exact HB.out)⟩
end Go.Proofs.Ytemhalnhbgkbcaa.V
end

section
namespace Go.Proofs.Ytemhalnhbgkbcaa.V
structure BkOk (b : Bk) : Prop where
 a0 : 0 ≤ b.addr
 a1 : b.addr < 4294967296
 s8 : pI b.slots
 f8 : pI b.free
def cC (a : Int) : Int := a - a % 64
theorem KO (n : Nat) : n &&& 4294967232 = n % 4294967296 - n % 64 := by
 have h1 : n &&& 4294967232 = (n % 4294967296) &&& 4294967232 := by
  apply Nat.eq_of_testBit_eq
  intro i
  rw [Nat.testBit_and, Nat.testBit_and, show (4294967296 : Nat) = 2 ^ 32 from rfl, Nat.testBit_mod_two_pow]
  by_cases h : i < 32
  ·simp [h]
  ·have : (4294967232 : Nat).testBit i = false := Nat.testBit_lt_two_pow (Nat.lt_of_lt_of_le (show (4294967232 : Nat) < 2 ^ 32 by decide) (Nat.pow_le_pow_right (by omega) (by omega)))
   rw [this]
   simp
 have h2 : (n % 4294967296) &&& 4294967232 = (n % 4294967296) / 64 * 64 := by
  apply Nat.eq_of_testBit_eq
  intro i
  rw [Nat.testBit_and, show (64 : Nat) = 2 ^ 6 from rfl, Nat.testBit_mul_two_pow, Nat.testBit_div_two_pow]
  rw [show (4294967232 : Nat) = 67108863 * 2 ^ 6 from rfl, Nat.testBit_mul_two_pow, show (67108863 : Nat) = 2 ^ 26 - 1 from rfl, Nat.testBit_two_pow_sub_one]
  by_cases h6 : 6 ≤ i
  ·by_cases h32 : i < 32
   ·have e : 6 + (i - 6) = i := by omega
    simp [h6, show i - 6 < 26 by omega, e]
   ·have : (n % 4294967296).testBit i = false := Nat.testBit_lt_two_pow (Nat.lt_of_lt_of_le (Nat.mod_lt _ (by decide)) (Nat.pow_le_pow_right (n := 2) (by omega) (show 32 ≤ i by omega)))
    simp [this, h6, show ¬ (i - 6 < 26) by omega]
  ·simp [h6]
 rw [h1, h2]
 omega
theorem BS (a : Int) (h0 : 0 ≤ a) (h1 : a < 4294967296) : im.f a = some (cC a) := by
 obtain ⟨n, rfl⟩ : ∃ n : Nat, a = (n : Int) := ⟨a.toNat, by omega⟩
 unfold im.f cC
 rw [show oX.f 26 = some ((4294967232 : Nat) : Int) from rfl, Option.bind_some]
 congr 1
 rw [u32_and_nat n 4294967232 (by omega) (by omega), KO]
 omega
def gg (s : ByteArray) : Bool := decide (s.toList = []) || fX s
theorem BH (s : ByteArray) : il.f s = some (gg s) := by
 unfold il.f fK.f gg
 by_cases h : s.toList = []
 ·rw [if_pos h]; simp [h]
 ·rw [if_neg h]; simp [h]
def eE (b : Bk) : Bool := (cC b.addr == b.addr) && (gg b.aff && (decide (b.attrs.length ≤ 64) && (lu b && lE b)))
def jm.T1 : Bool × List (List Nat × List Nat) := (true, [([], []), ([0], [0]), ([1], [1]), ([], []), ([3], [3]), ([2, 4], [2, 4]), ([5, 2], [5]), ([6], [6]), ([7, 6], [6, 7]), ([8, 6, 6], [6, 8]), ([6, 9], [6, 9]), ([10, 9], [10]), ([11], [11]), ([12, 11], [11, 12]), ([13, 11], [11, 13]), ([14, 11], [11, 14]), ([11, 15], [11, 15]), ([16, 11], [16]), ([17], [17]), ([18, 17, 17], [17, 18]), ([17, 19], [17, 19]), ([20, 19], [20]), ([21], [21]), ([22, 21, 21], [21, 22]), ([21, 23], [21, 23]), ([24, 23, 0, 1, 2, 3, 4, 5, 6, 7, 8, 9, 10, 11, 12, 13, 14, 15, 16, 17, 18, 19, 20, 21, 22, 23, 24], [24])])
def jm.B1 : List Nat := [0, 1, 3, 0, 8, 31, 63, 127, 255, 511, 1023, 2047, 4095, 8191, 16383, 32767, 65535, 131071, 262143, 524287, 1048575, 2097151, 4194303, 8388607, 16777215, 33554431]
theorem jm.tab1 : eI .any (opsOf Try.f48 1) = jm.T1 := by kernel_rfl
theorem jm.bits1 : eb jm.T1.2 jm.B1 = true := by kernel_rfl
set_option maxHeartbeats 8000000 in
set_option maxRecDepth 100000 in
theorem e8 (b : Bk) (hk : BkOk b) (v : Value) (w : World) (h : jb w v b) :
  Calls Try.prog 48 #[v] w fun e w' => e = .returned (.bool (eE b)) ∧ Below w.heap.size w w' := by
 obtain ⟨A, c, A', c', rfl, hr⟩ := h
 have HL := ak hr.l64
 have HR := ak hr
 have HS := ak hk.s8
 have HF := ak hk.f8
 have j3 := ak (BS b.addr hk.a0 hk.a1)
 have lO := ak (BH b.aff)
 have HLL := ak (show (Try.prog.info? 57).map (·.size) = some (bk b.addr b.aff b.slots (.slice A b.free.length c) (.slice A' b.attrs.length c')).length by rw [ao _ _ _ _ _ hr.l64]; kernel_rfl)
 clear hr hk
 go_enter Try.func48, Try.ntmps48
 go_wp2_with (refine aV rfl 57 (.tmp 0) rfl _ rfl ?_; intro g W1 hg hbx cI; have HX := ak (show aX W1.drew g _ _ from hbx); have HB := ak (bL cI); have mG := ak ((HR.out.below cI).below (bL (Below.refl W1.heap.size W1))); have HZ := ak (Below.refl W1.drew.heap.size W1.drew); clear hbx cI hg HR)
 cases h1 : (cC b.addr == b.addr) with
 | false =>
  have HV := ak (show eE b = false by unfold eE; rw [h1]; rfl)
  refine dR (n := 26) (S := fun w' => aX w' g (bk b.addr b.aff b.slots (.slice A b.free.length c) (.slice A' b.attrs.length c')) 57) (ds := []) #[false, false, false, false, false, false, false, false, false, false, false, false, false, false, false, false, false, false, false, false, false, false, false, false, false, false] (by kernel_rfl) rfl rfl HX.out (fun hHeld => ?_); refine b5 jm.tab1 jm.bits1 (fun ag bM => ?_)
  refine pu 0 ag.out ?_
  refine tk 1 ag.out bM.out hHeld ?_ (hv := by intro w' bj; have s0 := bj.cell 0 _ rfl; go_simp; with_reducible rfl)
  refine pu 3 ag.out ?_
  refine tk 4 ag.out bM.out hHeld ?_ (hv := by intro w' bj; have s0 := bj.cell 0 _ rfl; go_simp; with_reducible rfl)
  refine on 2 ag.out (fun K hK => ?_)
  refine gs Try.func80 #[.int .u32 b.addr] (im.calls _ _ _ j3.out) ?_
  rintro e V2 ⟨rfl, hb⟩
  refine ⟨_, rfl, ?_⟩
  have HXn := hHeld.below hb; have HZn := ak (bA HZ.out hb); clear HZ; have HZ := HZn; clear HZn hb
  refine kn hK HXn (fun hHeld => ?_)
  clear hK K
  refine pu 5 ag.out ?_
  refine pu 6 ag.out ?_
  refine po 7 ag.out ?_
  refine po 8 ag.out ?_
  refine po 9 ag.out ?_
  refine pu 10 ag.out ?_
  refine pu 11 ag.out ?_
  refine po 12 ag.out ?_
  refine po 13 ag.out ?_
  refine po 14 ag.out ?_
  refine po 15 ag.out ?_
  refine pu 16 ag.out ?_
  refine pu 17 ag.out ?_
  refine po 18 ag.out ?_
  refine po 19 ag.out ?_
  refine pu 20 ag.out ?_
  refine pu 21 ag.out ?_
  refine po 22 ag.out ?_
  refine po 23 ag.out ?_
  refine pu 24 ag.out ?_
  refine pu 25 ag.out ?_
  refine dn ag.out ?_
  try go_wp2
  go_ret
  refine ⟨?_, HB.out.trans (HZ.out.mono HB.out.size)⟩
  rw [HV.out]; rfl
 | true =>
  cases h2 : gg b.aff with
  | false =>
   have HV := ak (show eE b = false by unfold eE; rw [h1, h2]; rfl)
   rw [h2] at lO
   refine dR (n := 26) (S := fun w' => aX w' g (bk b.addr b.aff b.slots (.slice A b.free.length c) (.slice A' b.attrs.length c')) 57) (ds := []) #[false, false, false, false, false, false, false, false, false, false, false, false, false, false, false, false, false, false, false, false, false, false, false, false, false, false] (by kernel_rfl) rfl rfl HX.out (fun hHeld => ?_); refine b5 jm.tab1 jm.bits1 (fun ag bM => ?_)
   refine pu 0 ag.out ?_
   refine tk 1 ag.out bM.out hHeld ?_ (hv := by intro w' bj; have s0 := bj.cell 0 _ rfl; go_simp; with_reducible rfl)
   refine pu 3 ag.out ?_
   refine tk 4 ag.out bM.out hHeld ?_ (hv := by intro w' bj; have s0 := bj.cell 0 _ rfl; go_simp; with_reducible rfl)
   refine on 2 ag.out (fun K hK => ?_)
   refine gs Try.func80 #[.int .u32 b.addr] (im.calls _ _ _ j3.out) ?_
   rintro e V2 ⟨rfl, hb⟩
   refine ⟨_, rfl, ?_⟩
   have HXn := hHeld.below hb; have HZn := ak (bA HZ.out hb); clear HZ; have HZ := HZn; clear HZn hb
   refine kn hK HXn (fun hHeld => ?_)
   clear hK K
   refine pu 5 ag.out ?_
   refine pu 6 ag.out ?_
   refine pu 7 ag.out ?_
   refine tk 8 ag.out bM.out hHeld ?_ (hv := by intro w' bj; have s0 := bj.cell 1 _ rfl; go_simp; with_reducible rfl)
   refine on 9 ag.out (fun K hK => ?_)
   refine gs Try.func79 #[.string b.aff] (il.calls _ _ _ lO.out) ?_
   rintro e V9 ⟨rfl, hb⟩
   refine ⟨_, rfl, ?_⟩
   have HXn := hHeld.below hb; have HZn := ak (bA HZ.out hb); clear HZ; have HZ := HZn; clear HZn hb
   refine kn hK HXn (fun hHeld => ?_)
   clear hK K
   refine pu 10 ag.out ?_
   refine pu 11 ag.out ?_
   refine po 12 ag.out ?_
   refine po 13 ag.out ?_
   refine po 14 ag.out ?_
   refine po 15 ag.out ?_
   refine pu 16 ag.out ?_
   refine pu 17 ag.out ?_
   refine po 18 ag.out ?_
   refine po 19 ag.out ?_
   refine pu 20 ag.out ?_
   refine pu 21 ag.out ?_
   refine po 22 ag.out ?_
   refine po 23 ag.out ?_
   refine pu 24 ag.out ?_
   refine pu 25 ag.out ?_
   refine dn ag.out ?_
   try go_wp2
   go_ret
   refine ⟨?_, HB.out.trans (HZ.out.mono HB.out.size)⟩
   rw [HV.out]; rfl
  | true =>
   rw [h2] at lO
   by_cases h3 : b.attrs.length ≤ 64
   ·have ZO : decide ((b.attrs.length : Int) ≤ 64) = true := by simp; omega
    have HN := ak h3
    cases h4 : lu b with
    | false =>
     have HV := ak (show eE b = false by unfold eE; rw [h1, h2, h4]; simp)
     have qU := ak h4
     refine dR (n := 26) (S := fun w' => aX w' g (bk b.addr b.aff b.slots (.slice A b.free.length c) (.slice A' b.attrs.length c')) 57) (ds := []) #[false, false, false, false, false, false, false, false, false, false, false, false, false, false, false, false, false, false, false, false, false, false, false, false, false, false] (by kernel_rfl) rfl rfl HX.out (fun hHeld => ?_); refine b5 jm.tab1 jm.bits1 (fun ag bM => ?_)
     refine pu 0 ag.out ?_
     refine tk 1 ag.out bM.out hHeld ?_ (hv := by intro w' bj; have s0 := bj.cell 0 _ rfl; go_simp; with_reducible rfl)
     refine pu 3 ag.out ?_
     refine tk 4 ag.out bM.out hHeld ?_ (hv := by intro w' bj; have s0 := bj.cell 0 _ rfl; go_simp; with_reducible rfl)
     refine on 2 ag.out (fun K hK => ?_)
     refine gs Try.func80 #[.int .u32 b.addr] (im.calls _ _ _ j3.out) ?_
     rintro e V2 ⟨rfl, hb⟩
     refine ⟨_, rfl, ?_⟩
     have HXn := hHeld.below hb; have HZn := ak (bA HZ.out hb); clear HZ; have HZ := HZn; clear HZn hb
     refine kn hK HXn (fun hHeld => ?_)
     clear hK K
     refine pu 5 ag.out ?_
     refine pu 6 ag.out ?_
     refine pu 7 ag.out ?_
     refine tk 8 ag.out bM.out hHeld ?_ (hv := by intro w' bj; have s0 := bj.cell 1 _ rfl; go_simp; with_reducible rfl)
     refine on 9 ag.out (fun K hK => ?_)
     refine gs Try.func79 #[.string b.aff] (il.calls _ _ _ lO.out) ?_
     rintro e V9 ⟨rfl, hb⟩
     refine ⟨_, rfl, ?_⟩
     have HXn := hHeld.below hb; have HZn := ak (bA HZ.out hb); clear HZ; have HZ := HZn; clear HZn hb
     refine kn hK HXn (fun hHeld => ?_)
     clear hK K
     refine pu 10 ag.out ?_
     refine pu 11 ag.out ?_
     refine pu 12 ag.out ?_
     refine tk 13 ag.out bM.out hHeld ?_ (hv := by intro w' bj; have s0 := bj.cell 67 _ (gv _ _ _ _ _ HL.out); go_simp; with_reducible rfl)
     refine pu 14 ag.out ?_
     refine pu 15 ag.out ?_
     refine pu 16 ag.out ?_
     refine pu 17 ag.out ?_
     refine tk 18 ag.out bM.out hHeld ?_ (hv := by exact fun _ bj => aY 57 (.tmp 1) rfl g rfl _ _ _ bj Try.underlying57 rfl HLL.out)
     refine on 19 ag.out (fun K hK => ?_)
     refine gs Try.func86 #[.agg (bk b.addr b.aff b.slots (.slice A b.free.length c) (.slice A' b.attrs.length c')).toArray] (CB b HS.out HN.out _ _ ⟨A, c, A', c', rfl, mG.out.below HZ.out⟩) ?_
     rintro e Z4 ⟨rfl, hb⟩
     refine ⟨_, rfl, ?_⟩
     have HXn := hHeld.below hb; rw [qU.out]; have HZn := ak (bA HZ.out hb); clear HZ; have HZ := HZn; clear HZn hb
     refine kn hK HXn (fun hHeld => ?_)
     clear hK K
     refine pu 20 ag.out ?_
     refine pu 21 ag.out ?_
     refine po 22 ag.out ?_
     refine po 23 ag.out ?_
     refine pu 24 ag.out ?_
     refine pu 25 ag.out ?_
     refine dn ag.out ?_
     try go_wp2
     go_ret
     refine ⟨?_, HB.out.trans (HZ.out.mono HB.out.size)⟩
     rw [HV.out]; rfl
    | true =>
     have HV := ak (show eE b = lE b by unfold eE; rw [h1, h2, h4, decide_eq_true h3]; rfl)
     have qU := ak h4
     refine dR (n := 26) (S := fun w' => aX w' g (bk b.addr b.aff b.slots (.slice A b.free.length c) (.slice A' b.attrs.length c')) 57) (ds := []) #[false, false, false, false, false, false, false, false, false, false, false, false, false, false, false, false, false, false, false, false, false, false, false, false, false, false] (by kernel_rfl) rfl rfl HX.out (fun hHeld => ?_); refine b5 jm.tab1 jm.bits1 (fun ag bM => ?_)
     refine pu 0 ag.out ?_
     refine tk 1 ag.out bM.out hHeld ?_ (hv := by intro w' bj; have s0 := bj.cell 0 _ rfl; go_simp; with_reducible rfl)
     refine pu 3 ag.out ?_
     refine tk 4 ag.out bM.out hHeld ?_ (hv := by intro w' bj; have s0 := bj.cell 0 _ rfl; go_simp; with_reducible rfl)
     refine on 2 ag.out (fun K hK => ?_)
     refine gs Try.func80 #[.int .u32 b.addr] (im.calls _ _ _ j3.out) ?_
     rintro e V2 ⟨rfl, hb⟩
     refine ⟨_, rfl, ?_⟩
     have HXn := hHeld.below hb; have HZn := ak (bA HZ.out hb); clear HZ; have HZ := HZn; clear HZn hb
     refine kn hK HXn (fun hHeld => ?_)
     clear hK K
     refine pu 5 ag.out ?_
     refine pu 6 ag.out ?_
     refine pu 7 ag.out ?_
     refine tk 8 ag.out bM.out hHeld ?_ (hv := by intro w' bj; have s0 := bj.cell 1 _ rfl; go_simp; with_reducible rfl)
     refine on 9 ag.out (fun K hK => ?_)
     refine gs Try.func79 #[.string b.aff] (il.calls _ _ _ lO.out) ?_
     rintro e V9 ⟨rfl, hb⟩
     refine ⟨_, rfl, ?_⟩
     have HXn := hHeld.below hb; have HZn := ak (bA HZ.out hb); clear HZ; have HZ := HZn; clear HZn hb
     refine kn hK HXn (fun hHeld => ?_)
     clear hK K
     refine pu 10 ag.out ?_
     refine pu 11 ag.out ?_
     refine pu 12 ag.out ?_
     refine tk 13 ag.out bM.out hHeld ?_ (hv := by intro w' bj; have s0 := bj.cell 67 _ (gv _ _ _ _ _ HL.out); go_simp; with_reducible rfl)
     refine pu 14 ag.out ?_
     refine pu 15 ag.out ?_
     refine pu 16 ag.out ?_
     refine pu 17 ag.out ?_
     refine tk 18 ag.out bM.out hHeld ?_ (hv := by exact fun _ bj => aY 57 (.tmp 1) rfl g rfl _ _ _ bj Try.underlying57 rfl HLL.out)
     refine on 19 ag.out (fun K hK => ?_)
     refine gs Try.func86 #[.agg (bk b.addr b.aff b.slots (.slice A b.free.length c) (.slice A' b.attrs.length c')).toArray] (CB b HS.out HN.out _ _ ⟨A, c, A', c', rfl, mG.out.below HZ.out⟩) ?_
     rintro e Z4 ⟨rfl, hb⟩
     refine ⟨_, rfl, ?_⟩
     have HXn := hHeld.below hb; rw [qU.out]; have HZn := ak (bA HZ.out hb); clear HZ; have HZ := HZn; clear HZn hb
     refine kn hK HXn (fun hHeld => ?_)
     clear hK K
     refine pu 20 ag.out ?_
     refine pu 21 ag.out ?_
     refine tk 22 ag.out bM.out hHeld ?_ (hv := by exact fun _ bj => aY 57 (.tmp 1) rfl g rfl _ _ _ bj Try.underlying57 rfl HLL.out)
     refine on 23 ag.out (fun K hK => ?_)
     refine gs Try.func87 #[.agg (bk b.addr b.aff b.slots (.slice A b.free.length c) (.slice A' b.attrs.length c')).toArray] (KE b HF.out HS.out _ _ ⟨A, c, A', c', rfl, mG.out.below HZ.out⟩) ?_
     rintro e V23 ⟨rfl, hb⟩
     refine ⟨_, rfl, ?_⟩
     have HXn := hHeld.below hb; have HZn := ak (bA HZ.out hb); clear HZ; have HZ := HZn; clear HZn hb
     refine kn hK HXn (fun hHeld => ?_)
     clear hK K
     refine pu 24 ag.out ?_
     refine pu 25 ag.out ?_
     refine dn ag.out ?_
     try go_wp2
     go_ret
     refine ⟨?_, HB.out.trans (HZ.out.mono HB.out.size)⟩
     rw [HV.out]; rfl
   ·have ZO : decide ((b.attrs.length : Int) ≤ 64) = false := by simp; omega
    have HV := ak (show eE b = false by unfold eE; rw [h1, h2, decide_eq_false h3]; rfl)
    refine dR (n := 26) (S := fun w' => aX w' g (bk b.addr b.aff b.slots (.slice A b.free.length c) (.slice A' b.attrs.length c')) 57) (ds := []) #[false, false, false, false, false, false, false, false, false, false, false, false, false, false, false, false, false, false, false, false, false, false, false, false, false, false] (by kernel_rfl) rfl rfl HX.out (fun hHeld => ?_); refine b5 jm.tab1 jm.bits1 (fun ag bM => ?_)
    refine pu 0 ag.out ?_
    refine tk 1 ag.out bM.out hHeld ?_ (hv := by intro w' bj; have s0 := bj.cell 0 _ rfl; go_simp; with_reducible rfl)
    refine pu 3 ag.out ?_
    refine tk 4 ag.out bM.out hHeld ?_ (hv := by intro w' bj; have s0 := bj.cell 0 _ rfl; go_simp; with_reducible rfl)
    refine on 2 ag.out (fun K hK => ?_)
    refine gs Try.func80 #[.int .u32 b.addr] (im.calls _ _ _ j3.out) ?_
    rintro e V2 ⟨rfl, hb⟩
    refine ⟨_, rfl, ?_⟩
    have HXn := hHeld.below hb; have HZn := ak (bA HZ.out hb); clear HZ; have HZ := HZn; clear HZn hb
    refine kn hK HXn (fun hHeld => ?_)
    clear hK K
    refine pu 5 ag.out ?_
    refine pu 6 ag.out ?_
    refine pu 7 ag.out ?_
    refine tk 8 ag.out bM.out hHeld ?_ (hv := by intro w' bj; have s0 := bj.cell 1 _ rfl; go_simp; with_reducible rfl)
    refine on 9 ag.out (fun K hK => ?_)
    refine gs Try.func79 #[.string b.aff] (il.calls _ _ _ lO.out) ?_
    rintro e V9 ⟨rfl, hb⟩
    refine ⟨_, rfl, ?_⟩
    have HXn := hHeld.below hb; have HZn := ak (bA HZ.out hb); clear HZ; have HZ := HZn; clear HZn hb
    refine kn hK HXn (fun hHeld => ?_)
    clear hK K
    refine pu 10 ag.out ?_
    refine pu 11 ag.out ?_
    refine pu 12 ag.out ?_
    refine tk 13 ag.out bM.out hHeld ?_ (hv := by intro w' bj; have s0 := bj.cell 67 _ (gv _ _ _ _ _ HL.out); go_simp; with_reducible rfl)
    refine pu 14 ag.out ?_
    refine pu 15 ag.out ?_
    refine pu 16 ag.out ?_
    refine pu 17 ag.out ?_
    refine po 18 ag.out ?_
    refine po 19 ag.out ?_
    refine pu 20 ag.out ?_
    refine pu 21 ag.out ?_
    refine po 22 ag.out ?_
    refine po 23 ag.out ?_
    refine pu 24 ag.out ?_
    refine pu 25 ag.out ?_
    refine dn ag.out ?_
    try go_wp2
    go_ret
    refine ⟨?_, HB.out.trans (HZ.out.mono HB.out.size)⟩
    rw [HV.out]; rfl
end Go.Proofs.Ytemhalnhbgkbcaa.V
end

section
namespace Go.Proofs.Ytemhalnhbgkbcaa.V
theorem BM : (Try.prog.info? 5).map (fun i => (i.zero, i.size, i.bytes)) = some (some (.int .u8 0), 1, 1) := by kernel_rfl
theorem BN : (Try.prog.info? 85).map (fun i => (i.zero, i.size, i.bytes)) = some (some (.agg #[.string ⟨#[]⟩, .string ⟨#[]⟩]), 2, 32) := by kernel_rfl
theorem BB {α : Type} {d : Kd α} {w : World} {xs : List α} (h : Kd.C d w none xs.length xs) : xs = [] := by
 rcases Nat.eq_zero_or_pos xs.length with h0 | h0
 ·exact List.eq_nil_of_length_eq_zero h0
 ·obtain ⟨ad, he, _⟩ := h.2.2 h0
  cases he
set_option maxHeartbeats 2000000 in
set_option maxRecDepth 100000 in
theorem BW (xs : List Int) (A : Option Addr) (c : Nat) (w : World) (hr : Kd.C (Kd.int .u8) w A xs.length xs) (hc : xs.length ≤ c) (hl : xs.length ≤ 4294967296) :
  Calls Try.prog 91 #[.slice A xs.length c] w fun e w' => ∃ v, e = .returned v ∧ Kd.R (Kd.int .u8) 5 w' w.heap.size (fun _ => True) v xs ∧ Below w.heap.size w w' := by
 have YY : ∀ (w : World) (a : Option Addr) (n c n' c' : Nat), (binOp .eql 48 (.slice a n c) (.slice none n' c')).run Try.prog w = .ok (.bool a.isNone) w := fun w a n c n' c' => Lib.run_eql_slice_nil w _ _ a n c n' c' Try.underlying48
 cases A with
 | none =>
  obtain rfl := BB hr
  clear hr
  go_enter Try.func91, Try.ntmps91
  go_wp2
  go_ret
  exact ⟨_, rfl, Kd.R_nil _ _ _ _ _, Below.refl _ _⟩
 | some ad =>
  have HR := ak hr
  have HL := ak hl
  clear hr hl
  go_enter Try.func91, Try.ntmps91
  go_wp2_with (first
   | ((with_reducible refine aJ (N := 5) rfl ?_); refine Kd.R_lit (Kd.int .u8) w.heap.size 5 (w0 := w) ?hg (N := 5) ?hd (xs := ([] : List Int)) (inner := []) (ok := fun _ => True) (okp := fun _ => True) ?hr ?hp (fun _ hk => hk) trivial (Below.refl _ _) (Nat.le_refl _) (by simp) ?_; (case hd => rfl); (case hg => rfl); (case hr => first | (go_simp; done) | (go_simp; rfl)); (case hp => exact (dF.none _ _)); intro v1 w1 fT cI l6 oy; have mZ := ak fT; have cG := ak cI; clear fT cI l6 oy)
   | ((with_reducible refine cy (b := .append) (xs := #[.tmp 5, .tmp 6]) rfl ?_); at_builtin; refine Kd.R_append_rows (Kd.int .u8) (w0 := w) w.heap.size rfl (.tmp 5) (.tmp 6) 48 5 (.int .u8 0) 1 rfl Try.underlying48 BM rfl (by decide) (by omega) _ [] xs (some ad) xs.length c (fun _ => True) (fun _ => False) rfl rfl mZ.out (Kd.C_below HR.out cG.out) (fun x cs h => h) (fun _ h => h.elim) (fun _ _ => trivial) cG.out cG.out.size (by have := HL.out; simp; omega) ?_; intro v2 w2 Jg eX Ji Uv))
  go_ret
  exact ⟨_, rfl, Jg, eX⟩
set_option maxHeartbeats 2000000 in
set_option maxRecDepth 100000 in
theorem Po (xs : List At) (A : Option Addr) (c : Nat) (w : World) (hr : Kd.C lf w A xs.length xs) (hc : xs.length ≤ c) (hl : xs.length ≤ 4294967296) :
  Calls Try.prog 109 #[.slice A xs.length c] w fun e w' => ∃ v, e = .returned v ∧ Kd.R lf 85 w' w.heap.size (fun _ => True) v xs ∧ Below w.heap.size w w' := by
 have YY : ∀ (w : World) (a : Option Addr) (n c n' c' : Nat), (binOp .eql 55 (.slice a n c) (.slice none n' c')).run Try.prog w = .ok (.bool a.isNone) w := fun w a n c n' c' => Lib.run_eql_slice_nil w _ _ a n c n' c' Try.underlying55
 cases A with
 | none =>
  obtain rfl := BB hr
  clear hr
  go_enter Try.func109, Try.ntmps109
  go_wp2
  go_ret
  exact ⟨_, rfl, Kd.R_nil _ _ _ _ _, Below.refl _ _⟩
 | some ad =>
  have HR := ak hr
  have HL := ak hl
  clear hr hl
  go_enter Try.func109, Try.ntmps109
  go_wp2_with (first
   | ((with_reducible refine aJ (N := 5) rfl ?_); refine Kd.R_lit lf w.heap.size 85 (w0 := w) ?hg (N := 5) ?hd (xs := ([] : List At)) (inner := []) (ok := fun _ => True) (okp := fun _ => True) ?hr ?hp (fun _ hk => hk) trivial (Below.refl _ _) (Nat.le_refl _) (by simp) ?_; (case hd => rfl); (case hg => rfl); (case hr => first | (go_simp; done) | (go_simp; rfl)); (case hp => exact (dF.none _ _)); intro v1 w1 fT cI l6 oy; have mZ := ak fT; have cG := ak cI; clear fT cI l6 oy)
   | ((with_reducible refine cy (b := .append) (xs := #[.tmp 5, .tmp 6]) rfl ?_); at_builtin; refine Kd.R_append_rows lf (w0 := w) w.heap.size rfl (.tmp 5) (.tmp 6) 55 85 (.agg #[.string ⟨#[]⟩, .string ⟨#[]⟩]) 32 rfl Try.underlying55 BN rfl (by decide) (by omega) _ [] xs (some ad) xs.length c (fun _ => True) (fun _ => False) rfl rfl mZ.out (Kd.C_below HR.out cG.out) (fun x cs h => by rw [DV h]; exact BK _ _ _ _) (fun _ h => h.elim) (fun _ _ => trivial) cG.out cG.out.size (by have := HL.out; simp; omega) ?_; intro v2 w2 Jg eX Ji Uv))
  go_ret
  exact ⟨_, rfl, Jg, eX⟩
end Go.Proofs.Ytemhalnhbgkbcaa.V
end

section
namespace Go.Proofs.Ytemhalnhbgkbcaa.V
theorem bO {α : Type} {d : Kd α} {e : Nat} {W W1 : World} {base g t : Nat} {ok : Nat → Prop} {v : Value} {xs : List α} {cs : List Value} (h : Kd.R d e W base ok v xs) (hb : aX W g cs t) (ht : ∀ q, q ∈ e :: d.E → q ≠ t) (hg : W.grownBy W1 (some g)) : Kd.R d e W1 base ok v xs :=
 Kd.R_mono (Kd.R_grown (Kd.R_types h hb ht) hg (fun k hk he => hk.2 (Option.some.inj he))) (fun _ hk => hk.1)
def eP (W : World) (base : Nat) (v : Value) (b : Bk) : Prop := b.slots.length = 64 ∧ ∃ vf va, v = .agg (bk b.addr b.aff b.slots vf va).toArray ∧ Kd.R (Kd.int .u8) 5 W base (fun _ => True) vf b.free ∧ Kd.R lf 85 W base (fun _ => True) va b.attrs
theorem eP.toV {W : World} {base : Nat} {v : Value} {b : Bk} (h : eP W base v b) : jb W v b := by
 obtain ⟨hl, vf, va, rfl, hf, ha⟩ := h
 obtain ⟨A, c, rfl, h1, h2⟩ := Kd.R_reads hf
 obtain ⟨A', c', rfl, h3, h4⟩ := Kd.R_reads ha
 exact ⟨A, c, A', c', rfl, hl, h2, h1, h4, h3⟩
theorem eP.below {W W1 : World} {base : Nat} {v : Value} {b : Bk} (h : eP W base v b) (hb : Below W.heap.size W W1) : eP W1 base v b := by
 obtain ⟨hl, vf, va, rfl, hf, ha⟩ := h
 exact ⟨hl, vf, va, rfl, Kd.R_below hf hb, Kd.R_below ha hb⟩
theorem eP.lower {W : World} {base base' : Nat} {v : Value} {b : Bk} (h : eP W base v b) (hb : base' ≤ base) : eP W base' v b := by
 obtain ⟨hl, vf, va, rfl, hf, ha⟩ := h
 exact ⟨hl, vf, va, rfl, Kd.R_lower hf hb, Kd.R_lower ha hb⟩
def kC : Bk := ⟨0, ⟨#[]⟩, List.replicate 64 0, [], []⟩
def bu : List Value := bk 0 ⟨#[]⟩ (List.replicate 64 0) (.slice none 0 0) (.slice none 0 0)
theorem b6 (w : World) : (zeroValue 57).run Try.prog w = .ok (.agg bu.toArray) w := by kernel_rfl
theorem oC (W : World) (base : Nat) : eP W base (.agg bu.toArray) kC := ⟨rfl, _, _, rfl, Kd.R_nil _ _ _ _ _, Kd.R_nil _ _ _ _ _⟩
theorem dc (l : List Value) (h : l.length = 68) : (Try.prog.info? 57).map (·.size) = some l.length := by rw [h]; kernel_rfl
def nu.T1 : Bool × List (List Nat × List Nat) := (true, [([], []), ([0], [0]), ([1], [1]), ([], []), ([3], [3]), ([4, 2], [4]), ([0, 1, 2, 3, 4], []), ([6, 2, 5, 0, 1, 2, 3, 4], [2, 6]), ([0, 1, 2, 3, 4, 5, 6, 7], []), ([8, 5, 7, 0, 1, 2, 3, 4, 5, 6, 7], [5, 8])])
def nu.B1 : List Nat := [0, 1, 3, 0, 8, 31, 31, 127, 255, 511]
theorem nu.tab1 : eI .any (opsOf Try.f89 1) = nu.T1 := by kernel_rfl
theorem nu.bits1 : eb nu.T1.2 nu.B1 = true := by kernel_rfl
set_option maxHeartbeats 4000000 in
set_option maxRecDepth 100000 in
theorem nO (b : Bk) (hf : b.free.length ≤ 4294967296) (ha : b.attrs.length ≤ 4294967296) (v : Value) (w : World) (h : jb w v b) :
  Calls Try.prog 89 #[v] w fun e w' => ∃ v', e = .returned v' ∧ eP w' w.heap.size v' b ∧ Below w.heap.size w w' := by
 obtain ⟨A, c, A', c', rfl, hr⟩ := h
 have HL := ak hr.l64
 have HR := ak hr
 have HF := ak hf
 have HA := ak ha
 clear hr hf ha
 go_enter Try.func89, Try.ntmps89
 go_wp2_with (first
  | (refine aV rfl 57 (.tmp 0) rfl _ rfl ?_; intro g W1 hg hbx cI; have gl := ak hbx; have cG := ak cI; have HG := ak hg; clear hbx cI hg)
  | (refine aH (some 2) rfl rfl 57 rfl bu b6 ?_; intro g2 W2 Ji Eh eX))
 have HX := ak (show aX W2.drew g _ _ from (show aX W2 g _ _ from gl.out.below eX))
 have HY := ak (show aX W2.drew g2 _ _ from Eh)
 have HNE := ak (show g ≠ g2 by have := gl.out.lt; omega)
 have HB := ak (bL (cG.out.trans (eX.mono cG.out.size)))
 have AX := ak (show w.heap.size ≤ g2 by have := cG.out.size; omega)
 have xK := ak (HR.out.below HB.out)
 have HZ := ak (Below.refl W2.drew.heap.size W2.drew)
 clear Eh eX Ji gl cG
 refine dR (n := 10) (S := fun w' => w'.cell? ⟨g, 66, none⟩ = some (.slice A b.free.length c) ∧ w'.cell? ⟨g, 67, none⟩ = some (.slice A' b.attrs.length c')) (ds := [7, 9]) #[false, false, false, false, false, false, false, false, false, false] (by kernel_rfl) rfl rfl ⟨HX.out.cell 66 _ (gF _ _ _ _ _ HL.out), HX.out.cell 67 _ (gv _ _ _ _ _ HL.out)⟩ (fun hHeld => ?_); refine b5 nu.tab1 nu.bits1 (fun ag bM => ?_)
 refine pu 0 ag.out ?_
 refine tk 1 ag.out bM.out hHeld ?_ (hv := by intro w' bj; obtain ⟨s0, s1⟩ := bj; go_simp; with_reducible rfl)
 refine pu 3 ag.out ?_
 refine tk 4 ag.out bM.out hHeld ?_ (hv := by intro w' bj; obtain ⟨s0, s1⟩ := bj; go_simp; with_reducible rfl)
 refine on 2 ag.out (fun K hK => ?_)
 refine gs Try.func91 #[.slice A b.free.length c] (BW b.free A c _ (xK.out.below HZ.out).fr HR.out.fc HF.out) ?_
 rintro e V3 ⟨vf, rfl, hrf, iP⟩
 refine ⟨_, rfl, ?_⟩
 have CD := ak (bA HZ.out iP); have HRF := ak hrf; obtain ⟨Af, cf, rfl⟩ := Kd.R_slice hrf; clear hrf
 refine kn hK ⟨(HX.out.below CD.out).cell 66 _ (gF _ _ _ _ _ HL.out), (HX.out.below CD.out).cell 67 _ (gv _ _ _ _ _ HL.out)⟩ (fun hHeld => ?_)
 clear hK K
 refine pu 6 ag.out ?_
 refine on 5 ag.out (fun K hK => ?_)
 refine gs Try.func109 #[.slice A' b.attrs.length c'] (Po b.attrs A' c' _ (xK.out.below CD.out).ar HR.out.ac HA.out) ?_
 rintro e V4 ⟨va, rfl, hra, sH⟩
 refine ⟨_, rfl, ?_⟩
 have o7 := ak (bA CD.out sH); have HRA := ak hra; have UP := ak (Kd.R_below HRF.out sH); obtain ⟨Aa, ca, rfl⟩ := Kd.R_slice hra; clear hra
 refine kn hK ⟨(HX.out.below o7.out).cell 66 _ (gF _ _ _ _ _ HL.out), (HX.out.below o7.out).cell 67 _ (gv _ _ _ _ _ HL.out)⟩ (fun hHeld => ?_)
 clear hK K
 refine vW (i := 7) (N := none) #[true, true, true, true, true, true, true, true, false, false] rfl rfl (ph ag.out (by kernel_rfl)) (by decide) (fun K hK => ?_)
 have ah1 := (HX.out.below o7.out).frozen 66; have QL := (HX.out.below o7.out).cell 66 _ (gF _ _ _ _ _ HL.out)
 refine rm (w1 := ?_) (by rfl) rfl ?_ ?_
 rotate_left
 ·go_simp
  rfl
 refine hK.out _ _ ?_
 clear hK K
 refine pu 8 ag.out ?_
 refine vW (i := 9) (N := none) #[true, true, true, true, true, true, true, true, true, true] rfl rfl (ph ag.out (by kernel_rfl)) (by decide) (fun K hK => ?_)
 have Us := (HX.out.below o7.out).frozen 67; have Kx := (HX.out.below o7.out).cell 67 _ (gv _ _ _ _ _ HL.out)
 refine rm (w1 := ?_) (by rfl) rfl ?_ ?_
 rotate_left
 ·go_simp
  rfl
 refine hK.out _ _ ?_
 clear hK K
 refine dn ag.out ?_
 have Je := ((HX.out.below o7.out).set 66 (.slice Af b.free.length cf)).set 67 (.slice Aa b.attrs.length ca)
 rw [me _ _ _ _ _ HL.out, we _ _ _ _ _ HL.out] at Je
 have pz : W2.drew.heap.size ≤ V4.heap.size := o7.out.size
 have Ks := bO (bO (Kd.R_lower UP.out HB.out.size) (HX.out.below o7.out) (by decide) (bP V4 g 66 (.slice Af b.free.length cf))) ((HX.out.below o7.out).set 66 _) (by decide) (bP _ g 67 (.slice Aa b.attrs.length ca))
 have Kt := bO (bO (Kd.R_lower HRA.out (Nat.le_trans HB.out.size CD.out.size)) (HX.out.below o7.out) (by decide) (bP V4 g 66 (.slice Af b.free.length cf))) ((HX.out.below o7.out).set 66 _) (by decide) (bP _ g 67 (.slice Aa b.attrs.length ca))
 have Ct := ((HY.out.below o7.out).far (p := ⟨g, 66, none⟩) (fun e => HNE.out e.symm) (.slice Af b.free.length cf)).far (p := ⟨g, 67, none⟩) (fun e => HNE.out e.symm) (.slice Aa b.attrs.length ca)
 have Cx := Below.setCell (Below.setCell (HB.out.trans (o7.out.mono HB.out.size)) (p := ⟨g, 66, none⟩) HG.out (.slice Af b.free.length cf)) (p := ⟨g, 67, none⟩) HG.out (.slice Aa b.attrs.length ca)
 generalize (V4.setCell ⟨g, 66, none⟩ (.slice Af b.free.length cf)).setCell ⟨g, 67, none⟩ (.slice Aa b.attrs.length ca) = V5 at Je Ks Kt Ct Cx ⊢
 have xI := ak Je
 have rk := ak Ct
 have UO := ak Ks
 have UQ := ak Kt
 have vN := ak Cx
 have Qw := ao b.addr b.aff b.slots (.slice Af b.free.length cf) (.slice Aa b.attrs.length ca) HL.out
 have CH := ak Qw
 clear Je Ks Kt Ct Cx Qw hHeld
 go_wp2_with (first
  | (refine aN rfl 57 (.tmp 1) rfl g rfl _ _ _ xI.out Try.underlying57 rfl 68 (by kernel_rfl) CH.out ?_)
  | (refine a7 rfl 57 (.tmp 2) (.tmp 11) rfl g2 (bk b.addr b.aff b.slots (.slice Af b.free.length cf) (.slice Aa b.attrs.length ca)) rfl rfl 57 _ rk.out 68 (by kernel_rfl) CH.out rfl (cA _ _ _ _ _ rfl rfl) ?_; intro V6 Bx pw))
 exact bodyPost_ret (results_cell_row rfl _ _ g2 57 _ (0, 0) _ rfl Bx Try.underlying57 rfl (by simp only [List.size_toArray]; exact dc _ CH.out)) rfl ⟨_, rfl, ⟨HL.out, _, _, rfl, bO UO.out rk.out (by decide) pw, bO UQ.out rk.out (by decide) pw⟩, vN.out.grown pw vN.out.size (by intro k hk; cases hk; exact AX.out)⟩
end Go.Proofs.Ytemhalnhbgkbcaa.V
end

section
namespace Go.Proofs.Ytemhalnhbgkbcaa.V
def l9 (n : Nat) : List Int := (List.range n).map (fun i : Nat => (i : Int))
theorem zD (n : Nat) : l9 (n + 1) = l9 n ++ [(n : Int)] := by simp [l9, List.range_succ]
theorem xo (n : Nat) : (l9 n).length = n := by simp [l9]
def vU (a : Int) (s : ByteArray) : Bk := ⟨cC a, s, List.replicate 64 0, l9 64, []⟩
theorem mD : Try.prog.built 57 [] = some bu.toArray := by kernel_rfl
theorem Rf (x : Int) (s : ByteArray) : Try.prog.built 57 [(0, .int .u32 x), (1, .string s)] = some (bk x s (List.replicate 64 0) (.slice none 0 0) (.slice none 0 0)).toArray := by kernel_rfl
theorem jU : ∀ v ∈ bu, v.oneCell' = true := cA _ _ _ _ _ rfl rfl
set_option maxHeartbeats 4000000 in
set_option maxRecDepth 100000 in
theorem BI (a : Int) (h0 : 0 ≤ a) (h1 : a < 4294967296) (s : ByteArray) (w : World) :
  Calls Try.prog 41 #[.int .u32 a, .string s] w fun e w' => ∃ v, e = .returned (.tuple #[v, .int .i64 (if gg s = true then 0 else 1)]) ∧ eP w' w.heap.size v (if gg s = true then vU a s else kC) ∧ Below w.heap.size w w' := by
 have j3 := ak (BS a h0 h1)
 have lO := ak (BH s)
 clear h0 h1
 cases ho : gg s with
 | false =>
  rw [ho] at lO
  clear ho
  go_enter Try.func41, Try.ntmps41
  go_wp2_with (first
   | (refine aH (some 4) rfl rfl 57 rfl bu b6 ?_; intro g4 W1 pz Ei cI; have gl := ak Ei; have cG := ak cI; have AW := ak pz; clear Ei cI pz)
   | (go_at_call 79; refine (il.calls _ _ _ lO.out).mono ?_; rintro e W2 ⟨rfl, eX⟩; have gD := ak (gl.out.below eX); have jk := ak (cG.out.trans (eX.mono cG.out.size)); clear eX gl cG)
   | (refine gz rfl 57 #[] rfl bu mD ?_)
   | (refine a7 rfl 57 (.tmp 4) (.tmp 11) rfl g4 bu rfl rfl 57 _ gD.out 68 (by kernel_rfl) rfl rfl jU ?_; intro W3 ja Cw))
  exact bodyPost_ret (gB rfl _ _ g4 57 _ (0, 0) _ rfl ja Try.underlying57 rfl (by simp only [List.size_toArray]; exact dc _ rfl)) rfl ⟨_, rfl, oC _ _, jk.out.grown Cw jk.out.size (by intro k hk; cases hk; exact AW.out)⟩
 | true =>
  rw [ho] at lO
  clear ho
  go_enter Try.func41, Try.ntmps41
  go_wp2_with (first
   | (refine aH (some 4) rfl rfl 57 rfl bu b6 ?_; intro g4 W1 pz Ei cI; have gl := ak Ei; have cG := ak cI; have AW := ak pz; clear Ei cI pz)
   | (go_at_call 79; refine (il.calls _ _ _ lO.out).mono ?_; rintro e W2 ⟨rfl, eX⟩; have gD := ak (gl.out.below eX); have jk := ak (cG.out.trans (eX.mono cG.out.size)); clear eX gl cG)
   | (go_at_call 80; refine (im.calls _ _ _ j3.out).mono ?_; rintro e W3 ⟨rfl, iP⟩; have n6 := ak (gD.out.below iP); have ja := ak (jk.out.trans (iP.mono jk.out.size)); clear iP gD jk)
   | (refine gz rfl 57 #[(0, .tmp 13), (1, .tmp 14)] rfl (bk (cC a) s (List.replicate 64 0) (.slice none 0 0) (.slice none 0 0)) (Rf _ _) ?_)
   | (refine aH (some 6) rfl rfl 57 rfl bu b6 ?_; intro g6 W4 pw QM sH; have sT := ak (n6.out.below sH); have tC := ak QM; have HNE := ak (show g4 ≠ g6 by have := n6.out.lt; omega); have m0 := ak (ja.out.trans (sH.mono ja.out.size)); have TZ := ak (show w.heap.size ≤ g6 by have := ja.out.size; omega); clear QM sH pw n6 ja)
   | (refine a7 rfl 57 (.tmp 6) (.tmp 15) rfl g6 (bk (cC a) s (List.replicate 64 0) (.slice none 0 0) (.slice none 0 0)) rfl rfl 57 _ tC.out 68 (by kernel_rfl) rfl rfl (cA _ _ _ _ _ rfl rfl) ?_; intro W5 Ct Jh; have rk := ak Ct; have xI := ak (sT.out.grown Jh (fun e => HNE.out (Option.some.inj e))); have vN := ak (m0.out.grown Jh m0.out.size (by intro k hk; cases hk; exact TZ.out)); clear Ct Jh sT tC m0))
  go_loopw [7, 16] (fun _ i W => ∃ k : Nat, k ≤ 64 ∧ i = .int .i64 k ∧ ∃ vf, Aside0 (aX W g6 (bk (cC a) s (List.replicate 64 0) vf (.slice none 0 0)) 57) ∧ Aside0 (Kd.R (Kd.int .u8) 5 W w.heap.size (fun _ => True) vf (l9 k)) ∧ Aside0 (aX W g4 bu 57) ∧ Aside0 (Below w.heap.size w W)) (fun _ i _ => 64 - (intOf i).toNat)
  case atStart => exact ⟨0, by omega, rfl, _, rk, ⟨Kd.R_nil _ _ _ _ _⟩, xI, vN⟩
  case round =>
   clear rk xI vN
   obtain ⟨k, hk, rfl, vf, HY, HR, HX, HB⟩ := hrel
   obtain ⟨W, rfl⟩ : ∃ W : World, W = wr := ⟨_, rfl⟩
   by_cases p8 : k < 64
   ·have hkb : decide ((k : Int) < 64) = true := by simp; omega
    have Gb := HY.out.cell 66 _ (gF _ _ _ _ _ rfl)
    have hlen := xo k
    go_wp2_with (first | ((with_reducible refine cy (b := .append) (xs := #[.tmp 20, .tmp 23]) rfl ?_); at_builtin; refine Kd.R_append (Kd.int .u8) (w0 := w) w.heap.size rfl (.tmp 20) (.tmp 23) 48 5 (.int .u8 0) 1 rfl Try.underlying48 BM rfl (by decide) (by omega) vf (l9 k) (k : Int) [.int .u8 (k : Int)] (fun _ => True) (fun _ => False) rfl rfl rfl (fun _ hk => hk.elim) (fun _ _ => trivial) HR.out HB.out HB.out.size (by omega) ?_; intro v1 w1 fT cI l6 qg; have ny := ak (HY.out.grown l6 (HY.out.ne_row HR.out (by decide))); have gl := ak (HX.out.grown l6 (HX.out.ne_row HR.out (by decide))); rw [← zD] at fT; have mG := ak fT; have cG := ak cI; obtain ⟨A1, c1, rfl⟩ := Kd.R_slice fT; have vJ := ny.out.cell 66 _ (gF _ _ _ _ _ rfl); have np := ny.out.frozen 66; clear fT cI l6 qg Gb HY HX HR HB))
    have qT := ak (show aX (w1.setCell ⟨g6, 66, none⟩ (.slice A1 (l9 (k + 1)).length c1)) g6 (bk (cC a) s (List.replicate 64 0) (.slice A1 (l9 (k + 1)).length c1) (.slice none 0 0)) 57 by have := ny.out.set 66 (.slice A1 (l9 (k + 1)).length c1); rwa [me _ _ _ _ _ rfl] at this)
    go_roundw
    case rel => exact ⟨k + 1, by omega, by go_num, _, qT, ⟨bO mG.out ny.out (by decide) (bP _ _ _ _)⟩, ⟨gl.out.far (p := ⟨g6, 66, none⟩) HNE.out _⟩, ⟨Below.setCell cG.out (p := ⟨g6, 66, none⟩) TZ.out _⟩⟩
    case measure => simp [intOf]; omega
   ·obtain rfl : k = 64 := by omega
    rw [show ((64 : Nat) : Int) = (64 : Int) from rfl]
    have hkb : decide ((64 : Int) < 64) = false := by decide
    obtain ⟨Af, cf, rfl⟩ := Kd.R_slice HR.out
    go_wp2_with (first
     | (refine aN rfl 57 (.tmp 6) rfl g6 rfl _ _ _ HY.out Try.underlying57 rfl 68 (by kernel_rfl) rfl ?_)
     | (refine a7 rfl 57 (.tmp 4) (.tmp 27) rfl g4 (bk (cC a) s (List.replicate 64 0) (.slice Af (l9 64).length cf) (.slice none 0 0)) rfl rfl 57 _ HX.out 68 (by kernel_rfl) rfl rfl (cA _ _ _ _ _ rfl rfl) ?_; intro W6 Bx pw))
    exact bodyPost_ret (gB rfl _ _ g4 57 _ (0, 0) _ rfl Bx Try.underlying57 rfl (by simp only [List.size_toArray]; exact dc _ rfl)) rfl ⟨_, rfl, ⟨rfl, _, _, rfl, bO HR.out HX.out (by decide) pw, Kd.R_nil _ _ _ _ _⟩, HB.out.grown pw HB.out.size (by intro k hk; cases hk; exact AW.out)⟩
end Go.Proofs.Ytemhalnhbgkbcaa.V
end

section
namespace Go.Proofs.Ytemhalnhbgkbcaa.V
attribute [local go_sem] dA dy ed ec cP cN dz dx
def n9.f (a6 : ByteArray) (a8 : ByteArray) : Option (ByteArray × ByteArray) := some (a6, a8)
set_option maxHeartbeats 8000000 in
set_option maxRecDepth 100000 in
theorem n9.calls (a6 : ByteArray) (a8 : ByteArray) (r1 : ByteArray) (r2 : ByteArray) (w : World) (h : n9.f a6 a8 = some (r1, r2)) :
  Calls Try.prog 50 #[.agg #[.string a6, .string a8]] w fun e w' => e = .returned (.agg #[.string r1, .string r2]) ∧ Below w.heap.size w w' := by
 have Kr := Try.underlying76
 have Kq := Try.underlying85
 have HB := ak (Below.refl w.heap.size w)
 have H : (some (a6, a8)) = some (r1, r2) := h
 clear h
 simp only [Option.some.injEq, Prod.mk.injEq] at H
 obtain ⟨rfl, rfl⟩ := H
 go_enter Try.func50, Try.ntmps50
 go_wp2_with (first | ((with_reducible refine aJ (N := 1) rfl ?_); refine eY ?hg (N := 1) ?hd (cs := #[.string a6, .string a8]) (t := 76) ?hr ?_; (case hd => rfl); (case hg => rfl); (case hr => first | (go_simp; done) | (go_simp; rfl)); intro nN hg w2 hbox hb; have bR := ak (bA (by repeat (first | (with_reducible first | exact HB.out | apply af | apply ab | apply ai) | exact HB.out)) hb); have bX := ak (hbox); have dh := ak ((by rw [hg]; exact (bo (by repeat (first | (with_reducible first | exact HB.out | apply af | apply ab | apply ai) | exact HB.out))) : w.heap.size ≤ nN)); have dX := ak ((by rw [hg]; exact (bo (by repeat (first | (with_reducible first | exact HB.out | apply af | apply ab | apply ai) | exact HB.out))) : w.heap.size ≤ nN)); clear HB; have HB := bR; have n1 := bX; have Yu := dh; have yo := dX; clear bR bX dh dX; clear hb hbox hg) | ((with_reducible refine aJ (N := 2) rfl ?_); refine eY ?hg (N := 2) ?hd (cs := #[.string (⟨#[]⟩ : ByteArray), .string (⟨#[]⟩ : ByteArray)]) (t := 85) ?hr ?_; (case hd => rfl); (case hg => rfl); (case hr => first | (go_simp; done) | (go_simp; rfl)); intro qh hg w3 hbox hb; have bR := ak (eh (g := nN) (o := .cells #[.string a6, .string a8] 76 (0, 0)) (by (with_reducible repeat (first | refine ax ?_ _ | refine aG ?_ | refine ay ?_ _)); exact n1.out) hb); have bX := ak (bA (by repeat (first | (with_reducible first | exact HB.out | apply af | apply ab | apply ai | refine aD ?_ yo.out) | exact HB.out)) hb); have dh := ak (hbox); have dX := ak ((by rw [hg]; exact (bo (by repeat (first | (with_reducible first | exact HB.out | apply af | apply ab | apply ai | refine aD ?_ yo.out) | exact HB.out))) : w.heap.size ≤ qh)); have iE := ak ((by rw [hg]; exact (bo (by repeat (first | (with_reducible first | exact HB.out | apply af | apply ab | apply ai | refine aD ?_ yo.out) | exact HB.out))) : w.heap.size ≤ qh)); have kL := ak ((by rw [hg]; exact Nat.ne_of_lt (gu (g := nN) (o := .cells #[.string a6, .string a8] 76 (0, 0)) (by (with_reducible repeat (first | refine ax ?_ _ | refine aG ?_ | refine ay ?_ _)); exact n1.out)) : nN ≠ qh)); have l5 := ak ((by rw [hg]; exact Nat.ne_of_gt (gu (g := nN) (o := .cells #[.string a6, .string a8] 76 (0, 0)) (by (with_reducible repeat (first | refine ax ?_ _ | refine aG ?_ | refine ay ?_ _)); exact n1.out)) : qh ≠ nN)); clear n1; clear HB; have n1 := bR; have HB := bX; have vO := dh; have Yt := dX; have PV := iE; have CX := kL; have CW := l5; clear bR bX dh dX iE kL l5; clear hb hbox hg; have ag6 := CX.out; have ag3 := CW.out; have ZC : w3.cell? ⟨nN, 0, none⟩ = some (.string a6) := (al n1.out 0).trans rfl; have ZB : w3.cell? ⟨nN, 1, none⟩ = some (.string a8) := (al n1.out 1).trans rfl; have Zk := aj n1.out 0; have Zj := aj n1.out 1; have Ef : w3.cell? ⟨qh, 0, none⟩ = some (.string (⟨#[]⟩ : ByteArray)) := (al vO.out 0).trans rfl; have Ee : w3.cell? ⟨qh, 1, none⟩ = some (.string (⟨#[]⟩ : ByteArray)) := (al vO.out 1).trans rfl; have D8 := aj vO.out 0; have D7 := aj vO.out 1))
 refine bodyPost_ret (results_cell_row rfl _ _ qh 85 #[.string a6, .string a8] (0, 0) _ rfl (by (with_reducible repeat (first | refine ax ?_ _ | refine aG ?_ | refine ay ?_ _)); refine e7 (cs := #[.string a6, .string (⟨#[]⟩ : ByteArray)]) ?_ 1 _ rfl; (with_reducible repeat (first | refine ax ?_ _ | refine aG ?_ | refine ay ?_ _)); refine e7 (cs := #[.string (⟨#[]⟩ : ByteArray), .string (⟨#[]⟩ : ByteArray)]) ?_ 0 _ rfl; (with_reducible repeat (first | refine ax ?_ _ | refine aG ?_ | refine ay ?_ _)); exact vO.out) Try.underlying85 rfl (by kernel_rfl)) rfl ?_
 exact ⟨by first | rfl | (simp [bf, bd] <;> rfl) | (simp [*, bf, bd] <;> rfl), by repeat (first | (with_reducible first | exact HB.out | apply af | apply ab | apply ai | refine aD ?_ yo.out | refine aD ?_ PV.out) | exact HB.out)⟩
end Go.Proofs.Ytemhalnhbgkbcaa.V
end

section
namespace Go.Proofs.Ytemhalnhbgkbcaa.V
structure Rw where
 addr : Int
 aff : ByteArray
 slots : List Int
 free : List Int
 attrs : List S76
structure RwR (W : World) (b : Rw) (A : Option Addr) (c : Nat) (A' : Option Addr) (c' : Nat) : Prop where
 l64 : b.slots.length = 64
 fr : Kd.C (Kd.int .u8) W A b.free.length b.free
 fc : b.free.length ≤ c
 ar : Kd.C ia W A' b.attrs.length b.attrs
 ac : b.attrs.length ≤ c'
theorem RwR.below {W W1 : World} {b : Rw} {A A' : Option Addr} {c c' : Nat} (h : RwR W b A c A' c') (hb : Below W.heap.size W W1) : RwR W1 b A c A' c' := ⟨h.l64, Kd.C_below h.fr hb, h.fc, Kd.C_below h.ar hb, h.ac⟩
def Rl (W : World) (v : Value) (b : Rw) : Prop := ∃ A c A' c', v = .agg (bk b.addr b.aff b.slots (.slice A b.free.length c) (.slice A' b.attrs.length c')).toArray ∧ RwR W b A c A' c'
theorem Rl.below {W W1 : World} {v : Value} {b : Rw} (h : Rl W v b) (hb : Below W.heap.size W W1) : Rl W1 v b := by
 obtain ⟨A, c, A', c', e, hr⟩ := h
 exact ⟨A, c, A', c', e, hr.below hb⟩
def cv (a : S76) : At := ⟨a.f0, a.f1⟩
def ours (r : Rw) : Bk := ⟨r.addr, r.aff, r.slots, r.free.take 70, (r.attrs.take 70).map cv⟩
theorem lF (a : S76) (w : World) : Calls Try.prog 50 #[.agg #[.string a.f0, .string a.f1]] w fun e w' => e = .returned (fv (cv a)) ∧ Below w.heap.size w w' :=
 n9.calls a.f0 a.f1 a.f0 a.f1 w rfl
theorem Fp {P : Program} {ops : Array Oper} {rest : List Oper} {o : Oper} {a : Act} {w : World} {Q : Exit → Act → World → Prop} (hgd : o.guard = none) (t : TypeId) (parts : Array (Nat × Operand)) (ho : o.op = .build t parts) (vals : List (Nat × Value)) (hv : (parts.map fun (i, x) => (i, a.eval x)).toList = vals) (cs : List Value)
  (hf : P.built t vals = some cs.toArray) (h : wpList P ops Q rest (a.put o.dst (.agg cs.toArray)) w) : wpList P ops Q (o :: rest) a w := gz hgd t parts ho cs (by rw [hv]; exact hf) h
def u9.T12 : Bool × List (List Nat × List Nat) := (true, [([], []), ([0], [0]), ([], []), ([2], [2]), ([3], [3]), ([1, 4, 3], [1, 4]), ([0, 1, 2, 3, 4, 5], []), ([6, 5, 5, 0, 1, 2, 3, 4, 5], [5, 6])])
def u9.B12 : List Nat := [0, 1, 0, 4, 12, 31, 63, 127]
theorem u9.tab12 : eI .any (opsOf Try.f33 12) = u9.T12 := by kernel_rfl
theorem u9.bits12 : eb u9.T12.2 u9.B12 = true := by kernel_rfl
end Go.Proofs.Ytemhalnhbgkbcaa.V
end

