/- The law ViewOf for every input: texts of ours, put together (part 16 of 17). No further condition. -/
import Derived.Test.YtndddnglapkplaaGreatDoorCViewOfx2
import Derived.Test.YtndddnglapkplaaGreatDoorCViewOfx5
import Derived.Test.YtndddnglapkplaaGreatDoorCViewOfx3
import Derived.Test.YtndddnglapkplaaGreatDoorCViewOfx13
import Derived.Test.YtndddnglapkplaaGreatDoorCViewOfx14
import Derived.Test.YtndddnglapkplaaGreatDoorCViewOfx9
import Derived.Outline
import Derived.Test.YtndddnglapkplaaGreatDoorCViewOfx12
import Derived.Test.YtndddnglapkplaaGreatDoorCViewOfx7
import Derived.Laws.IdiomRangeMap
import Derived.ChangeSame
import Derived.WideShapes
import Derived.OpenShut
import Derived.Deep.Slices
set_option linter.unusedVariables false
set_option linter.unusedSimpArgs false
set_option linter.unusedSectionVars false
open Go.RowKit Go.Proofs.YtndddnglapkplaaGreatDoorW.PrintWords Go.Proofs.YtndddnglapkplaaGreatDoorW.PrintLast Go.Proofs.YtndddnglapkplaaGreatDoorW.PrintMore Go.Proofs.YtndddnglapkplaaGreatDoor.Z
namespace Go.Proofs.YtndddnglapkplaaGreatDoor.V
section
attribute [local go_sem] bq bn bI bH aW aV bp bj
def cZ.l0 : Nat → List (S58) → List (S91) → Int → Int → Option ((List (S58)))
 | 0, _, _, _, _ => none
 | k + 1, x3, x6, x7, x8 => if x8 < x7 then (if 0 ≤ x8 then (if x8 < (x6.length : Int) then (if x3.length < 3518437208883 then (cZ.l0 k (x3 ++ [(⟨(cM x6 x8).f0, (cM x6 x8).f1, (cM x6 x8).f2⟩ : S58)]) x6 x7 (wrap64 (x8 + 1))) else (none)) else (none)) else (none)) else (some x3)
def cZ.f (k : Nat) (l0 : List (S91)) : Option ((List (S58))) := cZ.l0 k ([] : List (S58)) l0 (l0.length : Int) 0
set_option maxHeartbeats 8000000 in
set_option maxRecDepth 100000 in
theorem cZ.calls (k : Nat) (A0 : Option Addr) (c0 : Nat) (l0 : List (S91)) (r : List (S58)) (w : World) (nS : Kd.C kS w A0 l0.length l0) (en : l0.length ≤ c0) (h : cZ.f k l0 = some r) :
  Calls Tryz.prog 8 #[.slice A0 l0.length c0] w fun e w' => ∃ rq : Value, e = .returned (rq) ∧ Kd.R rB 58 w' w.heap.size (fun _ => True) rq r ∧ Below w.heap.size w w' := by
 have aQ9 := Tryz.underlying91
 have Zs := Tryz.underlying58
 have lJ := ak nS
 have qJ := ak en
 clear nS en
 have HB := ak (Below.refl w.heap.size w)
 have H : (cZ.l0 k ([] : List (S58)) l0 (l0.length : Int) 0) = some r := h
 clear h
 have H' := ak H; clear H
 go_enter Tryz.func8, Tryz.ntmps8
 go_wp2
 go_loopg [3, 8] k (fun kq v3 v8 w' => ∃ (bK : List (S58)) (eG : Int), v8 = .int .i64 eG ∧ Aside0 (cZ.l0 kq bK l0 (l0.length : Int) eG = some r) ∧ Aside0 (kq ≤ k) ∧ Aside0 (Kd.R rB 58 w' w.heap.size (fun _ => True) v3 bK) ∧ Aside0 (Below w.heap.size w w'))
 case atStart => exact ⟨(([] : List (S58))), (0), rf, H', ⟨Nat.le_refl _⟩, ⟨by first | exact Kd.R_nil _ _ _ _ _ | exact Kd.N_nil _ _ _ _ _ | exact Kd.V_nil _ _ _ _ _ | exact Kd.Q_nil _ _ _ _ _ | exact Kd.S_nil _ _ _ _ _⟩, ⟨bl⟩⟩
 case round =>
  clear H'
  obtain ⟨bK, eG, rfl, HA, ee, qB, HB⟩ := hrel
  cases gk with
  | zero => exact absurd HA.out (by simp [cZ.l0])
  | succ k1 =>
   have H := HA.out
   clear HA
   simp only [cZ.l0] at H
   by_cases c2 : eG < (l0.length : Int)
   ·rw [if_pos c2] at H
    have ig := decide_eq_true c2
    clear c2
    by_cases c3 : 0 ≤ eG
    ·rw [if_pos c3] at H
     have gq := decide_eq_true c3
     clear c3
     by_cases c4 : eG < (l0.length : Int)
     ·rw [if_pos c4] at H
      have eQ := decide_eq_true c4
      clear c4
      by_cases c5 : bK.length < 3518437208883
      ·rw [if_pos c5] at H
       have aa8 := ak c5
       clear c5
       obtain ⟨Pr, yl⟩ : ∃ y_ : List (S58), y_ = (bK ++ [(⟨(cM l0 eG).f0, (cM l0 eG).f1, (cM l0 eG).f2⟩ : S58)]) := ⟨_, rfl⟩
       replace H : (cZ.l0 k1 Pr l0 (l0.length : Int) (wrap64 (eG + 1))) = some r := by first | (rw [yl]; with_reducible exact H) | (have gN := (Option.bind_some _ _).symm.trans H; rw [yl]; with_reducible exact gN) | (have gN := (Option.bind_some _ _).symm.trans H; with_reducible exact gN) | with_reducible exact H | (rw [yl]; exact H) | exact H
       have Vo := ak yl
       clear yl
       have H' := ak H; clear H
       have JS : 0 ≤ (eG : Int) := od
       have JQ : eG < (l0.length : Int) := od
       obtain ⟨aG0, Xc, Fp, Fo, Fm⟩ := BT lJ.out eG JS JQ
       cases Xc
       replace Fp := hc HB Fp
       replace Fo := hc HB Fo
       replace Fm := hc HB Fm
       replace JS := eq_true JS
       replace JQ := eq_true JQ
       go_wp2_with (first | ((with_reducible refine af (N := 5) rfl ?_); refine bE (N := 5) (cs := #[.string (⟨#[]⟩ : ByteArray), .string (⟨#[]⟩ : ByteArray), .int .i64 0]) (t := 91) ?_; intro wv hg w6 hbox hb; replace qB := ak (Kd.R_below (by (with_reducible repeat (first | apply Kd.R_alloc | apply Kd.R_drewN | apply Kd.R_drew)); exact qB.out) hb); have oH := ak (hbox); have aG1 := ak (gl hg : w.heap.size ≤ wv); have aG2 := ak (gl hg : w.heap.size ≤ wv); replace HB := bs hb; clear hb hbox hg; have BA := cf oH 0; have Bz := cf oH 1; have aF3 := cf oH 2; have Bw := J oH.out 0; have Bv := J oH.out 1; have aD8 := J oH.out 2) | ((with_reducible refine cx (b := .append) (xs := #[.tmp 12, .tmp 20]) rfl ?_); at_builtin; refine Kd.R_append rB (w0 := w) w.heap.size rfl (.tmp 12) (.tmp 20) 34 58 (.agg #[(.string ⟨#[]⟩), (.string ⟨#[]⟩), (.int .i64 0)]) 40 rfl Tryz.underlying34 TV rfl (by decide) (by omega) u3 bK (⟨(cM l0 eG).f0, (cM l0 eG).f1, (cM l0 eG).f2⟩ : S58) [.string ((cM l0 eG).f0), .string ((cM l0 eG).f1), .int .i64 ((cM l0 eG).f2)] (fun _ => True) (fun _ => False) rfl (by first | (go_simp; done) | (go_simp; rfl)) ?aP (fun _ hk => hk.elim) ?aF ?aO ?aB ?aS ?aL ?_; (case aP => exact Rg _ _ _ (⟨(cM l0 eG).f0, (cM l0 eG).f1, (cM l0 eG).f2⟩ : S58)); (case aB => exact bl); (case aF => exact (fun _ _ => trivial)); (case aO => exact (by (with_reducible repeat (first | apply Kd.R_alloc | apply Kd.R_drewN | apply Kd.R_drew)); exact Kd.R_mono (Kd.R_far (p := ⟨wv, 2, none⟩) (Kd.R_far (p := ⟨wv, 1, none⟩) (Kd.R_far (p := ⟨wv, 0, none⟩) (Kd.R_types qB.out oH.out (by decide)) (fun _ hk => hk.2) (.string ((cM l0 eG).f0))) (fun _ hk => hk.2) (.string ((cM l0 eG).f1))) (fun _ hk => hk.2) (.int .i64 ((cM l0 eG).f2))) (fun _ hk => trivial))); (case aS => exact (fj bl)); (case aL => have := aa8.out; omega); intro aG3 w8 ho hb hg hat; rw [← Vo.out] at ho; replace oH := ak (yH (g := wv) (o := .cells #[.string ((cM l0 eG).f0), .string ((cM l0 eG).f1), .int .i64 ((cM l0 eG).f2)] 91 (0, 0)) (by (with_reducible repeat (first | refine ag ?_ _ | refine aj ?_ | refine ah ?_ _)); refine aM (cs := #[.string ((cM l0 eG).f0), .string ((cM l0 eG).f1), .int .i64 0]) ?_ 2 _ rfl; (with_reducible repeat (first | refine ag ?_ _ | refine aj ?_ | refine ah ?_ _)); refine aM (cs := #[.string ((cM l0 eG).f0), .string (⟨#[]⟩ : ByteArray), .int .i64 0]) ?_ 1 _ rfl; (with_reducible repeat (first | refine ag ?_ _ | refine aj ?_ | refine ah ?_ _)); refine aM (cs := #[.string (⟨#[]⟩ : ByteArray), .string (⟨#[]⟩ : ByteArray), .int .i64 0]) ?_ 0 _ rfl; (with_reducible repeat (first | refine ag ?_ _ | refine aj ?_ | refine ah ?_ _)); exact oH.out) hg (Kd.R_ne qB.out oH.out (by decide))); replace HB := ak (hb); have VO := ak (ho); clear qB; clear ho hb hg hat))
       go_roundg k1
       case measure => have := ee.out; omega
       case rel => exact ⟨(Pr), (wrap64 (eG + 1)), rf, H', ⟨by have := ee.out; omega⟩, ⟨by (with_reducible repeat (first | apply Kd.R_alloc | apply Kd.R_drewN | apply Kd.R_drew)); exact VO.out⟩, ⟨bl⟩⟩
      ·rw [if_neg c5] at H
       exact absurd H (by simp)
     ·rw [if_neg c4] at H
      exact absurd H (by simp)
    ·rw [if_neg c3] at H
     exact absurd H (by simp)
   ·rw [if_neg c2] at H
    have ig := decide_eq_false c2
    clear c2
    obtain rfl := Option.some.inj H
    go_wp2
    go_ret
    exact ⟨_, rg, by (with_reducible repeat (first | apply Kd.R_alloc | apply Kd.R_drewN | apply Kd.R_drew)); exact qB.out, bl⟩
end
section
attribute [local go_sem] bq bn bI bH aW aV bp bj
def cY.l0 : Nat → List (S144) → List (S145) → Int → Int → Option ((List (S144)))
 | 0, _, _, _, _ => none
 | k + 1, x3, x7, x8, x9 => if x9 < x8 then (if 0 ≤ x9 then (if x9 < (x7.length : Int) then (if x3.length < 8796093022208 then (cY.l0 k (x3 ++ [(⟨(ct x7 x9).f0, (ct x7 x9).f1⟩ : S144)]) x7 x8 (wrap64 (x9 + 1))) else (none)) else (none)) else (none)) else (some x3)
def cY.f (k : Nat) (gp : List (S145)) : Option ((List (S144))) := cY.l0 k ([] : List (S144)) gp (gp.length : Int) 0
set_option maxHeartbeats 8000000 in
set_option maxRecDepth 100000 in
theorem cY.calls (k : Nat) (KN : Option Addr) (Gc : Nat) (gp : List (S145)) (r : List (S144)) (w : World) (PN : Kd.C sx w KN gp.length gp) (PW : gp.length ≤ Gc) (h : cY.f k gp = some r) :
  Calls Tryz.prog 35 #[.agg #[.slice KN gp.length Gc]] w fun e w' => ∃ rq : Value, e = .returned (rq) ∧ Kd.R ja 144 w' w.heap.size (fun _ => True) rq r ∧ Below w.heap.size w w' := by
 have aQ8 := Tryz.underlying99
 have aG4 := Tryz.underlying145
 have J0 := Tryz.underlying144
 have XT := ak PN
 have aP9 := ak PW
 clear PN PW
 have HB := ak (Below.refl w.heap.size w)
 have H : (cY.l0 k ([] : List (S144)) gp (gp.length : Int) 0) = some r := h
 clear h
 have H' := ak H; clear H
 go_enter Tryz.func35, Tryz.ntmps35
 go_wp2_with (first | ((with_reducible refine af (N := 1) rfl ?_); refine bE (N := 1) (cs := #[.slice KN gp.length Gc]) (t := 99) ?_; intro zg hg w2 hbox hb; have kD := ak (hbox); have aB2 := ak (gl hg : w.heap.size ≤ zg); have aC2 := ak (gl hg : w.heap.size ≤ zg); replace HB := bs hb; clear hb hbox hg; have aF8 := cf kD 0; have aE3 := J kD.out 0))
 go_loopg [3, 9] k (fun kq v3 v9 w' => ∃ (bK : List (S144)) (jF : Int), v9 = .int .i64 jF ∧ Aside0 (cY.l0 kq bK gp (gp.length : Int) jF = some r) ∧ Aside0 (kq ≤ k) ∧ Aside0 (Kd.R ja 144 w' w.heap.size (fun _ => True) v3 bK) ∧ Aside0 (w'.heap[zg]? = some (.cells #[(.slice KN gp.length Gc)] 99 (0, 0))) ∧ Aside0 (Below w.heap.size w w'))
 case atStart => exact ⟨(([] : List (S144))), (0), rf, H', ⟨Nat.le_refl _⟩, ⟨by first | exact Kd.R_nil _ _ _ _ _ | exact Kd.N_nil _ _ _ _ _ | exact Kd.V_nil _ _ _ _ _ | exact Kd.Q_nil _ _ _ _ _ | exact Kd.S_nil _ _ _ _ _⟩, ⟨by (with_reducible repeat (first | refine ag ?_ _ | refine aj ?_ | refine ah ?_ _)); exact kD.out⟩, ⟨bl⟩⟩
 case round =>
  clear H'
  obtain ⟨bK, jF, rfl, HA, ee, qB, kD, HB⟩ := hrel
  cases gk with
  | zero => exact absurd HA.out (by simp [cY.l0])
  | succ k1 =>
   have H := HA.out
   clear HA
   simp only [cY.l0] at H
   by_cases c4 : jF < (gp.length : Int)
   ·rw [if_pos c4] at H
    have eQ := decide_eq_true c4
    clear c4
    by_cases c5 : 0 ≤ jF
    ·rw [if_pos c5] at H
     have nF := decide_eq_true c5
     clear c5
     by_cases c6 : jF < (gp.length : Int)
     ·rw [if_pos c6] at H
      have jd := decide_eq_true c6
      clear c6
      by_cases c7 : bK.length < 8796093022208
      ·rw [if_pos c7] at H
       have aa7 := ak c7
       clear c7
       obtain ⟨KP, wo⟩ : ∃ y_ : List (S144), y_ = (bK ++ [(⟨(ct gp jF).f0, (ct gp jF).f1⟩ : S144)]) := ⟨_, rfl⟩
       replace H : (cY.l0 k1 KP gp (gp.length : Int) (wrap64 (jF + 1))) = some r := by first | (rw [wo]; with_reducible exact H) | (have gN := (Option.bind_some _ _).symm.trans H; rw [wo]; with_reducible exact gN) | (have gN := (Option.bind_some _ _).symm.trans H; with_reducible exact gN) | with_reducible exact H | (rw [wo]; exact H) | exact H
       have SN := ak wo
       clear wo
       have H' := ak H; clear H
       have EY : 0 ≤ (jF : Int) := od
       have EP : jF < (gp.length : Int) := od
       obtain ⟨SE, UW, DF, DE⟩ := CU XT.out jF EY EP
       cases UW
       replace DF := hc HB DF
       replace DE := hc HB DE
       replace EY := eq_true EY
       replace EP := eq_true EP
       go_wp2_with (first | ((with_reducible refine af (N := 5) rfl ?_); refine bE (N := 5) (cs := #[.int .u32 0, .int .i64 0]) (t := 145) ?_; intro wA hg w8 hbox hb; replace qB := ak (Kd.R_below (by (with_reducible repeat (first | apply Kd.R_alloc | apply Kd.R_drewN | apply Kd.R_drew)); exact qB.out) hb); have pR := ak (hbox); have aB1 := ak (gl hg : w.heap.size ≤ wA); have aC1 := ak (gl hg : w.heap.size ≤ wA); replace HB := bs hb; have sD := ak (nl kD hg); have Ee := ak (ng kD hg); replace kD := bm kD hb; clear hb hbox hg; have aS9 := Ee.out; have aS7 := sD.out; have tc := cf pR 0; have tb := cf pR 1; have ta := J pR.out 0; have s9 := J pR.out 1) | ((with_reducible refine cx (b := .append) (xs := #[.tmp 13, .tmp 19]) rfl ?_); at_builtin; refine Kd.R_append ja (w0 := w) w.heap.size rfl (.tmp 13) (.tmp 19) 50 144 (.agg #[(.int .u32 0), (.int .i64 0)]) 16 rfl Tryz.underlying50 Iq rfl (by decide) (by omega) u3 bK (⟨(ct gp jF).f0, (ct gp jF).f1⟩ : S144) [.int .u32 ((ct gp jF).f0), .int .i64 ((ct gp jF).f1)] (fun _ => True) (fun _ => False) rfl (by first | (go_simp; done) | (go_simp; rfl)) ?aP (fun _ hk => hk.elim) ?aF ?aO ?aB ?aS ?aL ?_; (case aP => exact Fh _ _ _ (⟨(ct gp jF).f0, (ct gp jF).f1⟩ : S144)); (case aB => exact bl); (case aF => exact (fun _ _ => trivial)); (case aO => exact (by (with_reducible repeat (first | apply Kd.R_alloc | apply Kd.R_drewN | apply Kd.R_drew)); exact Kd.R_mono (Kd.R_far (p := ⟨wA, 1, none⟩) (Kd.R_far (p := ⟨wA, 0, none⟩) (Kd.R_types qB.out pR.out (by decide)) (fun _ hk => hk.2) (.int .u32 ((ct gp jF).f0))) (fun _ hk => hk.2) (.int .i64 ((ct gp jF).f1))) (fun _ hk => trivial))); (case aS => exact (fj bl)); (case aL => have := aa7.out; omega); intro aC6 Db ho hb hg hat; rw [← SN.out] at ho; replace kD := ak (yH (g := zg) (o := .cells #[.slice (some SE) gp.length Gc] 99 (0, 0)) (by (with_reducible repeat (first | refine ag ?_ _ | refine aj ?_ | refine ah ?_ _)); refine dr ?_ sD.out _; (with_reducible repeat (first | refine ag ?_ _ | refine aj ?_ | refine ah ?_ _)); refine dr ?_ sD.out _; (with_reducible repeat (first | refine ag ?_ _ | refine aj ?_ | refine ah ?_ _)); exact kD.out) hg (Kd.R_ne qB.out kD.out (by decide))); replace pR := ak (yH (g := wA) (o := .cells #[.int .u32 ((ct gp jF).f0), .int .i64 ((ct gp jF).f1)] 145 (0, 0)) (by (with_reducible repeat (first | refine ag ?_ _ | refine aj ?_ | refine ah ?_ _)); refine aM (cs := #[.int .u32 ((ct gp jF).f0), .int .i64 0]) ?_ 1 _ rfl; (with_reducible repeat (first | refine ag ?_ _ | refine aj ?_ | refine ah ?_ _)); refine aM (cs := #[.int .u32 0, .int .i64 0]) ?_ 0 _ rfl; (with_reducible repeat (first | refine ag ?_ _ | refine aj ?_ | refine ah ?_ _)); exact pR.out) hg (Kd.R_ne qB.out pR.out (by decide))); replace HB := ak (hb); have SQ := ak (ho); clear qB; clear ho hb hg hat))
       go_roundg k1
       case measure => have := ee.out; omega
       case rel => exact ⟨(KP), (wrap64 (jF + 1)), rf, H', ⟨by have := ee.out; omega⟩, ⟨by (with_reducible repeat (first | apply Kd.R_alloc | apply Kd.R_drewN | apply Kd.R_drew)); exact SQ.out⟩, ⟨by (with_reducible repeat (first | refine ag ?_ _ | refine aj ?_ | refine ah ?_ _)); exact kD.out⟩, ⟨bl⟩⟩
      ·rw [if_neg c7] at H
       exact absurd H (by simp)
     ·rw [if_neg c6] at H
      exact absurd H (by simp)
    ·rw [if_neg c5] at H
     exact absurd H (by simp)
   ·rw [if_neg c4] at H
    have eQ := decide_eq_false c4
    clear c4
    obtain rfl := Option.some.inj H
    go_wp2
    go_ret
    exact ⟨_, rg, by (with_reducible repeat (first | apply Kd.R_alloc | apply Kd.R_drewN | apply Kd.R_drew)); exact qB.out, bl⟩
end
section
attribute [local go_sem] bq bn bI bH aW aV bp bj
def mV.f (aI : Int) (ax : Int) (iL : Bool) : Option (Int × Int × Bool) := some (aI, ax, iL)
set_option maxHeartbeats 8000000 in
set_option maxRecDepth 100000 in
theorem mV.calls (aI : Int) (ax : Int) (iL : Bool) (r1 : Int) (r2 : Int) (r3 : Bool) (w : World) (h : mV.f aI ax iL = some (r1, r2, r3)) :
  Calls Tryz.prog 25 #[.agg #[.int .u32 aI, .int .i64 ax, .bool iL]] w fun e w' => e = .returned (.agg #[.int .u32 r1, .int .i64 r2, .bool r3]) ∧ Below w.heap.size w w' := by
 have Zr := Tryz.underlying69
 have Zu := Tryz.underlying45
 have JZ := Tryz.underlying43
 have HB := ak (Below.refl w.heap.size w)
 have H : (some (aI, ax, iL)) = some (r1, r2, r3) := h
 clear h
 simp only [Option.some.injEq, Prod.mk.injEq] at H
 obtain ⟨rfl, rfl, rfl⟩ := H
 go_enter Tryz.func25, Tryz.ntmps25
 go_wp2_with (first | ((with_reducible refine af (N := 1) rfl ?_); refine bE (N := 1) (cs := #[.int .u32 aI, .int .i64 ax, .bool iL]) (t := 69) ?_; intro IB hg w2 hbox hb; have mL := ak (hbox); have aB4 := ak (gl hg : w.heap.size ≤ IB); have aC4 := ak (gl hg : w.heap.size ≤ IB); replace HB := bs hb; clear hb hbox hg) | ((with_reducible refine af (N := 2) rfl ?_); refine bE (N := 2) (cs := #[.int .u32 0, .int .i64 0, .bool false]) (t := 45) ?_; intro CM hg w3 hbox hb; have rb := ak (hbox); have aB3 := ak (gl hg : w.heap.size ≤ CM); have aC3 := ak (gl hg : w.heap.size ≤ CM); replace HB := bs hb; have Eg := ak (nl mL hg); have Ef := ak (ng mL hg); replace mL := bm mL hb; clear hb hbox hg; have aT0 := Eg.out; have aS8 := Ef.out; have Uv := cf mL 0; have Uu := cf mL 1; have aF4 := cf mL 2; have Uo := J mL.out 0; have Un := J mL.out 1; have aD9 := J mL.out 2; have yu := cf rb 0; have yt := cf rb 1; have FI := cf rb 2; have yr := J rb.out 0; have yq := J rb.out 1; have FE := J rb.out 2))
 refine bodyPost_ret (results_cell_row rfl _ _ CM 45 #[.int .u32 aI, .int .i64 ax, .bool iL] (0, 0) _ rfl (by (with_reducible repeat (first | refine ag ?_ _ | refine aj ?_ | refine ah ?_ _)); refine aM (cs := #[.int .u32 aI, .int .i64 ax, .bool false]) ?_ 2 _ rfl; (with_reducible repeat (first | refine ag ?_ _ | refine aj ?_ | refine ah ?_ _)); refine aM (cs := #[.int .u32 aI, .int .i64 0, .bool false]) ?_ 1 _ rfl; (with_reducible repeat (first | refine ag ?_ _ | refine aj ?_ | refine ah ?_ _)); refine aM (cs := #[.int .u32 0, .int .i64 0, .bool false]) ?_ 0 _ rfl; (with_reducible repeat (first | refine ag ?_ _ | refine aj ?_ | refine ah ?_ _)); exact rb.out) Tryz.underlying45 rfl (by kernel_rfl)) rfl ?_
 exact ⟨rg, bl⟩
end
section
attribute [local go_sem] bq bn bI bH aW aV bp bj
theorem UP (d : Nat) (w : World) (x0 y0 : Int) (x1 y1 : Int) :
  (Op.equalIn (d + 2) 144 (.agg #[.int .u32 x0, .int .i64 x1]) (.agg #[.int .u32 y0, .int .i64 y1])).run Tryz.prog w = .ok (x0 == y0 && (x1 == y1)) w := by
 refine wE Tryz.underlying144 (by kernel_rfl) ?_
 refine qT (by rfl) (by go_simp; rfl) (by go_simp; rfl) (by go_simp) ?_
 exact qS (by rfl) (by go_simp; rfl) (by go_simp; rfl) (by go_simp)
end
section
attribute [local go_sem] bq bn bI bH aW aV bp bj
attribute [local go_sem high] UP
def dg.l0 : Nat → List (S144) → List (S144) → Int → Int → Option (Bool)
 | 0, _, _, _, _ => none
 | k + 1, x0, x1, xT, xA => if xA < xT then (if 0 ≤ xA then (if xA < (x0.length : Int) then (if xA < (x1.length : Int) then (if (!(((aD x0 xA).f0) == ((aD x1 xA).f0)) || (!(((aD x0 xA).f1) == ((aD x1 xA).f1)))) = true then (some false) else (dg.l0 k x0 x1 xT (wrap64 (xA + 1)))) else (none)) else (none)) else (none)) else (some true)
def dg.f (k : Nat) (l0 : List (S144)) (l1 : List (S144)) : Option (Bool) := if (l0.length : Int) = (l1.length : Int) then (dg.l0 k l0 l1 (l0.length : Int) 0) else (some false)
set_option maxHeartbeats 8000000 in
set_option maxRecDepth 100000 in
theorem dg.calls (k : Nat) (A0 : Option Addr) (c0 : Nat) (l0 : List (S144)) (A1 : Option Addr) (c1 : Nat) (l1 : List (S144)) (r : Bool) (w : World) (nS : Kd.C ja w A0 l0.length l0) (en : l0.length ≤ c0) (iN : Kd.C ja w A1 l1.length l1) (iv : l1.length ≤ c1) (h : dg.f k l0 l1 = some r) :
  Calls Tryz.prog 34 #[.slice A0 l0.length c0, .slice A1 l1.length c1] w fun e w' => e = .returned (.bool r) ∧ Drawn0 w w' := by
 have J0 := Tryz.underlying144
 have lJ := ak nS
 have qJ := ak en
 clear nS en
 have ke := ak iN
 have pN := ak iv
 clear iN iv
 have H : (if (l0.length : Int) = (l1.length : Int) then (dg.l0 k l0 l1 (l0.length : Int) 0) else (some false)) = some r := h
 clear h
 by_cases c3 : (l0.length : Int) = (l1.length : Int)
 ·rw [if_pos c3] at H
  have gq : ((l0.length : Int) == (l1.length : Int)) = true := beq_iff_eq.mpr c3
  have yE : ((l0.length : Int) != (l1.length : Int)) = false := bne_eq_false_iff_eq.mpr c3
  have Kg : (l0.length == l1.length) = true := by first | simpa using c3 | (simp at c3 ⊢; omega)
  clear c3
  have H' := ak H; clear H
  go_enter Tryz.func34, Tryz.ntmps34
  go_wp2
  repeat (go_quiet (fail); try go_wp2)
  go_loopg [13] k (fun kq X7 w' => ∃ (eX : Int), X7 = .int .i64 eX ∧ Aside0 (dg.l0 kq l0 l1 (l0.length : Int) eX = some r) ∧ Aside0 (kq ≤ k) ∧ Drawn0 w w')
  case atStart => exact ⟨(0), rf, H', ⟨Nat.le_refl _⟩, dl⟩
  case round =>
   clear H'
   obtain ⟨eX, rfl, HA, ee, ⟨m1, rfl⟩⟩ := hrel
   cases gk with
   | zero => exact absurd HA.out (by simp [dg.l0])
   | succ k1 =>
    have H := HA.out
    clear HA
    simp only [dg.l0] at H
    by_cases c4 : eX < (l0.length : Int)
    ·rw [if_pos c4] at H
     have eQ := decide_eq_true c4
     clear c4
     by_cases c5 : 0 ≤ eX
     ·rw [if_pos c5] at H
      have nF := decide_eq_true c5
      clear c5
      by_cases c6 : eX < (l0.length : Int)
      ·rw [if_pos c6] at H
       have jd := decide_eq_true c6
       clear c6
       by_cases c7 : eX < (l1.length : Int)
       ·rw [if_pos c7] at H
        have qV := decide_eq_true c7
        clear c7
        by_cases c8 : (!(((aD l0 eX).f0) == ((aD l1 eX).f0)) || (!(((aD l0 eX).f1) == ((aD l1 eX).f1)))) = true
        ·rw [if_pos c8] at H
         have qU : (!(((aD l0 eX).f0) == ((aD l1 eX).f0)) || (!(((aD l0 eX).f1) == ((aD l1 eX).f1)))) = true := c8
         clear c8
         obtain rfl := Option.some.inj H
         have tE : 0 ≤ (eX : Int) := od
         have tv : eX < (l0.length : Int) := od
         obtain ⟨SG, FY, Ml, Mk⟩ := hU lJ.out eX tE tv
         cases FY
         replace tE := eq_true tE
         replace tv := eq_true tv
         have tD : 0 ≤ (eX : Int) := od
         have tu : eX < (l1.length : Int) := od
         obtain ⟨SF, FX, Mj, Mi⟩ := hU ke.out eX tD tu
         cases FX
         replace tD := eq_true tD
         replace tu := eq_true tu
         go_wp2
         repeat (go_quiet (fail); try go_wp2)
         go_ret
         exact ⟨rf, dl⟩
        ·rw [if_neg c8] at H
         have qU : (!(((aD l0 eX).f0) == ((aD l1 eX).f0)) || (!(((aD l0 eX).f1) == ((aD l1 eX).f1)))) = false := by simpa using c8
         clear c8
         have H' := ak H; clear H
         have tE : 0 ≤ (eX : Int) := od
         have tv : eX < (l0.length : Int) := od
         obtain ⟨SG, FY, Ml, Mk⟩ := hU lJ.out eX tE tv
         cases FY
         replace tE := eq_true tE
         replace tv := eq_true tv
         have tD : 0 ≤ (eX : Int) := od
         have tu : eX < (l1.length : Int) := od
         obtain ⟨SF, FX, Mj, Mi⟩ := hU ke.out eX tD tu
         cases FX
         replace tD := eq_true tD
         replace tu := eq_true tu
         go_wp2
         repeat (go_quiet (fail); try go_wp2)
         go_roundg k1
         case measure => have := ee.out; omega
         case rel => exact ⟨(wrap64 (eX + 1)), rf, H', ⟨by have := ee.out; omega⟩, dl⟩
       ·rw [if_neg c7] at H
        exact absurd H (by simp)
      ·rw [if_neg c6] at H
       exact absurd H (by simp)
     ·rw [if_neg c5] at H
      exact absurd H (by simp)
    ·rw [if_neg c4] at H
     have eQ := decide_eq_false c4
     clear c4
     obtain rfl := Option.some.inj H
     go_wp2
     repeat (go_quiet (fail); try go_wp2)
     go_ret
     exact ⟨rf, dl⟩
 ·rw [if_neg c3] at H
  have gq : ((l0.length : Int) == (l1.length : Int)) = false := beq_eq_false_iff_ne.mpr c3
  have yE : ((l0.length : Int) != (l1.length : Int)) = true := bne_iff_ne.mpr c3
  have Kg : (l0.length == l1.length) = false := by first | simpa using c3 | (simp at c3 ⊢; omega)
  obtain rfl := Option.some.inj H
  go_enter Tryz.func34, Tryz.ntmps34
  go_wp2
  repeat (go_quiet (fail); try go_wp2)
  go_ret
  exact ⟨rf, dl⟩
end
section
theorem UO (d : Nat) (w : World) (x0 y0 x1 y1 : Int) :
  (Op.equalIn (d + 2) 43 (.agg #[.int .u32 x0, .int .i64 x1]) (.agg #[.int .u32 y0, .int .i64 y1])).run Tryz.prog w = .ok (x0 == y0 && (x1 == y1)) w := by
 refine wE Tryz.underlying43 (by kernel_rfl) ?_
 refine qT (by rfl) (by go_simp; rfl) (by go_simp; rfl) (by go_simp) ?_
 exact qS (by rfl) (by go_simp; rfl) (by go_simp; rfl) (by go_simp)
theorem UN (d : Nat) (w : World) (x0 y0 x1 y1 : Int) (x2 y2 : Bool) :
  (Op.equalIn (d + 3) 45 (.agg #[.int .u32 x0, .int .i64 x1, .bool x2]) (.agg #[.int .u32 y0, .int .i64 y1, .bool y2])).run Tryz.prog w = .ok ((x0 == y0 && (x1 == y1)) && (x2 == y2)) w := by
 refine wE Tryz.underlying45 (by kernel_rfl) ?_
 refine qT (by rfl) (by go_simp) (by go_simp) (UO d w x0 y0 x1 y1) ?_
 exact qS (by rfl) (by go_simp; rfl) (by go_simp; rfl) (by go_simp)
theorem Ar (M : List rk) (kd : Int) (hM : M.length ≤ 1000) : ∀ (d j n k : Nat), j + d = M.length → n ≤ j → d < k → cX.l0 k kd (n : Int) M (M.length : Int) (j : Int) = some ((n + kR (M.drop j) kd : Nat) : Int)
 | 0, j, n, k + 1, hj, hn, hk => by
  unfold cX.l0
  rw [if_neg (by omega), List.drop_of_length_le (by omega)]
  rfl
 | d + 1, j, n, k + 1, hj, hn, hk => by
  have hjl : j < M.length := by omega
  have hr : dN M (j : Int) = M[j] := by simp [dN, List.getD, hjl]
  have hd : M.drop j = M[j] :: M.drop (j + 1) := List.drop_eq_getElem_cons hjl
  unfold cX.l0
  rw [if_pos (by omega), if_pos (by omega), if_pos (by omega), hr, hd, bB ((j : Int) + 1) (by omega) (by omega), bB ((n : Int) + 1) (by omega) (by omega)]
  by_cases he : (M[j]).f0 = kd
  ·rw [if_pos he]
   have ih := Ar M kd hM d (j + 1) (n + 1) k (by omega) (by omega) (by omega)
   rw [show ((n : Int) + 1) = ((n + 1 : Nat) : Int) by omega, show ((j : Int) + 1) = ((j + 1 : Nat) : Int) by omega, ih]
   congr 2
   unfold kR
   rw [List.filter_cons, if_pos (by simpa using he), List.length_cons]
   omega
  ·rw [if_neg he]
   have ih := Ar M kd hM d (j + 1) n k (by omega) (by omega) (by omega)
   rw [show ((j : Int) + 1) = ((j + 1 : Nat) : Int) by omega, ih]
   congr 2
   unfold kR
   rw [List.filter_cons, if_neg (by simpa using he)]
theorem pF (M : List rk) (kd : Int) (hM : M.length ≤ 1000) (A : Option Addr) (c : Nat) (w : World) (hC : Kd.C e7 w A M.length M) (hc : M.length ≤ c) :
  Calls Tryz.prog 11 #[.slice A M.length c, .int .i64 kd] w fun e w' => e = .returned (.int .i64 (kR M kd : Nat)) ∧ Below w.heap.size w w' :=
 cX.calls (M.length + 1) A c M kd _ w hC hc (by
  have h := Ar M kd hM M.length 0 0 (M.length + 1) (by omega) (by omega) (by omega)
  rw [Nat.zero_add, List.drop_zero] at h
  exact h)
theorem Bh (l : List qy) (hl : l.length ≤ 1000) : ∀ (d j k : Nat), j + d = l.length → d < k → cZ.l0 k ((l.take j).map jZ) l (l.length : Int) (j : Int) = some (l.map jZ)
 | 0, j, k + 1, hj, hk => by
  unfold cZ.l0
  rw [if_neg (by omega), List.take_of_length_le (by omega)]
 | d + 1, j, k + 1, hj, hk => by
  have hjl : j < l.length := by omega
  have hr : cM l (j : Int) = l[j] := by simp [cM, List.getD, hjl]
  have ih := Bh l hl d (j + 1) k (by omega) (by omega)
  rw [List.take_succ_eq_append_getElem hjl, List.map_append] at ih
  unfold cZ.l0
  rw [if_pos (by omega), if_pos (by omega), if_pos (by omega), if_pos (by rw [List.length_map, List.length_take]; omega), hr, bB ((j : Int) + 1) (by omega) (by omega), show ((j : Int) + 1) = ((j + 1 : Nat) : Int) by omega]
  exact ih
theorem Dv (l : List qy) (hl : l.length ≤ 1000) (A : Option Addr) (c : Nat) (w : World) (hC : Kd.C kS w A l.length l) (hc : l.length ≤ c) :
  Calls Tryz.prog 8 #[.slice A l.length c] w fun e w' => ∃ v, e = .returned v ∧ Kd.R rB 58 w' w.heap.size (fun _ => True) v (l.map jZ) ∧ Below w.heap.size w w' :=
 cZ.calls (l.length + 1) A c l _ w hC hc (Bh l hl l.length 0 (l.length + 1) (by omega) (by omega))
theorem zF (l : List Cn) (hl : l.length ≤ 65535) : ∀ (d j k : Nat), j + d = l.length → d < k → cY.l0 k ((l.take j).map ko) l (l.length : Int) (j : Int) = some (l.map ko)
 | 0, j, k + 1, hj, hk => by
  unfold cY.l0
  rw [if_neg (by omega), List.take_of_length_le (by omega)]
 | d + 1, j, k + 1, hj, hk => by
  have hjl : j < l.length := by omega
  have hr : ct l (j : Int) = l[j] := by simp [ct, List.getD, hjl]
  have ih := zF l hl d (j + 1) k (by omega) (by omega)
  rw [List.take_succ_eq_append_getElem hjl, List.map_append] at ih
  unfold cY.l0
  rw [if_pos (by omega), if_pos (by omega), if_pos (by omega), if_pos (by rw [List.length_map, List.length_take]; omega), hr, bB ((j : Int) + 1) (by omega) (by omega), show ((j : Int) + 1) = ((j + 1 : Nat) : Int) by omega]
  exact ih
theorem J2 (l : List Cn) (hl : l.length ≤ 65535) (v : Value) (w : World) (h : DU w v l) :
  Calls Tryz.prog 35 #[v] w fun e w' => ∃ v', e = .returned v' ∧ Kd.R ja 144 w' w.heap.size (fun _ => True) v' (l.map ko) ∧ Below w.heap.size w w' := by
 obtain ⟨A, c, rfl, hc, hC⟩ := h
 exact cY.calls (l.length + 1) A c l _ w hC hc (zF l hl l.length 0 (l.length + 1) (by omega) (by omega))
theorem Bp (l : List S144) (hl : l.length ≤ 65535) : ∀ (d j k : Nat), j + d = l.length → d < k → dg.l0 k l l (l.length : Int) (j : Int) = some true
 | 0, j, k + 1, hj, hk => by
  unfold dg.l0
  rw [if_neg (by omega)]
 | d + 1, j, k + 1, hj, hk => by
  have ih := Bp l hl d (j + 1) k (by omega) (by omega)
  unfold dg.l0
  rw [if_pos (by omega), if_pos (by omega), if_pos (by omega), if_pos (by omega), if_neg (by simp), bB ((j : Int) + 1) (by omega) (by omega), show ((j : Int) + 1) = ((j + 1 : Nat) : Int) by omega]
  exact ih
theorem Mn (l : List S144) (hl : l.length ≤ 65535) (A A2 : Option Addr) (c c2 : Nat) (w : World) (h : Kd.C ja w A l.length l) (hc : l.length ≤ c) (h2 : Kd.C ja w A2 l.length l) (jc : l.length ≤ c2) :
  Calls Tryz.prog 34 #[.slice A l.length c, .slice A2 l.length c2] w fun e w' => e = .returned (.bool true) ∧ Below w.heap.size w w' :=
 (dg.calls (l.length + 1) A c l A2 c2 l true w h hc h2 jc (by
  unfold dg.f
  rw [if_pos rfl]
  exact Bp l hl l.length 0 (l.length + 1) (by omega) (by omega))).mono (by
   rintro e w' ⟨rfl, nd, rfl⟩
   exact ⟨rfl, bh (Below.refl _ _) nd⟩)
end
section
abbrev YS := S78
abbrev Ig (a : Int) (s : ByteArray) (vs vf va : Value) : List Value := [.int .u32 a, .string s, vs, vf, va]
structure RbR (W : World) (b : Bk) (M : List YS) (As : Option Addr) (cs : Nat) (Af : Option Addr) (cf : Nat) (Aa : Option Addr) (ca : Nat) : Prop where
 m : M = b.attrs.map vc
 sr : Kd.C (Kd.int .i64) W As b.slots.length b.slots
 sc : b.slots.length ≤ cs
 fr : Kd.C (Kd.int .i64) W Af b.free.length b.free
 fc : b.free.length ≤ cf
 ar : Kd.C iZ W Aa M.length M
 ac : M.length ≤ ca
theorem RbR.below {W W1 : World} {b : Bk} {M : List YS} {As : Option Addr} {cs : Nat} {Af : Option Addr} {cf : Nat} {Aa : Option Addr} {ca : Nat} (h : RbR W b M As cs Af cf Aa ca) (hb : Below W.heap.size W W1) : RbR W1 b M As cs Af cf Aa ca := ⟨h.m, Kd.C_below h.sr hb, h.sc, Kd.C_below h.fr hb, h.fc, Kd.C_below h.ar hb, h.ac⟩
def Gr (W : World) (v : Value) (b : Bk) : Prop := ∃ M As cs Af cf Aa ca, v = .agg (Ig b.addr b.aff (.slice As b.slots.length cs) (.slice Af b.free.length cf) (.slice Aa M.length ca)).toArray ∧ RbR W b M As cs Af cf Aa ca
theorem Gr.below {W W1 : World} {v : Value} {b : Bk} (h : Gr W v b) (hb : Below W.heap.size W W1) : Gr W1 v b := by
 obtain ⟨M, As, cs, Af, cf, Aa, ca, e, hr⟩ := h
 exact ⟨M, As, cs, Af, cf, Aa, ca, e, hr.below hb⟩
def Vj (W : World) (base : Nat) (v : Value) (b : Bk) : Prop := ∃ vs vf va, v = .agg (Ig b.addr b.aff vs vf va).toArray ∧ Kd.R (Kd.int .i64) 3 W base (fun _ => True) vs b.slots ∧ Kd.R (Kd.int .i64) 3 W base (fun _ => True) vf b.free ∧ Kd.R iZ 78 W base (fun _ => True) va (b.attrs.map vc)
theorem Vj.toV {W : World} {base : Nat} {v : Value} {b : Bk} (h : Vj W base v b) : Gr W v b := by
 obtain ⟨vs, vf, va, rfl, h1, h2, h3⟩ := h
 obtain ⟨As, cs, rfl, l1, c1⟩ := Kd.R_reads h1
 obtain ⟨Af, cf, rfl, l2, c2⟩ := Kd.R_reads h2
 obtain ⟨Aa, ca, rfl, l3, c3⟩ := Kd.R_reads h3
 exact ⟨_, As, cs, Af, cf, Aa, ca, rfl, rfl, c1, l1, c2, l2, c3, l3⟩
end
section
attribute [local go_sem high] P8
set_option maxHeartbeats 16000000 in
set_option maxRecDepth 100000 in
theorem Ll (b : Bk) (hs : b.slots.length ≤ 1000) (hf : b.free.length ≤ 1000) (ha : b.attrs.length ≤ 1000) (v v2 : Value) (w : World) (h : Gr w v b) (h2 : Gr w v2 b) :
  Calls Tryz.prog 19 #[v, v2] w fun e w' => e = .returned (.bool true) ∧ Below w.heap.size w w' := by
 obtain ⟨M, A0, c0, A1, c1, A2, c2, rfl, r⟩ := h
 obtain ⟨M2, A3, c3, A4, c4, A5, c5, rfl, r2⟩ := h2
 obtain rfl : M2 = M := r2.m.trans r.m.symm
 have hM : M2.length ≤ 1000 := by rw [r.m, List.length_map]; exact ha
 have R1 := ak r
 have R2 := ak r2
 have ac0 := ak (Below.refl w.heap.size w)
 clear r r2 ha
 go_enter Tryz.func19, Tryz.ntmps19
 go_wp2_with (first
  | (refine cH rfl 49 (.tmp 0) rfl _ rfl ?_; intro gX W1 hg hx hb; have HX := ak hx; have ke := ak (R1.out.below hb); have qz := ak (R2.out.below hb); have HB := ak hb; clear hg hx hb R1 R2 ac0)
  | (refine cH rfl 49 (.tmp 1) rfl _ rfl ?_; intro gY W2 hg hx hb; have eM := ak (HX.out.below hb); have fQ := ak hx; have R1 := ak (ke.out.below hb); have R2 := ak (qz.out.below hb); have bR := ak (HB.out.trans (hb.mono HB.out.size)); clear hg hx hb ke qz HB HX; have x0_ := eM.out.cell 0 _ rfl; have x1_ := eM.out.cell 1 _ rfl; have x2_ := eM.out.cell 2 _ rfl; have x3_ := eM.out.cell 3 _ rfl; have x4_ := eM.out.cell 4 _ rfl; have y0_ := fQ.out.cell 0 _ rfl; have y1_ := fQ.out.cell 1 _ rfl; have y2_ := fQ.out.cell 2 _ rfl; have y3_ := fQ.out.cell 3 _ rfl; have y4_ := fQ.out.cell 4 _ rfl))
 go_loopw [5, 50] (fun _ i W => ∃ k nd : Nat, k ≤ b.slots.length ∧ W = W2.drewN nd ∧ i = .int .i64 k) (fun _ i _ => b.slots.length - (intOf i).toNat)
 case atStart => exact ⟨0, 0, by omega, rfl, rfl⟩
 case round =>
  obtain ⟨k, nd, hk, rfl, rfl⟩ := hrel
  by_cases hq : k < b.slots.length
  ·have hb : decide ((k : Int) < (b.slots.length : Int)) = true := by simp; omega
   have p1 : ((k : Int) < (b.slots.length : Int)) = True := eq_true (by omega)
   obtain ⟨ad, eA, hx⟩ := Kd.at_int R1.out.sr k (by omega) (by omega)
   obtain ⟨ae, eB, hy⟩ := Kd.at_int R2.out.sr k (by omega) (by omega)
   cases eA
   cases eB
   rw [Int.toNat_natCast] at hx hy
   go_wp2
   go_quiet (fail)
   go_wp2
   go_roundw
   case rel => exact ⟨k + 1, _, by omega, rfl, by go_num⟩
   case measure => simp [intOf]; omega
  ·obtain rfl : k = b.slots.length := by omega
   have hb : decide ((b.slots.length : Int) < (b.slots.length : Int)) = false := by simp
   go_wp2
   go_loopw [6, 68] (fun _ i W => ∃ k nd : Nat, k ≤ b.free.length ∧ W = W2.drewN nd ∧ i = .int .i64 k) (fun _ i _ => b.free.length - (intOf i).toNat)
   case atStart => exact ⟨0, nd, by omega, rfl, rfl⟩
   case round =>
    obtain ⟨k, nd, hk, rfl, rfl⟩ := hrel
    by_cases hq : k < b.free.length
    ·have hb : decide ((k : Int) < (b.free.length : Int)) = true := by simp; omega
     have p1 : ((k : Int) < (b.free.length : Int)) = True := eq_true (by omega)
     obtain ⟨ad, eA, hx⟩ := Kd.at_int R1.out.fr k (by omega) (by omega)
     obtain ⟨ae, eB, hy⟩ := Kd.at_int R2.out.fr k (by omega) (by omega)
     cases eA
     cases eB
     rw [Int.toNat_natCast] at hx hy
     go_wp2
     go_quiet (fail)
     go_wp2
     go_roundw
     case rel => exact ⟨k + 1, _, by omega, rfl, by go_num⟩
     case measure => simp [intOf]; omega
    ·obtain rfl : k = b.free.length := by omega
     have hb : decide ((b.free.length : Int) < (b.free.length : Int)) = false := by simp
     go_wp2
     go_loopw [7, 86] (fun _ i W => ∃ k nd : Nat, k ≤ M2.length ∧ W = W2.drewN nd ∧ i = .int .i64 k) (fun _ i _ => M2.length - (intOf i).toNat)
     case atStart => exact ⟨0, nd, by omega, rfl, rfl⟩
     case round =>
      obtain ⟨k, nd, hk, rfl, rfl⟩ := hrel
      by_cases hq : k < M2.length
      ·have hb : decide ((k : Int) < (M2.length : Int)) = true := by simp; omega
       have p1 : ((k : Int) < (M2.length : Int)) = True := eq_true (by omega)
       obtain ⟨ad, eA, hx, eD⟩ := wQ R1.out.ar k (by omega) (by omega)
       obtain ⟨ae, eB, hy, lu⟩ := wQ R2.out.ar k (by omega) (by omega)
       cases eA
       cases eB
       rw [Int.toNat_natCast] at hx hy eD lu
       go_wp2
       go_quiet (fail)
       go_wp2
       go_roundw
       case rel => exact ⟨k + 1, _, by omega, rfl, by go_num⟩
       case measure => simp [intOf]; omega
      ·obtain rfl : k = M2.length := by omega
       have hb : decide ((M2.length : Int) < (M2.length : Int)) = false := by simp
       go_wp2
       go_ret
       exact ⟨rfl, bh (dj bR.out (Below.refl _ _)) _⟩
end
section
theorem Gq (ad : Addr) (m n : Nat) : (ad.add m).add n = ad.add (m + n) := by
 unfold Addr.add
 by_cases h1 : m = 0
 ·subst h1; simp
 ·by_cases h2 : n = 0
  ·subst h2; simp
  ·rw [if_neg h1, if_neg h2, if_neg (by omega)]
   simp [Nat.add_assoc]
theorem JJ {P : Program} (w : World) (ad : Addr) (ty : TypeId) (part : List Value) (d : TypeDesc) (hp : ∀ j v, part[j]? = some v → w.cell? (ad.add j) = some v)
  (hu : P.underlying ty = some d) (hd : (match d with | .struct _ | .array _ _ => true | _ => false) = true) (hi : (P.info? ty).map (·.size) = some part.length) :
  (loadVar ty ad).run P w = .ok (.agg part.toArray) w := by
 have hl : (loadCells ad part.length).run P w = .ok part.toArray w := run_loadCells_list (P := P) w ad part hp
 cases hq : P.info? ty with
 | none => simp [hq] at hi
 | some i =>
  have hs : i.size = part.length := by simpa [hq] using hi
  cases d <;> simp at hd <;> simp [loadVar, isAgg, run_underlying hu, sizeOf, typeInfo, hq, hs, hl]
theorem vx {P : Program} {o : Oper} {a : Act} {w : World} (ty : TypeId) (x : Operand) (ho : o.op = .load ty x) (ad : Addr) (hx : a.eval x = .pointer (some ad)) (cs : List Value) (d : TypeDesc) (hp : ∀ j v, cs[j]? = some v → w.cell? (ad.add j) = some v)
  (hu : P.underlying ty = some d) (hd : (match d with | .struct _ | .array _ _ => true | _ => false) = true) (hi : (P.info? ty).map (·.size) = some cs.length) :
  (execOp a.eval o).run P w = .ok (.value (.agg cs.toArray)) w := by
 unfold execOp
 simp only [ho, hx, Instr.loadAt, Instr.sureAddr, Sem.run_bind, Sem.run_pure, Result.andThen_ok, JJ w ad ty cs d hp hu hd hi]
theorem xD {P : Program} {o : Oper} {a : Act} {w : World} (ty : TypeId) (x : Operand) (ho : o.op = .load ty x) (g off : Nat) (hx : a.eval x = .pointer (some ⟨g, off, none⟩)) (t : Nat) (cs part : List Value) (d : TypeDesc) (hb : bC w g cs t) (hp : ∀ j v, part[j]? = some v → cs[off + j]? = some v)
  (hu : P.underlying ty = some d) (hd : (match d with | .struct _ | .array _ _ => true | _ => false) = true) (hi : (P.info? ty).map (·.size) = some part.length) :
  (execOp a.eval o).run P w = .ok (.value (.agg part.toArray)) w :=
 vx ty x ho ⟨g, off, none⟩ hx part d (fun j v hj => by rw [M3]; exact hb.cell _ _ (hp j v hj)) hu hd hi
theorem tn {P : Program} {ops : Array Oper} {rest : List Oper} {o : Oper} {a : Act} {w : World} {Q : Exit → Act → World → Prop} (hgd : o.guard = none) (ty : TypeId) (x y : Operand) (ho : o.op = .lookup ty x y true) (m k : Value) (hx : a.eval x = m) (hy : a.eval y = k) {v : Value} (hl : (Instr.lookup ty m k true).run P w = .ok v w)
  (h : wpList P ops Q rest (a.put o.dst v) w) : wpList P ops Q (o :: rest) a w := by
 refine o0 hgd (v := v) (w1 := w) ?_ h
 unfold execOp
 simp only [ho, hx, hy, Sem.run_bind, hl, Result.andThen_ok, Sem.run_pure]
theorem yh {κ : Type} [DecidableEq κ] {kt : TypeId} {enc : κ → Value} {W : World} {g : Nat} {l : List (κ × Value)} (hK : KeyK κ kt enc) {mt et : TypeId} (hm : Tryz.prog.underlying mt = some (.map kt et)) {z : Value} (hz : ∀ w, (zeroValue et).run Tryz.prog w = .ok z w) (h : eR enc W g l) (k : κ) {v : Value} (hf : (dx k l 0).map Prod.snd = some v) :
  (Instr.lookup mt (.map (some g)) (enc k) true).run Tryz.prog W = .ok (.tuple #[v, .bool true]) W := by
 rw [Ds hK hm hz h k true, if_pos rfl, hf]
 cases hq : dx k l 0 with
 | none => rw [hq] at hf; cases hf
 | some q => rfl
abbrev oK (k : Int) (s : ByteArray) (a pa pb : Int) (po : Bool) (x : Int) (f : ByteArray) (v8 v9 v10 : Value) (st : Int) (v12 : Value) (g : Bool) : List Value := [.int .i64 k, .string s, .int .u32 a, .int .u32 pa, .int .i64 pb, .bool po, .int .u32 x, .string f, v8, v9, v10, .int .i64 st, v12, .bool g]
section
attribute [local go_sem high] UN
def uK.T3 : Bool × List (List Nat × List Nat) := (true, [([], []), ([0], [0]), ([], []), ([1, 2], [1, 2]), ([3], [3]), ([4], [4]), ([], []), ([6], [6]), ([5, 7], [5, 7]), ([8, 5, 0, 1, 2, 3, 4, 5, 6, 7, 8], [8])])
def uK.B3 : List Nat := [0, 1, 0, 7, 15, 31, 0, 64, 255, 511]
theorem uK.tab3 : dA .any (opsOf Tryz.f12 3) = uK.T3 := by kernel_rfl
theorem uK.bits3 : dy uK.T3.2 uK.B3 = true := by kernel_rfl
set_option maxHeartbeats 16000000 in
set_option maxRecDepth 100000 in
theorem Lh (V : VS) (Ap Ab : Option Addr) (cp cb m1 m2 m3 : Nat) (w : World) (hV : VwV w Ap Ab cp cb m1 m2 m3 V) (p : S69) (k : Nat) (hk : V.pools[k]? = some p) (cs : List Value) (hK : e7.K w (j4 (.pool p)) cs) :
  Calls Tryz.prog 12 #[.agg (mO Ap Ab cp cb m1 m2 m3 V).toArray, .agg cs.toArray, .int .i64 (k : Int)] w fun e w' => e = .returned (.bool true) ∧ Below w.heap.size w w' := by
 obtain ⟨A8, c8, A9, c9, kr, c10, jE, dB, rfl, l8, g8, l9, g9, sG, g10, sF, g12⟩ := np hK
 show Calls _ _ #[_, .agg (oK 1 ⟨#[]⟩ 0 p.f0.f0 p.f0.f1 p.f1 0 ⟨#[]⟩ (.slice A8 0 c8) (.slice A9 0 c9) (.slice kr 0 c10) 0 (.slice jE 0 dB) false).toArray, _] _ _
 have hkl : k < V.pools.length := (List.getElem?_eq_some_iff.1 hk).1
 have hrd : vU V.pools (k : Int) = p := by simp [vU, List.getD, hk]
 obtain ⟨ad, eA, iM, lu, uS⟩ := MW hV.pr (k : Int) (by omega) (by omega)
 cases eA
 rw [Int.toNat_natCast, hrd] at iM lu uS
 have Y0 := ak iM
 have Y1 := ak lu
 have Y2 := ak uS
 have p0 : (0 ≤ (k : Int)) = True := eq_true (by omega)
 have p1 : ((k : Int) < (V.pools.length : Int)) = True := eq_true (by omega)
 clear iM lu uS hK l8 g8 l9 g9 sG g10 sF g12 hV hk hrd hkl
 go_enter Tryz.func12, Tryz.ntmps12
 go_wp2_with (first
  | (refine cH rfl 30 (.tmp 0) rfl (mO (some ad) Ab cp cb m1 m2 m3 V) rfl ?_; intro gv W1 cj eD aw; have HX := ak eD; have HB := ak aw; clear cj eD aw)
  | (refine cH rfl 52 (.tmp 1) rfl (oK 1 ⟨#[]⟩ 0 p.f0.f0 p.f0.f1 p.f1 0 ⟨#[]⟩ (.slice A8 0 c8) (.slice A9 0 c9) (.slice kr 0 c10) 0 (.slice jE 0 dB) false) rfl ?_; intro gr W2 dz ji aU; have HY := ak ji; replace HX := ak (HX.out.below aU); replace HB := ak (HB.out.trans (aU.mono HB.out.size)); have iM := HY.out.cell 0 _ rfl; clear dz ji aU))
 have qH := ak (HX.out.below (bu (Below.refl W2.heap.size W2)))
 have DX := ak (HY.out.below (bu (Below.refl W2.heap.size W2)))
 have jg := ak (HB.out.trans ((bu (Below.refl W2.heap.size W2)).mono HB.out.size))
 have HD := ak (Below.refl W2.drew.heap.size W2.drew)
 clear HX HY HB
 clear iM
 refine dV (n := 10) (S := fun w' => Below W2.drew.heap.size W2.drew w') (ds := []) #[false, false, false, false, false, false, false, false, false, false] (by kernel_rfl) rfl rfl (Below.refl _ _) (fun hHeld => ?_); refine cz uK.tab3 uK.bits3 (fun aa bV => ?_)
 refine pu 0 aa.out ?_
 refine tk 1 aa.out bV.out hHeld ?_ (hv := by intro w' bx; have x0 := (qH.out.below bx).cell 0 _ rfl; go_simp; with_reducible rfl)
 refine pu 2 aa.out ?_
 refine pu 3 aa.out ?_
 refine tk 4 aa.out bV.out hHeld ?_ (hv := by intro w' bx; have b_ := jg.out.trans (bx.mono jg.out.size); have y0 := (b_.cell (World.block_lt_of_cell? w _ Y0.out)).trans Y0.out; have y1 := (b_.cell (World.block_lt_of_cell? w _ Y1.out)).trans Y1.out; have y2 := (b_.cell (World.block_lt_of_cell? w _ Y2.out)).trans Y2.out; go_simp; with_reducible rfl)
 refine pu 6 aa.out ?_
 refine tk 7 aa.out bV.out hHeld ?_ (hv := by intro w' bx; refine xD 45 (.tmp 23) ?_ gr 3 ?_ _ _ [.int .u32 p.f0.f0, .int .i64 p.f0.f1, .bool p.f1] _ (DX.out.below bx) ?_ Tryz.underlying45 rfl (by kernel_rfl); rfl; rfl; (intro j v hj; match j, hj with | 0, hj => exact hj | 1, hj => exact hj | 2, hj => exact hj))
 refine on 5 aa.out (fun K hK => ?_)
 refine gs Tryz.func25 #[.agg #[.int .u32 p.f0.f0, .int .i64 p.f0.f1, .bool p.f1]] (mV.calls p.f0.f0 p.f0.f1 p.f1 _ _ _ _ rfl) ?_
 rintro e V5 ⟨rfl, ao⟩
 refine ⟨_, rfl, ?_⟩
 replace HD := mv ao HD; clear ao
 refine kn hK HD.out (fun hHeld => ?_)
 clear hK K
 refine pu 8 aa.out ?_
 refine pu 9 aa.out ?_
 refine dn aa.out ?_
 go_wp2
 go_ret
 exact ⟨by simp, jg.out.trans (HD.out.mono jg.out.size)⟩
end
def uJ.T5 : Bool × List (List Nat × List Nat) := (true, [([], []), ([0], [0]), ([], []), ([1, 2], [1, 2]), ([3], [3]), ([4], [4]), ([], []), ([6], [6]), ([5, 7, 5], [5, 7]), ([8, 8, 0, 1, 2, 3, 4, 5, 6, 7, 8], [8])])
def uJ.B5 : List Nat := [0, 1, 0, 7, 15, 31, 0, 64, 255, 511]
theorem uJ.tab5 : dA .any (opsOf Tryz.f12 5) = uJ.T5 := by kernel_rfl
theorem uJ.bits5 : dy uJ.T5.2 uJ.B5 = true := by kernel_rfl
set_option maxHeartbeats 16000000 in
set_option maxRecDepth 100000 in
theorem Ns (V : VS) (Ap Ab : Option Addr) (cp cb m1 m2 m3 : Nat) (w : World) (hV : VwV w Ap Ab cp cb m1 m2 m3 V) (b : Bk) (k : Nat) (cb' : List Value) (hk : V.bcs[k]? = some (cb', b)) (hbk : BkOk b) (hfl : b.free.length ≤ 1000) (hal : b.attrs.length ≤ 1000) (hsl : b.slots.length = 64) (cs : List Value) (hK : e7.K w (j4 (.blk b)) cs) :
  Calls Tryz.prog 12 #[.agg (mO Ap Ab cp cb m1 m2 m3 V).toArray, .agg cs.toArray, .int .i64 (k : Int)] w fun e w' => e = .returned (.bool true) ∧ Below w.heap.size w w' := by
 obtain ⟨A8, c8, A9, c9, kr, c10, jE, dB, rfl, l8, g8, l9, g9, sG, g10, sF, g12⟩ := np hK
 show Calls _ _ #[_, .agg (oK 2 ⟨#[]⟩ 0 0 0 false b.addr b.aff (.slice A8 b.slots.length c8) (.slice A9 b.free.length c9) (.slice kr (b.attrs.map vc).length c10) 0 (.slice jE 0 dB) false).toArray, _] _ _
 have hkl : k < V.bcs.length := (List.getElem?_eq_some_iff.1 hk).1
 have hkm : (V.bcs.map Prod.fst).getD k [] = cb' := by simp [List.getD, hk]
 have hin : sm w (.agg cb'.toArray) b := hV.inn.1 (cb', b) (List.mem_of_getElem? hk)
 obtain ⟨ad, cc, eA, hcl, hcK, hcc⟩ := Kd.C_get hV.br [] (k : Int) (by omega) (by omega)
 cases eA
 rw [Int.toNat_natCast, hkm] at hcK
 obtain rfl : cc = cb' := hcK.1
 have CI : cc.length = 68 := hcl
 rw [Int.toNat_natCast] at hcc
 have HC := ak (show ∀ (j : Nat) (u : Value), cc[j]? = some u → w.cell? ((ad.add (k * 68)).add j) = some u from fun j u hj => by rw [Gq]; exact hcc j u hj)
 have HI := ak (show (Tryz.prog.info? 64).map (·.size) = some cc.length by rw [CI]; kernel_rfl)
 have HN := ak hin
 have HR := ak (show RbR w b (b.attrs.map vc) A8 c8 A9 c9 kr c10 from ⟨rfl, g8, l8, g9, l9, g10, sG⟩)
 have HPL := ak (LF b hbk hfl hal)
 have HSM := ak (Ll b (by omega) hfl hal)
 have p0 : (0 ≤ (k : Int)) = True := eq_true (by omega)
 have p1 : ((k : Int) < (V.bcs.length : Int)) = True := eq_true (by omega)
 clear hK l8 g8 l9 g9 sG g10 sF g12 hV hk hkl hkm hin hcl hcK hcc CI hbk hfl hal hsl
 go_enter Tryz.func12, Tryz.ntmps12
 go_wp2_with (first
  | (refine cH rfl 30 (.tmp 0) rfl (mO Ap (some ad) cp cb m1 m2 m3 V) rfl ?_; intro gv W1 cj eD aw; have HX := ak eD; have HB := ak aw; clear cj eD aw)
  | (refine cH rfl 52 (.tmp 1) rfl (oK 2 ⟨#[]⟩ 0 0 0 false b.addr b.aff (.slice A8 b.slots.length c8) (.slice A9 b.free.length c9) (.slice kr (b.attrs.map vc).length c10) 0 (.slice jE 0 dB) false) rfl ?_; intro gr W2 dz ji aU; have HY := ak ji; replace HX := ak (HX.out.below aU); replace HB := ak (HB.out.trans (aU.mono HB.out.size)); have iM := HY.out.cell 0 _ rfl; clear dz ji aU))
 have qH := ak (HX.out.below (bu (Below.refl W2.heap.size W2)))
 have DX := ak (HY.out.below (bu (Below.refl W2.heap.size W2)))
 have jg := ak (HB.out.trans ((bu (Below.refl W2.heap.size W2)).mono HB.out.size))
 have HD := ak (Below.refl W2.drew.heap.size W2.drew)
 clear HX HY HB
 clear iM
 refine dV (n := 10) (S := fun w' => Below W2.drew.heap.size W2.drew w') (ds := []) #[false, false, false, false, false, false, false, false, false, false] (by kernel_rfl) rfl rfl (Below.refl _ _) (fun hHeld => ?_); refine cz uJ.tab5 uJ.bits5 (fun aa bV => ?_)
 refine pu 0 aa.out ?_
 refine tk 1 aa.out bV.out hHeld ?_ (hv := by intro w' bx; have x0 := (qH.out.below bx).cell 1 _ rfl; go_simp; with_reducible rfl)
 refine pu 2 aa.out ?_
 refine pu 3 aa.out ?_
 refine tk 4 aa.out bV.out hHeld ?_ (hv := by intro w' bx; have b_ := jg.out.trans (bx.mono jg.out.size); refine vx 64 (.tmp 31) ?_ _ ?_ cc _ (fun j u hj => (b_.cell (World.block_lt_of_cell? w _ (HC.out j u hj))).trans (HC.out j u hj)) Tryz.underlying64 rfl HI.out; rfl; rfl)
 refine pu 6 aa.out ?_
 refine tk 7 aa.out bV.out hHeld ?_ (hv := by intro w' bx; refine xD 49 (.tmp 34) ?_ gr 6 ?_ _ _ (Ig b.addr b.aff (.slice A8 b.slots.length c8) (.slice A9 b.free.length c9) (.slice kr (b.attrs.map vc).length c10)) _ (DX.out.below bx) ?_ Tryz.underlying49 rfl (by kernel_rfl); rfl; rfl; (intro j v hj; match j, hj with | 0, hj => exact hj | 1, hj => exact hj | 2, hj => exact hj | 3, hj => exact hj | 4, hj => exact hj))
 refine on 5 aa.out (fun K hK => ?_)
 refine gs Tryz.func20 #[.agg cc.toArray] (HPL.out _ _ (HN.out.below jg.out)) ?_
 rintro e V5 ⟨S9, Ta, Tf, rfl, MA, Mz, BG, ao⟩
 refine ⟨_, rfl, ?_⟩
 have HV5 := ak (show Gr V5 (.agg (Ig b.addr b.aff S9 Ta Tf).toArray) b from Vj.toV ⟨S9, Ta, Tf, rfl, MA, Mz, BG⟩); clear MA Mz BG; replace HD := mv ao HD; clear ao
 refine kn hK HD.out (fun hHeld => ?_)
 clear hK K
 refine on 8 aa.out (fun K hK => ?_)
 refine gs Tryz.func19 #[.agg (Ig b.addr b.aff S9 Ta Tf).toArray, .agg (Ig b.addr b.aff (.slice A8 b.slots.length c8) (.slice A9 b.free.length c9) (.slice kr (b.attrs.map vc).length c10)).toArray] (HSM.out _ _ _ HV5.out ⟨_, _, _, _, _, _, _, rfl, HR.out.below (jg.out.trans (HD.out.mono jg.out.size))⟩) ?_
 rintro e V8 ⟨rfl, ao⟩
 refine ⟨_, rfl, ?_⟩
 replace HD := mv ao HD; clear ao
 refine kn hK HD.out (fun hHeld => ?_)
 clear hK K
 refine pu 9 aa.out ?_
 refine dn aa.out ?_
 go_wp2
 go_ret
 exact ⟨rfl, jg.out.trans (HD.out.mono jg.out.size)⟩
set_option maxHeartbeats 16000000 in
set_option maxRecDepth 100000 in
theorem Nu (V : VS) (Ap Ab : Option Addr) (cp cb m1 m2 m3 : Nat) (w : World) (hV : VwV w Ap Ab cp cb m1 m2 m3 V) (s : ByteArray) (a n : Int) (k : Nat) (hf : (dx (s, a) V.am 0).map Prod.snd = some (.int .i64 n)) (cs : List Value) (hK : e7.K w (j4 (.aff s a n)) cs) :
  Calls Tryz.prog 12 #[.agg (mO Ap Ab cp cb m1 m2 m3 V).toArray, .agg cs.toArray, .int .i64 (k : Int)] w fun e w' => e = .returned (.bool true) ∧ Below w.heap.size w w' := by
 obtain ⟨A8, c8, A9, c9, kr, c10, jE, dB, rfl, l8, g8, l9, g9, sG, g10, sF, g12⟩ := np hK
 show Calls _ _ #[_, .agg (oK 3 s a 0 0 false 0 ⟨#[]⟩ (.slice A8 0 c8) (.slice A9 0 c9) (.slice kr 0 c10) n (.slice jE 0 dB) false).toArray, _] _ _
 have HF := ak hf
 have HM := ak hV.am
 clear hK l8 g8 l9 g9 sG g10 sF g12 hV hf
 go_enter Tryz.func12, Tryz.ntmps12
 go_wp2_with (first
  | (refine cH rfl 30 (.tmp 0) rfl (mO Ap Ab cp cb m1 m2 m3 V) rfl ?_; intro gv W1 cj eD aw; have HX := ak eD; have HB := ak aw; clear cj eD aw)
  | (refine cH rfl 52 (.tmp 1) rfl (oK 3 s a 0 0 false 0 ⟨#[]⟩ (.slice A8 0 c8) (.slice A9 0 c9) (.slice kr 0 c10) n (.slice jE 0 dB) false) rfl ?_; intro gr W2 dz ji aU; have HY := ak ji; replace HX := ak (HX.out.below aU); replace HB := ak (HB.out.trans (aU.mono HB.out.size)); have iM := HY.out.cell 0 _ rfl; have lu := HY.out.cell 1 _ rfl; have uS := HY.out.cell 2 _ rfl; have aQ3 := HY.out.cell 11 _ rfl; have aQ5 := HX.out.cell 2 _ rfl; clear dz ji aU)
  | ((with_reducible refine af (N := 47) rfl ?_); refine tn rfl 26 (.tmp 41) (.tmp 46) rfl (.map (some m1)) (sA (s, a)) rfl rfl (yh Qo Tryz.underlying26 (z := .int .i64 0) (fun _ => by kernel_rfl) (HM.out.below HB.out) (s, a) HF.out) ?_))
 go_ret
 exact ⟨by simp, HB.out⟩
def rv.T11 : Bool × List (List Nat × List Nat) := (true, [([], []), ([0], [0]), ([1], [1]), ([2, 1, 1], [1, 2]), ([1], [1]), ([4, 1], [1, 4]), ([3, 5, 3, 1], [1, 3, 5]), ([1, 6], [1, 6]), ([7, 6, 0, 1, 2, 3, 4, 5, 6, 7], [7])])
def rv.B11 : List Nat := [0, 1, 3, 7, 3, 19, 63, 127, 255]
theorem rv.tab11 : dA .any (opsOf Tryz.f12 11) = rv.T11 := by kernel_rfl
theorem rv.bits11 : dy rv.T11.2 rv.B11 = true := by kernel_rfl
set_option maxHeartbeats 16000000 in
set_option maxRecDepth 100000 in
theorem Nr (V : VS) (Ap Ab : Option Addr) (cp cb m1 m2 m3 : Nat) (w : World) (hV : VwV w Ap Ab cp cb m1 m2 m3 V) (s : ByteArray) (l : List Cn) (k : Nat) (u : Value) (hf : (dx s V.hm 0).map Prod.snd = some u) (hm : (s, u, l) ∈ V.hcs) (hl : l.length ≤ 4096) (cs : List Value) (hK : e7.K w (j4 (.hnd s l)) cs) :
  Calls Tryz.prog 12 #[.agg (mO Ap Ab cp cb m1 m2 m3 V).toArray, .agg cs.toArray, .int .i64 (k : Int)] w fun e w' => e = .returned (.bool true) ∧ Below w.heap.size w w' := by
 obtain ⟨A8, c8, A9, c9, kr, c10, jE, dB, rfl, l8, g8, l9, g9, sG, g10, sF, g12⟩ := np hK
 show Calls _ _ #[_, .agg (oK 4 s 0 0 0 false 0 ⟨#[]⟩ (.slice A8 0 c8) (.slice A9 0 c9) (.slice kr 0 c10) 0 (.slice jE (l.map ko).length dB) false).toArray, _] _ _
 obtain ⟨M, hM⟩ : ∃ M, M = l.map ko := ⟨_, rfl⟩
 rw [← hM]
 have UJ : Kd.C ja w jE M.length M := by rw [hM]; exact g12
 have TO : M.length ≤ dB := by rw [hM]; exact sF
 have hML : M.length ≤ 65535 := by rw [hM, List.length_map]; omega
 have HF := ak hf
 have HM := ak hV.hm
 have hin : DU w u l := hV.inn.2 (s, u, l) hm
 have HN := ak hin
 obtain ⟨Au, cu, eu, hcu, hCu⟩ := hin
 subst eu
 have HCV := ak (And.intro hcu hCu)
 clear hcu hCu
 have HC := ak UJ
 have HCl := ak TO
 have HLM := ak hML
 have HMq := ak hM
 have HLL := ak (show l.length ≤ 65535 by omega)
 clear UJ TO hML hM hK l8 g8 l9 g9 sG g10 sF g12 hV hf hm hl
 go_enter Tryz.func12, Tryz.ntmps12
 go_wp2_with (first
  | (refine cH rfl 30 (.tmp 0) rfl (mO Ap Ab cp cb m1 m2 m3 V) rfl ?_; intro gv W1 cj eD aw; have HX := ak eD; have HB := ak aw; clear cj eD aw)
  | (refine cH rfl 52 (.tmp 1) rfl (oK 4 s 0 0 0 false 0 ⟨#[]⟩ (.slice A8 0 c8) (.slice A9 0 c9) (.slice kr 0 c10) 0 (.slice jE M.length dB) false) rfl ?_; intro gr W2 dz ji aU; have HY := ak ji; replace HX := ak (HX.out.below aU); replace HB := ak (HB.out.trans (aU.mono HB.out.size)); have iM := HY.out.cell 0 _ rfl; have lu := HY.out.cell 1 _ rfl; have Zn := HX.out.cell 3 _ rfl; clear dz ji aU)
  | ((with_reducible refine af (N := 64) rfl ?_); refine tn rfl 27 (.tmp 61) (.tmp 63) rfl (.map (some m2)) (.string s) rfl rfl (yh ya Tryz.underlying27 (z := .agg #[.slice none 0 0]) (fun _ => by kernel_rfl) (HM.out.below HB.out) s HF.out) ?_)
  | ((with_reducible refine af (N := 9) rfl ?_); refine aE (some 9) rfl rfl 99 rfl [.slice none 0 0] (fun _ => by kernel_rfl) ?_; intro gh W3 dd hbx hb; have HH := ak hbx; have HG := ak dd; have HGW := ak (Nat.le_trans HB.out.size dd); have HGY := ak (show gr ≠ gh by have := HY.out.lt; omega); replace HY := ak (HY.out.below hb); replace HB := ak (HB.out.trans (hb.mono HB.out.size)); clear hb hbx dd iM lu Zn)
  | ((with_reducible refine cg (t := 99) (p := 9) (v := .tmp 65) rfl ?_); refine ay rfl 99 (.tmp 9) (.tmp 65) rfl gh [.slice Au l.length cu] rfl rfl 99 _ HH.out 1 (by kernel_rfl) rfl rfl (by intro u hu; simp at hu; subst hu; rfl) ?_; intro W4 Yu cQ; replace HY := ak (HY.out.grown cQ (fun e => HGY.out (Option.some.inj e))); replace HB := ak (HB.out.grown cQ HB.out.size (by intro k hk; cases hk; exact HGW.out)); replace HH := ak Yu; clear Yu cQ))
 have HH0 := ak (HH.out.below (bu (Below.refl W4.heap.size W4)))
 have DX := ak (HY.out.below (bu (Below.refl W4.heap.size W4)))
 have jg := ak (HB.out.trans ((bu (Below.refl W4.heap.size W4)).mono HB.out.size))
 have HD := ak (Below.refl W4.drew.heap.size W4.drew)
 clear HX HY HB HH
 refine dV (n := 9) (S := fun w' => Below W4.drew.heap.size W4.drew w') (ds := []) #[false, false, false, false, false, false, false, false, false] (by kernel_rfl) rfl rfl (Below.refl _ _) (fun hHeld => ?_); refine cz rv.tab11 rv.bits11 (fun aa bV => ?_)
 refine pu 0 aa.out ?_
 refine pu 1 aa.out ?_
 refine tk 2 aa.out bV.out hHeld ?_ (hv := by exact fun _ bx => iq 99 (.tmp 9) rfl gh rfl _ _ _ (HH0.out.below bx) Tryz.underlying99 rfl (by kernel_rfl))
 refine pu 4 aa.out ?_
 refine tk 5 aa.out bV.out hHeld ?_ (hv := by intro w' bx; have y12 := (DX.out.below bx).cell 12 _ rfl; go_simp; with_reducible rfl)
 refine on 3 aa.out (fun K hK => ?_)
 refine gs Tryz.func35 #[.agg #[.slice Au l.length cu]] (J2 l HLL.out _ _ ⟨Au, cu, rfl, (HCV.out).1, Kd.C_below (HCV.out).2 jg.out⟩) ?_
 rintro e V3 ⟨Ht, rfl, BG, ao⟩
 refine ⟨_, rfl, ?_⟩
 rw [← HMq.out] at BG; obtain ⟨A3, c3, rfl, xK, YG⟩ := Kd.R_reads BG; have oG := ak YG; have ab9 := ak xK; clear BG YG xK; replace HD := mv ao HD; clear ao
 refine kn hK HD.out (fun hHeld => ?_)
 clear hK K
 refine on 6 aa.out (fun K hK => ?_)
 refine gs Tryz.func34 #[.slice A3 M.length c3, .slice jE M.length dB] (Mn M HLM.out _ _ _ _ _ oG.out ab9.out (Kd.C_below HC.out (jg.out.trans (HD.out.mono jg.out.size))) HCl.out) ?_
 rintro e V6 ⟨rfl, ao⟩
 refine ⟨_, rfl, ?_⟩
 replace HD := mv ao HD; clear ao
 refine kn hK HD.out (fun hHeld => ?_)
 clear hK K
 refine pu 7 aa.out ?_
 refine pu 8 aa.out ?_
 refine dn aa.out ?_
 go_wp2
 go_ret
 exact ⟨rfl, jg.out.trans (HD.out.mono jg.out.size)⟩
set_option maxHeartbeats 16000000 in
set_option maxRecDepth 100000 in
theorem Lj (V : VS) (Ap Ab : Option Addr) (cp cb m1 m2 m3 : Nat) (w : World) (hV : VwV w Ap Ab cp cb m1 m2 m3 V) (k : Nat) (cs : List Value) (hK : e7.K w (j4 (.lock)) cs) :
  Calls Tryz.prog 12 #[.agg (mO Ap Ab cp cb m1 m2 m3 V).toArray, .agg cs.toArray, .int .i64 (k : Int)] w fun e w' => e = .returned (.bool true) ∧ Below w.heap.size w w' := by
 obtain ⟨A8, c8, A9, c9, kr, c10, jE, dB, rfl, l8, g8, l9, g9, sG, g10, sF, g12⟩ := np hK
 show Calls _ _ #[_, .agg (oK 6 ⟨#[]⟩ 0 0 0 false 0 ⟨#[]⟩ (.slice A8 0 c8) (.slice A9 0 c9) (.slice kr 0 c10) 0 (.slice jE 0 dB) false).toArray, _] _ _
 clear hK l8 g8 l9 g9 sG g10 sF g12 hV
 go_enter Tryz.func12, Tryz.ntmps12
 go_wp2_with (first
  | (refine cH rfl 30 (.tmp 0) rfl (mO Ap Ab cp cb m1 m2 m3 V) rfl ?_; intro gv W1 cj eD aw; have HX := ak eD; have HB := ak aw; clear cj eD aw)
  | (refine cH rfl 52 (.tmp 1) rfl (oK 6 ⟨#[]⟩ 0 0 0 false 0 ⟨#[]⟩ (.slice A8 0 c8) (.slice A9 0 c9) (.slice kr 0 c10) 0 (.slice jE 0 dB) false) rfl ?_; intro gr W2 dz ji aU; have HY := ak ji; replace HX := ak (HX.out.below aU); replace HB := ak (HB.out.trans (aU.mono HB.out.size)); have iM := HY.out.cell 0 _ rfl; clear dz ji aU))
 go_ret
 exact ⟨rfl, HB.out⟩
set_option maxHeartbeats 16000000 in
set_option maxRecDepth 100000 in
theorem Li (V : VS) (Ap Ab : Option Addr) (cp cb m1 m2 m3 : Nat) (w : World) (hV : VwV w Ap Ab cp cb m1 m2 m3 V) (s : ByteArray) (g : Bool) (k : Nat) (hf : (dx s V.nm 0).map Prod.snd = some (.bool g)) (cs : List Value) (hK : e7.K w (j4 (.node s g)) cs) :
  Calls Tryz.prog 12 #[.agg (mO Ap Ab cp cb m1 m2 m3 V).toArray, .agg cs.toArray, .int .i64 (k : Int)] w fun e w' => e = .returned (.bool true) ∧ Below w.heap.size w w' := by
 obtain ⟨A8, c8, A9, c9, kr, c10, jE, dB, rfl, l8, g8, l9, g9, sG, g10, sF, g12⟩ := np hK
 show Calls _ _ #[_, .agg (oK 5 s 0 0 0 false 0 ⟨#[]⟩ (.slice A8 0 c8) (.slice A9 0 c9) (.slice kr 0 c10) 0 (.slice jE 0 dB) g).toArray, _] _ _
 have HF := ak hf
 have HM := ak hV.nm
 clear hK l8 g8 l9 g9 sG g10 sF g12 hV hf
 go_enter Tryz.func12, Tryz.ntmps12
 go_wp2_with (first
  | (refine cH rfl 30 (.tmp 0) rfl (mO Ap Ab cp cb m1 m2 m3 V) rfl ?_; intro gv W1 cj eD aw; have HX := ak eD; have HB := ak aw; clear cj eD aw)
  | (refine cH rfl 52 (.tmp 1) rfl (oK 5 s 0 0 0 false 0 ⟨#[]⟩ (.slice A8 0 c8) (.slice A9 0 c9) (.slice kr 0 c10) 0 (.slice jE 0 dB) g) rfl ?_; intro gr W2 dz ji aU; have HY := ak ji; replace HX := ak (HX.out.below aU); replace HB := ak (HB.out.trans (aU.mono HB.out.size)); have iM := HY.out.cell 0 _ rfl; have lu := HY.out.cell 1 _ rfl; have aQ2 := HY.out.cell 13 _ rfl; have aQ4 := HX.out.cell 4 _ rfl; clear dz ji aU)
  | ((with_reducible refine af (N := 82) rfl ?_); refine tn rfl 28 (.tmp 79) (.tmp 81) rfl (.map (some m3)) (.string s) rfl rfl (yh ya Tryz.underlying28 (z := .bool false) (fun _ => by kernel_rfl) (HM.out.below HB.out) s HF.out) ?_))
 go_ret
 exact ⟨by cases g <;> rfl, HB.out⟩
theorem Nt (V : VS) (Ap Ab : Option Addr) (cp cb m1 m2 m3 : Nat) (w : World) (hV : VwV w Ap Ab cp cb m1 m2 m3 V) (R : Rc) (k : Nat) (hs : OP V k R) (cs : List Value) (hK : e7.K w (j4 R) cs) :
  Calls Tryz.prog 12 #[.agg (mO Ap Ab cp cb m1 m2 m3 V).toArray, .agg cs.toArray, .int .i64 (k : Int)] w fun e w' => e = .returned (.bool true) ∧ Below w.heap.size w w' := by
 cases R with
 | no => exact hs.elim
 | lock => exact Lj V Ap Ab cp cb m1 m2 m3 w hV k cs hK
 | pool p => exact Lh V Ap Ab cp cb m1 m2 m3 w hV p k hs cs hK
 | blk b =>
  obtain ⟨cs', h1, h2, h3, h4, h5⟩ := hs
  exact Ns V Ap Ab cp cb m1 m2 m3 w hV b k cs' h1 h2 h3 h4 h5 cs hK
 | aff s a n => exact Nu V Ap Ab cp cb m1 m2 m3 w hV s a n k hs cs hK
 | hnd s l =>
  obtain ⟨u, h1, h2, h3⟩ := hs
  exact Nr V Ap Ab cp cb m1 m2 m3 w hV s l k u h1 h2 h3 cs hK
 | node s g => exact Li V Ap Ab cp cb m1 m2 m3 w hV s g k hs cs hK
end
section
section
variable {P : Program} {ops : Array Oper} {rest : List Oper} {o : Oper} {a : Act} {w : World} {Q : Exit → Act → World → Prop}
theorem G4 (hgd : o.guard = none) (ty k e : TypeId) (x : Operand) (ho : o.op = .range ty x) (m : Nat) (hx : a.eval x = .map (some m)) (ht : P.underlying ty = some (.map k e)) (hm : w.heap[m]? = some (.map #[] 0))
  (h : ∀ g W1, (∀ ty, (Instr.next (.pointer (some ⟨g, 0, none⟩)) false ty).run P W1 = .ok (.tuple #[.bool false]) W1) → Below w.heap.size w W1 → wpList P ops Q rest (a.put o.dst (.pointer (some ⟨g, 0, none⟩))) W1) : wpList P ops Q (o :: rest) a w := by
 refine o0 hgd ?_ (h w.heap.size (w.alloc (.mapIter (some m) 0 #[] 0)) (fun ty => ?_) (cO (Below.refl _ _) _))
 ·unfold execOp
  simp only [ho, hx, Sem.run_bind, run_range_map w ty k e m #[] 0 ht hm, Result.andThen_ok, Sem.run_pure]
 ·rcases run_next_map (P := P) w ty m 0 0 #[] #[] 0 hm (by simp) (Nat.le_refl _) with h | ⟨e, he, _⟩
  ·exact h.2
  ·simp [leftOf] at he
theorem Ld (hgd : o.guard = none) (x : Operand) (ho : o.op = .next x false) (g : Nat) (hx : a.eval x = .pointer (some ⟨g, 0, none⟩)) (hn : ∀ ty, (Instr.next (.pointer (some ⟨g, 0, none⟩)) false ty).run P w = .ok (.tuple #[.bool false]) w)
  (h : wpList P ops Q rest (a.put o.dst (.tuple #[.bool false])) w) : wpList P ops Q (o :: rest) a w := by
 refine o0 hgd ?_ h
 unfold execOp
 simp only [ho, hx, Sem.run_bind, hn, Result.andThen_ok, Sem.run_pure]
end
set_option maxHeartbeats 4000000 in
set_option maxRecDepth 100000 in
theorem Jv (vp m1 m2 m3 : Value) (Ab : Option Addr) (cb : Nat) (w : World) :
  Calls Tryz.prog 22 #[.agg (sE vp (.slice Ab 0 cb) m1 m2 m3).toArray] w fun e w' => ∃ m, e = .returned (.map (some m)) ∧ w'.heap[m]? = some (.map #[] 0) ∧ Below w.heap.size w w' := by
 have YK : decide ((0 : Int) < 0) = false := by decide
 go_enter Tryz.func22, Tryz.ntmps22
 go_wp2_with (first
  | (refine cH rfl 30 (.tmp 0) rfl (sE vp (.slice Ab 0 cb) m1 m2 m3) rfl ?_; intro g W1 hg hbx aw; have HB := ak aw; have HX := ak hbx; clear hg hbx aw)
  | ((with_reducible refine af (N := 8) rfl ?_); refine mZ rfl 83 rfl ?_; intro m W2 fx lv hb; replace HX := ak (HX.out.below hb); replace HB := ak (HB.out.trans (hb.mono HB.out.size)); have HM := ak lv; have eD := HX.out.cell 1 _ rfl; clear hb fx lv))
 go_loopw [5, 12] (fun _ i V => i = .int .i64 0 ∧ V = W2) (fun _ _ _ => 1)
 case atStart => exact ⟨rfl, rfl⟩
 case round =>
  obtain ⟨rfl, rfl⟩ := hrel
  go_wp2
  go_ret
  exact ⟨_, rfl, HM.out, HB.out⟩
theorem To : oO.f 167772160 26 = some 64 := by kernel_rfl
set_option maxHeartbeats 8000000 in
set_option maxRecDepth 100000 in
theorem KV (A Ab : Option Addr) (c cb : Nat) (m1 m2 m3 : Value) (w : World) (hp : Kd.C Bg w A 1 [⟨⟨167772160, 26⟩, true⟩]) (hc : 1 ≤ c) :
  Calls Tryz.prog 26 #[.agg (sE (.slice A 1 c) (.slice Ab 0 cb) m1 m2 m3).toArray] w fun e w' => e = .returned (.int .i64 64) ∧ Below w.heap.size w w' := by
 have HC := ak hp
 clear hp
 have YI : decide ((0 : Int) < 1) = true := by decide
 go_enter Tryz.func26, Tryz.ntmps26
 go_wp2_with (first
  | (refine cH rfl 30 (.tmp 0) rfl (sE (.slice A 1 c) (.slice Ab 0 cb) m1 m2 m3) rfl ?_; intro g W1 hg hbx aw; have HB := ak aw; have HX := ak hbx; clear hg hbx aw)
  | ((with_reducible refine af (N := 8) rfl ?_); refine a7 rfl 30 (.tmp 1) rfl g rfl _ _ _ HX.out Tryz.underlying30 rfl 5 (by kernel_rfl) rfl ?_)
  | (go_at_call 22; refine (Jv _ _ _ _ _ _ _).mono ?_; rintro e W2 ⟨m, rfl, hm, hb⟩; replace HX := ak (HX.out.below hb); replace HB := ak (HB.out.trans (hb.mono HB.out.size)); have HM := ak hm; have j7 := HX.out.cell 0 _ rfl; clear hb hm))
 go_loopw [3, 6, 7, 13] (fun n _ _ i V => ∃ j : Nat, j ≤ 1 ∧ i = .int .i64 j ∧ ((j = 0 ∧ n = .int .i64 0 ∧ V = W2) ∨ (j = 1 ∧ n = .int .i64 64 ∧ Aside0 (Below w.heap.size w V)))) (fun _ _ _ i _ => 1 - (intOf i).toNat)
 case atStart => exact ⟨0, by omega, rfl, .inl ⟨rfl, rfl, rfl⟩⟩
 case round =>
  obtain ⟨j, hj, rfl, hcase⟩ := hrel
  rcases hcase with ⟨rfl, rfl, rfl⟩ | ⟨rfl, rfl, bR⟩
  ·obtain ⟨ad, eA, iM, lu, uS⟩ := MW (Kd.C_below HC.out HB.out) 0 (by omega) (by decide)
   cases eA
   rw [show vU [(⟨⟨167772160, 26⟩, true⟩ : S69)] 0 = ⟨⟨167772160, 26⟩, true⟩ from rfl] at iM lu uS
   have had : ad.add ((0 : Int).toNat * 3) = ad := by simp [Addr.add]
   rw [had] at iM lu uS
   dsimp only at iM lu uS
   clear had
   go_wp2_with (first
    | (refine aE (some 6) rfl rfl 69 rfl uN (fun _ => by kernel_rfl) ?_; intro g6 W3 jD hbx hb; have HZ := ak hbx; have qC := ak (Nat.le_trans HB.out.size jD); have VZ := ak ((hb.block m (Array.getElem?_eq_some_iff.1 HM.out).1).trans HM.out); have HNM := ak (show m ≠ g6 by have := (Array.getElem?_eq_some_iff.1 HM.out).1; omega); replace HB := ak (HB.out.trans (hb.mono HB.out.size)); clear hb hbx jD HM)
    | (refine ay rfl 69 (.tmp 6) (.tmp 16) rfl g6 [.int .u32 167772160, .int .i64 26, .bool true] rfl rfl 69 _ HZ.out 3 (by kernel_rfl) rfl rfl (by intro u hu; simp at hu; rcases hu with rfl | rfl | rfl <;> rfl) ?_; intro W4 Me cQ; replace HZ := ak Me; have GH := ak ((cQ.block m (Array.getElem?_eq_some_iff.1 VZ.out).1 (fun e => HNM.out (Option.some.inj e))).trans VZ.out); replace HB := ak (HB.out.grown cQ HB.out.size (by intro k hk; cases hk; exact qC.out)); have rG := HZ.out.cell 2 _ rfl; clear Me cQ VZ)
    | ((with_reducible refine af (N := 22) rfl ?_); refine kv rfl 67 (.tmp 21) rfl g6 0 rfl 69 _ [.int .u32 167772160, .int .i64 26] _ HZ.out (by intro j v hv; match j, hv with | 0, hv => exact hv | 1, hv => exact hv) Tryz.underlying67 rfl (by kernel_rfl) ?_; clear rG)
    | (go_at_call 51; refine (oO.calls 167772160 26 64 _ To).mono ?_; rintro e W5 ⟨rfl, hb⟩; have BZ := ak ((hb.block m (Array.getElem?_eq_some_iff.1 GH.out).1).trans GH.out); replace HB := ak (HB.out.trans (hb.mono HB.out.size)); clear hb GH)
    | ((with_reducible refine af (N := 26) rfl ?_); refine G4 rfl 83 41 81 (.tmp 25) rfl m rfl Tryz.underlying83 BZ.out ?_; intro gi W6 hit hb; have HI := ak hit; replace HB := ak (HB.out.trans (hb.mono HB.out.size)); clear hb hit BZ))
   go_frame
   go_loopw [3, 7] (fun n _ V => n = .int .i64 64 ∧ V = W6) (fun _ _ _ => 1)
   case atStart => exact ⟨rfl, rfl⟩
   case round =>
    obtain ⟨rfl, rfl⟩ := hrel
    go_wp2_with (first
     | ((with_reducible refine af (N := 27) rfl ?_); refine Ld rfl (.tmp 26) rfl gi rfl HI.out ?_))
    go_roundw
    case rel => exact ⟨1, by omega, by go_num, .inr ⟨rfl, rfl, HB⟩⟩
    case measure => simp [intOf]
  ·go_wp2
   go_ret
   exact ⟨rfl, bR.out⟩
theorem Wi (W : World) (key val : ByteArray) (rev : Int) : Kd.C rB (W.alloc (.cells #[.string key, .string val, .int .i64 rev] 58)) (some ⟨W.heap.size, 0, none⟩) 1 [⟨key, val, rev⟩] := by
 refine ⟨rfl, by omega, fun _ => ⟨_, rfl, fun j p hj => ?_⟩⟩
 match j, hj with
 | 0, hj =>
  obtain rfl : (⟨key, val, rev⟩ : S58) = p := by simpa using hj
  refine ⟨[.string key, .string val, .int .i64 rev], rfl, TR _ _, fun i u hu => ?_⟩
  have hb : bC (W.alloc (.cells #[.string key, .string val, .int .i64 rev] 58)) W.heap.size [.string key, .string val, .int .i64 rev] 58 := heap_alloc_new W _
  have h := hb.cell i u hu
  rw [add_plain]
  rw [show 0 * (rB).sz + i = i by omega]
  exact h
def mP : ByteArray := ⟨#[112, 111, 111, 108, 47, 49, 48, 46, 48, 46, 48, 46, 48, 45, 50, 54]⟩
def lY : ByteArray := ⟨#[80, 10, 0, 0, 0, 26, 1]⟩
theorem Sk : mP = jh ++ jm 167772160 26 := by
 apply fh
 rw [eV, nP]
 decide
theorem UK : ez lY = true ∧ (az (r1 lY).1 = 167772160 ∧ (az (q2 lY).1 = 26 ∧ az (q3 lY).1 = 1)) := by
 refine ⟨?_, ?_, ?_, ?_⟩
 ·kernel_rfl
 ·kernel_rfl
 ·kernel_rfl
 ·kernel_rfl
theorem J7 : gP ⟨mP, lY, 1⟩ = .pool ⟨⟨167772160, 26⟩, true⟩ := by
 have hp : dk jh mP = some (jm 167772160 26) := by rw [Sk]; exact ES _ _
 have hd : fZ (jm 167772160 26) = some (167772160, 26) := LO (by omega) (by omega) (by decide)
 have hO : oP mP = (167772160, 26, true) := by
  unfold oP
  rw [hp]
  simp only [hd]
  rfl
 obtain ⟨h1, h2, h3, h4⟩ := UK
 show dt mP lY = _
 rw [JP hp]
 unfold eT
 rw [hO, h1, h2, h3, h4]
 rfl
theorem Sl : iE [⟨mP, lY, 1⟩] = true := by
 refine Al (fun i hi => ?_)
 obtain rfl : i = 0 := by simp at hi; omega
 unfold lX
 rw [show ir [(⟨mP, lY, 1⟩ : It)] ((0 : Nat) : Int) = ⟨mP, lY, 1⟩ from rfl, J7]
 rfl
theorem Xa (A : Option Addr) (c : Nat) (w : World) (hC : Kd.C rB w A 1 [⟨mP, lY, 1⟩]) (hc : 1 ≤ c) :
  Calls Tryz.prog 7 #[.slice A 1 c] w fun e w' => ∃ Ap Ab cp cb m1 m2 m3, e = .returned (.tuple #[.agg (sE (.slice Ap 1 cp) (.slice Ab 0 cb) (.map (some m1)) (.map (some m2)) (.map (some m3))).toArray, .int .i64 0]) ∧ Kd.C Bg w' Ap 1 [⟨⟨167772160, 26⟩, true⟩] ∧ 1 ≤ cp ∧ Below w.heap.size w w' := by
 refine (Cb [⟨mP, lY, 1⟩] (by decide) (by intro x hx; rw [List.mem_singleton] at hx; subst hx; exact ⟨by decide, by decide⟩) A c w hC hc).mono ?_
 rintro e w' ⟨h, hb⟩
 rw [if_pos Sl] at h
 obtain ⟨Ap, Ab, cp, cb, m1, m2, m3, V, rfl, hv, hs⟩ := h
 have hp : V.pools = [⟨⟨167772160, 26⟩, true⟩] := by rw [hs.pools, List.map_cons, J7]; rfl
 have iI : V.bcs.length = 0 := by
  have h2 := congrArg List.length hs.blks
  rw [List.length_map, List.map_cons, J7] at h2
  exact h2
 have h1 := hv.pr
 have h2 := hv.pc
 rw [hp] at h1 h2
 refine ⟨Ap, Ab, cp, cb, m1, m2, m3, ?_, h1, h2, hb⟩
 unfold mO
 rw [hp, iI]
 rfl
set_option maxHeartbeats 8000000 in
set_option maxRecDepth 100000 in
theorem zN (w : World) : Calls Tryz.prog 10 #[] w fun e w' => e = .returned (.bool true) ∧ Below w.heap.size w w' := by
 have HOF := ak (fun (A : Option Addr) (c : Nat) (w : World) (hC : Kd.C rB w A 1 [⟨mP, lY, 1⟩]) (hc : 1 ≤ c) => Xa A c w hC hc)
 have HIT := ak (fun W => Wi W mP lY 1)
 have hk : (⟨#[112, 111, 111, 108, 47, 49, 48, 46, 48, 46, 48, 46, 48, 45, 50, 54]⟩ : ByteArray) = mP := rfl
 have hv : (⟨#[80, 10, 0, 0, 0, 26, 1]⟩ : ByteArray) = lY := rfl
 have HK := ak hk
 have HV := ak hv
 clear hk hv
 generalize mP = key at HOF HIT HK
 generalize lY = val at HOF HIT HV
 go_enter Tryz.func10, Tryz.ntmps10
 go_wp2_with (first
  | (go_at_call 7; rw [HK.out, HV.out]; refine (HOF.out _ _ _ (HIT.out _) (Nat.le_refl _)).mono ?_; rintro e W1 ⟨A1, A2, c1, c2, o1, o2, o3, rfl, hp, hpc, hb⟩; have jg := ak ((cO (Below.refl _ _) _).trans (hb.mono (by simp))); have HB := ak (Below.refl W1.heap.size W1); have HP := ak hp; have HPC := ak hpc; clear hb hp hpc)
  | (refine aE (some 1) rfl rfl 30 rfl pV (fun _ => by kernel_rfl) ?_; intro g1 W2 cj hbx hb; have HZ := ak hbx; have qI := ak cj; replace HB := ak (HB.out.trans (hb.mono HB.out.size)); clear hb hbx cj)
  | (refine ay rfl 30 (.tmp 1) (.tmp 7) rfl g1 (sE (.slice A1 1 c1) (.slice A2 0 c2) (.map (some o1)) (.map (some o2)) (.map (some o3))) rfl rfl 30 _ HZ.out 5 (by kernel_rfl) rfl rfl (by intro u hu; simp [sE] at hu; rcases hu with rfl | rfl | rfl | rfl | rfl <;> rfl) ?_; intro W3 Yg dd; replace HB := ak (HB.out.grown dd HB.out.size (by intro k hk; cases hk; exact qI.out)); replace HZ := ak Yg; clear Yg dd)
  | ((with_reducible refine af (N := 12) rfl ?_); refine bL (by rfl) ?_; refine a7 rfl 30 (.tmp 1) rfl g1 rfl _ _ _ HZ.out Tryz.underlying30 rfl 5 (by kernel_rfl) rfl ?_)
  | (go_at_call 26; refine (KV _ _ _ _ _ _ _ _ (Kd.C_below HP.out HB.out) HPC.out).mono ?_; rintro e W4 ⟨rfl, hb⟩; replace HZ := ak (HZ.out.below hb); replace HB := ak (HB.out.trans (hb.mono HB.out.size)); have kT := HZ.out.cell 0 _ rfl; clear hb))
 go_ret
 exact ⟨rfl, jg.out.trans (HB.out.mono jg.out.size)⟩
end
section
theorem EC {P : Program} {ops : Array Oper} {rest : List Oper} {o : Oper} {a : Act} {w : World} {Q : Exit → Act → World → Prop} (hgd : o.guard = none) (ty : TypeId) (x : Operand) (ho : o.op = .load ty x) (ad : Addr) (hx : a.eval x = .pointer (some ad)) (cs : List Value) (d : TypeDesc) (hp : ∀ j v, cs[j]? = some v → w.cell? (ad.add j) = some v)
  (hu : P.underlying ty = some d) (hd : (match d with | .struct _ | .array _ _ => true | _ => false) = true) (hi : (P.info? ty).map (·.size) = some cs.length)
  (h : wpList P ops Q rest (a.put o.dst (.agg cs.toArray)) w) : wpList P ops Q (o :: rest) a w := o0 hgd (vx ty x ho ad hx cs d hp hu hd hi) h
theorem run_len_map {κ : Type} [DecidableEq κ] {enc : κ → Value} {o : Oper} {a : Act} {W : World} {g : Nat} {l : List (κ × Value)} (h : eR enc W g l) {mt kt et : TypeId} (hm : Tryz.prog.underlying mt = some (.map kt et)) (x : Tmp) (ho : o.op = .call { callee := .builtin .len, args := #[.tmp x], argTypes := #[mt] }) (hx : a.eval (.tmp x) = .map (some g)) :
  (execOp a.eval o).run Tryz.prog W = .ok (.value (.int .i64 (l.length : Nat))) W := by
 have hl := h.len_run hm o.type
 have hx' : a.tmps[x]?.getD undef = .map (some g) := by simpa [Act.eval] using hx
 unfold execOp
 simp only [ho]
 go_simp
set_option maxHeartbeats 16000000 in
set_option maxRecDepth 100000 in
theorem KT (l L : List qy) (LI : List It) (M : List rk) (hL : ue l = L) (hLI : L.map jZ = LI) (hM : j6 L = M) (hg : iE LI = false) (A : Option Addr) (c : Nat) (w : World) (hC : Kd.C kS w A l.length l) (hc : l.length ≤ c) :
  Calls Tryz.prog 3 #[.slice A l.length c] w fun e w' => e = .returned (.bool true) ∧ Below w.heap.size w w' := by
 have Ol : L.length ≤ 12 := by rw [← hL]; exact IE l
 have hsz : ∀ x ∈ L, x.f0.size ≤ 130 ∧ x.f1.size ≤ 600 := by rw [← hL]; exact DM l
 have hlen : LI.length = L.length := by rw [← hLI, List.length_map]
 have hszI : ∀ x ∈ LI, x.f0.size ≤ 1000 ∧ x.f1.size ≤ 1000000 := by
  intro x hx
  rw [← hLI] at hx
  obtain ⟨y, hy, rfl⟩ := List.mem_map.1 hx
  have := hsz y hy
  show y.f0.size ≤ 1000 ∧ y.f1.size ≤ 1000000
  omega
 have HFW := ak (show Calls Tryz.prog 6 #[.slice A l.length c] w fun e w' => ∃ A1 c1, e = .returned (.slice A1 L.length c1) ∧ L.length ≤ c1 ∧ Kd.C kS w' A1 L.length L ∧ Below w.heap.size w w' from (IF l A c w hC hc).mono (by
  rintro e w' ⟨v, rfl, hr, hb⟩
  rw [hL] at hr
  obtain ⟨A1, c1, rfl, h1, h2⟩ := Kd.R_reads hr
  exact ⟨A1, c1, rfl, h1, h2, hb⟩))
 have HIT := ak (show ∀ (A : Option Addr) (c : Nat) (W : World), Kd.C kS W A L.length L → L.length ≤ c → Calls Tryz.prog 8 #[.slice A L.length c] W fun e w' => ∃ A1 c1, e = .returned (.slice A1 LI.length c1) ∧ LI.length ≤ c1 ∧ Kd.C rB w' A1 LI.length LI ∧ Below W.heap.size W w' from fun A c W h1 h2 => (Dv L (by omega) A c W h1 h2).mono (by
  rintro e w' ⟨v, rfl, hr, hb⟩
  rw [hLI] at hr
  obtain ⟨A1, c1, rfl, h1, h2⟩ := Kd.R_reads hr
  exact ⟨A1, c1, rfl, h1, h2, hb⟩))
 have HOF := ak (show ∀ (A : Option Addr) (c : Nat) (W : World), Kd.C rB W A LI.length LI → LI.length ≤ c → Calls Tryz.prog 7 #[.slice A LI.length c] W fun e w' => e = .returned (.tuple #[.agg pV.toArray, .int .i64 3]) ∧ Below W.heap.size W w' from fun A c W h1 h2 => (Cb LI (by omega) hszI A c W h1 h2).mono (by
  rintro e w' ⟨h, hb⟩
  rw [hg] at h
  exact ⟨h, hb⟩))
 have HAL := ak (show ∀ (A : Option Addr) (c : Nat) (W : World), Kd.C kS W A L.length L → L.length ≤ c → Calls Tryz.prog 9 #[.slice A L.length c] W fun e w' => ∃ v, e = .returned (.tuple #[v, .bool false]) ∧ Below W.heap.size W w' from fun A c W h1 h2 => (I3 L (by omega) (fun x hx => by have := hsz x hx; omega) A c W h1 h2).mono (by
  rintro e w' ⟨v, h1, h2, h3⟩
  rw [hLI, hg] at h1
  exact ⟨v, h1, h3⟩))
 clear hC hc hL hLI hM hg Ol hsz hlen hszI
 go_enter Tryz.func3, Tryz.ntmps3
 go_wp2_with (first
  | (go_at_call 6; refine (HFW.out).mono ?_; rintro e W1 ⟨A1, c1, rfl, iv, Mx, hb⟩; have bR := ak hb; have HI := ak Mx; have HIc := ak iv; have HE := ak (Below.refl W1.heap.size W1); clear hb iv Mx HFW)
  | (go_at_call 8; refine (HIT.out _ _ _ HI.out HIc.out).mono ?_; rintro e W2 ⟨A2, c2, rfl, jc, Mw, hb⟩; replace HE := ak (HE.out.trans (hb.mono HE.out.size)); have HJ := ak Mw; have HJc := ak jc; clear hb jc Mw HIT)
  | (go_at_call 7; refine (HOF.out _ _ _ HJ.out HJc.out).mono ?_; rintro e W3 ⟨rfl, hb⟩; replace HE := ak (HE.out.trans (hb.mono HE.out.size)); clear hb HOF HJ HJc)
  | ((with_reducible refine af (N := 3) rfl ?_); refine aE (some 3) rfl rfl 30 rfl pV (fun _ => by kernel_rfl) ?_; intro g3 W4 dd hbx hb; have HX := ak hbx; have HG := ak dd; have HGE := ak (Nat.le_trans HE.out.size dd); replace HE := ak (HE.out.trans (hb.mono HE.out.size)); clear hb hbx dd)
  | ((with_reducible refine cg (t := 30) (p := 3) (v := .tmp 15) rfl ?_); refine ay rfl 30 (.tmp 3) (.tmp 15) rfl g3 (pV) rfl rfl 30 _ HX.out 5 (by kernel_rfl) rfl rfl (by intro u hu; simp [mO, sE, pV] at hu; rcases hu with rfl | rfl | rfl | rfl | rfl <;> rfl) ?_; intro W5 tT dH; replace HE := ak (HE.out.grown dH HE.out.size (by intro k hk; cases hk; exact HGE.out)); replace HX := ak tT; clear tT dH)
  | (go_at_call 9; refine (HAL.out _ _ _ (Kd.C_below HI.out HE.out) HIc.out).mono ?_; rintro e W6 ⟨v6, rfl, hb⟩; replace HX := ak (HX.out.below hb); replace HE := ak (HE.out.trans (hb.mono HE.out.size)); have j7 := HX.out.cell 0 _ rfl; have eD := HX.out.cell 1 _ rfl; have ji := HX.out.cell 2 _ rfl; have Ir := HX.out.cell 3 _ rfl; have Fq := HX.out.cell 4 _ rfl; clear hb HAL)
  | (go_at_call 10; refine (zN _).mono ?_; rintro e W7 ⟨rfl, hb⟩; replace HE := ak (HE.out.trans (hb.mono HE.out.size)); clear hb))
 go_ret
 exact ⟨rfl, bR.out.trans (HE.out.mono bR.out.size)⟩
def xX.T6 : Bool × List (List Nat × List Nat) := (true, [([], []), ([0], [0]), ([1], [1]), ([2], [2]), ([3, 2], [2, 3]), ([4, 2], [2, 4]), ([2], [2]), ([6, 2, 2], [2, 6]), ([5, 7, 2], [2, 5, 7]), ([2, 8], [2, 8]), ([9, 7], [9]), ([10], [10]), ([11, 10], [10, 11]), ([12, 10], [10, 12]), ([10], [10]), ([14, 10, 10], [10, 14]), ([13, 15, 10], [10, 13, 15]), ([10, 16], [10, 16]), ([17, 15], [17]), ([18], [18]), ([19, 18], [18, 19]), ([20, 18, 18], [18, 20]), ([18], [18]), ([22, 21, 18], [18, 22]), ([21, 23, 18], [18, 21, 23]), ([18, 24], [18, 24]), ([25, 23], [25]), ([26], [26]), ([27, 26], [26, 27]), ([28, 26, 26], [26, 28]), ([26], [26]), ([30, 29, 26], [26, 30]), ([29, 31, 26], [26, 29, 31]), ([26, 32], [26, 32]), ([33, 31], [33]), ([34], [34]), ([35, 34], [34, 35]), ([36, 34, 34], [34, 36]), ([34], [34]), ([38, 37, 34], [34, 38]), ([37, 39, 34], [34, 37, 39]), ([34, 40], [34, 40])])
def xX.B6 : List Nat := [0, 1, 3, 7, 15, 31, 7, 71, 255, 511, 1023, 2047, 4095, 8191, 2047, 18431, 65535, 131071, 262143, 524287, 1048575, 2097151, 524287, 8388607, 16777215, 33554431, 67108863, 134217727, 268435455, 536870911, 134217727, 2147483647, 4294967295, 8589934591, 17179869183, 34359738367, 68719476735, 137438953471, 34359738367, 549755813887, 1099511627775, 2199023255551]
theorem xX.tab6 : dA .any (opsOf Tryz.f3 6) = xX.T6 := by kernel_rfl
theorem xX.bits6 : dy xX.T6.2 xX.B6 = true := by kernel_rfl
def uC.T11 : Bool × List (List Nat × List Nat) := (true, [([], []), ([], []), ([], []), ([], []), ([2, 3], [2, 3]), ([], []), ([5], [5]), ([4, 6], [4, 6]), ([0, 1, 7, 7], [0, 1, 7]), ([8], [8])])
def uC.B11 : List Nat := [0, 0, 0, 0, 12, 0, 32, 124, 255, 511]
theorem uC.tab11 : dA .any (opsOf Tryz.f3 11) = uC.T11 := by kernel_rfl
theorem uC.bits11 : dy uC.T11.2 uC.B11 = true := by kernel_rfl
set_option maxHeartbeats 16000000 in
set_option maxRecDepth 100000 in
theorem Ju (l L : List qy) (LI : List It) (M : List rk) (hL : ue l = L) (hLI : L.map jZ = LI) (hM : j6 L = M) (hg : iE LI = true) (A : Option Addr) (c : Nat) (w : World) (hC : Kd.C kS w A l.length l) (hc : l.length ≤ c) :
  Calls Tryz.prog 3 #[.slice A l.length c] w fun e w' => e = .returned (.bool true) ∧ Below w.heap.size w w' := by
 have Ol : L.length ≤ 12 := by rw [← hL]; exact IE l
 have hsz : ∀ x ∈ L, x.f0.size ≤ 130 ∧ x.f1.size ≤ 600 := by rw [← hL]; exact DM l
 have hlen : LI.length = L.length := by rw [← hLI, List.length_map]
 have hszI : ∀ x ∈ LI, x.f0.size ≤ 1000 ∧ x.f1.size ≤ 1000000 := by
  intro x hx
  rw [← hLI] at hx
  obtain ⟨y, hy, rfl⟩ := List.mem_map.1 hx
  have := hsz y hy
  show y.f0.size ≤ 1000 ∧ y.f1.size ≤ 1000000
  omega
 have HFW := ak (show Calls Tryz.prog 6 #[.slice A l.length c] w fun e w' => ∃ A1 c1, e = .returned (.slice A1 L.length c1) ∧ L.length ≤ c1 ∧ Kd.C kS w' A1 L.length L ∧ Below w.heap.size w w' from (IF l A c w hC hc).mono (by
  rintro e w' ⟨v, rfl, hr, hb⟩
  rw [hL] at hr
  obtain ⟨A1, c1, rfl, h1, h2⟩ := Kd.R_reads hr
  exact ⟨A1, c1, rfl, h1, h2, hb⟩))
 have HIT := ak (show ∀ (A : Option Addr) (c : Nat) (W : World), Kd.C kS W A L.length L → L.length ≤ c → Calls Tryz.prog 8 #[.slice A L.length c] W fun e w' => ∃ A1 c1, e = .returned (.slice A1 LI.length c1) ∧ LI.length ≤ c1 ∧ Kd.C rB w' A1 LI.length LI ∧ Below W.heap.size W w' from fun A c W h1 h2 => (Dv L (by omega) A c W h1 h2).mono (by
  rintro e w' ⟨v, rfl, hr, hb⟩
  rw [hLI] at hr
  obtain ⟨A1, c1, rfl, h1, h2⟩ := Kd.R_reads hr
  exact ⟨A1, c1, rfl, h1, h2, hb⟩))
 have HOF := ak (show ∀ (A : Option Addr) (c : Nat) (W : World), Kd.C rB W A LI.length LI → LI.length ≤ c → Calls Tryz.prog 7 #[.slice A LI.length c] W fun e w' => ∃ Ap Ab cp cb m1 m2 m3 V, e = .returned (.tuple #[.agg (mO Ap Ab cp cb m1 m2 m3 V).toArray, .int .i64 0]) ∧ VwV w' Ap Ab cp cb m1 m2 m3 V ∧ VSof V (LI.map gP) ∧ Below W.heap.size W w' from fun A c W h1 h2 => (Cb LI (by omega) hszI A c W h1 h2).mono (by
  rintro e w' ⟨h, hb⟩
  rw [hg] at h
  obtain ⟨Ap, Ab, cp, cb, m1, m2, m3, V, h1, h2, h3⟩ := h
  exact ⟨Ap, Ab, cp, cb, m1, m2, m3, V, h1, h2, h3, hb⟩))
 have HAL := ak (show ∀ (A : Option Addr) (c : Nat) (W : World), Kd.C kS W A L.length L → L.length ≤ c → Calls Tryz.prog 9 #[.slice A L.length c] W fun e w' => ∃ A1 c1, e = .returned (.tuple #[.slice A1 M.length c1, .bool true]) ∧ M.length ≤ c1 ∧ Kd.C e7 w' A1 M.length M ∧ Below W.heap.size W w' from fun A c W h1 h2 => (I3 L (by omega) (fun x hx => by have := hsz x hx; omega) A c W h1 h2).mono (by
  rintro e w' ⟨v, h1, h2, h3⟩
  rw [hLI, hg] at h1 h2
  rw [if_pos rfl, hM] at h2
  obtain ⟨A1, c1, rfl, h4, h5⟩ := Kd.R_reads h2
  exact ⟨A1, c1, h1, h4, h5, h3⟩))
 have hMe : M = (LI.map gP).map j4 := by rw [← hM, ← hLI, List.map_map, List.map_map]; rfl
 have hMl : M.length = L.length := by rw [← hM]; unfold j6; rw [List.length_map]
 have GI := ak (show M.length ≤ 1000 by omega)
 have HMI := ak (show M.length = LI.length by omega)
 have HME := ak hMe
 have HGD := ak hg
 have HSZ := ak (fun x hx => (hszI x hx).1)
 clear hC hc hL hLI hM hg Ol hsz hlen hszI hMe hMl
 go_enter Tryz.func3, Tryz.ntmps3
 go_wp2_with (first
  | (go_at_call 6; refine (HFW.out).mono ?_; rintro e W1 ⟨A1, c1, rfl, iv, Mx, hb⟩; have bR := ak hb; have HI := ak Mx; have HIc := ak iv; have HE := ak (Below.refl W1.heap.size W1); clear hb iv Mx HFW)
  | (go_at_call 8; refine (HIT.out _ _ _ HI.out HIc.out).mono ?_; rintro e W2 ⟨A2, c2, rfl, jc, Mw, hb⟩; replace HE := ak (HE.out.trans (hb.mono HE.out.size)); have HJ := ak Mw; have HJc := ak jc; clear hb jc Mw HIT)
  | (go_at_call 7; refine (HOF.out _ _ _ HJ.out HJc.out).mono ?_; rintro e W3 ⟨Ap, Ab, cp, cb, m1, m2, m3, V, rfl, hv, hs, hb⟩; have QF := ak (HE.out.trans (hb.mono HE.out.size)); have jq := ak hv; have HVS := ak hs; replace HE := ak (Below.refl W3.heap.size W3); clear hb hv hs HOF HJ HJc)
  | ((with_reducible refine af (N := 3) rfl ?_); refine aE (some 3) rfl rfl 30 rfl pV (fun _ => by kernel_rfl) ?_; intro g3 W4 dd hbx hb; have HX := ak hbx; have HG := ak dd; have HGE := ak (Nat.le_trans HE.out.size dd); replace HE := ak (HE.out.trans (hb.mono HE.out.size)); clear hb hbx dd)
  | ((with_reducible refine cg (t := 30) (p := 3) (v := .tmp 15) rfl ?_); refine ay rfl 30 (.tmp 3) (.tmp 15) rfl g3 (mO Ap Ab cp cb m1 m2 m3 V) rfl rfl 30 _ HX.out 5 (by kernel_rfl) rfl rfl (by intro u hu; simp [mO, sE, pV] at hu; rcases hu with rfl | rfl | rfl | rfl | rfl <;> rfl) ?_; intro W5 tT dH; replace HE := ak (HE.out.grown dH HE.out.size (by intro k hk; cases hk; exact HGE.out)); replace HX := ak tT; clear tT dH)
  | (go_at_call 9; refine (HAL.out _ _ _ (Kd.C_below HI.out (QF.out.trans (HE.out.mono QF.out.size))) HIc.out).mono ?_; rintro e W6 ⟨A6, c6, rfl, Yx, DJ, hb⟩; replace HX := ak (HX.out.below hb); replace HE := ak (HE.out.trans (hb.mono HE.out.size)); have HM := ak DJ; have HMc := ak Yx; clear hb Yx DJ HAL))
 have GJ := ak (Kd.C_below HM.out (bu (Below.refl W6.heap.size W6)))
 have qH := ak (HX.out.below (bu (Below.refl W6.heap.size W6)))
 have Wc := ak (HE.out.trans ((bu (Below.refl W6.heap.size W6)).mono HE.out.size))
 have Qu := ak (jq.out.below Wc.out)
 have HD := ak (Below.refl W6.drew.heap.size W6.drew)
 have YX := ak (show kR M 1 = V.pools.length by rw [HME.out, Qe, HVS.out.pools])
 have pL := ak (show kR M 2 = V.bcs.length by rw [HME.out, Qd, ← HVS.out.blks, List.length_map])
 have zU := ak (show kR M 3 = V.am.length by rw [HME.out, Xr, ← HVS.out.affs]; unfold VS.am; rw [List.length_map])
 have nU := ak (show kR M 4 = V.hm.length by rw [HME.out, Xq, ← HVS.out.hnds, List.length_map]; unfold VS.hm; rw [List.length_map])
 have YW := ak (show kR M 5 = V.nm.length by rw [HME.out, Xp, ← HVS.out.nodes]; unfold VS.nm; rw [List.length_map])
 clear HM HX HE jq HI HIc
 refine dV (n := 42) (S := fun w' => Below W6.drew.heap.size W6.drew w') (ds := []) #[false, false, false, false, false, false, false, false, false, false, false, false, false, false, false, false, false, false, false, false, false, false, false, false, false, false, false, false, false, false, false, false, false, false, false, false, false, false, false, false, false, false] (by kernel_rfl) rfl rfl (Below.refl _ _) (fun hHeld => ?_); refine cz xX.tab6 xX.bits6 (fun aa bV => ?_)
 refine pu 0 aa.out ?_
 refine pu 1 aa.out ?_
 refine pu 2 aa.out ?_
 refine pu 3 aa.out ?_
 refine tk 4 aa.out bV.out hHeld ?_ (hv := by intro w' bx; have x0 := (qH.out.below bx).cell 0 _ rfl; go_simp; with_reducible rfl)
 refine pu 5 aa.out ?_
 refine pu 6 aa.out ?_
 refine on 7 aa.out (fun K hK => ?_)
 refine gs Tryz.func11 #[.slice A6 M.length c6, .int .i64 1] (pF M 1 GI.out _ _ _ (Kd.C_below GJ.out HD.out) HMc.out) ?_
 rintro e V7 ⟨rfl, ao⟩
 refine ⟨_, rfl, ?_⟩
 rw [YX.out]; replace HD := mv ao HD; clear ao
 refine kn hK HD.out (fun hHeld => ?_)
 clear hK K
 refine pu 8 aa.out ?_
 refine pu 9 aa.out ?_
 refine pu 10 aa.out ?_
 refine pu 11 aa.out ?_
 refine tk 12 aa.out bV.out hHeld ?_ (hv := by intro w' bx; have x0 := (qH.out.below bx).cell 1 _ rfl; go_simp; with_reducible rfl)
 refine pu 13 aa.out ?_
 refine pu 14 aa.out ?_
 refine on 15 aa.out (fun K hK => ?_)
 refine gs Tryz.func11 #[.slice A6 M.length c6, .int .i64 2] (pF M 2 GI.out _ _ _ (Kd.C_below GJ.out HD.out) HMc.out) ?_
 rintro e V15 ⟨rfl, ao⟩
 refine ⟨_, rfl, ?_⟩
 rw [pL.out]; replace HD := mv ao HD; clear ao
 refine kn hK HD.out (fun hHeld => ?_)
 clear hK K
 refine pu 16 aa.out ?_
 refine pu 17 aa.out ?_
 refine pu 18 aa.out ?_
 refine pu 19 aa.out ?_
 refine tk 20 aa.out bV.out hHeld ?_ (hv := by intro w' bx; have x0 := (qH.out.below bx).cell 2 _ rfl; go_simp; with_reducible rfl)
 refine tk 21 aa.out bV.out hHeld ?_ (hv := by intro w' bx; refine run_len_map (Qu.out.am.below bx) Tryz.underlying26 71 ?_ ?_; rfl; rfl)
 refine pu 22 aa.out ?_
 refine on 23 aa.out (fun K hK => ?_)
 refine gs Tryz.func11 #[.slice A6 M.length c6, .int .i64 3] (pF M 3 GI.out _ _ _ (Kd.C_below GJ.out HD.out) HMc.out) ?_
 rintro e V23 ⟨rfl, ao⟩
 refine ⟨_, rfl, ?_⟩
 rw [zU.out]; replace HD := mv ao HD; clear ao
 refine kn hK HD.out (fun hHeld => ?_)
 clear hK K
 refine pu 24 aa.out ?_
 refine pu 25 aa.out ?_
 refine pu 26 aa.out ?_
 refine pu 27 aa.out ?_
 refine tk 28 aa.out bV.out hHeld ?_ (hv := by intro w' bx; have x0 := (qH.out.below bx).cell 3 _ rfl; go_simp; with_reducible rfl)
 refine tk 29 aa.out bV.out hHeld ?_ (hv := by intro w' bx; refine run_len_map (Qu.out.hm.below bx) Tryz.underlying27 79 ?_ ?_; rfl; rfl)
 refine pu 30 aa.out ?_
 refine on 31 aa.out (fun K hK => ?_)
 refine gs Tryz.func11 #[.slice A6 M.length c6, .int .i64 4] (pF M 4 GI.out _ _ _ (Kd.C_below GJ.out HD.out) HMc.out) ?_
 rintro e V31 ⟨rfl, ao⟩
 refine ⟨_, rfl, ?_⟩
 rw [nU.out]; replace HD := mv ao HD; clear ao
 refine kn hK HD.out (fun hHeld => ?_)
 clear hK K
 refine pu 32 aa.out ?_
 refine pu 33 aa.out ?_
 refine pu 34 aa.out ?_
 refine pu 35 aa.out ?_
 refine tk 36 aa.out bV.out hHeld ?_ (hv := by intro w' bx; have x0 := (qH.out.below bx).cell 4 _ rfl; go_simp; with_reducible rfl)
 refine tk 37 aa.out bV.out hHeld ?_ (hv := by intro w' bx; refine run_len_map (Qu.out.nm.below bx) Tryz.underlying28 87 ?_ ?_; rfl; rfl)
 refine pu 38 aa.out ?_
 refine on 39 aa.out (fun K hK => ?_)
 refine gs Tryz.func11 #[.slice A6 M.length c6, .int .i64 5] (pF M 5 GI.out _ _ _ (Kd.C_below GJ.out HD.out) HMc.out) ?_
 rintro e V39 ⟨rfl, ao⟩
 refine ⟨_, rfl, ?_⟩
 rw [YW.out]; replace HD := mv ao HD; clear ao
 refine kn hK HD.out (fun hHeld => ?_)
 clear hK K
 refine pu 40 aa.out ?_
 refine pu 41 aa.out ?_
 refine dn aa.out ?_
 clear YX pL zU nU YW
 go_wp2_with fail
 go_loopw [7, 8, 95] (fun _ _ i Z => ∃ j : Nat, j ≤ M.length ∧ i = .int .i64 j ∧ Aside0 (Below W6.drew.heap.size W6.drew Z)) (fun _ _ i _ => M.length - (intOf i).toNat)
 case atStart => exact ⟨0, by omega, rfl, HD⟩
 case round =>
  clear HD
  obtain ⟨j, hj, rfl, HD⟩ := hrel
  obtain ⟨Z, rfl⟩ : ∃ Z : World, Z = wr := ⟨_, rfl⟩
  by_cases hjn : j < M.length
  ·have hjb : decide ((j : Int) < (M.length : Int)) = true := by simp; omega
   have p1 : ((j : Int) < (M.length : Int)) = True := eq_true (by omega)
   have hj0 : (0 ≤ (j : Int)) = True := eq_true (by omega)
   have hjl : ((j : Int) ≤ (M.length : Int)) = True := eq_true (by omega)
   have hjc : ((j : Int) ≤ (c6 : Int)) = True := eq_true (by have := HMc.out; omega)
   obtain ⟨ad, cs, eA, hcl, Oi, Oh⟩ := Kd.C_get GJ.out xS (j : Int) (by omega) (by omega)
   have hcK := e7.K_below HD.out Oi
   have hkw : ∀ W, Below W6.drew.heap.size W6.drew W → e7.K W (M.getD (j : Int).toNat xS) cs := fun W hb => e7.K_below hb Oi
   have hcc : ∀ (k : Nat) (u : Value), cs[k]? = some u → Z.cell? (ad.add ((j : Int).toNat * e7.sz + k)) = some u := fun k u hk => (HD.out.cell (World.block_lt_of_cell? _ _ (Oh k u hk))).trans (Oh k u hk)
   clear Oh Oi
   have hct := fun W hC => pF (M.take j) (M.getD j xS).f0 (by rw [List.length_take]; have := GI.out; omega) A6 c6 W hC (by rw [List.length_take]; have := HMc.out; omega)
   have hctk : ∀ W, Kd.C e7 W A6 M.length M → Kd.C e7 W A6 (M.take j).length (M.take j) := fun W h => Kd.C_take h (by omega)
   rw [show (M.take j).length = j by rw [List.length_take]; omega] at hct hctk
   cases eA
   rw [Int.toNat_natCast] at hcK hcc hkw
   have CI : cs.length = 14 := hcl
   have hsay : OP V (kR (M.take j) (M.getD j xS).f0) (gP (LI.getD j Er)) := by
    have hjI : j < LI.length := by have := HMI.out; omega
    have hx : LI[j]? = some (LI.getD j Er) := by simp [List.getD, hjI]
    have h := QT HSZ.out HGD.out HVS.out hx
    rw [HME.out, ← List.map_take, ← List.map_take]
    have e : (((LI.map gP).map j4).getD j xS) = j4 (gP (LI.getD j Er)) := by simp [List.getD, hjI]
    rw [e]
    exact h
   have hrr : M.getD j xS = j4 (gP (LI.getD j Er)) := by
    have hjI : j < LI.length := by have := HMI.out; omega
    rw [HME.out]
    simp [List.getD, hjI]
   generalize gP (LI.getD j Er) = R at hsay hrr
   generalize kR (M.take j) (M.getD j xS).f0 = n at hsay hct
   generalize M.getD j xS = r at hcK hrr hct hkw
   have HCL := ak CI
   have pN := ak (@Kd.K_one _ e7 _ _ _ hcK)
   have HIN := ak (show (Tryz.prog.info? 52).map (·.size) = some cs.length by rw [CI]; kernel_rfl)
   have HCC := ak (show ∀ (k : Nat) (u : Value), cs[k]? = some u → Z.cell? ((ad.add (j * 14)).add k) = some u from fun k u hk => by rw [Gq]; exact hcc k u hk)
   have HK0 := ak (show cs[0]? = some (.int .i64 r.f0) by obtain ⟨_, _, _, _, _, _, _, _, rfl, _⟩ := np hcK; rfl)
   have ab8 := ak hkw
   have HSY := ak hsay
   have HRR := ak hrr
   have HCT := ak hct
   have HTK := ak hctk
   clear hkw hcl CI hcK hcc hct hctk hsay hrr
   go_wp2_with (first
    | ((with_reducible refine af (N := 99) rfl ?_); refine EC rfl 52 (.tmp 98) rfl _ rfl cs _ HCC.out Tryz.underlying52 rfl HIN.out ?_)
    | ((with_reducible refine af (N := 8) rfl ?_); refine aE (some 8) rfl rfl 52 rfl dJ iK ?_; intro g8 W7 dG hbx hb; have HY := ak hbx; have GO := ak (Nat.le_trans HD.out.size dG); replace HD := ak (HD.out.trans (hb.mono HD.out.size)); have zR := ak hb; clear hb hbx dG)
    | ((with_reducible refine cg (t := 52) (p := 8) (v := .tmp 99) rfl ?_); refine ay rfl 52 (.tmp 8) (.tmp 99) rfl g8 cs rfl rfl 52 _ HY.out 14 (by kernel_rfl) HCL.out rfl pN.out ?_; intro W8 ym Uk; replace HD := ak (HD.out.grown Uk HD.out.size (by intro k hk; cases hk; exact GO.out)); replace HY := ak ym; clear ym Uk))
   have DX := ak (HY.out.below (bu (Below.refl W8.heap.size W8)))
   have zV := ak (HD.out.trans ((bu (Below.refl W8.heap.size W8)).mono HD.out.size))
   have HF := ak (Below.refl W8.drew.heap.size W8.drew)
   clear HY HD
   refine dV (n := 10) (S := fun w' => Below W8.drew.heap.size W8.drew w') (ds := []) #[false, false, false, false, false, false, false, false, false, false] (by kernel_rfl) rfl rfl (Below.refl _ _) (fun hHeld => ?_); refine cz uC.tab11 uC.bits11 (fun aa bV => ?_)
   refine tk 0 aa.out bV.out hHeld ?_ (hv := by exact fun _ bx => iq 30 (.tmp 3) rfl g3 rfl _ _ _ (qH.out.below (zV.out.trans (bx.mono zV.out.size))) Tryz.underlying30 rfl (by kernel_rfl))
   refine tk 1 aa.out bV.out hHeld ?_ (hv := by exact fun _ bx => iq 52 (.tmp 8) rfl g8 rfl _ _ _ (DX.out.below bx) Tryz.underlying52 rfl HIN.out)
   refine pu 2 aa.out ?_
   refine pu 3 aa.out ?_
   refine pu 4 aa.out ?_
   refine pu 5 aa.out ?_
   refine tk 6 aa.out bV.out hHeld ?_ (hv := by intro w' bx; have x0 := (DX.out.below bx).cell 0 _ HK0.out; go_simp; with_reducible rfl)
   refine on 7 aa.out (fun K hK => ?_)
   refine gs Tryz.func11 #[.slice (some ad) j c6, .int .i64 r.f0] (HCT.out _ (HTK.out _ (Kd.C_below GJ.out (zV.out.trans (HF.out.mono zV.out.size))))) ?_
   rintro e V7 ⟨rfl, ao⟩
   refine ⟨_, rfl, ?_⟩
   replace HF := mv ao HF; clear ao
   refine kn hK HF.out (fun hHeld => ?_)
   clear hK K
   refine on 8 aa.out (fun K hK => ?_)
   refine gs Tryz.func12 #[.agg (mO Ap Ab cp cb m1 m2 m3 V).toArray, .agg cs.toArray, .int .i64 (n : Int)] (Nt V Ap Ab cp cb m1 m2 m3 _ (Qu.out.below (zV.out.trans (HF.out.mono zV.out.size))) R n HSY.out cs (by rw [← HRR.out]; exact ab8.out _ (zV.out.trans (HF.out.mono zV.out.size)))) ?_
   rintro e V8 ⟨rfl, ao⟩
   refine ⟨_, rfl, ?_⟩
   replace HF := mv ao HF; clear ao
   refine kn hK HF.out (fun hHeld => ?_)
   clear hK K
   refine pu 9 aa.out ?_
   refine dn aa.out ?_
   have aF9 := GI.out
   go_wp2
   go_roundw
   case rel => exact ⟨j + 1, by omega, by go_num, ⟨zV.out.trans (HF.out.mono zV.out.size)⟩⟩
   case measure => simp [intOf]; omega
  ·obtain rfl : j = M.length := by omega
   have hjb : decide ((M.length : Int) < (M.length : Int)) = false := by simp
   have p1 : ((M.length : Int) < (M.length : Int)) = False := eq_false (by omega)
   go_wp2_with (first
    | (go_at_call 10; refine (zN _).mono ?_; rintro e W9 ⟨rfl, hb⟩; replace HD := ak (HD.out.trans (hb.mono HD.out.size)); clear hb))
   go_ret
   exact ⟨rfl, bR.out.trans ((QF.out.trans ((Wc.out.trans (HD.out.mono Wc.out.size)).mono QF.out.size)).mono bR.out.size)⟩
end
section
open Go.ChangeShapes Go.WideShapes
set_option maxRecDepth 100000
theorem Il {α : Type} (P : Nat → α → Prop) : ∀ n, (∀ i, i < n → ∃ a, P i a) → ∃ xs : List α, xs.length = n ∧ ∀ i a, xs[i]? = some a → P i a
 | 0, _ => ⟨[], rfl, by simp⟩
 | n + 1, h => by
  obtain ⟨xs, h1, h2⟩ := Il P n (fun i hi => h i (by omega))
  obtain ⟨a, ha⟩ := h n (by omega)
  refine ⟨xs ++ [a], by simp [h1], fun i b hb => ?_⟩
  rcases Nat.lt_trichotomy i n with hi | hi | hi
  ·rw [List.getElem?_append_left (by omega)] at hb
   exact h2 i b hb
  ·subst hi
   rw [← h1, List.getElem?_concat_length] at hb
   obtain rfl := Option.some.inj hb
   exact ha
  ·rw [List.getElem?_eq_none (by simp; omega)] at hb
   cases hb
def I8 (w : World) (v : Value) (l : List S91) : Prop := ∃ A c, v = .slice A l.length c ∧ l.length ≤ c ∧ Kd.C kS w A l.length l
section
variable {H : Type} {enc : TypeId × Value → H} {w : World} {base b0 : Nat} {held : Bool}
theorem LN {cs : List Value} {fuel : Nat} {x : DataW H × List MemPlace} (h : DataW.trod enc Tryz.prog w base (fun _ => true) held fuel 91 cs = some x) : ∃ s : S91, cs = [.string s.f0, .string s.f1, .int .i64 s.f2] := by
 obtain ⟨xs, k, hk, hxy, hl, hxl, hfd⟩ := DataW.trod_struct Tryz.underlying91 h
 have hsz : cs.length = 3 := hl.trans (by kernel_rfl)
 have g0 := hfd 0 _ rfl
 have g1 := hfd 1 _ rfl
 have g2 := hfd 2 _ rfl
 have tT : xs.length = 3 := hxl
 have y0 : ∃ y, xs[0]? = some y := ⟨_, List.getElem?_eq_getElem (by omega)⟩
 have y1 : ∃ y, xs[1]? = some y := ⟨_, List.getElem?_eq_getElem (by omega)⟩
 have y2 : ∃ y, xs[2]? = some y := ⟨_, List.getElem?_eq_getElem (by omega)⟩
 obtain ⟨q0, y0⟩ := y0; obtain ⟨q1, y1⟩ := y1; obtain ⟨q2, y2⟩ := y2
 rw [y0] at g0; rw [y1] at g1; rw [y2] at g2
 have c2 : Tryz.prog.cellsOf 2 = 1 := by kernel_rfl
 have c9 : Tryz.prog.cellsOf 9 = 1 := by kernel_rfl
 obtain ⟨s0, u0, _, _⟩ := DataW.trod_string Tryz.underlying9 g0
 obtain ⟨s1, u1, _, _⟩ := DataW.trod_string Tryz.underlying9 g1
 obtain ⟨z2, u2, _, _⟩ := DataW.trod_int Tryz.underlying2 g2
 match cs, hsz with
 | [a0, a1, a2], _ =>
  have Ya : ([a0, a1, a2].drop 0).take (Tryz.prog.cellsOf 9) = [Value.string s0] := u0
  have X9 : ([a0, a1, a2].drop 1).take (Tryz.prog.cellsOf 9) = [Value.string s1] := u1
  have X8 : ([a0, a1, a2].drop 2).take (Tryz.prog.cellsOf 2) = [Value.int .i64 z2] := u2
  rw [c9] at Ya X9
  rw [c2] at X8
  obtain rfl : a0 = Value.string s0 := by simpa using Ya
  obtain rfl : a1 = Value.string s1 := by simpa using X9
  obtain rfl : a2 = Value.int .i64 z2 := by simpa using X8
  exact ⟨⟨s0, s1, z2⟩, rfl⟩
theorem open_items {v : Value} {d : DataW H} {ps : List MemPlace} (hval : Value.okWide Tryz.prog w .any b0 22 v) (hd : DataW.Trod enc Tryz.prog w base (fun _ => true) held 22 v d ps) : ∃ l : List S91, I8 w v l := by
 obtain ⟨A, l, c, rfl⟩ := okWide_slice Tryz.underlying22 hval
 obtain ⟨fuel, hf⟩ := hd
 have c79 : Tryz.prog.cellsOf 91 = 3 := by kernel_rfl
 rcases Go.Deep.open_slice Tryz.underlying22 hf with ⟨hcs, _⟩ | ⟨x, len, cap, m, n, D, Pl, hcs, _, hl, hm, hmm, _, hel⟩
 ·simp [Value.cells] at hcs
  obtain ⟨rfl, rfl, rfl⟩ := hcs
  exact ⟨[], none, 0, rfl, Nat.le_refl _, Kd.C_nil _ _⟩
 ·simp [Value.cells] at hcs
  obtain ⟨rfl, rfl, rfl⟩ := hcs
  rw [if_pos rfl] at hmm
  obtain ⟨ys, lu, uS⟩ := Il (fun i (s : S91) => ∀ j u, [Value.string s.f0, .string s.f1, .int .i64 s.f2][j]? = some u → w.cell? (x.add (i * 3 + j)) = some u) l (fun i hi => by
   obtain ⟨cs, h1, h2⟩ := hel i (by omega)
   obtain ⟨s, rfl⟩ := LN h2
   obtain ⟨_, hlen, hc⟩ := World.cells?_some h1
   rw [c79] at hc
   refine ⟨s, fun j u hu => ?_⟩
   have hj : j < 3 := (List.getElem?_eq_some_iff.1 hu).1
   rw [← hu, ← hc j hj, Go.Deep.add_add])
  refine ⟨ys, some x, c, by rw [lu], by omega, ⟨rfl, by unfold maxLen at hm; omega, fun _ => ⟨x, rfl, fun j p hj => ⟨_, rfl, TP w p, fun i u hu => ?_⟩⟩⟩⟩
  exact uS j p hj i u hu
end
end
section
theorem viewOf_walk (v : Value) (l : List qy) (w : World) (h : I8 w v l) : Calls Tryz.prog 3 #[v] w fun e w' => e = .returned (.bool true) ∧ Below w.heap.size w w' := by
 obtain ⟨A, c, rfl, hc, hC⟩ := h
 cases hg : iE ((ue l).map jZ) with
 | true => exact Ju l _ _ _ rfl rfl rfl hg A c w hC hc
 | false => exact KT l _ _ _ rfl rfl rfl hg A c w hC hc
end
end Go.Proofs.YtndddnglapkplaaGreatDoor.V
