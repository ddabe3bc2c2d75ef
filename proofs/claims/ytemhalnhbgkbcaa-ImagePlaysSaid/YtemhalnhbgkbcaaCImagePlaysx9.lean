/- The law ImagePlays for every input: texts of ours, put together (part 10 of 17). No further condition. -/
import Derived.Test.YtemhalnhbgkbcaaCImagePlaysx2
import Derived.Test.YtemhalnhbgkbcaaCImagePlaysx6
import Derived.Test.YtemhalnhbgkbcaaCImagePlaysx8
import Derived.Test.YtemhalnhbgkbcaaCImagePlaysx4
import Derived.Outline
import Derived.Lib.ConvBytes
import Derived.Lib.AtoiErrMem
import Derived.Laws.CopyRow
import Derived.Laws.IdiomCopy
import Derived.Test.YtemhalnhbgkbcaaCImagePlaysw1
import Derived.Test.YtemhalnhbgkbcaaCImagePlaysx3
import Derived.Test.YtemhalnhbgkbcaaCImagePlaysx7
import Derived.ArgAppend
import Derived.Lib.SlBytesConst
set_option linter.unusedVariables false
set_option linter.unusedSimpArgs false
open Go.RowKit Go.Proofs.YtemhalnhbgkbcaaW.PrintWords Go.Proofs.YtemhalnhbgkbcaaW.PrintLast Go.Proofs.YtemhalnhbgkbcaaW.PrintMore Go.Proofs.Ytemhalnhbgkbcaa.Z
section
namespace Go.Proofs.Ytemhalnhbgkbcaa.V
def lv (l : List Int) : List Int × List Int × Bool := ia (ia l false).2.1 (ia l false).2.2
def xu (l : List Int) : At := ⟨strOfNums (ia l false).1, strOfNums (lv l).1⟩
def k9 : Nat → List Int → Bool → List At × List Int × Bool
 | 0, l, bad => ([], l, bad)
 | n + 1, l, bad => if bad = true then ([], l, true) else (xu l :: (k9 n (lv l).2.1 (lv l).2.2).1, (k9 n (lv l).2.1 (lv l).2.2).2)
def mG (l : List Int) (bad : Bool) : List At × List Int × Bool := k9 (fe (cT l bad 1).1) (cT l bad 1).2.1 (cT l bad 1).2.2
theorem rz {l : List Int} (hl : fV l) (bad : Bool) : fV (ia l bad).2.1 := (iS (iS hl bad 1).2 _ _).2
theorem BW : ∀ (n : Nat) (l : List Int) (bad : Bool), fV l → fV (k9 n l bad).2.1
 | 0, l, bad, h => h
 | n + 1, l, bad, h => by
  unfold k9
  split
  ·exact h
  ·exact BW n _ _ (rz (rz h _) _)
theorem PQ (s : ByteArray) : Try.prog.built 85 [(0, .string s)] = some [Value.string s, .string ⟨#[]⟩].toArray := by kernel_rfl
theorem Rd.bound {W : World} {g : Nat} {ok : Nat → Prop} {v : Value} {l : List Int} {bad : Bool} (h : Rd W g ok v l bad) : Rd W g (fun k => ok k ∧ k < W.heap.size) v l bad := ⟨h.box, Kd.V_bound h.vw, fun k hk => h.ng k hk.1⟩
theorem Rd.mono {W : World} {g : Nat} {ok ok' : Nat → Prop} {v : Value} {l : List Int} {bad : Bool} (h : Rd W g ok v l bad) (hm : ∀ k, ok k → ok' k) (hn : ∀ k, ok' k → k ≠ g) : Rd W g ok' v l bad := ⟨h.box, Kd.V_mono h.vw hm, hn⟩
theorem FY {α : Type} {d : Kd α} {e base g : Nat} {W W1 : World} {ok : Nat → Prop} {v : Value} {xs : List α} (h : d.R e W base ok v xs) (hg : W.grownBy W1 (some g)) (hlt : g < base) : d.R e W1 base ok v xs :=
 Kd.R_mono (Kd.R_grown (Kd.R_bound h) hg (fun k hk he => by have := hk.2.1; have := Option.some.inj he; omega)) (fun _ hk => hk.1)
set_option maxHeartbeats 4000000 in
theorem Di {g : Nat} {ok : Nat → Prop} {v : Value} {l : List Int} {bad : Bool} (hl : fV l) (w : World) (h : Rd w g ok v l bad) :
  Calls Try.prog 72 #[.pointer (some ⟨g, 0, none⟩)] w fun e w' => ∃ o v', e = .returned o ∧ Kd.R ju 85 w' w.heap.size (fun _ => True) o (mG l bad).1 ∧ Rd w' g ok v' (mG l bad).2.1 (mG l bad).2.2 ∧ w.grownBy w' (some g) := by
 have hgl := h.box.lt
 have HNG := ak h.ng
 have H := ak h.bound
 have HU := ak (yE hl (bad := bad) (g := g) (ok := fun k => ok k ∧ k < w.heap.size) (v := v))
 have Lf := (iS hl bad 1).2
 have hn := xo hl bad
 have HF : Aside0 (k9 (fe (cT l bad 1).1) (cT l bad 1).2.1 (cT l bad 1).2.2 = mG l bad) := ⟨rfl⟩
 generalize hfu : mG l bad = full at HF ⊢
 generalize hp : cT l bad 1 = p at HU Lf HF hn
 obtain ⟨L, l1, Ky⟩ := p
 dsimp only at HU Lf HF hn
 generalize fe L = n at HU HF hn
 clear h hp hfu hl
 go_enter Try.func72, Try.ntmps72
 go_wp2_with (first
  | (go_at_call 70; refine (HU.out _ H.out).mono ?_; rintro e W1 ⟨v1, rfl, nK, iu⟩; have H1 := ak nK; have vn := ak iu; clear nK iu))
 go_loopw [3, 4, 5] (fun o nv _ W => ∃ (m : Nat) (l2 : List Int) (Bq : Bool) (acc : List At) (v2 : Value), m + acc.length = n ∧ nv = .int .u64 ((m : Nat) : Int) ∧ Aside0 (Kd.R ju 85 W w.heap.size (fun _ => True) o acc) ∧ Aside0 (Rd W g (fun k => ok k ∧ k < w.heap.size) v2 l2 Bq) ∧ Aside0 (w.grownBy W (some g)) ∧ Aside0 (fV l2) ∧ Aside0 (full = (acc ++ (k9 m l2 Bq).1, (k9 m l2 Bq).2))) (fun _ nv _ _ => (intOf nv).toNat)
 case atStart => exact ⟨n, l1, Ky, [], v1, by simp, rfl, ⟨Kd.R_nil _ _ _ _ _⟩, H1, vn, ⟨Lf⟩, ⟨by rw [← HF.out, List.nil_append]⟩⟩
 case round =>
  clear H1 vn Lf HF HU
  obtain ⟨m, l2, Bq, acc, v2, hm, rfl, HO, HR, HG, H8, HE⟩ := hrel
  obtain ⟨W, rfl⟩ : ∃ W : World, W = wr := ⟨_, rfl⟩
  cases m with
  | zero =>
   obtain ⟨Ao, co, rfl⟩ := Kd.R_slice HO.out
   go_wp2
   go_ret
   have e : full = (acc, l2, Bq) := by rw [HE.out]; simp [k9]
   rw [e]
   exact ⟨_, _, rfl, HO.out, HR.out.mono (fun _ hk => hk.1) HNG.out, HG.out⟩
  | succ m =>
   have hgt : decide ((0 : Int) < ((m + 1 : Nat) : Int)) = true := by rw [decide_eq_true_eq]; omega
   cases Bq with
   | true =>
    obtain ⟨Ao, co, rfl⟩ := Kd.R_slice HO.out
    have e : full = (acc, l2, true) := by rw [HE.out]; simp [k9]
    go_wp2_with (first
     | (go_at_call 103; refine (oB _ HR.out).mono ?_; rintro e W1 ⟨rfl, bq⟩; have mU := ak (HR.out.below bq); have ix := ak (Kd.R_below HO.out bq); have vn := ak (HG.out.trans (iv bq _)); clear bq))
    go_ret
    rw [e]
    exact ⟨_, _, rfl, ix.out, mU.out.mono (fun _ hk => hk.1) HNG.out, vn.out⟩
   | false =>
    have B0 := ak (show full = (acc ++ (xu l2 :: (k9 m (lv l2).2.1 (lv l2).2.2).1), (k9 m (lv l2).2.1 (lv l2).2.2).2) from HE.out)
    have F6 := ak (fun (W : World) (v : Value) (h : Rd W g (fun k => ok k ∧ k < w.heap.size) v l2 false) => yb H8.out W h)
    have Lg := rz H8.out false
    have Eu := ak (fun (W : World) (v : Value) (h : Rd W g (fun k => ok k ∧ k < w.heap.size) v (ia l2 false).2.1 (ia l2 false).2.2) => yb Lg W h)
    have LH := ak (rz Lg (ia l2 false).2.2)
    have HA : Aside0 (xu l2 = ⟨strOfNums (ia l2 false).1, strOfNums (ia (ia l2 false).2.1 (ia l2 false).2.2).1⟩) := ⟨rfl⟩
    have HTE : Aside0 (lv l2 = ia (ia l2 false).2.1 (ia l2 false).2.2) := ⟨rfl⟩
    generalize lv l2 = q1 at B0 HTE
    generalize xu l2 = Zy at B0 HA
    generalize ia l2 false = q0 at F6 Eu LH HA HTE Lg
    generalize ia q0.2.1 q0.2.2 = q2 at Eu LH HA HTE
    obtain ⟨b0, l3, d3⟩ := q0
    obtain ⟨b1, l4, d4⟩ := q2
    dsimp only at F6 Eu LH HA HTE
    obtain ⟨s0, jX⟩ : ∃ s0, s0 = strOfNums b0 := ⟨_, rfl⟩
    obtain ⟨s1, pH⟩ : ∃ s1, s1 = strOfNums b1 := ⟨_, rfl⟩
    rw [← jX] at F6 HA
    rw [← pH] at Eu HA
    obtain rfl := HA.out
    obtain ⟨L, hL⟩ : ∃ L : List At, L = acc ++ [⟨s0, s1⟩] := ⟨_, rfl⟩
    have HL := ak hL
    have bP := ak (PQ s0)
    have hac : acc.length ≤ 255 := by omega
    clear jX pH Lg H8 HE hL
    obtain ⟨Ao, co, rfl⟩ := Kd.R_slice HO.out
    go_wp2_with (first
     | (go_at_call 103; refine (oB _ HR.out).mono ?_; rintro e W1 ⟨rfl, bq⟩; have mU := ak (HR.out.below bq); have ix := ak (Kd.R_below HO.out bq); have vn := ak (HG.out.trans (iv bq _)); clear bq HR HO HG)
     | (go_at_call 71; refine (F6.out _ _ mU.out).mono ?_; rintro e W2 ⟨v3, rfl, pI, nn⟩; have qL := ak pI; have Th := ak (FY ix.out nn hgl); have mz := ak (vn.out.trans nn); clear pI nn mU ix vn)
     | ((with_reducible refine av (N := 19) rfl ?_); refine xI rfl 85 #[(0, .tmp 18)] rfl [(0, .string s0)] (by simp only [List.map_toArray, List.map_cons, List.map_nil]; rfl) [Value.string s0, .string ⟨#[]⟩] bP.out ?_)
     | (refine au (some 5) rfl rfl 85 rfl [.string ⟨#[]⟩, .string ⟨#[]⟩] (fun _ => by kernel_rfl) ?_; intro ga W3 hga IB gB; have kj := ak IB; have Ey := ak (qL.out.below gB); have Tg := ak (Kd.R_below (Kd.R_mono (ok' := fun k => k ≠ ga) (Kd.R_bound Th.out) (fun k hk => by have := hk.2.2.1; omega)) gB); have Ge := ak (mz.out.trans (iv gB _)); have HGA := ak (show w.heap.size ≤ ga from Nat.le_trans mz.out.size hga); clear IB gB hga qL Th mz)
     | (refine aK rfl 85 (.tmp 5) (.tmp 19) rfl ga [.string s0, .string ⟨#[]⟩] rfl rfl 85 _ kj.out 2 (by kernel_rfl) rfl rfl (by intro u hu; simp at hu; rcases hu with rfl | rfl <;> rfl) ?_; intro W4 iq my; have lC := ak iq; have F7 := ak (Ey.out.grown my (fun k hk e => by have := hk.2; have := HGA.out; have := Option.some.inj e; omega) (fun e => by have := HGA.out; have := Option.some.inj e; omega)); have xX := ak (Kd.R_grown Tg.out my (fun k hk e => hk (Option.some.inj e))); have wi := ak (Ge.out.andThen my (fun j hj => .inl (by have := HGA.out; cases hj; exact this))); clear iq my kj Ey Tg Ge)
     | (go_at_call 71; refine (Eu.out _ _ F7.out).mono ?_; rintro e W5 ⟨v4, rfl, SR, sX⟩; have LO := ak SR; have xW := ak (FY xX.out sX hgl); have la := ak (lC.out.grown sX (fun e => by have := HGA.out; have := Option.some.inj e; omega)); have Yf := ak (wi.out.trans sX); have lU := la.out.frozen 1; have XH := la.out.cell 1 _ rfl; clear SR sX F7 xX wi lC)
     | (generalize Pq : W5.setCell ⟨ga, 1, none⟩ (.string s1) = W6; have Pn : aH W6 ga [.string s0, .string s1] 85 := (by rw [← Pq]; exact la.out.set 1 (.string s1)); have hgS : W5.grownBy W6 (some ga) := (by rw [← Pq]; exact bs W5 ga 1 (.string s1)); refine az rfl 85 (.tmp 5) rfl ga rfl _ _ _ Pn Try.underlying85 rfl 2 (by kernel_rfl) rfl ?_; have Ex := ak (LO.out.grown hgS (fun k hk e => by have := hk.2; have := HGA.out; have := Option.some.inj e; omega) (fun e => by have := HGA.out; have := Option.some.inj e; omega)); have pM := ak (Kd.R_grown xW.out hgS (fun k hk e => hk (Option.some.inj e))); have HLT := Pn.lt; have wh := ak (Yf.out.andThen hgS (fun j hj => .inl (by have := HGA.out; cases hj; exact this))); clear hgS lU XH Pq Pn)
     | ((with_reducible refine bG (b := .append) (xs := #[.tmp 23, .tmp 25]) rfl ?_); at_builtin; refine Kd.R_append ju (w0 := W6) w.heap.size rfl (.tmp 23) (.tmp 25) 55 85 (.agg #[.string ⟨#[]⟩, .string ⟨#[]⟩]) 32 rfl Try.underlying55 xq rfl (by decide) (by omega) _ acc ⟨s0, s1⟩ [.string s0, .string s1] (fun k => k ≠ ga) (fun _ => False) rfl rfl (xp _ _ _ _) (fun _ h => h.elim) (fun k hk => by omega) pM.out (Below.refl _ _) wh.out.size (by omega) ?_; intro v7 w7 pJ xR kT yl; rw [← HL.out] at pJ; have wY := ak (Kd.R_mono (ok' := fun _ => True) pJ (fun _ _ => trivial)); have LN := ak (Ex.out.grown kT (fun k hk e => by have := hk.2; have := Kd.R_base pM.out k e.symm; omega) (fun e => by have := Kd.R_base pM.out _ e.symm; omega)); have Jt := ak (wh.out.andThen kT (fun j hj => .inl (Kd.R_base pM.out j hj))); clear pJ xR kT yl))
    go_roundw
    case rel => exact ⟨m, q1.2.1, q1.2.2, L, v4, by rw [HL.out, List.length_append, List.length_singleton]; omega, by go_num, wY, by rw [HTE.out]; exact LN, Jt, by rw [HTE.out]; exact LH, ⟨by rw [B0.out, HL.out]; simp⟩⟩
    case measure => simp [intOf]
end Go.Proofs.Ytemhalnhbgkbcaa.V
end

section
namespace Go.Proofs.Ytemhalnhbgkbcaa.V
theorem qV (s : ByteArray) : fV (bytesOf s) := by
 intro x hx
 simp only [bytesOf, List.mem_map] at hx
 obtain ⟨b, _, rfl⟩ := hx
 have := b.toNat_lt
 omega
def r0 (s : ByteArray) := cT (bytesOf s) false 1
def r1 (s : ByteArray) := cT (r0 s).2.1 (r0 s).2.2 4
def r2 (s : ByteArray) := ia (r1 s).2.1 (r1 s).2.2
def r3 (s : ByteArray) := mG (r2 s).2.1 (r2 s).2.2
def r4 (s : ByteArray) := cT (r3 s).2.1 (r3 s).2.2 64
def r5 (s : ByteArray) := cT (r4 s).2.1 (r4 s).2.2 1
def r6 (s : ByteArray) := cT (r5 s).2.1 (r5 s).2.2 (fe (r5 s).1 : Nat)
def tb (sl L : List Int) : List Int := L ++ sl.drop L.length
def oO (s : ByteArray) : Bk := ⟨(fe (r1 s).1 : Nat), strOfNums (r2 s).1, tb (List.replicate 64 0) (r4 s).1, (r6 s).1, (r3 s).1⟩
def rF (s : ByteArray) : Bool := !(r6 s).2.2 && (((r6 s).2.1.length : Int) == 0)
def uI (s : ByteArray) : Bool := rF s && (decide (fe (r0 s).1 = 66) && dC (oO s))
theorem Gm (s : ByteArray) : fV (r0 s).2.1 := (iS (qV s) _ _).2
theorem K7 (s : ByteArray) : fV (r1 s).2.1 := (iS (Gm s) _ _).2
theorem K6 (s : ByteArray) : fV (r2 s).2.1 := rz (K7 s) _
theorem K5 (s : ByteArray) : fV (r3 s).2.1 := BW _ _ _ (iS (K6 s) _ 1).2
theorem Gl (s : ByteArray) : fV (r4 s).2.1 := (iS (K5 s) _ _).2
theorem QW (s : ByteArray) : fV (r5 s).2.1 := (iS (Gl s) _ _).2
theorem OA (s : ByteArray) : (r4 s).1.length ≤ 64 := vG _ _ 64
theorem IZ {sl L : List Int} (hs : sl.length = 64) (h : L.length ≤ 64) : (tb sl L).length = 64 := by
 rw [tb, List.length_append, List.length_drop]
 omega
theorem Fy (s : ByteArray) : fe (r1 s).1 < 4294967296 := by
 have h1 := AX (iS (Gm s) (r0 s).2.2 4).1
 have h2 := vG (r0 s).2.1 (r0 s).2.2 4
 exact Nat.lt_of_lt_of_le h1 (Nat.pow_le_pow_right (by omega) h2)
theorem Hs (s : ByteArray) : BkOk (oO s) := by
 refine ⟨by show (0 : Int) ≤ ((_ : Nat) : Int); omega, by show (((fe (r1 s).1 : Nat)) : Int) < 4294967296; have := Fy s; omega, ?_, (iS (QW s) _ _).1⟩
 intro x hx
 have hx' : x ∈ (r4 s).1 ++ (List.replicate 64 (0 : Int)).drop (r4 s).1.length := hx
 rcases List.mem_append.1 hx' with h | h
 ·exact (iS (K5 s) _ _).1 x h
 ·have := List.eq_of_mem_replicate (List.mem_of_mem_drop h)
  omega
section
variable {g : Nat} {ok : Nat → Prop} {v : Value} {W : World}
theorem QZ (s : ByteArray) (h : Rd W g ok v (bytesOf s) false) : Calls Try.prog 70 #[.pointer (some ⟨g, 0, none⟩), .int .i64 1] W fun e W' => ∃ v', e = .returned (.int .u64 (fe (r0 s).1 : Nat)) ∧ Rd W' g ok v' (r0 s).2.1 (r0 s).2.2 ∧ W.grownBy W' (some g) := yE (qV s) W h
theorem QY (s : ByteArray) (h : Rd W g ok v (r0 s).2.1 (r0 s).2.2) : Calls Try.prog 70 #[.pointer (some ⟨g, 0, none⟩), .int .i64 4] W fun e W' => ∃ v', e = .returned (.int .u64 (fe (r1 s).1 : Nat)) ∧ Rd W' g ok v' (r1 s).2.1 (r1 s).2.2 ∧ W.grownBy W' (some g) := Ou (Gm s) W h
theorem Q0 (s : ByteArray) (h : Rd W g ok v (r1 s).2.1 (r1 s).2.2) : Calls Try.prog 71 #[.pointer (some ⟨g, 0, none⟩)] W fun e W' => ∃ v', e = .returned (.string (strOfNums (r2 s).1)) ∧ Rd W' g ok v' (r2 s).2.1 (r2 s).2.2 ∧ W.grownBy W' (some g) := yb (K7 s) W h
theorem Q4 (s : ByteArray) (h : Rd W g ok v (r2 s).2.1 (r2 s).2.2) : Calls Try.prog 72 #[.pointer (some ⟨g, 0, none⟩)] W fun e W' => ∃ o v', e = .returned o ∧ Kd.R ju 85 W' W.heap.size (fun _ => True) o (r3 s).1 ∧ Rd W' g ok v' (r3 s).2.1 (r3 s).2.2 ∧ W.grownBy W' (some g) := Di (K6 s) W h
theorem Q3 (s : ByteArray) (h : Rd W g ok v (r3 s).2.1 (r3 s).2.2) : Calls Try.prog 73 #[.pointer (some ⟨g, 0, none⟩), .int .i64 64] W fun e W' => ∃ u v', e = .returned u ∧ Kd.V (Kd.int .u8) 5 W' 0 ok u (r4 s).1 ∧ Rd W' g ok v' (r4 s).2.1 (r4 s).2.2 ∧ W.grownBy W' (some g) := qt 64 (by omega) (by omega) W h
theorem QX (s : ByteArray) (h : Rd W g ok v (r4 s).2.1 (r4 s).2.2) : Calls Try.prog 70 #[.pointer (some ⟨g, 0, none⟩), .int .i64 1] W fun e W' => ∃ v', e = .returned (.int .u64 (fe (r5 s).1 : Nat)) ∧ Rd W' g ok v' (r5 s).2.1 (r5 s).2.2 ∧ W.grownBy W' (some g) := yE (Gl s) W h
theorem Fx (s : ByteArray) : fe (r5 s).1 < 256 := xo (Gl s) _
theorem MM (s : ByteArray) : fe (r0 s).1 < 256 := xo (qV s) _
theorem Q2 (s : ByteArray) (h : Rd W g ok v (r5 s).2.1 (r5 s).2.2) : Calls Try.prog 73 #[.pointer (some ⟨g, 0, none⟩), .int .i64 (fe (r5 s).1 : Nat)] W fun e W' => ∃ u v', e = .returned u ∧ Kd.V (Kd.int .u8) 5 W' 0 ok u (r6 s).1 ∧ Rd W' g ok v' (r6 s).2.1 (r6 s).2.2 ∧ W.grownBy W' (some g) := by
 have := Fx s
 exact qt (fe (r5 s).1 : Nat) (by omega) (by omega) W h
theorem Q1 (s : ByteArray) (h : Rd W g ok v (r6 s).2.1 (r6 s).2.2) : Calls Try.prog 74 #[.pointer (some ⟨g, 0, none⟩)] W fun e W' => e = .returned (.bool (rF s)) ∧ Below W.heap.size W W' := Kr W h
end
theorem EY (s : ByteArray) (hs : s.size ≤ 1000000) (w : World) :
  Calls Try.prog 69 #[.slice (some ⟨w.heap.size, 0, none⟩) s.size (grownCap w s.size 0 5)] (Lib.bytesWorld w 5 s) fun e w' => ∃ g v, e = .returned (.pointer (some ⟨g, 0, none⟩)) ∧ Rd w' g (fun k => (w.heap.size < k ∧ k ≠ g) ∧ k < w'.heap.size) v (bytesOf s) false ∧ w.heap.size < g ∧ Below w.heap.size w w' := by
 have hC : Kd.C (Kd.int .u8) (Lib.bytesWorld w 5 s) (some ⟨w.heap.size, 0, none⟩) (bytesOf s).length (bytesOf s) := by
  rw [iw]
  exact Kd.C_of_reads (Ff w 5 s (by omega))
 have h := GA (bytesOf s) (some ⟨w.heap.size, 0, none⟩) (grownCap w s.size 0 5) (Lib.bytesWorld w 5 s) hC (by rw [iw]; exact grownCap_ge _ _ _ _) (by rw [iw]; omega)
 rw [iw, Lib.bytesWorld_size] at h
 refine h.mono ?_
 rintro e w' ⟨g, v, rfl, hr, hg, hb⟩
 have ks : Below w.heap.size w w' := (Lib.bytesWorld_below w 5 s).trans (hb.mono (by omega))
 refine ⟨g, v, rfl, (hr.mono (ok' := fun k => w.heap.size < k ∧ k ≠ g) (fun k hk => ⟨by have := hk.1; omega, hk.2⟩) (fun k hk => hk.2)).bound, by omega, ks⟩
theorem JI {ys : List Int} {news : List Value} (h : cP (fun (x : Int) (cs : List Value) => cs = [Value.int .u8 x]) 1 ys news) : news = ys.map (Value.int .u8) := by
 have hl : news.length = ys.length * 1 := h.1
 apply List.ext_getElem
 ·rw [List.length_map]; omega
 ·intro q h1 h2
  have e := h.2 q _ (List.getElem?_eq_getElem (show q < ys.length by omega))
  rw [Nat.mul_one, List.drop_eq_getElem_cons h1, List.take_succ_cons, List.take_zero] at e
  injection e with e _
  rw [e, List.getElem_map]
set_option maxRecDepth 100000 in
theorem GN {W : World} {g : Nat} {a : Int} {s : ByteArray} {sl : List Int} {vf va : Value} {ok : Nat → Prop} {u : Value} {L : List Int} (ty : TypeId) (hb : aH W g (aU a s sl vf va) 57) (hl : sl.length = 64) (hv : Kd.V (Kd.int .u8) 5 W 0 ok u L) (hL : L.length ≤ 64) :
  ∃ v' w', (Builtin.copy_ #[48, 48] ty #[.slice (some ⟨g, 2, none⟩) 64 64, u]).run Try.prog W = .ok v' w' ∧ aH w' g (aU a s (tb sl L) vf va) 57 ∧ W.grownBy w' (some g) := by
 have hsz : (Try.prog.info? 5).map (·.size) = some 1 := by kernel_rfl
 obtain ⟨A, c, rfl, hc, hF⟩ := hv
 have hC := hF W (fun _ _ _ => rfl)
 rcases A with _ | ad
 ·have h0 : L = [] := by
   rcases Nat.eq_zero_or_pos L.length with h0 | h0
   ·exact List.eq_nil_of_length_eq_zero h0
   ·obtain ⟨ad, h, _⟩ := hC.2.2 h0
    cases h
  subst h0
  exact ⟨_, W, run_copy_none W 48 48 ty 5 _ _ 64 64 0 c Try.underlying48 hsz rfl, hb, World.grownBy.refl W _⟩
 ·obtain ⟨news, hnr, hnc⟩ := fY.inner_ hC
  obtain rfl := JI hnr
  have XN := ah a s sl vf va hl
  refine ⟨_, _, run_copy_row Try.prog W 48 48 ty 5 g 2 64 64 ad L.length c (aU a s sl vf va).toArray 57 (L.map (Value.int .u8)) Try.underlying48 hsz hb ?_ hnc ?_ ?_, ?_, ?_⟩
  ·rw [List.length_map]; exact (Nat.min_eq_left hL).symm
  ·rw [List.length_map, List.size_toArray, XN]; omega
  ·intro x hx
   obtain ⟨z, _, rfl⟩ := List.mem_map.1 hx
   rfl
  ·have := setRow_heap W g _ (((aU a s sl vf va).toArray.toList.take 2 ++ L.map (Value.int .u8) ++ (aU a s sl vf va).toArray.toList.drop (2 + (L.map (Value.int .u8)).length)).toArray) 57 _ hb
   refine this.trans ?_
   congr 2
   rw [List.length_map, ← List.drop_drop]
   simp [aU, tb, List.drop_append, List.length_map, hl, show L.length - 64 = 0 by omega]
  ·exact rB _ _ _
theorem Gq {ops : Array Oper} {o : Oper} {a : Act} {w : World} {K : Act → World → Prop} {Q : Exit → Act → World → Prop} {E : Prop} (hg : o.guard = none) (d x : Operand) (dT sT : TypeId)
  (hop : o.op = Op.call { callee := Callee.builtin Builtin.copy, args := #[d, x], argTypes := #[dT, sT] }) (v u : Value) (hd : a.eval d = v) (hx : a.eval x = u) {v' : Value} {w' : World}
  (hr : (Builtin.copy_ #[dT, sT] o.type #[v, u]).run Try.prog w = .ok v' w') (hK : K (a.put o.dst v') w') : if Region.wanted o (yielded ops a.tmps) = true then Oper.wp Try.prog o a w K Q else E := by
 rw [if_pos (by simp [Region.wanted, hg])]
 unfold Oper.wp
 simp [execOp, hop, resolve, invoke, builtin, hd, hx, hr, Result.andThen]
 exact hK
theorem PO (x : Int) : Try.prog.built 57 [(0, .int .u32 x)] = some (aU x ⟨#[]⟩ (List.replicate 64 0) (.slice none 0 0) (.slice none 0 0)).toArray := by kernel_rfl
end Go.Proofs.Ytemhalnhbgkbcaa.V
end

section
namespace Go.Proofs.Ytemhalnhbgkbcaa.V
def ql.T6 : Bool × List (List Nat × List Nat) := (true, [([], []), ([0], [0]), ([], []), ([2], [2]), ([1, 3, 3], [1, 3])])
def ql.B6 : List Nat := [0, 1, 0, 4, 15]
theorem ql.tab6 : ed .any (opsOf Try.f38 6) = ql.T6 := by kernel_rfl
theorem ql.bits6 : dL ql.T6.2 ql.B6 = true := by kernel_rfl
set_option maxHeartbeats 8000000 in
set_option maxRecDepth 100000 in
theorem JJ (s : ByteArray) (hs : s.size ≤ 1000000) (w : World) :
  Calls Try.prog 38 #[.string s] w fun e w' => ∃ v, e = .returned (.tuple #[v, .int .i64 (if uI s = true then 0 else 3)]) ∧ iz w' v (if uI s = true then oO s else km) ∧ Below w.heap.size w w' := by
 have lT := MM s
 have ov := Fy s
 have WX := Fx s
 have HN := ak (EY s hs)
 have H0 := ak (@QZ · · · · s)
 have H1 := ak (@QY · · · · s)
 have H2 := ak (@Q0 · · · · s)
 have H3 := ak (@Q4 · · · · s)
 have H4 := ak (@Q3 · · · · s)
 have H5 := ak (@QX · · · · s)
 have H6 := ak (@Q2 · · · · s)
 have H7 := ak (@Q1 · · · · s)
 have QA := ak (OA s)
 have HBK : Aside0 (oO s = ⟨(fe (r1 s).1 : Nat), strOfNums (r2 s).1, tb (List.replicate 64 0) (r4 s).1, (r6 s).1, (r3 s).1⟩) := ⟨rfl⟩
 have HOK : Aside0 (uI s = (rF s && (decide (fe (r0 s).1 = 66) && dC (oO s)))) := ⟨rfl⟩
 have HBO := ak (Hs s)
 generalize uI s = rok at HOK ⊢
 generalize oO s = rbk at HBK HOK HBO ⊢
 generalize rF s = rdn at H7 HOK
 generalize fe (r0 s).1 = n0 at lT H0 HOK
 generalize fe (r1 s).1 = n1 at ov H1 HBK
 generalize fe (r5 s).1 = n5 at WX H5 H6
 generalize strOfNums (r2 s).1 = aff at H2 HBK
 generalize (r4 s).1 = L4 at H4 QA HBK
 generalize (r6 s).1 = L6 at H6 HBK
 generalize (r3 s).1 = L3 at H3 HBK
 have kb := fun (w : World) => Lib.run_convert_string_bytes (P := Try.prog) w 9 48 5 s Try.underlying9 Try.underlying48 Try.underlying5
 have HBR := ak (PO (n1 : Int))
 have Bs := ak (show (List.replicate 64 (0 : Int)).length = 64 by simp)
 have HSL := ak (IZ Bs.out QA.out)
 obtain ⟨Z, hZ⟩ : ∃ Z : List Int, Z = List.replicate 64 0 := ⟨_, rfl⟩
 obtain ⟨SL, hSL⟩ : ∃ SL : List Int, SL = tb Z L4 := ⟨_, rfl⟩
 rw [← hZ] at HBR Bs HSL HBK
 rw [← hSL] at HSL HBK
 have HSE := ak hSL
 clear hZ hSL
 go_enter Try.func38, Try.ntmps38
 go_wp2_with (first
  | (refine au (some 2) rfl rfl 57 rfl a6 bT ?_; intro g2 W1 nn vF bq; have g8 := ak vF; have bP := ak bq; have mz := ak nn; have HGL := ak vF.lt; clear vF bq nn)
  | (go_at_call 69; refine (HN.out _).mono ?_; rintro e W2 ⟨gr, v2, rfl, pI, hgr, dD⟩; have fv := ak (g8.out.below dD); have qL := ak pI; have HGR := ak hgr; have HNE := ak (show g2 ≠ gr by have := HGL.out; omega); have HGB := ak (show w.heap.size ≤ gr by have := bP.out.size; omega); have gl := ak (bP.out.trans (dD.mono bP.out.size)); clear pI hgr dD g8 HN)
  | (go_at_call 70; refine (H0.out _ _ _ _ qL.out).mono ?_; rintro e W3 ⟨v3, rfl, BO, nM⟩; have Ey := ak BO; have kj := ak (fv.out.grown nM (fun e => HNE.out (Option.some.inj e))); have Tc := ak nM.size; have fO := ak (gl.out.grown nM gl.out.size (by intro k hk; cases hk; exact HGB.out)); clear BO nM qL fv)
  | (go_at_call 70; refine (H1.out _ _ _ _ Ey.out).mono ?_; rintro e W4 ⟨v4, rfl, SS, my⟩; have F7 := ak SS; have lC := ak (kj.out.grown my (fun e => HNE.out (Option.some.inj e))); have Ew := ak (Nat.le_trans Tc.out my.size); have gK := ak (fO.out.grown my fO.out.size (by intro k hk; cases hk; exact HGB.out)); clear SS my Ey kj fO Tc)
  | ((with_reducible refine av (N := 15) rfl ?_); refine xI rfl 57 #[(0, .tmp 14)] rfl [(0, .int .u32 (n1 : Int))] (by simp only [List.map_toArray, List.map_cons, List.map_nil]; rfl) (aU (n1 : Int) ⟨#[]⟩ Z (.slice none 0 0) (.slice none 0 0)) HBR.out ?_)
  | (refine au (some 6) rfl rfl 57 rfl a6 bT ?_; intro g6 W5 nL Pj ox; have ss := ak Pj; have la := ak (lC.out.below ox); have LO := ak (F7.out.below ox); have lp := ak (gK.out.trans (ox.mono gK.out.size)); have wh := ak (show W2.heap.size ≤ g6 by have := Ew.out; omega); have ED := ak (show w.heap.size ≤ g6 by have := gK.out.size; omega); have EA := ak (show g2 ≠ g6 by have := lC.out.lt; omega); have ur := ak (show gr ≠ g6 by have := F7.out.box.lt; omega); clear Pj ox nL lC F7 gK Ew)
  | (refine aK rfl 57 (.tmp 6) (.tmp 15) rfl g6 (aU (n1 : Int) ⟨#[]⟩ Z (.slice none 0 0) (.slice none 0 0)) rfl rfl 57 _ ss.out 68 (by kernel_rfl) (ah _ _ _ _ _ Bs.out) rfl (b7 _ _ _ _ _ rfl rfl) ?_; intro W6 SJ nL; have Jk := ak SJ; have oG := ak (la.out.grown nL (fun e => EA.out (Option.some.inj e))); have Ex := ak (LO.out.grown nL (fun k hk e => by have := hk.2; have := wh.out; have := Option.some.inj e; omega) (fun e => ur.out (Option.some.inj e))); have mA := ak (lp.out.grown nL lp.out.size (by intro k hk; cases hk; exact ED.out)); clear SJ nL ss la LO lp)
  | (go_at_call 71; refine (H2.out _ _ _ _ Ex.out).mono ?_; rintro e W7 ⟨v7, rfl, SQ, kT⟩; have LN := ak SQ; have su := ak (oG.out.grown kT (fun e => HNE.out (Option.some.inj e))); have BY := ak (Jk.out.grown kT (fun e => ur.out (Option.some.inj e).symm)); have pN := ak (mA.out.grown kT mA.out.size (by intro k hk; cases hk; exact HGB.out)); have Xq := BY.out.frozen 1; have IH := BY.out.cell 1 _ rfl; clear SQ kT Ex oG Jk mA)
  | (generalize Po : W7.setCell ⟨g6, 1, none⟩ (.string aff) = W8; go_at_call 72; have Ld : aH W8 g6 (aU (n1 : Int) aff Z (.slice none 0 0) (.slice none 0 0)) 57 := (by rw [← Po]; exact BY.out.set 1 (.string aff)); have qK : W7.grownBy W8 (some g6) := (by rw [← Po]; exact bs W7 g6 1 (.string aff)); have Te := ak (LN.out.grown qK (fun k hk e => by have := hk.2; have := wh.out; have := Option.some.inj e; omega) (fun e => ur.out (Option.some.inj e))); have oF := ak (su.out.grown qK (fun e => EA.out (Option.some.inj e))); have qy := ak (pN.out.grown qK pN.out.size (by intro k hk; cases hk; exact ED.out)); refine (H3.out _ _ _ _ Te.out).mono ?_; rintro e W9 ⟨o9, v9, rfl, eG, SO, yS⟩; have L8 := ak (Kd.R_lower eG qy.out.size); have Td := ak SO; have F5 := ak (oF.out.grown yS (fun e => HNE.out (Option.some.inj e))); have Jj := ak (Ld.grown yS (fun e => ur.out (Option.some.inj e).symm)); have EF := ak (qy.out.grown yS qy.out.size (by intro k hk; cases hk; exact HGB.out)); obtain ⟨A9, c9, rfl⟩ := Kd.R_slice eG; have fp := Jj.out.frozen 67; have XF := Jj.out.cell 67 _ (ft _ _ _ _ _ Bs.out); clear eG SO yS Ld qK Po Xq IH LN su BY pN Te oF qy))
 generalize Ki : W9.setCell ⟨g6, 67, none⟩ (.slice A9 L3.length c9) = Es
 have OT : aH Es g6 (aU (n1 : Int) aff Z (.slice none 0 0) (.slice A9 L3.length c9)) 57 := by
  rw [← Ki]
  have := Jj.out.set 67 (.slice A9 L3.length c9)
  rwa [qW _ _ _ _ _ Bs.out] at this
 have Dw : W9.grownBy Es (some g6) := by rw [← Ki]; exact bs W9 g6 67 _
 have hbd : Below Es.heap.size Es Es.drew := br (Below.refl _ _)
 have KN := ak (Rd.below (Td.out.grown Dw (fun k hk e => by have := hk.2; have := wh.out; have := Option.some.inj e; omega) (fun e => ur.out (Option.some.inj e))) hbd)
 have Qf := ak ((F5.out.grown Dw (fun e => EA.out (Option.some.inj e))).below hbd)
 have Qx := ak (Kd.R_below (bD L8.out Jj.out (by decide) Dw) hbd)
 have KZ := ak (br (EF.out.grown Dw EF.out.size (by intro k hk; cases hk; exact ED.out)))
 have P9 := ak (OT.below hbd)
 clear Ki OT Dw hbd Td F5 Jj EF L8 fp XF
 refine dd (n := 5) (S := fun w' => True) (ds := []) #[false, false, false, false, false] (by kernel_rfl) rfl rfl trivial (fun hHeld => ?_); refine bQ ql.tab6 ql.bits6 (fun ae bA => ?_)
 refine pu 0 ae.out ?_
 refine pu 1 ae.out ?_
 refine pu 2 ae.out ?_
 refine on 3 ae.out (fun K hK => ?_)
 refine gs Try.func73 #[.pointer (some ⟨gr, 0, none⟩), .int .i64 64] (H4.out _ _ _ _ KN.out) ?_
 rintro e Jf ⟨Zg, v11, rfl, OY, O3, Dv⟩
 refine ⟨_, rfl, ?_⟩
 have Qo := ak O3; have Qe := ak (Qf.out.grown Dv (fun e => HNE.out (Option.some.inj e))); have KI := ak (P9.out.grown Dv (fun e => ur.out (Option.some.inj e).symm)); have Qw := ak (bD Qx.out KN.out.box (by decide) Dv); have KY := ak (KZ.out.grown Dv KZ.out.size (by intro k hk; cases hk; exact HGB.out)); have Ql := ak OY; clear O3 Dv OY KN Qf P9 Qx KZ
 refine kn hK trivial (fun hHeld => ?_)
 clear hK K
 refine on 4 ae.out (fun K hK => ?_)
 obtain ⟨SA, Je, hrun, J1, Du⟩ := GN 3 KI.out Bs.out Ql.out QA.out
 rw [← HSE.out] at J1
 have KM := ak (Qo.out.grown Du (fun k hk e => by have := hk.2; have := wh.out; have := Option.some.inj e; omega) (fun e => ur.out (Option.some.inj e)))
 have Qd := ak (Qe.out.grown Du (fun e => EA.out (Option.some.inj e)))
 have Qv := ak (bD Qw.out KI.out (by decide) Du)
 have Bt := ak (KY.out.grown Du KY.out.size (by intro k hk; cases hk; exact ED.out))
 have P8 := ak J1
 refine Gq rfl (.tmp 23) (.tmp 25) 48 48 rfl _ _ rfl rfl hrun ?_
 clear hrun J1 Du Qo Qe KI Qw KY Ql
 refine kn hK trivial (fun hHeld => ?_)
 clear hK K
 refine dn ae.out ?_
 go_wp2_with (first
  | (go_at_call 70; refine (H5.out _ _ _ _ KM.out).mono ?_; rintro e Jd ⟨Fp, rfl, O2, Dt⟩; have KL := ak O2; have Qc := ak (Qd.out.grown Dt (fun e => HNE.out (Option.some.inj e))); have P7 := ak (P8.out.grown Dt (fun e => ur.out (Option.some.inj e).symm)); have Qu := ak (bD Qv.out KM.out.box (by decide) Dt); have KX := ak (Bt.out.grown Dt Bt.out.size (by intro k hk; cases hk; exact HGB.out)); clear O2 Dt KM Qd P8 Qv Bt)
  | (go_at_call 73; refine (H6.out _ _ _ _ KL.out).mono ?_; rintro e Jc ⟨Zf, Ze, rfl, Tw, O1, Ds⟩; have Qn := ak O1; have Qb := ak (Qc.out.grown Ds (fun e => HNE.out (Option.some.inj e))); have Et := ak (P7.out.grown Ds (fun e => ur.out (Option.some.inj e).symm)); have Qt := ak (bD Qu.out KL.out.box (by decide) Ds); have KW := ak (KX.out.grown Ds KX.out.size (by intro k hk; cases hk; exact HGB.out)); obtain ⟨AP, qq, rfl, Pg, Pt⟩ := Tw; have KU := ak Pg; have Qk := ak Pt; have TC := Et.out.frozen 66; have GF := Et.out.cell 66 _ (fI _ _ _ _ _ HSL.out); clear O1 Ds Pg Pt KL Qc P7 Qu KX))
 generalize Kh : Jc.setCell ⟨g6, 66, none⟩ (.slice AP L6.length qq) = PX
 have OS : aH PX g6 (aU (n1 : Int) aff SL (.slice AP L6.length qq) (.slice A9 L3.length c9)) 57 := by
  rw [← Kh]
  have := Et.out.set 66 (.slice AP L6.length qq)
  rwa [k8 _ _ _ _ _ HSL.out] at this
 have Be : Jc.grownBy PX (some g6) := by rw [← Kh]; exact bs Jc g6 66 _
 have Qm := ak (Qn.out.grown Be (fun k hk e => by have := hk.2; have := wh.out; have := Option.some.inj e; omega) (fun e => ur.out (Option.some.inj e)))
 have Qa := ak (Qb.out.grown Be (fun e => EA.out (Option.some.inj e)))
 have Qs := ak (bD Qt.out Et.out (by decide) Be)
 have KV := ak (KW.out.grown Be KW.out.size (by intro k hk; cases hk; exact ED.out))
 have Qj := ak (Kd.F_grown Qk.out Be (fun k hk e => by have := hk.2; have := wh.out; have := Option.some.inj e; omega))
 have P6 := ak OS
 clear Kh OS Be Qn Qb Et KW Qt Qk TC GF
 go_at_call 74
 refine (H7.out _ _ _ _ Qm.out).mono ?_
 rintro e Lx ⟨rfl, Bf⟩
 have G4 := ak (Qa.out.below Bf)
 have KH := ak (P6.out.below Bf)
 have xi := ak (KV.out.trans (Bf.mono KV.out.size))
 have KP := ak (Kd.R_below Qs.out Bf)
 have KK := ak (Kd.F_below Qj.out Bf)
 clear Bf Qm Qa P6 KV Qs Qj H0 H1 H2 H3 H4 H5 H6 H7
 cases rdn with
 | false =>
  obtain rfl : rok = false := by rw [HOK.out]; rfl
  go_wp2_with (first
   | (refine fE rfl 57 #[] rfl a6 kZ ?_)
   | (refine aK rfl 57 (.tmp 2) (.tmp 45) rfl g2 a6 rfl rfl 57 _ G4.out 68 (by kernel_rfl) rfl rfl ij ?_; intro PW yj vE))
  exact bodyPost_ret (eX rfl _ _ g2 57 _ (0, 0) _ rfl yj Try.underlying57 rfl (by simp only [List.size_toArray]; exact ch _ rfl)) rfl ⟨_, rfl, (mr _ 0).toV, xi.out.grown vE xi.out.size (by intro k hk; cases hk; exact mz.out)⟩
 | true =>
  by_cases wO : n0 = 66
  ·subst wO
   cases hrt : dC rbk with
   | false =>
    have HRT := ak hrt
    obtain rfl : rok = false := by rw [HOK.out, hrt]; rfl
    clear hrt
    obtain rfl := HBK.out
    have hv : iz Lx (.agg (aU (n1 : Int) aff SL (.slice AP L6.length qq) (.slice A9 L3.length c9)).toArray) ⟨(n1 : Int), aff, SL, L6, L3⟩ := by
     obtain ⟨A', c', hq, hcc, hC⟩ := Kd.R_reads KP.out
     cases hq
     exact ⟨AP, qq, A9, c9, rfl, HSL.out, KK.out Lx (fun _ _ _ => rfl), KU.out, hC, hcc⟩
    have HV := ak hv
    clear hv
    go_wp2_with (first
     | ((with_reducible refine av (N := 41) rfl ?_); refine eK (by rfl) ?_; refine az rfl 57 (.tmp 6) rfl g6 rfl _ _ _ KH.out Try.underlying57 rfl 68 (by kernel_rfl) (ah _ _ _ _ _ HSL.out) ?_)
     | (go_at_call 48; refine (ee _ HBO.out _ _ HV.out).mono ?_; rintro e XZ ⟨rfl, uj⟩; rw [HRT.out]; have G3 := ak (G4.out.below uj); have EG := ak (xi.out.trans (uj.mono xi.out.size)); clear uj)
     | (refine fE rfl 57 #[] rfl a6 kZ ?_)
     | (refine aK rfl 57 (.tmp 2) (.tmp 45) rfl g2 a6 rfl rfl 57 _ G3.out 68 (by kernel_rfl) rfl rfl ij ?_; intro PW yj vE))
    exact bodyPost_ret (eX rfl _ _ g2 57 _ (0, 0) _ rfl yj Try.underlying57 rfl (by simp only [List.size_toArray]; exact ch _ rfl)) rfl ⟨_, rfl, (mr _ 0).toV, EG.out.grown vE EG.out.size (by intro k hk; cases hk; exact mz.out)⟩
   | true =>
    have HRT := ak hrt
    obtain rfl : rok = true := by rw [HOK.out, hrt]; rfl
    clear hrt
    obtain rfl := HBK.out
    have hv : iz Lx (.agg (aU (n1 : Int) aff SL (.slice AP L6.length qq) (.slice A9 L3.length c9)).toArray) ⟨(n1 : Int), aff, SL, L6, L3⟩ := by
     obtain ⟨A', c', hq, hcc, hC⟩ := Kd.R_reads KP.out
     cases hq
     exact ⟨AP, qq, A9, c9, rfl, HSL.out, KK.out Lx (fun _ _ _ => rfl), KU.out, hC, hcc⟩
    have HV := ak hv
    clear hv
    go_wp2_with (first
     | ((with_reducible refine av (N := 41) rfl ?_); refine eK (by rfl) ?_; refine az rfl 57 (.tmp 6) rfl g6 rfl _ _ _ KH.out Try.underlying57 rfl 68 (by kernel_rfl) (ah _ _ _ _ _ HSL.out) ?_)
     | (go_at_call 48; refine (ee _ HBO.out _ _ HV.out).mono ?_; rintro e XZ ⟨rfl, uj⟩; rw [HRT.out]; have G3 := ak (G4.out.below uj); have TY := ak (KH.out.below uj); have Qr := ak (Kd.R_below KP.out uj); have TZ := ak (Kd.F_below KK.out uj); have EG := ak (xi.out.trans (uj.mono xi.out.size)); clear uj)
     | (refine az rfl 57 (.tmp 6) rfl g6 rfl _ _ _ TY.out Try.underlying57 rfl 68 (by kernel_rfl) (ah _ _ _ _ _ HSL.out) ?_)
     | (refine aK rfl 57 (.tmp 2) (.tmp 46) rfl g2 (aU (n1 : Int) aff SL (.slice AP L6.length qq) (.slice A9 L3.length c9)) rfl rfl 57 _ G3.out 68 (by kernel_rfl) (ah _ _ _ _ _ HSL.out) rfl (b7 _ _ _ _ _ rfl rfl) ?_; intro PW yj vE))
    refine bodyPost_ret (eX rfl _ _ g2 57 _ (0, 0) _ rfl yj Try.underlying57 rfl (by simp only [List.size_toArray]; exact ch _ (ah _ _ _ _ _ HSL.out))) rfl ⟨_, rfl, ⟨AP, qq, A9, c9, rfl, HSL.out, ?_, KU.out, ?_, ?_⟩, EG.out.grown vE EG.out.size (by intro k hk; cases hk; exact mz.out)⟩
    ·exact Kd.F_grown TZ.out vE (fun k hk e => by have := hk.1.1; have := HGL.out; have := Option.some.inj e; omega) _ (fun _ _ _ => rfl)
    ·obtain ⟨A', c', hq, hcc, hC⟩ := Kd.R_reads (bD Qr.out G3.out (by decide) vE)
     cases hq
     exact hC
    ·obtain ⟨A', c', hq, hcc, hC⟩ := Kd.R_reads Qr.out
     cases hq
     exact hcc
  ·obtain rfl : rok = false := by rw [HOK.out, decide_eq_false wO]; rfl
   have bq : ((n0 : Int) == 66) = false := by rw [beq_eq_false_iff_ne]; omega
   have dD : ((n0 : Int) != 66) = true := by rw [bne, bq]; rfl
   have gB : (n0 == 66) = false := by rw [beq_eq_false_iff_ne]; exact wO
   go_wp2_with (first
    | (refine fE rfl 57 #[] rfl a6 kZ ?_)
    | (refine aK rfl 57 (.tmp 2) (.tmp 45) rfl g2 a6 rfl rfl 57 _ G4.out 68 (by kernel_rfl) rfl rfl ij ?_; intro PW yj vE))
   exact bodyPost_ret (eX rfl _ _ g2 57 _ (0, 0) _ rfl yj Try.underlying57 rfl (by simp only [List.size_toArray]; exact ch _ rfl)) rfl ⟨_, rfl, (mr _ 0).toV, xi.out.grown vE xi.out.size (by intro k hk; cases hk; exact mz.out)⟩
end Go.Proofs.Ytemhalnhbgkbcaa.V
end

section
namespace Go.Proofs.Ytemhalnhbgkbcaa.V
attribute [local go_sem] ea dY eB ez dq dp dZ dX
attribute [local go_sem high] GL
def eM.l0 : Nat → List (S85) → List (S85) → Int → Int → Option (Bool)
 | 0, _, _, _, _ => none
 | k + 1, x0, x1, xG, lQ => if lQ < xG then (if 0 ≤ lQ then (if lQ < (x0.length : Int) then (if lQ < (x1.length : Int) then (if (!((((cI x0 lQ).f0).toList) == (((cI x1 lQ).f0).toList)) || (!((((cI x0 lQ).f1).toList) == (((cI x1 lQ).f1).toList)))) = true then (some false) else (eM.l0 k x0 x1 xG (wrap64 (lQ + 1)))) else (none)) else (none)) else (none)) else (some true)
def eM.f (k : Nat) (l0 : List (S85)) (l1 : List (S85)) : Option (Bool) := if (l0.length : Int) = (l1.length : Int) then (eM.l0 k l0 l1 (l0.length : Int) 0) else (some false)
set_option maxHeartbeats 8000000 in
set_option maxRecDepth 100000 in
theorem eM.calls (k : Nat) (A0 : Option Addr) (c0 : Nat) (l0 : List (S85)) (A1 : Option Addr) (c1 : Nat) (l1 : List (S85)) (r : Bool) (w : World) (lR : Kd.C ju w A0 l0.length l0) (iR : l0.length ≤ c0) (nK : Kd.C ju w A1 l1.length l1) (sg : l1.length ≤ c1) (h : eM.f k l0 l1 = some r) :
  Calls Try.prog 78 #[.slice A0 l0.length c0, .slice A1 l1.length c1] w fun e w' => e = .returned (.bool r) ∧ Drawn0 w w' := by
 have J4 := Try.underlying85
 have oH := ak lR
 have xZ := ak iR
 clear lR iR
 have mU := ak nK
 have Gh := ak sg
 clear nK sg
 have H : (if (l0.length : Int) = (l1.length : Int) then (eM.l0 k l0 l1 (l0.length : Int) 0) else (some false)) = some r := h
 clear h
 by_cases c3 : (l0.length : Int) = (l1.length : Int)
 ·rw [if_pos c3] at H
  have ny : ((l0.length : Int) == (l1.length : Int)) = true := beq_iff_eq.mpr c3
  have yq : ((l0.length : Int) != (l1.length : Int)) = false := bne_eq_false_iff_eq.mpr c3
  have D3 : (l0.length == l1.length) = true := by first | simpa using c3 | (simp at c3 ⊢; omega)
  clear c3
  have H' := ak H
  clear H
  go_enter Try.func78, Try.ntmps78
  go_wp2
  repeat (go_quiet (fail); try go_wp2)
  go_loopg [13] k (fun kq Fp w' => ∃ (bh : Int), Fp = .int .i64 bh ∧ Aside0 (eM.l0 kq l0 l1 (l0.length : Int) bh = some r) ∧ Aside0 (kq ≤ k) ∧ Drawn0 w w')
  case atStart => exact ⟨(0), (by first | rfl | (simp; done) | (simp [*]; done)), H', ⟨Nat.le_refl _⟩, by repeat (first | exact Drawn0.refl _ | apply Drawn0.step)⟩
  case round =>
   clear H'
   obtain ⟨bh, rfl, HA, du, ⟨m1, rfl⟩⟩ := hrel
   cases gk with
   | zero => exact absurd HA.out (by simp [eM.l0])
   | succ k1 =>
    have H := HA.out
    clear HA
    simp only [eM.l0] at H
    by_cases c4 : bh < (l0.length : Int)
    ·rw [if_pos c4] at H
     have oS : decide (bh < (l0.length : Int)) = true := decide_eq_true c4
     clear c4
     by_cases c5 : 0 ≤ bh
     ·rw [if_pos c5] at H
      have yp : decide (0 ≤ bh) = true := decide_eq_true c5
      clear c5
      by_cases c6 : bh < (l0.length : Int)
      ·rw [if_pos c6] at H
       have nW : decide (bh < (l0.length : Int)) = true := decide_eq_true c6
       clear c6
       by_cases c7 : bh < (l1.length : Int)
       ·rw [if_pos c7] at H
        have mi : decide (bh < (l1.length : Int)) = true := decide_eq_true c7
        clear c7
        by_cases c8 : (!((((cI l0 bh).f0).toList) == (((cI l1 bh).f0).toList)) || (!((((cI l0 bh).f1).toList) == (((cI l1 bh).f1).toList)))) = true
        ·rw [if_pos c8] at H
         have sj : (!((((cI l0 bh).f0).toList) == (((cI l1 bh).f0).toList)) || (!((((cI l0 bh).f1).toList) == (((cI l1 bh).f1).toList)))) = true := c8
         clear c8
         obtain rfl := Option.some.inj H
         have rQ : 0 ≤ (bh : Int) := of_decide_eq_true (by first | (with_reducible assumption) | assumption)
         have rH : bh < (l0.length : Int) := of_decide_eq_true (by first | (with_reducible assumption) | assumption)
         obtain ⟨NN, DO, Iu, It⟩ := l7 oH.out bh rQ rH
         cases DO
         replace rQ := eq_true rQ
         replace rH := eq_true rH
         have rP : 0 ≤ (bh : Int) := of_decide_eq_true (by first | (with_reducible assumption) | assumption)
         have rG : bh < (l1.length : Int) := of_decide_eq_true (by first | (with_reducible assumption) | assumption)
         obtain ⟨NL, DN, Is, Ir⟩ := l7 mU.out bh rP rG
         cases DN
         replace rP := eq_true rP
         replace rG := eq_true rG
         go_wp2
         repeat (go_quiet (fail); try go_wp2)
         go_ret
         exact ⟨by first | rfl | (simp; done) | (simp [*]; done), by repeat (first | exact Drawn0.refl _ | apply Drawn0.step)⟩
        ·rw [if_neg c8] at H
         have sj : (!((((cI l0 bh).f0).toList) == (((cI l1 bh).f0).toList)) || (!((((cI l0 bh).f1).toList) == (((cI l1 bh).f1).toList)))) = false := by simpa using c8
         clear c8
         have H' := ak H
         clear H
         have rQ : 0 ≤ (bh : Int) := of_decide_eq_true (by first | (with_reducible assumption) | assumption)
         have rH : bh < (l0.length : Int) := of_decide_eq_true (by first | (with_reducible assumption) | assumption)
         obtain ⟨NN, DO, Iu, It⟩ := l7 oH.out bh rQ rH
         cases DO
         replace rQ := eq_true rQ
         replace rH := eq_true rH
         have rP : 0 ≤ (bh : Int) := of_decide_eq_true (by first | (with_reducible assumption) | assumption)
         have rG : bh < (l1.length : Int) := of_decide_eq_true (by first | (with_reducible assumption) | assumption)
         obtain ⟨NL, DN, Is, Ir⟩ := l7 mU.out bh rP rG
         cases DN
         replace rP := eq_true rP
         replace rG := eq_true rG
         go_wp2
         repeat (go_quiet (fail); try go_wp2)
         go_roundg k1
         case measure => have := du.out; omega
         case rel => exact ⟨(wrap64 (bh + 1)), (by first | rfl | (simp; done) | (simp [*]; done)), H', ⟨by have := du.out; omega⟩, by repeat (first | exact Drawn0.refl _ | apply Drawn0.step)⟩
       ·rw [if_neg c7] at H
        exact absurd H (by simp)
      ·rw [if_neg c6] at H
       exact absurd H (by simp)
     ·rw [if_neg c5] at H
      exact absurd H (by simp)
    ·rw [if_neg c4] at H
     have oS : decide (bh < (l0.length : Int)) = false := decide_eq_false c4
     clear c4
     obtain rfl := Option.some.inj H
     go_wp2
     repeat (go_quiet (fail); try go_wp2)
     go_ret
     exact ⟨by first | rfl | (simp; done) | (simp [*]; done), by repeat (first | exact Drawn0.refl _ | apply Drawn0.step)⟩
 ·rw [if_neg c3] at H
  have ny : ((l0.length : Int) == (l1.length : Int)) = false := beq_eq_false_iff_ne.mpr c3
  have yq : ((l0.length : Int) != (l1.length : Int)) = true := bne_iff_ne.mpr c3
  have D3 : (l0.length == l1.length) = false := by first | simpa using c3 | (simp at c3 ⊢; omega)
  obtain rfl := Option.some.inj H
  go_enter Try.func78, Try.ntmps78
  go_wp2
  repeat (go_quiet (fail); try go_wp2)
  go_ret
  exact ⟨by first | rfl | (simp; done) | (simp [*]; done), by repeat (first | exact Drawn0.refl _ | apply Drawn0.step)⟩
end Go.Proofs.Ytemhalnhbgkbcaa.V
end

section
namespace Go.Proofs.Ytemhalnhbgkbcaa.V
attribute [local go_sem] ea dY eB ez dq dp dZ dX
def b8.l0 : Nat → List Int → List Int → Int → Int → Option (Bool)
 | 0, _, _, _, _ => none
 | k + 1, x0, x1, xG, lQ => if lQ < xG then (if 0 ≤ lQ then (if lQ < (x0.length : Int) then (if lQ < (x1.length : Int) then (if (rd x0 lQ) = (rd x1 lQ) then (b8.l0 k x0 x1 xG (wrap64 (lQ + 1))) else (some false)) else (none)) else (none)) else (none)) else (some true)
def b8.f (k : Nat) (l0 : List Int) (l1 : List Int) : Option (Bool) := if (l0.length : Int) = (l1.length : Int) then (b8.l0 k l0 l1 (l0.length : Int) 0) else (some false)
set_option maxHeartbeats 8000000 in
set_option maxRecDepth 100000 in
theorem b8.calls (k : Nat) (A0 : Option Addr) (c0 : Nat) (l0 : List Int) (A1 : Option Addr) (c1 : Nat) (l1 : List Int) (r : Bool) (w : World) (lR : Kd.C (Kd.int .u8) w A0 l0.length l0) (iR : l0.length ≤ c0) (nK : Kd.C (Kd.int .u8) w A1 l1.length l1) (sg : l1.length ≤ c1) (h : b8.f k l0 l1 = some r) :
  Calls Try.prog 77 #[.slice A0 l0.length c0, .slice A1 l1.length c1] w fun e w' => e = .returned (.bool r) ∧ Drawn0 w w' := by
 have oH := ak lR
 have xZ := ak iR
 clear lR iR
 have mU := ak nK
 have Gh := ak sg
 clear nK sg
 have H : (if (l0.length : Int) = (l1.length : Int) then (b8.l0 k l0 l1 (l0.length : Int) 0) else (some false)) = some r := h
 clear h
 by_cases c3 : (l0.length : Int) = (l1.length : Int)
 ·rw [if_pos c3] at H
  have ny : ((l0.length : Int) == (l1.length : Int)) = true := beq_iff_eq.mpr c3
  have yq : ((l0.length : Int) != (l1.length : Int)) = false := bne_eq_false_iff_eq.mpr c3
  have D3 : (l0.length == l1.length) = true := by first | simpa using c3 | (simp at c3 ⊢; omega)
  clear c3
  have H' := ak H
  clear H
  go_enter Try.func77, Try.ntmps77
  go_wp2
  repeat (go_quiet (fail); try go_wp2)
  go_loopg [13] k (fun kq Fp w' => ∃ (bh : Int), Fp = .int .i64 bh ∧ Aside0 (b8.l0 kq l0 l1 (l0.length : Int) bh = some r) ∧ Aside0 (kq ≤ k) ∧ Drawn0 w w')
  case atStart => exact ⟨(0), (by first | rfl | (simp; done) | (simp [*]; done)), H', ⟨Nat.le_refl _⟩, by repeat (first | exact Drawn0.refl _ | apply Drawn0.step)⟩
  case round =>
   clear H'
   obtain ⟨bh, rfl, HA, du, ⟨m1, rfl⟩⟩ := hrel
   cases gk with
   | zero => exact absurd HA.out (by simp [b8.l0])
   | succ k1 =>
    have H := HA.out
    clear HA
    simp only [b8.l0] at H
    by_cases c4 : bh < (l0.length : Int)
    ·rw [if_pos c4] at H
     have oS : decide (bh < (l0.length : Int)) = true := decide_eq_true c4
     clear c4
     by_cases c5 : 0 ≤ bh
     ·rw [if_pos c5] at H
      have yp : decide (0 ≤ bh) = true := decide_eq_true c5
      clear c5
      by_cases c6 : bh < (l0.length : Int)
      ·rw [if_pos c6] at H
       have nW : decide (bh < (l0.length : Int)) = true := decide_eq_true c6
       clear c6
       by_cases c7 : bh < (l1.length : Int)
       ·rw [if_pos c7] at H
        have mi : decide (bh < (l1.length : Int)) = true := decide_eq_true c7
        clear c7
        by_cases c8 : (rd l0 bh) = (rd l1 bh)
        ·rw [if_pos c8] at H
         have sj : ((rd l0 bh) == (rd l1 bh)) = true := beq_iff_eq.mpr c8
         have DZ : ((rd l0 bh) != (rd l1 bh)) = false := bne_eq_false_iff_eq.mpr c8
         clear c8
         have H' := ak H
         clear H
         have rS : 0 ≤ (bh : Int) := of_decide_eq_true (by first | (with_reducible assumption) | assumption)
         have rJ : bh < (l0.length : Int) := of_decide_eq_true (by first | (with_reducible assumption) | assumption)
         obtain ⟨NP, DQ, Iw⟩ := Kd.at_int oH.out bh rS rJ
         cases DQ
         replace rS := eq_true rS
         replace rJ := eq_true rJ
         have rR : 0 ≤ (bh : Int) := of_decide_eq_true (by first | (with_reducible assumption) | assumption)
         have rI : bh < (l1.length : Int) := of_decide_eq_true (by first | (with_reducible assumption) | assumption)
         obtain ⟨NO, DP, Iv⟩ := Kd.at_int mU.out bh rR rI
         cases DP
         replace rR := eq_true rR
         replace rI := eq_true rI
         go_wp2
         repeat (go_quiet (fail); try go_wp2)
         go_roundg k1
         case measure => have := du.out; omega
         case rel => exact ⟨(wrap64 (bh + 1)), (by first | rfl | (simp; done) | (simp [*]; done)), H', ⟨by have := du.out; omega⟩, by repeat (first | exact Drawn0.refl _ | apply Drawn0.step)⟩
        ·rw [if_neg c8] at H
         have sj : ((rd l0 bh) == (rd l1 bh)) = false := beq_eq_false_iff_ne.mpr c8
         have DZ : ((rd l0 bh) != (rd l1 bh)) = true := bne_iff_ne.mpr c8
         obtain rfl := Option.some.inj H
         have rS : 0 ≤ (bh : Int) := of_decide_eq_true (by first | (with_reducible assumption) | assumption)
         have rJ : bh < (l0.length : Int) := of_decide_eq_true (by first | (with_reducible assumption) | assumption)
         obtain ⟨NP, DQ, Iw⟩ := Kd.at_int oH.out bh rS rJ
         cases DQ
         replace rS := eq_true rS
         replace rJ := eq_true rJ
         have rR : 0 ≤ (bh : Int) := of_decide_eq_true (by first | (with_reducible assumption) | assumption)
         have rI : bh < (l1.length : Int) := of_decide_eq_true (by first | (with_reducible assumption) | assumption)
         obtain ⟨NO, DP, Iv⟩ := Kd.at_int mU.out bh rR rI
         cases DP
         replace rR := eq_true rR
         replace rI := eq_true rI
         go_wp2
         repeat (go_quiet (fail); try go_wp2)
         go_ret
         exact ⟨by first | rfl | (simp; done) | (simp [*]; done), by repeat (first | exact Drawn0.refl _ | apply Drawn0.step)⟩
       ·rw [if_neg c7] at H
        exact absurd H (by simp)
      ·rw [if_neg c6] at H
       exact absurd H (by simp)
     ·rw [if_neg c5] at H
      exact absurd H (by simp)
    ·rw [if_neg c4] at H
     have oS : decide (bh < (l0.length : Int)) = false := decide_eq_false c4
     clear c4
     obtain rfl := Option.some.inj H
     go_wp2
     repeat (go_quiet (fail); try go_wp2)
     go_ret
     exact ⟨by first | rfl | (simp; done) | (simp [*]; done), by repeat (first | exact Drawn0.refl _ | apply Drawn0.step)⟩
 ·rw [if_neg c3] at H
  have ny : ((l0.length : Int) == (l1.length : Int)) = false := beq_eq_false_iff_ne.mpr c3
  have yq : ((l0.length : Int) != (l1.length : Int)) = true := bne_iff_ne.mpr c3
  have D3 : (l0.length == l1.length) = false := by first | simpa using c3 | (simp at c3 ⊢; omega)
  obtain rfl := Option.some.inj H
  go_enter Try.func77, Try.ntmps77
  go_wp2
  repeat (go_quiet (fail); try go_wp2)
  go_ret
  exact ⟨by first | rfl | (simp; done) | (simp [*]; done), by repeat (first | exact Drawn0.refl _ | apply Drawn0.step)⟩
end Go.Proofs.Ytemhalnhbgkbcaa.V
end

section
namespace Go.Proofs.Ytemhalnhbgkbcaa.V
theorem Ri (l : List Int) (hl : l.length ≤ 1000) : b8.f (l.length + 5) l l = some true := by
 have key : ∀ (d i k : Nat), i + d = l.length → d < k → b8.l0 k l l (l.length : Int) (i : Int) = some true := by
  intro d
  induction d with
  | zero =>
   intro i k hi hk
   obtain ⟨k, rfl⟩ : ∃ m, k = m + 1 := ⟨k - 1, by omega⟩
   rw [b8.l0, if_neg (by omega)]
  | succ d ih =>
   intro i k hi hk
   obtain ⟨k, rfl⟩ : ∃ m, k = m + 1 := ⟨k - 1, by omega⟩
   have e := ih (i + 1) k (by omega) (by omega)
   rw [b8.l0]
   simp only [show (i : Int) < (l.length : Int) by omega, show (0 : Int) ≤ (i : Int) by omega, if_true]
   rw [ik ((i : Int) + 1) (by omega) (by omega), show (i : Int) + 1 = ((i + 1 : Nat) : Int) by omega]
   simpa using e
 unfold b8.f
 rw [if_pos rfl]
 exact key l.length 0 _ (by omega) (by omega)
theorem Rh (l : List At) (hl : l.length ≤ 1000) : eM.f (l.length + 5) l l = some true := by
 have key : ∀ (d i k : Nat), i + d = l.length → d < k → eM.l0 k l l (l.length : Int) (i : Int) = some true := by
  intro d
  induction d with
  | zero =>
   intro i k hi hk
   obtain ⟨k, rfl⟩ : ∃ m, k = m + 1 := ⟨k - 1, by omega⟩
   rw [eM.l0, if_neg (by omega)]
  | succ d ih =>
   intro i k hi hk
   obtain ⟨k, rfl⟩ : ∃ m, k = m + 1 := ⟨k - 1, by omega⟩
   have e := ih (i + 1) k (by omega) (by omega)
   rw [eM.l0]
   simp only [show (i : Int) < (l.length : Int) by omega, show (0 : Int) ≤ (i : Int) by omega, if_true]
   rw [ik ((i : Int) + 1) (by omega) (by omega), show (i : Int) + 1 = ((i + 1 : Nat) : Int) by omega]
   simpa using e
 unfold eM.f
 rw [if_pos rfl]
 exact key l.length 0 _ (by omega) (by omega)
set_option maxHeartbeats 4000000 in
set_option maxRecDepth 100000 in
theorem CR (b : Bk) (hfl : b.free.length ≤ 1000) (hal : b.attrs.length ≤ 1000) (v v' : Value) (w : World) (h : iz w v b) (h' : iz w v' b) :
  Calls Try.prog 40 #[v, v'] w fun e w' => e = .returned (.bool true) ∧ Below w.heap.size w w' := by
 obtain ⟨A, c, A', c', rfl, hr⟩ := h
 obtain ⟨B, d, B', d', rfl, hq⟩ := h'
 have HL := ak hr.l64
 have HR := ak hr
 have HQ := ak hq
 have Yj := ak (Ri b.free hfl)
 have HEA := ak (Rh b.attrs hal)
 have HLN := ak (show (Try.prog.info? 47).map (·.size) = some (b.slots.map (Value.int .u8)).length by rw [List.length_map, hr.l64]; kernel_rfl)
 have hEq := fun (d : Nat) (w : World) => yd (P := Try.prog) w .u8 d 47 5 64 Try.underlying47 Try.underlying5 K8 b.slots b.slots hr.l64 hr.l64
 simp only [beq_self_eq_true] at hEq
 clear hr hq hfl hal
 go_enter Try.func40, Try.ntmps40
 go_wp2_with (first
  | (refine aD rfl 57 (.tmp 0) rfl _ rfl ?_; intro g W1 hg hbx bq; have g8 := ak hbx; have bP := ak bq; clear hbx bq hg)
  | (refine aD rfl 57 (.tmp 1) rfl _ rfl ?_; intro g' W2 hg' hbx' dD; have fv := ak (g8.out.below dD); have u9 := ak hbx'; have gl := ak (bP.out.trans (dD.mono bP.out.size)); have h0 := fv.out.cell 0 _ rfl; have Zs := u9.out.cell 0 _ rfl; have h1 := fv.out.cell 1 _ rfl; have Zr := u9.out.cell 1 _ rfl; have wO := fv.out.cell 66 _ (fI _ _ _ _ _ HL.out); have Pu := u9.out.cell 66 _ (fI _ _ _ _ _ HL.out); clear hbx' dD hg' g8 bP)
  | ((with_reducible refine av (N := 19) rfl ?_); refine eK (by rfl) ?_; refine fH rfl 47 (.tmp 18) rfl g 2 rfl 57 _ (b.slots.map (Value.int .u8)) (.array 64 5) fv.out (mO _ _ _ _ _ HL.out) Try.underlying47 rfl HLN.out ?_)
  | ((with_reducible refine av (N := 21) rfl ?_); refine eK (by rfl) ?_; refine fH rfl 47 (.tmp 20) rfl g' 2 rfl 57 _ (b.slots.map (Value.int .u8)) (.array 64 5) u9.out (mO _ _ _ _ _ HL.out) Try.underlying47 rfl HLN.out ?_)
  | (go_at_call 77; refine (b8.calls _ A c b.free B d b.free true _ (HR.out.below gl.out).fr HR.out.fc (HQ.out.below gl.out).fr HQ.out.fc Yj.out).mono ?_; rintro e W3 ⟨rfl, ⟨n3, rfl⟩⟩; have pL := (fv.out.below (ab (Below.refl _ _) n3)).cell 67 _ (ft _ _ _ _ _ HL.out); have Y4 := (u9.out.below (ab (Below.refl _ _) n3)).cell 67 _ (ft _ _ _ _ _ HL.out); have fO := ak (ab gl.out n3))
  | (go_at_call 78; refine (eM.calls _ A' c' b.attrs B' d' b.attrs true _ (HR.out.below fO.out).ar HR.out.ac (HQ.out.below fO.out).ar HQ.out.ac HEA.out).mono ?_; rintro e W4 ⟨rfl, ⟨n4, rfl⟩⟩; have gK := ak (ab fO.out n4)))
 go_ret
 exact ⟨rfl, by apply ab; exact gl.out⟩
end Go.Proofs.Ytemhalnhbgkbcaa.V
end

section
namespace Go.Proofs.Ytemhalnhbgkbcaa.V
attribute [local go_sem] ea dY eB ez dq dp dZ dX
mutual
def bH.j0 : Nat → Int → Int → Bool → Option (List Int)
 | 0, _, _, _ => none
 | k + 1, x0, x1, xG => if xG = true then (some ([] : List Int)) else (if 0 ≤ x1 then (if (x1 : Int).toNat ≤ 281474976710656 then (bH.l0 k x0 (List.replicate (x1 : Int).toNat 0) (wrap64 (x1 - 1))) else (none)) else (none))
def bH.l0 : Nat → Int → List Int → Int → Option (List Int)
 | 0, _, _, _ => none
 | k + 1, x0, x5, x6 => if x6 ≥ 0 then (if 0 ≤ x6 then (if x6 < (x5.length : Int) then (bH.l0 k (IntKind.u64.wrap (Int.tdiv x0 256)) (x5.set (x6 : Int).toNat ((Int.tmod x0 256) % 256)) (wrap64 (x6 - 1))) else (none)) else (none)) else (some x5)
end
def bH.f (k : Nat) (a0 : Int) (a1 : Int) : Option (List Int) := if a1 < 1 then (bH.j0 k a0 a1 true) else (bH.j0 k a0 a1 (decide (a1 > 8)))
set_option maxHeartbeats 8000000 in
set_option maxRecDepth 100000 in
theorem bH.calls (k : Nat) (a0 : Int) (a1 : Int) (r : List Int) (w : World) (h : bH.f k a0 a1 = some r) :
  Calls Try.prog 75 #[.int .u64 a0, .int .i64 a1] w fun e w' => ∃ qh : Value, e = .returned (qh) ∧ Kd.R (Kd.int .u8) 5 w' w.heap.size (fun _ => True) qh r ∧ Below w.heap.size w w' := by
 have HB := ak (Below.refl w.heap.size w)
 have H : (if a1 < 1 then (bH.j0 k a0 a1 true) else (bH.j0 k a0 a1 (decide (a1 > 8)))) = some r := h
 clear h
 have QP := ak H
 clear H
 go_enter Try.func75, Try.ntmps75
 go_upto_region 1 with (fail)
 go_cut [12] (fun SA wc => ∃ (kq : Nat) (Cq : Bool), SA = .bool Cq ∧ Aside0 (bH.j0 kq a0 a1 Cq = some r) ∧ Aside0 (kq ≤ k) ∧ Aside0 (Below w.heap.size w wc))
 case first =>
  have H := QP.out
  clear QP
  by_cases c4 : a1 < 1
  ·rw [if_pos c4] at H
   have oS : decide (a1 < 1) = true := decide_eq_true c4
   clear c4
   (first | rw [oS] | (simp only [kB, lr]; rw [oS]) | skip)
   have H' := ak H
   clear H
   go_wp2
   go_meet
   case rel => exact ⟨_, (true), (by first | rfl | (simp; done) | (simp [*]; done)), H', ⟨by first | omega | exact Nat.le_refl _⟩, ⟨by repeat (first | (with_reducible first | exact HB.out | apply af | apply ab | apply ai) | exact HB.out)⟩⟩
  ·rw [if_neg c4] at H
   have oS : decide (a1 < 1) = false := decide_eq_false c4
   clear c4
   (first | rw [oS] | (simp only [kB, lr]; rw [oS]) | skip)
   have H' := ak H
   clear H
   go_wp2
   go_meet
   case rel => exact ⟨_, (decide (a1 > 8)), (by first | rfl | (simp; done) | (simp [*]; done)), H', ⟨by first | omega | exact Nat.le_refl _⟩, ⟨by repeat (first | (with_reducible first | exact HB.out | apply af | apply ab | apply ai) | exact HB.out)⟩⟩
 case rest =>
  clear QP
  obtain ⟨kq, Cq, rfl, HA, xc, HB⟩ := hcut
  cases kq with
  | zero => exact absurd HA.out (by simp [bH.j0])
  | succ Lc =>
   have H := HA.out
   clear HA
   simp only [bH.j0] at H
   by_cases c5 : Cq = true
   ·subst c5
    have H1 : (some ([] : List Int)) = some r := by rw [if_pos rfl] at H; exact H
    clear H
    have H := H1
    clear H1
    obtain rfl := Option.some.inj H
    go_wp2
    go_ret
    exact ⟨_, by first | rfl | (simp [bz, bx] <;> rfl) | (simp [*, bz, bx] <;> rfl), by first | exact Kd.R_nil _ _ _ _ _ | exact Kd.N_nil _ _ _ _ _ | exact Kd.V_nil _ _ _ _ _ | exact Kd.Q_nil _ _ _ _ _ | exact Kd.S_nil _ _ _ _ _, by repeat (first | (with_reducible first | exact HB.out | apply af | apply ab | apply ai) | exact HB.out)⟩
   ·replace c5 := Bool.eq_false_iff.mpr c5
    subst c5
    have H1 : (if 0 ≤ a1 then (if (a1 : Int).toNat ≤ 281474976710656 then (bH.l0 Lc a0 (List.replicate (a1 : Int).toNat 0) (wrap64 (a1 - 1))) else (none)) else (none)) = some r := by rw [if_neg (show ¬ (false = true) by decide)] at H; exact H
    clear H
    have H := H1
    clear H1
    by_cases c6 : 0 ≤ a1
    ·rw [if_pos c6] at H
     have nW := eq_true c6
     have PL : decide (0 ≤ a1) = true := decide_eq_true c6
     clear c6
     by_cases c7 : (a1 : Int).toNat ≤ 281474976710656
     ·rw [if_pos c7] at H
      have mi := eq_true c7
      have PK : decide ((a1 : Int).toNat ≤ 281474976710656) = true := decide_eq_true c7
      clear c7
      obtain ⟨Hd, uU⟩ : ∃ y_ : List Int, y_ = (List.replicate (a1 : Int).toNat 0) := ⟨_, rfl⟩
      replace H : (bH.l0 Lc a0 Hd (wrap64 (a1 - 1))) = some r := by first | (rw [uU]; with_reducible exact H) | (have fL := (Option.bind_some _ _).symm.trans H; rw [uU]; with_reducible exact fL) | (have fL := (Option.bind_some _ _).symm.trans H; with_reducible exact fL) | with_reducible exact H | (rw [uU]; exact H) | exact H
      have F3 := ak uU
      clear uU
      have H' := ak H
      clear H
      go_wp2_with (first | ((with_reducible refine av (N := 14) rfl ?_); refine Kd.R_make (Kd.int .u8) _ 5 rfl (N := 14) rfl 48 _ _ rfl a1 rfl rfl Try.underlying48 (.int .u8 0) 1 Cs rfl (by decide) (by omega) 0 (ok := fun _ => True) (okp := fun _ => True) rfl (fun _ hk => hk) trivial (of_decide_eq_true (by first | (with_reducible assumption) | assumption)) (Nat.le_trans (Nat.mul_le_mul_right _ (of_decide_eq_true (by first | (with_reducible assumption) | assumption) : a1.toNat ≤ 281474976710656)) (by omega)) (Below.refl _ _) (Nat.le_refl _) ?_; intro Oq w8 eG hb J qU; clear J qU; (first | rw [← F3.out] at eG | (simp only [Int.reduceToNat] at eG; rw [← F3.out] at eG)); have bV := ak (Kd.R_lower eG (bf (by repeat (first | (with_reducible first | exact HB.out | apply af | apply ab | apply ai) | exact HB.out)))); have b4 := ak (bg (by repeat (first | (with_reducible first | exact HB.out | apply af | apply ab | apply ai) | exact HB.out)) hb); clear HB; have N7 := bV; have HB := b4; clear bV b4; clear hb eG))
      go_loopg [0, 6] Lc (fun kq v0 v6 w' => ∃ (wv : Int) (wo : List Int) (me : Int), v0 = .int .u64 wv ∧ v6 = .int .i64 me ∧ Aside0 (bH.l0 kq wv wo me = some r) ∧ Aside0 (kq ≤ Lc) ∧ Aside0 (Kd.R (Kd.int .u8) 5 w' w.heap.size (fun _ => True) Oq wo) ∧ Aside0 (Below w.heap.size w w'))
      case atStart => exact ⟨(a0), (Hd), (wrap64 (a1 - 1)), (by first | rfl | (simp; done) | (simp [*]; done)), (by first | rfl | (simp; done) | (simp [*]; done)), H', ⟨Nat.le_refl _⟩, ⟨by (with_reducible repeat (first | apply Kd.R_alloc | apply Kd.R_drewN | apply Kd.R_drew)); exact N7.out⟩, ⟨by repeat (first | (with_reducible first | exact HB.out | apply af | apply ab | apply ai) | exact HB.out)⟩⟩
      case round =>
       clear H'
       obtain ⟨wv, wo, me, rfl, rfl, HA, xb, qG, HB⟩ := hrel
       cases gk with
       | zero => exact absurd HA.out (by simp [bH.l0])
       | succ k2 =>
        have H := HA.out
        clear HA
        simp only [bH.l0] at H
        by_cases c10 : me ≥ 0
        ·rw [if_pos c10] at H
         have GV : decide (0 ≤ me) = true := decide_eq_true c10
         clear c10
         by_cases lE : 0 ≤ me
         ·rw [if_pos lE] at H
          have y5 : decide (0 ≤ me) = true := decide_eq_true lE
          clear lE
          by_cases oA : me < (wo.length : Int)
          ·rw [if_pos oA] at H
           have Cx : decide (me < (wo.length : Int)) = true := decide_eq_true oA
           clear oA
           obtain ⟨CB, uT⟩ : ∃ y_ : List Int, y_ = (wo.set (me : Int).toNat ((Int.tmod wv 256) % 256)) := ⟨_, rfl⟩
           replace H : (bH.l0 k2 (IntKind.u64.wrap (Int.tdiv wv 256)) CB (wrap64 (me - 1))) = some r := by first | (rw [uT]; with_reducible exact H) | (have fL := (Option.bind_some _ _).symm.trans H; rw [uT]; with_reducible exact fL) | (have fL := (Option.bind_some _ _).symm.trans H; with_reducible exact fL) | with_reducible exact H | (rw [uT]; exact H) | exact H
           have N1 := ak uT
           clear uT
           have H' := ak H
           clear H
           have OH : 0 ≤ (me : Int) := of_decide_eq_true (by first | (with_reducible assumption) | assumption)
           have OF : (me : Int) < ((wo.length : Int) : Int) := of_decide_eq_true (by first | (with_reducible assumption) | assumption)
           obtain ⟨Kj, um, GM, Pw, TK, Y5, QG⟩ := Kd.R_form qG.out (by omega)
           (first | cases GM | (injection GM with Lu XS XT; (first | subst Lu | (injection Lu with Lu; subst Lu)); subst XT; clear XS))
           have Ul := ak Pw
           have Y9 := ak QG
           clear Pw TK QG
           obtain ⟨WR, Xs⟩ := Kd.R_celln 0 qG.out (me : Int) OH OF
           replace OH := eq_true OH
           replace OF := eq_true OF
           have KO := Kd.R_putg qG.out (me : Int) ((Int.tmod wv 256) % 256)
           go_wp2_with (first | ((with_reducible refine GJ (t := 5) (p := 26) rfl ?_); refine ER (t := 5) (p := 26) (v := ?vo_w15) (w1 := (wr.setCell ⟨Kj, (me : Int).toNat, none⟩ (.int .u8 ((Int.tmod wv 256) % 256)))) ?hg ?ho ?hn ?hr ?_; (case ho => rfl); (case hg => rfl); (case hn => rfl); (case hr => first | (go_simp; done) | (go_simp; rfl)); intro yD hw; have hg : wr.grownBy yD (some Kj) := (by rw [hw]; exact KO.2); have SV : Kd.R (Kd.int .u8) 5 yD w.heap.size (fun _ => True) (.slice (some ⟨Kj, 0, none⟩) wo.length um) CB := (by rw [hw, N1.out]; exact KO.1); clear KO; have bV := ak (SV); have b4 := ak ((by rw [hw]; exact aN (HB.out) Ul.out : Below w.heap.size w yD)); clear qG; clear HB; have qG := bV; have HB := b4; clear bV b4; clear hg hw SV))
           go_roundg k2
           case measure => have := xc.out; have := xb.out; omega
           case rel => exact ⟨(IntKind.u64.wrap (Int.tdiv wv 256)), (CB), (wrap64 (me - 1)), (by first | rfl | (simp; done) | (simp [*]; done)), (by first | rfl | (simp; done) | (simp [*]; done)), H', ⟨by have := xc.out; have := xb.out; omega⟩, ⟨by (with_reducible repeat (first | apply Kd.R_alloc | apply Kd.R_drewN | apply Kd.R_drew)); exact qG.out⟩, ⟨by repeat (first | (with_reducible first | exact HB.out | apply af | apply ab | apply ai) | exact HB.out)⟩⟩
          ·rw [if_neg oA] at H
           exact absurd H (by simp)
         ·rw [if_neg lE] at H
          exact absurd H (by simp)
        ·rw [if_neg c10] at H
         have GV : decide (0 ≤ me) = false := decide_eq_false c10
         clear c10
         obtain rfl := Option.some.inj H
         go_wp2
         go_ret
         exact ⟨_, by first | rfl | (simp [bz, bx] <;> rfl) | (simp [*, bz, bx] <;> rfl), by (with_reducible repeat (first | apply Kd.R_alloc | apply Kd.R_drewN | apply Kd.R_drew)); exact qG.out, by repeat (first | (with_reducible first | exact HB.out | apply af | apply ab | apply ai) | exact HB.out)⟩
     ·rw [if_neg c7] at H
      exact absurd H (by simp)
    ·rw [if_neg c6] at H
     exact absurd H (by simp)
end Go.Proofs.Ytemhalnhbgkbcaa.V
end

section
namespace Go.Proofs.Ytemhalnhbgkbcaa.V
attribute [local go_sem] ea dY eB ez dq dp dZ dX
def fk.f (a0 : ByteArray) : Option (List Int) := (some (([((a0.size : Int)) % 256] : List Int) : List Int)).bind fun mC => (if mC.length + a0.size < 140737488355328 then (some (mC ++ bytesOf a0)) else (none))
set_option maxHeartbeats 8000000 in
set_option maxRecDepth 100000 in
theorem fk.calls (a0 : ByteArray) (r : List Int) (w : World) (h : fk.f a0 = some r) :
  Calls Try.prog 76 #[.string a0] w fun e w' => ∃ qh : Value, e = .returned (qh) ∧ Kd.R (Kd.int .u8) 5 w' w.heap.size (fun _ => True) qh r ∧ Below w.heap.size w w' := by
 have HB := ak (Below.refl w.heap.size w)
 have H : ((some (([((a0.size : Int)) % 256] : List Int) : List Int)).bind fun mC => (if mC.length + a0.size < 140737488355328 then (some (mC ++ bytesOf a0)) else (none))) = some r := h
 clear h
 obtain ⟨mC, uS⟩ : ∃ y_ : List Int, y_ = (([((a0.size : Int)) % 256] : List Int)) := ⟨_, rfl⟩
 replace H : (if mC.length + a0.size < 140737488355328 then (some (mC ++ bytesOf a0)) else (none)) = some r := by first | (rw [uS]; with_reducible exact H) | (have fL := (Option.bind_some _ _).symm.trans H; rw [uS]; with_reducible exact fL) | (have fL := (Option.bind_some _ _).symm.trans H; with_reducible exact fL) | with_reducible exact H | (rw [uS]; exact H) | exact H
 have F2 := ak uS
 clear uS
 by_cases c2 : mC.length + a0.size < 140737488355328
 ·rw [if_pos c2] at H
  have KG := ak c2
  clear c2
  obtain ⟨Hc, uR⟩ : ∃ y_ : List Int, y_ = (mC ++ bytesOf a0) := ⟨_, rfl⟩
  replace H : (some Hc) = some r := by first | (rw [uR]; with_reducible exact H) | (have fL := (Option.bind_some _ _).symm.trans H; rw [uR]; with_reducible exact fL) | (have fL := (Option.bind_some _ _).symm.trans H; with_reducible exact fL) | with_reducible exact H | (rw [uR]; exact H) | exact H
  have N0 := ak uR
  clear uR
  obtain rfl := Option.some.inj H
  go_enter Try.func76, Try.ntmps76
  go_wp2_with (first | ((with_reducible refine av (N := 6) rfl ?_); refine Kd.R_lit (Kd.int .u8) _ 5 ?hg (N := 6) ?hd (xs := ([((a0.size : Int)) % 256] : List Int)) (inner := [.int .u8 (((a0.size : Int)) % 256)]) (ok := fun _ => True) (okp := fun _ => True) ?hr ?hp (fun _ hk => hk) trivial (Below.refl _ _) (Nat.le_refl _) (by simp) ?_; (case hd => rfl); (case hg => rfl); (case hr => first | (go_simp; done) | (go_simp; rfl)); (case hp => exact (cP.one (show Kd.M (Kd.int .u8) _ _ _ (((a0.size : Int)) % 256) [.int .u8 (((a0.size : Int)) % 256)] from rfl) (cP.none _ _))); intro Oo w3 vZ hb J qU; clear J qU; (first | rw [← F2.out] at vZ | (simp only [Int.reduceToNat] at vZ; rw [← F2.out] at vZ)); have bV := ak (Kd.R_lower vZ (bf (by repeat (first | (with_reducible first | exact HB.out | apply af | apply ab | apply ai) | exact HB.out)))); have b4 := ak (bg (by repeat (first | (with_reducible first | exact HB.out | apply af | apply ab | apply ai) | exact HB.out)) hb); clear HB; have F9 := bV; have HB := b4; clear bV b4; clear hb vZ) | (at_builtin; refine rO (w0 := w) w.heap.size rfl (.tmp 6) _ 48 9 5 rfl Try.underlying48 Try.underlying9 Cs Oo mC a0 rfl rfl ?aO ?aB ?aS ?aL ?_; (case aB => exact (by repeat (first | (with_reducible first | exact HB.out | apply af | apply ab | apply ai) | exact HB.out))); (case aO => exact (Kd.own_of_R (by (with_reducible repeat (first | apply Kd.R_alloc | apply Kd.R_drewN | apply Kd.R_drew)); exact F9.out))); (case aS => exact (bf (by repeat (first | (with_reducible first | exact HB.out | apply af | apply ab | apply ai) | exact HB.out)))); (case aL => have := KG.out; omega); intro On w5 sW hb hg; have ho := Kd.R_of_own (h1 := fun _ => rfl) (ok := fun _ => True) sW (fun _ _ => trivial); clear sW; have hat := True.intro; rw [← N0.out] at ho; change Kd.R (Kd.int .u8) 5 w5 w.heap.size (fun _ => True) On Hc at ho; have bV := ak (hb); have b4 := ak (ho); clear HB; clear F9; have HB := bV; have N6 := b4; clear bV b4; clear ho hb hg hat))
  go_ret
  exact ⟨_, by first | rfl | (simp [bz, bx] <;> rfl) | (simp [*, bz, bx] <;> rfl), by (with_reducible repeat (first | apply Kd.R_alloc | apply Kd.R_drewN | apply Kd.R_drew)); exact N6.out, by repeat (first | (with_reducible first | exact HB.out | apply af | apply ab | apply ai) | exact HB.out)⟩
 ·rw [if_neg c2] at H
  exact absurd H (by simp)
end Go.Proofs.Ytemhalnhbgkbcaa.V
end

section
namespace Go.Proofs.Ytemhalnhbgkbcaa.V
set_option maxRecDepth 100000 in
theorem G0 {ops : Array Oper} {rest : List Oper} {o : Oper} {a : Act} {Q : Exit → Act → World → Prop} {W : World} (hgd : o.guard = none) (s x : Operand)
  (ho : o.op = .call { callee := .builtin .append, args := #[s, x], argTypes := #[48, 48] }) (g : Nat) (hs : a.eval s = .slice (some ⟨g, 0, none⟩) 1 1) (hcell : W.cell? ⟨g, 0, none⟩ = some (.int .u8 66))
  (A : Option Addr) (c : Nat) (ys : List Int) (hx : a.eval x = .slice A ys.length c) (hC : Kd.C (Kd.int .u8) W A ys.length ys) (hy : 0 < ys.length) (vY : ys.length ≤ 1000)
  (h : ∀ v1 w1, Kd.R (Kd.int .u8) 5 w1 W.heap.size (fun _ => True) v1 ([66] ++ ys) → W.grownBy w1 none → wpList Try.prog ops Q rest (a.put o.dst v1) w1) : wpList Try.prog ops Q (o :: rest) a W := by
 obtain ⟨i, hi, hz⟩ := Option.map_eq_some_iff.1 ja
 simp only [Prod.mk.injEq] at hz
 rcases A with _ | ad
 ·obtain ⟨ad, h, _⟩ := hC.2.2 hy
  cases h
 ·obtain ⟨news, hnr, hnc⟩ := fY.inner_ hC
  have hnl : news.length = ys.length * 1 := hnr.1
  have hone : ∀ u ∈ news, u.oneCell' = true := by
   intro u hu
   obtain ⟨q, hq, rfl⟩ := List.mem_iff_getElem.1 hu
   have := hnr.2 q _ (List.getElem?_eq_getElem (show q < ys.length by omega))
   have e : ((news.drop (q * 1)).take 1) = [Value.int .u8 (ys[q]'(by omega))] := this
   rw [Nat.mul_one, List.drop_eq_getElem_cons hq, List.take_succ_cons, List.take_zero] at e
   injection e with e _
   rw [e]
   rfl
  refine wpList_append_arg W hgd s x 48 ho 5 i (.int .u8 0) 1 1 Try.underlying48 hi hz.1 hz.2.1 hz.2.2 rfl (by decide) g 0 1 1 [.int .u8 66] hs rfl (fun j u hj => ?_) ad ys.length c news hx hnl hnc hone (fun hle => by omega) (by simp only [maxLen]; omega) (by omega) (fun hle => by omega) (fun _ v' w' hown hg => h v' w' ⟨fun _ _ => trivial, [.int .u8 66] ++ news, ?_, ?_⟩ hg)
  ·rcases j with _ | j
   ·obtain rfl := Option.some.inj hj
    exact hcell
   ·simp at hj
  ·have e : ([(66 : Int)] ++ ys).length = 1 + ys.length := by rw [List.length_append]; rfl
   rw [e]
   exact hown
  ·exact Kd.reps_append (Kd.reps_scalar (enc := Value.int .u8) [66]) hnr
theorem AV (s : ByteArray) (hs : s.size ≤ 64) : fk.f s = some (fN s) := by
 unfold fk.f
 rw [Option.bind_some, if_pos (by simp; omega)]
 have : ((s.size : Int)) % 256 = (s.size : Int) := by omega
 simp [fN, this]
theorem sE (n i k : Nat) (xs : List Int) (hn : n < 18446744073709551616) (hi : i < xs.length) (Zm : i < 100) :
  bH.l0 (k + 1) (n : Int) xs (i : Int) = bH.l0 k ((n / 256 : Nat) : Int) (xs.set i ((n % 256 : Nat) : Int)) ((i : Int) - 1) := by
 rw [bH.l0, if_pos (by omega), if_pos (by omega), if_pos (by omega), ik ((i : Int) - 1) (by omega) (by omega)]
 have e1 : Int.tdiv (n : Int) 256 = ((n / 256 : Nat) : Int) := by
  rw [Int.tdiv_eq_ediv_of_nonneg (by omega)]; omega
 have e2 : Int.tmod (n : Int) 256 = ((n % 256 : Nat) : Int) := by
  rw [Int.tmod_eq_emod_of_nonneg (by omega)]; omega
 rw [e1, e2, oK _ (by omega), Int.toNat_natCast]
 congr 2
 omega
theorem MI (n : Nat) (hn : n < 4294967296) : bH.f 20 (n : Int) 4 = some (qv n) := by
 unfold bH.f
 rw [if_neg (by decide), show decide ((4 : Int) > 8) = false from rfl, bH.j0, if_neg (by decide), if_pos (by decide), if_pos (by decide), show wrap64 ((4 : Int) - 1) = ((3 : Nat) : Int) by unfold wrap64; omega]
 rw [sE n 3 18 _ (by omega) (by decide) (by omega), show ((3 : Nat) : Int) - 1 = ((2 : Nat) : Int) by omega, sE _ 2 17 _ (by omega) (by simp) (by omega), show ((2 : Nat) : Int) - 1 = ((1 : Nat) : Int) by omega, sE _ 1 16 _ (by omega) (by simp) (by omega), show ((1 : Nat) : Int) - 1 = ((0 : Nat) : Int) by omega, sE _ 0 15 _ (by omega) (by simp) (by omega), bH.l0, if_neg (by decide)]
 have h3 : n / 256 / 256 / 256 = n / 16777216 := by omega
 have h2 : n / 256 / 256 = n / 65536 := by omega
 rw [h3, h2]
 rfl
set_option maxHeartbeats 8000000 in
set_option maxRecDepth 100000 in
theorem JE (b : Bk) (hk : BkOk b) (hp : RightP b) (hsl : b.slots.length = 64) (As Af Aa : Option Addr) (cs cf ca : Nat) (w : World)
  (h1 : Kd.C (Kd.int .i64) w As b.slots.length b.slots) (h2 : Kd.C (Kd.int .i64) w Af b.free.length b.free) (h3 : Kd.C ib w Aa (b.attrs.map vc).length (b.attrs.map vc)) :
  Calls Try.prog 39 #[.agg #[.int .u32 b.addr, .string b.aff, .slice As b.slots.length cs, .slice Af b.free.length cf, .slice Aa (b.attrs.map vc).length ca]] w fun e w' => e = .returned (.string (strOfNums (gW b))) ∧ Below w.heap.size w w' := by
 have hsz := lH hp.owner
 obtain ⟨n, hn⟩ : ∃ n : Nat, b.addr = (n : Int) := ⟨b.addr.toNat, by have := hk.a0; omega⟩
 have hnl : n < 4294967296 := by have := hk.a1; omega
 have hfl := hp.free_len hsl
 have hal := hp.na
 have HP := ak hp
 have HK := ak hk
 have HSL := ak hsl
 obtain ⟨M, hM⟩ : ∃ M, M = b.attrs.map vc := ⟨_, rfl⟩
 have HM := ak hM
 have hml : M.length = b.attrs.length := by rw [hM, List.length_map]
 have HML := ak hml
 rw [← hM] at h3 ⊢
 have C1 := ak h1
 have C2 := ak h2
 have C3 := ak h3
 obtain ⟨B4, Ls⟩ : ∃ B4 : List Int, B4 = qv n := ⟨_, rfl⟩
 obtain ⟨L1, uZ⟩ : ∃ L1 : List Int, L1 = [66] ++ B4 := ⟨_, rfl⟩
 obtain ⟨TA, hTA⟩ : ∃ TA : List Int, TA = fN b.aff := ⟨_, rfl⟩
 obtain ⟨L2, yU⟩ : ∃ L2 : List Int, L2 = L1 ++ TA := ⟨_, rfl⟩
 obtain ⟨L3, BS⟩ : ∃ L3 : List Int, L3 = eJ b 0 := ⟨_, rfl⟩
 have H1 := ak uZ
 have H2 := ak yU
 have H3 := ak BS
 have Yn := ak (show L3 = L2 ++ [(M.length : Int)] by
  rw [BS, yU, uZ, hTA, Ls, hml]
  simp [eJ, hn])
 have HPU := ak (show bH.f 20 b.addr 4 = some B4 by rw [hn, Ls]; exact MI n hnl)
 have HTX := ak (show fk.f b.aff = some TA by rw [hTA]; exact AV _ hsz)
 have l1 : B4.length = 4 := by rw [Ls]; rfl
 have l2 : L1.length = 5 := by rw [uZ, List.length_append, l1]; rfl
 have l3 : TA.length ≤ 65 := by rw [hTA, gv]; omega
 have l4 : L2.length ≤ 70 := by rw [yU, List.length_append]; omega
 have S8 := ak l1
 have X7 := ak l2
 have X6 := ak l3
 have X5 := ak l4
 have SM : 0 ≤ b.addr := hk.a0
 have WS : b.addr < 4294967296 := hk.a1
 have HFL := ak hfl
 have HAL := ak hal
 have YX : M.length ≤ 64 := by omega
 have YN : b.slots.length ≤ 64 := by omega
 clear hml h1 h2 h3 hM Ls uZ hTA yU BS l1 l2 l3 l4 hn hnl hsz hp hk hsl
 have kc := fun (w : World) (C : Array Value) (n c : Nat) => Lib.run_convert_bytes_const (P := Try.prog) w 48 5 C n c Try.underlying48 Try.underlying5
 go_enter Try.func39, Try.ntmps39
 go_wp2_with (first
  | (refine aD rfl 62 (.tmp 0) rfl _ rfl ?_; intro g W1 hg hbx bq; have HX := ak hbx; have HB := ak bq; have iR := (hbx.alloc (.cells #[.int .u8 66] 5 (1, 2))).cell 0 _ rfl; clear hbx bq)
  | (go_at_call 75; refine (bH.calls 20 _ _ _ _ HPU.out).mono ?_; rintro e W4 ⟨v4, rfl, vZ, kU⟩; have xX := ak (show W4.cell? ⟨W1.heap.size, 0, none⟩ = some (.int .u8 66) by have hq : W4.heap[W1.heap.size]? = some (.cells #[.int .u8 66] 5 (1, 2)) := (by rw [kU.block _ (by show _ < (W1.heap.push _).size; simp)]; exact heap_alloc_new W1 _); simp [World.cell?, hq]); have gK := ak ((af HB.out (.cells #[.int .u8 66] 5 (1, 2))).trans (kU.mono (af HB.out (.cells #[.int .u8 66] 5 (1, 2))).size)); have lC := ak ((HX.out.alloc (.cells #[.int .u8 66] 5 (1, 2))).below kU); obtain ⟨A4, c4, WV, Y3, S0⟩ := Kd.R_reads vZ; subst WV; have Gf := ak S0; clear vZ kU HB iR S0)
  | ((with_reducible refine bG (b := .append) (xs := #[.tmp 11, .tmp 15]) rfl ?_); at_builtin; refine G0 rfl (.tmp 11) (.tmp 15) rfl W1.heap.size rfl xX.out A4 c4 B4 rfl Gf.out (by have := S8.out; omega) (by have := S8.out; omega) ?_; intro v5 w5 ou sX; rw [← H1.out] at ou; have la := ak (lC.out.grown sX (by simp)); have xW := ak (Kd.R_lower ou gK.out.size); have lp := ak (gK.out.grown sX gK.out.size (by simp)); obtain ⟨A5, c5, rfl⟩ := Kd.R_slice ou; have sg := la.out.cell 1 _ rfl; clear ou sX lC xX Gf gK)
  | (go_at_call 76; refine (fk.calls _ _ _ HTX.out).mono ?_; rintro e W6 ⟨v6, rfl, xQ, pK⟩; have pM := ak (Kd.R_below xW.out pK); have mA := ak (lp.out.trans (pK.mono lp.out.size)); have oG := ak (la.out.below pK); obtain ⟨A6, c6, O4, TE, IM⟩ := Kd.R_reads xQ; subst O4; have Ju := ak IM; clear xQ pK lp la sg IM)
  | ((with_reducible refine bG (b := .append) (xs := #[.tmp 17, .tmp 20]) rfl ?_); at_builtin; refine Kd.R_append_row (Value.int .u8) (0 : Int) (w0 := w) w.heap.size rfl (.tmp 17) (.tmp 20) 48 5 (.int .u8 0) 1 rfl Try.underlying48 ja rfl (by decide) _ L1 TA A6 TA.length c6 (fun _ => True) rfl rfl (fun _ _ => trivial) pM.out Ju.out mA.out mA.out.size (by have := X7.out; have := X6.out; omega) ?_; intro v7 w7 pJ xR kT yl; rw [← H2.out] at pJ; have su := ak (oG.out.grown kT (oG.out.ne_row pM.out (by decide))); have wY := ak pJ; have pN := ak xR; obtain ⟨A7, c7, rfl⟩ := Kd.R_slice pJ; have XI := su.out.cell 4 _ rfl; clear pJ xR kT yl oG pM Ju mA)
  | ((with_reducible refine bG (b := .append) (xs := #[.tmp 22, .tmp 27]) rfl ?_); at_builtin; refine Kd.R_append (Kd.int .u8) (w0 := w) w.heap.size rfl (.tmp 22) (.tmp 27) 48 5 (.int .u8 0) 1 rfl Try.underlying48 ja rfl (by decide) (by omega) _ L2 (M.length : Int) [.int .u8 (M.length : Int)] (fun _ => True) (fun _ => False) rfl rfl rfl (fun _ hk => hk.elim) (fun _ _ => trivial) wY.out pN.out pN.out.size (by have := X5.out; omega) ?_; intro v8 w8 nm ll qK Kf; rw [← Yn.out] at nm; have oF := ak (su.out.grown qK (su.out.ne_row wY.out (by decide))); have zH := ak nm; have qy := ak ll; obtain ⟨A8, c8, rfl⟩ := Kd.R_slice nm; have TG := oF.out.cell 4 _ rfl; clear nm ll qK Kf su wY pN XI))
 have F4 := ak (show Kd.R (Kd.int .u8) 5 _ w.heap.size (fun _ => True) (.slice A8 L3.length c8) (eJ b 0) by rw [← H3.out]; exact zH.out)
 clear zH hg TG
 go_loopw [3, 5, 32] (fun s _ i W => ∃ k : Nat, k ≤ M.length ∧ i = .int .i64 k ∧ Aside0 (Kd.R (Kd.int .u8) 5 W w.heap.size (fun _ => True) s (eJ b k)) ∧ Aside0 (aH W g [.int .u32 b.addr, .string b.aff, .slice As b.slots.length cs, .slice Af b.free.length cf, .slice Aa M.length ca] 62) ∧ Aside0 (Below w.heap.size w W)) (fun _ _ i _ => M.length - (intOf i).toNat)
 case atStart => exact ⟨0, by omega, rfl, F4, oF, qy⟩
 case round =>
  clear F4 oF qy
  obtain ⟨k, hk, rfl, HO, HX, HB⟩ := hrel
  obtain ⟨W, rfl⟩ : ∃ W : World, W = wr := ⟨_, rfl⟩
  by_cases hkn : k < M.length
  ·have hkb : decide ((k : Int) < (M.length : Int)) = true := by simp; omega
   obtain ⟨ad, eA, ir, kp⟩ := En (Kd.C_below C3.out HB.out) k (by omega) (by omega)
   cases eA
   rw [Int.toNat_natCast] at ir kp
   have p1 : ((k : Int) < (M.length : Int)) = True := eq_true (by omega)
   have hka : k < b.attrs.length := by have := HML.out; omega
   obtain ⟨a, ha⟩ : ∃ a : At, gh b.attrs k = a := ⟨_, rfl⟩
   have ha' : fz M (k : Int) = vc a := by
    rw [← ha, HM.out]
    show fz (b.attrs.map vc) (k : Int) = vc (cI b.attrs (k : Int))
    simp [fz, cI, List.getD, hka]
   rw [ha'] at ir kp
   have hma := HP.out.may k hka
   rw [ha] at hma
   unfold ep at hma
   rw [Bool.and_eq_true] at hma
   have jX := (e8 hma.1).2
   have pH := (e8 hma.2).2
   have hpl := mX HP.out k (by omega)
   obtain ⟨P0, Pr⟩ : ∃ P0, P0 = eJ b k := ⟨_, rfl⟩
   obtain ⟨T0, IJ⟩ : ∃ T0, T0 = fN a.f0 := ⟨_, rfl⟩
   obtain ⟨T1, Lp⟩ : ∃ T1, T1 = fN a.f1 := ⟨_, rfl⟩
   obtain ⟨P1, Lr⟩ : ∃ P1 : List Int, P1 = P0 ++ T0 := ⟨_, rfl⟩
   have Lq := p7 b k hka
   rw [ha, ← Pr, ← IJ, ← Lr, ← Lp] at Lq
   obtain ⟨P2, hPP⟩ : ∃ P2 : List Int, P2 = eJ b (k + 1) := ⟨_, rfl⟩
   rw [← hPP] at Lq
   rw [← Pr] at HO hpl
   have QH := ak (show fk.f (vc a).f0 = some T0 by rw [IJ]; exact AV _ jX)
   have jt := ak (show fk.f (vc a).f1 = some T1 by rw [Lp]; exact AV _ pH)
   have WN := ak (show P0.length ≤ 71 + 130 * 64 by have := HAL.out; omega)
   have WL := ak (show T0.length ≤ 65 by rw [IJ, gv]; omega)
   have lt1 := ak (show T1.length ≤ 65 by rw [Lp, gv]; omega)
   have WM := ak (show P1.length ≤ 136 + 130 * 64 by have := HAL.out; rw [Lr, List.length_append, IJ, gv]; omega)
   have E1 := ak Lr
   have E2 := ak Lq
   have E3 := ak hPP
   clear ha ha' hma jX pH hpl Pr IJ Lp Lr Lq hPP
   obtain ⟨Ao, co, rfl⟩ := Kd.R_slice HO.out
   go_wp2_with (first
    | (refine au (some 5) rfl rfl 76 rfl [.string ⟨#[]⟩, .string ⟨#[]⟩] (fun _ => by kernel_rfl) ?_; intro ga W3 hga fO nT)
    | (refine aK rfl 76 (.tmp 5) (.tmp 35) rfl ga [.string (vc a).f0, .string (vc a).f1] rfl rfl 76 _ fO 2 (by kernel_rfl) rfl rfl (by intro u hu; simp at hu; rcases hu with rfl | rfl <;> rfl) ?_; intro W4 gK sb; have nt := ak gK; have hbW : Below W.heap.size W W4 := nT.grown sb nT.size (fun q hq => by cases hq; exact hga); have lp := ak (bg HB.out hbW); have la := ak (HX.out.below hbW); have xW := ak (Kd.R_below HO.out hbW); have Iq := nt.out.cell 0 _ rfl; clear fO gK hga nT sb hbW ir kp HO HX HB)
    | (go_at_call 76; refine (fk.calls _ _ _ QH.out).mono ?_; rintro e W6 ⟨v6, rfl, xQ, pK⟩; have pM := ak (Kd.R_below xW.out pK); have mA := ak (lp.out.trans (pK.mono lp.out.size)); have oG := ak (la.out.below pK); have AI := ak (nt.out.below pK); obtain ⟨A6, c6, O4, TE, IM⟩ := Kd.R_reads xQ; subst O4; have Ju := ak IM; clear xQ pK lp la xW nt Iq IM)
    | ((with_reducible refine bG (b := .append) (xs := #[.tmp 36, .tmp 39]) rfl ?_); at_builtin; refine Kd.R_append_row (Value.int .u8) (0 : Int) (w0 := w) w.heap.size rfl (.tmp 36) (.tmp 39) 48 5 (.int .u8 0) 1 rfl Try.underlying48 ja rfl (by decide) _ P0 T0 A6 T0.length c6 (fun _ => True) rfl rfl (fun _ _ => trivial) pM.out Ju.out mA.out mA.out.size (by have := WN.out; have := WL.out; omega) ?_; intro v7 w7 pJ xR kT yl; rw [← E1.out] at pJ; have su := ak (oG.out.grown kT (oG.out.ne_row pM.out (by decide))); have vr := ak (AI.out.grown kT (AI.out.ne_row pM.out (by decide))); have wY := ak pJ; have pN := ak xR; obtain ⟨A7, c7, rfl⟩ := Kd.R_slice pJ; have BN := vr.out.cell 1 _ rfl; clear pJ xR kT yl oG pM Ju mA AI)
    | (go_at_call 76; refine (fk.calls _ _ _ jt.out).mono ?_; rintro e W8 ⟨v8, rfl, nm, ll⟩; have zH := ak (Kd.R_below wY.out ll); have qy := ak (pN.out.trans (ll.mono pN.out.size)); have oF := ak (su.out.below ll); obtain ⟨A8, c8, WU, Y2, SZ⟩ := Kd.R_reads nm; subst WU; have Tn := ak SZ; clear nm ll pN su wY vr BN SZ)
    | ((with_reducible refine bG (b := .append) (xs := #[.tmp 41, .tmp 44]) rfl ?_); at_builtin; refine Kd.R_append_row (Value.int .u8) (0 : Int) (w0 := w) w.heap.size rfl (.tmp 41) (.tmp 44) 48 5 (.int .u8 0) 1 rfl Try.underlying48 ja rfl (by decide) _ P1 T1 A8 T1.length c8 (fun _ => True) rfl rfl (fun _ _ => trivial) zH.out Tn.out qy.out qy.out.size (by have := WM.out; have := lt1.out; omega) ?_; intro v9 w9 eG II yS Ke; rw [← E2.out] at eG; have F5 := ak (oF.out.grown yS (oF.out.ne_row zH.out (by decide))); have L8 := ak eG; have EF := ak II; clear eG II yS Ke oF zH Tn qy))
   go_roundw
   case rel => exact ⟨k + 1, by omega, by go_num, ⟨by rw [← E3.out]; exact L8.out⟩, F5, EF⟩
   case measure => simp [intOf]; omega
  ·obtain rfl : k = M.length := by omega
   have hkb : decide ((M.length : Int) < (M.length : Int)) = false := by simp
   have XJ := HX.out.cell 2 _ rfl
   have e0 : eJ b M.length = eJ b b.attrs.length ++ b.slots.take 0 := by rw [HML.out, List.take_zero, List.append_nil]
   rw [e0] at HO
   clear e0
   obtain ⟨Ao, co, rfl⟩ := Kd.R_slice HO.out
   have HZ := ak HO.out
   have hPL := mX HP.out b.attrs.length (Nat.le_refl _)
   obtain ⟨PA, hPA⟩ : ∃ PA : List Int, PA = eJ b b.attrs.length := ⟨_, rfl⟩
   have HPA := ak hPA
   have HPL := ak (show PA.length ≤ 71 + 130 * 64 by have := HAL.out; rw [hPA]; omega)
   clear HO
   rw [← hPA] at HZ ⊢
   clear hPA hPL
   go_wp2_with fail
   clear XJ
   go_loopw [3, 7, 50] (fun s _ i W => ∃ k : Nat, k ≤ b.slots.length ∧ i = .int .i64 k ∧ Aside0 (Kd.R (Kd.int .u8) 5 W w.heap.size (fun _ => True) s (PA ++ b.slots.take k)) ∧ Aside0 (aH W g [.int .u32 b.addr, .string b.aff, .slice As b.slots.length cs, .slice Af b.free.length cf, .slice Aa M.length ca] 62) ∧ Aside0 (Below w.heap.size w W)) (fun _ _ i _ => b.slots.length - (intOf i).toNat)
   case atStart => exact ⟨0, by omega, rfl, HZ, HX, HB⟩
   case round =>
    clear HZ HX HB
    obtain ⟨k, hk, rfl, HO, HX, HB⟩ := hrel
    obtain ⟨W, rfl⟩ : ∃ W : World, W = wr := ⟨_, rfl⟩
    by_cases hkn : k < b.slots.length
    ·have hkb : decide ((k : Int) < (b.slots.length : Int)) = true := by simp; omega
     obtain ⟨ad, eA, hx⟩ := Kd.at_int (Kd.C_below C1.out HB.out) k (by omega) (by omega)
     cases eA
     rw [Int.toNat_natCast] at hx
     have p1 : ((k : Int) < (b.slots.length : Int)) = True := eq_true (by omega)
     obtain ⟨m, hm⟩ : ∃ m : Nat, rd b.slots k = (m : Int) := ⟨(rd b.slots k).toNat, by have := (j2 HK.out.s8 k).1; omega⟩
     have r8 : m < 256 := by have := (j2 HK.out.s8 k).2; omega
     rw [hm] at hx
     obtain ⟨L, hL⟩ : ∃ L : List Int, L = PA ++ b.slots.take (k + 1) := ⟨_, rfl⟩
     obtain ⟨L0, yV⟩ : ∃ L0 : List Int, L0 = PA ++ b.slots.take k := ⟨_, rfl⟩
     have HLq := ak hL
     have HT := ak (show L = L0 ++ [(m : Int)] by
      rw [hL, yV, ← hm, List.take_add_one, List.getElem?_eq_getElem hkn]; simp [rd, List.getD, hkn])
     rw [← yV] at HO
     have hlen := ak (show L0.length ≤ 10000 by have := HPL.out; have := HSL.out; rw [yV, List.length_append, List.length_take]; omega)
     clear hL yV hm
     obtain ⟨Ao, co, rfl⟩ := Kd.R_slice HO.out
     go_wp2_with (first | ((with_reducible refine bG (b := .append) (xs := #[.tmp 54, .tmp 57]) rfl ?_); at_builtin; refine Kd.R_append (Kd.int .u8) (w0 := w) w.heap.size rfl (.tmp 54) (.tmp 57) 48 5 (.int .u8 0) 1 rfl Try.underlying48 ja rfl (by decide) (by omega) _ L0 (m : Int) [.int .u8 (m : Int)] (fun _ => True) (fun _ => False) rfl rfl rfl (fun _ hk => hk.elim) (fun _ _ => trivial) HO.out HB.out HB.out.size (by have := hlen.out; omega) ?_; intro v1 w1 eS bq iu nU; have g8 := ak (HX.out.grown iu (HX.out.ne_row HO.out (by decide))); rw [← HT.out] at eS; have ix := ak eS; have bP := ak bq; clear eS bq iu nU HX HO HB hx))
     go_roundw
     case rel => exact ⟨k + 1, by omega, by go_num, ⟨by rw [← HLq.out]; exact ix.out⟩, g8, bP⟩
     case measure => simp [intOf]; omega
    ·obtain rfl : k = b.slots.length := by omega
     have hkb : decide ((b.slots.length : Int) < (b.slots.length : Int)) = false := by simp
     rw [List.take_of_length_le (Nat.le_refl b.slots.length)] at HO
     obtain ⟨L4, yT⟩ : ∃ L4 : List Int, L4 = PA ++ b.slots := ⟨_, rfl⟩
     obtain ⟨L5, BR⟩ : ∃ L5 : List Int, L5 = L4 ++ [(b.free.length : Int)] := ⟨_, rfl⟩
     have H4 := ak yT
     have H5 := ak BR
     rw [← yT] at HO
     have l4 := ak (show L4.length ≤ 10000 by have := HPL.out; have := HSL.out; rw [yT, List.length_append]; omega)
     have l5 := ak (show L5.length ≤ 10001 by have := l4.out; rw [BR, List.length_append, List.length_singleton]; omega)
     clear yT BR
     obtain ⟨Ao, co, rfl⟩ := Kd.R_slice HO.out
     have Pf := HX.out.cell 3 _ rfl
     go_wp2_with (first | ((with_reducible refine bG (b := .append) (xs := #[.tmp 60, .tmp 65]) rfl ?_); at_builtin; refine Kd.R_append (Kd.int .u8) (w0 := w) w.heap.size rfl (.tmp 60) (.tmp 65) 48 5 (.int .u8 0) 1 rfl Try.underlying48 ja rfl (by decide) (by omega) _ L4 (b.free.length : Int) [.int .u8 (b.free.length : Int)] (fun _ => True) (fun _ => False) rfl rfl rfl (fun _ hk => hk.elim) (fun _ _ => trivial) HO.out HB.out HB.out.size (by have := l4.out; omega) ?_; intro v1 w1 eS bq iu nU; have g8 := ak (HX.out.grown iu (HX.out.ne_row HO.out (by decide))); rw [← H5.out] at eS; have ix := ak (show Kd.R (Kd.int .u8) 5 w1 w.heap.size (fun _ => True) v1 (L5 ++ b.free.take 0) by rw [List.take_zero, List.append_nil]; exact eS); have bP := ak bq; have TH := g8.out.cell 3 _ rfl; clear eS bq iu nU HX HO HB Pf))
     clear TH
     go_loopw [3, 9, 70] (fun s _ i W => ∃ k : Nat, k ≤ b.free.length ∧ i = .int .i64 k ∧ Aside0 (Kd.R (Kd.int .u8) 5 W w.heap.size (fun _ => True) s (L5 ++ b.free.take k)) ∧ Aside0 (Below w.heap.size w W)) (fun _ _ i _ => b.free.length - (intOf i).toNat)
     case atStart => exact ⟨0, by omega, rfl, ix, bP⟩
     case round =>
      clear ix g8 bP
      obtain ⟨k, hk, rfl, HO, HB⟩ := hrel
      obtain ⟨W, rfl⟩ : ∃ W : World, W = wr := ⟨_, rfl⟩
      by_cases hkn : k < b.free.length
      ·have hkb : decide ((k : Int) < (b.free.length : Int)) = true := by simp; omega
       obtain ⟨ad, eA, hx⟩ := Kd.at_int (Kd.C_below C2.out HB.out) k (by omega) (by omega)
       cases eA
       rw [Int.toNat_natCast] at hx
       have p1 : ((k : Int) < (b.free.length : Int)) = True := eq_true (by omega)
       obtain ⟨m, hm⟩ : ∃ m : Nat, rd b.free k = (m : Int) := ⟨(rd b.free k).toNat, by have := (j2 HK.out.f8 k).1; omega⟩
       have r8 : m < 256 := by have := (j2 HK.out.f8 k).2; omega
       rw [hm] at hx
       obtain ⟨L, hL⟩ : ∃ L : List Int, L = L5 ++ b.free.take (k + 1) := ⟨_, rfl⟩
       obtain ⟨L0, yV⟩ : ∃ L0 : List Int, L0 = L5 ++ b.free.take k := ⟨_, rfl⟩
       have HLq := ak hL
       have HT := ak (show L = L0 ++ [(m : Int)] by
        rw [hL, yV, ← hm, List.take_add_one, List.getElem?_eq_getElem hkn]; simp [rd, List.getD, hkn])
       rw [← yV] at HO
       have hlen := ak (show L0.length ≤ 11000 by have := l5.out; have := HFL.out; rw [yV, List.length_append, List.length_take]; omega)
       clear hL yV hm
       obtain ⟨Ao, co, rfl⟩ := Kd.R_slice HO.out
       go_wp2_with (first | ((with_reducible refine bG (b := .append) (xs := #[.tmp 74, .tmp 77]) rfl ?_); at_builtin; refine Kd.R_append (Kd.int .u8) (w0 := w) w.heap.size rfl (.tmp 74) (.tmp 77) 48 5 (.int .u8 0) 1 rfl Try.underlying48 ja rfl (by decide) (by omega) _ L0 (m : Int) [.int .u8 (m : Int)] (fun _ => True) (fun _ => False) rfl rfl rfl (fun _ hk => hk.elim) (fun _ _ => trivial) HO.out HB.out HB.out.size (by have := hlen.out; omega) ?_; intro v1 w1 eS bq iu nU; rw [← HT.out] at eS; have ix := ak eS; have bP := ak bq; clear eS bq iu nU HO HB hx))
       go_roundw
       case rel => exact ⟨k + 1, by omega, by go_num, ⟨by rw [← HLq.out]; exact ix.out⟩, bP⟩
       case measure => simp [intOf]; omega
      ·obtain rfl : k = b.free.length := by omega
       have hkb : decide ((b.free.length : Int) < (b.free.length : Int)) = false := by simp
       rw [List.take_of_length_le (Nat.le_refl b.free.length)] at HO
       have HI := ak (show L5 ++ b.free = gW b by
        rw [H5.out, H4.out, HPA.out]
        simp [gW])
       obtain ⟨L6, DI⟩ : ∃ L6 : List Int, L6 = L5 ++ b.free := ⟨_, rfl⟩
       have H6 := ak DI
       rw [← DI] at HO
       clear DI
       obtain ⟨A9, c9, kR, TD, IL⟩ := Kd.R_reads HO.out
       subst kR
       have hst := Kd.C_string (P := Try.prog) (src := 48) (dst := 9) (c := c9) Try.underlying48 Try.underlying5 Try.underlying9 IL
       clear IL
       go_wp2_with fail
       go_ret
       exact ⟨by rw [← HI.out, ← H6.out]; rfl, HB.out⟩
end Go.Proofs.Ytemhalnhbgkbcaa.V
end

section
namespace Go.Proofs.Ytemhalnhbgkbcaa.V
theorem MN (w : World) : Calls Try.prog 41 #[.int .u32 0, .string ⟨#[]⟩] w fun e w' => ∃ vf va, e = .returned (.tuple #[.agg (aU ot.addr ot.aff ot.slots vf va).toArray, .int .i64 0]) ∧ iz w' (.agg (aU ot.addr ot.aff ot.slots vf va).toArray) ot ∧ Below w.heap.size w w' ∧ vf.oneCell' = true ∧ va.oneCell' = true := by
 refine (Fz 0 (by omega) (by omega) ⟨#[]⟩ w).mono ?_
 rintro e w' ⟨v, rfl, hb, hw⟩
 have e1 : fS ⟨#[]⟩ = true := by kernel_rfl
 rw [if_pos e1] at hb ⊢
 have hv := hb.toV
 obtain ⟨hl, vf, va, rfl, hf, ha⟩ := hb
 refine ⟨vf, va, rfl, hv, hw, ?_, ?_⟩
 ·obtain ⟨A, c, rfl⟩ := Kd.R_slice hf; rfl
 ·obtain ⟨A, c, rfl⟩ := Kd.R_slice ha; rfl
theorem MO : ot.slots.length = 64 := rfl
theorem JW (v : Value) (w : World) (h : iz w v ot) : Calls Try.prog 32 #[v] w fun e w' => ∃ s : ByteArray, e = .returned (.tuple #[.string s, .int .i64 0]) ∧ s.size = 136 ∧ Below w.heap.size w w' := by
 refine (Dg ot Ig v w h).mono ?_
 rintro e w' ⟨rfl, hb⟩
 rw [if_pos wG, if_pos wG]
 exact ⟨_, rfl, by rw [strOfNums_size, FA], hb⟩
theorem Ik (v : Value) (w : World) (h : iz w v ot) : Calls Try.prog 37 #[v] w fun e w' => e = .returned (.int .i64 136) ∧ Below w.heap.size w w' := by
 refine (Il ot Ig v w h).mono ?_
 rintro e w' ⟨rfl, hb⟩
 rw [if_pos wG, FA]
 exact ⟨rfl, hb⟩
set_option maxHeartbeats 4000000 in
set_option maxRecDepth 100000 in
theorem Fh (w : World) : Calls Try.prog 34 #[] w fun e w' => e = .returned (.bool true) ∧ Below w.heap.size w w' := by
 obtain ⟨L, hL⟩ : ∃ L : Value → Value → List Value, L = aU ot.addr ot.aff ot.slots := ⟨_, rfl⟩
 have HLL := ak (show ∀ u v, (L u v).length = 68 by intro u v; rw [hL]; exact ah _ _ _ _ _ MO)
 have HLO := ak (show ∀ u v, u.oneCell' = true → v.oneCell' = true → ∀ x ∈ L u v, x.oneCell' = true by intro u v h1 h2; rw [hL]; exact b7 _ _ _ _ _ h1 h2)
 have hnew := MN
 rw [← hL] at hnew
 have HNW := ak hnew
 clear hL hnew
 go_enter Try.func34, Try.ntmps34
 go_wp2_with (first
  | (go_at_call 41; refine (HNW.out _).mono ?_; rintro e W1 ⟨vf, va, rfl, hv, hb, h1, h2⟩; have Qi := ak hv; have bP := ak hb; have HO := ak (And.intro h1 h2); clear hv hb h1 h2)
  | (refine au (some 1) rfl rfl 57 rfl a6 bT ?_; intro g1 W2 iu hbx dD; have fv := ak hbx; have Bt := ak dD; have gl := ak (bP.out.trans (dD.mono bP.out.size)); have vn := ak (show w.heap.size ≤ g1 by have := bP.out.size; omega); have HLT := ak (show W1.heap.size ≤ g1 from iu); clear hbx dD iu)
  | (refine aK rfl 57 (.tmp 1) (.tmp 7) rfl g1 (L vf va) rfl rfl 57 _ fv.out 68 (by kernel_rfl) (HLL.out _ _) rfl (HLO.out _ _ HO.out.1 HO.out.2) ?_; intro W3 IB nM; have kj := ak IB; have fO := ak (gl.out.grown nM gl.out.size (by intro k hk; cases hk; exact vn.out)); have Ta := ak (Qi.out.below (Bt.out.grown nM Bt.out.size (by intro k hk; cases hk; exact HLT.out))); clear IB nM)
  | (refine az rfl 57 (.tmp 1) rfl g1 rfl _ _ _ kj.out Try.underlying57 rfl 68 (by kernel_rfl) (HLL.out _ _) ?_)
  | (go_at_call 32; refine (JW _ _ Ta.out).mono ?_; rintro e W4 ⟨s, rfl, hs, kU⟩; have HS := ak hs; have lC := ak (kj.out.below kU); have Ya := ak (Ta.out.below kU); have gK := ak (fO.out.trans (kU.mono fO.out.size)); clear kU)
  | ((with_reducible refine av (N := 22) rfl ?_); refine eK (by rfl) ?_; refine az rfl 57 (.tmp 1) rfl g1 rfl _ _ _ lC.out Try.underlying57 rfl 68 (by kernel_rfl) (HLL.out _ _) ?_)
  | (go_at_call 37; refine (Ik _ _ Ya.out).mono ?_; rintro e W5 ⟨rfl, ox⟩; have lp := ak (gK.out.trans (ox.mono gK.out.size)); clear ox))
 go_ret
 exact ⟨rfl, lp.out⟩
end Go.Proofs.Ytemhalnhbgkbcaa.V
end

section
namespace Go.Proofs.Ytemhalnhbgkbcaa.V
attribute [local go_sem] ea dY eB ez dq dp dZ dX
def jq.f (k : Nat) (a0 : ByteArray) : Option (Bool) := if a0.toList = ([] : List UInt8) then (some true) else ((ax.f k a0).bind fun uC => (some uC))
set_option maxHeartbeats 8000000 in
set_option maxRecDepth 100000 in
theorem jq.calls (k : Nat) (a0 : ByteArray) (r : Bool) (w : World) (h : jq.f k a0 = some r) :
  Calls Try.prog 42 #[.string a0] w fun e w' => e = .returned (.bool r) ∧ Drawn0 w w' := by
 have H : (if a0.toList = ([] : List UInt8) then (some true) else ((ax.f k a0).bind fun uC => (some uC))) = some r := h
 clear h
 by_cases c2 : a0.toList = ([] : List UInt8)
 ·rw [if_pos c2] at H
  have uo : (a0.toList == ([] : List UInt8)) = true := beq_iff_eq.mpr c2
  have Bn : (a0.toList != ([] : List UInt8)) = false := bne_eq_false_iff_eq.mpr c2
  clear c2
  obtain rfl := Option.some.inj H
  go_enter Try.func42, Try.ntmps42
  go_wp2
  go_ret
  exact ⟨by first | rfl | (simp; done) | (simp [*]; done), by repeat (first | exact Drawn0.refl _ | apply Drawn0.step)⟩
 ·rw [if_neg c2] at H
  have uo : (a0.toList == ([] : List UInt8)) = false := beq_eq_false_iff_ne.mpr c2
  have Bn : (a0.toList != ([] : List UInt8)) = true := bne_iff_ne.mpr c2
  replace H := Option.bind_eq_some_iff.mp H
  obtain ⟨uC, qz, H⟩ := H
  replace H : (some uC) = some r := H
  have A3 := ak qz
  clear qz
  obtain rfl := Option.some.inj H
  go_enter Try.func42, Try.ntmps42
  go_wp2_with (first | (go_at_call 81; (with_reducible refine (ax.calls k a0 uC _ A3.out).mono ?_); rintro e w' ⟨rfl, ⟨nd, rfl⟩⟩))
  go_ret
  exact ⟨by first | rfl | (simp; done) | (simp [*]; done), by repeat (first | exact Drawn0.refl _ | apply Drawn0.step)⟩
end Go.Proofs.Ytemhalnhbgkbcaa.V
end

section
namespace Go.Proofs.Ytemhalnhbgkbcaa.V
attribute [local go_sem] ea dY eB ez dq dp dZ dX
def ko.f (k : Nat) (bu : ByteArray) (bE : ByteArray) : Option (Bool) := (ax.f k bu).bind fun uB => (if uB = true then ((ax.f k bE).bind fun nE => (some nE)) else (some false))
set_option maxHeartbeats 8000000 in
set_option maxRecDepth 100000 in
theorem ko.calls (k : Nat) (bu : ByteArray) (bE : ByteArray) (r : Bool) (w : World) (h : ko.f k bu bE = some r) :
  Calls Try.prog 60 #[.agg #[.string bu, .string bE]] w fun e w' => e = .returned (.bool r) ∧ Below w.heap.size w w' := by
 have OX := Try.underlying76
 have HB := ak (Below.refl w.heap.size w)
 have H : ((ax.f k bu).bind fun uB => (if uB = true then ((ax.f k bE).bind fun nE => (some nE)) else (some false))) = some r := h
 clear h
 replace H := Option.bind_eq_some_iff.mp H
 obtain ⟨uB, B5, H⟩ := H
 replace H : (if uB = true then ((ax.f k bE).bind fun nE => (some nE)) else (some false)) = some r := H
 have A2 := ak B5
 clear B5
 by_cases c3 : uB = true
 ·subst c3
  have H1 : ((ax.f k bE).bind fun nE => (some nE)) = some r := by rw [if_pos rfl] at H; exact H
  clear H
  have H := H1
  clear H1
  replace H := Option.bind_eq_some_iff.mp H
  obtain ⟨nE, xl, H⟩ := H
  replace H : (some nE) = some r := H
  have A4 := ak xl
  clear xl
  obtain rfl := Option.some.inj H
  go_enter Try.func60, Try.ntmps60
  go_wp2_with (first | ((with_reducible refine av (N := 1) rfl ?_); refine fi ?hg (N := 1) ?hd (cs := #[.string bu, .string bE]) (t := 76) ?hr ?_; (case hd => rfl); (case hg => rfl); (case hr => first | (go_simp; done) | (go_simp; rfl)); intro mY hg w5 hbox hb; have bV := ak (bg (by repeat (first | (with_reducible first | exact HB.out | apply af | apply ab | apply ai) | exact HB.out)) hb); have b4 := ak (hbox); have df := ak ((by rw [hg]; exact (bf (by repeat (first | (with_reducible first | exact HB.out | apply af | apply ab | apply ai) | exact HB.out))) : w.heap.size ≤ mY)); have dP := ak ((by rw [hg]; exact (bf (by repeat (first | (with_reducible first | exact HB.out | apply af | apply ab | apply ai) | exact HB.out))) : w.heap.size ≤ mY)); clear HB; have HB := bV; have ni := b4; have Ob := df; have Bu := dP; clear bV b4 df dP; clear hb hbox hg; have DD : w5.cell? ⟨mY, 0, none⟩ = some (.string bu) := (aA ni.out 0).trans rfl; have DC : w5.cell? ⟨mY, 1, none⟩ = some (.string bE) := (aA ni.out 1).trans rfl; have Dy := aq ni.out 0; have Dx := aq ni.out 1) | ((with_reducible refine fo (f := 81) rfl ?_); refine jY (some 5) rfl rfl Try.func81 (by kernel_rfl) rfl #[.string bu] rfl (by (try simp only [List.map_toArray, List.map_cons, List.map_nil]); first | done | rfl | (simp only [List.length_drop, List.length_take]; rfl)) ?_; (with_reducible refine (ax.calls k bu true _ A2.out).mono ?_); rintro e w' ⟨rfl, ⟨nd, rfl⟩⟩; refine ⟨_, rfl, ?_⟩) | (go_at_call 81; (with_reducible refine (ax.calls k bE nE _ A4.out).mono ?_); rintro e w' ⟨rfl, ⟨nd, rfl⟩⟩))
  go_ret
  exact ⟨by first | rfl | (simp [bz, bx] <;> rfl) | (simp [*, bz, bx] <;> rfl), by repeat (first | (with_reducible first | exact HB.out | apply af | apply ab | apply ai | refine aN ?_ Bu.out) | exact HB.out)⟩
 ·replace c3 := Bool.eq_false_iff.mpr c3
  subst c3
  have H1 : (some false) = some r := by rw [if_neg (show ¬ (false = true) by decide)] at H; exact H
  clear H
  have H := H1
  clear H1
  obtain rfl := Option.some.inj H
  go_enter Try.func60, Try.ntmps60
  go_wp2_with (first | ((with_reducible refine av (N := 1) rfl ?_); refine fi ?hg (N := 1) ?hd (cs := #[.string bu, .string bE]) (t := 76) ?hr ?_; (case hd => rfl); (case hg => rfl); (case hr => first | (go_simp; done) | (go_simp; rfl)); intro mY hg w7 hbox hb; have bV := ak (bg (by repeat (first | (with_reducible first | exact HB.out | apply af | apply ab | apply ai) | exact HB.out)) hb); have b4 := ak (hbox); have df := ak ((by rw [hg]; exact (bf (by repeat (first | (with_reducible first | exact HB.out | apply af | apply ab | apply ai) | exact HB.out))) : w.heap.size ≤ mY)); have dP := ak ((by rw [hg]; exact (bf (by repeat (first | (with_reducible first | exact HB.out | apply af | apply ab | apply ai) | exact HB.out))) : w.heap.size ≤ mY)); clear HB; have HB := bV; have ni := b4; have Ob := df; have Bu := dP; clear bV b4 df dP; clear hb hbox hg; have IG : w7.cell? ⟨mY, 0, none⟩ = some (.string bu) := (aA ni.out 0).trans rfl; have IF : w7.cell? ⟨mY, 1, none⟩ = some (.string bE) := (aA ni.out 1).trans rfl; have IE := aq ni.out 0; have ID := aq ni.out 1) | ((with_reducible refine fo (f := 81) rfl ?_); refine jY (some 5) rfl rfl Try.func81 (by kernel_rfl) rfl #[.string bu] rfl (by (try simp only [List.map_toArray, List.map_cons, List.map_nil]); first | done | rfl | (simp only [List.length_drop, List.length_take]; rfl)) ?_; (with_reducible refine (ax.calls k bu false _ A2.out).mono ?_); rintro e w' ⟨rfl, ⟨nd, rfl⟩⟩; refine ⟨_, rfl, ?_⟩))
  go_ret
  exact ⟨by first | rfl | (simp [bz, bx] <;> rfl) | (simp [*, bz, bx] <;> rfl), by repeat (first | (with_reducible first | exact HB.out | apply af | apply ab | apply ai | refine aN ?_ Bu.out) | exact HB.out)⟩
end Go.Proofs.Ytemhalnhbgkbcaa.V
end

section
namespace Go.Proofs.Ytemhalnhbgkbcaa.V
attribute [local go_sem] ea dY eB ez dq dp dZ dX
def cV.l0 : Nat → Int → Int → List Int → Int → Int → Option (Int)
 | 0, _, _, _, _, _ => none
 | k + 1, x1, x5, x8, x9, Fl => if Fl < x9 then (if 0 ≤ Fl then (if Fl < (x8.length : Int) then (if (rd x8 Fl) = x1 then (cV.l0 k x1 (wrap64 (x5 + 1)) x8 x9 (wrap64 (Fl + 1))) else (cV.l0 k x1 x5 x8 x9 (wrap64 (Fl + 1)))) else (none)) else (none)) else (some x5)
def cV.f (k : Nat) (l0 : List Int) (a1 : Int) : Option (Int) := cV.l0 k a1 0 l0 (l0.length : Int) 0
set_option maxHeartbeats 8000000 in
set_option maxRecDepth 100000 in
theorem cV.calls (k : Nat) (A0 : Option Addr) (c0 : Nat) (l0 : List Int) (a1 : Int) (r : Int) (w : World) (lR : Kd.C (Kd.int .i64) w A0 l0.length l0) (iR : l0.length ≤ c0) (h : cV.f k l0 a1 = some r) :
  Calls Try.prog 68 #[.slice A0 l0.length c0, .int .i64 a1] w fun e w' => e = .returned (.int .i64 r) ∧ Drawn0 w w' := by
 have oH := ak lR
 have xZ := ak iR
 clear lR iR
 have H : (cV.l0 k a1 0 l0 (l0.length : Int) 0) = some r := h
 clear h
 have H' := ak H
 clear H
 go_enter Try.func68, Try.ntmps68
 go_wp2
 go_loopg [5, 10] k (fun kq v5 v10 w' => ∃ (CC : Int) (iG : Int), v5 = .int .i64 CC ∧ v10 = .int .i64 iG ∧ Aside0 (cV.l0 kq a1 CC l0 (l0.length : Int) iG = some r) ∧ Aside0 (kq ≤ k) ∧ Drawn0 w w')
 case atStart => exact ⟨(0), (0), (by first | rfl | (simp; done) | (simp [*]; done)), (by first | rfl | (simp; done) | (simp [*]; done)), H', ⟨Nat.le_refl _⟩, by repeat (first | exact Drawn0.refl _ | apply Drawn0.step)⟩
 case round =>
  clear H'
  obtain ⟨CC, iG, rfl, rfl, HA, du, ⟨m1, rfl⟩⟩ := hrel
  cases gk with
  | zero => exact absurd HA.out (by simp [cV.l0])
  | succ k1 =>
   have H := HA.out
   clear HA
   simp only [cV.l0] at H
   by_cases c3 : iG < (l0.length : Int)
   ·rw [if_pos c3] at H
    have ny : decide (iG < (l0.length : Int)) = true := decide_eq_true c3
    clear c3
    by_cases c4 : 0 ≤ iG
    ·rw [if_pos c4] at H
     have oS : decide (0 ≤ iG) = true := decide_eq_true c4
     clear c4
     by_cases c5 : iG < (l0.length : Int)
     ·rw [if_pos c5] at H
      have yp : decide (iG < (l0.length : Int)) = true := decide_eq_true c5
      clear c5
      by_cases c6 : (rd l0 iG) = a1
      ·rw [if_pos c6] at H
       have nW : ((rd l0 iG) == a1) = true := beq_iff_eq.mpr c6
       have PL : ((rd l0 iG) != a1) = false := bne_eq_false_iff_eq.mpr c6
       clear c6
       have H' := ak H
       clear H
       have rT : 0 ≤ (iG : Int) := of_decide_eq_true (by first | (with_reducible assumption) | assumption)
       have rK : iG < (l0.length : Int) := of_decide_eq_true (by first | (with_reducible assumption) | assumption)
       obtain ⟨NQ, DR, Ix⟩ := Kd.at_int oH.out iG rT rK
       cases DR
       replace rT := eq_true rT
       replace rK := eq_true rK
       go_wp2
       go_roundg k1
       case measure => have := du.out; omega
       case rel => exact ⟨(wrap64 (CC + 1)), (wrap64 (iG + 1)), (by first | rfl | (simp; done) | (simp [*]; done)), (by first | rfl | (simp; done) | (simp [*]; done)), H', ⟨by have := du.out; omega⟩, by repeat (first | exact Drawn0.refl _ | apply Drawn0.step)⟩
      ·rw [if_neg c6] at H
       have nW : ((rd l0 iG) == a1) = false := beq_eq_false_iff_ne.mpr c6
       have PL : ((rd l0 iG) != a1) = true := bne_iff_ne.mpr c6
       have H' := ak H
       clear H
       have rT : 0 ≤ (iG : Int) := of_decide_eq_true (by first | (with_reducible assumption) | assumption)
       have rK : iG < (l0.length : Int) := of_decide_eq_true (by first | (with_reducible assumption) | assumption)
       obtain ⟨NQ, DR, Ix⟩ := Kd.at_int oH.out iG rT rK
       cases DR
       replace rT := eq_true rT
       replace rK := eq_true rK
       go_wp2
       go_roundg k1
       case measure => have := du.out; omega
       case rel => exact ⟨(CC), (wrap64 (iG + 1)), (by first | rfl | (simp; done) | (simp [*]; done)), (by first | rfl | (simp; done) | (simp [*]; done)), H', ⟨by have := du.out; omega⟩, by repeat (first | exact Drawn0.refl _ | apply Drawn0.step)⟩
     ·rw [if_neg c5] at H
      exact absurd H (by simp)
    ·rw [if_neg c4] at H
     exact absurd H (by simp)
   ·rw [if_neg c3] at H
    have ny : decide (iG < (l0.length : Int)) = false := decide_eq_false c3
    clear c3
    obtain rfl := Option.some.inj H
    go_wp2
    go_ret
    exact ⟨by first | rfl | (simp; done) | (simp [*]; done), by repeat (first | exact Drawn0.refl _ | apply Drawn0.step)⟩
end Go.Proofs.Ytemhalnhbgkbcaa.V
end

section
namespace Go.Proofs.Ytemhalnhbgkbcaa.V
theorem iz.R {W : World} {b : Bk} {A A' : Option Addr} {c c' : Nat} (h : BkR W b A c A' c') : iz W (.agg (aU b.addr b.aff b.slots (.slice A b.free.length c) (.slice A' b.attrs.length c')).toArray) b := ⟨A, c, A', c', rfl, h⟩
theorem Oy (b : Bk) (hk : BkOk b) (hp : RightP b) (hsl : b.slots.length = 64) (t : ByteArray) (ht : strOfNums (gW b) = t) (M : List S76) (hM : M = b.attrs.map vc) (As Af Aa : Option Addr) (cs cf ca : Nat) (w : World)
  (h1 : Kd.C (Kd.int .i64) w As b.slots.length b.slots ∧ b.slots.length ≤ cs) (h2 : Kd.C (Kd.int .i64) w Af b.free.length b.free ∧ b.free.length ≤ cf) (h3 : Kd.C ib w Aa M.length M ∧ M.length ≤ ca) :
  Calls Try.prog 39 #[.agg #[.int .u32 b.addr, .string b.aff, .slice As b.slots.length cs, .slice Af b.free.length cf, .slice Aa M.length ca]] w fun e w' => e = .returned (.string t) ∧ Below w.heap.size w w' := by
 subst hM
 rw [← ht]
 exact JE b hk hp hsl As Af Aa cs cf ca w h1.1 h2.1 h3.1
end Go.Proofs.Ytemhalnhbgkbcaa.V
end

section
namespace Go.Proofs.Ytemhalnhbgkbcaa.V
theorem Oz (l : List Int) (i : Nat) (h : i < l.length) : rd l (i : Int) = l[i] := by simp [rd, List.getD, h]
theorem NG (l : List Int) (hl : l.length ≤ 1000) (x : Int) (k : Nat) (hk : l.length < k) : cV.f k l x = some ((l.count x : Nat) : Int) := by
 have key : ∀ (d k i c : Nat), i + d = l.length → d < k → c ≤ i → cV.l0 k x (c : Int) l (l.length : Int) (i : Int) = some ((c + (l.drop i).count x : Nat) : Int) := by
  intro d
  induction d with
  | zero =>
   intro k i c hi hk hc
   obtain ⟨k, rfl⟩ : ∃ m, k = m + 1 := ⟨k - 1, by omega⟩
   rw [cV.l0, if_neg (by omega), List.drop_of_length_le (by omega)]
   simp
  | succ d ih =>
   intro k i c hi hk hc
   obtain ⟨k, rfl⟩ : ∃ m, k = m + 1 := ⟨k - 1, by omega⟩
   have hil : i < l.length := by omega
   rw [cV.l0, if_pos (by omega), if_pos (by omega), if_pos (by omega), Oz l i hil, ik ((i : Int) + 1) (by omega) (by omega), ik ((c : Int) + 1) (by omega) (by omega), List.drop_eq_getElem_cons hil, List.count_cons]
   by_cases h : l[i] = x
   ·rw [if_pos h, show (c : Int) + 1 = ((c + 1 : Nat) : Int) by omega, show (i : Int) + 1 = ((i + 1 : Nat) : Int) by omega, ih k (i + 1) (c + 1) (by omega) (by omega) (by omega)]
    simp [h]
    omega
   ·rw [if_neg h, show (i : Int) + 1 = ((i + 1 : Nat) : Int) by omega, ih k (i + 1) c (by omega) (by omega) (by omega)]
    simp [h]
 unfold cV.f
 rw [show (0 : Int) = ((0 : Nat) : Int) from rfl, key l.length k 0 0 (by omega) hk (by omega)]
 simp
section
variable (addr : Int) (aff : ByteArray) (sl fr : List Int) (M : List S76)
end
end Go.Proofs.Ytemhalnhbgkbcaa.V
end

