/- The law ViewApart for every input: texts of ours, put together (part 10 of 16). No further condition. -/
import Derived.Test.YtndddnglapkplaaGreatDoorCViewApartx2
import Derived.Test.YtndddnglapkplaaGreatDoorCViewApartx5
import Derived.Test.YtndddnglapkplaaGreatDoorCViewApartx8
import Derived.Test.YtndddnglapkplaaGreatDoorCViewApartx3
import Derived.Outline
import Derived.Test.YtndddnglapkplaaGreatDoorCViewApartx4
import Derived.Lib.ConvBytes
import Derived.Lib.AtoiErrMem
import Derived.Laws.CopyRow
import Derived.Laws.IdiomCopy
import Derived.Test.YtndddnglapkplaaGreatDoorCViewApartw0
import Derived.ArgAppend
import Derived.Lib.SlBytesConst
set_option linter.unusedVariables false
set_option linter.unusedSimpArgs false
open Go.RowKit Go.Proofs.YtndddnglapkplaaGreatDoorW.PrintWords Go.Proofs.YtndddnglapkplaaGreatDoorW.PrintLast Go.Proofs.YtndddnglapkplaaGreatDoorW.PrintMore Go.Proofs.YtndddnglapkplaaGreatDoor.Z
section
namespace Go.Proofs.YtndddnglapkplaaGreatDoor.V
theorem uL {g : Nat} {ok : Nat → Prop} {v : Value} {l : List Int} {bad : Bool} (W : World) (h : Rd W g ok v l bad) :
  Calls Tryz.prog 85 #[.pointer (some ⟨g, 0, none⟩)] W fun e W' => e = .returned (.bool (!bad && ((l.length : Int) == 0))) ∧ Below W.heap.size W W' := by
 have H := ak h
 obtain ⟨A, c, rfl, hc, hF⟩ := h.vw
 clear h hF
 cases bad with
 | true =>
  go_enter Tryz.func85, Tryz.ntmps85
  go_wp2_with (first
   | (go_at_call 95; refine (jP _ H.out).mono ?_; rintro e W1 ⟨rfl, aW⟩; have cP := ak aW; clear aW))
  go_ret
  exact ⟨rfl, cP.out⟩
 | false =>
  go_enter Tryz.func85, Tryz.ntmps85
  go_wp2_with (first
   | (go_at_call 95; refine (jP _ H.out).mono ?_; rintro e W1 ⟨rfl, aW⟩; have LX := (H.out.below aW).box.cell 0 _ rfl; have cP := ak aW; clear aW))
  go_ret
  exact ⟨rfl, cP.out⟩
def bj (l : List Int) : Nat := l.foldl (fun n c => n * 256 + c.toNat) 0
theorem xA (l : List Int) (x : Int) : bj (l ++ [x]) = bj l * 256 + x.toNat := by simp [bj, List.foldl_append]
theorem BD : ∀ (l : List Int), dK l → ∀ n, l.foldl (fun n c => n * 256 + c.toNat) n < (n + 1) * 256 ^ l.length
 | [], _, n => by simp
 | x :: l, h, n => by
  have h1 := BD l (fun y hy => h y (by simp [hy])) (n * 256 + x.toNat)
  have h2 := h x (by simp)
  have h3 : (n * 256 + x.toNat + 1) * 256 ^ l.length ≤ ((n + 1) * 256) * 256 ^ l.length := Nat.mul_le_mul_right _ (by omega)
  rw [List.foldl_cons, List.length_cons, Nat.pow_succ, Nat.mul_comm (256 ^ l.length) 256, ← Nat.mul_assoc]
  omega
theorem oC {l : List Int} (h : dK l) : bj l < 256 ^ l.length := by
 have := BD l h 0
 simpa [bj] using this
theorem En (n b : Nat) (hn : n < 72057594037927936) (hb : b < 256) : Go.bits .or .u64 ((n : Int) * 256) (b : Int) = ((n * 256 + b : Nat) : Int) := by
 rw [show (n : Int) * 256 = ((n * 256 : Nat) : Int) by omega, u64_or_nat _ _ (by omega) (by omega), nat_join 8 _ _ (by omega) (by omega)]
set_option maxHeartbeats 1000000 in
theorem u5 {g : Nat} {ok : Nat → Prop} {v : Value} {l : List Int} {bad : Bool} (m : Nat) (ER : 1 ≤ m) (iu : m ≤ 7) (hl : dK l) (W : World) (h : Rd W g ok v l bad) :
  Calls Tryz.prog 84 #[.pointer (some ⟨g, 0, none⟩), .int .i64 (m : Int)] W fun e W' => ∃ v', e = .returned (.int .u64 (bj (aT l bad m).1 : Nat)) ∧ Rd W' g ok v' (aT l bad m).2.1 (aT l bad m).2.2 ∧ W.grownBy W' (some g) := by
 have H := ak h
 obtain ⟨p, hp⟩ : ∃ p, p = aT l bad m := ⟨_, rfl⟩
 have PL : dK p.1 := by
  rw [hp]; unfold aT; split
  ·exact fun x hx => hl x (List.mem_of_mem_take hx)
  ·intro x hx; simp at hx
 have hpl : p.1.length ≤ 7 := by
  rw [hp]; unfold aT; split
  ·simp; omega
  ·simp
 rw [← hp]
 have HP := ak hp
 have Cq := ak PL
 obtain ⟨L, l', bad'⟩ := p
 have b1 : decide ((m : Int) < 1) = false := by simp; omega
 have b2 : decide (8 < (m : Int)) = false := by simp; omega
 have b3 : decide ((m : Int) > 8) = false := by simp; omega
 clear h hp PL
 dsimp only at Cq hpl ⊢
 go_enter Tryz.func84, Tryz.ntmps84
 go_wp2_with (first
  | (go_at_call 90; refine (nL (m : Int) (by omega) (by omega) _ H.out).mono ?_; rw [← HP.out]; rintro e W1 ⟨u, v', rfl, hv, hr, hg⟩; have HR := ak hr; have HG := ak hg; obtain ⟨A, c, rfl, hc, hF⟩ := hv; have HF := ak hF; clear hr hg hF))
 go_loopw [5, 7, 20] (fun s _ i V => ∃ k : Nat, k ≤ L.length ∧ V = W1 ∧ i = .int .i64 k ∧ s = .int .u64 ((bj (L.take k) : Nat) : Int)) (fun _ _ i _ => L.length - (intOf i).toNat)
 case atStart => exact ⟨0, by omega, rfl, rfl, rfl⟩
 case round =>
  obtain ⟨k, hk, rfl, rfl, rfl⟩ := hrel
  by_cases hkn : k < L.length
  ·have hkb : decide ((k : Int) < (L.length : Int)) = true := by simp; omega
   obtain ⟨ad, eA, hx⟩ := Kd.at_int (HF.out wr (fun _ _ _ => rfl)) k (by omega) (by omega)
   cases eA
   rw [Int.toNat_natCast] at hx
   have p1 : ((k : Int) < (L.length : Int)) = True := eq_true (by omega)
   obtain ⟨z, hz⟩ : ∃ z : Nat, rd L k = (z : Int) := ⟨(rd L k).toNat, by have := (iM Cq.out k).1; omega⟩
   have nG : z < 256 := by have := (iM Cq.out k).2; omega
   rw [hz] at hx
   obtain ⟨n, hn⟩ : ∃ n, n = bj (L.take k) := ⟨_, rfl⟩
   have hnl : n < 72057594037927936 := by
    have h1 := oC (l := L.take k) (fun x hx => Cq.out x (List.mem_of_mem_take hx))
    have h2 : (256 : Nat) ^ (L.take k).length ≤ 256 ^ 7 := Nat.pow_le_pow_right (by omega) (by rw [List.length_take]; omega)
    rw [hn]
    exact Nat.lt_of_lt_of_le h1 (Nat.le_trans h2 (by decide))
   have hnx : bj (L.take (k + 1)) = n * 256 + z := by
    rw [List.take_add_one, List.getElem?_eq_getElem hkn]
    have e : L[k] = (z : Int) := by rw [← hz]; simp [rd, List.getD, hkn]
    rw [e]
    show bj (L.take k ++ [(z : Int)]) = _
    rw [xA, ← hn, Int.toNat_natCast]
   have HNX := ak hnx
   rw [← hn]
   clear hn hnx hz
   go_wp2
   rw [En n z hnl nG]
   exact ⟨⟨k + 1, by omega, trivial, by go_num, by rw [HNX.out]⟩, by simp [intOf]; omega⟩
  ·obtain rfl : k = L.length := by omega
   have hkb : decide ((L.length : Int) < (L.length : Int)) = false := by simp
   rw [List.take_of_length_le (Nat.le_refl L.length)]
   go_wp2
   go_ret
   exact ⟨_, rfl, HR.out, HG.out⟩
theorem qk {g : Nat} {ok : Nat → Prop} {v : Value} {l : List Int} {bad : Bool} (hl : dK l) (W : World) (h : Rd W g ok v l bad) :
  Calls Tryz.prog 84 #[.pointer (some ⟨g, 0, none⟩), .int .i64 1] W fun e W' => ∃ v', e = .returned (.int .u64 (bj (aT l bad 1).1 : Nat)) ∧ Rd W' g ok v' (aT l bad 1).2.1 (aT l bad 1).2.2 ∧ W.grownBy W' (some g) := u5 1 (by omega) (by omega) hl W h
theorem KR {g : Nat} {ok : Nat → Prop} {v : Value} {l : List Int} {bad : Bool} (hl : dK l) (W : World) (h : Rd W g ok v l bad) :
  Calls Tryz.prog 84 #[.pointer (some ⟨g, 0, none⟩), .int .i64 4] W fun e W' => ∃ v', e = .returned (.int .u64 (bj (aT l bad 4).1 : Nat)) ∧ Rd W' g ok v' (aT l bad 4).2.1 (aT l bad 4).2.2 ∧ W.grownBy W' (some g) := u5 4 (by omega) (by omega) hl W h
theorem cO {l : List Int} (hl : dK l) (bad : Bool) (n : Int) : dK (aT l bad n).1 ∧ dK (aT l bad n).2.1 := by
 unfold aT
 split
 ·exact ⟨fun x hx => hl x (List.mem_of_mem_take hx), fun x hx => hl x (List.mem_of_mem_drop hx)⟩
 ·exact ⟨fun x hx => by simp at hx, hl⟩
theorem iz (l : List Int) (bad : Bool) (n : Nat) : (aT l bad n).1.length ≤ n := by
 unfold aT
 split
 ·rw [List.length_take]; omega
 ·simp
theorem mi {l : List Int} (hl : dK l) (bad : Bool) : bj (aT l bad 1).1 < 256 := by
 have h1 := oC (cO hl bad 1).1
 have h2 := iz l bad 1
 exact Nat.lt_of_lt_of_le h1 (Nat.pow_le_pow_right (by omega) h2)
def cH (l : List Int) (bad : Bool) : List Int × List Int × Bool := aT (aT l bad 1).2.1 ((aT l bad 1).2.2 || decide (64 < bj (aT l bad 1).1)) (bj (aT l bad 1).1 : Nat)
set_option maxHeartbeats 1000000 in
theorem uA {g : Nat} {ok : Nat → Prop} {v : Value} {l : List Int} {bad : Bool} (hl : dK l) (W : World) (h : Rd W g ok v l bad) :
  Calls Tryz.prog 88 #[.pointer (some ⟨g, 0, none⟩)] W fun e W' => ∃ v', e = .returned (.string (strOfNums (cH l bad).1)) ∧ Rd W' g ok v' (cH l bad).2.1 (cH l bad).2.2 ∧ W.grownBy W' (some g) := by
 have H := ak h
 have HL := ak hl
 have hn := mi hl bad
 have HU := ak (qk hl (bad := bad) (g := g) (ok := ok) (v := v))
 have HT : Aside0 (cH l bad = aT (aT l bad 1).2.1 ((aT l bad 1).2.2 || decide (64 < bj (aT l bad 1).1)) (bj (aT l bad 1).1 : Nat)) := ⟨rfl⟩
 generalize hp : aT l bad 1 = p at hn HU HT
 generalize hq : cH l bad = q at HT ⊢
 clear hp hq
 obtain ⟨L, l1, Ae⟩ := p
 dsimp only at hn HU HT
 generalize bj L = n at hn HU HT
 by_cases pH : 64 < n
 ·have b1 : decide (64 < n) = true := by simp; omega
  have HQ := ak (show q = aT l1 true (n : Int) by rw [HT.out, b1, Bool.or_true])
  clear h hl HT
  go_enter Tryz.func88, Tryz.ntmps88
  go_wp2_with (first
   | (go_at_call 84; refine (HU.out _ H.out).mono ?_; rintro e W1 ⟨v1, rfl, jE, dh⟩; have H1 := ak jE; have nR := ak dh; clear jE dh)
   | (go_at_call 114; refine (pz _ H1.out).mono ?_; rintro e W2 ⟨rfl, hJ, dH⟩; have H2 := ak hJ; have fw := ak (nR.out.trans dH); clear hJ dH)
   | (go_at_call 90; refine (nL (n : Int) (by omega) (by omega) _ H2.out).mono ?_; rw [← HQ.out]; rintro e W3 ⟨u, v3, rfl, zd, fB, dx⟩; have H3 := ak fB; have ux := ak (fw.out.trans dx); obtain ⟨A3, c3, rfl, zx, sL⟩ := zd; have hst := Kd.C_string (P := Tryz.prog) (src := 61) (dst := 9) (c := c3) Tryz.underlying61 Tryz.underlying5 Tryz.underlying9 (sL W3 (fun _ _ _ => rfl)); clear fB dx sL))
  go_ret
  exact ⟨_, rfl, H3.out, ux.out⟩
 ·have b1 : decide (64 < n) = false := by simp; omega
  have HQ := ak (show q = aT l1 Ae (n : Int) by rw [HT.out, b1, Bool.or_false])
  clear h hl HT
  go_enter Tryz.func88, Tryz.ntmps88
  go_wp2_with (first
   | (go_at_call 84; refine (HU.out _ H.out).mono ?_; rintro e W1 ⟨v1, rfl, jE, dh⟩; have H1 := ak jE; have nR := ak dh; clear jE dh)
   | (go_at_call 90; refine (nL (n : Int) (by omega) (by omega) _ H1.out).mono ?_; rw [← HQ.out]; rintro e W3 ⟨u, v3, rfl, zd, fB, dx⟩; have H3 := ak fB; have ux := ak (nR.out.trans dx); obtain ⟨A3, c3, rfl, zx, sL⟩ := zd; have hst := Kd.C_string (P := Tryz.prog) (src := 61) (dst := 9) (c := c3) Tryz.underlying61 Tryz.underlying5 Tryz.underlying9 (sL W3 (fun _ _ _ => rfl)); clear fB dx sL))
  go_ret
  exact ⟨_, rfl, H3.out, ux.out⟩
theorem C0 (l : List Int) (A : Option Addr) (c : Nat) (w : World) (hC : Kd.C (Kd.int .u8) w A l.length l) (hc : l.length ≤ c) (hl : l.length ≤ 4294967296) :
  Calls Tryz.prog 83 #[.slice A l.length c] w fun e w' => ∃ g v, e = .returned (.pointer (some ⟨g, 0, none⟩)) ∧ Rd w' g (fun k => w.heap.size ≤ k ∧ k ≠ g) v l false ∧ w.heap.size ≤ g ∧ Below w.heap.size w w' := by
 have HC := ak hC
 have HF := ak (show e9.f l = some l from if_pos hl)
 clear hC
 go_enter Tryz.func83, Tryz.ntmps83
 go_wp2_with (first
  | (go_at_call 113; refine (e9.calls A c l l w HC.out hc HF.out).mono ?_; rintro e W1 ⟨v1, rfl, fK, aW⟩; have nO := ak fK; have cP := ak aW; obtain ⟨A1, c1, rfl⟩ := Kd.R_slice fK; clear fK aW)
  | (refine fL rfl 185 (.tmp 5) rfl _ rfl ?_; intro g W2 hg hbx bC))
 go_ret
 have hW : W1.heap.size ≤ g := hg
 refine ⟨g, _, rfl, ⟨hbx, ?_, fun k hk => hk.2⟩, Nat.le_trans cP.out.size hW, cP.out.trans (bC.mono cP.out.size)⟩
 refine Kd.V_below (Kd.R_V (base := w.heap.size) (Kd.R_mono (Kd.R_bound nO.out) (fun k hk => ⟨hk.2.1, fun e => ?_⟩))) bC
 have := hk.2.2.1
 omega
end Go.Proofs.YtndddnglapkplaaGreatDoor.V
end

section
namespace Go.Proofs.YtndddnglapkplaaGreatDoor.V
theorem Ab : Tryz.prog.built 64 [] = some ju.toArray := by kernel_rfl
theorem sd : ∀ v ∈ ju, v.oneCell' = true := oE _ _ _ _ _ rfl rfl
end Go.Proofs.YtndddnglapkplaaGreatDoor.V
end

section
namespace Go.Proofs.YtndddnglapkplaaGreatDoor.V
structure Rw where
 addr : Int
 aff : ByteArray
 slots : List Int
 free : List Int
 attrs : List S78
structure RwR (W : World) (b : Rw) (A : Option Addr) (c : Nat) (A' : Option Addr) (c' : Nat) : Prop where
 l64 : b.slots.length = 64
 fr : Kd.C (Kd.int .u8) W A b.free.length b.free
 fc : b.free.length ≤ c
 ar : Kd.C lP W A' b.attrs.length b.attrs
 ac : b.attrs.length ≤ c'
theorem RwR.below {W W1 : World} {b : Rw} {A A' : Option Addr} {c c' : Nat} (h : RwR W b A c A' c') (hb : Below W.heap.size W W1) : RwR W1 b A c A' c' := ⟨h.l64, Kd.C_below h.fr hb, h.fc, Kd.C_below h.ar hb, h.ac⟩
def MF (W : World) (v : Value) (b : Rw) : Prop := ∃ A c A' c', v = .agg (en b.addr b.aff b.slots (.slice A b.free.length c) (.slice A' b.attrs.length c')).toArray ∧ RwR W b A c A' c'
theorem MF.below {W W1 : World} {v : Value} {b : Rw} (h : MF W v b) (hb : Below W.heap.size W W1) : MF W1 v b := by
 obtain ⟨A, c, A', c', e, hr⟩ := h
 exact ⟨A, c, A', c', e, hr.below hb⟩
def cv (a : S78) : At := ⟨a.f0, a.f1⟩
def ours (r : Rw) : Bk := ⟨r.addr, r.aff, r.slots, r.free.take 70, (r.attrs.take 70).map cv⟩
theorem eC {P : Program} {ops : Array Oper} {rest : List Oper} {o : Oper} {a : Act} {w : World} {Q : Exit → Act → World → Prop} (hgd : o.guard = none) (t : TypeId) (parts : Array (Nat × Operand)) (ho : o.op = .build t parts) (vals : List (Nat × Value)) (hv : (parts.map fun (i, x) => (i, a.eval x)).toList = vals) (cs : List Value)
  (hf : P.built t vals = some cs.toArray) (h : wpList P ops Q rest (a.put o.dst (.agg cs.toArray)) w) : wpList P ops Q (o :: rest) a w := ev hgd t parts ho cs (by rw [hv]; exact hf) h
end Go.Proofs.YtndddnglapkplaaGreatDoor.V
end

section
namespace Go.Proofs.YtndddnglapkplaaGreatDoor.V
def fF (l : List Int) : List Int × List Int × Bool := cH (cH l false).2.1 (cH l false).2.2
def pU (l : List Int) : At := ⟨strOfNums (cH l false).1, strOfNums (fF l).1⟩
def ej : Nat → List Int → Bool → List At × List Int × Bool
 | 0, l, bad => ([], l, bad)
 | n + 1, l, bad => if bad = true then ([], l, true) else (pU l :: (ej n (fF l).2.1 (fF l).2.2).1, (ej n (fF l).2.1 (fF l).2.2).2)
def mh (l : List Int) (bad : Bool) : List At × List Int × Bool := ej (bj (aT l bad 1).1) (aT l bad 1).2.1 (aT l bad 1).2.2
theorem j3 {l : List Int} (hl : dK l) (bad : Bool) : dK (cH l bad).2.1 := (cO (cO hl bad 1).2 _ _).2
theorem xU : ∀ (n : Nat) (l : List Int) (bad : Bool), dK l → dK (ej n l bad).2.1
 | 0, l, bad, h => h
 | n + 1, l, bad, h => by
  unfold ej
  split
  ·exact h
  ·exact xU n _ _ (j3 (j3 h _) _)
theorem Mo (s : ByteArray) : Tryz.prog.built 81 [(0, .string s)] = some [Value.string s, .string ⟨#[]⟩].toArray := by kernel_rfl
theorem Rd.bound {W : World} {g : Nat} {ok : Nat → Prop} {v : Value} {l : List Int} {bad : Bool} (h : Rd W g ok v l bad) : Rd W g (fun k => ok k ∧ k < W.heap.size) v l bad := ⟨h.box, Kd.V_bound h.vw, fun k hk => h.ng k hk.1⟩
theorem Rd.mono {W : World} {g : Nat} {ok ok' : Nat → Prop} {v : Value} {l : List Int} {bad : Bool} (h : Rd W g ok v l bad) (hm : ∀ k, ok k → ok' k) (hn : ∀ k, ok' k → k ≠ g) : Rd W g ok' v l bad := ⟨h.box, Kd.V_mono h.vw hm, hn⟩
theorem oG {α : Type} {d : Kd α} {e base g : Nat} {W W1 : World} {ok : Nat → Prop} {v : Value} {xs : List α} (h : d.R e W base ok v xs) (hg : W.grownBy W1 (some g)) (hlt : g < base) : d.R e W1 base ok v xs :=
 Kd.R_mono (Kd.R_grown (Kd.R_bound h) hg (fun k hk he => by have := hk.2.1; have := Option.some.inj he; omega)) (fun _ hk => hk.1)
set_option maxHeartbeats 4000000 in
theorem za {g : Nat} {ok : Nat → Prop} {v : Value} {l : List Int} {bad : Bool} (hl : dK l) (w : World) (h : Rd w g ok v l bad) :
  Calls Tryz.prog 89 #[.pointer (some ⟨g, 0, none⟩)] w fun e w' => ∃ o v', e = .returned o ∧ Kd.R vH 81 w' w.heap.size (fun _ => True) o (mh l bad).1 ∧ Rd w' g ok v' (mh l bad).2.1 (mh l bad).2.2 ∧ w.grownBy w' (some g) := by
 have hgl := h.box.lt
 have HNG := ak h.ng
 have H := ak h.bound
 have HU := ak (qk hl (bad := bad) (g := g) (ok := fun k => ok k ∧ k < w.heap.size) (v := v))
 have Ik := (cO hl bad 1).2
 have hn := mi hl bad
 have HF : Aside0 (ej (bj (aT l bad 1).1) (aT l bad 1).2.1 (aT l bad 1).2.2 = mh l bad) := ⟨rfl⟩
 generalize hfu : mh l bad = full at HF ⊢
 generalize hp : aT l bad 1 = p at HU Ik HF hn
 obtain ⟨L, l1, Ae⟩ := p
 dsimp only at HU Ik HF hn
 generalize bj L = n at HU HF hn
 clear h hp hfu hl
 go_enter Tryz.func89, Tryz.ntmps89
 go_wp2_with (first
  | (go_at_call 84; refine (HU.out _ H.out).mono ?_; rintro e W1 ⟨v1, rfl, jE, dh⟩; have H1 := ak jE; have nR := ak dh; clear jE dh))
 go_loopw [3, 4, 5] (fun o nv _ W => ∃ (m : Nat) (l2 : List Int) (gZ : Bool) (acc : List At) (v2 : Value), m + acc.length = n ∧ nv = .int .u64 ((m : Nat) : Int) ∧ Aside0 (Kd.R vH 81 W w.heap.size (fun _ => True) o acc) ∧ Aside0 (Rd W g (fun k => ok k ∧ k < w.heap.size) v2 l2 gZ) ∧ Aside0 (w.grownBy W (some g)) ∧ Aside0 (dK l2) ∧ Aside0 (full = (acc ++ (ej m l2 gZ).1, (ej m l2 gZ).2))) (fun _ nv _ _ => (intOf nv).toNat)
 case atStart => exact ⟨n, l1, Ae, [], v1, by simp, rfl, ⟨Kd.R_nil _ _ _ _ _⟩, H1, nR, ⟨Ik⟩, ⟨by rw [← HF.out, List.nil_append]⟩⟩
 case round =>
  clear H1 nR Ik HF HU
  obtain ⟨m, l2, gZ, acc, v2, hm, rfl, HO, HR, HG, H8, HE⟩ := hrel
  obtain ⟨W, rfl⟩ : ∃ W : World, W = wr := ⟨_, rfl⟩
  cases m with
  | zero =>
   obtain ⟨Ao, co, rfl⟩ := Kd.R_slice HO.out
   go_wp2
   go_ret
   have e : full = (acc, l2, gZ) := by rw [HE.out]; simp [ej]
   rw [e]
   exact ⟨_, _, rfl, HO.out, HR.out.mono (fun _ hk => hk.1) HNG.out, HG.out⟩
  | succ m =>
   have hgt : decide ((0 : Int) < ((m + 1 : Nat) : Int)) = true := by rw [decide_eq_true_eq]; omega
   cases gZ with
   | true =>
    obtain ⟨Ao, co, rfl⟩ := Kd.R_slice HO.out
    have e : full = (acc, l2, true) := by rw [HE.out]; simp [ej]
    go_wp2_with (first
     | (go_at_call 95; refine (jP _ HR.out).mono ?_; rintro e W1 ⟨rfl, aW⟩; have kx := ak (HR.out.below aW); have nO := ak (Kd.R_below HO.out aW); have nR := ak (HG.out.trans (df aW _)); clear aW))
    go_ret
    rw [e]
    exact ⟨_, _, rfl, nO.out, kx.out.mono (fun _ hk => hk.1) HNG.out, nR.out⟩
   | false =>
    have n9 := ak (show full = (acc ++ (pU l2 :: (ej m (fF l2).2.1 (fF l2).2.2).1), (ej m (fF l2).2.1 (fF l2).2.2).2) from HE.out)
    have wu := ak (fun (W : World) (v : Value) (h : Rd W g (fun k => ok k ∧ k < w.heap.size) v l2 false) => uA H8.out W h)
    have vN := j3 H8.out false
    have tc := ak (fun (W : World) (v : Value) (h : Rd W g (fun k => ok k ∧ k < w.heap.size) v (cH l2 false).2.1 (cH l2 false).2.2) => uA vN W h)
    have mU := ak (j3 vN (cH l2 false).2.2)
    have HA : Aside0 (pU l2 = ⟨strOfNums (cH l2 false).1, strOfNums (cH (cH l2 false).2.1 (cH l2 false).2.2).1⟩) := ⟨rfl⟩
    have HTE : Aside0 (fF l2 = cH (cH l2 false).2.1 (cH l2 false).2.2) := ⟨rfl⟩
    generalize fF l2 = q1 at n9 HTE
    generalize pU l2 = P5 at n9 HA
    generalize cH l2 false = q0 at wu tc mU HA HTE vN
    generalize cH q0.2.1 q0.2.2 = q2 at tc mU HA HTE
    obtain ⟨b0, l3, d3⟩ := q0
    obtain ⟨b1, l4, d4⟩ := q2
    dsimp only at wu tc mU HA HTE
    obtain ⟨s0, kJ⟩ : ∃ s0, s0 = strOfNums b0 := ⟨_, rfl⟩
    obtain ⟨s1, nH⟩ : ∃ s1, s1 = strOfNums b1 := ⟨_, rfl⟩
    rw [← kJ] at wu HA
    rw [← nH] at tc HA
    obtain rfl := HA.out
    obtain ⟨L, hL⟩ : ∃ L : List At, L = acc ++ [⟨s0, s1⟩] := ⟨_, rfl⟩
    have HL := ak hL
    have cP := ak (Mo s0)
    have hac : acc.length ≤ 255 := by omega
    clear kJ nH vN H8 HE hL
    obtain ⟨Ao, co, rfl⟩ := Kd.R_slice HO.out
    go_wp2_with (first
     | (go_at_call 95; refine (jP _ HR.out).mono ?_; rintro e W1 ⟨rfl, aW⟩; have kx := ak (HR.out.below aW); have nO := ak (Kd.R_below HO.out aW); have nR := ak (HG.out.trans (df aW _)); clear aW HR HO HG)
     | (go_at_call 88; refine (wu.out _ _ kx.out).mono ?_; rintro e W2 ⟨v3, rfl, hJ, dH⟩; have n8 := ak hJ; have Ja := ak (oG nO.out dH hgl); have fw := ak (nR.out.trans dH); clear hJ dH kx nO nR)
     | ((with_reducible refine aA (N := 19) rfl ?_); refine eC rfl 81 #[(0, .tmp 18)] rfl [(0, .string s0)] (by simp only [List.map_toArray, List.map_cons, List.map_nil]; rfl) [Value.string s0, .string ⟨#[]⟩] cP.out ?_)
     | (refine a6 (some 5) rfl rfl 81 rfl [.string ⟨#[]⟩, .string ⟨#[]⟩] (fun _ => by kernel_rfl) ?_; intro ga W3 hga EI gP; have kv := ak EI; have pW := ak (n8.out.below gP); have Qe := ak (Kd.R_below (Kd.R_mono (ok' := fun k => k ≠ ga) (Kd.R_bound Ja.out) (fun k hk => by have := hk.2.2.1; omega)) gP); have ux := ak (fw.out.trans (df gP _)); have HGA := ak (show w.heap.size ≤ ga from Nat.le_trans fw.out.size hga); clear EI gP hga n8 Ja fw)
     | (refine aM rfl 81 (.tmp 5) (.tmp 19) rfl ga [.string s0, .string ⟨#[]⟩] rfl rfl 81 _ kv.out 2 (by kernel_rfl) rfl rfl (by intro u hu; simp at hu; rcases hu with rfl | rfl <;> rfl) ?_; intro W4 dj da; have mY := ak dj; have Co := ak (pW.out.grown da (fun k hk e => by have := hk.2; have := HGA.out; have := Option.some.inj e; omega) (fun e => by have := HGA.out; have := Option.some.inj e; omega)); have Fw := ak (Kd.R_grown Qe.out da (fun k hk e => hk (Option.some.inj e))); have pj := ak (ux.out.andThen da (fun j hj => .inl (by have := HGA.out; cases hj; exact this))); clear dj da kv pW Qe ux)
     | (go_at_call 88; refine (tc.out _ _ Co.out).mono ?_; rintro e W5 ⟨v4, rfl, sB, fQ⟩; have I3 := ak sB; have Cs := ak (oG Fw.out fQ hgl); have lq := ak (mY.out.grown fQ (fun e => by have := HGA.out; have := Option.some.inj e; omega)); have uw := ak (pj.out.trans fQ); have LH := lq.out.frozen 1; have LN := lq.out.cell 1 _ rfl; clear sB fQ Co Fw pj mY)
     | (generalize zC : W5.setCell ⟨ga, 1, none⟩ (.string s1) = W6; have zB : bS W6 ga [.string s0, .string s1] 81 := (by rw [← zC]; exact lq.out.set 1 (.string s1)); have hgS : W5.grownBy W6 (some ga) := (by rw [← zC]; exact cS W5 ga 1 (.string s1)); refine bN rfl 81 (.tmp 5) rfl ga rfl _ _ _ zB Tryz.underlying81 rfl 2 (by kernel_rfl) rfl ?_; have I2 := ak (I3.out.grown hgS (fun k hk e => by have := hk.2; have := HGA.out; have := Option.some.inj e; omega) (fun e => by have := HGA.out; have := Option.some.inj e; omega)); have qZ := ak (Kd.R_grown Cs.out hgS (fun k hk e => hk (Option.some.inj e))); have HLT := zB.lt; have nQ := ak (uw.out.andThen hgS (fun j hj => .inl (by have := HGA.out; cases hj; exact this))); clear hgS LH LN zC zB)
     | ((with_reducible refine ei (b := .append) (xs := #[.tmp 23, .tmp 25]) rfl ?_); at_builtin; refine Kd.R_append vH (w0 := W6) w.heap.size rfl (.tmp 23) (.tmp 25) 62 81 (.agg #[.string ⟨#[]⟩, .string ⟨#[]⟩]) 32 rfl Tryz.underlying62 Jy rfl (by decide) (by omega) _ acc ⟨s0, s1⟩ [.string s0, .string s1] (fun k => k ≠ ga) (fun _ => False) rfl rfl (Jt _ _ _ _) (fun _ h => h.elim) (fun k hk => by omega) qZ.out (Below.refl _ _) nQ.out.size (by omega) ?_; intro v7 w7 mX lR cz uK; rw [← HL.out] at mX; have ya := ak (Kd.R_mono (ok' := fun _ => True) mX (fun _ _ => trivial)); have I1 := ak (I2.out.grown cz (fun k hk e => by have := hk.2; have := Kd.R_base qZ.out k e.symm; omega) (fun e => by have := Kd.R_base qZ.out _ e.symm; omega)); have fU := ak (nQ.out.andThen cz (fun j hj => .inl (Kd.R_base qZ.out j hj))); clear mX lR cz uK))
    go_roundw
    case rel => exact ⟨m, q1.2.1, q1.2.2, L, v4, by rw [HL.out, List.length_append, List.length_singleton]; omega, by go_num, ya, by rw [HTE.out]; exact I1, fU, by rw [HTE.out]; exact mU, ⟨by rw [n9.out, HL.out]; simp⟩⟩
    case measure => simp [intOf]
end Go.Proofs.YtndddnglapkplaaGreatDoor.V
end

section
namespace Go.Proofs.YtndddnglapkplaaGreatDoor.V
theorem lx (s : ByteArray) : dK (bytesOf s) := by
 intro x hx
 simp only [bytesOf, List.mem_map] at hx
 obtain ⟨b, _, rfl⟩ := hx
 have := b.toNat_lt
 omega
def r0 (s : ByteArray) := aT (bytesOf s) false 1
def r1 (s : ByteArray) := aT (r0 s).2.1 (r0 s).2.2 4
def r2 (s : ByteArray) := cH (r1 s).2.1 (r1 s).2.2
def r3 (s : ByteArray) := mh (r2 s).2.1 (r2 s).2.2
def r4 (s : ByteArray) := aT (r3 s).2.1 (r3 s).2.2 64
def r5 (s : ByteArray) := aT (r4 s).2.1 (r4 s).2.2 1
def r6 (s : ByteArray) := aT (r5 s).2.1 (r5 s).2.2 (bj (r5 s).1 : Nat)
def j8 (sl L : List Int) : List Int := L ++ sl.drop L.length
def cQ (s : ByteArray) : Bk := ⟨(bj (r1 s).1 : Nat), strOfNums (r2 s).1, j8 (List.replicate 64 0) (r4 s).1, (r6 s).1, (r3 s).1⟩
def ie (s : ByteArray) : Bool := !(r6 s).2.2 && (((r6 s).2.1.length : Int) == 0)
def cy (s : ByteArray) : Bool := ie s && (decide (bj (r0 s).1 = 66) && eZ (cQ s))
theorem py (s : ByteArray) : dK (r0 s).2.1 := (cO (lx s) _ _).2
theorem rl (s : ByteArray) : dK (r1 s).2.1 := (cO (py s) _ _).2
theorem rk (s : ByteArray) : dK (r2 s).2.1 := j3 (rl s) _
theorem CF (s : ByteArray) : dK (r3 s).2.1 := xU _ _ _ (cO (rk s) _ 1).2
theorem u6 (s : ByteArray) : dK (r4 s).2.1 := (cO (CF s) _ _).2
theorem Hw (s : ByteArray) : dK (r5 s).2.1 := (cO (u6 s) _ _).2
theorem Ei (s : ByteArray) : (r4 s).1.length ≤ 64 := iz _ _ 64
theorem Fc {sl L : List Int} (hs : sl.length = 64) (h : L.length ≤ 64) : (j8 sl L).length = 64 := by
 rw [j8, List.length_append, List.length_drop]
 omega
theorem tE (s : ByteArray) : bj (r1 s).1 < 4294967296 := by
 have h1 := oC (cO (py s) (r0 s).2.2 4).1
 have h2 := iz (r0 s).2.1 (r0 s).2.2 4
 exact Nat.lt_of_lt_of_le h1 (Nat.pow_le_pow_right (by omega) h2)
theorem pD (s : ByteArray) : BkOk (cQ s) := by
 refine ⟨by show (0 : Int) ≤ ((_ : Nat) : Int); omega, by show (((bj (r1 s).1 : Nat)) : Int) < 4294967296; have := tE s; omega, ?_, (cO (Hw s) _ _).1⟩
 intro x hx
 have hx' : x ∈ (r4 s).1 ++ (List.replicate 64 (0 : Int)).drop (r4 s).1.length := hx
 rcases List.mem_append.1 hx' with h | h
 ·exact (cO (CF s) _ _).1 x h
 ·have := List.eq_of_mem_replicate (List.mem_of_mem_drop h)
  omega
section
variable {g : Nat} {ok : Nat → Prop} {v : Value} {W : World}
theorem CS (s : ByteArray) (h : Rd W g ok v (bytesOf s) false) : Calls Tryz.prog 84 #[.pointer (some ⟨g, 0, none⟩), .int .i64 1] W fun e W' => ∃ v', e = .returned (.int .u64 (bj (r0 s).1 : Nat)) ∧ Rd W' g ok v' (r0 s).2.1 (r0 s).2.2 ∧ W.grownBy W' (some g) := qk (lx s) W h
theorem Hz (s : ByteArray) (h : Rd W g ok v (r0 s).2.1 (r0 s).2.2) : Calls Tryz.prog 84 #[.pointer (some ⟨g, 0, none⟩), .int .i64 4] W fun e W' => ∃ v', e = .returned (.int .u64 (bj (r1 s).1 : Nat)) ∧ Rd W' g ok v' (r1 s).2.1 (r1 s).2.2 ∧ W.grownBy W' (some g) := KR (py s) W h
theorem NH (s : ByteArray) (h : Rd W g ok v (r1 s).2.1 (r1 s).2.2) : Calls Tryz.prog 88 #[.pointer (some ⟨g, 0, none⟩)] W fun e W' => ∃ v', e = .returned (.string (strOfNums (r2 s).1)) ∧ Rd W' g ok v' (r2 s).2.1 (r2 s).2.2 ∧ W.grownBy W' (some g) := uA (rl s) W h
theorem NS (s : ByteArray) (h : Rd W g ok v (r2 s).2.1 (r2 s).2.2) : Calls Tryz.prog 89 #[.pointer (some ⟨g, 0, none⟩)] W fun e W' => ∃ o v', e = .returned o ∧ Kd.R vH 81 W' W.heap.size (fun _ => True) o (r3 s).1 ∧ Rd W' g ok v' (r3 s).2.1 (r3 s).2.2 ∧ W.grownBy W' (some g) := za (rk s) W h
theorem NR (s : ByteArray) (h : Rd W g ok v (r3 s).2.1 (r3 s).2.2) : Calls Tryz.prog 90 #[.pointer (some ⟨g, 0, none⟩), .int .i64 64] W fun e W' => ∃ u v', e = .returned u ∧ Kd.V (Kd.int .u8) 5 W' 0 ok u (r4 s).1 ∧ Rd W' g ok v' (r4 s).2.1 (r4 s).2.2 ∧ W.grownBy W' (some g) := nL 64 (by omega) (by omega) W h
theorem NG (s : ByteArray) (h : Rd W g ok v (r4 s).2.1 (r4 s).2.2) : Calls Tryz.prog 84 #[.pointer (some ⟨g, 0, none⟩), .int .i64 1] W fun e W' => ∃ v', e = .returned (.int .u64 (bj (r5 s).1 : Nat)) ∧ Rd W' g ok v' (r5 s).2.1 (r5 s).2.2 ∧ W.grownBy W' (some g) := qk (u6 s) W h
theorem tD (s : ByteArray) : bj (r5 s).1 < 256 := mi (u6 s) _
theorem tF (s : ByteArray) : bj (r0 s).1 < 256 := mi (lx s) _
theorem NQ (s : ByteArray) (h : Rd W g ok v (r5 s).2.1 (r5 s).2.2) : Calls Tryz.prog 90 #[.pointer (some ⟨g, 0, none⟩), .int .i64 (bj (r5 s).1 : Nat)] W fun e W' => ∃ u v', e = .returned u ∧ Kd.V (Kd.int .u8) 5 W' 0 ok u (r6 s).1 ∧ Rd W' g ok v' (r6 s).2.1 (r6 s).2.2 ∧ W.grownBy W' (some g) := by
 have := tD s
 exact nL (bj (r5 s).1 : Nat) (by omega) (by omega) W h
theorem NN (s : ByteArray) (h : Rd W g ok v (r6 s).2.1 (r6 s).2.2) : Calls Tryz.prog 85 #[.pointer (some ⟨g, 0, none⟩)] W fun e W' => e = .returned (.bool (ie s)) ∧ Below W.heap.size W W' := uL W h
end
theorem qc (s : ByteArray) (hs : s.size ≤ 1000000) (w : World) :
  Calls Tryz.prog 83 #[.slice (some ⟨w.heap.size, 0, none⟩) s.size (grownCap w s.size 0 5)] (Lib.bytesWorld w 5 s) fun e w' => ∃ g v, e = .returned (.pointer (some ⟨g, 0, none⟩)) ∧ Rd w' g (fun k => (w.heap.size < k ∧ k ≠ g) ∧ k < w'.heap.size) v (bytesOf s) false ∧ w.heap.size < g ∧ Below w.heap.size w w' := by
 have hC : Kd.C (Kd.int .u8) (Lib.bytesWorld w 5 s) (some ⟨w.heap.size, 0, none⟩) (bytesOf s).length (bytesOf s) := by
  rw [ez]
  exact Kd.C_of_reads (uj w 5 s (by omega))
 have h := C0 (bytesOf s) (some ⟨w.heap.size, 0, none⟩) (grownCap w s.size 0 5) (Lib.bytesWorld w 5 s) hC (by rw [ez]; exact grownCap_ge _ _ _ _) (by rw [ez]; omega)
 rw [ez, Lib.bytesWorld_size] at h
 refine h.mono ?_
 rintro e w' ⟨g, v, rfl, hr, hg, hb⟩
 have iv : Below w.heap.size w w' := (Lib.bytesWorld_below w 5 s).trans (hb.mono (by omega))
 refine ⟨g, v, rfl, (hr.mono (ok' := fun k => w.heap.size < k ∧ k ≠ g) (fun k hk => ⟨by have := hk.1; omega, hk.2⟩) (fun k hk => hk.2)).bound, by omega, iv⟩
theorem FT {ys : List Int} {news : List Value} (h : ct (fun (x : Int) (cs : List Value) => cs = [Value.int .u8 x]) 1 ys news) : news = ys.map (Value.int .u8) := by
 have hl : news.length = ys.length * 1 := h.1
 apply List.ext_getElem
 ·rw [List.length_map]; omega
 ·intro q h1 h2
  have e := h.2 q _ (List.getElem?_eq_getElem (show q < ys.length by omega))
  rw [Nat.mul_one, List.drop_eq_getElem_cons h1, List.take_succ_cons, List.take_zero] at e
  injection e with e _
  rw [e, List.getElem_map]
set_option maxRecDepth 100000 in
theorem De {W : World} {g : Nat} {a : Int} {s : ByteArray} {sl : List Int} {vf va : Value} {ok : Nat → Prop} {u : Value} {L : List Int} (ty : TypeId) (hb : bS W g (en a s sl vf va) 64) (hl : sl.length = 64) (hv : Kd.V (Kd.int .u8) 5 W 0 ok u L) (hL : L.length ≤ 64) :
  ∃ v' w', (Builtin.copy_ #[61, 61] ty #[.slice (some ⟨g, 2, none⟩) 64 64, u]).run Tryz.prog W = .ok v' w' ∧ bS w' g (en a s (j8 sl L) vf va) 64 ∧ W.grownBy w' (some g) := by
 have hsz : (Tryz.prog.info? 5).map (·.size) = some 1 := by kernel_rfl
 obtain ⟨A, c, rfl, hc, hF⟩ := hv
 have hC := hF W (fun _ _ _ => rfl)
 rcases A with _ | ad
 ·have h0 : L = [] := by
   rcases Nat.eq_zero_or_pos L.length with h0 | h0
   ·exact List.eq_nil_of_length_eq_zero h0
   ·obtain ⟨ad, h, _⟩ := hC.2.2 h0
    cases h
  subst h0
  exact ⟨_, W, run_copy_none W 61 61 ty 5 _ _ 64 64 0 c Tryz.underlying61 hsz rfl, hb, World.grownBy.refl W _⟩
 ·obtain ⟨news, hnr, hnc⟩ := fz.inner_ hC
  obtain rfl := FT hnr
  have Vp := fl a s sl vf va hl
  refine ⟨_, _, run_copy_row Tryz.prog W 61 61 ty 5 g 2 64 64 ad L.length c (en a s sl vf va).toArray 64 (L.map (Value.int .u8)) Tryz.underlying61 hsz hb ?_ hnc ?_ ?_, ?_, ?_⟩
  ·rw [List.length_map]; exact (Nat.min_eq_left hL).symm
  ·rw [List.length_map, List.size_toArray, Vp]; omega
  ·intro x hx
   obtain ⟨z, _, rfl⟩ := List.mem_map.1 hx
   rfl
  ·have := setRow_heap W g _ (((en a s sl vf va).toArray.toList.take 2 ++ L.map (Value.int .u8) ++ (en a s sl vf va).toArray.toList.drop (2 + (L.map (Value.int .u8)).length)).toArray) 64 _ hb
   refine this.trans ?_
   congr 2
   rw [List.length_map, ← List.drop_drop]
   simp [en, j8, List.drop_append, List.length_map, hl, show L.length - 64 = 0 by omega]
  ·exact oL _ _ _
theorem CJ {ops : Array Oper} {o : Oper} {a : Act} {w : World} {K : Act → World → Prop} {Q : Exit → Act → World → Prop} {E : Prop} (hg : o.guard = none) (d x : Operand) (dT sT : TypeId)
  (hop : o.op = Op.call { callee := Callee.builtin Builtin.copy, args := #[d, x], argTypes := #[dT, sT] }) (v u : Value) (hd : a.eval d = v) (hx : a.eval x = u) {v' : Value} {w' : World}
  (hr : (Builtin.copy_ #[dT, sT] o.type #[v, u]).run Tryz.prog w = .ok v' w') (hK : K (a.put o.dst v') w') : if Region.wanted o (yielded ops a.tmps) = true then Oper.wp Tryz.prog o a w K Q else E := by
 rw [if_pos (by simp [Region.wanted, hg])]
 unfold Oper.wp
 simp [execOp, hop, resolve, invoke, builtin, hd, hx, hr, Result.andThen]
 exact hK
theorem Mn (x : Int) : Tryz.prog.built 64 [(0, .int .u32 x)] = some (en x ⟨#[]⟩ (List.replicate 64 0) (.slice none 0 0) (.slice none 0 0)).toArray := by kernel_rfl
end Go.Proofs.YtndddnglapkplaaGreatDoor.V
end

section
namespace Go.Proofs.YtndddnglapkplaaGreatDoor.V
def nF.T6 : Bool × List (List Nat × List Nat) := (true, [([], []), ([0], [0]), ([], []), ([2], [2]), ([1, 3, 3], [1, 3])])
def nF.B6 : List Nat := [0, 1, 0, 4, 15]
theorem nF.tab6 : dS .any (opsOf Tryz.f55 6) = nF.T6 := by kernel_rfl
theorem nF.bits6 : ew nF.T6.2 nF.B6 = true := by kernel_rfl
set_option maxHeartbeats 8000000 in
set_option maxRecDepth 100000 in
theorem FV (s : ByteArray) (hs : s.size ≤ 1000000) (w : World) :
  Calls Tryz.prog 55 #[.string s] w fun e w' => ∃ v, e = .returned (.tuple #[v, .int .i64 (if cy s = true then 0 else 3)]) ∧ rh w' v (if cy s = true then cQ s else KK) ∧ Below w.heap.size w w' := by
 have qH := tF s
 have mo := tE s
 have LA := tD s
 have HN := ak (qc s hs)
 have H0 := ak (@CS · · · · s)
 have H1 := ak (@Hz · · · · s)
 have H2 := ak (@NH · · · · s)
 have H3 := ak (@NS · · · · s)
 have H4 := ak (@NR · · · · s)
 have H5 := ak (@NG · · · · s)
 have H6 := ak (@NQ · · · · s)
 have H7 := ak (@NN · · · · s)
 have AH := ak (Ei s)
 have HBK : Aside0 (cQ s = ⟨(bj (r1 s).1 : Nat), strOfNums (r2 s).1, j8 (List.replicate 64 0) (r4 s).1, (r6 s).1, (r3 s).1⟩) := ⟨rfl⟩
 have HOK : Aside0 (cy s = (ie s && (decide (bj (r0 s).1 = 66) && eZ (cQ s)))) := ⟨rfl⟩
 have HBO := ak (pD s)
 generalize cy s = rok at HOK ⊢
 generalize cQ s = rbk at HBK HOK HBO ⊢
 generalize ie s = rdn at H7 HOK
 generalize bj (r0 s).1 = n0 at qH H0 HOK
 generalize bj (r1 s).1 = n1 at mo H1 HBK
 generalize bj (r5 s).1 = n5 at LA H5 H6
 generalize strOfNums (r2 s).1 = aff at H2 HBK
 generalize (r4 s).1 = L4 at H4 AH HBK
 generalize (r6 s).1 = L6 at H6 HBK
 generalize (r3 s).1 = L3 at H3 HBK
 have kb := fun (w : World) => Lib.run_convert_string_bytes (P := Tryz.prog) w 9 61 5 s Tryz.underlying9 Tryz.underlying61 Tryz.underlying5
 have HBR := ak (Mn (n1 : Int))
 have xe := ak (show (List.replicate 64 (0 : Int)).length = 64 by simp)
 have HSL := ak (Fc xe.out AH.out)
 obtain ⟨Z, hZ⟩ : ∃ Z : List Int, Z = List.replicate 64 0 := ⟨_, rfl⟩
 obtain ⟨SL, hSL⟩ : ∃ SL : List Int, SL = j8 Z L4 := ⟨_, rfl⟩
 rw [← hZ] at HBR xe HSL HBK
 rw [← hSL] at HSL HBK
 have HSE := ak hSL
 clear hZ hSL
 go_enter Tryz.func55, Tryz.ntmps55
 go_wp2_with (first
  | (refine a6 (some 2) rfl rfl 64 rfl ju uW ?_; intro g2 W1 dH fV aW; have fv := ak fV; have cP := ak aW; have fw := ak dH; have HGL := ak fV.lt; clear fV aW dH)
  | (go_at_call 83; refine (HN.out _).mono ?_; rintro e W2 ⟨gr, v2, rfl, hJ, hgr, bC⟩; have iR := ak (fv.out.below bC); have n8 := ak hJ; have HGR := ak hgr; have HNE := ak (show g2 ≠ gr by have := HGL.out; omega); have HGB := ak (show w.heap.size ≤ gr by have := cP.out.size; omega); have fx := ak (cP.out.trans (bC.mono cP.out.size)); clear hJ hgr bC fv HN)
  | (go_at_call 84; refine (H0.out _ _ _ _ n8.out).mono ?_; rintro e W3 ⟨v3, rfl, fB, dx⟩; have pW := ak fB; have kv := ak (iR.out.grown dx (fun e => HNE.out (Option.some.inj e))); have xY := ak dx.size; have iw := ak (fx.out.grown dx fx.out.size (by intro k hk; cases hk; exact HGB.out)); clear fB dx n8 iR)
  | (go_at_call 84; refine (H1.out _ _ _ _ pW.out).mono ?_; rintro e W4 ⟨v4, rfl, xN, da⟩; have Co := ak xN; have mY := ak (kv.out.grown da (fun e => HNE.out (Option.some.inj e))); have Fu := ak (Nat.le_trans xY.out da.size); have jR := ak (iw.out.grown da iw.out.size (by intro k hk; cases hk; exact HGB.out)); clear xN da pW kv iw xY)
  | ((with_reducible refine aA (N := 15) rfl ?_); refine eC rfl 64 #[(0, .tmp 14)] rfl [(0, .int .u32 (n1 : Int))] (by simp only [List.map_toArray, List.map_cons, List.map_nil]; rfl) (en (n1 : Int) ⟨#[]⟩ Z (.slice none 0 0) (.slice none 0 0)) HBR.out ?_)
  | (refine a6 (some 6) rfl rfl 64 rfl ju uW ?_; intro g6 W5 jF sI zz; have wo := ak sI; have lq := ak (mY.out.below zz); have I3 := ak (Co.out.below zz); have fJ := ak (jR.out.trans (zz.mono jR.out.size)); have nQ := ak (show W2.heap.size ≤ g6 by have := Fu.out; omega); have AJ := ak (show w.heap.size ≤ g6 by have := jR.out.size; omega); have pg := ak (show g2 ≠ g6 by have := mY.out.lt; omega); have kH := ak (show gr ≠ g6 by have := Co.out.box.lt; omega); clear sI zz jF mY Co jR Fu)
  | (refine aM rfl 64 (.tmp 6) (.tmp 15) rfl g6 (en (n1 : Int) ⟨#[]⟩ Z (.slice none 0 0) (.slice none 0 0)) rfl rfl 64 _ wo.out 68 (by kernel_rfl) (fl _ _ _ _ _ xe.out) rfl (oE _ _ _ _ _ rfl rfl) ?_; intro W6 PB jF; have xX := ak PB; have n7 := ak (lq.out.grown jF (fun e => pg.out (Option.some.inj e))); have I2 := ak (I3.out.grown jF (fun k hk e => by have := hk.2; have := nQ.out; have := Option.some.inj e; omega) (fun e => kH.out (Option.some.inj e))); have lT := ak (fJ.out.grown jF fJ.out.size (by intro k hk; cases hk; exact AJ.out)); clear PB jF wo lq I3 fJ)
  | (go_at_call 88; refine (H2.out _ _ _ _ I2.out).mono ?_; rintro e W7 ⟨v7, rfl, PI, cz⟩; have I1 := ak PI; have pf := ak (n7.out.grown cz (fun e => HNE.out (Option.some.inj e))); have s9 := ak (xX.out.grown cz (fun e => kH.out (Option.some.inj e).symm)); have kO := ak (lT.out.grown cz lT.out.size (by intro k hk; cases hk; exact HGB.out)); have PR := s9.out.frozen 1; have BQ := s9.out.cell 1 _ rfl; clear PI cz I2 n7 xX lT)
  | (generalize sK : W7.setCell ⟨g6, 1, none⟩ (.string aff) = W8; go_at_call 89; have xI : bS W8 g6 (en (n1 : Int) aff Z (.slice none 0 0) (.slice none 0 0)) 64 := (by rw [← sK]; exact s9.out.set 1 (.string aff)); have b9 : W7.grownBy W8 (some g6) := (by rw [← sK]; exact cS W7 g6 1 (.string aff)); have Qc := ak (I1.out.grown b9 (fun k hk e => by have := hk.2; have := nQ.out; have := Option.some.inj e; omega) (fun e => kH.out (Option.some.inj e))); have nN := ak (pf.out.grown b9 (fun e => pg.out (Option.some.inj e))); have ia := ak (kO.out.grown b9 kO.out.size (by intro k hk; cases hk; exact AJ.out)); refine (H3.out _ _ _ _ Qc.out).mono ?_; rintro e W9 ⟨o9, v9, rfl, qG, PG, dp⟩; have I9 := ak (Kd.R_lower qG ia.out.size); have Qb := ak PG; have I0 := ak (nN.out.grown dp (fun e => HNE.out (Option.some.inj e))); have Au := ak (xI.grown dp (fun e => kH.out (Option.some.inj e).symm)); have pk := ak (ia.out.grown dp ia.out.size (by intro k hk; cases hk; exact HGB.out)); obtain ⟨A9, c9, rfl⟩ := Kd.R_slice qG; have U6 := Au.out.frozen 67; have Vk := Au.out.cell 67 _ (pd _ _ _ _ _ xe.out); clear qG PG dp xI b9 sK PR BQ I1 pf s9 kO Qc nN ia))
 generalize Gt : W9.setCell ⟨g6, 67, none⟩ (.slice A9 L3.length c9) = mB
 have Ln : bS mB g6 (en (n1 : Int) aff Z (.slice none 0 0) (.slice A9 L3.length c9)) 64 := by
  rw [← Gt]
  have := Au.out.set 67 (.slice A9 L3.length c9)
  rwa [Dr _ _ _ _ _ xe.out] at this
 have iL : W9.grownBy mB (some g6) := by rw [← Gt]; exact cS W9 g6 67 _
 have hbd : Below mB.heap.size mB mB.drew := dq (Below.refl _ _)
 have G1 := ak (Rd.below (Qb.out.grown iL (fun k hk e => by have := hk.2; have := nQ.out; have := Option.some.inj e; omega) (fun e => kH.out (Option.some.inj e))) hbd)
 have MS := ak ((I0.out.grown iL (fun e => pg.out (Option.some.inj e))).below hbd)
 have Nd := ak (Kd.R_below (cR I9.out Au.out (by decide) iL) hbd)
 have Hk := ak (dq (pk.out.grown iL pk.out.size (by intro k hk; cases hk; exact AJ.out)))
 have MM := ak (Ln.below hbd)
 clear Gt Ln iL hbd Qb I0 Au pk I9 U6 Vk
 refine ee (n := 5) (S := fun w' => True) (ds := []) #[false, false, false, false, false] (by kernel_rfl) rfl rfl trivial (fun hHeld => ?_); refine cV nF.tab6 nF.bits6 (fun an cj => ?_)
 refine pu 0 an.out ?_
 refine pu 1 an.out ?_
 refine pu 2 an.out ?_
 refine on 3 an.out (fun K hK => ?_)
 refine gs Tryz.func90 #[.pointer (some ⟨gr, 0, none⟩), .int .i64 64] (H4.out _ _ _ _ G1.out) ?_
 rintro e P7 ⟨XP, v11, rfl, Lu, Lz, zk⟩
 refine ⟨_, rfl, ?_⟩
 have M6 := ak Lz; have MR := ak (MS.out.grown zk (fun e => HNE.out (Option.some.inj e))); have GX := ak (MM.out.grown zk (fun e => kH.out (Option.some.inj e).symm)); have Nc := ak (cR Nd.out G1.out.box (by decide) zk); have Hj := ak (Hk.out.grown zk Hk.out.size (by intro k hk; cases hk; exact HGB.out)); have MY := ak Lu; clear Lz zk Lu G1 MS MM Nd Hk
 refine kn hK trivial (fun hHeld => ?_)
 clear hK K
 refine on 4 an.out (fun K hK => ?_)
 obtain ⟨v12, IX, hrun, Gm, rF⟩ := De 3 GX.out xe.out MY.out AH.out
 rw [← HSE.out] at Gm
 have G0 := ak (M6.out.grown rF (fun k hk e => by have := hk.2; have := nQ.out; have := Option.some.inj e; omega) (fun e => kH.out (Option.some.inj e)))
 have MQ := ak (MR.out.grown rF (fun e => pg.out (Option.some.inj e)))
 have Nb := ak (cR Nc.out GX.out (by decide) rF)
 have uT := ak (Hj.out.grown rF Hj.out.size (by intro k hk; cases hk; exact AJ.out))
 have ML := ak Gm
 refine CJ rfl (.tmp 23) (.tmp 25) 61 61 rfl _ _ rfl rfl hrun ?_
 clear hrun Gm rF M6 MR GX Nc Hj MY
 refine kn hK trivial (fun hHeld => ?_)
 clear hK K
 refine dn an.out ?_
 go_wp2_with (first
  | (go_at_call 84; refine (H5.out _ _ _ _ G0.out).mono ?_; rintro e X7 ⟨XN, rfl, Ly, zj⟩; have GZ := ak Ly; have MP := ak (MQ.out.grown zj (fun e => HNE.out (Option.some.inj e))); have MK := ak (ML.out.grown zj (fun e => kH.out (Option.some.inj e).symm)); have Na := ak (cR Nb.out G0.out.box (by decide) zj); have Hi := ak (uT.out.grown zj uT.out.size (by intro k hk; cases hk; exact HGB.out)); clear Ly zj G0 MQ ML Nb uT)
  | (go_at_call 90; refine (H6.out _ _ _ _ GZ.out).mono ?_; rintro e ME ⟨XO, XM, rfl, Qv, Lx, rE⟩; have M5 := ak Lx; have MO := ak (MP.out.grown rE (fun e => HNE.out (Option.some.inj e))); have Aw := ak (MK.out.grown rE (fun e => kH.out (Option.some.inj e).symm)); have M9 := ak (cR Na.out GZ.out.box (by decide) rE); have Hh := ak (Hi.out.grown rE Hi.out.size (by intro k hk; cases hk; exact HGB.out)); obtain ⟨ri, fD, rfl, LO, LU⟩ := Qv; have Hf := ak LO; have MX := ak LU; have QA := Aw.out.frozen 66; have QE := Aw.out.cell 66 _ (Fi _ _ _ _ _ HSL.out); clear Lx rE LO LU GZ MP MK Na Hi))
 generalize Gs : ME.setCell ⟨g6, 66, none⟩ (.slice ri L6.length fD) = P6
 have Lm : bS P6 g6 (en (n1 : Int) aff SL (.slice ri L6.length fD) (.slice A9 L3.length c9)) 64 := by
  rw [← Gs]
  have := Aw.out.set 66 (.slice ri L6.length fD)
  rwa [Ds _ _ _ _ _ HSL.out] at this
 have wK : ME.grownBy P6 (some g6) := by rw [← Gs]; exact cS ME g6 66 _
 have M4 := ak (M5.out.grown wK (fun k hk e => by have := hk.2; have := nQ.out; have := Option.some.inj e; omega) (fun e => kH.out (Option.some.inj e)))
 have MN := ak (MO.out.grown wK (fun e => pg.out (Option.some.inj e)))
 have M8 := ak (cR M9.out Aw.out (by decide) wK)
 have Hg := ak (Hh.out.grown wK Hh.out.size (by intro k hk; cases hk; exact AJ.out))
 have MW := ak (Kd.F_grown MX.out wK (fun k hk e => by have := hk.2; have := nQ.out; have := Option.some.inj e; omega))
 have MJ := ak Lm
 clear Gs Lm wK M5 MO Aw Hh M9 MX QA QE
 go_at_call 85
 refine (H7.out _ _ _ _ M4.out).mono ?_
 rintro e IW ⟨rfl, wT⟩
 have DC := ak (MN.out.below wT)
 have GV := ak (MJ.out.below wT)
 have tm := ak (Hg.out.trans (wT.mono Hg.out.size))
 have G4 := ak (Kd.R_below M8.out wT)
 have GY := ak (Kd.F_below MW.out wT)
 clear wT M4 MN MJ Hg M8 MW H0 H1 H2 H3 H4 H5 H6 H7
 cases rdn with
 | false =>
  obtain rfl : rok = false := by rw [HOK.out]; rfl
  go_wp2_with (first
   | (refine ev rfl 64 #[] rfl ju Ab ?_)
   | (refine aM rfl 64 (.tmp 2) (.tmp 45) rfl g2 ju rfl rfl 64 _ DC.out 68 (by kernel_rfl) rfl rfl sd ?_; intro MD uG rD))
  exact bodyPost_ret (bV rfl _ _ g2 64 _ (0, 0) _ rfl uG Tryz.underlying64 rfl (by simp only [List.size_toArray]; exact vy _ rfl)) rfl ⟨_, rfl, (CB _ 0).toV, tm.out.grown rD tm.out.size (by intro k hk; cases hk; exact fw.out)⟩
 | true =>
  by_cases sM : n0 = 66
  ·subst sM
   cases hrt : eZ rbk with
   | false =>
    have HRT := ak hrt
    obtain rfl : rok = false := by rw [HOK.out, hrt]; rfl
    clear hrt
    obtain rfl := HBK.out
    have hv : rh IW (.agg (en (n1 : Int) aff SL (.slice ri L6.length fD) (.slice A9 L3.length c9)).toArray) ⟨(n1 : Int), aff, SL, L6, L3⟩ := by
     obtain ⟨A', c', hq, hcc, hC⟩ := Kd.R_reads G4.out
     cases hq
     exact ⟨ri, fD, A9, c9, rfl, HSL.out, GY.out IW (fun _ _ _ => rfl), Hf.out, hC, hcc⟩
    have HV := ak hv
    clear hv
    go_wp2_with (first
     | ((with_reducible refine aA (N := 41) rfl ?_); refine cF (by rfl) ?_; refine bN rfl 64 (.tmp 6) rfl g6 rfl _ _ _ GV.out Tryz.underlying64 rfl 68 (by kernel_rfl) (fl _ _ _ _ _ HSL.out) ?_)
     | (go_at_call 76; refine (vz _ HBO.out _ _ HV.out).mono ?_; rintro e VD ⟨rfl, qf⟩; rw [HRT.out]; have DB := ak (DC.out.below qf); have AL := ak (tm.out.trans (qf.mono tm.out.size)); clear qf)
     | (refine ev rfl 64 #[] rfl ju Ab ?_)
     | (refine aM rfl 64 (.tmp 2) (.tmp 45) rfl g2 ju rfl rfl 64 _ DB.out 68 (by kernel_rfl) rfl rfl sd ?_; intro MD uG rD))
    exact bodyPost_ret (bV rfl _ _ g2 64 _ (0, 0) _ rfl uG Tryz.underlying64 rfl (by simp only [List.size_toArray]; exact vy _ rfl)) rfl ⟨_, rfl, (CB _ 0).toV, AL.out.grown rD AL.out.size (by intro k hk; cases hk; exact fw.out)⟩
   | true =>
    have HRT := ak hrt
    obtain rfl : rok = true := by rw [HOK.out, hrt]; rfl
    clear hrt
    obtain rfl := HBK.out
    have hv : rh IW (.agg (en (n1 : Int) aff SL (.slice ri L6.length fD) (.slice A9 L3.length c9)).toArray) ⟨(n1 : Int), aff, SL, L6, L3⟩ := by
     obtain ⟨A', c', hq, hcc, hC⟩ := Kd.R_reads G4.out
     cases hq
     exact ⟨ri, fD, A9, c9, rfl, HSL.out, GY.out IW (fun _ _ _ => rfl), Hf.out, hC, hcc⟩
    have HV := ak hv
    clear hv
    go_wp2_with (first
     | ((with_reducible refine aA (N := 41) rfl ?_); refine cF (by rfl) ?_; refine bN rfl 64 (.tmp 6) rfl g6 rfl _ _ _ GV.out Tryz.underlying64 rfl 68 (by kernel_rfl) (fl _ _ _ _ _ HSL.out) ?_)
     | (go_at_call 76; refine (vz _ HBO.out _ _ HV.out).mono ?_; rintro e VD ⟨rfl, qf⟩; rw [HRT.out]; have DB := ak (DC.out.below qf); have QT := ak (GV.out.below qf); have M7 := ak (Kd.R_below G4.out qf); have QU := ak (Kd.F_below GY.out qf); have AL := ak (tm.out.trans (qf.mono tm.out.size)); clear qf)
     | (refine bN rfl 64 (.tmp 6) rfl g6 rfl _ _ _ QT.out Tryz.underlying64 rfl 68 (by kernel_rfl) (fl _ _ _ _ _ HSL.out) ?_)
     | (refine aM rfl 64 (.tmp 2) (.tmp 46) rfl g2 (en (n1 : Int) aff SL (.slice ri L6.length fD) (.slice A9 L3.length c9)) rfl rfl 64 _ DB.out 68 (by kernel_rfl) (fl _ _ _ _ _ HSL.out) rfl (oE _ _ _ _ _ rfl rfl) ?_; intro MD uG rD))
    refine bodyPost_ret (bV rfl _ _ g2 64 _ (0, 0) _ rfl uG Tryz.underlying64 rfl (by simp only [List.size_toArray]; exact vy _ (fl _ _ _ _ _ HSL.out))) rfl ⟨_, rfl, ⟨ri, fD, A9, c9, rfl, HSL.out, ?_, Hf.out, ?_, ?_⟩, AL.out.grown rD AL.out.size (by intro k hk; cases hk; exact fw.out)⟩
    ·exact Kd.F_grown QU.out rD (fun k hk e => by have := hk.1.1; have := HGL.out; have := Option.some.inj e; omega) _ (fun _ _ _ => rfl)
    ·obtain ⟨A', c', hq, hcc, hC⟩ := Kd.R_reads (cR M7.out DB.out (by decide) rD)
     cases hq
     exact hC
    ·obtain ⟨A', c', hq, hcc, hC⟩ := Kd.R_reads M7.out
     cases hq
     exact hcc
  ·obtain rfl : rok = false := by rw [HOK.out, decide_eq_false sM]; rfl
   have aW : ((n0 : Int) == 66) = false := by rw [beq_eq_false_iff_ne]; omega
   have bC : ((n0 : Int) != 66) = true := by rw [bne, aW]; rfl
   have gP : (n0 == 66) = false := by rw [beq_eq_false_iff_ne]; exact sM
   go_wp2_with (first
    | (refine ev rfl 64 #[] rfl ju Ab ?_)
    | (refine aM rfl 64 (.tmp 2) (.tmp 45) rfl g2 ju rfl rfl 64 _ DC.out 68 (by kernel_rfl) rfl rfl sd ?_; intro MD uG rD))
   exact bodyPost_ret (bV rfl _ _ g2 64 _ (0, 0) _ rfl uG Tryz.underlying64 rfl (by simp only [List.size_toArray]; exact vy _ rfl)) rfl ⟨_, rfl, (CB _ 0).toV, tm.out.grown rD tm.out.size (by intro k hk; cases hk; exact fw.out)⟩
end Go.Proofs.YtndddnglapkplaaGreatDoor.V
end

section
namespace Go.Proofs.YtndddnglapkplaaGreatDoor.V
def vc (a : At) : S78 := ⟨a.f0, a.f1⟩
def gR : List Value := [.int .u32 0, .string ⟨#[]⟩, .slice none 0 0, .slice none 0 0, .slice none 0 0]
theorem EE : (Tryz.prog.info? 3).map (fun i => (i.zero, i.size, i.bytes)) = some (some (.int .i64 0), 1, 8) := by kernel_rfl
theorem Gj : (Tryz.prog.info? 78).map (fun i => (i.zero, i.size, i.bytes)) = some (some (.agg #[.string ⟨#[]⟩, .string ⟨#[]⟩]), 2, 32) := by kernel_rfl
theorem Mp (x : Int) (s : ByteArray) : Tryz.prog.built 49 [(0, .int .u32 x), (1, .string s)] = some [Value.int .u32 x, .string s, .slice none 0 0, .slice none 0 0, .slice none 0 0].toArray := by kernel_rfl
theorem Ky {α β : Type} {d : Kd α} {d' : Kd β} {e e' b1 base : Nat} {W w1 : World} {ok ok' : Nat → Prop} {u v : Value} {xs : List α} {ys : List β} (h : d.R e W base ok u xs) (ho : ∀ k, ok k → k < b1) (hv : d'.R e' W b1 ok' v ys) (hg : W.grownBy w1 v.ownBlock) : d.R e w1 base ok u xs :=
 Kd.R_grown h hg (fun k hk he => by have := ho k hk; have := Kd.R_base hv k he.symm; omega)
end Go.Proofs.YtndddnglapkplaaGreatDoor.V
end

section
namespace Go.Proofs.YtndddnglapkplaaGreatDoor.V
def s5 (n : Nat) : List Int := [((n / 16777216 % 256 : Nat) : Int), ((n / 65536 % 256 : Nat) : Int), ((n / 256 % 256 : Nat) : Int), ((n % 256 : Nat) : Int)]
def fZ (s : ByteArray) : List Int := (s.size : Int) :: bytesOf s
theorem jx (s : ByteArray) : (fZ s).length = s.size + 1 := by simp [fZ, ez]
end Go.Proofs.YtndddnglapkplaaGreatDoor.V
end

section
namespace Go.Proofs.YtndddnglapkplaaGreatDoor.V
def qi (a : At) : List Int := fZ a.f0 ++ fZ a.f1
def ir (b : Bk) (k : Nat) : List Int := 66 :: (s5 b.addr.toNat ++ fZ b.aff ++ [(b.attrs.length : Int)] ++ (b.attrs.take k).flatMap qi)
def lv (b : Bk) : List Int := ir b b.attrs.length ++ b.slots ++ [(b.free.length : Int)] ++ b.free
theorem uc (b : Bk) (k : Nat) (h : k < b.attrs.length) : ir b (k + 1) = ir b k ++ fZ (ll b.attrs k).f0 ++ fZ (ll b.attrs k).f1 := by
 unfold ir
 rw [By _ _ h]
 simp [qi]
theorem FD {s : ByteArray} (h : s.toList = []) : s.size = 0 := by
 rw [ByteArray.toList_eq] at h
 have := congrArg List.length h
 rw [cw] at this
 simpa using this
theorem eT {s : ByteArray} (h : dE s = true) : 0 < s.size ∧ s.size ≤ 64 := by
 unfold dE at h
 simp only [Bool.and_eq_true, decide_eq_true_eq] at h
 exact ⟨h.1.2, h.2⟩
theorem rv {s : ByteArray} (h : ko s = true) : s.size ≤ 64 := by
 unfold ko at h
 rw [Bool.or_eq_true, decide_eq_true_eq] at h
 rcases h with h | h
 ·rw [FD h]; omega
 ·exact (eT h).2
structure RightP (b : Bk) : Prop where
 first : nK b.addr = b.addr
 owner : ko b.aff = true
 na : b.attrs.length ≤ 64
 sa : ∀ s ∈ b.slots, s ≤ (b.attrs.length : Int)
 may : ∀ j, j < b.attrs.length → gE (ll b.attrs j) = true
 nd : ∀ j, j < b.attrs.length → (b.attrs.take j).any (sameAt (ll b.attrs j)) = false
 used : (gG (ix b.slots)).length = b.attrs.length
 fr : ∀ j, j < b.free.length → jJ b j = false
 zc : b.slots.countP (fun x => x == 0) = b.free.length
theorem wG {b : Bk} (h : eZ b = true) : RightP b := by
 unfold eZ jQ jI at h
 simp only [Bool.and_eq_true, decide_eq_true_eq, List.all_eq_true, beq_iff_eq, List.mem_range, Bool.not_eq_true'] at h
 obtain ⟨h1, h2, h3, ⟨h4, h5, h6⟩, h7, h8⟩ := h
 exact ⟨h1, h2, h3, h4, fun j hj => (h5 j hj).1, fun j hj => (h5 j hj).2, h6, h7, h8⟩
theorem RightP.free_len {b : Bk} (h : RightP b) (hl : b.slots.length = 64) : b.free.length ≤ 64 := by
 rw [← h.zc, ← hl]
 exact List.countP_le_length
theorem GM (a : At) (h : gE a = true) : (qi a).length ≤ 130 := by
 unfold gE at h
 rw [Bool.and_eq_true] at h
 have h1 := (eT h.1).2
 have h2 := (eT h.2).2
 simp [qi, jx]
 omega
theorem vK {b : Bk} (h : RightP b) : ∀ k, k ≤ b.attrs.length → (ir b k).length ≤ 71 + 130 * k := by
 intro k
 induction k with
 | zero =>
  intro _
  have := rv h.owner
  simp [ir, s5, jx]
  omega
 | succ k ih =>
  intro hk
  have h1 := ih (by omega)
  have h2 := GM _ (h.may k (by omega))
  rw [uc _ _ (by omega)]
  simp [qi] at h2 ⊢
  omega
end Go.Proofs.YtndddnglapkplaaGreatDoor.V
end

section
namespace Go.Proofs.YtndddnglapkplaaGreatDoor.V
theorem ni (xs ys : List Int) (h : xs.Nodup) (hs : ∀ x ∈ xs, x ∈ ys) : xs.length ≤ ys.length := h.length_le_of_subset hs
theorem ub (s n : Nat) : (iy s n).Nodup := by
 unfold iy List.Nodup
 rw [List.pairwise_map]
 exact (List.Pairwise.filter _ List.nodup_range).imp (fun {a b} h e => h (by omega))
theorem strOfNums_size (l : List Int) : (strOfNums l).size = l.length := by
 simp [strOfNums, ByteArray.size]
end Go.Proofs.YtndddnglapkplaaGreatDoor.V
end

section
namespace Go.Proofs.YtndddnglapkplaaGreatDoor.V
attribute [local go_sem] bI bG bP bO bw bu bH bF
mutual
def bB.j0 : Nat → Int → Int → Bool → Option (List Int)
 | 0, _, _, _ => none
 | k + 1, x0, x1, KL => if KL = true then (some ([] : List Int)) else (if 0 ≤ x1 then (if (x1 : Int).toNat ≤ 281474976710656 then (bB.l0 k x0 (List.replicate (x1 : Int).toNat 0) (wrap64 (x1 - 1))) else (none)) else (none))
def bB.l0 : Nat → Int → List Int → Int → Option (List Int)
 | 0, _, _, _ => none
 | k + 1, x0, x5, x6 => if x6 ≥ 0 then (if 0 ≤ x6 then (if x6 < (x5.length : Int) then (bB.l0 k (IntKind.u64.wrap (Int.tdiv x0 256)) (x5.set (x6 : Int).toNat ((Int.tmod x0 256) % 256)) (wrap64 (x6 - 1))) else (none)) else (none)) else (some x5)
end
def bB.f (k : Nat) (a0 : Int) (a1 : Int) : Option (List Int) := if a1 < 1 then (bB.j0 k a0 a1 true) else (bB.j0 k a0 a1 (decide (a1 > 8)))
set_option maxHeartbeats 8000000 in
set_option maxRecDepth 100000 in
theorem bB.calls (k : Nat) (a0 : Int) (a1 : Int) (r : List Int) (w : World) (h : bB.f k a0 a1 = some r) :
  Calls Tryz.prog 63 #[.int .u64 a0, .int .i64 a1] w fun e w' => ∃ xr : Value, e = .returned (xr) ∧ Kd.R (Kd.int .u8) 5 w' w.heap.size (fun _ => True) xr r ∧ Below w.heap.size w w' := by
 have HB := ak (Below.refl w.heap.size w)
 have H : (if a1 < 1 then (bB.j0 k a0 a1 true) else (bB.j0 k a0 a1 (decide (a1 > 8)))) = some r := h
 clear h
 have AK := ak H
 clear H
 go_enter Tryz.func63, Tryz.ntmps63
 go_upto_region 1 with (fail)
 go_cut [12] (fun v12 wc => ∃ (kq : Nat) (yq : Bool), v12 = .bool yq ∧ Aside0 (bB.j0 kq a0 a1 yq = some r) ∧ Aside0 (kq ≤ k) ∧ Aside0 (Below w.heap.size w wc))
 case first =>
  have H := AK.out
  clear AK
  by_cases c4 : a1 < 1
  ·rw [if_pos c4] at H
   have fj : decide (a1 < 1) = true := decide_eq_true c4
   clear c4
   (first | rw [fj] | (simp only [cp, cL]; rw [fj]) | skip)
   have H' := ak H
   clear H
   go_wp2
   go_meet
   case rel => exact ⟨_, (true), (by first | rfl | (simp; done) | (simp [*]; done)), H', ⟨by first | omega | exact Nat.le_refl _⟩, ⟨by repeat (first | (with_reducible first | exact HB.out | apply aa | apply J | apply ab) | exact HB.out)⟩⟩
  ·rw [if_neg c4] at H
   have fj : decide (a1 < 1) = false := decide_eq_false c4
   clear c4
   (first | rw [fj] | (simp only [cp, cL]; rw [fj]) | skip)
   have H' := ak H
   clear H
   go_wp2
   go_meet
   case rel => exact ⟨_, (decide (a1 > 8)), (by first | rfl | (simp; done) | (simp [*]; done)), H', ⟨by first | omega | exact Nat.le_refl _⟩, ⟨by repeat (first | (with_reducible first | exact HB.out | apply aa | apply J | apply ab) | exact HB.out)⟩⟩
 case rest =>
  clear AK
  obtain ⟨kq, yq, rfl, HA, ph, HB⟩ := hcut
  cases kq with
  | zero => exact absurd HA.out (by simp [bB.j0])
  | succ oV =>
   have H := HA.out
   clear HA
   simp only [bB.j0] at H
   by_cases c5 : yq = true
   ·subst c5
    have H1 : (some ([] : List Int)) = some r := by rw [if_pos rfl] at H; exact H
    clear H
    have H := H1
    clear H1
    obtain rfl := Option.some.inj H
    go_wp2
    go_ret
    exact ⟨_, by first | rfl | (simp [aq, ao] <;> rfl) | (simp [*, aq, ao] <;> rfl), by first | exact Kd.R_nil _ _ _ _ _ | exact Kd.N_nil _ _ _ _ _ | exact Kd.V_nil _ _ _ _ _ | exact Kd.Q_nil _ _ _ _ _ | exact Kd.S_nil _ _ _ _ _, by repeat (first | (with_reducible first | exact HB.out | apply aa | apply J | apply ab) | exact HB.out)⟩
   ·replace c5 := Bool.eq_false_iff.mpr c5
    subst c5
    have H1 : (if 0 ≤ a1 then (if (a1 : Int).toNat ≤ 281474976710656 then (bB.l0 oV a0 (List.replicate (a1 : Int).toNat 0) (wrap64 (a1 - 1))) else (none)) else (none)) = some r := by rw [if_neg (show ¬ (false = true) by decide)] at H; exact H
    clear H
    have H := H1
    clear H1
    by_cases c6 : 0 ≤ a1
    ·rw [if_pos c6] at H
     have jq := eq_true c6
     have uO : decide (0 ≤ a1) = true := decide_eq_true c6
     clear c6
     by_cases c7 : (a1 : Int).toNat ≤ 281474976710656
     ·rw [if_pos c7] at H
      have nn := eq_true c7
      have uN : decide ((a1 : Int).toNat ≤ 281474976710656) = true := decide_eq_true c7
      clear c7
      obtain ⟨DN, qE⟩ : ∃ y_ : List Int, y_ = (List.replicate (a1 : Int).toNat 0) := ⟨_, rfl⟩
      replace H : (bB.l0 oV a0 DN (wrap64 (a1 - 1))) = some r := by first | (rw [qE]; with_reducible exact H) | (have iO := (Option.bind_some _ _).symm.trans H; rw [qE]; with_reducible exact iO) | (have iO := (Option.bind_some _ _).symm.trans H; with_reducible exact iO) | with_reducible exact H | (rw [qE]; exact H) | exact H
      have Cl := ak qE
      clear qE
      have H' := ak H
      clear H
      go_wp2_with (first | ((with_reducible refine aA (N := 14) rfl ?_); refine Kd.R_make (Kd.int .u8) _ 5 rfl (N := 14) rfl 61 _ _ rfl a1 rfl rfl Tryz.underlying61 (.int .u8 0) 1 Ie rfl (by decide) (by omega) 0 (ok := fun _ => True) (okp := fun _ => True) rfl (fun _ hk => hk) trivial (of_decide_eq_true (by first | (with_reducible assumption) | assumption)) (Nat.le_trans (Nat.mul_le_mul_right _ (of_decide_eq_true (by first | (with_reducible assumption) | assumption) : a1.toNat ≤ 281474976710656)) (by omega)) (Below.refl _ _) (Nat.le_refl _) ?_; intro KQ w8 qG hb fG od; clear fG od; (first | rw [← Cl.out] at qG | (simp only [Int.reduceToNat] at qG; rw [← Cl.out] at qG)); have av := ak (Kd.R_lower qG (ay (by repeat (first | (with_reducible first | exact HB.out | apply aa | apply J | apply ab) | exact HB.out)))); have az := ak (au (by repeat (first | (with_reducible first | exact HB.out | apply aa | apply J | apply ab) | exact HB.out)) hb); clear HB; have KC := av; have HB := az; clear av az; clear hb qG))
      go_loopg [0, 6] oV (fun kq v0 v6 w' => ∃ (sf : Int) (se : List Int) (kE : Int), v0 = .int .u64 sf ∧ v6 = .int .i64 kE ∧ Aside0 (bB.l0 kq sf se kE = some r) ∧ Aside0 (kq ≤ oV) ∧ Aside0 (Kd.R (Kd.int .u8) 5 w' w.heap.size (fun _ => True) KQ se) ∧ Aside0 (Below w.heap.size w w'))
      case atStart => exact ⟨(a0), (DN), (wrap64 (a1 - 1)), (by first | rfl | (simp; done) | (simp [*]; done)), (by first | rfl | (simp; done) | (simp [*]; done)), H', ⟨Nat.le_refl _⟩, ⟨by (with_reducible repeat (first | apply Kd.R_alloc | apply Kd.R_drewN | apply Kd.R_drew)); exact KC.out⟩, ⟨by repeat (first | (with_reducible first | exact HB.out | apply aa | apply J | apply ab) | exact HB.out)⟩⟩
      case round =>
       clear H'
       obtain ⟨sf, se, kE, rfl, rfl, HA, mC, uR, HB⟩ := hrel
       cases gk with
       | zero => exact absurd HA.out (by simp [bB.l0])
       | succ k2 =>
        have H := HA.out
        clear HA
        simp only [bB.l0] at H
        by_cases c10 : kE ≥ 0
        ·rw [if_pos c10] at H
         have tN : decide (0 ≤ kE) = true := decide_eq_true c10
         clear c10
         by_cases eD : 0 ≤ kE
         ·rw [if_pos eD] at H
          have mT : decide (0 ≤ kE) = true := decide_eq_true eD
          clear eD
          by_cases ft : kE < (se.length : Int)
          ·rw [if_pos ft] at H
           have pS : decide (kE < (se.length : Int)) = true := decide_eq_true ft
           clear ft
           obtain ⟨yx, qD⟩ : ∃ y_ : List Int, y_ = (se.set (kE : Int).toNat ((Int.tmod sf 256) % 256)) := ⟨_, rfl⟩
           replace H : (bB.l0 k2 (IntKind.u64.wrap (Int.tdiv sf 256)) yx (wrap64 (kE - 1))) = some r := by first | (rw [qD]; with_reducible exact H) | (have iO := (Option.bind_some _ _).symm.trans H; rw [qD]; with_reducible exact iO) | (have iO := (Option.bind_some _ _).symm.trans H; with_reducible exact iO) | with_reducible exact H | (rw [qD]; exact H) | exact H
           have KA := ak qD
           clear qD
           have H' := ak H
           clear H
           have K6 : 0 ≤ (kE : Int) := of_decide_eq_true (by first | (with_reducible assumption) | assumption)
           have K2 : (kE : Int) < ((se.length : Int) : Int) := of_decide_eq_true (by first | (with_reducible assumption) | assumption)
           obtain ⟨Gv, QL, L8, LY, QK, Xy, Nn⟩ := Kd.R_form uR.out (by omega)
           (first | cases L8 | (injection L8 with IE Vw Vx; (first | subst IE | (injection IE with IE; subst IE)); subst Vx; clear Vw))
           have QZ := ak LY
           have XD := ak Nn
           clear LY QK Nn
           obtain ⟨UI, U7⟩ := Kd.R_celln 0 uR.out (kE : Int) K6 K2
           replace K6 := eq_true K6
           replace K2 := eq_true K2
           have G3 := Kd.R_putg uR.out (kE : Int) ((Int.tmod sf 256) % 256)
           go_wp2_with (first | ((with_reducible refine C9 (t := 5) (p := 26) rfl ?_); refine AS (t := 5) (p := 26) (v := ?vo_w15) (w1 := (wr.setCell ⟨Gv, (kE : Int).toNat, none⟩ (.int .u8 ((Int.tmod sf 256) % 256)))) ?hg ?ho ?hn ?hr ?_; (case ho => rfl); (case hg => rfl); (case hn => rfl); (case hr => first | (go_simp; done) | (go_simp; rfl)); intro mI hw; have hg : wr.grownBy mI (some Gv) := (by rw [hw]; exact G3.2); have PK : Kd.R (Kd.int .u8) 5 mI w.heap.size (fun _ => True) (.slice (some ⟨Gv, 0, none⟩) se.length QL) yx := (by rw [hw, KA.out]; exact G3.1); clear G3; have av := ak (PK); have az := ak ((by rw [hw]; exact ai (HB.out) QZ.out : Below w.heap.size w mI)); clear uR; clear HB; have uR := av; have HB := az; clear av az; clear hg hw PK))
           go_roundg k2
           case measure => have := ph.out; have := mC.out; omega
           case rel => exact ⟨(IntKind.u64.wrap (Int.tdiv sf 256)), (yx), (wrap64 (kE - 1)), (by first | rfl | (simp; done) | (simp [*]; done)), (by first | rfl | (simp; done) | (simp [*]; done)), H', ⟨by have := ph.out; have := mC.out; omega⟩, ⟨by (with_reducible repeat (first | apply Kd.R_alloc | apply Kd.R_drewN | apply Kd.R_drew)); exact uR.out⟩, ⟨by repeat (first | (with_reducible first | exact HB.out | apply aa | apply J | apply ab) | exact HB.out)⟩⟩
          ·rw [if_neg ft] at H
           exact absurd H (by simp)
         ·rw [if_neg eD] at H
          exact absurd H (by simp)
        ·rw [if_neg c10] at H
         have tN : decide (0 ≤ kE) = false := decide_eq_false c10
         clear c10
         obtain rfl := Option.some.inj H
         go_wp2
         go_ret
         exact ⟨_, by first | rfl | (simp [aq, ao] <;> rfl) | (simp [*, aq, ao] <;> rfl), by (with_reducible repeat (first | apply Kd.R_alloc | apply Kd.R_drewN | apply Kd.R_drew)); exact uR.out, by repeat (first | (with_reducible first | exact HB.out | apply aa | apply J | apply ab) | exact HB.out)⟩
     ·rw [if_neg c7] at H
      exact absurd H (by simp)
    ·rw [if_neg c6] at H
     exact absurd H (by simp)
end Go.Proofs.YtndddnglapkplaaGreatDoor.V
end

section
namespace Go.Proofs.YtndddnglapkplaaGreatDoor.V
attribute [local go_sem] bI bG bP bO bw bu bH bF
def dU.f (a0 : ByteArray) : Option (List Int) := (some (([((a0.size : Int)) % 256] : List Int) : List Int)).bind fun jw => (if jw.length + a0.size < 140737488355328 then (some (jw ++ bytesOf a0)) else (none))
set_option maxHeartbeats 8000000 in
set_option maxRecDepth 100000 in
theorem dU.calls (a0 : ByteArray) (r : List Int) (w : World) (h : dU.f a0 = some r) :
  Calls Tryz.prog 103 #[.string a0] w fun e w' => ∃ xr : Value, e = .returned (xr) ∧ Kd.R (Kd.int .u8) 5 w' w.heap.size (fun _ => True) xr r ∧ Below w.heap.size w w' := by
 have HB := ak (Below.refl w.heap.size w)
 have H : ((some (([((a0.size : Int)) % 256] : List Int) : List Int)).bind fun jw => (if jw.length + a0.size < 140737488355328 then (some (jw ++ bytesOf a0)) else (none))) = some r := h
 clear h
 obtain ⟨jw, o5⟩ : ∃ y_ : List Int, y_ = (([((a0.size : Int)) % 256] : List Int)) := ⟨_, rfl⟩
 replace H : (if jw.length + a0.size < 140737488355328 then (some (jw ++ bytesOf a0)) else (none)) = some r := by first | (rw [o5]; with_reducible exact H) | (have iO := (Option.bind_some _ _).symm.trans H; rw [o5]; with_reducible exact iO) | (have iO := (Option.bind_some _ _).symm.trans H; with_reducible exact iO) | with_reducible exact H | (rw [o5]; exact H) | exact H
 have Aq := ak o5
 clear o5
 by_cases c2 : jw.length + a0.size < 140737488355328
 ·rw [if_pos c2] at H
  have QS := ak c2
  clear c2
  obtain ⟨Bn, o4⟩ : ∃ y_ : List Int, y_ = (jw ++ bytesOf a0) := ⟨_, rfl⟩
  replace H : (some Bn) = some r := by first | (rw [o4]; with_reducible exact H) | (have iO := (Option.bind_some _ _).symm.trans H; rw [o4]; with_reducible exact iO) | (have iO := (Option.bind_some _ _).symm.trans H; with_reducible exact iO) | with_reducible exact H | (rw [o4]; exact H) | exact H
  have GU := ak o4
  clear o4
  obtain rfl := Option.some.inj H
  go_enter Tryz.func103, Tryz.ntmps103
  go_wp2_with (first | ((with_reducible refine aA (N := 6) rfl ?_); refine Kd.R_lit (Kd.int .u8) _ 5 ?hg (N := 6) ?hd (xs := ([((a0.size : Int)) % 256] : List Int)) (inner := [.int .u8 (((a0.size : Int)) % 256)]) (ok := fun _ => True) (okp := fun _ => True) ?hr ?hp (fun _ hk => hk) trivial (Below.refl _ _) (Nat.le_refl _) (by simp) ?_; (case hd => rfl); (case hg => rfl); (case hr => first | (go_simp; done) | (go_simp; rfl)); (case hp => exact (ct.one (show Kd.M (Kd.int .u8) _ _ _ (((a0.size : Int)) % 256) [.int .u8 (((a0.size : Int)) % 256)] from rfl) (ct.none _ _))); intro Jh w3 mm hb fG od; clear fG od; (first | rw [← Aq.out] at mm | (simp only [Int.reduceToNat] at mm; rw [← Aq.out] at mm)); have av := ak (Kd.R_lower mm (ay (by repeat (first | (with_reducible first | exact HB.out | apply aa | apply J | apply ab) | exact HB.out)))); have az := ak (au (by repeat (first | (with_reducible first | exact HB.out | apply aa | apply J | apply ab) | exact HB.out)) hb); clear HB; have Az := av; have HB := az; clear av az; clear hb mm) | (at_builtin; refine uC (w0 := w) w.heap.size rfl (.tmp 6) _ 61 9 5 rfl Tryz.underlying61 Tryz.underlying9 Ie Jh jw a0 rfl rfl ?aO ?aB ?aS ?aL ?_; (case aB => exact (by repeat (first | (with_reducible first | exact HB.out | apply aa | apply J | apply ab) | exact HB.out))); (case aO => exact (Kd.own_of_R (by (with_reducible repeat (first | apply Kd.R_alloc | apply Kd.R_drewN | apply Kd.R_drew)); exact Az.out))); (case aS => exact (ay (by repeat (first | (with_reducible first | exact HB.out | apply aa | apply J | apply ab) | exact HB.out)))); (case aL => have := QS.out; omega); intro Jg w5 PN hb hg; have ho := Kd.R_of_own (h1 := fun _ => rfl) (ok := fun _ => True) PN (fun _ _ => trivial); clear PN; have hat := True.intro; rw [← GU.out] at ho; change Kd.R (Kd.int .u8) 5 w5 w.heap.size (fun _ => True) Jg Bn at ho; have av := ak (hb); have az := ak (ho); clear HB; clear Az; have HB := av; have G8 := az; clear av az; clear ho hb hg hat))
  go_ret
  exact ⟨_, by first | rfl | (simp [aq, ao] <;> rfl) | (simp [*, aq, ao] <;> rfl), by (with_reducible repeat (first | apply Kd.R_alloc | apply Kd.R_drewN | apply Kd.R_drew)); exact G8.out, by repeat (first | (with_reducible first | exact HB.out | apply aa | apply J | apply ab) | exact HB.out)⟩
 ·rw [if_neg c2] at H
  exact absurd H (by simp)
end Go.Proofs.YtndddnglapkplaaGreatDoor.V
end

section
namespace Go.Proofs.YtndddnglapkplaaGreatDoor.V
set_option maxRecDepth 100000 in
theorem Dv {ops : Array Oper} {rest : List Oper} {o : Oper} {a : Act} {Q : Exit → Act → World → Prop} {W : World} (hgd : o.guard = none) (s x : Operand)
  (ho : o.op = .call { callee := .builtin .append, args := #[s, x], argTypes := #[61, 61] }) (g : Nat) (hs : a.eval s = .slice (some ⟨g, 0, none⟩) 1 1) (hcell : W.cell? ⟨g, 0, none⟩ = some (.int .u8 66))
  (A : Option Addr) (c : Nat) (ys : List Int) (hx : a.eval x = .slice A ys.length c) (hC : Kd.C (Kd.int .u8) W A ys.length ys) (hy : 0 < ys.length) (Ii : ys.length ≤ 1000)
  (h : ∀ v1 w1, Kd.R (Kd.int .u8) 5 w1 W.heap.size (fun _ => True) v1 ([66] ++ ys) → W.grownBy w1 none → wpList Tryz.prog ops Q rest (a.put o.dst v1) w1) : wpList Tryz.prog ops Q (o :: rest) a W := by
 obtain ⟨i, hi, hz⟩ := Option.map_eq_some_iff.1 iU
 simp only [Prod.mk.injEq] at hz
 rcases A with _ | ad
 ·obtain ⟨ad, h, _⟩ := hC.2.2 hy
  cases h
 ·obtain ⟨news, hnr, hnc⟩ := fz.inner_ hC
  have hnl : news.length = ys.length * 1 := hnr.1
  have hone : ∀ u ∈ news, u.oneCell' = true := by
   intro u hu
   obtain ⟨q, hq, rfl⟩ := List.mem_iff_getElem.1 hu
   have := hnr.2 q _ (List.getElem?_eq_getElem (show q < ys.length by omega))
   have e : ((news.drop (q * 1)).take 1) = [Value.int .u8 (ys[q]'(by omega))] := this
   rw [Nat.mul_one, List.drop_eq_getElem_cons hq, List.take_succ_cons, List.take_zero] at e
   injection e with e _
   rw [e]
   rfl
  refine wpList_append_arg W hgd s x 61 ho 5 i (.int .u8 0) 1 1 Tryz.underlying61 hi hz.1 hz.2.1 hz.2.2 rfl (by decide) g 0 1 1 [.int .u8 66] hs rfl (fun j u hj => ?_) ad ys.length c news hx hnl hnc hone (fun hle => by omega) (by simp only [maxLen]; omega) (by omega) (fun hle => by omega) (fun _ v' w' hown hg => h v' w' ⟨fun _ _ => trivial, [.int .u8 66] ++ news, ?_, ?_⟩ hg)
  ·rcases j with _ | j
   ·obtain rfl := Option.some.inj hj
    exact hcell
   ·simp at hj
  ·have e : ([(66 : Int)] ++ ys).length = 1 + ys.length := by rw [List.length_append]; rfl
   rw [e]
   exact hown
  ·exact Kd.reps_append (Kd.reps_scalar (enc := Value.int .u8) [66]) hnr
theorem wF (s : ByteArray) (hs : s.size ≤ 64) : dU.f s = some (fZ s) := by
 unfold dU.f
 rw [Option.bind_some, if_pos (by simp; omega)]
 have : ((s.size : Int)) % 256 = (s.size : Int) := by omega
 simp [fZ, this]
theorem pC (n i k : Nat) (xs : List Int) (hn : n < 18446744073709551616) (hi : i < xs.length) (LC : i < 100) :
  bB.l0 (k + 1) (n : Int) xs (i : Int) = bB.l0 k ((n / 256 : Nat) : Int) (xs.set i ((n % 256 : Nat) : Int)) ((i : Int) - 1) := by
 rw [bB.l0, if_pos (by omega), if_pos (by omega), if_pos (by omega), bM ((i : Int) - 1) (by omega) (by omega)]
 have e1 : Int.tdiv (n : Int) 256 = ((n / 256 : Nat) : Int) := by
  rw [Int.tdiv_eq_ediv_of_nonneg (by omega)]; omega
 have e2 : Int.tmod (n : Int) 256 = ((n % 256 : Nat) : Int) := by
  rw [Int.tmod_eq_emod_of_nonneg (by omega)]; omega
 rw [e1, e2, oI _ (by omega), Int.toNat_natCast]
 congr 2
 omega
theorem Jl (n : Nat) (hn : n < 4294967296) : bB.f 20 (n : Int) 4 = some (s5 n) := by
 unfold bB.f
 rw [if_neg (by decide), show decide ((4 : Int) > 8) = false from rfl, bB.j0, if_neg (by decide), if_pos (by decide), if_pos (by decide), show wrap64 ((4 : Int) - 1) = ((3 : Nat) : Int) by unfold wrap64; omega]
 rw [pC n 3 18 _ (by omega) (by decide) (by omega), show ((3 : Nat) : Int) - 1 = ((2 : Nat) : Int) by omega, pC _ 2 17 _ (by omega) (by simp) (by omega), show ((2 : Nat) : Int) - 1 = ((1 : Nat) : Int) by omega, pC _ 1 16 _ (by omega) (by simp) (by omega), show ((1 : Nat) : Int) - 1 = ((0 : Nat) : Int) by omega, pC _ 0 15 _ (by omega) (by simp) (by omega), bB.l0, if_neg (by decide)]
 have h3 : n / 256 / 256 / 256 = n / 16777216 := by omega
 have h2 : n / 256 / 256 = n / 65536 := by omega
 rw [h3, h2]
 rfl
set_option maxHeartbeats 8000000 in
set_option maxRecDepth 100000 in
theorem FH (b : Bk) (hk : BkOk b) (hp : RightP b) (hsl : b.slots.length = 64) (As Af Aa : Option Addr) (cs cf ca : Nat) (w : World)
  (h1 : Kd.C (Kd.int .i64) w As b.slots.length b.slots) (h2 : Kd.C (Kd.int .i64) w Af b.free.length b.free) (h3 : Kd.C lP w Aa (b.attrs.map vc).length (b.attrs.map vc)) :
  Calls Tryz.prog 69 #[.agg #[.int .u32 b.addr, .string b.aff, .slice As b.slots.length cs, .slice Af b.free.length cf, .slice Aa (b.attrs.map vc).length ca]] w fun e w' => e = .returned (.string (strOfNums (lv b))) ∧ Below w.heap.size w w' := by
 have hsz := rv hp.owner
 obtain ⟨n, hn⟩ : ∃ n : Nat, b.addr = (n : Int) := ⟨b.addr.toNat, by have := hk.a0; omega⟩
 have hnl : n < 4294967296 := by have := hk.a1; omega
 have hfl := hp.free_len hsl
 have hal := hp.na
 have HP := ak hp
 have HK := ak hk
 have HSL := ak hsl
 obtain ⟨M, hM⟩ : ∃ M, M = b.attrs.map vc := ⟨_, rfl⟩
 have HM := ak hM
 have hml : M.length = b.attrs.length := by rw [hM, List.length_map]
 have HML := ak hml
 rw [← hM] at h3 ⊢
 have C1 := ak h1
 have C2 := ak h2
 have C3 := ak h3
 obtain ⟨B4, IC⟩ : ∃ B4 : List Int, B4 = s5 n := ⟨_, rfl⟩
 obtain ⟨L1, zD⟩ : ∃ L1 : List Int, L1 = [66] ++ B4 := ⟨_, rfl⟩
 obtain ⟨TA, hTA⟩ : ∃ TA : List Int, TA = fZ b.aff := ⟨_, rfl⟩
 obtain ⟨L2, IB⟩ : ∃ L2 : List Int, L2 = L1 ++ TA := ⟨_, rfl⟩
 obtain ⟨L3, LS⟩ : ∃ L3 : List Int, L3 = ir b 0 := ⟨_, rfl⟩
 have H1 := ak zD
 have H2 := ak IB
 have H3 := ak LS
 have VV := ak (show L3 = L2 ++ [(M.length : Int)] by
  rw [LS, IB, zD, hTA, IC, hml]
  simp [ir, hn])
 have HPU := ak (show bB.f 20 b.addr 4 = some B4 by rw [hn, IC]; exact Jl n hnl)
 have HTX := ak (show dU.f b.aff = some TA by rw [hTA]; exact wF _ hsz)
 have l1 : B4.length = 4 := by rw [IC]; rfl
 have l2 : L1.length = 5 := by rw [zD, List.length_append, l1]; rfl
 have l3 : TA.length ≤ 65 := by rw [hTA, jx]; omega
 have l4 : L2.length ≤ 70 := by rw [IB, List.length_append]; omega
 have P8 := ak l1
 have VJ := ak l2
 have VI := ak l3
 have VH := ak l4
 have PF : 0 ≤ b.addr := hk.a0
 have PE : b.addr < 4294967296 := hk.a1
 have HFL := ak hfl
 have HAL := ak hal
 have Xt : M.length ≤ 64 := by omega
 have Xr : b.slots.length ≤ 64 := by omega
 clear hml h1 h2 h3 hM IC zD hTA IB LS l1 l2 l3 l4 hn hnl hsz hp hk hsl
 have kc := fun (w : World) (C : Array Value) (n c : Nat) => Lib.run_convert_bytes_const (P := Tryz.prog) w 61 5 C n c Tryz.underlying61 Tryz.underlying5
 go_enter Tryz.func69, Tryz.ntmps69
 go_wp2_with (first
  | (refine fL rfl 49 (.tmp 0) rfl _ rfl ?_; intro g W1 hg hbx aW; have HX := ak hbx; have HB := ak aW; have gX := (hbx.alloc (.cells #[.int .u8 66] 5 (1, 2))).cell 0 _ rfl; clear hbx aW)
  | (go_at_call 63; refine (bB.calls 20 _ _ _ _ HPU.out).mono ?_; rintro e W4 ⟨v4, rfl, mm, iQ⟩; have Fw := ak (show W4.cell? ⟨W1.heap.size, 0, none⟩ = some (.int .u8 66) by have hq : W4.heap[W1.heap.size]? = some (.cells #[.int .u8 66] 5 (1, 2)) := (by rw [iQ.block _ (by show _ < (W1.heap.push _).size; simp)]; exact heap_alloc_new W1 _); simp [World.cell?, hq]); have jR := ak ((aa HB.out (.cells #[.int .u8 66] 5 (1, 2))).trans (iQ.mono (aa HB.out (.cells #[.int .u8 66] 5 (1, 2))).size)); have mY := ak ((HX.out.alloc (.cells #[.int .u8 66] 5 (1, 2))).below iQ); obtain ⟨A4, c4, UM, QD, P3⟩ := Kd.R_reads mm; subst UM; have Cu := ak P3; clear mm iQ HB gX P3)
  | ((with_reducible refine ei (b := .append) (xs := #[.tmp 11, .tmp 15]) rfl ?_); at_builtin; refine Dv rfl (.tmp 11) (.tmp 15) rfl W1.heap.size rfl Fw.out A4 c4 B4 rfl Cu.out (by have := P8.out; omega) (by have := P8.out; omega) ?_; intro v5 w5 uf fQ; rw [← H1.out] at uf; have lq := ak (mY.out.grown fQ (by simp)); have Cs := ak (Kd.R_lower uf jR.out.size); have fJ := ak (jR.out.grown fQ jR.out.size (by simp)); obtain ⟨A5, c5, rfl⟩ := Kd.R_slice uf; have mr := lq.out.cell 1 _ rfl; clear uf fQ mY Fw Cu jR)
  | (go_at_call 103; refine (dU.calls _ _ _ HTX.out).mono ?_; rintro e W6 ⟨v6, rfl, EN, dJ⟩; have qZ := ak (Kd.R_below Cs.out dJ); have lT := ak (fJ.out.trans (dJ.mono fJ.out.size)); have n7 := ak (lq.out.below dJ); obtain ⟨A6, c6, EM, LM, EW⟩ := Kd.R_reads EN; subst EM; have Fx := ak EW; clear EN dJ fJ lq mr EW)
  | ((with_reducible refine ei (b := .append) (xs := #[.tmp 17, .tmp 20]) rfl ?_); at_builtin; refine Kd.R_append_row (Value.int .u8) (0 : Int) (w0 := w) w.heap.size rfl (.tmp 17) (.tmp 20) 61 5 (.int .u8 0) 1 rfl Tryz.underlying61 iU rfl (by decide) _ L1 TA A6 TA.length c6 (fun _ => True) rfl rfl (fun _ _ => trivial) qZ.out Fx.out lT.out lT.out.size (by have := VJ.out; have := VI.out; omega) ?_; intro v7 w7 mX lR cz uK; rw [← H2.out] at mX; have pf := ak (n7.out.grown cz (n7.out.ne_row qZ.out (by decide))); have ya := ak mX; have kO := ak lR; obtain ⟨A7, c7, rfl⟩ := Kd.R_slice mX; have PT := pf.out.cell 4 _ rfl; clear mX lR cz uK n7 qZ Fx lT)
  | ((with_reducible refine ei (b := .append) (xs := #[.tmp 22, .tmp 27]) rfl ?_); at_builtin; refine Kd.R_append (Kd.int .u8) (w0 := w) w.heap.size rfl (.tmp 22) (.tmp 27) 61 5 (.int .u8 0) 1 rfl Tryz.underlying61 iU rfl (by decide) (by omega) _ L2 (M.length : Int) [.int .u8 (M.length : Int)] (fun _ => True) (fun _ => False) rfl rfl rfl (fun _ hk => hk.elim) (fun _ _ => trivial) ya.out kO.out kO.out.size (by have := VH.out; omega) ?_; intro v8 w8 mO hO b9 uJ; rw [← VV.out] at mO; have nN := ak (pf.out.grown b9 (pf.out.ne_row ya.out (by decide))); have Cr := ak mO; have ia := ak hO; obtain ⟨A8, c8, rfl⟩ := Kd.R_slice mO; have QF := nN.out.cell 4 _ rfl; clear mO hO b9 uJ pf ya kO PT))
 have ur := ak (show Kd.R (Kd.int .u8) 5 _ w.heap.size (fun _ => True) (.slice A8 L3.length c8) (ir b 0) by rw [← H3.out]; exact Cr.out)
 clear Cr hg QF
 go_loopw [3, 5, 32] (fun s _ i W => ∃ k : Nat, k ≤ M.length ∧ i = .int .i64 k ∧ Aside0 (Kd.R (Kd.int .u8) 5 W w.heap.size (fun _ => True) s (ir b k)) ∧ Aside0 (bS W g [.int .u32 b.addr, .string b.aff, .slice As b.slots.length cs, .slice Af b.free.length cf, .slice Aa M.length ca] 49) ∧ Aside0 (Below w.heap.size w W)) (fun _ _ i _ => M.length - (intOf i).toNat)
 case atStart => exact ⟨0, by omega, rfl, ur, nN, ia⟩
 case round =>
  clear ur nN ia
  obtain ⟨k, hk, rfl, HO, HX, HB⟩ := hrel
  obtain ⟨W, rfl⟩ : ∃ W : World, W = wr := ⟨_, rfl⟩
  by_cases hkn : k < M.length
  ·have hkb : decide ((k : Int) < (M.length : Int)) = true := by simp; omega
   obtain ⟨ad, eA, iP, ml⟩ := wi (Kd.C_below C3.out HB.out) k (by omega) (by omega)
   cases eA
   rw [Int.toNat_natCast] at iP ml
   have p1 : ((k : Int) < (M.length : Int)) = True := eq_true (by omega)
   have hka : k < b.attrs.length := by have := HML.out; omega
   obtain ⟨a, ha⟩ : ∃ a : At, ll b.attrs k = a := ⟨_, rfl⟩
   have ha' : bc M (k : Int) = vc a := by
    rw [← ha, HM.out]
    show bc (b.attrs.map vc) (k : Int) = vc (lN b.attrs (k : Int))
    simp [bc, lN, List.getD, hka]
   rw [ha'] at iP ml
   have hma := HP.out.may k hka
   rw [ha] at hma
   unfold gE at hma
   rw [Bool.and_eq_true] at hma
   have kJ := (eT hma.1).2
   have nH := (eT hma.2).2
   have hpl := vK HP.out k (by omega)
   obtain ⟨P0, LP⟩ : ∃ P0, P0 = ir b k := ⟨_, rfl⟩
   obtain ⟨T0, EU⟩ : ∃ T0, T0 = fZ a.f0 := ⟨_, rfl⟩
   obtain ⟨T1, Ix⟩ : ∃ T1, T1 = fZ a.f1 := ⟨_, rfl⟩
   obtain ⟨P1, Iz⟩ : ∃ P1 : List Int, P1 = P0 ++ T0 := ⟨_, rfl⟩
   have Iy := uc b k hka
   rw [ha, ← LP, ← EU, ← Iz, ← Ix] at Iy
   obtain ⟨P2, hPP⟩ : ∃ P2 : List Int, P2 = ir b (k + 1) := ⟨_, rfl⟩
   rw [← hPP] at Iy
   rw [← LP] at HO hpl
   have VT := ak (show dU.f (vc a).f0 = some T0 by rw [EU]; exact wF _ kJ)
   have tj := ak (show dU.f (vc a).f1 = some T1 by rw [Ix]; exact wF _ nH)
   have UF := ak (show P0.length ≤ 71 + 130 * 64 by have := HAL.out; omega)
   have UD := ak (show T0.length ≤ 65 by rw [EU, jx]; omega)
   have UC := ak (show T1.length ≤ 65 by rw [Ix, jx]; omega)
   have UE := ak (show P1.length ≤ 136 + 130 * 64 by have := HAL.out; rw [Iz, List.length_append, EU, jx]; omega)
   have E1 := ak Iz
   have E2 := ak Iy
   have E3 := ak hPP
   clear ha ha' hma kJ nH hpl LP EU Ix Iz Iy hPP
   obtain ⟨Ao, co, rfl⟩ := Kd.R_slice HO.out
   go_wp2_with (first
    | (refine a6 (some 5) rfl rfl 78 rfl [.string ⟨#[]⟩, .string ⟨#[]⟩] (fun _ => by kernel_rfl) ?_; intro ga W3 hga iw uI)
    | (refine aM rfl 78 (.tmp 5) (.tmp 35) rfl ga [.string (vc a).f0, .string (vc a).f1] rfl rfl 78 _ iw 2 (by kernel_rfl) rfl rfl (by intro u hu; simp at hu; rcases hu with rfl | rfl <;> rfl) ?_; intro W4 jR zi; have nS := ak jR; have hbW : Below W.heap.size W W4 := uI.grown zi uI.size (fun q hq => by cases hq; exact hga); have fJ := ak (au HB.out hbW); have lq := ak (HX.out.below hbW); have Cs := ak (Kd.R_below HO.out hbW); have vM := nS.out.cell 0 _ rfl; clear iw jR hga uI zi hbW iP ml HO HX HB)
    | (go_at_call 103; refine (dU.calls _ _ _ VT.out).mono ?_; rintro e W6 ⟨v6, rfl, EN, dJ⟩; have qZ := ak (Kd.R_below Cs.out dJ); have lT := ak (fJ.out.trans (dJ.mono fJ.out.size)); have n7 := ak (lq.out.below dJ); have wv := ak (nS.out.below dJ); obtain ⟨A6, c6, EM, LM, EW⟩ := Kd.R_reads EN; subst EM; have Fx := ak EW; clear EN dJ fJ lq Cs nS vM EW)
    | ((with_reducible refine ei (b := .append) (xs := #[.tmp 36, .tmp 39]) rfl ?_); at_builtin; refine Kd.R_append_row (Value.int .u8) (0 : Int) (w0 := w) w.heap.size rfl (.tmp 36) (.tmp 39) 61 5 (.int .u8 0) 1 rfl Tryz.underlying61 iU rfl (by decide) _ P0 T0 A6 T0.length c6 (fun _ => True) rfl rfl (fun _ _ => trivial) qZ.out Fx.out lT.out lT.out.size (by have := UF.out; have := UD.out; omega) ?_; intro v7 w7 mX lR cz uK; rw [← E1.out] at mX; have pf := ak (n7.out.grown cz (n7.out.ne_row qZ.out (by decide))); have ra := ak (wv.out.grown cz (wv.out.ne_row qZ.out (by decide))); have ya := ak mX; have kO := ak lR; obtain ⟨A7, c7, rfl⟩ := Kd.R_slice mX; have xK := ra.out.cell 1 _ rfl; clear mX lR cz uK n7 qZ Fx lT wv)
    | (go_at_call 103; refine (dU.calls _ _ _ tj.out).mono ?_; rintro e W8 ⟨v8, rfl, mO, hO⟩; have Cr := ak (Kd.R_below ya.out hO); have ia := ak (kO.out.trans (hO.mono kO.out.size)); have nN := ak (pf.out.below hO); obtain ⟨A8, c8, UL, Xw, PZ⟩ := Kd.R_reads mO; subst UL; have Qj := ak PZ; clear mO hO kO pf ya ra xK PZ)
    | ((with_reducible refine ei (b := .append) (xs := #[.tmp 41, .tmp 44]) rfl ?_); at_builtin; refine Kd.R_append_row (Value.int .u8) (0 : Int) (w0 := w) w.heap.size rfl (.tmp 41) (.tmp 44) 61 5 (.int .u8 0) 1 rfl Tryz.underlying61 iU rfl (by decide) _ P1 T1 A8 T1.length c8 (fun _ => True) rfl rfl (fun _ _ => trivial) Cr.out Qj.out ia.out ia.out.size (by have := UE.out; have := UC.out; omega) ?_; intro v9 w9 qG PU dp QJ; rw [← E2.out] at qG; have I0 := ak (nN.out.grown dp (nN.out.ne_row Cr.out (by decide))); have I9 := ak qG; have pk := ak PU; clear qG PU dp QJ nN Cr Qj ia))
   go_roundw
   case rel => exact ⟨k + 1, by omega, by go_num, ⟨by rw [← E3.out]; exact I9.out⟩, I0, pk⟩
   case measure => simp [intOf]; omega
  ·obtain rfl : k = M.length := by omega
   have hkb : decide ((M.length : Int) < (M.length : Int)) = false := by simp
   have mq := HX.out.cell 2 _ rfl
   have e0 : ir b M.length = ir b b.attrs.length ++ b.slots.take 0 := by rw [HML.out, List.take_zero, List.append_nil]
   rw [e0] at HO
   clear e0
   obtain ⟨Ao, co, rfl⟩ := Kd.R_slice HO.out
   have HZ := ak HO.out
   have hPL := vK HP.out b.attrs.length (Nat.le_refl _)
   obtain ⟨PA, hPA⟩ : ∃ PA : List Int, PA = ir b b.attrs.length := ⟨_, rfl⟩
   have HPA := ak hPA
   have HPL := ak (show PA.length ≤ 71 + 130 * 64 by have := HAL.out; rw [hPA]; omega)
   clear HO
   rw [← hPA] at HZ ⊢
   clear hPA hPL
   go_wp2_with fail
   clear mq
   go_loopw [3, 7, 50] (fun s _ i W => ∃ k : Nat, k ≤ b.slots.length ∧ i = .int .i64 k ∧ Aside0 (Kd.R (Kd.int .u8) 5 W w.heap.size (fun _ => True) s (PA ++ b.slots.take k)) ∧ Aside0 (bS W g [.int .u32 b.addr, .string b.aff, .slice As b.slots.length cs, .slice Af b.free.length cf, .slice Aa M.length ca] 49) ∧ Aside0 (Below w.heap.size w W)) (fun _ _ i _ => b.slots.length - (intOf i).toNat)
   case atStart => exact ⟨0, by omega, rfl, HZ, HX, HB⟩
   case round =>
    clear HZ HX HB
    obtain ⟨k, hk, rfl, HO, HX, HB⟩ := hrel
    obtain ⟨W, rfl⟩ : ∃ W : World, W = wr := ⟨_, rfl⟩
    by_cases hkn : k < b.slots.length
    ·have hkb : decide ((k : Int) < (b.slots.length : Int)) = true := by simp; omega
     obtain ⟨ad, eA, hx⟩ := Kd.at_int (Kd.C_below C1.out HB.out) k (by omega) (by omega)
     cases eA
     rw [Int.toNat_natCast] at hx
     have p1 : ((k : Int) < (b.slots.length : Int)) = True := eq_true (by omega)
     obtain ⟨m, hm⟩ : ∃ m : Nat, rd b.slots k = (m : Int) := ⟨(rd b.slots k).toNat, by have := (iM HK.out.s8 k).1; omega⟩
     have EP : m < 256 := by have := (iM HK.out.s8 k).2; omega
     rw [hm] at hx
     obtain ⟨L, hL⟩ : ∃ L : List Int, L = PA ++ b.slots.take (k + 1) := ⟨_, rfl⟩
     obtain ⟨L0, vU⟩ : ∃ L0 : List Int, L0 = PA ++ b.slots.take k := ⟨_, rfl⟩
     have HLq := ak hL
     have HT := ak (show L = L0 ++ [(m : Int)] by
      rw [hL, vU, ← hm, List.take_add_one, List.getElem?_eq_getElem hkn]; simp [rd, List.getD, hkn])
     rw [← vU] at HO
     have hlen := ak (show L0.length ≤ 10000 by have := HPL.out; have := HSL.out; rw [vU, List.length_append, List.length_take]; omega)
     clear hL vU hm
     obtain ⟨Ao, co, rfl⟩ := Kd.R_slice HO.out
     go_wp2_with (first | ((with_reducible refine ei (b := .append) (xs := #[.tmp 54, .tmp 57]) rfl ?_); at_builtin; refine Kd.R_append (Kd.int .u8) (w0 := w) w.heap.size rfl (.tmp 54) (.tmp 57) 61 5 (.int .u8 0) 1 rfl Tryz.underlying61 iU rfl (by decide) (by omega) _ L0 (m : Int) [.int .u8 (m : Int)] (fun _ => True) (fun _ => False) rfl rfl rfl (fun _ hk => hk.elim) (fun _ _ => trivial) HO.out HB.out HB.out.size (by have := hlen.out; omega) ?_; intro v1 w1 fK aW dh kZ; have fv := ak (HX.out.grown dh (HX.out.ne_row HO.out (by decide))); rw [← HT.out] at fK; have nO := ak fK; have cP := ak aW; clear fK aW dh kZ HX HO HB hx))
     go_roundw
     case rel => exact ⟨k + 1, by omega, by go_num, ⟨by rw [← HLq.out]; exact nO.out⟩, fv, cP⟩
     case measure => simp [intOf]; omega
    ·obtain rfl : k = b.slots.length := by omega
     have hkb : decide ((b.slots.length : Int) < (b.slots.length : Int)) = false := by simp
     rw [List.take_of_length_le (Nat.le_refl b.slots.length)] at HO
     obtain ⟨L4, IA⟩ : ∃ L4 : List Int, L4 = PA ++ b.slots := ⟨_, rfl⟩
     obtain ⟨L5, LR⟩ : ∃ L5 : List Int, L5 = L4 ++ [(b.free.length : Int)] := ⟨_, rfl⟩
     have H4 := ak IA
     have H5 := ak LR
     rw [← IA] at HO
     have l4 := ak (show L4.length ≤ 10000 by have := HPL.out; have := HSL.out; rw [IA, List.length_append]; omega)
     have l5 := ak (show L5.length ≤ 10001 by have := l4.out; rw [LR, List.length_append, List.length_singleton]; omega)
     clear IA LR
     obtain ⟨Ao, co, rfl⟩ := Kd.R_slice HO.out
     have zx := HX.out.cell 3 _ rfl
     go_wp2_with (first | ((with_reducible refine ei (b := .append) (xs := #[.tmp 60, .tmp 65]) rfl ?_); at_builtin; refine Kd.R_append (Kd.int .u8) (w0 := w) w.heap.size rfl (.tmp 60) (.tmp 65) 61 5 (.int .u8 0) 1 rfl Tryz.underlying61 iU rfl (by decide) (by omega) _ L4 (b.free.length : Int) [.int .u8 (b.free.length : Int)] (fun _ => True) (fun _ => False) rfl rfl rfl (fun _ hk => hk.elim) (fun _ _ => trivial) HO.out HB.out HB.out.size (by have := l4.out; omega) ?_; intro v1 w1 fK aW dh kZ; have fv := ak (HX.out.grown dh (HX.out.ne_row HO.out (by decide))); rw [← H5.out] at fK; have nO := ak (show Kd.R (Kd.int .u8) 5 w1 w.heap.size (fun _ => True) v1 (L5 ++ b.free.take 0) by rw [List.take_zero, List.append_nil]; exact fK); have cP := ak aW; have QG := fv.out.cell 3 _ rfl; clear fK aW dh kZ HX HO HB zx))
     clear QG
     go_loopw [3, 9, 70] (fun s _ i W => ∃ k : Nat, k ≤ b.free.length ∧ i = .int .i64 k ∧ Aside0 (Kd.R (Kd.int .u8) 5 W w.heap.size (fun _ => True) s (L5 ++ b.free.take k)) ∧ Aside0 (Below w.heap.size w W)) (fun _ _ i _ => b.free.length - (intOf i).toNat)
     case atStart => exact ⟨0, by omega, rfl, nO, cP⟩
     case round =>
      clear nO fv cP
      obtain ⟨k, hk, rfl, HO, HB⟩ := hrel
      obtain ⟨W, rfl⟩ : ∃ W : World, W = wr := ⟨_, rfl⟩
      by_cases hkn : k < b.free.length
      ·have hkb : decide ((k : Int) < (b.free.length : Int)) = true := by simp; omega
       obtain ⟨ad, eA, hx⟩ := Kd.at_int (Kd.C_below C2.out HB.out) k (by omega) (by omega)
       cases eA
       rw [Int.toNat_natCast] at hx
       have p1 : ((k : Int) < (b.free.length : Int)) = True := eq_true (by omega)
       obtain ⟨m, hm⟩ : ∃ m : Nat, rd b.free k = (m : Int) := ⟨(rd b.free k).toNat, by have := (iM HK.out.f8 k).1; omega⟩
       have EP : m < 256 := by have := (iM HK.out.f8 k).2; omega
       rw [hm] at hx
       obtain ⟨L, hL⟩ : ∃ L : List Int, L = L5 ++ b.free.take (k + 1) := ⟨_, rfl⟩
       obtain ⟨L0, vU⟩ : ∃ L0 : List Int, L0 = L5 ++ b.free.take k := ⟨_, rfl⟩
       have HLq := ak hL
       have HT := ak (show L = L0 ++ [(m : Int)] by
        rw [hL, vU, ← hm, List.take_add_one, List.getElem?_eq_getElem hkn]; simp [rd, List.getD, hkn])
       rw [← vU] at HO
       have hlen := ak (show L0.length ≤ 11000 by have := l5.out; have := HFL.out; rw [vU, List.length_append, List.length_take]; omega)
       clear hL vU hm
       obtain ⟨Ao, co, rfl⟩ := Kd.R_slice HO.out
       go_wp2_with (first | ((with_reducible refine ei (b := .append) (xs := #[.tmp 74, .tmp 77]) rfl ?_); at_builtin; refine Kd.R_append (Kd.int .u8) (w0 := w) w.heap.size rfl (.tmp 74) (.tmp 77) 61 5 (.int .u8 0) 1 rfl Tryz.underlying61 iU rfl (by decide) (by omega) _ L0 (m : Int) [.int .u8 (m : Int)] (fun _ => True) (fun _ => False) rfl rfl rfl (fun _ hk => hk.elim) (fun _ _ => trivial) HO.out HB.out HB.out.size (by have := hlen.out; omega) ?_; intro v1 w1 fK aW dh kZ; rw [← HT.out] at fK; have nO := ak fK; have cP := ak aW; clear fK aW dh kZ HO HB hx))
       go_roundw
       case rel => exact ⟨k + 1, by omega, by go_num, ⟨by rw [← HLq.out]; exact nO.out⟩, cP⟩
       case measure => simp [intOf]; omega
      ·obtain rfl : k = b.free.length := by omega
       have hkb : decide ((b.free.length : Int) < (b.free.length : Int)) = false := by simp
       rw [List.take_of_length_le (Nat.le_refl b.free.length)] at HO
       have HI := ak (show L5 ++ b.free = lv b by
        rw [H5.out, H4.out, HPA.out]
        simp [lv])
       obtain ⟨L6, LQ⟩ : ∃ L6 : List Int, L6 = L5 ++ b.free := ⟨_, rfl⟩
       have H6 := ak LQ
       rw [← LQ] at HO
       clear LQ
       obtain ⟨A9, c9, UK, Xv, PY⟩ := Kd.R_reads HO.out
       subst UK
       have hst := Kd.C_string (P := Tryz.prog) (src := 61) (dst := 9) (c := c9) Tryz.underlying61 Tryz.underlying5 Tryz.underlying9 PY
       clear PY
       go_wp2_with fail
       go_ret
       exact ⟨by rw [← HI.out, ← H6.out]; rfl, HB.out⟩
end Go.Proofs.YtndddnglapkplaaGreatDoor.V
end

section
namespace Go.Proofs.YtndddnglapkplaaGreatDoor.V
attribute [local go_sem] bI bG bP bO bw bu bH bF
theorem Od (d : Nat) (w : World) (x0 y0 : ByteArray) (x1 y1 : ByteArray) :
  (Op.equalIn (d + 2) 78 (.agg #[.string x0, .string x1]) (.agg #[.string y0, .string y1])).run Tryz.prog w = .ok (x0.toList == y0.toList && (x1.toList == y1.toList)) w := by
 refine EZ Tryz.underlying78 (by kernel_rfl) ?_
 refine zI (by rfl) (by go_simp; rfl) (by go_simp; rfl) (by go_simp) ?_
 exact zH (by rfl) (by go_simp; rfl) (by go_simp; rfl) (by go_simp)
end Go.Proofs.YtndddnglapkplaaGreatDoor.V
end

section
namespace Go.Proofs.YtndddnglapkplaaGreatDoor.V
attribute [local go_sem] bI bG bP bO bw bu bH bF
def dt.f (k : Nat) (a0 : ByteArray) : Option (Bool) := if a0.toList = ([] : List UInt8) then (some true) else ((aG.f k a0).bind fun oB => (some oB))
set_option maxHeartbeats 8000000 in
set_option maxRecDepth 100000 in
theorem dt.calls (k : Nat) (a0 : ByteArray) (r : Bool) (w : World) (h : dt.f k a0 = some r) :
  Calls Tryz.prog 100 #[.string a0] w fun e w' => e = .returned (.bool r) ∧ Drawn0 w w' := by
 have H : (if a0.toList = ([] : List UInt8) then (some true) else ((aG.f k a0).bind fun oB => (some oB))) = some r := h
 clear h
 by_cases c2 : a0.toList = ([] : List UInt8)
 ·rw [if_pos c2] at H
  have gY : (a0.toList == ([] : List UInt8)) = true := beq_iff_eq.mpr c2
  have sV : (a0.toList != ([] : List UInt8)) = false := bne_eq_false_iff_eq.mpr c2
  clear c2
  obtain rfl := Option.some.inj H
  go_enter Tryz.func100, Tryz.ntmps100
  go_wp2
  go_ret
  exact ⟨by first | rfl | (simp; done) | (simp [*]; done), by repeat (first | exact Drawn0.refl _ | apply Drawn0.step)⟩
 ·rw [if_neg c2] at H
  have gY : (a0.toList == ([] : List UInt8)) = false := beq_eq_false_iff_ne.mpr c2
  have sV : (a0.toList != ([] : List UInt8)) = true := bne_iff_ne.mpr c2
  replace H := Option.bind_eq_some_iff.mp H
  obtain ⟨oB, hG, H⟩ := H
  replace H : (some oB) = some r := H
  have A3 := ak hG
  clear hG
  obtain rfl := Option.some.inj H
  go_enter Tryz.func100, Tryz.ntmps100
  go_wp2_with (first | (go_at_call 43; (with_reducible refine (aG.calls k a0 oB _ A3.out).mono ?_); rintro e w' ⟨rfl, ⟨nd, rfl⟩⟩))
  go_ret
  exact ⟨by first | rfl | (simp; done) | (simp [*]; done), by repeat (first | exact Drawn0.refl _ | apply Drawn0.step)⟩
end Go.Proofs.YtndddnglapkplaaGreatDoor.V
end

section
namespace Go.Proofs.YtndddnglapkplaaGreatDoor.V
attribute [local go_sem] bI bG bP bO bw bu bH bF
def eJ.f (k : Nat) (aH : ByteArray) (aC : ByteArray) : Option (Bool) := (aG.f k aH).bind fun oA => (if oA = true then ((aG.f k aC).bind fun kA => (some kA)) else (some false))
set_option maxHeartbeats 8000000 in
set_option maxRecDepth 100000 in
theorem eJ.calls (k : Nat) (aH : ByteArray) (aC : ByteArray) (r : Bool) (w : World) (h : eJ.f k aH aC = some r) :
  Calls Tryz.prog 101 #[.agg #[.string aH, .string aC]] w fun e w' => e = .returned (.bool r) ∧ Below w.heap.size w w' := by
 have Qu := Tryz.underlying78
 have HB := ak (Below.refl w.heap.size w)
 have H : ((aG.f k aH).bind fun oA => (if oA = true then ((aG.f k aC).bind fun kA => (some kA)) else (some false))) = some r := h
 clear h
 replace H := Option.bind_eq_some_iff.mp H
 obtain ⟨oA, ek, H⟩ := H
 replace H : (if oA = true then ((aG.f k aC).bind fun kA => (some kA)) else (some false)) = some r := H
 have A2 := ak ek
 clear ek
 by_cases c3 : oA = true
 ·subst c3
  have H1 : ((aG.f k aC).bind fun kA => (some kA)) = some r := by rw [if_pos rfl] at H; exact H
  clear H
  have H := H1
  clear H1
  replace H := Option.bind_eq_some_iff.mp H
  obtain ⟨kA, mF, H⟩ := H
  replace H : (some kA) = some r := H
  have A4 := ak mF
  clear mF
  obtain rfl := Option.some.inj H
  go_enter Tryz.func101, Tryz.ntmps101
  go_wp2_with (first | ((with_reducible refine aA (N := 1) rfl ?_); refine bl ?hg (N := 1) ?hd (cs := #[.string aH, .string aC]) (t := 78) ?hr ?_; (case hd => rfl); (case hg => rfl); (case hr => first | (go_simp; done) | (go_simp; rfl)); intro j4 hg w5 hbox hb; have av := ak (au (by repeat (first | (with_reducible first | exact HB.out | apply aa | apply J | apply ab) | exact HB.out)) hb); have az := ak (hbox); have aR := ak ((by rw [hg]; exact (ay (by repeat (first | (with_reducible first | exact HB.out | apply aa | apply J | apply ab) | exact HB.out))) : w.heap.size ≤ j4)); have bp := ak ((by rw [hg]; exact (ay (by repeat (first | (with_reducible first | exact HB.out | apply aa | apply J | apply ab) | exact HB.out))) : w.heap.size ≤ j4)); clear HB; have HB := av; have kf := az; have Hn := aR; have uV := bp; clear av az aR bp; clear hb hbox hg; have zw : w5.cell? ⟨j4, 0, none⟩ = some (.string aH) := (aj kf.out 0).trans rfl; have zv : w5.cell? ⟨j4, 1, none⟩ = some (.string aC) := (aj kf.out 1).trans rfl; have zo := ah kf.out 0; have zn := ah kf.out 1) | ((with_reducible refine aD (f := 43) rfl ?_); refine bg (some 5) rfl rfl Tryz.func43 (by kernel_rfl) rfl #[.string aH] rfl (by (try simp only [List.map_toArray, List.map_cons, List.map_nil]); first | done | rfl | (simp only [List.length_drop, List.length_take]; rfl)) ?_; (with_reducible refine (aG.calls k aH true _ A2.out).mono ?_); rintro e w' ⟨rfl, ⟨nd, rfl⟩⟩; refine ⟨_, rfl, ?_⟩) | (go_at_call 43; (with_reducible refine (aG.calls k aC kA _ A4.out).mono ?_); rintro e w' ⟨rfl, ⟨nd, rfl⟩⟩))
  go_ret
  exact ⟨by first | rfl | (simp [aq, ao] <;> rfl) | (simp [*, aq, ao] <;> rfl), by repeat (first | (with_reducible first | exact HB.out | apply aa | apply J | apply ab | refine ai ?_ uV.out) | exact HB.out)⟩
 ·replace c3 := Bool.eq_false_iff.mpr c3
  subst c3
  have H1 : (some false) = some r := by rw [if_neg (show ¬ (false = true) by decide)] at H; exact H
  clear H
  have H := H1
  clear H1
  obtain rfl := Option.some.inj H
  go_enter Tryz.func101, Tryz.ntmps101
  go_wp2_with (first | ((with_reducible refine aA (N := 1) rfl ?_); refine bl ?hg (N := 1) ?hd (cs := #[.string aH, .string aC]) (t := 78) ?hr ?_; (case hd => rfl); (case hg => rfl); (case hr => first | (go_simp; done) | (go_simp; rfl)); intro j4 hg w7 hbox hb; have av := ak (au (by repeat (first | (with_reducible first | exact HB.out | apply aa | apply J | apply ab) | exact HB.out)) hb); have az := ak (hbox); have aR := ak ((by rw [hg]; exact (ay (by repeat (first | (with_reducible first | exact HB.out | apply aa | apply J | apply ab) | exact HB.out))) : w.heap.size ≤ j4)); have bp := ak ((by rw [hg]; exact (ay (by repeat (first | (with_reducible first | exact HB.out | apply aa | apply J | apply ab) | exact HB.out))) : w.heap.size ≤ j4)); clear HB; have HB := av; have kf := az; have Hn := aR; have uV := bp; clear av az aR bp; clear hb hbox hg; have vT : w7.cell? ⟨j4, 0, none⟩ = some (.string aH) := (aj kf.out 0).trans rfl; have vS : w7.cell? ⟨j4, 1, none⟩ = some (.string aC) := (aj kf.out 1).trans rfl; have vR := ah kf.out 0; have vQ := ah kf.out 1) | ((with_reducible refine aD (f := 43) rfl ?_); refine bg (some 5) rfl rfl Tryz.func43 (by kernel_rfl) rfl #[.string aH] rfl (by (try simp only [List.map_toArray, List.map_cons, List.map_nil]); first | done | rfl | (simp only [List.length_drop, List.length_take]; rfl)) ?_; (with_reducible refine (aG.calls k aH false _ A2.out).mono ?_); rintro e w' ⟨rfl, ⟨nd, rfl⟩⟩; refine ⟨_, rfl, ?_⟩))
  go_ret
  exact ⟨by first | rfl | (simp [aq, ao] <;> rfl) | (simp [*, aq, ao] <;> rfl), by repeat (first | (with_reducible first | exact HB.out | apply aa | apply J | apply ab | refine ai ?_ uV.out) | exact HB.out)⟩
end Go.Proofs.YtndddnglapkplaaGreatDoor.V
end

section
namespace Go.Proofs.YtndddnglapkplaaGreatDoor.V
attribute [local go_sem] bI bG bP bO bw bu bH bF
def br.l0 : Nat → Int → Int → List Int → Int → Int → Option (Int)
 | 0, _, _, _, _, _ => none
 | k + 1, x1, x5, x8, x9, Br => if Br < x9 then (if 0 ≤ Br then (if Br < (x8.length : Int) then (if (rd x8 Br) = x1 then (br.l0 k x1 (wrap64 (x5 + 1)) x8 x9 (wrap64 (Br + 1))) else (br.l0 k x1 x5 x8 x9 (wrap64 (Br + 1)))) else (none)) else (none)) else (some x5)
def br.f (k : Nat) (l0 : List Int) (a1 : Int) : Option (Int) := br.l0 k a1 0 l0 (l0.length : Int) 0
set_option maxHeartbeats 8000000 in
set_option maxRecDepth 100000 in
theorem br.calls (k : Nat) (A0 : Option Addr) (c0 : Nat) (l0 : List Int) (a1 : Int) (r : Int) (w : World) (zf : Kd.C (Kd.int .i64) w A0 l0.length l0) (gX : l0.length ≤ c0) (h : br.f k l0 a1 = some r) :
  Calls Tryz.prog 102 #[.slice A0 l0.length c0, .int .i64 a1] w fun e w' => e = .returned (.int .i64 r) ∧ Drawn0 w w' := by
 have I6 := ak zf
 have VU := ak gX
 clear zf gX
 have H : (br.l0 k a1 0 l0 (l0.length : Int) 0) = some r := h
 clear h
 have H' := ak H
 clear H
 go_enter Tryz.func102, Tryz.ntmps102
 go_wp2
 go_loopg [5, 10] k (fun kq v5 v10 w' => ∃ (fE : Int) (fY : Int), v5 = .int .i64 fE ∧ v10 = .int .i64 fY ∧ Aside0 (br.l0 kq a1 fE l0 (l0.length : Int) fY = some r) ∧ Aside0 (kq ≤ k) ∧ Drawn0 w w')
 case atStart => exact ⟨(0), (0), (by first | rfl | (simp; done) | (simp [*]; done)), (by first | rfl | (simp; done) | (simp [*]; done)), H', ⟨Nat.le_refl _⟩, by repeat (first | exact Drawn0.refl _ | apply Drawn0.step)⟩
 case round =>
  clear H'
  obtain ⟨fE, fY, rfl, rfl, HA, cC, ⟨m1, rfl⟩⟩ := hrel
  cases gk with
  | zero => exact absurd HA.out (by simp [br.l0])
  | succ k1 =>
   have H := HA.out
   clear HA
   simp only [br.l0] at H
   by_cases c3 : fY < (l0.length : Int)
   ·rw [if_pos c3] at H
    have gw : decide (fY < (l0.length : Int)) = true := decide_eq_true c3
    clear c3
    by_cases c4 : 0 ≤ fY
    ·rw [if_pos c4] at H
     have fj : decide (0 ≤ fY) = true := decide_eq_true c4
     clear c4
     by_cases c5 : fY < (l0.length : Int)
     ·rw [if_pos c5] at H
      have mb : decide (fY < (l0.length : Int)) = true := decide_eq_true c5
      clear c5
      by_cases c6 : (rd l0 fY) = a1
      ·rw [if_pos c6] at H
       have jq : ((rd l0 fY) == a1) = true := beq_iff_eq.mpr c6
       have uO : ((rd l0 fY) != a1) = false := bne_eq_false_iff_eq.mpr c6
       clear c6
       have H' := ak H
       clear H
       have nf : 0 ≤ (fY : Int) := of_decide_eq_true (by first | (with_reducible assumption) | assumption)
       have nb : fY < (l0.length : Int) := of_decide_eq_true (by first | (with_reducible assumption) | assumption)
       obtain ⟨GQ, wW, C5⟩ := Kd.at_int I6.out fY nf nb
       cases wW
       replace nf := eq_true nf
       replace nb := eq_true nb
       go_wp2
       go_roundg k1
       case measure => have := cC.out; omega
       case rel => exact ⟨(wrap64 (fE + 1)), (wrap64 (fY + 1)), (by first | rfl | (simp; done) | (simp [*]; done)), (by first | rfl | (simp; done) | (simp [*]; done)), H', ⟨by have := cC.out; omega⟩, by repeat (first | exact Drawn0.refl _ | apply Drawn0.step)⟩
      ·rw [if_neg c6] at H
       have jq : ((rd l0 fY) == a1) = false := beq_eq_false_iff_ne.mpr c6
       have uO : ((rd l0 fY) != a1) = true := bne_iff_ne.mpr c6
       have H' := ak H
       clear H
       have nf : 0 ≤ (fY : Int) := of_decide_eq_true (by first | (with_reducible assumption) | assumption)
       have nb : fY < (l0.length : Int) := of_decide_eq_true (by first | (with_reducible assumption) | assumption)
       obtain ⟨GQ, wW, C5⟩ := Kd.at_int I6.out fY nf nb
       cases wW
       replace nf := eq_true nf
       replace nb := eq_true nb
       go_wp2
       go_roundg k1
       case measure => have := cC.out; omega
       case rel => exact ⟨(fE), (wrap64 (fY + 1)), (by first | rfl | (simp; done) | (simp [*]; done)), (by first | rfl | (simp; done) | (simp [*]; done)), H', ⟨by have := cC.out; omega⟩, by repeat (first | exact Drawn0.refl _ | apply Drawn0.step)⟩
     ·rw [if_neg c5] at H
      exact absurd H (by simp)
    ·rw [if_neg c4] at H
     exact absurd H (by simp)
   ·rw [if_neg c3] at H
    have gw : decide (fY < (l0.length : Int)) = false := decide_eq_false c3
    clear c3
    obtain rfl := Option.some.inj H
    go_wp2
    go_ret
    exact ⟨by first | rfl | (simp; done) | (simp [*]; done), by repeat (first | exact Drawn0.refl _ | apply Drawn0.step)⟩
end Go.Proofs.YtndddnglapkplaaGreatDoor.V
end

