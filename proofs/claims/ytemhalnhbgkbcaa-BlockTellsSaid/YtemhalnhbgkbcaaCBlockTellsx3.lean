/- The law BlockTells for every input: texts of ours, put together (part 4 of 16). No further condition. -/
import Derived.Test.YtemhalnhbgkbcaaCBlockTellsx2
import Derived.Test.YtemhalnhbgkbcaaProg
import Derived.Below
import Derived.Deep.Draws
import Derived.Deep.AppendLies
import Derived.Maps.AppendAt
import Derived.OwnWalk
import Derived.Laws.BytesArg
import Derived.Laws.MakeOwn
import Derived.Laws.OwnMore
import Derived.Deep.OwnRows
import Derived.Tactics
import Derived.Lib.ConvBytes
import Derived.Laws.Slices
import Derived.WalkKit
import Derived.KernelRfl
import Derived.RowKit3
import Derived.Deep.LoopGhost
import Derived.Deep.QuietTactic
import Derived.BigQuiet
import Derived.WideLaws
import Derived.Deep.DeepCutAuto
import Derived.Deep.CutBlock
import Derived.Deep.RegionHeld3
import Derived.Laws.Rows
import Derived.Lib.AppendStr
import Derived.ArgAppend
import Derived.Laws.IdiomCopy
import Derived.OrdersHeld
import Derived.Laws.BitsLemmas
import Derived.RowKit
import Derived.Test.YtemhalnhbgkbcaaCBlockTellsw0
import Derived.Test.YtemhalnhbgkbcaaCBlockTellsw1
import Derived.Laws.BitsAllLaws
import Derived.Laws.Bits64
import Derived.Laws.StructEq
import Derived.Stop.BytesEq
import Derived.Laws.Tables
import Derived.Laws.CopyOwn
import Derived.Outline
import Derived.MapKept
import Derived.ChangeMaps4
import Derived.Laws.RangeAny
set_option linter.unusedVariables false
set_option linter.unusedSimpArgs false
open Go.RowKit Go.Proofs.YtemhalnhbgkbcaaW.PrintWords Go.Proofs.YtemhalnhbgkbcaaW.PrintLast Go.Proofs.YtemhalnhbgkbcaaW.PrintMore Go.Proofs.Ytemhalnhbgkbcaa.Z
section
namespace Go.Proofs.Ytemhalnhbgkbcaa.V
attribute [local go_sem] ez ew fa e9 ec eb ey ev
def LK : Option Int → Value
 | none => .nilIface
 | some c => .iface 0 (.int .i64 c)
theorem cw : LK none = .nilIface := rfl
theorem ct (c : Int) : LK (some c) = .iface 0 (.int .i64 c) := rfl
theorem zN : (Try.prog.info? 3).map (fun i => (i.zero, i.size, i.bytes)) = some (some (.int .i64 0), 1, 8) := by kernel_rfl
theorem Lk : (Try.prog.info? 76).map (fun i => (i.zero, i.size, i.bytes)) = some (some (.agg #[(.string ⟨#[]⟩), (.string ⟨#[]⟩)]), 2, 32) := by kernel_rfl
structure S7 where
 f0 : Int
 f1 : Int
 f2 : Bool
 f3 : Int
def k7 : Kd S7 := Kd.iso (Kd.pair (Kd.int .i64) (Kd.pair (Kd.int .i64) (Kd.pair Kd.bool (Kd.int .u8)))) (fun x : S7 => (x.f0, x.f1, x.f2, x.f3))
structure S76 where
 f0 : ByteArray
 f1 : ByteArray
def N6 : S76 := ⟨(⟨#[]⟩ : ByteArray), (⟨#[]⟩ : ByteArray)⟩
def g8 : Kd S76 := Kd.iso (Kd.pair Kd.string Kd.string) (fun x : S76 => (x.f0, x.f1))
theorem vQ {w : World} {x : S76} {cs : List Value} (h : g8.K w x cs) : cs = [.string x.f0, .string x.f1] := by
 obtain ⟨_, _, rfl, rfl, rfl⟩ := h
 exact rfl
theorem yy (w : World) (base : Nat) (ok : Nat → Prop) (x : S76)  : g8.M w base ok x [.string x.f0, .string x.f1] := ⟨[.string x.f0], [.string x.f1], rfl, rfl, rfl⟩
def fv (xs : List S76) (i : Int) : S76 := xs.getD i.toNat N6
theorem B5 {w : World} {A : Option Addr} {n : Nat} {xs : List S76} (h : Kd.C g8 w A n xs) (i : Int) (h0 : 0 ≤ i) (h1 : i < n) : ∃ ad , A = some ad ∧ w.cell? (ad.add (i.toNat * 2)) = some (.string (fv xs i).f0) ∧ w.cell? ⟨(ad.add (i.toNat * 2)).block, (ad.add (i.toNat * 2)).off + 1, none⟩ = some (.string (fv xs i).f1) := by
 obtain ⟨ad, c, e, _, hK, lT⟩ := Kd.C_get h N6 i h0 h1
 have hc : ∀ j u, c[j]? = some u → w.cell? (ad.add (i.toNat * 2 + j)) = some u := lT
 obtain rfl := vQ hK
 exact ⟨ad, e, hc 0 _ rfl, by rw [← l4 _ _ 1 (by omega)]; exact hc 1 _ rfl⟩
structure S85 where
 f0 : ByteArray
 f1 : ByteArray
def N5 : S85 := ⟨(⟨#[]⟩ : ByteArray), (⟨#[]⟩ : ByteArray)⟩
def kc : Kd S85 := Kd.iso (Kd.pair Kd.string Kd.string) (fun x : S85 => (x.f0, x.f1))
theorem AP {w : World} {x : S85} {cs : List Value} (h : kc.K w x cs) : cs = [.string x.f0, .string x.f1] := by
 obtain ⟨_, _, rfl, rfl, rfl⟩ := h
 exact rfl
theorem yx (w : World) (base : Nat) (ok : Nat → Prop) (x : S85)  : kc.M w base ok x [.string x.f0, .string x.f1] := ⟨[.string x.f0], [.string x.f1], rfl, rfl, rfl⟩
def cH (xs : List S85) (i : Int) : S85 := xs.getD i.toNat N5
theorem kH {w : World} {A : Option Addr} {n : Nat} {xs : List S85} (h : Kd.C kc w A n xs) (i : Int) (h0 : 0 ≤ i) (h1 : i < n) : ∃ ad , A = some ad ∧ w.cell? (ad.add (i.toNat * 2)) = some (.string (cH xs i).f0) ∧ w.cell? ⟨(ad.add (i.toNat * 2)).block, (ad.add (i.toNat * 2)).off + 1, none⟩ = some (.string (cH xs i).f1) := by
 obtain ⟨ad, c, e, _, hK, lT⟩ := Kd.C_get h N5 i h0 h1
 have hc : ∀ j u, c[j]? = some u → w.cell? (ad.add (i.toNat * 2 + j)) = some u := lT
 obtain rfl := AP hK
 exact ⟨ad, e, hc 0 _ rfl, by rw [← l4 _ _ 1 (by omega)]; exact hc 1 _ rfl⟩
end Go.Proofs.Ytemhalnhbgkbcaa.V
end

section
namespace Go.Proofs.Ytemhalnhbgkbcaa.V
theorem wrap_u64 (n : Int) (h0 : 0 ≤ n) (h : n < 18446744073709551616) : IntKind.u64.wrap n = n := by rw [IntKind.wrap_u64]; omega
theorem tQ (n : Nat) (h : n < 18446744073709551616) : IntKind.u64.wrap (n : Int) = (n : Int) := wrap_u64 _ (by omega) (by omega)
theorem iB (n : Int) (h0 : -9223372036854775808 ≤ n) (h : n < 9223372036854775808) : wrap64 n = n := by unfold wrap64; omega
theorem pT (i : Nat) (h : i < 64) : (2 : Nat) ^ i < 18446744073709551616 :=
 Nat.lt_of_lt_of_le (Nat.pow_lt_pow_right (by omega) h) (by decide)
end Go.Proofs.Ytemhalnhbgkbcaa.V
end

section
namespace Go.Proofs.Ytemhalnhbgkbcaa.V
theorem tK : ∀ (xs ys : List Int), xs.length = ys.length → ((List.range xs.length).all fun i => xs.getD i 0 == ys.getD i 0) = (xs == ys)
 | [], [], _ => rfl
 | x :: xs, y :: ys, h => by
  have ih := tK xs ys (by simpa using h)
  rw [List.length_cons, List.range_succ_eq_map, List.all_cons, List.all_map]
  simp only [List.getD_cons_zero, Function.comp_def, List.getD_cons_succ, ih]
  simp [List.cons_beq_cons]
 | [], _ :: _, h => by simp at h
 | _ :: _, [], h => by simp at h
section
variable {P : Program} (w : World)
theorem vO (k : IntKind) (d : Nat) (t e : TypeId) (n : Nat) (ht : P.underlying t = some (.array n e)) (he : P.underlying e = some (.int k)) (hsz : ∀ w, (sizeOf e).run P w = .ok 1 w)
  (xs ys : List Int) (hx : xs.length = n) (hy : ys.length = n) :
  (Op.equalIn (d + 2) t (.agg (xs.map (Value.int k)).toArray) (.agg (ys.map (Value.int k)).toArray)).run P w = .ok (xs == ys) w := by
 rw [← tK xs ys (hx.trans hy.symm), hx, List.range_eq_range', Op.equalIn]
 simp only [Sem.run_bind, run_underlying ht, Result.andThen_ok, hsz, Std.Legacy.Range.forIn_eq_forIn_range', Std.Legacy.Range.size, Nat.sub_zero, Nat.add_sub_cancel, Nat.div_one]
 have hl : ∀ i ∈ List.range' 0 n 1, i < n := fun i hi => by simpa using (List.mem_range'_1.1 hi).2
 generalize List.range' 0 n 1 = l at hl ⊢
 induction l with
 | nil => simp
 | cons i l ih =>
  have hi : i < n := hl i (by simp)
  have px : (part e (xs.map (Value.int k)).toArray (i * 1)).run P w = .ok (.int k (xs.getD i 0)) w := by
   simp [part, isAgg, run_underlying he, List.getD, List.getElem?_eq_getElem (show i < xs.length by omega)]
  have py : (part e (ys.map (Value.int k)).toArray (i * 1)).run P w = .ok (.int k (ys.getD i 0)) w := by
   simp [part, isAgg, run_underlying he, List.getD, List.getElem?_eq_getElem (show i < ys.length by omega)]
  have pe : (Op.equalIn (d + 1) e (.int k (xs.getD i 0)) (.int k (ys.getD i 0))).run P w = .ok (xs.getD i 0 == ys.getD i 0) w := by
   rw [run_equalIn_int w d e k k _ _ he]
  simp only [List.forIn_cons, Sem.run_bind, px, py, pe, Result.andThen_ok, List.all_cons]
  cases hb : (xs.getD i 0 == ys.getD i 0)
  ·simp
  ·simp only [Bool.not_true, Bool.false_eq_true, if_false, Sem.run_pure, Result.andThen_ok, Bool.true_and]
   exact ih fun j hj => hl j (by simp [hj])
end
end Go.Proofs.Ytemhalnhbgkbcaa.V
end

section
namespace Go.Proofs.Ytemhalnhbgkbcaa.V
def aH (W : World) (g : Nat) (cs : List Value) (t : Nat) : Prop := W.heap[g]? = some (.cells cs.toArray t (0, 0))
theorem aH.cell {W : World} {g : Nat} {cs : List Value} {t : Nat} (h : aH W g cs t) (j : Nat) (v : Value) (hv : cs[j]? = some v) : W.cell? ⟨g, j, none⟩ = some v := by
 rw [cell_of_row W g j _ t (0, 0) h]
 simpa using hv
theorem aH.frozen {W : World} {g : Nat} {cs : List Value} {t : Nat} (h : aH W g cs t) (j : Nat) : W.frozen? ⟨g, j, none⟩ = false := frozen_of_row W g j _ t h
theorem aH.lt {W : World} {g : Nat} {cs : List Value} {t : Nat} (h : aH W g cs t) : g < W.heap.size := (Array.getElem?_eq_some_iff.1 h).1
theorem aH.below {W W1 : World} {g : Nat} {cs : List Value} {t : Nat} (h : aH W g cs t) (hb : Below W.heap.size W W1) : aH W1 g cs t := (hb.block g h.lt).trans h
theorem aH.grown {W W1 : World} {g : Nat} {cs : List Value} {t : Nat} (h : aH W g cs t) {row : Option Nat} (hg : W.grownBy W1 row) (hne : some g ≠ row) : aH W1 g cs t := (hg.block g h.lt hne).trans h
theorem aH.drewN {W : World} {g : Nat} {cs : List Value} {t : Nat} (h : aH W g cs t) (n : Nat) : aH (W.drewN n) g cs t := h
theorem aH.alloc {W : World} {g : Nat} {cs : List Value} {t : Nat} (h : aH W g cs t) (o : Obj) : aH (W.alloc o) g cs t := h.below (al (Below.refl _ _) o)
theorem aH.set {W : World} {g : Nat} {cs : List Value} {t : Nat} (h : aH W g cs t) (j : Nat) (v : Value) : aH (W.setCell ⟨g, j, none⟩ v) g (cs.set j v) t := by
 have := heap_setCell_same W g j _ t v h
 unfold aH
 rw [this]
 congr 2
 simp
theorem aH.far {W : World} {g : Nat} {cs : List Value} {t : Nat} (h : aH W g cs t) {p : Addr} (hne : g ≠ p.block) (v : Value) : aH (W.setCell p v) g cs t := (Below.heap_setCell W p v g hne).trans h
theorem aH.ne_row {W : World} {g : Nat} {cs : List Value} {t : Nat} (h : aH W g cs t) {α : Type} {d : Kd α} {e base : Nat} {ok : Nat → Prop} {v : Value} {xs : List α} (hr : d.R e W base ok v xs) (ht : e ≠ t) : some g ≠ v.ownBlock := Kd.R_ne hr h ht
theorem aH.ne {W : World} {g g' : Nat} {cs cs' : List Value} {t t' : Nat} (h : aH W g cs t) (h' : aH W g' cs' t') (ht : t ≠ t') : g ≠ g' := by
 rintro rfl
 unfold aH at h h'
 rw [h] at h'
 injection h' with h'
 injection h' with _ h'
 exact ht h'
section
variable {P : Program} {ops : Array Oper} {rest : List Oper} {o : Oper} {a : Act} {w : World} {Q : Exit → Act → World → Prop}
theorem bO (w : World) (g j : Nat) (v : Value) : w.grownBy (w.setCell ⟨g, j, none⟩ v) (some g) :=
 ⟨rfl, rfl, rfl, by simp [World.setCell], fun k _ hk => Below.heap_setCell _ _ _ _ (fun e => hk (by rw [e]))⟩
theorem tW (w : World) (g : Nat) (cs : Array Value) : w.grownBy (w.setRow g cs) (some g) :=
 ⟨rfl, rfl, rfl, by simp, fun k _ hk => setRow_other w g k cs (fun e => hk (by rw [e]))⟩
theorem aE (hgd : o.guard = none) (ty : TypeId) (x : Operand) (ho : o.op = .box ty x) (cs : List Value) (hx : a.eval x = .agg cs.toArray)
  (h : ∀ g W1, w.heap.size ≤ g → aH W1 g cs ty → Below w.heap.size w W1 → wpList P ops Q rest (a.put o.dst (.pointer (some ⟨g, 0, none⟩))) W1) : wpList P ops Q (o :: rest) a w := by
 refine wpList_plain hgd fun K hK => ?_
 have := hK _ _ (h w.heap.size (w.alloc (.cells cs.toArray ty)) (Nat.le_refl _) (heap_alloc_new w _) (al (Below.refl _ _) _))
 unfold Oper.wp execOp
 simp only [ho, hx, Instr.box, newVar, newRow, newObj, Value.cells]
 exact this
theorem DC (hgd : o.guard = none) (ty : TypeId) (ho : o.op = .alloc ty) (cs : List Value) (hz : ∀ w, (zeroValue ty).run P w = .ok (.agg cs.toArray) w)
  (h : ∀ g W1, w.heap.size ≤ g → aH W1 g cs ty → Below w.heap.size w W1 → wpList P ops Q rest (a.put o.dst (.pointer (some ⟨g, 0, none⟩))) W1) : wpList P ops Q (o :: rest) a w := by
 refine wpList_plain hgd fun K hK => ?_
 have := hK _ _ (h w.heap.size (w.alloc (.cells cs.toArray ty)) (Nat.le_refl _) (heap_alloc_new w _) (al (Below.refl _ _) _))
 unfold Oper.wp execOp
 simp only [ho, Instr.alloc, newVar, newRow, newObj, Value.cells, Sem.run_bind, hz, Result.andThen_ok]
 exact this
theorem aw (N : Option Tmp) (hN : o.dst = N) (hgd : o.guard = none) (ty : TypeId) (ho : o.op = .alloc ty) (cs : List Value) (hz : ∀ w, (zeroValue ty).run P w = .ok (.agg cs.toArray) w)
  (h : ∀ g W1, w.heap.size ≤ g → aH W1 g cs ty → Below w.heap.size w W1 → wpList P ops Q rest (a.put o.dst (.pointer (some ⟨g, 0, none⟩))) W1) : wpList P ops Q (o :: rest) a w := DC hgd ty ho cs hz h
theorem az (hgd : o.guard = none) (ty : TypeId) (x : Operand) (ho : o.op = .load ty x) (g : Nat) (hx : a.eval x = .pointer (some ⟨g, 0, none⟩)) (t : Nat) (cs : List Value) (d : TypeDesc) (hb : aH w g cs t)
  (hu : P.underlying ty = some d) (hd : (match d with | .struct _ | .array _ _ => true | _ => false) = true) (n : Nat) (hi : (P.info? ty).map (·.size) = some n) (hn : cs.length = n)
  (h : wpList P ops Q rest (a.put o.dst (.agg cs.toArray)) w) : wpList P ops Q (o :: rest) a w :=
 wpList_load_row hgd ty x ho g hx t cs.toArray (0, 0) d hb hu hd (by rw [hi]; simp [hn]) h
theorem pW (w : World) (g t off : Nat) (ty : TypeId) (cs part : List Value) (d : TypeDesc) (hb : aH w g cs t) (hp : ∀ j v, part[j]? = some v → cs[off + j]? = some v)
  (hu : P.underlying ty = some d) (hd : (match d with | .struct _ | .array _ _ => true | _ => false) = true) (hi : (P.info? ty).map (·.size) = some part.length) :
  (loadVar ty ⟨g, off, none⟩).run P w = .ok (.agg part.toArray) w := by
 have hl : (loadCells ⟨g, off, none⟩ part.length).run P w = .ok part.toArray w :=
  run_loadCells_list (P := P) w ⟨g, off, none⟩ part (fun j v hv => by
   rw [L4]
   exact hb.cell _ _ (hp j v hv))
 cases hq : P.info? ty with
 | none => simp [hq] at hi
 | some i =>
  have hs : i.size = part.length := by simpa [hq] using hi
  cases d <;> simp at hd <;> simp [loadVar, isAgg, run_underlying hu, sizeOf, typeInfo, hq, hs, hl]
theorem aI {o : Oper} {a : Act} {w : World} (ty : TypeId) (x : Operand) (ho : o.op = .load ty x) (g : Nat) (hx : a.eval x = .pointer (some ⟨g, 0, none⟩)) (t : Nat) (cs : List Value) (d : TypeDesc) (hb : aH w g cs t)
  (hu : P.underlying ty = some d) (hd : (match d with | .struct _ | .array _ _ => true | _ => false) = true) (hi : (P.info? ty).map (·.size) = some cs.length) :
  (execOp a.eval o).run P w = .ok (.value (.agg cs.toArray)) w := by
 unfold execOp
 simp only [ho, hx, Instr.loadAt, Instr.sureAddr, Sem.run_bind, Sem.run_pure, Result.andThen_ok, pW w g t 0 ty cs cs d hb (fun j v hv => by rw [Nat.zero_add]; exact hv) hu hd hi]
theorem eQ (hgd : o.guard = none) (ty : TypeId) (x : Operand) (ho : o.op = .load ty x) (g off : Nat) (hx : a.eval x = .pointer (some ⟨g, off, none⟩)) (t : Nat) (cs part : List Value) (d : TypeDesc) (hb : aH w g cs t)
  (hp : ∀ j v, part[j]? = some v → cs[off + j]? = some v)
  (hu : P.underlying ty = some d) (hd : (match d with | .struct _ | .array _ _ => true | _ => false) = true) (hi : (P.info? ty).map (·.size) = some part.length)
  (h : wpList P ops Q rest (a.put o.dst (.agg part.toArray)) w) : wpList P ops Q (o :: rest) a w := by
 refine wpList_plain hgd fun K hK => ?_
 unfold Oper.wp execOp
 simp only [ho, hx, Instr.loadAt, Instr.sureAddr, Sem.run_bind, Sem.run_pure, Result.andThen_ok, pW w g t off ty cs part d hb hp hu hd hi]
 exact hK _ _ h
theorem aN (hgd : o.guard = none) (ty : TypeId) (x y : Operand) (ho : o.op = .store ty x y) (g : Nat) (cs : List Value) (hx : a.eval x = .pointer (some ⟨g, 0, none⟩)) (hy : a.eval y = .agg cs.toArray)
  (t : Nat) (qI : List Value) (hb : aH w g qI t) (n : Nat) (hi : (P.info? ty).map (·.size) = some n) (hn : cs.length = n) (hold : qI.length = n) (h1 : ∀ v ∈ cs, v.oneCell' = true)
  (h : ∀ W1, aH W1 g cs t → w.grownBy W1 (some g) → wpList P ops Q rest (a.put o.dst undef) W1) : wpList P ops Q (o :: rest) a w :=
 wpList_store_row hgd ty x y ho g cs.toArray hx hy t qI.toArray hb (by rw [hi]; simp [hn]) (by simp; omega) (by rw [Array.all_eq_true_iff_forall_mem]; intro v hv; exact h1 v (by simpa using hv))
  (h _ (setRow_heap w g qI.toArray cs.toArray t (0, 0) hb) (tW w g _))
theorem fq (hgd : o.guard = none) (t : TypeId) (parts : Array (Nat × Operand)) (ho : o.op = .build t parts) (cs : List Value)
  (hf : P.built t (parts.map fun (i, x) => (i, a.eval x)).toList = some cs.toArray) (h : wpList P ops Q rest (a.put o.dst (.agg cs.toArray)) w) : wpList P ops Q (o :: rest) a w := by
 refine wpList_build hgd t parts ho (by rw [hf]; rfl) ?_
 rw [hf]
 exact h
theorem zA (w : World) (t e : TypeId) (n : Nat) (k : IntKind) (ht : P.underlying t = some (.array n e)) (he : P.underlying e = some (.int k)) (hsz : ∀ w, (sizeOf e).run P w = .ok 1 w) (xs : List Int) (hn : xs.length = n) (i : Nat) (hi : i < n) :
  (Instr.index t (.agg (xs.map (Value.int k)).toArray) (.int .i64 (i : Int))).run P w = .ok (.int k (xs.getD i 0)) w := by
 have hi' : i < xs.length := by omega
 simp [Instr.index, asIntOf, run_underlying ht, hsz, hi, part, isAgg, run_underlying he, List.getElem?_eq_getElem hi', List.getD]
end
end Go.Proofs.Ytemhalnhbgkbcaa.V
end

section
namespace Go.Proofs.Ytemhalnhbgkbcaa.V
attribute [local go_sem] ez ew fa e9 ec eb ey ev
def iE.f (a0 : Int) : Option (Bool) := if a0 ≥ 0 then (some (decide (a0 < 64))) else (some false)
set_option maxHeartbeats 8000000 in
set_option maxRecDepth 100000 in
theorem iE.calls (a0 : Int) (r : Bool) (w : World) (h : iE.f a0 = some r) :
  Calls Try.prog 64 #[.int .i64 a0] w fun e w' => e = .returned (.bool r) ∧ Drawn0 w w' := by
 have H : (if a0 ≥ 0 then (some (decide (a0 < 64))) else (some false)) = some r := h
 clear h
 by_cases c2 : a0 ≥ 0
 ·rw [if_pos c2] at H
  have sm : decide (0 ≤ a0) = true := decide_eq_true c2
  clear c2
  obtain rfl := Option.some.inj H
  go_enter Try.func64, Try.ntmps64
  go_wp2
  go_ret
  exact ⟨by first | rfl | (simp; done) | (simp [*]; done), by repeat (first | exact Drawn0.refl _ | apply Drawn0.step)⟩
 ·rw [if_neg c2] at H
  have sm : decide (0 ≤ a0) = false := decide_eq_false c2
  clear c2
  obtain rfl := Option.some.inj H
  go_enter Try.func64, Try.ntmps64
  go_wp2
  go_ret
  exact ⟨by first | rfl | (simp; done) | (simp [*]; done), by repeat (first | exact Drawn0.refl _ | apply Drawn0.step)⟩
end Go.Proofs.Ytemhalnhbgkbcaa.V
end

section
namespace Go.Proofs.Ytemhalnhbgkbcaa.V
attribute [local go_sem] ez ew fa e9 ec eb ey ev
def lY.f (a0 : Int) (a1 : Int) : Option (Bool) := (iE.f a1).bind fun sB => (if sB = true then (if 0 ≤ a1 then (some ((Go.bits .and .u64 (shr .u64 a0 a1) 1) == 1)) else (none)) else (some false))
set_option maxHeartbeats 8000000 in
set_option maxRecDepth 100000 in
theorem lY.calls (a0 : Int) (a1 : Int) (r : Bool) (w : World) (h : lY.f a0 a1 = some r) :
  Calls Try.prog 20 #[.int .u64 a0, .int .i64 a1] w fun e w' => e = .returned (.bool r) ∧ Drawn0 w w' := by
 have H : ((iE.f a1).bind fun sB => (if sB = true then (if 0 ≤ a1 then (some ((Go.bits .and .u64 (shr .u64 a0 a1) 1) == 1)) else (none)) else (some false))) = some r := h
 clear h
 replace H := Option.bind_eq_some_iff.mp H
 obtain ⟨sB, r9, H⟩ := H
 replace H : (if sB = true then (if 0 ≤ a1 then (some ((Go.bits .and .u64 (shr .u64 a0 a1) 1) == 1)) else (none)) else (some false)) = some r := H
 have A3 := ak r9
 clear r9
 by_cases c4 : sB = true
 ·subst c4
  have H1 : (if 0 ≤ a1 then (some ((Go.bits .and .u64 (shr .u64 a0 a1) 1) == 1)) else (none)) = some r := by rw [if_pos rfl] at H; exact H
  clear H
  have H := H1
  clear H1
  by_cases c5 : 0 ≤ a1
  ·rw [if_pos c5] at H
   have vX := eq_true c5
   have T5 : decide (0 ≤ a1) = true := decide_eq_true c5
   clear c5
   obtain ⟨Lj, yC⟩ : ∃ j_ : Int, (shr .u64 a0 a1) = j_ := ⟨_, rfl⟩
   replace H : (some ((Go.bits .and .u64 (Lj) 1) == 1)) = some r := by first | (rw [yC] at H; exact H) | (simp only [yC] at H ⊢; exact H)
   (try rw [yC] at A3)
   have Tv : (a0 / 2 ^ min a1.toNat 64) = Lj := yC
   have Tu : a1 ≤ 64 → (a0 / 2 ^ a1.toNat) = Lj := Ew yC
   obtain rfl := Option.some.inj H
   go_enter Try.func20, Try.ntmps20
   go_wp2_with (first | ((with_reducible refine fJ (f := 64) rfl ?_); refine kF (some 6) rfl rfl Try.func64 (by kernel_rfl) rfl #[.int .i64 a1] rfl (by (try simp only [List.map_toArray, List.map_cons, List.map_nil]); first | done | rfl | (simp only [List.length_drop, List.length_take]; rfl)) ?_; (with_reducible refine (iE.calls a1 true _ A3.out).mono ?_); rintro e w' ⟨rfl, ⟨nd, rfl⟩⟩; refine ⟨_, rfl, ?_⟩))
   go_ret
   exact ⟨by first | rfl | (simp; done) | (simp only [← yC] <;> (first | rfl | simp)) | (simp [*]; done), by repeat (first | exact Drawn0.refl _ | apply Drawn0.step)⟩
  ·rw [if_neg c5] at H
   exact absurd H (by simp)
 ·replace c4 := Bool.eq_false_iff.mpr c4
  subst c4
  have H1 : (some false) = some r := by rw [if_neg (show ¬ (false = true) by decide)] at H; exact H
  clear H
  have H := H1
  clear H1
  obtain rfl := Option.some.inj H
  go_enter Try.func20, Try.ntmps20
  go_wp2_with (first | ((with_reducible refine fJ (f := 64) rfl ?_); refine kF (some 6) rfl rfl Try.func64 (by kernel_rfl) rfl #[.int .i64 a1] rfl (by (try simp only [List.map_toArray, List.map_cons, List.map_nil]); first | done | rfl | (simp only [List.length_drop, List.length_take]; rfl)) ?_; (with_reducible refine (iE.calls a1 false _ A3.out).mono ?_); rintro e w' ⟨rfl, ⟨nd, rfl⟩⟩; refine ⟨_, rfl, ?_⟩))
  go_ret
  exact ⟨by first | rfl | (simp; done) | (simp [*]; done), by repeat (first | exact Drawn0.refl _ | apply Drawn0.step)⟩
end Go.Proofs.Ytemhalnhbgkbcaa.V
end

section
namespace Go.Proofs.Ytemhalnhbgkbcaa.V
attribute [local go_sem] ez ew fa e9 ec eb ey ev
def lX.f (a0 : Int) : Option (Int) := if 0 ≤ a0 then (some (shl .u64 1 a0)) else (none)
set_option maxHeartbeats 8000000 in
set_option maxRecDepth 100000 in
theorem lX.calls (a0 : Int) (r : Int) (w : World) (h : lX.f a0 = some r) :
  Calls Try.prog 65 #[.int .i64 a0] w fun e w' => e = .returned (.int .u64 r) ∧ Drawn0 w w' := by
 have H : (if 0 ≤ a0 then (some (shl .u64 1 a0)) else (none)) = some r := h
 clear h
 by_cases c2 : 0 ≤ a0
 ·rw [if_pos c2] at H
  have sm := eq_true c2
  have yJ : decide (0 ≤ a0) = true := decide_eq_true c2
  clear c2
  obtain ⟨y9, sk⟩ : ∃ j_ : Int, (shl .u64 1 a0) = j_ := ⟨_, rfl⟩
  replace H : (some y9) = some r := by first | (rw [sk] at H; exact H) | (simp only [sk] at H ⊢; exact H)
  have Hi : (IntKind.u64.wrap (1 * 2 ^ min a0.toNat 64)) = y9 := sk
  have MN : a0 ≤ 64 → (IntKind.u64.wrap (1 * 2 ^ a0.toNat)) = y9 := Ex sk
  have Tx : (IntKind.u64.wrap (2 ^ min a0.toNat 64)) = y9 := by have h_ := Hi; rw [Int.one_mul] at h_; exact h_
  have Tw : a0 ≤ 64 → (IntKind.u64.wrap (2 ^ a0.toNat)) = y9 := fun OZ => by have h_ := MN OZ; rw [Int.one_mul] at h_; exact h_
  obtain rfl := Option.some.inj H
  go_enter Try.func65, Try.ntmps65
  go_wp2
  go_ret
  exact ⟨by first | rfl | (simp; done) | (simp only [← sk] <;> (first | rfl | simp)) | (simp [*]; done), by repeat (first | exact Drawn0.refl _ | apply Drawn0.step)⟩
 ·rw [if_neg c2] at H
  exact absurd H (by simp)
end Go.Proofs.Ytemhalnhbgkbcaa.V
end

section
namespace Go.Proofs.Ytemhalnhbgkbcaa.V
attribute [local go_sem] ez ew fa e9 ec eb ey ev
def ld.f (a0 : Int) (a1 : Int) : Option (Int) := (iE.f a1).bind fun sA => (if sA = true then ((lX.f a1).bind fun mJ => (some (Go.bits .or .u64 a0 mJ))) else (some a0))
set_option maxHeartbeats 8000000 in
set_option maxRecDepth 100000 in
theorem ld.calls (a0 : Int) (a1 : Int) (r : Int) (w : World) (h : ld.f a0 a1 = some r) :
  Calls Try.prog 21 #[.int .u64 a0, .int .i64 a1] w fun e w' => e = .returned (.int .u64 r) ∧ Drawn0 w w' := by
 have H : ((iE.f a1).bind fun sA => (if sA = true then ((lX.f a1).bind fun mJ => (some (Go.bits .or .u64 a0 mJ))) else (some a0))) = some r := h
 clear h
 replace H := Option.bind_eq_some_iff.mp H
 obtain ⟨sA, r9, H⟩ := H
 replace H : (if sA = true then ((lX.f a1).bind fun mJ => (some (Go.bits .or .u64 a0 mJ))) else (some a0)) = some r := H
 have A3 := ak r9
 clear r9
 by_cases c4 : sA = true
 ·subst c4
  have H1 : ((lX.f a1).bind fun mJ => (some (Go.bits .or .u64 a0 mJ))) = some r := by rw [if_pos rfl] at H; exact H
  clear H
  have H := H1
  clear H1
  replace H := Option.bind_eq_some_iff.mp H
  obtain ⟨mJ, ON, H⟩ := H
  replace H : (some (Go.bits .or .u64 a0 mJ)) = some r := H
  have A5 := ak ON
  clear ON
  obtain rfl := Option.some.inj H
  go_enter Try.func21, Try.ntmps21
  go_wp2_with (first | ((with_reducible refine fJ (f := 64) rfl ?_); refine kF (some 6) rfl rfl Try.func64 (by kernel_rfl) rfl #[.int .i64 a1] rfl (by (try simp only [List.map_toArray, List.map_cons, List.map_nil]); first | done | rfl | (simp only [List.length_drop, List.length_take]; rfl)) ?_; (with_reducible refine (iE.calls a1 true _ A3.out).mono ?_); rintro e w' ⟨rfl, ⟨nd, rfl⟩⟩; refine ⟨_, rfl, ?_⟩) | ((with_reducible refine fJ (f := 65) rfl ?_); refine kF (some 11) rfl rfl Try.func65 (by kernel_rfl) rfl #[.int .i64 a1] rfl (by (try simp only [List.map_toArray, List.map_cons, List.map_nil]); first | done | rfl | (simp only [List.length_drop, List.length_take]; rfl)) ?_; (with_reducible refine (lX.calls a1 mJ _ A5.out).mono ?_); rintro e w' ⟨rfl, ⟨nd, rfl⟩⟩; refine ⟨_, rfl, ?_⟩))
  go_ret
  exact ⟨by first | rfl | (simp; done) | (simp [*]; done), by repeat (first | exact Drawn0.refl _ | apply Drawn0.step)⟩
 ·replace c4 := Bool.eq_false_iff.mpr c4
  subst c4
  have H1 : (some a0) = some r := by rw [if_neg (show ¬ (false = true) by decide)] at H; exact H
  clear H
  have H := H1
  clear H1
  obtain rfl := Option.some.inj H
  go_enter Try.func21, Try.ntmps21
  go_wp2_with (first | ((with_reducible refine fJ (f := 64) rfl ?_); refine kF (some 6) rfl rfl Try.func64 (by kernel_rfl) rfl #[.int .i64 a1] rfl (by (try simp only [List.map_toArray, List.map_cons, List.map_nil]); first | done | rfl | (simp only [List.length_drop, List.length_take]; rfl)) ?_; (with_reducible refine (iE.calls a1 false _ A3.out).mono ?_); rintro e w' ⟨rfl, ⟨nd, rfl⟩⟩; refine ⟨_, rfl, ?_⟩))
  go_ret
  exact ⟨by first | rfl | (simp; done) | (simp [*]; done), by repeat (first | exact Drawn0.refl _ | apply Drawn0.step)⟩
end Go.Proofs.Ytemhalnhbgkbcaa.V
end

section
namespace Go.Proofs.Ytemhalnhbgkbcaa.V
attribute [local go_sem] ez ew fa e9 ec eb ey ev
def eS.l0 : Nat → Int → Int → Option (Int)
 | 0, _, _ => none
 | k + 1, x0, x3 => if x0 = 0 then (some x3) else (eS.l0 k (Go.bits .and .u64 x0 (IntKind.u64.wrap (x0 - 1))) (wrap64 (x3 + 1)))
def eS.f (k : Nat) (a0 : Int) : Option (Int) := eS.l0 k a0 0
set_option maxHeartbeats 8000000 in
set_option maxRecDepth 100000 in
theorem eS.calls (k : Nat) (a0 : Int) (r : Int) (w : World) (h : eS.f k a0 = some r) :
  Calls Try.prog 27 #[.int .u64 a0] w fun e w' => e = .returned (.int .i64 r) ∧ Drawn0 w w' := by
 have H : (eS.l0 k a0 0) = some r := h
 clear h
 have H' := ak H
 clear H
 go_enter Try.func27, Try.ntmps27
 go_wp2
 go_loopg [0, 3] k (fun kq v0 v3 w' => ∃ (sb : Int) (an : Int), v0 = .int .u64 sb ∧ v3 = .int .i64 an ∧ Aside0 (eS.l0 kq sb an = some r) ∧ Aside0 (kq ≤ k) ∧ Drawn0 w w')
 case atStart => exact ⟨(a0), (0), (by first | rfl | (simp; done) | (simp [*]; done)), (by first | rfl | (simp; done) | (simp [*]; done)), H', ⟨Nat.le_refl _⟩, by repeat (first | exact Drawn0.refl _ | apply Drawn0.step)⟩
 case round =>
  clear H'
  obtain ⟨sb, an, rfl, rfl, HA, du, ⟨m1, rfl⟩⟩ := hrel
  cases gk with
  | zero => exact absurd HA.out (by simp [eS.l0])
  | succ k1 =>
   have H := HA.out
   clear HA
   simp only [eS.l0] at H
   by_cases c2 : sb = 0
   ·rw [if_pos c2] at H
    have sm : (sb == 0) = true := beq_iff_eq.mpr c2
    have yJ : (sb != 0) = false := bne_eq_false_iff_eq.mpr c2
    clear c2
    obtain rfl := Option.some.inj H
    go_wp2
    go_ret
    exact ⟨by first | rfl | (simp; done) | (simp [*]; done), by repeat (first | exact Drawn0.refl _ | apply Drawn0.step)⟩
   ·rw [if_neg c2] at H
    have sm : (sb == 0) = false := beq_eq_false_iff_ne.mpr c2
    have yJ : (sb != 0) = true := bne_iff_ne.mpr c2
    have H' := ak H
    clear H
    go_wp2
    go_roundg k1
    case measure => have := du.out; omega
    case rel => exact ⟨(Go.bits .and .u64 sb (IntKind.u64.wrap (sb - 1))), (wrap64 (an + 1)), (by first | rfl | (simp; done) | (simp [*]; done)), (by first | rfl | (simp; done) | (simp [*]; done)), H', ⟨by have := du.out; omega⟩, by repeat (first | exact Drawn0.refl _ | apply Drawn0.step)⟩
end Go.Proofs.Ytemhalnhbgkbcaa.V
end

section
namespace Go.Proofs.Ytemhalnhbgkbcaa.V
def l8 (i : Int) : Bool := decide (0 ≤ i) && decide (i < 64)
def hasB (s : Nat) (i : Int) : Bool := l8 i && s.testBit i.toNat
theorem Eu (i : Int) : iE.f i = some (l8 i) := by
 unfold iE.f l8
 by_cases h : 0 ≤ i
 ·rw [if_pos h]; simp [h]
 ·rw [if_neg (by omega)]; simp [h]
theorem ph {i : Int} (h : l8 i = true) : 0 ≤ i ∧ i < 64 := by simpa [l8] using h
theorem Ag (i : Nat) (h : i < 64) : l8 (i : Int) = true := by simp [l8]; omega
theorem KC (a : Nat) (ha : a < 18446744073709551616) : Go.bits .and .u64 (a : Int) 1 = ((a % 2 : Nat) : Int) := by
 have := u64_and_nat a 1 ha (by decide)
 rw [nat_mask1] at this
 exact this
theorem kC (a i : Nat) : a.testBit i = decide (a / 2 ^ i % 2 = 1) := by
 rw [Nat.testBit_eq_decide_div_mod_eq]
theorem Ge (q : Nat) : (((q % 2 : Nat) : Int) == 1) = decide (q % 2 = 1) := by
 rw [Bool.eq_iff_iff]
 simp
 omega
theorem MR (s : Nat) (hs : s < 18446744073709551616) (i : Int) : lY.f (s : Int) i = some (hasB s i) := by
 unfold lY.f hasB
 rw [Eu, Option.bind_some]
 by_cases h : l8 i = true
 ·obtain ⟨h0, h1⟩ := ph h
  obtain ⟨n, rfl⟩ := Int.eq_ofNat_of_zero_le h0
  rw [if_pos h, if_pos h0, h]
  have e : shr .u64 (s : Int) (n : Int) = ((s / 2 ^ n : Nat) : Int) := by
   unfold shr
   rw [Nat.min_eq_left (by show (n : Int).toNat ≤ 64; omega)]
   simp
  rw [e, KC _ (Nat.lt_of_le_of_lt (Nat.div_le_self _ _) hs), Bool.true_and, Int.toNat_natCast, kC]
  rw [Ge]
 ·have h' : l8 i = false := by simpa using h
  rw [if_neg h, h']
  rfl
theorem uX (s : Nat) (hs : s < 18446744073709551616) (i : Int) (w : World) : Calls Try.prog 20 #[.int .u64 (s : Int), .int .i64 i] w fun e w' => e = .returned (.bool (hasB s i)) ∧ Drawn0 w w' :=
 lY.calls _ _ _ w (MR s hs i)
def lB (s : Nat) (i : Int) : Nat := if l8 i then s ||| 2 ^ i.toNat else s
theorem JF (n : Nat) (h : n < 64) : shl .u64 1 (n : Int) = ((2 ^ n : Nat) : Int) := by
 unfold shl
 rw [Nat.min_eq_left (by show (n : Int).toNat ≤ 64; omega), Int.one_mul, Int.toNat_natCast]
 have := tQ (2 ^ n) (pT n h)
 simpa using this
theorem KZ (s : Nat) (hs : s < 18446744073709551616) (i : Int) : ld.f (s : Int) i = some ((lB s i : Nat) : Int) := by
 unfold ld.f lB
 rw [Eu, Option.bind_some]
 by_cases h : l8 i = true
 ·obtain ⟨h0, h1⟩ := ph h
  obtain ⟨n, rfl⟩ := Int.eq_ofNat_of_zero_le h0
  rw [if_pos h, if_pos h]
  unfold lX.f
  rw [if_pos h0, Option.bind_some, JF n (by omega), u64_or_nat _ _ hs (pT n (by omega)), Int.toNat_natCast]
 ·rw [if_neg h, if_neg h]
theorem FW (s : Nat) (hs : s < 18446744073709551616) (i : Int) : lB s i < 18446744073709551616 := by
 unfold lB
 split
 ·rename_i h
  obtain ⟨h0, h1⟩ := ph h
  exact Nat.or_lt_two_pow (n := 64) hs (pT _ (by omega))
 ·exact hs
theorem vN (s : Nat) (hs : s < 18446744073709551616) (i : Int) (w : World) : Calls Try.prog 21 #[.int .u64 (s : Int), .int .i64 i] w fun e w' => e = .returned (.int .u64 ((lB s i : Nat) : Int)) ∧ Drawn0 w w' :=
 ld.calls _ _ _ w (KZ s hs i)
theorem zy (s : Nat) (i : Int) (j : Nat) (hj : j < 64) : (lB s i).testBit j = (s.testBit j || decide (i = (j : Int))) := by
 unfold lB
 by_cases h : l8 i = true
 ·obtain ⟨h0, h1⟩ := ph h
  rw [if_pos h, Nat.testBit_or, Nat.testBit_two_pow]
  congr 1
  rw [decide_eq_decide]
  omega
 ·rw [if_neg h]
  have : ¬ i = (j : Int) := by
   rintro rfl
   exact h (Ag j hj)
  simp [this]
def j6 (s : Nat) (n : Nat) : List Int := ((List.range n).filter s.testBit).map (fun i : Nat => (i : Int))
def iq (s : Nat) : List Int := j6 s 64
theorem tc (s n : Nat) : j6 s (n + 1) = if s.testBit n then j6 s n ++ [(n : Int)] else j6 s n := by
 unfold j6
 rw [List.range_succ, List.filter_append, List.map_append]
 by_cases h : s.testBit n = true
 ·simp [h]
 ·simp [h]
theorem AH (s n : Nat) : (j6 s n).length ≤ n := by
 unfold j6
 rw [List.length_map]
 exact Nat.le_trans (List.length_filter_le _ _) (by simp)
theorem zE (s n : Nat) (x : Int) (h : x ∈ j6 s n) : ∃ i : Nat, x = (i : Int) ∧ i < n ∧ s.testBit i = true := by
 unfold j6 at h
 simp only [List.mem_map, List.mem_filter, List.mem_range] at h
 obtain ⟨j, ⟨h1, h2⟩, h3⟩ := h
 exact ⟨j, h3.symm, h1, h2⟩
def ua (l : List Int) : Nat := l.foldl lB 0
theorem yE (l : List Int) : ∀ s, s < 18446744073709551616 → l.foldl lB s < 18446744073709551616 := by
 induction l with
 | nil => exact fun s h => h
 | cons x l ih => exact fun s h => ih _ (FW s h x)
theorem oT (l : List Int) : ua l < 18446744073709551616 := yE l 0 (by decide)
theorem tM (l : List Int) (j : Nat) (hj : j < 64) : ∀ s, (l.foldl lB s).testBit j = (s.testBit j || decide ((j : Int) ∈ l)) := by
 induction l with
 | nil => simp
 | cons x l ih =>
  intro s
  rw [List.foldl_cons, ih, zy s x j hj, Bool.or_assoc]
  congr 1
  rw [Bool.eq_iff_iff]
  simp only [Bool.or_eq_true, decide_eq_true_eq, List.mem_cons]
  exact or_congr eq_comm Iff.rfl
theorem oE (l : List Int) (j : Nat) (hj : j < 64) : (ua l).testBit j = decide ((j : Int) ∈ l) := by
 unfold ua; rw [tM l j hj]; simp
end Go.Proofs.Ytemhalnhbgkbcaa.V
end

section
namespace Go.Proofs.Ytemhalnhbgkbcaa.V
structure Least (s m : Nat) : Prop where
 here : s.testBit m = true
 below : ∀ j, j < m → s.testBit j = false
theorem AI (s : Nat) (h : s ≠ 0) : ∃ m, Least s m := by
 obtain ⟨i, hi⟩ := Nat.exists_testBit_of_ne_zero h
 have : ∀ n, (∃ j, j < n ∧ s.testBit j = true) → ∃ m, Least s m := by
  intro n
  induction n with
  | zero => rintro ⟨j, h, _⟩; omega
  | succ n ih =>
   intro hex
   by_cases hb : ∃ j, j < n ∧ s.testBit j = true
   ·exact ih hb
   ·obtain ⟨j, h1, h2⟩ := hex
    have hj : j = n := by
     rcases Nat.lt_or_ge j n with h3 | h3
     ·exact absurd ⟨j, h3, h2⟩ hb
     ·omega
    subst hj
    exact ⟨j, h2, fun t ht => by
     cases hc : s.testBit t with
     | false => rfl
     | true => exact absurd ⟨t, ht, hc⟩ hb⟩
 exact this (i + 1) ⟨i, by omega, hi⟩
theorem Least.form {s m : Nat} (h : Least s m) : ∃ q, s = 2 ^ m * (2 * q + 1) := by
 have h0 : s % 2 ^ m = 0 := by
  apply Nat.eq_of_testBit_eq
  intro j
  rw [Nat.testBit_mod_two_pow, Nat.zero_testBit]
  by_cases hj : j < m
  ·simp [h.below j hj]
  ·simp [hj]
 have h1 := h.here
 rw [kC, decide_eq_true_eq] at h1
 refine ⟨s / 2 ^ m / 2, ?_⟩
 have h2 : 2 * (s / 2 ^ m / 2) + 1 = s / 2 ^ m := by omega
 rw [h2, Nat.mul_comm]
 exact (Nat.div_mul_cancel (Nat.dvd_of_mod_eq_zero h0)).symm
def lW (s : Nat) : Nat := s &&& (s - 1)
theorem qt {s m : Nat} (h : Least s m) (j : Nat) : (lW s).testBit j = (s.testBit j && decide (j ≠ m)) := by
 obtain ⟨q, hq⟩ := h.form
 have hp : 0 < 2 ^ m := Nat.pos_of_ne_zero (by simp)
 have zf : s - 1 = 2 ^ m * (2 * q) + (2 ^ m - 1) := by rw [hq, Nat.mul_add]; omega
 have hd : (s - 1) / 2 ^ m = 2 * q := by
  rw [zf, Nat.mul_add_div hp, Nat.div_eq_of_lt (by omega), Nat.add_zero]
 have aj : s / 2 ^ m = 2 * q + 1 := by rw [hq, Nat.mul_div_cancel_left _ hp]
 unfold lW
 rw [Nat.testBit_and]
 rcases Nat.lt_trichotomy j m with hj | hj | hj
 ·simp [h.below j hj]
 ·subst hj
  rw [kC (s - 1), hd]
  first | (simp; done) | (simp; omega)
 ·obtain ⟨i, rfl⟩ : ∃ i, j = m + 1 + i := ⟨j - m - 1, by omega⟩
  have e : ∀ x : Nat, x / 2 ^ (m + 1 + i) = x / 2 ^ m / 2 / 2 ^ i := by
   intro x
   rw [Nat.pow_add, Nat.pow_succ, ← Nat.div_div_eq_div_mul, ← Nat.div_div_eq_div_mul]
  rw [kC (s - 1), kC s, e, e, hd, aj, show (2 * q + 1) / 2 = q by omega, show (2 * q) / 2 = q by omega]
  simp
  omega
theorem EO {s m : Nat} (h : Least s m) (n : Nat) : j6 s n = if n ≤ m then [] else (m : Int) :: j6 (lW s) n := by
 induction n with
 | zero => simp [j6]
 | succ n ih =>
  rw [tc, tc, ih, qt h n]
  rcases Nat.lt_trichotomy n m with hj | hj | hj
  ·rw [h.below n hj, if_neg (by simp), if_pos (by omega), if_pos (by omega)]
  ·subst hj
   have e : ∀ t, t ≤ n → j6 (lW s) t = [] := by
    intro t
    induction t with
    | zero => intro _; simp [j6]
    | succ t iht =>
     intro ht
     rw [tc, iht (by omega), qt h t, h.below t (by omega)]
     simp
   rw [if_pos h.here, if_pos (Nat.le_refl _), if_neg (by omega), e n (Nat.le_refl _)]
   simp
  ·have hne : decide (n ≠ m) = true := by simp; omega
   have e1 : ¬ n ≤ m := by omega
   have e2 : ¬ n + 1 ≤ m := by omega
   rw [hne, Bool.and_true]
   simp only [e1, e2, if_false]
   split <;> simp
theorem Least.lt {s m : Nat} (h : Least s m) (hs : s < 18446744073709551616) : m < 64 := by
 rcases Nat.lt_or_ge m 64 with hl | hl
 ·exact hl
 ·have := Nat.ge_two_pow_of_testBit h.here
  have h2 : 2 ^ 64 ≤ 2 ^ m := Nat.pow_le_pow_right (by omega) hl
  omega
theorem wA {s m : Nat} (h : Least s m) (hs : s < 18446744073709551616) : iq s = (m : Int) :: iq (lW s) := by
 unfold iq
 rw [EO h 64, if_neg (by have := h.lt hs; omega)]
theorem CC : iq 0 = [] := by
 unfold iq j6
 simp
theorem CM (s : Nat) (hs : s < 18446744073709551616) : lW s < 18446744073709551616 := Nat.lt_of_le_of_lt Nat.and_le_left hs
theorem KA (s : Nat) (hs : s < 18446744073709551616) (h : s ≠ 0) : Go.bits .and .u64 (s : Int) (IntKind.u64.wrap ((s : Int) - 1)) = ((lW s : Nat) : Int) := by
 rw [show (s : Int) - 1 = ((s - 1 : Nat) : Int) by omega, tQ _ (by omega), u64_and_nat _ _ hs (by omega)]
 rfl
theorem Li : ∀ (L : List Int) (s k c : Nat), s < 18446744073709551616 → iq s = L → c + L.length ≤ 64 → L.length < k → eS.l0 k (s : Int) (c : Int) = some ((c + L.length : Nat) : Int) := by
 intro L
 induction L with
 | nil =>
  intro s k c hs hL hc hk
  obtain ⟨k, rfl⟩ : ∃ m, k = m + 1 := ⟨k - 1, by omega⟩
  have h0 : s = 0 := by
   by_cases h : s = 0
   ·exact h
   ·obtain ⟨m, hm⟩ := AI s h
    rw [wA hm hs] at hL
    cases hL
  subst h0
  unfold eS.l0
  rw [if_pos (show ((0 : Nat) : Int) = 0 from rfl)]
  rfl
 | cons x L ih =>
  intro s k c hs hL hc hk
  simp only [List.length_cons] at hc hk ⊢
  obtain ⟨k, rfl⟩ : ∃ m, k = m + 1 := ⟨k - 1, by omega⟩
  have h0 : s ≠ 0 := by
   rintro rfl
   rw [CC] at hL
   cases hL
  obtain ⟨m, hm⟩ := AI s h0
  rw [wA hm hs] at hL
  injection hL with _ hL
  unfold eS.l0
  rw [if_neg (by omega), KA s hs h0, show wrap64 ((c : Int) + 1) = ((c + 1 : Nat) : Int) by unfold wrap64; omega, ih (lW s) k (c + 1) (CM s hs) hL (by omega) (by omega)]
  congr 2
  omega
theorem zF (s : Nat) : (iq s).length ≤ 64 := AH s 64
theorem ML (s : Nat) (hs : s < 18446744073709551616) (k : Nat) (hk : 64 < k) : eS.f k (s : Int) = some ((iq s).length : Int) := by
 have hl := zF s
 have := Li (iq s) s k 0 hs rfl (by omega) (by omega)
 simpa [eS.f] using this
theorem JL (s : Nat) (hs : s < 18446744073709551616) (w : World) : Calls Try.prog 27 #[.int .u64 (s : Int)] w fun e w' => e = .returned (.int .i64 ((iq s).length : Int)) ∧ Drawn0 w w' :=
 eS.calls 65 _ _ w (ML s hs 65 (by omega))
end Go.Proofs.Ytemhalnhbgkbcaa.V
end

section
namespace Go.Proofs.Ytemhalnhbgkbcaa.V
structure Bk where
 addr : Int
 aff : ByteArray
 slots : List Int
 free : List Int
 attrs : List S85
def aZ (a : Int) (s : ByteArray) (l : List Int) (v v' : Value) : List Value := .int .u32 a :: .string s :: (l.map (Value.int .u8) ++ [v, v'])
section
variable (a : Int) (s : ByteArray) (l : List Int) (v v' : Value)
theorem ag (h : l.length = 64) : (aZ a s l v v').length = 68 := by simp [aZ, h]
theorem BZ (h : l.length = 64) (i : Nat) (hi : i < 64) : (aZ a s l v v')[2 + i]? = some (.int .u8 (l.getD i 0)) := by
 have hi' : i < l.length := by omega
 rw [Nat.add_comm]
 simp [aZ, List.getElem?_append_left, hi', List.getD]
theorem fP (h : l.length = 64) : (aZ a s l v v')[66]? = some v := by
 simp [aZ, List.getElem?_append_right, h]
theorem fi (h : l.length = 64) : (aZ a s l v v')[67]? = some v' := by
 simp [aZ, List.getElem?_append_right, h]
theorem kv (h : l.length = 64) : ∀ j u, (l.map (Value.int .u8))[j]? = some u → (aZ a s l v v')[2 + j]? = some u := by
 intro j u hj
 have hj' : j < l.length := by
  obtain ⟨h1, _⟩ := List.getElem?_eq_some_iff.1 hj
  simpa using h1
 rw [Nat.add_comm]
 have : (aZ a s l v v')[j + 2]? = (l.map (Value.int .u8) ++ [v, v'])[j]? := by simp [aZ]
 rw [this, List.getElem?_append_left (by simpa using hj'), hj]
theorem b4 (hv : v.oneCell' = true) (hv' : v'.oneCell' = true) : ∀ u ∈ aZ a s l v v', u.oneCell' = true := by
 intro u hu
 simp only [aZ, List.mem_cons, List.mem_append, List.mem_map, List.not_mem_nil, or_false] at hu
 rcases hu with rfl | rfl | ⟨x, _, rfl⟩ | rfl | rfl
 ·rfl
 ·rfl
 ·rfl
 ·exact hv
 ·exact hv'
theorem qz (h : l.length = 64) (i : Nat) (hi : i < 64) (x : Int) : (aZ a s l v v').set (2 + i) (.int .u8 x) = aZ a s (l.set i x) v v' := by
 have hi' : i < l.length := by omega
 rw [Nat.add_comm]
 simp [aZ, List.set_append, hi', List.map_set]
theorem kS (h : l.length = 64) (u : Value) : (aZ a s l v v').set 66 u = aZ a s l u v' := by
 simp [aZ, List.set_append, h]
theorem ti (h : l.length = 64) (u : Value) : (aZ a s l v v').set 67 u = aZ a s l v u := by
 simp [aZ, List.set_append, h]
end
structure BkR (W : World) (b : Bk) (A : Option Addr) (c : Nat) (A' : Option Addr) (c' : Nat) : Prop where
 l64 : b.slots.length = 64
 fr : Kd.C (Kd.int .u8) W A b.free.length b.free
 fc : b.free.length ≤ c
 ar : Kd.C kc W A' b.attrs.length b.attrs
 ac : b.attrs.length ≤ c'
theorem BkR.below {W W1 : World} {b : Bk} {A A' : Option Addr} {c c' : Nat} (h : BkR W b A c A' c') (hb : Below W.heap.size W W1) : BkR W1 b A c A' c' := ⟨h.l64, Kd.C_below h.fr hb, h.fc, Kd.C_below h.ar hb, h.ac⟩
def fS (W : World) (v : Value) (b : Bk) : Prop := ∃ A c A' c', v = .agg (aZ b.addr b.aff b.slots (.slice A b.free.length c) (.slice A' b.attrs.length c')).toArray ∧ BkR W b A c A' c'
theorem fS.below {W W1 : World} {v : Value} {b : Bk} (h : fS W v b) (hb : Below W.heap.size W W1) : fS W1 v b := by
 obtain ⟨A, c, A', c', e, hr⟩ := h
 exact ⟨A, c, A', c', e, hr.below hb⟩
theorem aH.slot {W : World} {g : Nat} {a : Int} {s : ByteArray} {l : List Int} {v v' : Value} {t : Nat} (h : aH W g (aZ a s l v v') t) (hl : l.length = 64) (i : Nat) (hi : i < 64) : W.cell? ⟨g, 2 + i, none⟩ = some (.int .u8 (l.getD i 0)) := h.cell _ _ (BZ a s l v v' hl i hi)
theorem G8 (w : World) : (sizeOf 5).run Try.prog w = .ok 1 w := by kernel_rfl
theorem nh (l : List Int) (hl : l.length = 64) (i : Nat) (hi : i < 64) (w : World) :
  (Instr.index 47 (.agg (l.map (Value.int .u8)).toArray) (.int .i64 (i : Int))).run Try.prog w = .ok (.int .u8 (l.getD i 0)) w :=
 zA w 47 5 64 .u8 Try.underlying47 Try.underlying5 G8 l hl i hi
end Go.Proofs.Ytemhalnhbgkbcaa.V
end

section
namespace Go.Proofs.Ytemhalnhbgkbcaa.V
def jh (b : Bk) (j : Nat) : Bool := decide (64 ≤ rd b.free j) || (decide (rd b.free j ∈ b.free.take j) || (b.slots.getD (rd b.free j).toNat 0 != 0))
def kt (b : Bk) : Bool := (List.range b.free.length).all (fun j => !jh b j) && decide (b.slots.countP (fun x => x == 0) = b.free.length)
def nE (l : List Int) : Prop := ∀ x ∈ l, 0 ≤ x ∧ x < 256
theorem mP {l : List Int} (h : nE l) (i : Int) : 0 ≤ rd l i ∧ rd l i < 256 := by
 unfold rd
 rcases Nat.lt_or_ge i.toNat l.length with hi | hi
 ·have : l.getD i.toNat 0 = l[i.toNat] := by simp [List.getD, hi]
  rw [this]
  exact h _ (List.getElem_mem _)
 ·have : l.getD i.toNat 0 = 0 := by simp [List.getD, hi]
  rw [this]
  omega
set_option maxHeartbeats 4000000 in
set_option maxRecDepth 100000 in
theorem GB (b : Bk) (hf : nE b.free) (hs : nE b.slots) (v : Value) (w : World) (h : fS w v b) :
  Calls Try.prog 87 #[v] w fun e w' => e = .returned (.bool (kt b)) ∧ Below w.heap.size w w' := by
 obtain ⟨A, c, A', c', rfl, hr⟩ := h
 have hl := hr.l64
 have HR := ak hr
 have HF := ak hf
 have HS := ak hs
 have HL := ak hl
 clear hr hf hs hl
 go_enter Try.func87, Try.ntmps87
 go_wp2_with (refine aE rfl 57 (.tmp 0) rfl _ rfl ?_; intro g W1 hg hbx cy; have HX := ak hbx; have HB := ak cy; have HG := ak hg; have HRR := ak (HR.out.below cy); have Hp := hbx.cell 66 _ (fP _ _ _ _ _ HL.out); clear hbx cy hg HR)
 go_loopw [3, 5, 12] (fun s _ i W => ∃ k nd : Nat, k ≤ b.free.length ∧ W = W1.drewN nd ∧ i = .int .i64 k ∧ s = .int .u64 ((ua (b.free.take k) : Nat) : Int) ∧ Aside0 (∀ j, j < k → jh b j = false)) (fun _ _ i _ => b.free.length - (intOf i).toNat)
 case atStart => exact ⟨0, 0, by omega, rfl, rfl, rfl, ⟨fun j hj => by omega⟩⟩
 case round =>
  obtain ⟨k, nd, hk, rfl, rfl, rfl, HJ⟩ := hrel
  have hmx : b.free.length ≤ 9223372036854775807 := HRR.out.fr.2.1
  by_cases hkn : k < b.free.length
  ·have hkb : decide ((k : Int) < (b.free.length : Int)) = true := by simp; omega
   obtain ⟨m, hm⟩ : ∃ m : Nat, rd b.free k = (m : Int) := ⟨(rd b.free k).toNat, by have := (mP HF.out k).1; omega⟩
   have sS : m < 256 := by have := (mP HF.out k).2; omega
   obtain ⟨ad, eA, hx⟩ := Kd.at_int HRR.out.fr k (by omega) (by omega)
   cases eA
   rw [hm, Int.toNat_natCast] at hx
   have HM := ak hm
   have p1 : ((k : Int) < (b.free.length : Int)) = True := eq_true (by omega)
   by_cases Ur : 64 ≤ m
   ·have O1 : decide ((64 : Int) ≤ (m : Int)) = true := by simp; omega
    have HV := ak (show kt b = false by
     unfold kt
     rw [Bool.and_eq_false_iff]
     left
     rw [List.all_eq_false]
     exact ⟨k, by simpa using hkn, by unfold jh; rw [HM.out]; simp; omega⟩)
    clear hm
    go_wp2
    go_ret
    exact ⟨by rw [HV.out]; rfl, af HB.out _⟩
   ·have O1 : decide ((64 : Int) ≤ (m : Int)) = false := by simp; omega
    have hh : hasB (ua (b.free.take k)) (m : Int) = decide ((m : Int) ∈ b.free.take k) := by
     unfold hasB
     rw [Ag m (by omega), Bool.true_and, Int.toNat_natCast, oE _ m (by omega)]
    obtain ⟨z, e7⟩ : ∃ z : Int, b.slots.getD m 0 = z := ⟨_, rfl⟩
    have hz := HX.out.slot HL.out m (by omega)
    rw [e7] at hz
    have HZ := ak e7
    clear e7
    have HH := ak hh
    clear hh
    cases hmem : decide ((m : Int) ∈ b.free.take k) with
    | true =>
     rw [hmem] at HH
     have HV := ak (show kt b = false by
      unfold kt
      rw [Bool.and_eq_false_iff]
      left
      rw [List.all_eq_false]
      exact ⟨k, by simpa using hkn, by unfold jh; rw [HM.out, hmem]; simp⟩)
     clear hm hmem hz
     go_wp2_with (go_at_call 20; refine (uX _ (oT _) _ _).mono ?_; rintro e w' ⟨rfl, ⟨AB, rfl⟩⟩; rw [HH.out])
     go_ret
     exact ⟨by rw [HV.out]; rfl, by repeat (first | exact HB.out | apply af)⟩
    | false =>
     rw [hmem] at HH
     cases hzz : (z != 0) with
     | true =>
      have HV := ak (show kt b = false by
       unfold kt
       rw [Bool.and_eq_false_iff]
       left
       rw [List.all_eq_false]
       exact ⟨k, by simpa using hkn, by unfold jh; rw [HM.out, Int.toNat_natCast, HZ.out, hzz]; simp⟩)
      clear hm hmem
      go_wp2_with (go_at_call 20; refine (uX _ (oT _) _ _).mono ?_; rintro e w' ⟨rfl, ⟨AB, rfl⟩⟩; rw [HH.out])
      go_ret
      exact ⟨by rw [HV.out]; rfl, by repeat (first | exact HB.out | apply af)⟩
     | false =>
      have zt := ak (show ∀ j, j < k + 1 → jh b j = false from fun j hj => by
       by_cases hjk : j < k
       ·exact HJ.out j hjk
       ·obtain rfl : j = k := by omega
        unfold jh
        rw [HM.out, Int.toNat_natCast, HZ.out, hzz, hmem]
        simp
        omega)
      have HO := ak (show lB (ua (b.free.take k)) (m : Int) = ua (b.free.take (k + 1)) by
       have e : b.free.take (k + 1) = b.free.take k ++ [(m : Int)] := by
        rw [List.take_add_one, ← HM.out]
        simp [rd, List.getD, List.getElem?_eq_getElem hkn]
       rw [e]
       unfold ua
       rw [List.foldl_append]
       rfl)
      clear hm hmem
      go_wp2_with (first | (go_at_call 20; refine (uX _ (oT _) _ _).mono ?_; rintro e w' ⟨rfl, ⟨AB, rfl⟩⟩; rw [HH.out]) | (go_at_call 21; refine (vN _ (oT _) _ _).mono ?_; rintro e w' ⟨rfl, ⟨Lg, rfl⟩⟩; rw [HO.out]))
      go_roundw
      case rel => exact ⟨k + 1, nd + AB + Lg, by omega, by simp [Nat.add_assoc], by go_num, rfl, zt⟩
      case measure => simp [intOf]; omega
  ·obtain rfl : k = b.free.length := by omega
   have HA := ak (show (List.range b.free.length).all (fun j => !jh b j) = true by
    rw [List.all_eq_true]
    intro j hj
    rw [HJ.out j (by simpa using hj)]
    rfl)
   have hlen : (Try.prog.info? 47).map (·.size) = some (b.slots.map (Value.int .u8)).length := by rw [List.length_map, HL.out]; kernel_rfl
   go_wp2_with (refine eQ rfl 47 (.tmp 37) rfl g 2 rfl 57 _ (b.slots.map (Value.int .u8)) (.array 64 5) HX.out (kv _ _ _ _ _ HL.out) Try.underlying47 rfl hlen ?_)
   go_loopw [6, 8, 39] (fun s _ i W => ∃ q nd : Nat, q ≤ 64 ∧ W = W1.drewN nd ∧ i = .int .i64 q ∧ s = .int .i64 (((b.slots.take q).countP (fun x => x == 0) : Nat) : Int)) (fun _ _ i _ => 64 - (intOf i).toNat)
   case atStart => exact ⟨0, nd, by omega, rfl, rfl, rfl⟩
   case round =>
    obtain ⟨q, nd, hq, rfl, rfl, rfl⟩ := hrel
    by_cases vG : q < 64
    ·have hqb : decide ((q : Int) < 64) = true := by simp; omega
     obtain ⟨z, e7⟩ : ∃ z : Int, b.slots.getD q 0 = z := ⟨_, rfl⟩
     have hix := fun w => nh b.slots HL.out q vG w
     rw [e7] at hix
     have hql : q < b.slots.length := by have := HL.out; omega
     have hcp : (b.slots.take (q + 1)).countP (fun x => x == 0) = (b.slots.take q).countP (fun x => x == 0) + if (z == 0) = true then 1 else 0 := by
      rw [List.take_add_one, List.countP_append, List.getElem?_eq_getElem hql]
      have : b.slots[q] = z := by rw [← e7]; simp [List.getD, List.getElem?_eq_getElem hql]
      rw [this]
      simp
     have hcl : (b.slots.take q).countP (fun x => x == 0) ≤ 64 := Nat.le_trans List.countP_le_length (by simp; omega)
     cases hzz : (z == 0) with
     | true =>
      rw [hzz, if_pos rfl] at hcp
      have HC := ak hcp
      clear e7 hcp
      go_wp2
      go_roundw
      case rel => exact ⟨q + 1, nd, by omega, rfl, by go_num, by rw [HC.out]; go_num⟩
      case measure => simp [intOf]; omega
     | false =>
      rw [hzz, if_neg (by decide)] at hcp
      have HC := ak hcp
      clear e7 hcp
      go_wp2
      go_roundw
      case rel => exact ⟨q + 1, nd, by omega, rfl, by go_num, by rw [HC.out]; rfl⟩
      case measure => simp [intOf]; omega
    ·obtain rfl : q = 64 := by omega
     have hqb : decide ((64 : Int) < 64) = false := by decide
     have HV := ak (show kt b = decide (b.slots.countP (fun x => x == 0) = b.free.length) by
      unfold kt
      rw [HA.out, Bool.true_and])
     have HT := ak (show b.slots.take 64 = b.slots from List.take_of_length_le (by have := HL.out; omega))
     go_wp2
     go_ret
     refine ⟨?_, by repeat (first | exact HB.out | apply af)⟩
     rw [HV.out]
     simp only [HT.out]
     show Ending.returned (Value.bool (((b.slots.countP (fun x => x == 0) : Nat) : Int) == ((b.free.length : Nat) : Int))) = _
     congr 2
     rw [Bool.eq_iff_iff, beq_iff_eq, decide_eq_true_eq]
     exact Int.ofNat_inj
end Go.Proofs.Ytemhalnhbgkbcaa.V
end

section
namespace Go.Proofs.Ytemhalnhbgkbcaa.V
attribute [local go_sem] ez ew fa e9 ec eb ey ev
theorem zO (d : Nat) (w : World) (x0 y0 : ByteArray) (x1 y1 : ByteArray) :
  (Op.equalIn (d + 2) 85 (.agg #[.string x0, .string x1]) (.agg #[.string y0, .string y1])).run Try.prog w = .ok (x0.toList == y0.toList && (x1.toList == y1.toList)) w := by
 refine LM Try.underlying85 (by kernel_rfl) ?_
 refine GD (by rfl) (by go_simp; rfl) (by go_simp; rfl) (by go_simp) ?_
 exact GC (by rfl) (by go_simp; rfl) (by go_simp; rfl) (by go_simp)
end Go.Proofs.Ytemhalnhbgkbcaa.V
end

section
namespace Go.Proofs.Ytemhalnhbgkbcaa.V
open Go.ChangeMaps (setBlock)
abbrev At := S85
def ej (a : At) : Value := .agg #[.string a.f0, .string a.f1]
def sameAt (a b : At) : Bool := a.f0.toList == b.f0.toList && a.f1.toList == b.f1.toList
theorem gP (a b : At) : sameAt a b = true ↔ a = b := by
 obtain ⟨x, y⟩ := a
 obtain ⟨z, u⟩ := b
 simp only [sameAt, Bool.and_eq_true, beq_iff_eq, S85.mk.injEq]
 have h : ∀ p q : ByteArray, p.toList = q.toList ↔ p = q := fun p q => by
  rw [ByteArray.toList_eq, ByteArray.toList_eq]
  exact ⟨fun h => by obtain ⟨⟨l⟩⟩ := p; obtain ⟨⟨l'⟩⟩ := q; simp_all, fun h => by rw [h]⟩
 rw [h, h]
theorem se (a b : At) : sameAt a b = sameAt b a := by
 rw [Bool.eq_iff_iff, gP, gP]
 exact ⟨Eq.symm, Eq.symm⟩
theorem lg (a : At) : sameAt a a = true := (gP a a).2 rfl
theorem DD (a b : At) (w : World) : (Op.equal 85 (ej a) (ej b)).run Try.prog w = .ok (sameAt a b) w := zO _ w a.f0 b.f0 a.f1 b.f1
theorem yu (e : Bool) (a : At) (w : World) : (Instr.checkKey e 10000 85 (ej a)).run Try.prog w = .ok () w := by kernel_rfl
def et (L : List (At × Int)) : List MapEntry := L.mapIdx fun i p => ⟨ej p.1, .int .i64 p.2, i⟩
def gG (W : World) (g : Nat) (L : List (At × Int)) : Prop := W.heap[g]? = some (.map (et L).toArray L.length)
def numOf (L : List (At × Int)) (a : At) : Int := match L.find? (fun p => sameAt a p.1) with | some p => p.2 | none => 0
def idxOf (L : List (At × Int)) (a : At) : Option Nat := L.findIdx? (fun p => sameAt a p.1)
def putAt (L : List (At × Int)) (a : At) (v : Int) : List (At × Int) := match idxOf L a with | some i => L.modify i (fun p => (p.1, v)) | none => L ++ [(a, v)]
theorem Bo (a : At) (w : World) : ∀ (L : List (At × Int)) (o i : Nat),
  (Instr.findAsking 85 (ej a) (L.mapIdx fun j p => (⟨ej p.1, .int .i64 p.2, o + j⟩ : MapEntry)) i).run Try.prog w = .ok ((idxOf L a).bind fun j => L[j]?.map fun p => (i + j, .int .i64 p.2)) w
 | [], _, _ => rfl
 | p :: L, o, i => by
  have ih := Bo a w L (o + 1) (i + 1)
  rw [List.mapIdx_cons]
  unfold Instr.findAsking idxOf
  rw [List.findIdx?_cons]
  simp only [Sem.run_bind, DD, Result.andThen_ok, Nat.add_zero]
  cases h : sameAt a p.1 with
  | true => simp
  | false =>
   simp only [Bool.false_eq_true, if_false]
   have e : (L.mapIdx fun j p => (⟨ej p.1, .int .i64 p.2, o + (j + 1)⟩ : MapEntry)) = (L.mapIdx fun j p => (⟨ej p.1, .int .i64 p.2, o + 1 + j⟩ : MapEntry)) := by
    congr 1
    funext j p
    rw [Nat.add_right_comm, Nat.add_assoc]
   rw [e, ih]
   unfold idxOf
   cases h2 : List.findIdx? (fun p => sameAt a p.1) L with
   | none => simp
   | some j =>
    simp only [Option.bind_some, Option.map_some, List.getElem?_cons_succ]
    rw [show i + 1 + j = i + (j + 1) by omega]
theorem vJ (a : At) (w : World) (L : List (At × Int)) :
  (Instr.findKey 85 (ej a) (et L)).run Try.prog w = .ok ((idxOf L a).bind fun j => L[j]?.map fun p => (j, .int .i64 p.2)) w := by
 have h := Bo a w L 0 0
 simp only [Nat.zero_add] at h
 have hu := run_underlying (w := w) Try.underlying85
 unfold Instr.findKey
 simp only [Sem.run_bind, hu, Result.andThen_ok]
 cases L with
 | nil => rfl
 | cons p L =>
  have e : ∀ k r, Instr.findNow k (ej a) (et (p :: L)) 0 = none → ((match Instr.findNow k (ej a) (et (p :: L)) 0 with | some r => pure r | none => Instr.findAsking 85 (ej a) (et (p :: L))) : Sem (Option (Nat × Value))).run Try.prog w = r → (match Instr.findNow k (ej a) (et (p :: L)) 0 with | some r => pure r | none => Instr.findAsking 85 (ej a) (et (p :: L)) : Sem (Option (Nat × Value))).run Try.prog w = r := fun _ _ _ h => h
  rw [show ∀ fs, Instr.findNow (.struct fs) (ej a) (et (p :: L)) 0 = none from fun fs => by simp [et, List.mapIdx_cons, Instr.findNow, Instr.sameNow, ej]]
  exact h
theorem pz {L : List (At × Int)} {a : At} {j : Nat} (h : idxOf L a = some j) : ∃ p, L[j]? = some p ∧ sameAt a p.1 = true ∧ numOf L a = p.2 := by
 unfold idxOf at h
 obtain ⟨hj, h1, h2⟩ := List.findIdx?_eq_some_iff_getElem.1 h
 refine ⟨L[j], List.getElem?_eq_getElem hj, h1, ?_⟩
 unfold numOf
 have : L.find? (fun p => sameAt a p.1) = some L[j] := by
  rw [List.find?_eq_some_iff_getElem]
  exact ⟨h1, j, hj, rfl, fun k hk => by simpa using h2 k hk⟩
 rw [this]
theorem ny {L : List (At × Int)} {a : At} (h : idxOf L a = none) : (∀ p ∈ L, sameAt a p.1 = false) ∧ numOf L a = 0 := by
 unfold idxOf at h
 have h1 : ∀ p ∈ L, sameAt a p.1 = false := by simpa using h
 refine ⟨h1, ?_⟩
 unfold numOf
 have : L.find? (fun p => sameAt a p.1) = none := by simpa using h1
 rw [this]
theorem G5 (w : World) : (zeroValue 3).run Try.prog w = .ok (.int .i64 0) w := by kernel_rfl
theorem qk (W : World) (g : Nat) (L : List (At × Int)) (h : gG W g L) (a : At) : (Instr.lookup 93 (.map (some g)) (ej a) false).run Try.prog W = .ok (.int .i64 (numOf L a)) W := by
 have hk := vJ a W L
 unfold Instr.lookup
 simp only [Sem.run_bind, run_underlying Try.underlying93, Result.andThen_ok, MapKept.run_getObj_map h, yu, Sem.run_pure, hk]
 cases hi : idxOf L a with
 | none =>
  rw [(ny hi).2]
  simp [G5]
 | some j =>
  obtain ⟨p, hp, _, hn⟩ := pz hi
  rw [hn]
  simp [hp]
theorem wv {L : List (At × Int)} {a : At} (h : idxOf L a = none) (v : Int) : numOf (L ++ [(a, v)]) a = v := by
 have h1 := (ny h).1
 have h2 : L.find? (fun p => sameAt a p.1) = none := by simpa using h1
 unfold numOf
 rw [List.find?_append, h2]
 simp [lg]
theorem EK {L : List (At × Int)} {a : At} (h : idxOf L a = none) : numOf (L ++ [(a, 0)]) a = numOf L a := by
 rw [wv h, (ny h).2]
theorem Cw (a b : At) (h : sameAt a b = true) : Instr.sameBits 10000 (ej a) (ej b) = true := by
 obtain rfl := (gP a b).1 h
 show ((2 == 2) && ((#[Value.string a.f0, .string a.f1].toList.zip #[Value.string a.f0, .string a.f1].toList).all fun (x, y) => Instr.sameBits 9999 x y)) = true
 simp [Instr.sameBits, MapKept.bytes_beq]
theorem uc (L : List (At × Int)) : (et L).length = L.length := by simp [et]
theorem ud (L : List (At × Int)) (i : Nat) : (et L)[i]? = L[i]?.map fun p => ⟨ej p.1, .int .i64 p.2, i⟩ := by simp [et]
theorem wz (L : List (At × Int)) (j : Nat) (hj : j < L.length) : (et L).findIdx? (fun e => (e.born : Int) == (j : Int)) = some j := by
 rw [List.findIdx?_eq_some_iff_getElem]
 refine ⟨by rw [uc]; exact hj, ?_, fun k hk => ?_⟩
 ·simp [et]
 ·simp only [et, List.getElem_mapIdx, Bool.not_eq_true, beq_eq_false_iff_ne]
  omega
theorem zq (j : Nat) (w : World) : (asInt (.int .i64 (j : Int))).run Try.prog w = .ok (j : Int) w := by simp [asInt, asIntOf]
theorem zl (W : World) (g : Nat) (L : List (At × Int)) (h : gG W g L) (hl : L.length < 1000) (a : At) (v : Int) :
  ∃ W1 W2 j, (Instr.mapEntry 93 (.map (some g)) (ej a)).run Try.prog W = .ok (.tuple #[.int .i64 (numOf L a), .int .i64 j]) W1 ∧ (∃ L1, gG W1 g L1 ∧ numOf L1 a = numOf L a) ∧
   (Instr.entryStore 93 (.map (some g)) (.int .i64 j) (.int .i64 v)).run Try.prog W1 = .ok () W2 ∧ gG W2 g (putAt L a v) ∧ W.grownBy W2 (some g) ∧ (∀ p, p.block ≠ g → W1.cell? p = W.cell? p) := by
 have hk := vJ a W L
 have hb : ∀ (w : World) (es es' : Array MapEntry) (c c' : Nat), w.heap[g]? = some (.map es c) → (setBlock w g (.map es' c')).heap[g]? = some (.map es' c') := fun w es es' c c' hw => by
  have := (Array.getElem?_eq_some_iff.1 hw).1
  simp [setBlock, this]
 have hgr : ∀ (es : Array MapEntry) (c : Nat), W.grownBy (setBlock W g (.map es c)) (some g) := fun es c => ⟨rfl, rfl, rfl, by simp [setBlock], fun k _ hk => by simp only [setBlock]; rw [Array.getElem?_setIfInBounds_ne (fun e => hk (by rw [e]))]⟩
 have hc : ∀ (es : Array MapEntry) (c : Nat) (p : Addr), p.block ≠ g → (setBlock W g (.map es c)).cell? p = W.cell? p := fun es c p hp => by
  have : (setBlock W g (.map es c)).heap[p.block]? = W.heap[p.block]? := by simp only [setBlock]; rw [Array.getElem?_setIfInBounds_ne (fun e => hp e.symm)]
  simp [World.cell?, this]
 have hu := run_underlying (w := W) Try.underlying93
 cases hi : idxOf L a with
 | none =>
  rw [hi] at hk
  have e1 : (et L).toArray.push ⟨ej a, .int .i64 0, L.length⟩ = (et (L ++ [(a, 0)])).toArray := by
   simp [et, List.mapIdx_append]
  have uk : (setBlock W g (.map (et (L ++ [(a, 0)])).toArray (L.length + 1))).heap[g]? = some (.map (et (L ++ [(a, 0)])).toArray (L.length + 1)) := hb W _ _ _ _ h
  refine ⟨setBlock W g (.map (et (L ++ [(a, 0)])).toArray (L.length + 1)), setBlock W g (.map (et (L ++ [(a, v)])).toArray (L.length + 1)), L.length, ?_, ⟨L ++ [(a, 0)], by unfold gG; rw [List.length_append]; exact uk, EK hi⟩, ?_, ?_, hgr _ _, fun p hp => hc _ _ p hp⟩
  ·rw [(ny hi).2, ← e1]
   unfold Instr.mapEntry
   simp only [Sem.run_bind, hu, Result.andThen_ok, MapKept.run_getObj_map h, yu, Sem.run_pure, hk, Option.bind_none, G5, MapKept.run_setObj_map _ h]
   rfl
  ·have e2 : ((et (L ++ [(a, 0)])).toArray.modify L.length fun e => { e with val := .int .i64 v }) = (et (L ++ [(a, v)])).toArray := by
    apply Array.ext_getElem?
    intro k
    rw [Array.getElem?_modify]
    simp only [List.getElem?_toArray, ud]
    rcases Nat.lt_trichotomy k L.length with hk | hk | hk
    ·rw [if_neg (by omega), List.getElem?_append_left hk, List.getElem?_append_left hk]
    ·subst hk
     simp
    ·rw [if_neg (by omega), List.getElem?_eq_none (by simp; omega), List.getElem?_eq_none (by simp; omega)]
   have hf : (et (L ++ [(a, 0)])).toArray.findIdx? (fun e => (e.born : Int) == ((L.length : Nat) : Int)) = some L.length := by
    rw [List.findIdx?_toArray]
    exact wz _ _ (by simp)
   unfold Instr.entryStore
   simp only [Sem.run_bind, Result.andThen_ok, MapKept.run_getObj_map uk, Sem.run_pure, zq, hf, MapKept.run_setObj_map _ uk, e2]
   simp [setBlock, Array.setIfInBounds_setIfInBounds]
  ·have := hb W (et L).toArray (et (L ++ [(a, v)])).toArray L.length (L.length + 1) h
   unfold gG putAt
   rw [hi]
   simpa using this
 | some j =>
  obtain ⟨p, hp, hsm, hn⟩ := pz hi
  have hjl : j < L.length := (List.getElem?_eq_some_iff.1 hp).1
  rw [hi] at hk
  have hent : (et L).toArray[j]? = some ⟨ej p.1, .int .i64 p.2, j⟩ := by
   rw [List.getElem?_toArray, ud, hp]
   rfl
  obtain rfl := (gP a p.1).1 hsm
  have e1 : ((et L).toArray.modify j fun e => { e with key := ej p.1 }) = (et L).toArray := by
   apply Array.ext_getElem?
   intro k
   rw [Array.getElem?_modify]
   by_cases hk : k = j
   ·subst hk
    rw [if_pos rfl, hent]
    rfl
   ·rw [if_neg (fun e => hk e.symm)]
  have uk : (setBlock W g (.map (et L).toArray L.length)).heap[g]? = some (.map (et L).toArray L.length) := hb W _ _ _ _ h
  refine ⟨setBlock W g (.map (et L).toArray L.length), setBlock W g (.map (et (L.modify j fun q => (q.1, v))).toArray L.length), j, ?_, ⟨L, uk, rfl⟩, ?_, ?_, hgr _ _, fun p hp => hc _ _ p hp⟩
  ·rw [hn]
   unfold Instr.mapEntry
   simp only [Sem.run_bind, hu, Result.andThen_ok, MapKept.run_getObj_map h, yu, Sem.run_pure, hk, Option.bind_some, hp, Option.map_some, hent, Option.getD_some, Instr.keyThatStays, Cw _ _ hsm, if_true, e1, MapKept.run_setObj_map _ h]
   rfl
  ·have e2 : ((et L).toArray.modify j fun e => { e with val := .int .i64 v }) = (et (L.modify j fun q => (q.1, v))).toArray := by
    apply Array.ext_getElem?
    intro k
    rw [Array.getElem?_modify]
    simp only [List.getElem?_toArray, ud, List.getElem?_modify]
    by_cases hk : j = k
    ·subst hk
     simp [hp]
    ·simp [hk]
   have hf : (et L).toArray.findIdx? (fun e => (e.born : Int) == ((j : Nat) : Int)) = some j := by
    rw [List.findIdx?_toArray]
    exact wz _ _ hjl
   unfold Instr.entryStore
   simp only [Sem.run_bind, Result.andThen_ok, MapKept.run_getObj_map uk, Sem.run_pure, zq, hf, MapKept.run_setObj_map _ uk, e2]
   simp [setBlock, Array.setIfInBounds_setIfInBounds]
  ·have := hb W (et L).toArray (et (L.modify j fun q => (q.1, v))).toArray L.length L.length h
   unfold gG putAt
   rw [hi]
   simpa using this
theorem ub (L : List (At × Int)) (a : At) (v : Int) : numOf (putAt L a v) a = v := by
 unfold putAt
 cases hi : idxOf L a with
 | none => exact wv hi v
 | some j =>
  have hi' := hi
  unfold idxOf at hi'
  obtain ⟨hj, h1, h2⟩ := List.findIdx?_eq_some_iff_getElem.1 hi'
  unfold numOf
  have : (L.modify j fun p => (p.1, v)).find? (fun p => sameAt a p.1) = some (L[j].1, v) := by
   rw [List.find?_eq_some_iff_getElem]
   refine ⟨h1, j, by simpa using hj, by simp, fun k hk => ?_⟩
   have := h2 k hk
   simp only [List.getElem_modify]
   rw [if_neg (by omega)]
   simpa using this
  rw [this]
end Go.Proofs.Ytemhalnhbgkbcaa.V
end

section
namespace Go.Proofs.Ytemhalnhbgkbcaa.V
attribute [local go_sem] ez ew fa e9 ec eb ey ev
mutual
def dg.j0 : Nat → Int → Bool → Option (Bool)
 | 0, _, _ => none
 | k + 1, x0, x3 => if x3 = true then (dg.j1 k x0 x3) else (if x0 ≥ 65 then (if x0 ≤ 90 then (dg.j1 k x0 (decide (x0 ≤ 90))) else (if x0 ≥ 48 then (dg.j1 k x0 (decide (x0 ≤ 57))) else (dg.j1 k x0 false))) else (if x0 ≥ 48 then (dg.j1 k x0 (decide (x0 ≤ 57))) else (dg.j1 k x0 false)))
def dg.j1 : Nat → Int → Bool → Option (Bool)
 | 0, _, _ => none
 | k + 1, x0, x3 => if x3 = true then (some true) else (if x0 = 46 then (some true) else (if x0 = 45 then (some true) else (if x0 = 95 then (some true) else (some false))))
end
def dg.f (k : Nat) (a0 : Int) : Option (Bool) := if a0 ≥ 97 then (dg.j0 k a0 (decide (a0 ≤ 122))) else (dg.j0 k a0 false)
set_option maxHeartbeats 8000000 in
set_option maxRecDepth 100000 in
theorem dg.calls (k : Nat) (a0 : Int) (r : Bool) (w : World) (h : dg.f k a0 = some r) :
  Calls Try.prog 112 #[.int .i32 a0] w fun e w' => e = .returned (.bool r) ∧ Drawn0 w w' := by
 have H : (if a0 ≥ 97 then (dg.j0 k a0 (decide (a0 ≤ 122))) else (dg.j0 k a0 false)) = some r := h
 clear h
 have Ds := ak H
 clear H
 go_enter Try.func112, Try.ntmps112
 go_upto_region 1 with (fail)
 go_cut [3] (fun v3 wc => ∃ (kq : Nat) (an : Bool), v3 = .bool an ∧ Aside0 (dg.j0 kq a0 an = some r) ∧ Aside0 (kq ≤ k) ∧ Drawn0 w wc)
 case first =>
  have H := Ds.out
  clear Ds
  by_cases c3 : a0 ≥ 97
  ·rw [if_pos c3] at H
   have nB : decide (97 ≤ a0) = true := decide_eq_true c3
   clear c3
   (first | rw [nB] | (simp only [l9, mS]; rw [nB]) | skip)
   have H' := ak H
   clear H
   go_wp2
   go_meet
   case rel => exact ⟨_, (decide (a0 ≤ 122)), (by first | rfl | (simp; done) | (simp [*]; done)), H', ⟨by first | omega | exact Nat.le_refl _⟩, by repeat (first | exact Drawn0.refl _ | apply Drawn0.step)⟩
  ·rw [if_neg c3] at H
   have nB : decide (97 ≤ a0) = false := decide_eq_false c3
   clear c3
   (first | rw [nB] | (simp only [l9, mS]; rw [nB]) | skip)
   have H' := ak H
   clear H
   go_wp2
   go_meet
   case rel => exact ⟨_, (false), (by first | rfl | (simp; done) | (simp [*]; done)), H', ⟨by first | omega | exact Nat.le_refl _⟩, by repeat (first | exact Drawn0.refl _ | apply Drawn0.step)⟩
 case rest =>
  clear Ds
  obtain ⟨kq, an, rfl, HA, Dr, ⟨Uj, rfl⟩⟩ := hcut
  cases kq with
  | zero => exact absurd HA.out (by simp [dg.j0])
  | succ AJ =>
   have H := HA.out
   clear HA
   simp only [dg.j0] at H
   have MC := ak H
   clear H
   go_upto_if 3 with (fail)
   go_cut [3] (fun v3 wc => ∃ (kq : Nat) (Dv : Bool), v3 = .bool Dv ∧ Aside0 (dg.j1 kq a0 Dv = some r) ∧ Aside0 (kq ≤ AJ) ∧ Drawn0 w wc)
   case first =>
    have H := MC.out
    clear MC
    by_cases c5 : an = true
    ·subst c5
     have H1 : (dg.j1 AJ a0 true) = some r := by rw [if_pos rfl] at H; exact H
     clear H
     have H := H1
     clear H1
     have H' := ak H
     clear H
     go_wp2
     go_meet
     case rel => exact ⟨_, (true), (by first | rfl | (simp; done) | (simp [*]; done)), H', ⟨by have := Dr.out; first | omega | exact Nat.le_refl _⟩, by repeat (first | exact Drawn0.refl _ | apply Drawn0.step)⟩
    ·replace c5 := Bool.eq_false_iff.mpr c5
     subst c5
     have H1 : (if a0 ≥ 65 then (if a0 ≤ 90 then (dg.j1 AJ a0 (decide (a0 ≤ 90))) else (if a0 ≥ 48 then (dg.j1 AJ a0 (decide (a0 ≤ 57))) else (dg.j1 AJ a0 false))) else (if a0 ≥ 48 then (dg.j1 AJ a0 (decide (a0 ≤ 57))) else (dg.j1 AJ a0 false))) = some r := by rw [if_neg (show ¬ (false = true) by decide)] at H; exact H
     clear H
     have H := H1
     clear H1
     by_cases c6 : a0 ≥ 65
     ·rw [if_pos c6] at H
      have nA : decide (65 ≤ a0) = true := decide_eq_true c6
      clear c6
      (first | rw [nA] | (simp only [l9, mS]; rw [nA]) | skip)
      by_cases c7 : a0 ≤ 90
      ·rw [if_pos c7] at H
       have qv : decide (a0 ≤ 90) = true := decide_eq_true c7
       clear c7
       have H' := ak H
       clear H
       go_wp2
       go_meet
       case rel => exact ⟨_, (decide (a0 ≤ 90)), (by first | rfl | (simp; done) | (simp [*]; done)), H', ⟨by have := Dr.out; first | omega | exact Nat.le_refl _⟩, by repeat (first | exact Drawn0.refl _ | apply Drawn0.step)⟩
      ·rw [if_neg c7] at H
       have qv : decide (a0 ≤ 90) = false := decide_eq_false c7
       clear c7
       by_cases c8 : a0 ≥ 48
       ·rw [if_pos c8] at H
        have qu : decide (48 ≤ a0) = true := decide_eq_true c8
        clear c8
        have H' := ak H
        clear H
        go_wp2
        go_meet
        case rel => exact ⟨_, (decide (a0 ≤ 57)), (by first | rfl | (simp; done) | (simp [*]; done)), H', ⟨by have := Dr.out; first | omega | exact Nat.le_refl _⟩, by repeat (first | exact Drawn0.refl _ | apply Drawn0.step)⟩
       ·rw [if_neg c8] at H
        have qu : decide (48 ≤ a0) = false := decide_eq_false c8
        clear c8
        have H' := ak H
        clear H
        go_wp2
        go_meet
        case rel => exact ⟨_, (false), (by first | rfl | (simp; done) | (simp [*]; done)), H', ⟨by have := Dr.out; first | omega | exact Nat.le_refl _⟩, by repeat (first | exact Drawn0.refl _ | apply Drawn0.step)⟩
     ·rw [if_neg c6] at H
      have nA : decide (65 ≤ a0) = false := decide_eq_false c6
      clear c6
      (first | rw [nA] | (simp only [l9, mS]; rw [nA]) | skip)
      by_cases c9 : a0 ≥ 48
      ·rw [if_pos c9] at H
       have GN : decide (48 ≤ a0) = true := decide_eq_true c9
       clear c9
       have H' := ak H
       clear H
       go_wp2
       go_meet
       case rel => exact ⟨_, (decide (a0 ≤ 57)), (by first | rfl | (simp; done) | (simp [*]; done)), H', ⟨by have := Dr.out; first | omega | exact Nat.le_refl _⟩, by repeat (first | exact Drawn0.refl _ | apply Drawn0.step)⟩
      ·rw [if_neg c9] at H
       have GN : decide (48 ≤ a0) = false := decide_eq_false c9
       clear c9
       have H' := ak H
       clear H
       go_wp2
       go_meet
       case rel => exact ⟨_, (false), (by first | rfl | (simp; done) | (simp [*]; done)), H', ⟨by have := Dr.out; first | omega | exact Nat.le_refl _⟩, by repeat (first | exact Drawn0.refl _ | apply Drawn0.step)⟩
   case rest =>
    clear MC
    obtain ⟨kq, Dv, rfl, HA, OF, ⟨Ui, rfl⟩⟩ := hcut
    cases kq with
    | zero => exact absurd HA.out (by simp [dg.j1])
    | succ Uk =>
     have H := HA.out
     clear HA
     simp only [dg.j1] at H
     by_cases c10 : Dv = true
     ·subst c10
      have H1 : (some true) = some r := by rw [if_pos rfl] at H; exact H
      clear H
      have H := H1
      clear H1
      obtain rfl := Option.some.inj H
      go_wp2
      go_ret
      exact ⟨by first | rfl | (simp; done) | (simp [*]; done), by repeat (first | exact Drawn0.refl _ | apply Drawn0.step)⟩
     ·replace c10 := Bool.eq_false_iff.mpr c10
      subst c10
      have H1 : (if a0 = 46 then (some true) else (if a0 = 45 then (some true) else (if a0 = 95 then (some true) else (some false)))) = some r := by rw [if_neg (show ¬ (false = true) by decide)] at H; exact H
      clear H
      have H := H1
      clear H1
      by_cases qy : a0 = 46
      ·rw [if_pos qy] at H
       have D2 : (a0 == 46) = true := beq_iff_eq.mpr qy
       have D1 : (a0 != 46) = false := bne_eq_false_iff_eq.mpr qy
       clear qy
       obtain rfl := Option.some.inj H
       go_wp2
       go_ret
       exact ⟨by first | rfl | (simp; done) | (simp [*]; done), by repeat (first | exact Drawn0.refl _ | apply Drawn0.step)⟩
      ·rw [if_neg qy] at H
       have D2 : (a0 == 46) = false := beq_eq_false_iff_ne.mpr qy
       have D1 : (a0 != 46) = true := bne_iff_ne.mpr qy
       by_cases qx : a0 = 45
       ·rw [if_pos qx] at H
        have D0 : (a0 == 45) = true := beq_iff_eq.mpr qx
        have DZ : (a0 != 45) = false := bne_eq_false_iff_eq.mpr qx
        clear qx
        obtain rfl := Option.some.inj H
        go_wp2
        go_ret
        exact ⟨by first | rfl | (simp; done) | (simp [*]; done), by repeat (first | exact Drawn0.refl _ | apply Drawn0.step)⟩
       ·rw [if_neg qx] at H
        have D0 : (a0 == 45) = false := beq_eq_false_iff_ne.mpr qx
        have DZ : (a0 != 45) = true := bne_iff_ne.mpr qx
        by_cases qw : a0 = 95
        ·rw [if_pos qw] at H
         have DY : (a0 == 95) = true := beq_iff_eq.mpr qw
         have DX : (a0 != 95) = false := bne_eq_false_iff_eq.mpr qw
         clear qw
         obtain rfl := Option.some.inj H
         go_wp2
         go_ret
         exact ⟨by first | rfl | (simp; done) | (simp [*]; done), by repeat (first | exact Drawn0.refl _ | apply Drawn0.step)⟩
        ·rw [if_neg qw] at H
         have DY : (a0 == 95) = false := beq_eq_false_iff_ne.mpr qw
         have DX : (a0 != 95) = true := bne_iff_ne.mpr qw
         obtain rfl := Option.some.inj H
         go_wp2
         go_ret
         exact ⟨by first | rfl | (simp; done) | (simp [*]; done), by repeat (first | exact Drawn0.refl _ | apply Drawn0.step)⟩
end Go.Proofs.Ytemhalnhbgkbcaa.V
end

section
namespace Go.Proofs.Ytemhalnhbgkbcaa.V
attribute [local go_sem] ez ew fa e9 ec eb ey ev
def ay.l0 : Nat → ByteArray → Int → Option (Bool)
 | 0, _, _ => none
 | k + 1, x0, x3 => if x3 < (x0.size : Int) then (if 0 ≤ x3 then (if (bt x0 x3) ≥ 97 then (if (bt x0 x3) ≤ 122 then (ay.l0 k x0 (wrap64 (x3 + 1))) else (if (bt x0 x3) ≥ 65 then (if (bt x0 x3) ≤ 90 then (ay.l0 k x0 (wrap64 (x3 + 1))) else (if (bt x0 x3) ≥ 48 then (if (bt x0 x3) ≤ 57 then (ay.l0 k x0 (wrap64 (x3 + 1))) else (if (bt x0 x3) = 46 then (ay.l0 k x0 (wrap64 (x3 + 1))) else (if (bt x0 x3) = 45 then (ay.l0 k x0 (wrap64 (x3 + 1))) else (if ((bt x0 x3) = 95) then (ay.l0 k x0 (wrap64 (x3 + 1))) else (some false))))) else (if (bt x0 x3) = 46 then (ay.l0 k x0 (wrap64 (x3 + 1))) else (if (bt x0 x3) = 45 then (ay.l0 k x0 (wrap64 (x3 + 1))) else (if ((bt x0 x3) = 95) then (ay.l0 k x0 (wrap64 (x3 + 1))) else (some false)))))) else (if (bt x0 x3) ≥ 48 then (if (bt x0 x3) ≤ 57 then (ay.l0 k x0 (wrap64 (x3 + 1))) else (if (bt x0 x3) = 46 then (ay.l0 k x0 (wrap64 (x3 + 1))) else (if (bt x0 x3) = 45 then (ay.l0 k x0 (wrap64 (x3 + 1))) else (if ((bt x0 x3) = 95) then (ay.l0 k x0 (wrap64 (x3 + 1))) else (some false))))) else (if (bt x0 x3) = 46 then (ay.l0 k x0 (wrap64 (x3 + 1))) else (if (bt x0 x3) = 45 then (ay.l0 k x0 (wrap64 (x3 + 1))) else (if ((bt x0 x3) = 95) then (ay.l0 k x0 (wrap64 (x3 + 1))) else (some false))))))) else (if (bt x0 x3) ≥ 65 then (if (bt x0 x3) ≤ 90 then (ay.l0 k x0 (wrap64 (x3 + 1))) else (if (bt x0 x3) ≥ 48 then (if (bt x0 x3) ≤ 57 then (ay.l0 k x0 (wrap64 (x3 + 1))) else (if (bt x0 x3) = 46 then (ay.l0 k x0 (wrap64 (x3 + 1))) else (if (bt x0 x3) = 45 then (ay.l0 k x0 (wrap64 (x3 + 1))) else (if ((bt x0 x3) = 95) then (ay.l0 k x0 (wrap64 (x3 + 1))) else (some false))))) else (if (bt x0 x3) = 46 then (ay.l0 k x0 (wrap64 (x3 + 1))) else (if (bt x0 x3) = 45 then (ay.l0 k x0 (wrap64 (x3 + 1))) else (if ((bt x0 x3) = 95) then (ay.l0 k x0 (wrap64 (x3 + 1))) else (some false)))))) else (if (bt x0 x3) ≥ 48 then (if (bt x0 x3) ≤ 57 then (ay.l0 k x0 (wrap64 (x3 + 1))) else (if (bt x0 x3) = 46 then (ay.l0 k x0 (wrap64 (x3 + 1))) else (if (bt x0 x3) = 45 then (ay.l0 k x0 (wrap64 (x3 + 1))) else (if ((bt x0 x3) = 95) then (ay.l0 k x0 (wrap64 (x3 + 1))) else (some false))))) else (if (bt x0 x3) = 46 then (ay.l0 k x0 (wrap64 (x3 + 1))) else (if (bt x0 x3) = 45 then (ay.l0 k x0 (wrap64 (x3 + 1))) else (if ((bt x0 x3) = 95) then (ay.l0 k x0 (wrap64 (x3 + 1))) else (some false))))))) else (none)) else (if (x0.size : Int) ≥ 1 then (some (decide ((x0.size : Int) ≤ 64))) else (some false))
def ay.f (k : Nat) (a0 : ByteArray) : Option (Bool) := ay.l0 k a0 0
set_option maxHeartbeats 8000000 in
set_option maxRecDepth 100000 in
theorem ay.calls (k : Nat) (a0 : ByteArray) (r : Bool) (w : World) (h : ay.f k a0 = some r) :
  Calls Try.prog 81 #[.string a0] w fun e w' => e = .returned (.bool r) ∧ Drawn0 w w' := by
 have H : (ay.l0 k a0 0) = some r := h
 clear h
 have H' := ak H
 clear H
 go_enter Try.func81, Try.ntmps81
 go_wp2
 go_loopg [3] k (fun kq v3 w' => ∃ (an : Int), v3 = .int .i64 an ∧ Aside0 (ay.l0 kq a0 an = some r) ∧ Aside0 (kq ≤ k) ∧ Drawn0 w w')
 case atStart => exact ⟨(0), (by first | rfl | (simp; done) | (simp [*]; done)), H', ⟨Nat.le_refl _⟩, by repeat (first | exact Drawn0.refl _ | apply Drawn0.step)⟩
 case round =>
  clear H'
  obtain ⟨an, rfl, HA, du, ⟨m1, rfl⟩⟩ := hrel
  cases gk with
  | zero => exact absurd HA.out (by simp [ay.l0])
  | succ k1 =>
   have H := HA.out
   clear HA
   simp only [ay.l0] at H
   by_cases c2 : an < (a0.size : Int)
   ·rw [if_pos c2] at H
    have sm : decide (an < (a0.size : Int)) = true := decide_eq_true c2
    clear c2
    by_cases c3 : 0 ≤ an
    ·rw [if_pos c3] at H
     have nB : decide (0 ≤ an) = true := decide_eq_true c3
     clear c3
     by_cases c5 : (bt a0 an) ≥ 97
     ·rw [if_pos c5] at H
      have vX : decide (97 ≤ (bt a0 an)) = true := decide_eq_true c5
      clear c5
      by_cases c6 : (bt a0 an) ≤ 122
      ·rw [if_pos c6] at H
       have nA : decide ((bt a0 an) ≤ 122) = true := decide_eq_true c6
       clear c6
       have H' := ak H
       clear H
       have p4 : 0 ≤ (an : Int) := of_decide_eq_true (by first | (with_reducible assumption) | assumption)
       have q4 : an < (a0.size : Int) := of_decide_eq_true (by first | (with_reducible assumption) | assumption)
       have iC := eI a0 an
       replace p4 := eq_true p4
       replace q4 := eq_true q4
       go_wp2
       go_roundg k1
       case measure => have := du.out; omega
       case rel => exact ⟨(wrap64 (an + 1)), (by first | rfl | (simp; done) | (simp [*]; done)), H', ⟨by have := du.out; omega⟩, by repeat (first | exact Drawn0.refl _ | apply Drawn0.step)⟩
      ·rw [if_neg c6] at H
       have nA : decide ((bt a0 an) ≤ 122) = false := decide_eq_false c6
       clear c6
       by_cases c7 : (bt a0 an) ≥ 65
       ·rw [if_pos c7] at H
        have qv : decide (65 ≤ (bt a0 an)) = true := decide_eq_true c7
        clear c7
        by_cases c8 : (bt a0 an) ≤ 90
        ·rw [if_pos c8] at H
         have qu : decide ((bt a0 an) ≤ 90) = true := decide_eq_true c8
         clear c8
         have H' := ak H
         clear H
         have p4 : 0 ≤ (an : Int) := of_decide_eq_true (by first | (with_reducible assumption) | assumption)
         have q4 : an < (a0.size : Int) := of_decide_eq_true (by first | (with_reducible assumption) | assumption)
         have iC := eI a0 an
         replace p4 := eq_true p4
         replace q4 := eq_true q4
         go_wp2
         go_roundg k1
         case measure => have := du.out; omega
         case rel => exact ⟨(wrap64 (an + 1)), (by first | rfl | (simp; done) | (simp [*]; done)), H', ⟨by have := du.out; omega⟩, by repeat (first | exact Drawn0.refl _ | apply Drawn0.step)⟩
        ·rw [if_neg c8] at H
         have qu : decide ((bt a0 an) ≤ 90) = false := decide_eq_false c8
         clear c8
         by_cases c9 : (bt a0 an) ≥ 48
         ·rw [if_pos c9] at H
          have GN : decide (48 ≤ (bt a0 an)) = true := decide_eq_true c9
          clear c9
          by_cases c10 : (bt a0 an) ≤ 57
          ·rw [if_pos c10] at H
           have NU : decide ((bt a0 an) ≤ 57) = true := decide_eq_true c10
           clear c10
           have H' := ak H
           clear H
           have p4 : 0 ≤ (an : Int) := of_decide_eq_true (by first | (with_reducible assumption) | assumption)
           have q4 : an < (a0.size : Int) := of_decide_eq_true (by first | (with_reducible assumption) | assumption)
           have iC := eI a0 an
           replace p4 := eq_true p4
           replace q4 := eq_true q4
           go_wp2
           go_roundg k1
           case measure => have := du.out; omega
           case rel => exact ⟨(wrap64 (an + 1)), (by first | rfl | (simp; done) | (simp [*]; done)), H', ⟨by have := du.out; omega⟩, by repeat (first | exact Drawn0.refl _ | apply Drawn0.step)⟩
          ·rw [if_neg c10] at H
           have NU : decide ((bt a0 an) ≤ 57) = false := decide_eq_false c10
           clear c10
           by_cases qy : (bt a0 an) = 46
           ·rw [if_pos qy] at H
            have D2 : ((bt a0 an) == 46) = true := beq_iff_eq.mpr qy
            have D1 : ((bt a0 an) != 46) = false := bne_eq_false_iff_eq.mpr qy
            clear qy
            have H' := ak H
            clear H
            have p4 : 0 ≤ (an : Int) := of_decide_eq_true (by first | (with_reducible assumption) | assumption)
            have q4 : an < (a0.size : Int) := of_decide_eq_true (by first | (with_reducible assumption) | assumption)
            have iC := eI a0 an
            replace p4 := eq_true p4
            replace q4 := eq_true q4
            go_wp2
            go_roundg k1
            case measure => have := du.out; omega
            case rel => exact ⟨(wrap64 (an + 1)), (by first | rfl | (simp; done) | (simp [*]; done)), H', ⟨by have := du.out; omega⟩, by repeat (first | exact Drawn0.refl _ | apply Drawn0.step)⟩
           ·rw [if_neg qy] at H
            have D2 : ((bt a0 an) == 46) = false := beq_eq_false_iff_ne.mpr qy
            have D1 : ((bt a0 an) != 46) = true := bne_iff_ne.mpr qy
            by_cases qx : (bt a0 an) = 45
            ·rw [if_pos qx] at H
             have D0 : ((bt a0 an) == 45) = true := beq_iff_eq.mpr qx
             have DZ : ((bt a0 an) != 45) = false := bne_eq_false_iff_eq.mpr qx
             clear qx
             have H' := ak H
             clear H
             have p4 : 0 ≤ (an : Int) := of_decide_eq_true (by first | (with_reducible assumption) | assumption)
             have q4 : an < (a0.size : Int) := of_decide_eq_true (by first | (with_reducible assumption) | assumption)
             have iC := eI a0 an
             replace p4 := eq_true p4
             replace q4 := eq_true q4
             go_wp2
             go_roundg k1
             case measure => have := du.out; omega
             case rel => exact ⟨(wrap64 (an + 1)), (by first | rfl | (simp; done) | (simp [*]; done)), H', ⟨by have := du.out; omega⟩, by repeat (first | exact Drawn0.refl _ | apply Drawn0.step)⟩
            ·rw [if_neg qx] at H
             have D0 : ((bt a0 an) == 45) = false := beq_eq_false_iff_ne.mpr qx
             have DZ : ((bt a0 an) != 45) = true := bne_iff_ne.mpr qx
             by_cases qw : ((bt a0 an) = 95)
             ·rw [if_pos qw] at H
              have DY : ((bt a0 an) == 95) = true := beq_iff_eq.mpr qw
              have DX : ((bt a0 an) != 95) = false := bne_eq_false_iff_eq.mpr qw
              clear qw
              have H' := ak H
              clear H
              have p4 : 0 ≤ (an : Int) := of_decide_eq_true (by first | (with_reducible assumption) | assumption)
              have q4 : an < (a0.size : Int) := of_decide_eq_true (by first | (with_reducible assumption) | assumption)
              have iC := eI a0 an
              replace p4 := eq_true p4
              replace q4 := eq_true q4
              go_wp2
              go_roundg k1
              case measure => have := du.out; omega
              case rel => exact ⟨(wrap64 (an + 1)), (by first | rfl | (simp; done) | (simp [*]; done)), H', ⟨by have := du.out; omega⟩, by repeat (first | exact Drawn0.refl _ | apply Drawn0.step)⟩
             ·rw [if_neg qw] at H
              have DY : ((bt a0 an) == 95) = false := beq_eq_false_iff_ne.mpr qw
              have DX : ((bt a0 an) != 95) = true := bne_iff_ne.mpr qw
              obtain rfl := Option.some.inj H
              have p4 : 0 ≤ (an : Int) := of_decide_eq_true (by first | (with_reducible assumption) | assumption)
              have q4 : an < (a0.size : Int) := of_decide_eq_true (by first | (with_reducible assumption) | assumption)
              have iC := eI a0 an
              replace p4 := eq_true p4
              replace q4 := eq_true q4
              go_wp2
              go_ret
              exact ⟨by first | rfl | (simp; done) | (simp [*]; done), by repeat (first | exact Drawn0.refl _ | apply Drawn0.step)⟩
         ·rw [if_neg c9] at H
          have GN : decide (48 ≤ (bt a0 an)) = false := decide_eq_false c9
          clear c9
          by_cases BX : (bt a0 an) = 46
          ·rw [if_pos BX] at H
           have NT : ((bt a0 an) == 46) = true := beq_iff_eq.mpr BX
           have NS : ((bt a0 an) != 46) = false := bne_eq_false_iff_eq.mpr BX
           clear BX
           have H' := ak H
           clear H
           have p4 : 0 ≤ (an : Int) := of_decide_eq_true (by first | (with_reducible assumption) | assumption)
           have q4 : an < (a0.size : Int) := of_decide_eq_true (by first | (with_reducible assumption) | assumption)
           have iC := eI a0 an
           replace p4 := eq_true p4
           replace q4 := eq_true q4
           go_wp2
           go_roundg k1
           case measure => have := du.out; omega
           case rel => exact ⟨(wrap64 (an + 1)), (by first | rfl | (simp; done) | (simp [*]; done)), H', ⟨by have := du.out; omega⟩, by repeat (first | exact Drawn0.refl _ | apply Drawn0.step)⟩
          ·rw [if_neg BX] at H
           have NT : ((bt a0 an) == 46) = false := beq_eq_false_iff_ne.mpr BX
           have NS : ((bt a0 an) != 46) = true := bne_iff_ne.mpr BX
           by_cases BW : (bt a0 an) = 45
           ·rw [if_pos BW] at H
            have NR : ((bt a0 an) == 45) = true := beq_iff_eq.mpr BW
            have NQ : ((bt a0 an) != 45) = false := bne_eq_false_iff_eq.mpr BW
            clear BW
            have H' := ak H
            clear H
            have p4 : 0 ≤ (an : Int) := of_decide_eq_true (by first | (with_reducible assumption) | assumption)
            have q4 : an < (a0.size : Int) := of_decide_eq_true (by first | (with_reducible assumption) | assumption)
            have iC := eI a0 an
            replace p4 := eq_true p4
            replace q4 := eq_true q4
            go_wp2
            go_roundg k1
            case measure => have := du.out; omega
            case rel => exact ⟨(wrap64 (an + 1)), (by first | rfl | (simp; done) | (simp [*]; done)), H', ⟨by have := du.out; omega⟩, by repeat (first | exact Drawn0.refl _ | apply Drawn0.step)⟩
           ·rw [if_neg BW] at H
            have NR : ((bt a0 an) == 45) = false := beq_eq_false_iff_ne.mpr BW
            have NQ : ((bt a0 an) != 45) = true := bne_iff_ne.mpr BW
            by_cases BV : ((bt a0 an) = 95)
            ·rw [if_pos BV] at H
             have NP : ((bt a0 an) == 95) = true := beq_iff_eq.mpr BV
             have NO : ((bt a0 an) != 95) = false := bne_eq_false_iff_eq.mpr BV
             clear BV
             have H' := ak H
             clear H
             have p4 : 0 ≤ (an : Int) := of_decide_eq_true (by first | (with_reducible assumption) | assumption)
             have q4 : an < (a0.size : Int) := of_decide_eq_true (by first | (with_reducible assumption) | assumption)
             have iC := eI a0 an
             replace p4 := eq_true p4
             replace q4 := eq_true q4
             go_wp2
             go_roundg k1
             case measure => have := du.out; omega
             case rel => exact ⟨(wrap64 (an + 1)), (by first | rfl | (simp; done) | (simp [*]; done)), H', ⟨by have := du.out; omega⟩, by repeat (first | exact Drawn0.refl _ | apply Drawn0.step)⟩
            ·rw [if_neg BV] at H
             have NP : ((bt a0 an) == 95) = false := beq_eq_false_iff_ne.mpr BV
             have NO : ((bt a0 an) != 95) = true := bne_iff_ne.mpr BV
             obtain rfl := Option.some.inj H
             have p4 : 0 ≤ (an : Int) := of_decide_eq_true (by first | (with_reducible assumption) | assumption)
             have q4 : an < (a0.size : Int) := of_decide_eq_true (by first | (with_reducible assumption) | assumption)
             have iC := eI a0 an
             replace p4 := eq_true p4
             replace q4 := eq_true q4
             go_wp2
             go_ret
             exact ⟨by first | rfl | (simp; done) | (simp [*]; done), by repeat (first | exact Drawn0.refl _ | apply Drawn0.step)⟩
       ·rw [if_neg c7] at H
        have qv : decide (65 ≤ (bt a0 an)) = false := decide_eq_false c7
        clear c7
        by_cases uz : (bt a0 an) ≥ 48
        ·rw [if_pos uz] at H
         have Hs : decide (48 ≤ (bt a0 an)) = true := decide_eq_true uz
         clear uz
         by_cases uy : (bt a0 an) ≤ 57
         ·rw [if_pos uy] at H
          have Hr : decide ((bt a0 an) ≤ 57) = true := decide_eq_true uy
          clear uy
          have H' := ak H
          clear H
          have p4 : 0 ≤ (an : Int) := of_decide_eq_true (by first | (with_reducible assumption) | assumption)
          have q4 : an < (a0.size : Int) := of_decide_eq_true (by first | (with_reducible assumption) | assumption)
          have iC := eI a0 an
          replace p4 := eq_true p4
          replace q4 := eq_true q4
          go_wp2
          go_roundg k1
          case measure => have := du.out; omega
          case rel => exact ⟨(wrap64 (an + 1)), (by first | rfl | (simp; done) | (simp [*]; done)), H', ⟨by have := du.out; omega⟩, by repeat (first | exact Drawn0.refl _ | apply Drawn0.step)⟩
         ·rw [if_neg uy] at H
          have Hr : decide ((bt a0 an) ≤ 57) = false := decide_eq_false uy
          clear uy
          by_cases BU : (bt a0 an) = 46
          ·rw [if_pos BU] at H
           have NN : ((bt a0 an) == 46) = true := beq_iff_eq.mpr BU
           have NL : ((bt a0 an) != 46) = false := bne_eq_false_iff_eq.mpr BU
           clear BU
           have H' := ak H
           clear H
           have p4 : 0 ≤ (an : Int) := of_decide_eq_true (by first | (with_reducible assumption) | assumption)
           have q4 : an < (a0.size : Int) := of_decide_eq_true (by first | (with_reducible assumption) | assumption)
           have iC := eI a0 an
           replace p4 := eq_true p4
           replace q4 := eq_true q4
           go_wp2
           go_roundg k1
           case measure => have := du.out; omega
           case rel => exact ⟨(wrap64 (an + 1)), (by first | rfl | (simp; done) | (simp [*]; done)), H', ⟨by have := du.out; omega⟩, by repeat (first | exact Drawn0.refl _ | apply Drawn0.step)⟩
          ·rw [if_neg BU] at H
           have NN : ((bt a0 an) == 46) = false := beq_eq_false_iff_ne.mpr BU
           have NL : ((bt a0 an) != 46) = true := bne_iff_ne.mpr BU
           by_cases BT : (bt a0 an) = 45
           ·rw [if_pos BT] at H
            have NK : ((bt a0 an) == 45) = true := beq_iff_eq.mpr BT
            have NJ : ((bt a0 an) != 45) = false := bne_eq_false_iff_eq.mpr BT
            clear BT
            have H' := ak H
            clear H
            have p4 : 0 ≤ (an : Int) := of_decide_eq_true (by first | (with_reducible assumption) | assumption)
            have q4 : an < (a0.size : Int) := of_decide_eq_true (by first | (with_reducible assumption) | assumption)
            have iC := eI a0 an
            replace p4 := eq_true p4
            replace q4 := eq_true q4
            go_wp2
            go_roundg k1
            case measure => have := du.out; omega
            case rel => exact ⟨(wrap64 (an + 1)), (by first | rfl | (simp; done) | (simp [*]; done)), H', ⟨by have := du.out; omega⟩, by repeat (first | exact Drawn0.refl _ | apply Drawn0.step)⟩
           ·rw [if_neg BT] at H
            have NK : ((bt a0 an) == 45) = false := beq_eq_false_iff_ne.mpr BT
            have NJ : ((bt a0 an) != 45) = true := bne_iff_ne.mpr BT
            by_cases BS : ((bt a0 an) = 95)
            ·rw [if_pos BS] at H
             have NI : ((bt a0 an) == 95) = true := beq_iff_eq.mpr BS
             have NH : ((bt a0 an) != 95) = false := bne_eq_false_iff_eq.mpr BS
             clear BS
             have H' := ak H
             clear H
             have p4 : 0 ≤ (an : Int) := of_decide_eq_true (by first | (with_reducible assumption) | assumption)
             have q4 : an < (a0.size : Int) := of_decide_eq_true (by first | (with_reducible assumption) | assumption)
             have iC := eI a0 an
             replace p4 := eq_true p4
             replace q4 := eq_true q4
             go_wp2
             go_roundg k1
             case measure => have := du.out; omega
             case rel => exact ⟨(wrap64 (an + 1)), (by first | rfl | (simp; done) | (simp [*]; done)), H', ⟨by have := du.out; omega⟩, by repeat (first | exact Drawn0.refl _ | apply Drawn0.step)⟩
            ·rw [if_neg BS] at H
             have NI : ((bt a0 an) == 95) = false := beq_eq_false_iff_ne.mpr BS
             have NH : ((bt a0 an) != 95) = true := bne_iff_ne.mpr BS
             obtain rfl := Option.some.inj H
             have p4 : 0 ≤ (an : Int) := of_decide_eq_true (by first | (with_reducible assumption) | assumption)
             have q4 : an < (a0.size : Int) := of_decide_eq_true (by first | (with_reducible assumption) | assumption)
             have iC := eI a0 an
             replace p4 := eq_true p4
             replace q4 := eq_true q4
             go_wp2
             go_ret
             exact ⟨by first | rfl | (simp; done) | (simp [*]; done), by repeat (first | exact Drawn0.refl _ | apply Drawn0.step)⟩
        ·rw [if_neg uz] at H
         have Hs : decide (48 ≤ (bt a0 an)) = false := decide_eq_false uz
         clear uz
         by_cases BR : (bt a0 an) = 46
         ·rw [if_pos BR] at H
          have NG : ((bt a0 an) == 46) = true := beq_iff_eq.mpr BR
          have NF : ((bt a0 an) != 46) = false := bne_eq_false_iff_eq.mpr BR
          clear BR
          have H' := ak H
          clear H
          have p4 : 0 ≤ (an : Int) := of_decide_eq_true (by first | (with_reducible assumption) | assumption)
          have q4 : an < (a0.size : Int) := of_decide_eq_true (by first | (with_reducible assumption) | assumption)
          have iC := eI a0 an
          replace p4 := eq_true p4
          replace q4 := eq_true q4
          go_wp2
          go_roundg k1
          case measure => have := du.out; omega
          case rel => exact ⟨(wrap64 (an + 1)), (by first | rfl | (simp; done) | (simp [*]; done)), H', ⟨by have := du.out; omega⟩, by repeat (first | exact Drawn0.refl _ | apply Drawn0.step)⟩
         ·rw [if_neg BR] at H
          have NG : ((bt a0 an) == 46) = false := beq_eq_false_iff_ne.mpr BR
          have NF : ((bt a0 an) != 46) = true := bne_iff_ne.mpr BR
          by_cases BQ : (bt a0 an) = 45
          ·rw [if_pos BQ] at H
           have ND : ((bt a0 an) == 45) = true := beq_iff_eq.mpr BQ
           have NC : ((bt a0 an) != 45) = false := bne_eq_false_iff_eq.mpr BQ
           clear BQ
           have H' := ak H
           clear H
           have p4 : 0 ≤ (an : Int) := of_decide_eq_true (by first | (with_reducible assumption) | assumption)
           have q4 : an < (a0.size : Int) := of_decide_eq_true (by first | (with_reducible assumption) | assumption)
           have iC := eI a0 an
           replace p4 := eq_true p4
           replace q4 := eq_true q4
           go_wp2
           go_roundg k1
           case measure => have := du.out; omega
           case rel => exact ⟨(wrap64 (an + 1)), (by first | rfl | (simp; done) | (simp [*]; done)), H', ⟨by have := du.out; omega⟩, by repeat (first | exact Drawn0.refl _ | apply Drawn0.step)⟩
          ·rw [if_neg BQ] at H
           have ND : ((bt a0 an) == 45) = false := beq_eq_false_iff_ne.mpr BQ
           have NC : ((bt a0 an) != 45) = true := bne_iff_ne.mpr BQ
           by_cases BP : ((bt a0 an) = 95)
           ·rw [if_pos BP] at H
            have NB : ((bt a0 an) == 95) = true := beq_iff_eq.mpr BP
            have NA : ((bt a0 an) != 95) = false := bne_eq_false_iff_eq.mpr BP
            clear BP
            have H' := ak H
            clear H
            have p4 : 0 ≤ (an : Int) := of_decide_eq_true (by first | (with_reducible assumption) | assumption)
            have q4 : an < (a0.size : Int) := of_decide_eq_true (by first | (with_reducible assumption) | assumption)
            have iC := eI a0 an
            replace p4 := eq_true p4
            replace q4 := eq_true q4
            go_wp2
            go_roundg k1
            case measure => have := du.out; omega
            case rel => exact ⟨(wrap64 (an + 1)), (by first | rfl | (simp; done) | (simp [*]; done)), H', ⟨by have := du.out; omega⟩, by repeat (first | exact Drawn0.refl _ | apply Drawn0.step)⟩
           ·rw [if_neg BP] at H
            have NB : ((bt a0 an) == 95) = false := beq_eq_false_iff_ne.mpr BP
            have NA : ((bt a0 an) != 95) = true := bne_iff_ne.mpr BP
            obtain rfl := Option.some.inj H
            have p4 : 0 ≤ (an : Int) := of_decide_eq_true (by first | (with_reducible assumption) | assumption)
            have q4 : an < (a0.size : Int) := of_decide_eq_true (by first | (with_reducible assumption) | assumption)
            have iC := eI a0 an
            replace p4 := eq_true p4
            replace q4 := eq_true q4
            go_wp2
            go_ret
            exact ⟨by first | rfl | (simp; done) | (simp [*]; done), by repeat (first | exact Drawn0.refl _ | apply Drawn0.step)⟩
     ·rw [if_neg c5] at H
      have vX : decide (97 ≤ (bt a0 an)) = false := decide_eq_false c5
      clear c5
      by_cases De : (bt a0 an) ≥ 65
      ·rw [if_pos De] at H
       have Nz : decide (65 ≤ (bt a0 an)) = true := decide_eq_true De
       clear De
       by_cases Dd : (bt a0 an) ≤ 90
       ·rw [if_pos Dd] at H
        have Ny : decide ((bt a0 an) ≤ 90) = true := decide_eq_true Dd
        clear Dd
        have H' := ak H
        clear H
        have p4 : 0 ≤ (an : Int) := of_decide_eq_true (by first | (with_reducible assumption) | assumption)
        have q4 : an < (a0.size : Int) := of_decide_eq_true (by first | (with_reducible assumption) | assumption)
        have iC := eI a0 an
        replace p4 := eq_true p4
        replace q4 := eq_true q4
        go_wp2
        go_roundg k1
        case measure => have := du.out; omega
        case rel => exact ⟨(wrap64 (an + 1)), (by first | rfl | (simp; done) | (simp [*]; done)), H', ⟨by have := du.out; omega⟩, by repeat (first | exact Drawn0.refl _ | apply Drawn0.step)⟩
       ·rw [if_neg Dd] at H
        have Ny : decide ((bt a0 an) ≤ 90) = false := decide_eq_false Dd
        clear Dd
        by_cases Dc : (bt a0 an) ≥ 48
        ·rw [if_pos Dc] at H
         have Nx : decide (48 ≤ (bt a0 an)) = true := decide_eq_true Dc
         clear Dc
         by_cases Db : (bt a0 an) ≤ 57
         ·rw [if_pos Db] at H
          have Nw : decide ((bt a0 an) ≤ 57) = true := decide_eq_true Db
          clear Db
          have H' := ak H
          clear H
          have p4 : 0 ≤ (an : Int) := of_decide_eq_true (by first | (with_reducible assumption) | assumption)
          have q4 : an < (a0.size : Int) := of_decide_eq_true (by first | (with_reducible assumption) | assumption)
          have iC := eI a0 an
          replace p4 := eq_true p4
          replace q4 := eq_true q4
          go_wp2
          go_roundg k1
          case measure => have := du.out; omega
          case rel => exact ⟨(wrap64 (an + 1)), (by first | rfl | (simp; done) | (simp [*]; done)), H', ⟨by have := du.out; omega⟩, by repeat (first | exact Drawn0.refl _ | apply Drawn0.step)⟩
         ·rw [if_neg Db] at H
          have Nw : decide ((bt a0 an) ≤ 57) = false := decide_eq_false Db
          clear Db
          by_cases BO : (bt a0 an) = 46
          ·rw [if_pos BO] at H
           have Nv : ((bt a0 an) == 46) = true := beq_iff_eq.mpr BO
           have Nu : ((bt a0 an) != 46) = false := bne_eq_false_iff_eq.mpr BO
           clear BO
           have H' := ak H
           clear H
           have p4 : 0 ≤ (an : Int) := of_decide_eq_true (by first | (with_reducible assumption) | assumption)
           have q4 : an < (a0.size : Int) := of_decide_eq_true (by first | (with_reducible assumption) | assumption)
           have iC := eI a0 an
           replace p4 := eq_true p4
           replace q4 := eq_true q4
           go_wp2
           go_roundg k1
           case measure => have := du.out; omega
           case rel => exact ⟨(wrap64 (an + 1)), (by first | rfl | (simp; done) | (simp [*]; done)), H', ⟨by have := du.out; omega⟩, by repeat (first | exact Drawn0.refl _ | apply Drawn0.step)⟩
          ·rw [if_neg BO] at H
           have Nv : ((bt a0 an) == 46) = false := beq_eq_false_iff_ne.mpr BO
           have Nu : ((bt a0 an) != 46) = true := bne_iff_ne.mpr BO
           by_cases BN : (bt a0 an) = 45
           ·rw [if_pos BN] at H
            have Nt : ((bt a0 an) == 45) = true := beq_iff_eq.mpr BN
            have Ns : ((bt a0 an) != 45) = false := bne_eq_false_iff_eq.mpr BN
            clear BN
            have H' := ak H
            clear H
            have p4 : 0 ≤ (an : Int) := of_decide_eq_true (by first | (with_reducible assumption) | assumption)
            have q4 : an < (a0.size : Int) := of_decide_eq_true (by first | (with_reducible assumption) | assumption)
            have iC := eI a0 an
            replace p4 := eq_true p4
            replace q4 := eq_true q4
            go_wp2
            go_roundg k1
            case measure => have := du.out; omega
            case rel => exact ⟨(wrap64 (an + 1)), (by first | rfl | (simp; done) | (simp [*]; done)), H', ⟨by have := du.out; omega⟩, by repeat (first | exact Drawn0.refl _ | apply Drawn0.step)⟩
           ·rw [if_neg BN] at H
            have Nt : ((bt a0 an) == 45) = false := beq_eq_false_iff_ne.mpr BN
            have Ns : ((bt a0 an) != 45) = true := bne_iff_ne.mpr BN
            by_cases BM : ((bt a0 an) = 95)
            ·rw [if_pos BM] at H
             have Nr : ((bt a0 an) == 95) = true := beq_iff_eq.mpr BM
             have Nq : ((bt a0 an) != 95) = false := bne_eq_false_iff_eq.mpr BM
             clear BM
             have H' := ak H
             clear H
             have p4 : 0 ≤ (an : Int) := of_decide_eq_true (by first | (with_reducible assumption) | assumption)
             have q4 : an < (a0.size : Int) := of_decide_eq_true (by first | (with_reducible assumption) | assumption)
             have iC := eI a0 an
             replace p4 := eq_true p4
             replace q4 := eq_true q4
             go_wp2
             go_roundg k1
             case measure => have := du.out; omega
             case rel => exact ⟨(wrap64 (an + 1)), (by first | rfl | (simp; done) | (simp [*]; done)), H', ⟨by have := du.out; omega⟩, by repeat (first | exact Drawn0.refl _ | apply Drawn0.step)⟩
            ·rw [if_neg BM] at H
             have Nr : ((bt a0 an) == 95) = false := beq_eq_false_iff_ne.mpr BM
             have Nq : ((bt a0 an) != 95) = true := bne_iff_ne.mpr BM
             obtain rfl := Option.some.inj H
             have p4 : 0 ≤ (an : Int) := of_decide_eq_true (by first | (with_reducible assumption) | assumption)
             have q4 : an < (a0.size : Int) := of_decide_eq_true (by first | (with_reducible assumption) | assumption)
             have iC := eI a0 an
             replace p4 := eq_true p4
             replace q4 := eq_true q4
             go_wp2
             go_ret
             exact ⟨by first | rfl | (simp; done) | (simp [*]; done), by repeat (first | exact Drawn0.refl _ | apply Drawn0.step)⟩
        ·rw [if_neg Dc] at H
         have Nx : decide (48 ≤ (bt a0 an)) = false := decide_eq_false Dc
         clear Dc
         by_cases BL : (bt a0 an) = 46
         ·rw [if_pos BL] at H
          have Np : ((bt a0 an) == 46) = true := beq_iff_eq.mpr BL
          have Nn : ((bt a0 an) != 46) = false := bne_eq_false_iff_eq.mpr BL
          clear BL
          have H' := ak H
          clear H
          have p4 : 0 ≤ (an : Int) := of_decide_eq_true (by first | (with_reducible assumption) | assumption)
          have q4 : an < (a0.size : Int) := of_decide_eq_true (by first | (with_reducible assumption) | assumption)
          have iC := eI a0 an
          replace p4 := eq_true p4
          replace q4 := eq_true q4
          go_wp2
          go_roundg k1
          case measure => have := du.out; omega
          case rel => exact ⟨(wrap64 (an + 1)), (by first | rfl | (simp; done) | (simp [*]; done)), H', ⟨by have := du.out; omega⟩, by repeat (first | exact Drawn0.refl _ | apply Drawn0.step)⟩
         ·rw [if_neg BL] at H
          have Np : ((bt a0 an) == 46) = false := beq_eq_false_iff_ne.mpr BL
          have Nn : ((bt a0 an) != 46) = true := bne_iff_ne.mpr BL
          by_cases BK : (bt a0 an) = 45
          ·rw [if_pos BK] at H
           have Nm : ((bt a0 an) == 45) = true := beq_iff_eq.mpr BK
           have Nl : ((bt a0 an) != 45) = false := bne_eq_false_iff_eq.mpr BK
           clear BK
           have H' := ak H
           clear H
           have p4 : 0 ≤ (an : Int) := of_decide_eq_true (by first | (with_reducible assumption) | assumption)
           have q4 : an < (a0.size : Int) := of_decide_eq_true (by first | (with_reducible assumption) | assumption)
           have iC := eI a0 an
           replace p4 := eq_true p4
           replace q4 := eq_true q4
           go_wp2
           go_roundg k1
           case measure => have := du.out; omega
           case rel => exact ⟨(wrap64 (an + 1)), (by first | rfl | (simp; done) | (simp [*]; done)), H', ⟨by have := du.out; omega⟩, by repeat (first | exact Drawn0.refl _ | apply Drawn0.step)⟩
          ·rw [if_neg BK] at H
           have Nm : ((bt a0 an) == 45) = false := beq_eq_false_iff_ne.mpr BK
           have Nl : ((bt a0 an) != 45) = true := bne_iff_ne.mpr BK
           by_cases BJ : ((bt a0 an) = 95)
           ·rw [if_pos BJ] at H
            have Nk : ((bt a0 an) == 95) = true := beq_iff_eq.mpr BJ
            have Nh : ((bt a0 an) != 95) = false := bne_eq_false_iff_eq.mpr BJ
            clear BJ
            have H' := ak H
            clear H
            have p4 : 0 ≤ (an : Int) := of_decide_eq_true (by first | (with_reducible assumption) | assumption)
            have q4 : an < (a0.size : Int) := of_decide_eq_true (by first | (with_reducible assumption) | assumption)
            have iC := eI a0 an
            replace p4 := eq_true p4
            replace q4 := eq_true q4
            go_wp2
            go_roundg k1
            case measure => have := du.out; omega
            case rel => exact ⟨(wrap64 (an + 1)), (by first | rfl | (simp; done) | (simp [*]; done)), H', ⟨by have := du.out; omega⟩, by repeat (first | exact Drawn0.refl _ | apply Drawn0.step)⟩
           ·rw [if_neg BJ] at H
            have Nk : ((bt a0 an) == 95) = false := beq_eq_false_iff_ne.mpr BJ
            have Nh : ((bt a0 an) != 95) = true := bne_iff_ne.mpr BJ
            obtain rfl := Option.some.inj H
            have p4 : 0 ≤ (an : Int) := of_decide_eq_true (by first | (with_reducible assumption) | assumption)
            have q4 : an < (a0.size : Int) := of_decide_eq_true (by first | (with_reducible assumption) | assumption)
            have iC := eI a0 an
            replace p4 := eq_true p4
            replace q4 := eq_true q4
            go_wp2
            go_ret
            exact ⟨by first | rfl | (simp; done) | (simp [*]; done), by repeat (first | exact Drawn0.refl _ | apply Drawn0.step)⟩
      ·rw [if_neg De] at H
       have Nz : decide (65 ≤ (bt a0 an)) = false := decide_eq_false De
       clear De
       by_cases Da : (bt a0 an) ≥ 48
       ·rw [if_pos Da] at H
        have Ng : decide (48 ≤ (bt a0 an)) = true := decide_eq_true Da
        clear Da
        by_cases C9 : (bt a0 an) ≤ 57
        ·rw [if_pos C9] at H
         have Nf : decide ((bt a0 an) ≤ 57) = true := decide_eq_true C9
         clear C9
         have H' := ak H
         clear H
         have p4 : 0 ≤ (an : Int) := of_decide_eq_true (by first | (with_reducible assumption) | assumption)
         have q4 : an < (a0.size : Int) := of_decide_eq_true (by first | (with_reducible assumption) | assumption)
         have iC := eI a0 an
         replace p4 := eq_true p4
         replace q4 := eq_true q4
         go_wp2
         go_roundg k1
         case measure => have := du.out; omega
         case rel => exact ⟨(wrap64 (an + 1)), (by first | rfl | (simp; done) | (simp [*]; done)), H', ⟨by have := du.out; omega⟩, by repeat (first | exact Drawn0.refl _ | apply Drawn0.step)⟩
        ·rw [if_neg C9] at H
         have Nf : decide ((bt a0 an) ≤ 57) = false := decide_eq_false C9
         clear C9
         by_cases BI : (bt a0 an) = 46
         ·rw [if_pos BI] at H
          have Nd : ((bt a0 an) == 46) = true := beq_iff_eq.mpr BI
          have Nc : ((bt a0 an) != 46) = false := bne_eq_false_iff_eq.mpr BI
          clear BI
          have H' := ak H
          clear H
          have p4 : 0 ≤ (an : Int) := of_decide_eq_true (by first | (with_reducible assumption) | assumption)
          have q4 : an < (a0.size : Int) := of_decide_eq_true (by first | (with_reducible assumption) | assumption)
          have iC := eI a0 an
          replace p4 := eq_true p4
          replace q4 := eq_true q4
          go_wp2
          go_roundg k1
          case measure => have := du.out; omega
          case rel => exact ⟨(wrap64 (an + 1)), (by first | rfl | (simp; done) | (simp [*]; done)), H', ⟨by have := du.out; omega⟩, by repeat (first | exact Drawn0.refl _ | apply Drawn0.step)⟩
         ·rw [if_neg BI] at H
          have Nd : ((bt a0 an) == 46) = false := beq_eq_false_iff_ne.mpr BI
          have Nc : ((bt a0 an) != 46) = true := bne_iff_ne.mpr BI
          by_cases BH : (bt a0 an) = 45
          ·rw [if_pos BH] at H
           have Nb : ((bt a0 an) == 45) = true := beq_iff_eq.mpr BH
           have Na : ((bt a0 an) != 45) = false := bne_eq_false_iff_eq.mpr BH
           clear BH
           have H' := ak H
           clear H
           have p4 : 0 ≤ (an : Int) := of_decide_eq_true (by first | (with_reducible assumption) | assumption)
           have q4 : an < (a0.size : Int) := of_decide_eq_true (by first | (with_reducible assumption) | assumption)
           have iC := eI a0 an
           replace p4 := eq_true p4
           replace q4 := eq_true q4
           go_wp2
           go_roundg k1
           case measure => have := du.out; omega
           case rel => exact ⟨(wrap64 (an + 1)), (by first | rfl | (simp; done) | (simp [*]; done)), H', ⟨by have := du.out; omega⟩, by repeat (first | exact Drawn0.refl _ | apply Drawn0.step)⟩
          ·rw [if_neg BH] at H
           have Nb : ((bt a0 an) == 45) = false := beq_eq_false_iff_ne.mpr BH
           have Na : ((bt a0 an) != 45) = true := bne_iff_ne.mpr BH
           by_cases BG : ((bt a0 an) = 95)
           ·rw [if_pos BG] at H
            have M9 : ((bt a0 an) == 95) = true := beq_iff_eq.mpr BG
            have M8 : ((bt a0 an) != 95) = false := bne_eq_false_iff_eq.mpr BG
            clear BG
            have H' := ak H
            clear H
            have p4 : 0 ≤ (an : Int) := of_decide_eq_true (by first | (with_reducible assumption) | assumption)
            have q4 : an < (a0.size : Int) := of_decide_eq_true (by first | (with_reducible assumption) | assumption)
            have iC := eI a0 an
            replace p4 := eq_true p4
            replace q4 := eq_true q4
            go_wp2
            go_roundg k1
            case measure => have := du.out; omega
            case rel => exact ⟨(wrap64 (an + 1)), (by first | rfl | (simp; done) | (simp [*]; done)), H', ⟨by have := du.out; omega⟩, by repeat (first | exact Drawn0.refl _ | apply Drawn0.step)⟩
           ·rw [if_neg BG] at H
            have M9 : ((bt a0 an) == 95) = false := beq_eq_false_iff_ne.mpr BG
            have M8 : ((bt a0 an) != 95) = true := bne_iff_ne.mpr BG
            obtain rfl := Option.some.inj H
            have p4 : 0 ≤ (an : Int) := of_decide_eq_true (by first | (with_reducible assumption) | assumption)
            have q4 : an < (a0.size : Int) := of_decide_eq_true (by first | (with_reducible assumption) | assumption)
            have iC := eI a0 an
            replace p4 := eq_true p4
            replace q4 := eq_true q4
            go_wp2
            go_ret
            exact ⟨by first | rfl | (simp; done) | (simp [*]; done), by repeat (first | exact Drawn0.refl _ | apply Drawn0.step)⟩
       ·rw [if_neg Da] at H
        have Ng : decide (48 ≤ (bt a0 an)) = false := decide_eq_false Da
        clear Da
        by_cases BD : (bt a0 an) = 46
        ·rw [if_pos BD] at H
         have M7 : ((bt a0 an) == 46) = true := beq_iff_eq.mpr BD
         have M6 : ((bt a0 an) != 46) = false := bne_eq_false_iff_eq.mpr BD
         clear BD
         have H' := ak H
         clear H
         have p4 : 0 ≤ (an : Int) := of_decide_eq_true (by first | (with_reducible assumption) | assumption)
         have q4 : an < (a0.size : Int) := of_decide_eq_true (by first | (with_reducible assumption) | assumption)
         have iC := eI a0 an
         replace p4 := eq_true p4
         replace q4 := eq_true q4
         go_wp2
         go_roundg k1
         case measure => have := du.out; omega
         case rel => exact ⟨(wrap64 (an + 1)), (by first | rfl | (simp; done) | (simp [*]; done)), H', ⟨by have := du.out; omega⟩, by repeat (first | exact Drawn0.refl _ | apply Drawn0.step)⟩
        ·rw [if_neg BD] at H
         have M7 : ((bt a0 an) == 46) = false := beq_eq_false_iff_ne.mpr BD
         have M6 : ((bt a0 an) != 46) = true := bne_iff_ne.mpr BD
         by_cases BC : (bt a0 an) = 45
         ·rw [if_pos BC] at H
          have M5 : ((bt a0 an) == 45) = true := beq_iff_eq.mpr BC
          have M4 : ((bt a0 an) != 45) = false := bne_eq_false_iff_eq.mpr BC
          clear BC
          have H' := ak H
          clear H
          have p4 : 0 ≤ (an : Int) := of_decide_eq_true (by first | (with_reducible assumption) | assumption)
          have q4 : an < (a0.size : Int) := of_decide_eq_true (by first | (with_reducible assumption) | assumption)
          have iC := eI a0 an
          replace p4 := eq_true p4
          replace q4 := eq_true q4
          go_wp2
          go_roundg k1
          case measure => have := du.out; omega
          case rel => exact ⟨(wrap64 (an + 1)), (by first | rfl | (simp; done) | (simp [*]; done)), H', ⟨by have := du.out; omega⟩, by repeat (first | exact Drawn0.refl _ | apply Drawn0.step)⟩
         ·rw [if_neg BC] at H
          have M5 : ((bt a0 an) == 45) = false := beq_eq_false_iff_ne.mpr BC
          have M4 : ((bt a0 an) != 45) = true := bne_iff_ne.mpr BC
          by_cases BB : ((bt a0 an) = 95)
          ·rw [if_pos BB] at H
           have M3 : ((bt a0 an) == 95) = true := beq_iff_eq.mpr BB
           have M0 : ((bt a0 an) != 95) = false := bne_eq_false_iff_eq.mpr BB
           clear BB
           have H' := ak H
           clear H
           have p4 : 0 ≤ (an : Int) := of_decide_eq_true (by first | (with_reducible assumption) | assumption)
           have q4 : an < (a0.size : Int) := of_decide_eq_true (by first | (with_reducible assumption) | assumption)
           have iC := eI a0 an
           replace p4 := eq_true p4
           replace q4 := eq_true q4
           go_wp2
           go_roundg k1
           case measure => have := du.out; omega
           case rel => exact ⟨(wrap64 (an + 1)), (by first | rfl | (simp; done) | (simp [*]; done)), H', ⟨by have := du.out; omega⟩, by repeat (first | exact Drawn0.refl _ | apply Drawn0.step)⟩
          ·rw [if_neg BB] at H
           have M3 : ((bt a0 an) == 95) = false := beq_eq_false_iff_ne.mpr BB
           have M0 : ((bt a0 an) != 95) = true := bne_iff_ne.mpr BB
           obtain rfl := Option.some.inj H
           have p4 : 0 ≤ (an : Int) := of_decide_eq_true (by first | (with_reducible assumption) | assumption)
           have q4 : an < (a0.size : Int) := of_decide_eq_true (by first | (with_reducible assumption) | assumption)
           have iC := eI a0 an
           replace p4 := eq_true p4
           replace q4 := eq_true q4
           go_wp2
           go_ret
           exact ⟨by first | rfl | (simp; done) | (simp [*]; done), by repeat (first | exact Drawn0.refl _ | apply Drawn0.step)⟩
    ·rw [if_neg c3] at H
     exact absurd H (by simp)
   ·rw [if_neg c2] at H
    have sm : decide (an < (a0.size : Int)) = false := decide_eq_false c2
    clear c2
    by_cases C8 : (a0.size : Int) ≥ 1
    ·rw [if_pos C8] at H
     have MZ : decide (1 ≤ (a0.size : Int)) = true := decide_eq_true C8
     have MY : decide (1 ≤ a0.size) = true := decide_eq_true (by omega)
     clear C8
     obtain rfl := Option.some.inj H
     go_wp2
     go_ret
     exact ⟨by first | rfl | (simp; done) | (simp [*]; done), by repeat (first | exact Drawn0.refl _ | apply Drawn0.step)⟩
    ·rw [if_neg C8] at H
     have MZ : decide (1 ≤ (a0.size : Int)) = false := decide_eq_false C8
     have MY : decide (1 ≤ a0.size) = false := decide_eq_false (by omega)
     clear C8
     obtain rfl := Option.some.inj H
     go_wp2
     go_ret
     exact ⟨by first | rfl | (simp; done) | (simp [*]; done), by repeat (first | exact Drawn0.refl _ | apply Drawn0.step)⟩
end Go.Proofs.Ytemhalnhbgkbcaa.V
end

section
namespace Go.Proofs.Ytemhalnhbgkbcaa.V
def kD (c : Int) : Bool := (decide (97 ≤ c) && decide (c ≤ 122)) || (decide (65 ≤ c) && decide (c ≤ 90)) || (decide (48 ≤ c) && decide (c ≤ 57)) || decide (c = 46) || decide (c = 45) || decide (c = 95)
def kl (s : ByteArray) (i : Nat) : Bool := (s.data.toList.drop i).all fun b => kD (b.toNat : Int)
def fp (s : ByteArray) : Bool := kl s 0 && decide (0 < s.size) && decide (s.size ≤ 64)
theorem MK (c : Int) (k : Nat) (hk : 2 < k) : dg.f k c = some (kD c) := by
 obtain ⟨k, rfl⟩ : ∃ m, k = m + 1 + 1 := ⟨k - 2, by omega⟩
 unfold dg.f kD
 simp only [dg.j0, dg.j1]
 repeat' split
 all_goals first | (simp_all; done) | (simp_all; omega) | (exfalso; simp_all; omega)
theorem yw (c : Int) (w : World) : Calls Try.prog 112 #[.int .i32 c] w fun e w' => e = .returned (.bool (kD c)) ∧ Drawn0 w w' :=
 dg.calls 3 c _ w (MK c 3 (by omega))
theorem BY (s : ByteArray) (i : Nat) (h : i < s.size) : bt s (i : Int) = (s[i].toNat : Int) := by simp [bt, h]
theorem qB (s : ByteArray) (i : Nat) (h : i < s.size) : kl s i = (kD (bt s (i : Int)) && kl s (i + 1)) := by
 have h' : i < s.data.toList.length := by simpa using h
 unfold kl
 rw [List.drop_eq_getElem_cons h', List.all_cons, BY s i h]
 rfl
theorem vK (s : ByteArray) (i : Nat) (h : s.size ≤ i) : kl s i = true := by
 unfold kl
 rw [List.drop_of_length_le (by simpa using h)]
 rfl
theorem toList_nil (s : ByteArray) : s.data.toList = [] ↔ s.size = 0 := by
 constructor
 ·intro h
  have := congrArg List.length h
  simpa using this
 ·intro h
  exact List.eq_nil_of_length_eq_zero (by simpa using h)
theorem F9 (k : Nat) (s : ByteArray) (i : Nat) (h : i < s.size) (hm : s.size ≤ 9223372036854775807) : ay.l0 (k + 1) s (i : Int) = if kD (bt s (i : Int)) then ay.l0 k s ((i + 1 : Nat) : Int) else some false := by
 simp only [ay.l0]
 rw [if_pos (show (i : Int) < (s.size : Int) by omega), if_pos (show (0 : Int) ≤ (i : Int) by omega), show wrap64 ((i : Int) + 1) = ((i + 1 : Nat) : Int) by unfold wrap64; omega]
 generalize ay.l0 k s ((i + 1 : Nat) : Int) = A
 generalize bt s (i : Int) = c
 unfold kD
 repeat' split
 all_goals first | rfl | (exfalso; simp_all; omega) | (simp_all; done) | (simp_all; omega)
theorem K8 (s : ByteArray) (hm : s.size ≤ 9223372036854775807) : ∀ (d k i : Nat), i + d = s.size → d < k → ay.l0 k s (i : Int) = some (kl s i && decide (0 < s.size) && decide (s.size ≤ 64)) := by
 intro d
 induction d with
 | zero =>
  intro k i hi hk
  obtain ⟨k, rfl⟩ : ∃ m, k = m + 1 := ⟨k - 1, by omega⟩
  simp only [ay.l0]
  rw [if_neg (by omega), vK s i (by omega)]
  by_cases h1 : 0 < s.size
  ·rw [if_pos (by omega)]
   simp [h1]
   omega
  ·rw [if_neg (by omega)]
   simp [h1]
 | succ d ih =>
  intro k i hi hk
  obtain ⟨k, rfl⟩ : ∃ m, k = m + 1 := ⟨k - 1, by omega⟩
  rw [F9 k s i (by omega) hm, qB s i (by omega)]
  by_cases h : kD (bt s (i : Int)) = true
  ·rw [if_pos h, ih k (i + 1) (by omega) (by omega), h, Bool.true_and]
  ·have h' : kD (bt s (i : Int)) = false := by simpa using h
   rw [if_neg h, h']
   simp
theorem DJ (s : ByteArray) (hm : s.size ≤ 9223372036854775807) (k : Nat) (hk : s.size < k) : ay.f k s = some (fp s) := K8 s hm s.size k 0 (by omega) hk
theorem tF (w : World) (s : ByteArray) (p n : Nat) : ((w.iter s p).drewN n).iterPos w.heap.size = p := World.iterPos_iter (w.drewN n) s p
theorem pA {w : World} {s : ByteArray} {p : Nat} (h : Below w.heap.size w w) : Below w.heap.size w (w.iter s p) := al h _
theorem vE (c : Int) (h : 128 ≤ c) : kD c = false := by
 unfold kD
 simp
 omega
theorem vA (s : ByteArray) : s.toList = [] ↔ s.size = 0 := by rw [ByteArray.toList_eq]; exact toList_nil s
set_option maxHeartbeats 2000000 in
set_option maxRecDepth 100000 in
theorem Ey (s : ByteArray) (w : World) : Calls Try.prog 104 #[.string s] w fun e w' => e = .returned (.bool (fp s)) ∧ Below w.heap.size w w' := by
 go_enter Try.func104, Try.ntmps104
 go_wp2
 go_loopw [4] (fun c W => ∃ pos nd : Nat, W = (w.iter s pos).drewN nd ∧ pos ≤ s.size ∧ Aside0 (kl s 0 = kl s pos)) (fun _ W => s.size - W.iterPos w.heap.size)
 case atStart => exact ⟨0, 0, rfl, by omega, ⟨rfl⟩⟩
 case round =>
  obtain ⟨pos, nd, rfl, hpos, HA⟩ := hrel
  by_cases hp : pos < s.size
  ·have hnx : ∀ ty, (Instr.next (.pointer (some ⟨w.heap.size, 0, none⟩)) true ty).run Try.prog ((w.iter s pos).drewN nd) = .ok (.tuple #[.bool true, .int .i64 pos, .int .i32 (Utf8.decode s pos).1]) ((w.iter s (pos + (Utf8.decode s pos).2)).drewN nd) := fun ty => run_next_any (w.drewN nd) s pos ty hp
   by_cases ha : (s[pos]'hp).toNat < 128
   ·have hd := decode_ascii s pos hp ha
    rw [hd] at hnx
    have hbt := BY s pos hp
    have hst := qB s pos hp
    cases hok : kD (bt s (pos : Int)) with
    | true =>
     have uQ := ak (show kl s 0 = kl s (pos + 1) by rw [HA.out, hst, hok, Bool.true_and])
     rw [hbt] at hok
     have HOK := ak hok
     clear hok hst hbt hd ha
     go_wp2_with (go_at_call 112; refine (yw _ _).mono ?_; rintro e w' ⟨rfl, ⟨AB, rfl⟩⟩; rw [HOK.out])
     go_roundw
     case rel => exact ⟨pos + 1, nd + AB, rfl, by omega, uQ⟩
     case measure => rw [tF, tF]; omega
    | false =>
     have HF := ak (show fp s = false by unfold fp; rw [HA.out, hst, hok]; rfl)
     rw [hbt] at hok
     have HOK := ak hok
     clear hok hst hbt hd ha
     go_wp2_with (go_at_call 112; refine (yw _ _).mono ?_; rintro e w' ⟨rfl, ⟨AB, rfl⟩⟩; rw [HOK.out])
     go_ret
     exact ⟨by rw [HF.out]; rfl, by repeat (first | exact Below.refl _ _ | apply af | apply pA)⟩
   ·have hd := decode_high s pos hp (by omega)
    have hst := qB s pos hp
    have hok : kD (bt s (pos : Int)) = false := vE _ (by rw [BY s pos hp]; omega)
    have HF := ak (show fp s = false by unfold fp; rw [HA.out, hst, hok]; rfl)
    have HOK := ak (vE ((Utf8.decode s pos).1 : Int) (by omega))
    generalize Utf8.decode s pos = D at hnx HOK
    clear hok hst hd ha
    go_wp2_with (go_at_call 112; refine (yw _ _).mono ?_; rintro e w' ⟨rfl, ⟨AB, rfl⟩⟩; rw [HOK.out])
    go_ret
    exact ⟨by rw [HF.out]; rfl, by repeat (first | exact Below.refl _ _ | apply af | apply pA)⟩
  ·have hnx : ∀ ty, (Instr.next (.pointer (some ⟨w.heap.size, 0, none⟩)) true ty).run Try.prog ((w.iter s pos).drewN nd) = .ok (.tuple #[.bool false]) ((w.iter s pos).drewN nd) := fun ty => run_next_end (w.drewN nd) s pos ty hp
   have hall : kl s 0 = true := by rw [HA.out, vK s pos (by omega)]
   by_cases h0 : s.size = 0
   ·have hn : s.toList = [] := (vA s).2 h0
    have C0 : (!s.toList.isEmpty) = false := by rw [hn]; rfl
    have HF := ak (show fp s = false by unfold fp; rw [h0]; simp)
    clear h0 hall HA hpos hp
    go_wp2
    go_ret
    exact ⟨by rw [HF.out]; rfl, by repeat (first | exact Below.refl _ _ | apply af | apply pA)⟩
   ·have hn : ¬ s.toList = [] := fun h => h0 ((vA s).1 h)
    have C0 : (!s.toList.isEmpty) = true := by cases hh : s.toList <;> simp_all
    have HF := ak (show fp s = decide ((s.size : Int) ≤ 64) by
     unfold fp
     rw [hall, decide_eq_true (show 0 < s.size by omega)]
     simp only [Bool.true_and]
     exact decide_eq_decide.2 (by omega))
    clear h0 hall HA hpos hp
    go_wp2
    go_ret
    exact ⟨by rw [HF.out]; rfl, by repeat (first | exact Below.refl _ _ | apply af | apply pA)⟩
def e6.f (a0 : ByteArray) : Option Bool := some (fp a0)
theorem e6.calls (a0 : ByteArray) (r : Bool) (w : World) (h : e6.f a0 = some r) : Calls Try.prog 104 #[.string a0] w fun e w' => e = .returned (.bool r) ∧ Below w.heap.size w w' := by
 obtain rfl := Option.some.inj h
 exact Ey a0 w
end Go.Proofs.Ytemhalnhbgkbcaa.V
end

