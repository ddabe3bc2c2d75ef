/- The law BlockPlays for every input: texts of ours, put together (part 4 of 17). No further condition. -/
import Derived.Test.YtemhalnhbgkbcaaCBlockPlaysx2
import Derived.Test.YtemhalnhbgkbcaaProg
import Derived.Below
import Derived.Deep.Draws
import Derived.Deep.AppendLies
import Derived.Maps.AppendAt
import Derived.OwnWalk
import Derived.Laws.BytesArg
import Derived.Laws.MakeOwn
import Derived.Laws.OwnMore
import Derived.Deep.OwnRows
import Derived.Tactics
import Derived.Lib.ConvBytes
import Derived.Laws.Slices
import Derived.WalkKit
import Derived.KernelRfl
import Derived.RowKit3
import Derived.Deep.LoopGhost
import Derived.Deep.QuietTactic
import Derived.BigQuiet
import Derived.WideLaws
import Derived.Deep.DeepCutAuto
import Derived.Deep.CutBlock
import Derived.Deep.RegionHeld3
import Derived.Laws.Rows
import Derived.Lib.AppendStr
import Derived.ArgAppend
import Derived.Laws.IdiomCopy
import Derived.OrdersHeld
import Derived.Laws.BitsLemmas
import Derived.RowKit
import Derived.Test.YtemhalnhbgkbcaaCBlockPlaysw0
import Derived.Test.YtemhalnhbgkbcaaCBlockPlaysw1
import Derived.Laws.BitsAllLaws
import Derived.Laws.Bits64
import Derived.Laws.StructEq
import Derived.Stop.BytesEq
import Derived.Laws.Tables
import Derived.Laws.CopyOwn
import Derived.Outline
import Derived.MapKept
import Derived.ChangeMaps4
set_option linter.unusedVariables false
set_option linter.unusedSimpArgs false
open Go.RowKit Go.Proofs.YtemhalnhbgkbcaaW.PrintWords Go.Proofs.YtemhalnhbgkbcaaW.PrintLast Go.Proofs.YtemhalnhbgkbcaaW.PrintMore Go.Proofs.Ytemhalnhbgkbcaa.Z
section
namespace Go.Proofs.Ytemhalnhbgkbcaa.V
attribute [local go_sem] dA dy ed ec cP cN dz dx
def QT : Option Int → Value
 | none => .nilIface
 | some c => .iface 0 (.int .i64 c)
theorem bf : QT none = .nilIface := rfl
theorem bd (c : Int) : QT (some c) = .iface 0 (.int .i64 c) := rfl
theorem ye : (Try.prog.info? 3).map (fun i => (i.zero, i.size, i.bytes)) = some (some (.int .i64 0), 1, 8) := by kernel_rfl
theorem C3 : (Try.prog.info? 5).map (fun i => (i.zero, i.size, i.bytes)) = some (some (.int .u8 0), 1, 1) := by kernel_rfl
theorem I2 : (Try.prog.info? 76).map (fun i => (i.zero, i.size, i.bytes)) = some (some (.agg #[(.string ⟨#[]⟩), (.string ⟨#[]⟩)]), 2, 32) := by kernel_rfl
structure S7 where
 f0 : Int
 f1 : Int
 f2 : Bool
 f3 : Int
def k7 : Kd S7 := Kd.iso (Kd.pair (Kd.int .i64) (Kd.pair (Kd.int .i64) (Kd.pair Kd.bool (Kd.int .u8)))) (fun x : S7 => (x.f0, x.f1, x.f2, x.f3))
structure S76 where
 f0 : ByteArray
 f1 : ByteArray
def Tu : S76 := ⟨(⟨#[]⟩ : ByteArray), (⟨#[]⟩ : ByteArray)⟩
def ia : Kd S76 := Kd.iso (Kd.pair Kd.string Kd.string) (fun x : S76 => (x.f0, x.f1))
theorem yT {w : World} {x : S76} {cs : List Value} (h : ia.K w x cs) : cs = [.string x.f0, .string x.f1] := by
 obtain ⟨_, _, rfl, rfl, rfl⟩ := h
 exact rfl
theorem yc (w : World) (base : Nat) (ok : Nat → Prop) (x : S76)  : ia.M w base ok x [.string x.f0, .string x.f1] := ⟨[.string x.f0], [.string x.f1], rfl, rfl, rfl⟩
def a9 (xs : List S76) (i : Int) : S76 := xs.getD i.toNat Tu
theorem sN {w : World} {A : Option Addr} {n : Nat} {xs : List S76} (h : Kd.C ia w A n xs) (i : Int) (h0 : 0 ≤ i) (h1 : i < n) : ∃ ad , A = some ad ∧ w.cell? (ad.add (i.toNat * 2)) = some (.string (a9 xs i).f0) ∧ w.cell? ⟨(ad.add (i.toNat * 2)).block, (ad.add (i.toNat * 2)).off + 1, none⟩ = some (.string (a9 xs i).f1) := by
 obtain ⟨ad, c, e, _, hK, jC⟩ := Kd.C_get h Tu i h0 h1
 have hc : ∀ j u, c[j]? = some u → w.cell? (ad.add (i.toNat * 2 + j)) = some u := jC
 obtain rfl := yT hK
 exact ⟨ad, e, hc 0 _ rfl, by rw [← nw _ _ 1 (by omega)]; exact hc 1 _ rfl⟩
structure S85 where
 f0 : ByteArray
 f1 : ByteArray
def Tt : S85 := ⟨(⟨#[]⟩ : ByteArray), (⟨#[]⟩ : ByteArray)⟩
def lf : Kd S85 := Kd.iso (Kd.pair Kd.string Kd.string) (fun x : S85 => (x.f0, x.f1))
theorem DV {w : World} {x : S85} {cs : List Value} (h : lf.K w x cs) : cs = [.string x.f0, .string x.f1] := by
 obtain ⟨_, _, rfl, rfl, rfl⟩ := h
 exact rfl
theorem BK (w : World) (base : Nat) (ok : Nat → Prop) (x : S85)  : lf.M w base ok x [.string x.f0, .string x.f1] := ⟨[.string x.f0], [.string x.f1], rfl, rfl, rfl⟩
def dE (xs : List S85) (i : Int) : S85 := xs.getD i.toNat Tt
theorem nv {w : World} {A : Option Addr} {n : Nat} {xs : List S85} (h : Kd.C lf w A n xs) (i : Int) (h0 : 0 ≤ i) (h1 : i < n) : ∃ ad , A = some ad ∧ w.cell? (ad.add (i.toNat * 2)) = some (.string (dE xs i).f0) ∧ w.cell? ⟨(ad.add (i.toNat * 2)).block, (ad.add (i.toNat * 2)).off + 1, none⟩ = some (.string (dE xs i).f1) := by
 obtain ⟨ad, c, e, _, hK, jC⟩ := Kd.C_get h Tt i h0 h1
 have hc : ∀ j u, c[j]? = some u → w.cell? (ad.add (i.toNat * 2 + j)) = some u := jC
 obtain rfl := DV hK
 exact ⟨ad, e, hc 0 _ rfl, by rw [← nw _ _ 1 (by omega)]; exact hc 1 _ rfl⟩
end Go.Proofs.Ytemhalnhbgkbcaa.V
end

section
namespace Go.Proofs.Ytemhalnhbgkbcaa.V
theorem wrap_u64 (n : Int) (h0 : 0 ≤ n) (h : n < 18446744073709551616) : IntKind.u64.wrap n = n := by rw [IntKind.wrap_u64]; omega
theorem wW (n : Nat) (h : n < 18446744073709551616) : IntKind.u64.wrap (n : Int) = (n : Int) := wrap_u64 _ (by omega) (by omega)
theorem iC (n : Int) (h0 : -9223372036854775808 ≤ n) (h : n < 9223372036854775808) : wrap64 n = n := by unfold wrap64; omega
theorem rT (i : Nat) (h : i < 64) : (2 : Nat) ^ i < 18446744073709551616 :=
 Nat.lt_of_lt_of_le (Nat.pow_lt_pow_right (by omega) h) (by decide)
end Go.Proofs.Ytemhalnhbgkbcaa.V
end

section
namespace Go.Proofs.Ytemhalnhbgkbcaa.V
theorem wP : ∀ (xs ys : List Int), xs.length = ys.length → ((List.range xs.length).all fun i => xs.getD i 0 == ys.getD i 0) = (xs == ys)
 | [], [], _ => rfl
 | x :: xs, y :: ys, h => by
  have ih := wP xs ys (by simpa using h)
  rw [List.length_cons, List.range_succ_eq_map, List.all_cons, List.all_map]
  simp only [List.getD_cons_zero, Function.comp_def, List.getD_cons_succ, ih]
  simp [List.cons_beq_cons]
 | [], _ :: _, h => by simp at h
 | _ :: _, [], h => by simp at h
section
variable {P : Program} (w : World)
theorem yP (k : IntKind) (d : Nat) (t e : TypeId) (n : Nat) (ht : P.underlying t = some (.array n e)) (he : P.underlying e = some (.int k)) (hsz : ∀ w, (sizeOf e).run P w = .ok 1 w)
  (xs ys : List Int) (hx : xs.length = n) (hy : ys.length = n) :
  (Op.equalIn (d + 2) t (.agg (xs.map (Value.int k)).toArray) (.agg (ys.map (Value.int k)).toArray)).run P w = .ok (xs == ys) w := by
 rw [← wP xs ys (hx.trans hy.symm), hx, List.range_eq_range', Op.equalIn]
 simp only [Sem.run_bind, run_underlying ht, Result.andThen_ok, hsz, Std.Legacy.Range.forIn_eq_forIn_range', Std.Legacy.Range.size, Nat.sub_zero, Nat.add_sub_cancel, Nat.div_one]
 have hl : ∀ i ∈ List.range' 0 n 1, i < n := fun i hi => by simpa using (List.mem_range'_1.1 hi).2
 generalize List.range' 0 n 1 = l at hl ⊢
 induction l with
 | nil => simp
 | cons i l ih =>
  have hi : i < n := hl i (by simp)
  have px : (part e (xs.map (Value.int k)).toArray (i * 1)).run P w = .ok (.int k (xs.getD i 0)) w := by
   simp [part, isAgg, run_underlying he, List.getD, List.getElem?_eq_getElem (show i < xs.length by omega)]
  have py : (part e (ys.map (Value.int k)).toArray (i * 1)).run P w = .ok (.int k (ys.getD i 0)) w := by
   simp [part, isAgg, run_underlying he, List.getD, List.getElem?_eq_getElem (show i < ys.length by omega)]
  have pe : (Op.equalIn (d + 1) e (.int k (xs.getD i 0)) (.int k (ys.getD i 0))).run P w = .ok (xs.getD i 0 == ys.getD i 0) w := by
   rw [run_equalIn_int w d e k k _ _ he]
  simp only [List.forIn_cons, Sem.run_bind, px, py, pe, Result.andThen_ok, List.all_cons]
  cases hb : (xs.getD i 0 == ys.getD i 0)
  ·simp
  ·simp only [Bool.not_true, Bool.false_eq_true, if_false, Sem.run_pure, Result.andThen_ok, Bool.true_and]
   exact ih fun j hj => hl j (by simp [hj])
end
end Go.Proofs.Ytemhalnhbgkbcaa.V
end

section
namespace Go.Proofs.Ytemhalnhbgkbcaa.V
def aX (W : World) (g : Nat) (cs : List Value) (t : Nat) : Prop := W.heap[g]? = some (.cells cs.toArray t (0, 0))
theorem aX.cell {W : World} {g : Nat} {cs : List Value} {t : Nat} (h : aX W g cs t) (j : Nat) (v : Value) (hv : cs[j]? = some v) : W.cell? ⟨g, j, none⟩ = some v := by
 rw [cell_of_row W g j _ t (0, 0) h]
 simpa using hv
theorem aX.frozen {W : World} {g : Nat} {cs : List Value} {t : Nat} (h : aX W g cs t) (j : Nat) : W.frozen? ⟨g, j, none⟩ = false := frozen_of_row W g j _ t h
theorem aX.lt {W : World} {g : Nat} {cs : List Value} {t : Nat} (h : aX W g cs t) : g < W.heap.size := (Array.getElem?_eq_some_iff.1 h).1
theorem aX.below {W W1 : World} {g : Nat} {cs : List Value} {t : Nat} (h : aX W g cs t) (hb : Below W.heap.size W W1) : aX W1 g cs t := (hb.block g h.lt).trans h
theorem aX.grown {W W1 : World} {g : Nat} {cs : List Value} {t : Nat} (h : aX W g cs t) {row : Option Nat} (hg : W.grownBy W1 row) (hne : some g ≠ row) : aX W1 g cs t := (hg.block g h.lt hne).trans h
theorem aX.drewN {W : World} {g : Nat} {cs : List Value} {t : Nat} (h : aX W g cs t) (n : Nat) : aX (W.drewN n) g cs t := h
theorem aX.alloc {W : World} {g : Nat} {cs : List Value} {t : Nat} (h : aX W g cs t) (o : Obj) : aX (W.alloc o) g cs t := h.below (af (Below.refl _ _) o)
theorem aX.set {W : World} {g : Nat} {cs : List Value} {t : Nat} (h : aX W g cs t) (j : Nat) (v : Value) : aX (W.setCell ⟨g, j, none⟩ v) g (cs.set j v) t := by
 have := heap_setCell_same W g j _ t v h
 unfold aX
 rw [this]
 congr 2
 simp
theorem aX.far {W : World} {g : Nat} {cs : List Value} {t : Nat} (h : aX W g cs t) {p : Addr} (hne : g ≠ p.block) (v : Value) : aX (W.setCell p v) g cs t := (Below.heap_setCell W p v g hne).trans h
theorem aX.ne_row {W : World} {g : Nat} {cs : List Value} {t : Nat} (h : aX W g cs t) {α : Type} {d : Kd α} {e base : Nat} {ok : Nat → Prop} {v : Value} {xs : List α} (hr : d.R e W base ok v xs) (ht : e ≠ t) : some g ≠ v.ownBlock := Kd.R_ne hr h ht
theorem aX.ne {W : World} {g g' : Nat} {cs cs' : List Value} {t t' : Nat} (h : aX W g cs t) (h' : aX W g' cs' t') (ht : t ≠ t') : g ≠ g' := by
 rintro rfl
 unfold aX at h h'
 rw [h] at h'
 injection h' with h'
 injection h' with _ h'
 exact ht h'
section
variable {P : Program} {ops : Array Oper} {rest : List Oper} {o : Oper} {a : Act} {w : World} {Q : Exit → Act → World → Prop}
theorem bP (w : World) (g j : Nat) (v : Value) : w.grownBy (w.setCell ⟨g, j, none⟩ v) (some g) :=
 ⟨rfl, rfl, rfl, by simp [World.setCell], fun k _ hk => Below.heap_setCell _ _ _ _ (fun e => hk (by rw [e]))⟩
theorem xd (w : World) (g : Nat) (cs : Array Value) : w.grownBy (w.setRow g cs) (some g) :=
 ⟨rfl, rfl, rfl, by simp, fun k _ hk => setRow_other w g k cs (fun e => hk (by rw [e]))⟩
theorem aV (hgd : o.guard = none) (ty : TypeId) (x : Operand) (ho : o.op = .box ty x) (cs : List Value) (hx : a.eval x = .agg cs.toArray)
  (h : ∀ g W1, w.heap.size ≤ g → aX W1 g cs ty → Below w.heap.size w W1 → wpList P ops Q rest (a.put o.dst (.pointer (some ⟨g, 0, none⟩))) W1) : wpList P ops Q (o :: rest) a w := by
 refine wpList_plain hgd fun K hK => ?_
 have := hK _ _ (h w.heap.size (w.alloc (.cells cs.toArray ty)) (Nat.le_refl _) (heap_alloc_new w _) (af (Below.refl _ _) _))
 unfold Oper.wp execOp
 simp only [ho, hx, Instr.box, newVar, newRow, newObj, Value.cells]
 exact this
theorem G2 (hgd : o.guard = none) (ty : TypeId) (ho : o.op = .alloc ty) (cs : List Value) (hz : ∀ w, (zeroValue ty).run P w = .ok (.agg cs.toArray) w)
  (h : ∀ g W1, w.heap.size ≤ g → aX W1 g cs ty → Below w.heap.size w W1 → wpList P ops Q rest (a.put o.dst (.pointer (some ⟨g, 0, none⟩))) W1) : wpList P ops Q (o :: rest) a w := by
 refine wpList_plain hgd fun K hK => ?_
 have := hK _ _ (h w.heap.size (w.alloc (.cells cs.toArray ty)) (Nat.le_refl _) (heap_alloc_new w _) (af (Below.refl _ _) _))
 unfold Oper.wp execOp
 simp only [ho, Instr.alloc, newVar, newRow, newObj, Value.cells, Sem.run_bind, hz, Result.andThen_ok]
 exact this
theorem aH (N : Option Tmp) (hN : o.dst = N) (hgd : o.guard = none) (ty : TypeId) (ho : o.op = .alloc ty) (cs : List Value) (hz : ∀ w, (zeroValue ty).run P w = .ok (.agg cs.toArray) w)
  (h : ∀ g W1, w.heap.size ≤ g → aX W1 g cs ty → Below w.heap.size w W1 → wpList P ops Q rest (a.put o.dst (.pointer (some ⟨g, 0, none⟩))) W1) : wpList P ops Q (o :: rest) a w := G2 hgd ty ho cs hz h
theorem aN (hgd : o.guard = none) (ty : TypeId) (x : Operand) (ho : o.op = .load ty x) (g : Nat) (hx : a.eval x = .pointer (some ⟨g, 0, none⟩)) (t : Nat) (cs : List Value) (d : TypeDesc) (hb : aX w g cs t)
  (hu : P.underlying ty = some d) (hd : (match d with | .struct _ | .array _ _ => true | _ => false) = true) (n : Nat) (hi : (P.info? ty).map (·.size) = some n) (hn : cs.length = n)
  (h : wpList P ops Q rest (a.put o.dst (.agg cs.toArray)) w) : wpList P ops Q (o :: rest) a w :=
 wpList_load_row hgd ty x ho g hx t cs.toArray (0, 0) d hb hu hd (by rw [hi]; simp [hn]) h
theorem rX (w : World) (g t off : Nat) (ty : TypeId) (cs part : List Value) (d : TypeDesc) (hb : aX w g cs t) (hp : ∀ j v, part[j]? = some v → cs[off + j]? = some v)
  (hu : P.underlying ty = some d) (hd : (match d with | .struct _ | .array _ _ => true | _ => false) = true) (hi : (P.info? ty).map (·.size) = some part.length) :
  (loadVar ty ⟨g, off, none⟩).run P w = .ok (.agg part.toArray) w := by
 have hl : (loadCells ⟨g, off, none⟩ part.length).run P w = .ok part.toArray w :=
  run_loadCells_list (P := P) w ⟨g, off, none⟩ part (fun j v hv => by
   rw [Ri]
   exact hb.cell _ _ (hp j v hv))
 cases hq : P.info? ty with
 | none => simp [hq] at hi
 | some i =>
  have hs : i.size = part.length := by simpa [hq] using hi
  cases d <;> simp at hd <;> simp [loadVar, isAgg, run_underlying hu, sizeOf, typeInfo, hq, hs, hl]
theorem aY {o : Oper} {a : Act} {w : World} (ty : TypeId) (x : Operand) (ho : o.op = .load ty x) (g : Nat) (hx : a.eval x = .pointer (some ⟨g, 0, none⟩)) (t : Nat) (cs : List Value) (d : TypeDesc) (hb : aX w g cs t)
  (hu : P.underlying ty = some d) (hd : (match d with | .struct _ | .array _ _ => true | _ => false) = true) (hi : (P.info? ty).map (·.size) = some cs.length) :
  (execOp a.eval o).run P w = .ok (.value (.agg cs.toArray)) w := by
 unfold execOp
 simp only [ho, hx, Instr.loadAt, Instr.sureAddr, Sem.run_bind, Sem.run_pure, Result.andThen_ok, rX w g t 0 ty cs cs d hb (fun j v hv => by rw [Nat.zero_add]; exact hv) hu hd hi]
theorem fN (hgd : o.guard = none) (ty : TypeId) (x : Operand) (ho : o.op = .load ty x) (g off : Nat) (hx : a.eval x = .pointer (some ⟨g, off, none⟩)) (t : Nat) (cs part : List Value) (d : TypeDesc) (hb : aX w g cs t)
  (hp : ∀ j v, part[j]? = some v → cs[off + j]? = some v)
  (hu : P.underlying ty = some d) (hd : (match d with | .struct _ | .array _ _ => true | _ => false) = true) (hi : (P.info? ty).map (·.size) = some part.length)
  (h : wpList P ops Q rest (a.put o.dst (.agg part.toArray)) w) : wpList P ops Q (o :: rest) a w := by
 refine wpList_plain hgd fun K hK => ?_
 unfold Oper.wp execOp
 simp only [ho, hx, Instr.loadAt, Instr.sureAddr, Sem.run_bind, Sem.run_pure, Result.andThen_ok, rX w g t off ty cs part d hb hp hu hd hi]
 exact hK _ _ h
theorem a7 (hgd : o.guard = none) (ty : TypeId) (x y : Operand) (ho : o.op = .store ty x y) (g : Nat) (cs : List Value) (hx : a.eval x = .pointer (some ⟨g, 0, none⟩)) (hy : a.eval y = .agg cs.toArray)
  (t : Nat) (td : List Value) (hb : aX w g td t) (n : Nat) (hi : (P.info? ty).map (·.size) = some n) (hn : cs.length = n) (hold : td.length = n) (h1 : ∀ v ∈ cs, v.oneCell' = true)
  (h : ∀ W1, aX W1 g cs t → w.grownBy W1 (some g) → wpList P ops Q rest (a.put o.dst undef) W1) : wpList P ops Q (o :: rest) a w :=
 wpList_store_row hgd ty x y ho g cs.toArray hx hy t td.toArray hb (by rw [hi]; simp [hn]) (by simp; omega) (by rw [Array.all_eq_true_iff_forall_mem]; intro v hv; exact h1 v (by simpa using hv))
  (h _ (setRow_heap w g td.toArray cs.toArray t (0, 0) hb) (xd w g _))
theorem gz (hgd : o.guard = none) (t : TypeId) (parts : Array (Nat × Operand)) (ho : o.op = .build t parts) (cs : List Value)
  (hf : P.built t (parts.map fun (i, x) => (i, a.eval x)).toList = some cs.toArray) (h : wpList P ops Q rest (a.put o.dst (.agg cs.toArray)) w) : wpList P ops Q (o :: rest) a w := by
 refine wpList_build hgd t parts ho (by rw [hf]; rfl) ?_
 rw [hf]
 exact h
theorem CN (w : World) (t e : TypeId) (n : Nat) (k : IntKind) (ht : P.underlying t = some (.array n e)) (he : P.underlying e = some (.int k)) (hsz : ∀ w, (sizeOf e).run P w = .ok 1 w) (xs : List Int) (hn : xs.length = n) (i : Nat) (hi : i < n) :
  (Instr.index t (.agg (xs.map (Value.int k)).toArray) (.int .i64 (i : Int))).run P w = .ok (.int k (xs.getD i 0)) w := by
 have hi' : i < xs.length := by omega
 simp [Instr.index, asIntOf, run_underlying ht, hsz, hi, part, isAgg, run_underlying he, List.getElem?_eq_getElem hi', List.getD]
end
end Go.Proofs.Ytemhalnhbgkbcaa.V
end

section
namespace Go.Proofs.Ytemhalnhbgkbcaa.V
attribute [local go_sem] dA dy ed ec cP cN dz dx
def gO.f (a0 : Int) : Option (Bool) := if a0 ≥ 0 then (some (decide (a0 < 64))) else (some false)
set_option maxHeartbeats 8000000 in
set_option maxRecDepth 100000 in
theorem gO.calls (a0 : Int) (r : Bool) (w : World) (h : gO.f a0 = some r) :
  Calls Try.prog 64 #[.int .i64 a0] w fun e w' => e = .returned (.bool r) ∧ Drawn0 w w' := by
 have H : (if a0 ≥ 0 then (some (decide (a0 < 64))) else (some false)) = some r := h
 clear h
 by_cases c2 : a0 ≥ 0
 ·rw [if_pos c2] at H
  have lW : decide (0 ≤ a0) = true := decide_eq_true c2
  clear c2
  obtain rfl := Option.some.inj H
  go_enter Try.func64, Try.ntmps64
  go_wp2
  go_ret
  exact ⟨by first | rfl | (simp; done) | (simp [*]; done), by repeat (first | exact Drawn0.refl _ | apply Drawn0.step)⟩
 ·rw [if_neg c2] at H
  have lW : decide (0 ≤ a0) = false := decide_eq_false c2
  clear c2
  obtain rfl := Option.some.inj H
  go_enter Try.func64, Try.ntmps64
  go_wp2
  go_ret
  exact ⟨by first | rfl | (simp; done) | (simp [*]; done), by repeat (first | exact Drawn0.refl _ | apply Drawn0.step)⟩
end Go.Proofs.Ytemhalnhbgkbcaa.V
end

section
namespace Go.Proofs.Ytemhalnhbgkbcaa.V
attribute [local go_sem] dA dy ed ec cP cN dz dx
def jZ.f (a0 : Int) (a1 : Int) : Option (Bool) := (gO.f a1).bind fun uU => (if uU = true then (if 0 ≤ a1 then (some ((Go.bits .and .u64 (shr .u64 a0 a1) 1) == 1)) else (none)) else (some false))
set_option maxHeartbeats 8000000 in
set_option maxRecDepth 100000 in
theorem jZ.calls (a0 : Int) (a1 : Int) (r : Bool) (w : World) (h : jZ.f a0 a1 = some r) :
  Calls Try.prog 20 #[.int .u64 a0, .int .i64 a1] w fun e w' => e = .returned (.bool r) ∧ Drawn0 w w' := by
 have H : ((gO.f a1).bind fun uU => (if uU = true then (if 0 ≤ a1 then (some ((Go.bits .and .u64 (shr .u64 a0 a1) 1) == 1)) else (none)) else (some false))) = some r := h
 clear h
 replace H := Option.bind_eq_some_iff.mp H
 obtain ⟨uU, nJ, H⟩ := H
 replace H : (if uU = true then (if 0 ≤ a1 then (some ((Go.bits .and .u64 (shr .u64 a0 a1) 1) == 1)) else (none)) else (some false)) = some r := H
 have A3 := ak nJ
 clear nJ
 by_cases c4 : uU = true
 ·subst c4
  have H1 : (if 0 ≤ a1 then (some ((Go.bits .and .u64 (shr .u64 a0 a1) 1) == 1)) else (none)) = some r := by rw [if_pos rfl] at H; exact H
  clear H
  have H := H1
  clear H1
  by_cases c5 : 0 ≤ a1
  ·rw [if_pos c5] at H
   have zb := eq_true c5
   have ah6 : decide (0 ≤ a1) = true := decide_eq_true c5
   clear c5
   obtain ⟨Qr, BP⟩ : ∃ j_ : Int, (shr .u64 a0 a1) = j_ := ⟨_, rfl⟩
   replace H : (some ((Go.bits .and .u64 (Qr) 1) == 1)) = some r := by first | (rw [BP] at H; exact H) | (simp only [BP] at H ⊢; exact H)
   (try rw [BP] at A3)
   have ad9 : (a0 / 2 ^ min a1.toNat 64) = Qr := BP
   have ad8 : a1 ≤ 64 → (a0 / 2 ^ a1.toNat) = Qr := Cg BP
   obtain rfl := Option.some.inj H
   go_enter Try.func20, Try.ntmps20
   go_wp2_with (first | ((with_reducible refine dp (f := 64) rfl ?_); refine fQ (some 6) rfl rfl Try.func64 (by kernel_rfl) rfl #[.int .i64 a1] rfl (by (try simp only [List.map_toArray, List.map_cons, List.map_nil]); first | done | rfl | (simp only [List.length_drop, List.length_take]; rfl)) ?_; (with_reducible refine (gO.calls a1 true _ A3.out).mono ?_); rintro e w' ⟨rfl, ⟨nd, rfl⟩⟩; refine ⟨_, rfl, ?_⟩))
   go_ret
   exact ⟨by first | rfl | (simp; done) | (simp only [← BP] <;> (first | rfl | simp)) | (simp [*]; done), by repeat (first | exact Drawn0.refl _ | apply Drawn0.step)⟩
  ·rw [if_neg c5] at H
   exact absurd H (by simp)
 ·replace c4 := Bool.eq_false_iff.mpr c4
  subst c4
  have H1 : (some false) = some r := by rw [if_neg (show ¬ (false = true) by decide)] at H; exact H
  clear H
  have H := H1
  clear H1
  obtain rfl := Option.some.inj H
  go_enter Try.func20, Try.ntmps20
  go_wp2_with (first | ((with_reducible refine dp (f := 64) rfl ?_); refine fQ (some 6) rfl rfl Try.func64 (by kernel_rfl) rfl #[.int .i64 a1] rfl (by (try simp only [List.map_toArray, List.map_cons, List.map_nil]); first | done | rfl | (simp only [List.length_drop, List.length_take]; rfl)) ?_; (with_reducible refine (gO.calls a1 false _ A3.out).mono ?_); rintro e w' ⟨rfl, ⟨nd, rfl⟩⟩; refine ⟨_, rfl, ?_⟩))
  go_ret
  exact ⟨by first | rfl | (simp; done) | (simp [*]; done), by repeat (first | exact Drawn0.refl _ | apply Drawn0.step)⟩
end Go.Proofs.Ytemhalnhbgkbcaa.V
end

section
namespace Go.Proofs.Ytemhalnhbgkbcaa.V
attribute [local go_sem] dA dy ed ec cP cN dz dx
def jH.f (a0 : Int) : Option (Int) := if 0 ≤ a0 then (some (shl .u64 1 a0)) else (none)
set_option maxHeartbeats 8000000 in
set_option maxRecDepth 100000 in
theorem jH.calls (a0 : Int) (r : Int) (w : World) (h : jH.f a0 = some r) :
  Calls Try.prog 65 #[.int .i64 a0] w fun e w' => e = .returned (.int .u64 r) ∧ Drawn0 w w' := by
 have H : (if 0 ≤ a0 then (some (shl .u64 1 a0)) else (none)) = some r := h
 clear h
 by_cases c2 : 0 ≤ a0
 ·rw [if_pos c2] at H
  have lW := eq_true c2
  have uG : decide (0 ≤ a0) = true := decide_eq_true c2
  clear c2
  obtain ⟨Cs, uE⟩ : ∃ j_ : Int, (shl .u64 1 a0) = j_ := ⟨_, rfl⟩
  replace H : (some Cs) = some r := by first | (rw [uE] at H; exact H) | (simp only [uE] at H ⊢; exact H)
  have Lm : (IntKind.u64.wrap (1 * 2 ^ min a0.toNat 64)) = Cs := uE
  have Sk : a0 ≤ 64 → (IntKind.u64.wrap (1 * 2 ^ a0.toNat)) = Cs := IB uE
  have ae1 : (IntKind.u64.wrap (2 ^ min a0.toNat 64)) = Cs := by have h_ := Lm; rw [Int.one_mul] at h_; exact h_
  have ae0 : a0 ≤ 64 → (IntKind.u64.wrap (2 ^ a0.toNat)) = Cs := fun Ur => by have h_ := Sk Ur; rw [Int.one_mul] at h_; exact h_
  obtain rfl := Option.some.inj H
  go_enter Try.func65, Try.ntmps65
  go_wp2
  go_ret
  exact ⟨by first | rfl | (simp; done) | (simp only [← uE] <;> (first | rfl | simp)) | (simp [*]; done), by repeat (first | exact Drawn0.refl _ | apply Drawn0.step)⟩
 ·rw [if_neg c2] at H
  exact absurd H (by simp)
end Go.Proofs.Ytemhalnhbgkbcaa.V
end

section
namespace Go.Proofs.Ytemhalnhbgkbcaa.V
attribute [local go_sem] dA dy ed ec cP cN dz dx
def kx.f (a0 : Int) (a1 : Int) : Option (Int) := (gO.f a1).bind fun uT => (if uT = true then ((jH.f a1).bind fun oq => (some (Go.bits .or .u64 a0 oq))) else (some a0))
set_option maxHeartbeats 8000000 in
set_option maxRecDepth 100000 in
theorem kx.calls (a0 : Int) (a1 : Int) (r : Int) (w : World) (h : kx.f a0 a1 = some r) :
  Calls Try.prog 21 #[.int .u64 a0, .int .i64 a1] w fun e w' => e = .returned (.int .u64 r) ∧ Drawn0 w w' := by
 have H : ((gO.f a1).bind fun uT => (if uT = true then ((jH.f a1).bind fun oq => (some (Go.bits .or .u64 a0 oq))) else (some a0))) = some r := h
 clear h
 replace H := Option.bind_eq_some_iff.mp H
 obtain ⟨uT, nJ, H⟩ := H
 replace H : (if uT = true then ((jH.f a1).bind fun oq => (some (Go.bits .or .u64 a0 oq))) else (some a0)) = some r := H
 have A3 := ak nJ
 clear nJ
 by_cases c4 : uT = true
 ·subst c4
  have H1 : ((jH.f a1).bind fun oq => (some (Go.bits .or .u64 a0 oq))) = some r := by rw [if_pos rfl] at H; exact H
  clear H
  have H := H1
  clear H1
  replace H := Option.bind_eq_some_iff.mp H
  obtain ⟨oq, uu, H⟩ := H
  replace H : (some (Go.bits .or .u64 a0 oq)) = some r := H
  have A5 := ak uu
  clear uu
  obtain rfl := Option.some.inj H
  go_enter Try.func21, Try.ntmps21
  go_wp2_with (first | ((with_reducible refine dp (f := 64) rfl ?_); refine fQ (some 6) rfl rfl Try.func64 (by kernel_rfl) rfl #[.int .i64 a1] rfl (by (try simp only [List.map_toArray, List.map_cons, List.map_nil]); first | done | rfl | (simp only [List.length_drop, List.length_take]; rfl)) ?_; (with_reducible refine (gO.calls a1 true _ A3.out).mono ?_); rintro e w' ⟨rfl, ⟨nd, rfl⟩⟩; refine ⟨_, rfl, ?_⟩) | ((with_reducible refine dp (f := 65) rfl ?_); refine fQ (some 11) rfl rfl Try.func65 (by kernel_rfl) rfl #[.int .i64 a1] rfl (by (try simp only [List.map_toArray, List.map_cons, List.map_nil]); first | done | rfl | (simp only [List.length_drop, List.length_take]; rfl)) ?_; (with_reducible refine (jH.calls a1 oq _ A5.out).mono ?_); rintro e w' ⟨rfl, ⟨nd, rfl⟩⟩; refine ⟨_, rfl, ?_⟩))
  go_ret
  exact ⟨by first | rfl | (simp; done) | (simp [*]; done), by repeat (first | exact Drawn0.refl _ | apply Drawn0.step)⟩
 ·replace c4 := Bool.eq_false_iff.mpr c4
  subst c4
  have H1 : (some a0) = some r := by rw [if_neg (show ¬ (false = true) by decide)] at H; exact H
  clear H
  have H := H1
  clear H1
  obtain rfl := Option.some.inj H
  go_enter Try.func21, Try.ntmps21
  go_wp2_with (first | ((with_reducible refine dp (f := 64) rfl ?_); refine fQ (some 6) rfl rfl Try.func64 (by kernel_rfl) rfl #[.int .i64 a1] rfl (by (try simp only [List.map_toArray, List.map_cons, List.map_nil]); first | done | rfl | (simp only [List.length_drop, List.length_take]; rfl)) ?_; (with_reducible refine (gO.calls a1 false _ A3.out).mono ?_); rintro e w' ⟨rfl, ⟨nd, rfl⟩⟩; refine ⟨_, rfl, ?_⟩))
  go_ret
  exact ⟨by first | rfl | (simp; done) | (simp [*]; done), by repeat (first | exact Drawn0.refl _ | apply Drawn0.step)⟩
end Go.Proofs.Ytemhalnhbgkbcaa.V
end

section
namespace Go.Proofs.Ytemhalnhbgkbcaa.V
attribute [local go_sem] dA dy ed ec cP cN dz dx
def sM.f (a0 : Int) (a1 : Int) : Option (Int) := (gO.f a1).bind fun uS => (if uS = true then ((jH.f a1).bind fun om => (some (Go.bits .andNot .u64 a0 om))) else (some a0))
set_option maxHeartbeats 8000000 in
set_option maxRecDepth 100000 in
theorem sM.calls (a0 : Int) (a1 : Int) (r : Int) (w : World) (h : sM.f a0 a1 = some r) :
  Calls Try.prog 23 #[.int .u64 a0, .int .i64 a1] w fun e w' => e = .returned (.int .u64 r) ∧ Drawn0 w w' := by
 have H : ((gO.f a1).bind fun uS => (if uS = true then ((jH.f a1).bind fun om => (some (Go.bits .andNot .u64 a0 om))) else (some a0))) = some r := h
 clear h
 replace H := Option.bind_eq_some_iff.mp H
 obtain ⟨uS, nJ, H⟩ := H
 replace H : (if uS = true then ((jH.f a1).bind fun om => (some (Go.bits .andNot .u64 a0 om))) else (some a0)) = some r := H
 have A3 := ak nJ
 clear nJ
 by_cases c4 : uS = true
 ·subst c4
  have H1 : ((jH.f a1).bind fun om => (some (Go.bits .andNot .u64 a0 om))) = some r := by rw [if_pos rfl] at H; exact H
  clear H
  have H := H1
  clear H1
  replace H := Option.bind_eq_some_iff.mp H
  obtain ⟨om, uu, H⟩ := H
  replace H : (some (Go.bits .andNot .u64 a0 om)) = some r := H
  have A5 := ak uu
  clear uu
  obtain rfl := Option.some.inj H
  go_enter Try.func23, Try.ntmps23
  go_wp2_with (first | ((with_reducible refine dp (f := 64) rfl ?_); refine fQ (some 6) rfl rfl Try.func64 (by kernel_rfl) rfl #[.int .i64 a1] rfl (by (try simp only [List.map_toArray, List.map_cons, List.map_nil]); first | done | rfl | (simp only [List.length_drop, List.length_take]; rfl)) ?_; (with_reducible refine (gO.calls a1 true _ A3.out).mono ?_); rintro e w' ⟨rfl, ⟨nd, rfl⟩⟩; refine ⟨_, rfl, ?_⟩) | ((with_reducible refine dp (f := 65) rfl ?_); refine fQ (some 11) rfl rfl Try.func65 (by kernel_rfl) rfl #[.int .i64 a1] rfl (by (try simp only [List.map_toArray, List.map_cons, List.map_nil]); first | done | rfl | (simp only [List.length_drop, List.length_take]; rfl)) ?_; (with_reducible refine (jH.calls a1 om _ A5.out).mono ?_); rintro e w' ⟨rfl, ⟨nd, rfl⟩⟩; refine ⟨_, rfl, ?_⟩))
  go_ret
  exact ⟨by first | rfl | (simp; done) | (simp [*]; done), by repeat (first | exact Drawn0.refl _ | apply Drawn0.step)⟩
 ·replace c4 := Bool.eq_false_iff.mpr c4
  subst c4
  have H1 : (some a0) = some r := by rw [if_neg (show ¬ (false = true) by decide)] at H; exact H
  clear H
  have H := H1
  clear H1
  obtain rfl := Option.some.inj H
  go_enter Try.func23, Try.ntmps23
  go_wp2_with (first | ((with_reducible refine dp (f := 64) rfl ?_); refine fQ (some 6) rfl rfl Try.func64 (by kernel_rfl) rfl #[.int .i64 a1] rfl (by (try simp only [List.map_toArray, List.map_cons, List.map_nil]); first | done | rfl | (simp only [List.length_drop, List.length_take]; rfl)) ?_; (with_reducible refine (gO.calls a1 false _ A3.out).mono ?_); rintro e w' ⟨rfl, ⟨nd, rfl⟩⟩; refine ⟨_, rfl, ?_⟩))
  go_ret
  exact ⟨by first | rfl | (simp; done) | (simp [*]; done), by repeat (first | exact Drawn0.refl _ | apply Drawn0.step)⟩
end Go.Proofs.Ytemhalnhbgkbcaa.V
end

section
namespace Go.Proofs.Ytemhalnhbgkbcaa.V
attribute [local go_sem] dA dy ed ec cP cN dz dx
def gL.l0 : Nat → Int → List Int → Int → Int → Option (Int)
 | 0, _, _, _, _ => none
 | k + 1, x3, x6, x7, x8 => if x8 < x7 then (if 0 ≤ x8 then (if x8 < (x6.length : Int) then ((kx.f x3 (rd x6 x8)).bind fun xb => (gL.l0 k xb x6 x7 (wrap64 (x8 + 1)))) else (none)) else (none)) else (some x3)
def gL.f (k : Nat) (l0 : List Int) : Option (Int) := gL.l0 k 0 l0 (l0.length : Int) 0
theorem gL.mono_l : ∀ k, (∀ y0 y1 y2 y3, aC (gL.l0 k y0 y1 y2 y3) (gL.l0 (k + 1) y0 y1 y2 y3))
 | 0 => fun _ _ _ _ r h => by simp [gL.l0] at h
 | k + 1 => by
  have cE := gL.mono_l k
  ·intro y0 y1 y2 y3
   unfold gL.l0
   repeat' first
   | (with_reducible exact cE _ _ _ _)
   | (with_reducible exact aC.refl _)
   | (with_reducible exact aC.none _)
   | (with_reducible refine aC.ite ?_ ?_)
   | (with_reducible refine aC.bind ?_ (fun _ => ?_))
   | exact cE _ _ _ _
   | exact aC.none _
   | refine aC.ite ?_ ?_
   | refine aC.bind ?_ (fun _ => ?_)
theorem gL.mono : ∀ a0 k, aC (gL.f k a0) (gL.f (k + 1) a0) := by
 intro a0 k
 have cE := gL.mono_l k
 unfold gL.f
 repeat' first
   | (with_reducible exact cE _ _ _ _)
   | (with_reducible exact aC.refl _)
   | (with_reducible exact aC.none _)
   | (with_reducible refine aC.ite ?_ ?_)
   | (with_reducible refine aC.bind ?_ (fun _ => ?_))
   | exact cE _ _ _ _
   | exact aC.none _
   | refine aC.ite ?_ ?_
   | refine aC.bind ?_ (fun _ => ?_)
set_option maxHeartbeats 8000000 in
set_option maxRecDepth 100000 in
theorem gL.calls (k : Nat) (A0 : Option Addr) (c0 : Nat) (l0 : List Int) (r : Int) (w : World) (lM : Kd.C (Kd.int .i64) w A0 l0.length l0) (jC : l0.length ≤ c0) (h : gL.f k l0 = some r) :
  Calls Try.prog 28 #[.slice A0 l0.length c0] w fun e w' => e = .returned (.int .u64 r) ∧ Drawn0 w w' := by
 have n7 := ak lM
 have xT := ak jC
 clear lM jC
 have H : (gL.l0 k 0 l0 (l0.length : Int) 0) = some r := h
 clear h
 have H' := ak H
 clear H
 go_enter Try.func28, Try.ntmps28
 go_wp2
 go_loopg [3, 8] k (fun kq v3 v8 w' => ∃ (av : Int) (fo : Int), v3 = .int .u64 av ∧ v8 = .int .i64 fo ∧ Aside0 (gL.l0 kq av l0 (l0.length : Int) fo = some r) ∧ Aside0 (kq ≤ k) ∧ Drawn0 w w')
 case atStart => exact ⟨(0), (0), (by first | rfl | (simp; done) | (simp [*]; done)), (by first | rfl | (simp; done) | (simp [*]; done)), H', ⟨Nat.le_refl _⟩, by repeat (first | exact Drawn0.refl _ | apply Drawn0.step)⟩
 case round =>
  clear H'
  obtain ⟨av, fo, rfl, rfl, HA, dq, ⟨m1, rfl⟩⟩ := hrel
  cases gk with
  | zero => exact absurd HA.out (by simp [gL.l0])
  | succ k1 =>
   have H := HA.out
   clear HA
   simp only [gL.l0] at H
   by_cases c2 : fo < (l0.length : Int)
   ·rw [if_pos c2] at H
    have lW : decide (fo < (l0.length : Int)) = true := decide_eq_true c2
    clear c2
    by_cases c3 : 0 ≤ fo
    ·rw [if_pos c3] at H
     have kT : decide (0 ≤ fo) = true := decide_eq_true c3
     clear c3
     by_cases c4 : fo < (l0.length : Int)
     ·rw [if_pos c4] at H
      have jG : decide (fo < (l0.length : Int)) = true := decide_eq_true c4
      clear c4
      replace H := Option.bind_eq_some_iff.mp H
      obtain ⟨xb, uu, H⟩ := H
      replace H : (gL.l0 k1 xb l0 (l0.length : Int) (wrap64 (fo + 1))) = some r := H
      have A5 := ak uu
      clear uu
      have H' := ak H
      clear H
      have DK : 0 ≤ (fo : Int) := of_decide_eq_true (by first | (with_reducible assumption) | assumption)
      have DE : fo < (l0.length : Int) := of_decide_eq_true (by first | (with_reducible assumption) | assumption)
      obtain ⟨Yp, QZ, TI⟩ := Kd.at_int n7.out fo DK DE
      cases QZ
      replace DK := eq_true DK
      replace DE := eq_true DE
      go_wp2_with (first | ((with_reducible refine dp (f := 21) rfl ?_); refine fQ (some 14) rfl rfl Try.func21 (by kernel_rfl) rfl #[.int .u64 av, .int .i64 (rd l0 fo)] rfl (by (try simp only [List.map_toArray, List.map_cons, List.map_nil]); first | done | rfl | (simp only [List.length_drop, List.length_take]; rfl)) ?_; (with_reducible refine (kx.calls av (rd l0 fo) xb _ A5.out).mono ?_); rintro e w' ⟨rfl, ⟨nd, rfl⟩⟩; refine ⟨_, rfl, ?_⟩))
      go_roundg k1
      case measure => have := dq.out; omega
      case rel => exact ⟨(xb), (wrap64 (fo + 1)), (by first | rfl | (simp; done) | (simp [*]; done)), (by first | rfl | (simp; done) | (simp [*]; done)), H', ⟨by have := dq.out; omega⟩, by repeat (first | exact Drawn0.refl _ | apply Drawn0.step)⟩
     ·rw [if_neg c4] at H
      exact absurd H (by simp)
    ·rw [if_neg c3] at H
     exact absurd H (by simp)
   ·rw [if_neg c2] at H
    have lW : decide (fo < (l0.length : Int)) = false := decide_eq_false c2
    clear c2
    obtain rfl := Option.some.inj H
    go_wp2
    go_ret
    exact ⟨by first | rfl | (simp; done) | (simp [*]; done), by repeat (first | exact Drawn0.refl _ | apply Drawn0.step)⟩
end Go.Proofs.Ytemhalnhbgkbcaa.V
end

section
namespace Go.Proofs.Ytemhalnhbgkbcaa.V
attribute [local go_sem] dA dy ed ec cP cN dz dx
def b8.l0 : Nat → Int → Int → Option (Int)
 | 0, _, _ => none
 | k + 1, x0, x3 => if x0 = 0 then (some x3) else (b8.l0 k (Go.bits .and .u64 x0 (IntKind.u64.wrap (x0 - 1))) (wrap64 (x3 + 1)))
def b8.f (k : Nat) (a0 : Int) : Option (Int) := b8.l0 k a0 0
theorem b8.mono_l : ∀ k, (∀ y0 y1, aC (b8.l0 k y0 y1) (b8.l0 (k + 1) y0 y1))
 | 0 => fun _ _ r h => by simp [b8.l0] at h
 | k + 1 => by
  have cE := b8.mono_l k
  ·intro y0 y1
   unfold b8.l0
   repeat' first
   | (with_reducible exact cE _ _)
   | (with_reducible exact aC.refl _)
   | (with_reducible exact aC.none _)
   | (with_reducible refine aC.ite ?_ ?_)
   | (with_reducible refine aC.bind ?_ (fun _ => ?_))
   | exact cE _ _
   | exact aC.none _
   | refine aC.ite ?_ ?_
   | refine aC.bind ?_ (fun _ => ?_)
theorem b8.mono : ∀ a0 k, aC (b8.f k a0) (b8.f (k + 1) a0) := by
 intro a0 k
 have cE := b8.mono_l k
 unfold b8.f
 repeat' first
   | (with_reducible exact cE _ _)
   | (with_reducible exact aC.refl _)
   | (with_reducible exact aC.none _)
   | (with_reducible refine aC.ite ?_ ?_)
   | (with_reducible refine aC.bind ?_ (fun _ => ?_))
   | exact cE _ _
   | exact aC.none _
   | refine aC.ite ?_ ?_
   | refine aC.bind ?_ (fun _ => ?_)
set_option maxHeartbeats 8000000 in
set_option maxRecDepth 100000 in
theorem b8.calls (k : Nat) (a0 : Int) (r : Int) (w : World) (h : b8.f k a0 = some r) :
  Calls Try.prog 27 #[.int .u64 a0] w fun e w' => e = .returned (.int .i64 r) ∧ Drawn0 w w' := by
 have H : (b8.l0 k a0 0) = some r := h
 clear h
 have H' := ak H
 clear H
 go_enter Try.func27, Try.ntmps27
 go_wp2
 go_loopg [0, 3] k (fun kq v0 v3 w' => ∃ (fW : Int) (av : Int), v0 = .int .u64 fW ∧ v3 = .int .i64 av ∧ Aside0 (b8.l0 kq fW av = some r) ∧ Aside0 (kq ≤ k) ∧ Drawn0 w w')
 case atStart => exact ⟨(a0), (0), (by first | rfl | (simp; done) | (simp [*]; done)), (by first | rfl | (simp; done) | (simp [*]; done)), H', ⟨Nat.le_refl _⟩, by repeat (first | exact Drawn0.refl _ | apply Drawn0.step)⟩
 case round =>
  clear H'
  obtain ⟨fW, av, rfl, rfl, HA, dq, ⟨m1, rfl⟩⟩ := hrel
  cases gk with
  | zero => exact absurd HA.out (by simp [b8.l0])
  | succ k1 =>
   have H := HA.out
   clear HA
   simp only [b8.l0] at H
   by_cases c2 : fW = 0
   ·rw [if_pos c2] at H
    have lW : (fW == 0) = true := beq_iff_eq.mpr c2
    have uG : (fW != 0) = false := bne_eq_false_iff_eq.mpr c2
    clear c2
    obtain rfl := Option.some.inj H
    go_wp2
    go_ret
    exact ⟨by first | rfl | (simp; done) | (simp [*]; done), by repeat (first | exact Drawn0.refl _ | apply Drawn0.step)⟩
   ·rw [if_neg c2] at H
    have lW : (fW == 0) = false := beq_eq_false_iff_ne.mpr c2
    have uG : (fW != 0) = true := bne_iff_ne.mpr c2
    have H' := ak H
    clear H
    go_wp2
    go_roundg k1
    case measure => have := dq.out; omega
    case rel => exact ⟨(Go.bits .and .u64 fW (IntKind.u64.wrap (fW - 1))), (wrap64 (av + 1)), (by first | rfl | (simp; done) | (simp [*]; done)), (by first | rfl | (simp; done) | (simp [*]; done)), H', ⟨by have := dq.out; omega⟩, by repeat (first | exact Drawn0.refl _ | apply Drawn0.step)⟩
end Go.Proofs.Ytemhalnhbgkbcaa.V
end

section
namespace Go.Proofs.Ytemhalnhbgkbcaa.V
attribute [local go_sem] dA dy ed ec cP cN dz dx
def cZ.l0 : Nat → Int → List Int → Int → Option (List Int)
 | 0, _, _, _ => none
 | k + 1, x0, x3, x5 => if x5 < 64 then ((jZ.f x0 x5).bind fun zt => (if zt = true then (if x3.length < 17592186044416 then (cZ.l0 k x0 (x3 ++ [x5]) (wrap64 (x5 + 1))) else (none)) else (cZ.l0 k x0 x3 (wrap64 (x5 + 1))))) else (some x3)
def cZ.f (k : Nat) (a0 : Int) : Option (List Int) := cZ.l0 k a0 ([] : List Int) 0
theorem cZ.mono_l : ∀ k, (∀ y0 y1 y2, aC (cZ.l0 k y0 y1 y2) (cZ.l0 (k + 1) y0 y1 y2))
 | 0 => fun _ _ _ r h => by simp [cZ.l0] at h
 | k + 1 => by
  have cE := cZ.mono_l k
  ·intro y0 y1 y2
   unfold cZ.l0
   repeat' first
   | (with_reducible exact cE _ _ _)
   | (with_reducible exact aC.refl _)
   | (with_reducible exact aC.none _)
   | (with_reducible refine aC.ite ?_ ?_)
   | (with_reducible refine aC.bind ?_ (fun _ => ?_))
   | exact cE _ _ _
   | exact aC.none _
   | refine aC.ite ?_ ?_
   | refine aC.bind ?_ (fun _ => ?_)
theorem cZ.mono : ∀ a0 k, aC (cZ.f k a0) (cZ.f (k + 1) a0) := by
 intro a0 k
 have cE := cZ.mono_l k
 unfold cZ.f
 repeat' first
   | (with_reducible exact cE _ _ _)
   | (with_reducible exact aC.refl _)
   | (with_reducible exact aC.none _)
   | (with_reducible refine aC.ite ?_ ?_)
   | (with_reducible refine aC.bind ?_ (fun _ => ?_))
   | exact cE _ _ _
   | exact aC.none _
   | refine aC.ite ?_ ?_
   | refine aC.bind ?_ (fun _ => ?_)
set_option maxHeartbeats 8000000 in
set_option maxRecDepth 100000 in
theorem cZ.calls (k : Nat) (a0 : Int) (r : List Int) (w : World) (h : cZ.f k a0 = some r) :
  Calls Try.prog 26 #[.int .u64 a0] w fun e w' => ∃ m6 : Value, e = .returned (m6) ∧ Kd.R (Kd.int .i64) 3 w' w.heap.size (fun _ => True) m6 r ∧ Below w.heap.size w w' := by
 have HB := ak (Below.refl w.heap.size w)
 have H : (cZ.l0 k a0 ([] : List Int) 0) = some r := h
 clear h
 have H' := ak H
 clear H
 go_enter Try.func26, Try.ntmps26
 go_wp2
 go_loopg [3, 5] k (fun kq v3 v5 w' => ∃ (av : List Int) (js : Int), v5 = .int .i64 js ∧ Aside0 (cZ.l0 kq a0 av js = some r) ∧ Aside0 (kq ≤ k) ∧ Aside0 (Kd.R (Kd.int .i64) 3 w' w.heap.size (fun _ => True) v3 av) ∧ Aside0 (Below w.heap.size w w'))
 case atStart => exact ⟨(([] : List Int)), (0), (by first | rfl | (simp; done) | (simp [*]; done)), H', ⟨Nat.le_refl _⟩, ⟨by first | exact Kd.R_nil _ _ _ _ _ | exact Kd.N_nil _ _ _ _ _ | exact Kd.V_nil _ _ _ _ _ | exact Kd.Q_nil _ _ _ _ _ | exact Kd.S_nil _ _ _ _ _⟩, ⟨by repeat (first | (with_reducible first | exact HB.out | apply af | apply ab | apply ai) | exact HB.out)⟩⟩
 case round =>
  clear H'
  obtain ⟨av, js, rfl, HA, dq, eS, HB⟩ := hrel
  cases gk with
  | zero => exact absurd HA.out (by simp [cZ.l0])
  | succ k1 =>
   have H := HA.out
   clear HA
   simp only [cZ.l0] at H
   by_cases c2 : js < 64
   ·rw [if_pos c2] at H
    have lW : decide (js < 64) = true := decide_eq_true c2
    clear c2
    replace H := Option.bind_eq_some_iff.mp H
    obtain ⟨zt, nJ, H⟩ := H
    replace H : (if zt = true then (if av.length < 17592186044416 then (cZ.l0 k1 a0 (av ++ [js]) (wrap64 (js + 1))) else (none)) else (cZ.l0 k1 a0 av (wrap64 (js + 1)))) = some r := H
    have A3 := ak nJ
    clear nJ
    by_cases c4 : zt = true
    ·subst c4
     have H1 : (if av.length < 17592186044416 then (cZ.l0 k1 a0 (av ++ [js]) (wrap64 (js + 1))) else (none)) = some r := by rw [if_pos rfl] at H; exact H
     clear H
     have H := H1
     clear H1
     by_cases c5 : av.length < 17592186044416
     ·rw [if_pos c5] at H
      have KT := ak c5
      clear c5
      obtain ⟨Ik, vG⟩ : ∃ y_ : List Int, y_ = (av ++ [js]) := ⟨_, rfl⟩
      replace H : (cZ.l0 k1 a0 Ik (wrap64 (js + 1))) = some r := by first | (rw [vG]; with_reducible exact H) | (have fx := (Option.bind_some _ _).symm.trans H; rw [vG]; with_reducible exact fx) | (have fx := (Option.bind_some _ _).symm.trans H; with_reducible exact fx) | with_reducible exact H | (rw [vG]; exact H) | exact H
      have PI := ak vG
      clear vG
      have H' := ak H
      clear H
      go_wp2_with (first | ((with_reducible refine dp (f := 20) rfl ?_); refine fQ (some 10) rfl rfl Try.func20 (by kernel_rfl) rfl #[.int .u64 a0, .int .i64 js] rfl (by (try simp only [List.map_toArray, List.map_cons, List.map_nil]); first | done | rfl | (simp only [List.length_drop, List.length_take]; rfl)) ?_; (with_reducible refine (jZ.calls a0 js true _ A3.out).mono ?_); rintro e w' ⟨rfl, ⟨nd, rfl⟩⟩; refine ⟨_, rfl, ?_⟩) | ((with_reducible refine cy (b := .append) (xs := #[.tmp 11, .tmp 13]) rfl ?_); at_builtin; refine Kd.R_append (Kd.int .i64) (w0 := w) w.heap.size rfl (.tmp 11) (.tmp 13) 31 3 (.int .i64 0) 8 rfl Try.underlying31 ye rfl (by decide) (by omega) u3 av js [.int .i64 js] (fun _ => True) (fun _ => False) rfl rfl ?aP (fun _ hk => hk.elim) ?aF ?aO ?aB ?aS ?aL ?_; (case aP => exact rfl); (case aB => exact (by repeat (first | (with_reducible first | exact HB.out | apply af | apply ab | apply ai) | exact HB.out))); (case aF => exact (fun _ _ => trivial)); (case aO => exact (by (with_reducible repeat (first | apply Kd.R_alloc | apply Kd.R_drewN | apply Kd.R_drew)); exact eS.out)); (case aS => exact (bo (by repeat (first | (with_reducible first | exact HB.out | apply af | apply ab | apply ai) | exact HB.out)))); (case aL => have := KT.out; omega); intro YS w6 ho hb hg hat; rw [← PI.out] at ho; have bR := ak (hb); have bX := ak (ho); clear HB; clear eS; have HB := bR; have PQ := bX; clear bR bX; clear ho hb hg hat))
      go_roundg k1
      case measure => have := dq.out; omega
      case rel => exact ⟨(Ik), (wrap64 (js + 1)), (by first | rfl | (simp; done) | (simp [*]; done)), H', ⟨by have := dq.out; omega⟩, ⟨by (with_reducible repeat (first | apply Kd.R_alloc | apply Kd.R_drewN | apply Kd.R_drew)); exact PQ.out⟩, ⟨by repeat (first | (with_reducible first | exact HB.out | apply af | apply ab | apply ai) | exact HB.out)⟩⟩
     ·rw [if_neg c5] at H
      exact absurd H (by simp)
    ·replace c4 := Bool.eq_false_iff.mpr c4
     subst c4
     have H1 : (cZ.l0 k1 a0 av (wrap64 (js + 1))) = some r := by rw [if_neg (show ¬ (false = true) by decide)] at H; exact H
     clear H
     have H := H1
     clear H1
     have H' := ak H
     clear H
     go_wp2_with (first | ((with_reducible refine dp (f := 20) rfl ?_); refine fQ (some 10) rfl rfl Try.func20 (by kernel_rfl) rfl #[.int .u64 a0, .int .i64 js] rfl (by (try simp only [List.map_toArray, List.map_cons, List.map_nil]); first | done | rfl | (simp only [List.length_drop, List.length_take]; rfl)) ?_; (with_reducible refine (jZ.calls a0 js false _ A3.out).mono ?_); rintro e w' ⟨rfl, ⟨nd, rfl⟩⟩; refine ⟨_, rfl, ?_⟩))
     go_roundg k1
     case measure => have := dq.out; omega
     case rel => exact ⟨(av), (wrap64 (js + 1)), (by first | rfl | (simp; done) | (simp [*]; done)), H', ⟨by have := dq.out; omega⟩, ⟨by (with_reducible repeat (first | apply Kd.R_alloc | apply Kd.R_drewN | apply Kd.R_drew)); exact eS.out⟩, ⟨by repeat (first | (with_reducible first | exact HB.out | apply af | apply ab | apply ai) | exact HB.out)⟩⟩
   ·rw [if_neg c2] at H
    have lW : decide (js < 64) = false := decide_eq_false c2
    clear c2
    obtain rfl := Option.some.inj H
    go_wp2
    go_ret
    exact ⟨_, by first | rfl | (simp [bf, bd] <;> rfl) | (simp [*, bf, bd] <;> rfl), by (with_reducible repeat (first | apply Kd.R_alloc | apply Kd.R_drewN | apply Kd.R_drew)); exact eS.out, by repeat (first | (with_reducible first | exact HB.out | apply af | apply ab | apply ai) | exact HB.out)⟩
end Go.Proofs.Ytemhalnhbgkbcaa.V
end

section
namespace Go.Proofs.Ytemhalnhbgkbcaa.V
attribute [local go_sem] dA dy ed ec cP cN dz dx
def cB.l0 : Nat → Int → List Int → Int → Option (List Int)
 | 0, _, _, _ => none
 | k + 1, x0, x3, x4 => if x4 < 64 then (if (Int.tmod x0 2) = 1 then (if x3.length < 17592186044416 then (cB.l0 k (IntKind.u64.wrap (Int.tdiv x0 2)) (x3 ++ [x4]) (wrap64 (x4 + 1))) else (none)) else (cB.l0 k (IntKind.u64.wrap (Int.tdiv x0 2)) x3 (wrap64 (x4 + 1)))) else (some x3)
def cB.f (k : Nat) (a0 : Int) : Option (List Int) := cB.l0 k a0 ([] : List Int) 0
theorem cB.mono_l : ∀ k, (∀ y0 y1 y2, aC (cB.l0 k y0 y1 y2) (cB.l0 (k + 1) y0 y1 y2))
 | 0 => fun _ _ _ r h => by simp [cB.l0] at h
 | k + 1 => by
  have cE := cB.mono_l k
  ·intro y0 y1 y2
   unfold cB.l0
   repeat' first
   | (with_reducible exact cE _ _ _)
   | (with_reducible exact aC.refl _)
   | (with_reducible exact aC.none _)
   | (with_reducible refine aC.ite ?_ ?_)
   | (with_reducible refine aC.bind ?_ (fun _ => ?_))
   | exact cE _ _ _
   | exact aC.none _
   | refine aC.ite ?_ ?_
   | refine aC.bind ?_ (fun _ => ?_)
theorem cB.mono : ∀ a0 k, aC (cB.f k a0) (cB.f (k + 1) a0) := by
 intro a0 k
 have cE := cB.mono_l k
 unfold cB.f
 repeat' first
   | (with_reducible exact cE _ _ _)
   | (with_reducible exact aC.refl _)
   | (with_reducible exact aC.none _)
   | (with_reducible refine aC.ite ?_ ?_)
   | (with_reducible refine aC.bind ?_ (fun _ => ?_))
   | exact cE _ _ _
   | exact aC.none _
   | refine aC.ite ?_ ?_
   | refine aC.bind ?_ (fun _ => ?_)
set_option maxHeartbeats 8000000 in
set_option maxRecDepth 100000 in
theorem cB.calls (k : Nat) (a0 : Int) (r : List Int) (w : World) (h : cB.f k a0 = some r) :
  Calls Try.prog 19 #[.int .u64 a0] w fun e w' => ∃ m6 : Value, e = .returned (m6) ∧ Kd.R (Kd.int .i64) 3 w' w.heap.size (fun _ => True) m6 r ∧ Below w.heap.size w w' := by
 have HB := ak (Below.refl w.heap.size w)
 have H : (cB.l0 k a0 ([] : List Int) 0) = some r := h
 clear h
 have H' := ak H
 clear H
 go_enter Try.func19, Try.ntmps19
 go_wp2
 go_loopg [0, 3, 4] k (fun kq v0 v3 v4 w' => ∃ (fW : Int) (av : List Int) (lg : Int), v0 = .int .u64 fW ∧ v4 = .int .i64 lg ∧ Aside0 (cB.l0 kq fW av lg = some r) ∧ Aside0 (kq ≤ k) ∧ Aside0 (Kd.R (Kd.int .i64) 3 w' w.heap.size (fun _ => True) v3 av) ∧ Aside0 (Below w.heap.size w w'))
 case atStart => exact ⟨(a0), (([] : List Int)), (0), (by first | rfl | (simp; done) | (simp [*]; done)), (by first | rfl | (simp; done) | (simp [*]; done)), H', ⟨Nat.le_refl _⟩, ⟨by first | exact Kd.R_nil _ _ _ _ _ | exact Kd.N_nil _ _ _ _ _ | exact Kd.V_nil _ _ _ _ _ | exact Kd.Q_nil _ _ _ _ _ | exact Kd.S_nil _ _ _ _ _⟩, ⟨by repeat (first | (with_reducible first | exact HB.out | apply af | apply ab | apply ai) | exact HB.out)⟩⟩
 case round =>
  clear H'
  obtain ⟨fW, av, lg, rfl, rfl, HA, dq, eS, HB⟩ := hrel
  cases gk with
  | zero => exact absurd HA.out (by simp [cB.l0])
  | succ k1 =>
   have H := HA.out
   clear HA
   simp only [cB.l0] at H
   by_cases c2 : lg < 64
   ·rw [if_pos c2] at H
    have lW : decide (lg < 64) = true := decide_eq_true c2
    clear c2
    by_cases c3 : (Int.tmod fW 2) = 1
    ·rw [if_pos c3] at H
     have kT : ((Int.tmod fW 2) == 1) = true := beq_iff_eq.mpr c3
     have qj : ((Int.tmod fW 2) != 1) = false := bne_eq_false_iff_eq.mpr c3
     clear c3
     by_cases c4 : av.length < 17592186044416
     ·rw [if_pos c4] at H
      have KU := ak c4
      clear c4
      obtain ⟨Il, vH⟩ : ∃ y_ : List Int, y_ = (av ++ [lg]) := ⟨_, rfl⟩
      replace H : (cB.l0 k1 (IntKind.u64.wrap (Int.tdiv fW 2)) Il (wrap64 (lg + 1))) = some r := by first | (rw [vH]; with_reducible exact H) | (have fx := (Option.bind_some _ _).symm.trans H; rw [vH]; with_reducible exact fx) | (have fx := (Option.bind_some _ _).symm.trans H; with_reducible exact fx) | with_reducible exact H | (rw [vH]; exact H) | exact H
      have PJ := ak vH
      clear vH
      have H' := ak H
      clear H
      go_wp2_with (first | ((with_reducible refine cy (b := .append) (xs := #[.tmp 12, .tmp 14]) rfl ?_); at_builtin; refine Kd.R_append (Kd.int .i64) (w0 := w) w.heap.size rfl (.tmp 12) (.tmp 14) 31 3 (.int .i64 0) 8 rfl Try.underlying31 ye rfl (by decide) (by omega) u3 av lg [.int .i64 lg] (fun _ => True) (fun _ => False) rfl rfl ?aP (fun _ hk => hk.elim) ?aF ?aO ?aB ?aS ?aL ?_; (case aP => exact rfl); (case aB => exact (by repeat (first | (with_reducible first | exact HB.out | apply af | apply ab | apply ai) | exact HB.out))); (case aF => exact (fun _ _ => trivial)); (case aO => exact (by (with_reducible repeat (first | apply Kd.R_alloc | apply Kd.R_drewN | apply Kd.R_drew)); exact eS.out)); (case aS => exact (bo (by repeat (first | (with_reducible first | exact HB.out | apply af | apply ab | apply ai) | exact HB.out)))); (case aL => have := KU.out; omega); intro YT w5 ho hb hg hat; rw [← PJ.out] at ho; have bR := ak (hb); have bX := ak (ho); clear HB; clear eS; have HB := bR; have PR := bX; clear bR bX; clear ho hb hg hat))
      go_roundg k1
      case measure => have := dq.out; omega
      case rel => exact ⟨(IntKind.u64.wrap (Int.tdiv fW 2)), (Il), (wrap64 (lg + 1)), (by first | rfl | (simp; done) | (simp [*]; done)), (by first | rfl | (simp; done) | (simp [*]; done)), H', ⟨by have := dq.out; omega⟩, ⟨by (with_reducible repeat (first | apply Kd.R_alloc | apply Kd.R_drewN | apply Kd.R_drew)); exact PR.out⟩, ⟨by repeat (first | (with_reducible first | exact HB.out | apply af | apply ab | apply ai) | exact HB.out)⟩⟩
     ·rw [if_neg c4] at H
      exact absurd H (by simp)
    ·rw [if_neg c3] at H
     have kT : ((Int.tmod fW 2) == 1) = false := beq_eq_false_iff_ne.mpr c3
     have qj : ((Int.tmod fW 2) != 1) = true := bne_iff_ne.mpr c3
     have H' := ak H
     clear H
     go_wp2
     go_roundg k1
     case measure => have := dq.out; omega
     case rel => exact ⟨(IntKind.u64.wrap (Int.tdiv fW 2)), (av), (wrap64 (lg + 1)), (by first | rfl | (simp; done) | (simp [*]; done)), (by first | rfl | (simp; done) | (simp [*]; done)), H', ⟨by have := dq.out; omega⟩, ⟨by (with_reducible repeat (first | apply Kd.R_alloc | apply Kd.R_drewN | apply Kd.R_drew)); exact eS.out⟩, ⟨by repeat (first | (with_reducible first | exact HB.out | apply af | apply ab | apply ai) | exact HB.out)⟩⟩
   ·rw [if_neg c2] at H
    have lW : decide (lg < 64) = false := decide_eq_false c2
    clear c2
    obtain rfl := Option.some.inj H
    go_wp2
    go_ret
    exact ⟨_, by first | rfl | (simp [bf, bd] <;> rfl) | (simp [*, bf, bd] <;> rfl), by (with_reducible repeat (first | apply Kd.R_alloc | apply Kd.R_drewN | apply Kd.R_drew)); exact eS.out, by repeat (first | (with_reducible first | exact HB.out | apply af | apply ab | apply ai) | exact HB.out)⟩
end Go.Proofs.Ytemhalnhbgkbcaa.V
end

section
namespace Go.Proofs.Ytemhalnhbgkbcaa.V
def nK (i : Int) : Bool := decide (0 ≤ i) && decide (i < 64)
def hasB (s : Nat) (i : Int) : Bool := nK i && s.testBit i.toNat
theorem IA (i : Int) : gO.f i = some (nK i) := by
 unfold gO.f nK
 by_cases h : 0 ≤ i
 ·rw [if_pos h]; simp [h]
 ·rw [if_neg (by omega)]; simp [h]
theorem rl {i : Int} (h : nK i = true) : 0 ≤ i ∧ i < 64 := by simpa [nK] using h
theorem Dv (i : Nat) (h : i < 64) : nK (i : Int) = true := by simp [nK]; omega
theorem Pr (a : Nat) (ha : a < 18446744073709551616) : Go.bits .and .u64 (a : Int) 1 = ((a % 2 : Nat) : Int) := by
 have := u64_and_nat a 1 ha (by decide)
 rw [nat_mask1] at this
 exact this
theorem lR (a i : Nat) : a.testBit i = decide (a / 2 ^ i % 2 = 1) := by
 rw [Nat.testBit_eq_decide_div_mod_eq]
theorem Ki (q : Nat) : (((q % 2 : Nat) : Int) == 1) = decide (q % 2 = 1) := by
 rw [Bool.eq_iff_iff]
 simp
 omega
theorem Sn (s : Nat) (hs : s < 18446744073709551616) (i : Int) : jZ.f (s : Int) i = some (hasB s i) := by
 unfold jZ.f hasB
 rw [IA, Option.bind_some]
 by_cases h : nK i = true
 ·obtain ⟨h0, h1⟩ := rl h
  obtain ⟨n, rfl⟩ := Int.eq_ofNat_of_zero_le h0
  rw [if_pos h, if_pos h0, h]
  have e : shr .u64 (s : Int) (n : Int) = ((s / 2 ^ n : Nat) : Int) := by
   unfold shr
   rw [Nat.min_eq_left (by show (n : Int).toNat ≤ 64; omega)]
   simp
  rw [e, Pr _ (Nat.lt_of_le_of_lt (Nat.div_le_self _ _) hs), Bool.true_and, Int.toNat_natCast, lR]
  rw [Ki]
 ·have h' : nK i = false := by simpa using h
  rw [if_neg h, h']
  rfl
theorem yf (s : Nat) (hs : s < 18446744073709551616) (i : Int) (w : World) : Calls Try.prog 20 #[.int .u64 (s : Int), .int .i64 i] w fun e w' => e = .returned (.bool (hasB s i)) ∧ Drawn0 w w' :=
 jZ.calls _ _ _ w (Sn s hs i)
def mU (s : Nat) (i : Int) : Nat := if nK i then s ||| 2 ^ i.toNat else s
theorem NW (n : Nat) (h : n < 64) : shl .u64 1 (n : Int) = ((2 ^ n : Nat) : Int) := by
 unfold shl
 rw [Nat.min_eq_left (by show (n : Int).toNat ≤ 64; omega), Int.one_mul, Int.toNat_natCast]
 have := wW (2 ^ n) (rT n h)
 simpa using this
theorem P2 (s : Nat) (hs : s < 18446744073709551616) (i : Int) : kx.f (s : Int) i = some ((mU s i : Nat) : Int) := by
 unfold kx.f mU
 rw [IA, Option.bind_some]
 by_cases h : nK i = true
 ·obtain ⟨h0, h1⟩ := rl h
  obtain ⟨n, rfl⟩ := Int.eq_ofNat_of_zero_le h0
  rw [if_pos h, if_pos h]
  unfold jH.f
  rw [if_pos h0, Option.bind_some, NW n (by omega), u64_or_nat _ _ hs (rT n (by omega)), Int.toNat_natCast]
 ·rw [if_neg h, if_neg h]
theorem JV (s : Nat) (hs : s < 18446744073709551616) (i : Int) : mU s i < 18446744073709551616 := by
 unfold mU
 split
 ·rename_i h
  obtain ⟨h0, h1⟩ := rl h
  exact Nat.or_lt_two_pow (n := 64) hs (rT _ (by omega))
 ·exact hs
theorem yO (s : Nat) (hs : s < 18446744073709551616) (i : Int) (w : World) : Calls Try.prog 21 #[.int .u64 (s : Int), .int .i64 i] w fun e w' => e = .returned (.int .u64 ((mU s i : Nat) : Int)) ∧ Drawn0 w w' :=
 kx.calls _ _ _ w (P2 s hs i)
theorem CL (s : Nat) (i : Int) (j : Nat) (hj : j < 64) : (mU s i).testBit j = (s.testBit j || decide (i = (j : Int))) := by
 unfold mU
 by_cases h : nK i = true
 ·obtain ⟨h0, h1⟩ := rl h
  rw [if_pos h, Nat.testBit_or, Nat.testBit_two_pow]
  congr 1
  rw [decide_eq_decide]
  omega
 ·rw [if_neg h]
  have : ¬ i = (j : Int) := by
   rintro rfl
   exact h (Dv j hj)
  simp [this]
def k8 (s : Nat) (n : Nat) : List Int := ((List.range n).filter s.testBit).map (fun i : Nat => (i : Int))
def iO (s : Nat) : List Int := k8 s 64
theorem vV (s n : Nat) : k8 s (n + 1) = if s.testBit n then k8 s n ++ [(n : Int)] else k8 s n := by
 unfold k8
 rw [List.range_succ, List.filter_append, List.map_append]
 by_cases h : s.testBit n = true
 ·simp [h]
 ·simp [h]
theorem DS (s n : Nat) : (k8 s n).length ≤ n := by
 unfold k8
 rw [List.length_map]
 exact Nat.le_trans (List.length_filter_le _ _) (by simp)
theorem qX (s n : Nat) (x : Int) (h : x ∈ k8 s n) : ∃ i : Nat, x = (i : Int) ∧ i < n ∧ s.testBit i = true := by
 unfold k8 at h
 simp only [List.mem_map, List.mem_filter, List.mem_range] at h
 obtain ⟨j, ⟨h1, h2⟩, h3⟩ := h
 exact ⟨j, h3.symm, h1, h2⟩
def xi (l : List Int) : Nat := l.foldl mU 0
theorem BR (l : List Int) : ∀ s, s < 18446744073709551616 → l.foldl mU s < 18446744073709551616 := by
 induction l with
 | nil => exact fun s h => h
 | cons x l ih => exact fun s h => ih _ (JV s h x)
theorem qH (l : List Int) : xi l < 18446744073709551616 := BR l 0 (by decide)
theorem wQ (l : List Int) (j : Nat) (hj : j < 64) : ∀ s, (l.foldl mU s).testBit j = (s.testBit j || decide ((j : Int) ∈ l)) := by
 induction l with
 | nil => simp
 | cons x l ih =>
  intro s
  rw [List.foldl_cons, ih, CL s x j hj, Bool.or_assoc]
  congr 1
  rw [Bool.eq_iff_iff]
  simp only [Bool.or_eq_true, decide_eq_true_eq, List.mem_cons]
  exact or_congr eq_comm Iff.rfl
theorem mI (l : List Int) (j : Nat) (hj : j < 64) : (xi l).testBit j = decide ((j : Int) ∈ l) := by
 unfold xi; rw [wQ l j hj]; simp
end Go.Proofs.Ytemhalnhbgkbcaa.V
end

section
namespace Go.Proofs.Ytemhalnhbgkbcaa.V
attribute [local go_sem] dA dy ed ec cP cN dz dx
def dd.l0 : Nat → Int → Int → Option (Int × Bool)
 | 0, _, _ => none
 | k + 1, x0, x4 => if (Go.bits .and .u64 x0 1) = 0 then (dd.l0 k (x0 / 2) (wrap64 (x4 + 1))) else (some (x4, true))
def dd.f (k : Nat) (a0 : Int) : Option (Int × Bool) := if a0 = 0 then (some (0, false)) else (dd.l0 k a0 0)
theorem dd.mono_l : ∀ k, (∀ y0 y1, aC (dd.l0 k y0 y1) (dd.l0 (k + 1) y0 y1))
 | 0 => fun _ _ r h => by simp [dd.l0] at h
 | k + 1 => by
  have cE := dd.mono_l k
  ·intro y0 y1
   unfold dd.l0
   repeat' first
   | (with_reducible exact cE _ _)
   | (with_reducible exact aC.refl _)
   | (with_reducible exact aC.none _)
   | (with_reducible refine aC.ite ?_ ?_)
   | (with_reducible refine aC.bind ?_ (fun _ => ?_))
   | exact cE _ _
   | exact aC.none _
   | refine aC.ite ?_ ?_
   | refine aC.bind ?_ (fun _ => ?_)
theorem dd.mono : ∀ a0 k, aC (dd.f k a0) (dd.f (k + 1) a0) := by
 intro a0 k
 have cE := dd.mono_l k
 unfold dd.f
 repeat' first
   | (with_reducible exact cE _ _)
   | (with_reducible exact aC.refl _)
   | (with_reducible exact aC.none _)
   | (with_reducible refine aC.ite ?_ ?_)
   | (with_reducible refine aC.bind ?_ (fun _ => ?_))
   | exact cE _ _
   | exact aC.none _
   | refine aC.ite ?_ ?_
   | refine aC.bind ?_ (fun _ => ?_)
set_option maxHeartbeats 8000000 in
set_option maxRecDepth 100000 in
theorem dd.calls (k : Nat) (a0 : Int) (r1 : Int) (r2 : Bool) (w : World) (h : dd.f k a0 = some (r1, r2)) :
  Calls Try.prog 29 #[.int .u64 a0] w fun e w' => e = .returned (.tuple #[.int .i64 r1, .bool r2]) ∧ Drawn0 w w' := by
 have H : (if a0 = 0 then (some (0, false)) else (dd.l0 k a0 0)) = some (r1, r2) := h
 clear h
 by_cases c2 : a0 = 0
 ·rw [if_pos c2] at H
  have lW : (a0 == 0) = true := beq_iff_eq.mpr c2
  have uG : (a0 != 0) = false := bne_eq_false_iff_eq.mpr c2
  clear c2
  simp only [Option.some.injEq, Prod.mk.injEq] at H
  obtain ⟨rfl, rfl⟩ := H
  go_enter Try.func29, Try.ntmps29
  go_wp2
  go_ret2
  exact ⟨by first | rfl | (simp; done) | (simp [*]; done), by repeat (first | exact Drawn0.refl _ | apply Drawn0.step)⟩
 ·rw [if_neg c2] at H
  have lW : (a0 == 0) = false := beq_eq_false_iff_ne.mpr c2
  have uG : (a0 != 0) = true := bne_iff_ne.mpr c2
  have H' := ak H
  clear H
  go_enter Try.func29, Try.ntmps29
  go_wp2
  go_loopg [0, 4] k (fun kq v0 v4 w' => ∃ (fW : Int) (lg : Int), v0 = .int .u64 fW ∧ v4 = .int .i64 lg ∧ Aside0 (dd.l0 kq fW lg = some (r1, r2)) ∧ Aside0 (kq ≤ k) ∧ Drawn0 w w')
  case atStart => exact ⟨(a0), (0), (by first | rfl | (simp; done) | (simp [*]; done)), (by first | rfl | (simp; done) | (simp [*]; done)), H', ⟨Nat.le_refl _⟩, by repeat (first | exact Drawn0.refl _ | apply Drawn0.step)⟩
  case round =>
   clear H'
   obtain ⟨fW, lg, rfl, rfl, HA, dq, ⟨m1, rfl⟩⟩ := hrel
   cases gk with
   | zero => exact absurd HA.out (by simp [dd.l0])
   | succ k1 =>
    have H := HA.out
    clear HA
    simp only [dd.l0] at H
    by_cases c3 : (Go.bits .and .u64 fW 1) = 0
    ·rw [if_pos c3] at H
     have kT : ((Go.bits .and .u64 fW 1) == 0) = true := beq_iff_eq.mpr c3
     have qj : ((Go.bits .and .u64 fW 1) != 0) = false := bne_eq_false_iff_eq.mpr c3
     clear c3
     have H' := ak H
     clear H
     go_wp2
     go_roundg k1
     case measure => have := dq.out; omega
     case rel => exact ⟨(fW / 2), (wrap64 (lg + 1)), (by first | rfl | (simp; done) | (simp [*]; done)), (by first | rfl | (simp; done) | (simp [*]; done)), H', ⟨by have := dq.out; omega⟩, by repeat (first | exact Drawn0.refl _ | apply Drawn0.step)⟩
    ·rw [if_neg c3] at H
     have kT : ((Go.bits .and .u64 fW 1) == 0) = false := beq_eq_false_iff_ne.mpr c3
     have qj : ((Go.bits .and .u64 fW 1) != 0) = true := bne_iff_ne.mpr c3
     simp only [Option.some.injEq, Prod.mk.injEq] at H
     obtain ⟨rfl, rfl⟩ := H
     go_wp2
     go_ret2
     exact ⟨by first | rfl | (simp; done) | (simp [*]; done), by repeat (first | exact Drawn0.refl _ | apply Drawn0.step)⟩
end Go.Proofs.Ytemhalnhbgkbcaa.V
end

section
namespace Go.Proofs.Ytemhalnhbgkbcaa.V
attribute [local go_sem] dA dy ed ec cP cN dz dx
def ek.l0 : Nat → Int → Int → Option (Int × Bool)
 | 0, _, _ => none
 | k + 1, x0, x4 => if x0 = 0 then (some (x4, true)) else (ek.l0 k (x0 / 2) (wrap64 (x4 + 1)))
def ek.f (k : Nat) (a0 : Int) : Option (Int × Bool) := if a0 = 0 then (some (0, false)) else (ek.l0 k a0 (-1))
theorem ek.mono_l : ∀ k, (∀ y0 y1, aC (ek.l0 k y0 y1) (ek.l0 (k + 1) y0 y1))
 | 0 => fun _ _ r h => by simp [ek.l0] at h
 | k + 1 => by
  have cE := ek.mono_l k
  ·intro y0 y1
   unfold ek.l0
   repeat' first
   | (with_reducible exact cE _ _)
   | (with_reducible exact aC.refl _)
   | (with_reducible exact aC.none _)
   | (with_reducible refine aC.ite ?_ ?_)
   | (with_reducible refine aC.bind ?_ (fun _ => ?_))
   | exact cE _ _
   | exact aC.none _
   | refine aC.ite ?_ ?_
   | refine aC.bind ?_ (fun _ => ?_)
theorem ek.mono : ∀ a0 k, aC (ek.f k a0) (ek.f (k + 1) a0) := by
 intro a0 k
 have cE := ek.mono_l k
 unfold ek.f
 repeat' first
   | (with_reducible exact cE _ _)
   | (with_reducible exact aC.refl _)
   | (with_reducible exact aC.none _)
   | (with_reducible refine aC.ite ?_ ?_)
   | (with_reducible refine aC.bind ?_ (fun _ => ?_))
   | exact cE _ _
   | exact aC.none _
   | refine aC.ite ?_ ?_
   | refine aC.bind ?_ (fun _ => ?_)
set_option maxHeartbeats 8000000 in
set_option maxRecDepth 100000 in
theorem ek.calls (k : Nat) (a0 : Int) (r1 : Int) (r2 : Bool) (w : World) (h : ek.f k a0 = some (r1, r2)) :
  Calls Try.prog 30 #[.int .u64 a0] w fun e w' => e = .returned (.tuple #[.int .i64 r1, .bool r2]) ∧ Drawn0 w w' := by
 have H : (if a0 = 0 then (some (0, false)) else (ek.l0 k a0 (-1))) = some (r1, r2) := h
 clear h
 by_cases c2 : a0 = 0
 ·rw [if_pos c2] at H
  have lW : (a0 == 0) = true := beq_iff_eq.mpr c2
  have uG : (a0 != 0) = false := bne_eq_false_iff_eq.mpr c2
  clear c2
  simp only [Option.some.injEq, Prod.mk.injEq] at H
  obtain ⟨rfl, rfl⟩ := H
  go_enter Try.func30, Try.ntmps30
  go_wp2
  go_ret2
  exact ⟨by first | rfl | (simp; done) | (simp [*]; done), by repeat (first | exact Drawn0.refl _ | apply Drawn0.step)⟩
 ·rw [if_neg c2] at H
  have lW : (a0 == 0) = false := beq_eq_false_iff_ne.mpr c2
  have uG : (a0 != 0) = true := bne_iff_ne.mpr c2
  have H' := ak H
  clear H
  go_enter Try.func30, Try.ntmps30
  go_wp2
  go_loopg [0, 4] k (fun kq v0 v4 w' => ∃ (fW : Int) (lg : Int), v0 = .int .u64 fW ∧ v4 = .int .i64 lg ∧ Aside0 (ek.l0 kq fW lg = some (r1, r2)) ∧ Aside0 (kq ≤ k) ∧ Drawn0 w w')
  case atStart => exact ⟨(a0), ((-1)), (by first | rfl | (simp; done) | (simp [*]; done)), (by first | rfl | (simp; done) | (simp [*]; done)), H', ⟨Nat.le_refl _⟩, by repeat (first | exact Drawn0.refl _ | apply Drawn0.step)⟩
  case round =>
   clear H'
   obtain ⟨fW, lg, rfl, rfl, HA, dq, ⟨m1, rfl⟩⟩ := hrel
   cases gk with
   | zero => exact absurd HA.out (by simp [ek.l0])
   | succ k1 =>
    have H := HA.out
    clear HA
    simp only [ek.l0] at H
    by_cases c3 : fW = 0
    ·rw [if_pos c3] at H
     have kT : (fW == 0) = true := beq_iff_eq.mpr c3
     have qj : (fW != 0) = false := bne_eq_false_iff_eq.mpr c3
     clear c3
     simp only [Option.some.injEq, Prod.mk.injEq] at H
     obtain ⟨rfl, rfl⟩ := H
     go_wp2
     go_ret2
     exact ⟨by first | rfl | (simp; done) | (simp [*]; done), by repeat (first | exact Drawn0.refl _ | apply Drawn0.step)⟩
    ·rw [if_neg c3] at H
     have kT : (fW == 0) = false := beq_eq_false_iff_ne.mpr c3
     have qj : (fW != 0) = true := bne_iff_ne.mpr c3
     have H' := ak H
     clear H
     go_wp2
     go_roundg k1
     case measure => have := dq.out; omega
     case rel => exact ⟨(fW / 2), (wrap64 (lg + 1)), (by first | rfl | (simp; done) | (simp [*]; done)), (by first | rfl | (simp; done) | (simp [*]; done)), H', ⟨by have := dq.out; omega⟩, by repeat (first | exact Drawn0.refl _ | apply Drawn0.step)⟩
end Go.Proofs.Ytemhalnhbgkbcaa.V
end

section
namespace Go.Proofs.Ytemhalnhbgkbcaa.V
attribute [local go_sem] dA dy ed ec cP cN dz dx
mutual
def cj.j0 : Nat → Int → Int → Bool → Option (Int × Bool)
 | 0, _, _, _ => none
 | k + 1, x0, x1, lQ => if lQ = true then (some (0, false)) else (cj.l0 k x0 x1)
def cj.l0 : Nat → Int → Int → Option (Int × Bool)
 | 0, _, _ => none
 | k + 1, x0, x1 => if x1 > 0 then (cj.l0 k (Go.bits .and .u64 x0 (IntKind.u64.wrap (x0 - 1))) (wrap64 (x1 - 1))) else ((dd.f k x0).bind fun Gt => (some (Gt.1, Gt.2)))
end
def cj.f (k : Nat) (a0 : Int) (a1 : Int) : Option (Int × Bool) := if a1 < 0 then (cj.j0 k a0 a1 true) else ((b8.f k a0).bind fun rV => (cj.j0 k a0 a1 (decide (a1 ≥ rV))))
theorem cj.mono_l : ∀ k, (∀ y0 y1 y2, aC (cj.j0 k y0 y1 y2) (cj.j0 (k + 1) y0 y1 y2)) ∧ (∀ y0 y1, aC (cj.l0 k y0 y1) (cj.l0 (k + 1) y0 y1))
 | 0 => ⟨fun _ _ _ r h => by simp [cj.j0] at h, fun _ _ r h => by simp [cj.l0] at h⟩
 | k + 1 => by
  obtain ⟨cE, gW⟩ := cj.mono_l k
  refine ⟨?_, ?_⟩
  ·intro y0 y1 y2
   unfold cj.j0
   repeat' first
   | (with_reducible exact cE _ _ _)
   | (with_reducible exact gW _ _)
   | (with_reducible exact b8.mono _ _)
   | (with_reducible exact dd.mono _ _)
   | (with_reducible exact aC.refl _)
   | (with_reducible exact aC.none _)
   | (with_reducible refine aC.ite ?_ ?_)
   | (with_reducible refine aC.bind ?_ (fun _ => ?_))
   | exact cE _ _ _
   | exact gW _ _
   | exact b8.mono _ _
   | exact dd.mono _ _
   | exact aC.none _
   | refine aC.ite ?_ ?_
   | refine aC.bind ?_ (fun _ => ?_)
  ·intro y0 y1
   unfold cj.l0
   repeat' first
   | (with_reducible exact cE _ _ _)
   | (with_reducible exact gW _ _)
   | (with_reducible exact b8.mono _ _)
   | (with_reducible exact dd.mono _ _)
   | (with_reducible exact aC.refl _)
   | (with_reducible exact aC.none _)
   | (with_reducible refine aC.ite ?_ ?_)
   | (with_reducible refine aC.bind ?_ (fun _ => ?_))
   | exact cE _ _ _
   | exact gW _ _
   | exact b8.mono _ _
   | exact dd.mono _ _
   | exact aC.none _
   | refine aC.ite ?_ ?_
   | refine aC.bind ?_ (fun _ => ?_)
theorem cj.mono : ∀ a0 a1 k, aC (cj.f k a0 a1) (cj.f (k + 1) a0 a1) := by
 intro a0 a1 k
 obtain ⟨cE, gW⟩ := cj.mono_l k
 unfold cj.f
 repeat' first
   | (with_reducible exact cE _ _ _)
   | (with_reducible exact gW _ _)
   | (with_reducible exact b8.mono _ _)
   | (with_reducible exact dd.mono _ _)
   | (with_reducible exact aC.refl _)
   | (with_reducible exact aC.none _)
   | (with_reducible refine aC.ite ?_ ?_)
   | (with_reducible refine aC.bind ?_ (fun _ => ?_))
   | exact cE _ _ _
   | exact gW _ _
   | exact b8.mono _ _
   | exact dd.mono _ _
   | exact aC.none _
   | refine aC.ite ?_ ?_
   | refine aC.bind ?_ (fun _ => ?_)
set_option maxHeartbeats 8000000 in
set_option maxRecDepth 100000 in
theorem cj.calls (k : Nat) (a0 : Int) (a1 : Int) (r1 : Int) (r2 : Bool) (w : World) (h : cj.f k a0 a1 = some (r1, r2)) :
  Calls Try.prog 31 #[.int .u64 a0, .int .i64 a1] w fun e w' => e = .returned (.tuple #[.int .i64 r1, .bool r2]) ∧ Drawn0 w w' := by
 have H : (if a1 < 0 then (cj.j0 k a0 a1 true) else ((b8.f k a0).bind fun rV => (cj.j0 k a0 a1 (decide (a1 ≥ rV))))) = some (r1, r2) := h
 clear h
 have Fa := ak H
 clear H
 go_enter Try.func31, Try.ntmps31
 go_upto_region 1 with (fail)
 go_cut [13] (fun Dp wc => ∃ (kq : Nat) (C0 : Bool), Dp = .bool C0 ∧ Aside0 (cj.j0 kq a0 a1 C0 = some (r1, r2)) ∧ Aside0 (kq ≤ k) ∧ Drawn0 w wc)
 case first =>
  have H := Fa.out
  clear Fa
  by_cases c4 : a1 < 0
  ·rw [if_pos c4] at H
   have jG : decide (a1 < 0) = true := decide_eq_true c4
   clear c4
   (first | rw [jG] | (simp only [iT, jx]; rw [jG]) | skip)
   have H' := ak H
   clear H
   go_wp2
   go_meet
   case rel => exact ⟨_, (true), (by first | rfl | (simp; done) | (simp [*]; done)), H', ⟨by first | omega | exact Nat.le_refl _⟩, by repeat (first | exact Drawn0.refl _ | apply Drawn0.step)⟩
  ·rw [if_neg c4] at H
   have jG : decide (a1 < 0) = false := decide_eq_false c4
   clear c4
   (first | rw [jG] | (simp only [iT, jx]; rw [jG]) | skip)
   replace H := Option.bind_eq_some_iff.mp H
   obtain ⟨rV, uu, H⟩ := H
   replace H : (cj.j0 k a0 a1 (decide (a1 ≥ rV))) = some (r1, r2) := H
   have A5 := ak uu
   clear uu
   have H' := ak H
   clear H
   go_wp2_with (first | (go_at_call 27; (with_reducible refine (b8.calls k a0 rV _ A5.out).mono ?_); rintro e w' ⟨rfl, ⟨nd, rfl⟩⟩))
   go_meet
   case rel => exact ⟨_, (decide (a1 ≥ rV)), (by first | rfl | (simp; done) | (simp [*]; done)), H', ⟨by first | omega | exact Nat.le_refl _⟩, by repeat (first | exact Drawn0.refl _ | apply Drawn0.step)⟩
 case rest =>
  clear Fa
  obtain ⟨kq, C0, rfl, HA, tX, ⟨mc2, rfl⟩⟩ := hcut
  cases kq with
  | zero => exact absurd HA.out (by simp [cj.j0])
  | succ Cp =>
   have H := HA.out
   clear HA
   simp only [cj.j0] at H
   by_cases c6 : C0 = true
   ·subst c6
    have H1 : (some (0, false)) = some (r1, r2) := by rw [if_pos rfl] at H; exact H
    clear H
    have H := H1
    clear H1
    simp only [Option.some.injEq, Prod.mk.injEq] at H
    obtain ⟨rfl, rfl⟩ := H
    go_wp2
    go_ret2
    exact ⟨by first | rfl | (simp; done) | (simp [*]; done), by repeat (first | exact Drawn0.refl _ | apply Drawn0.step)⟩
   ·replace c6 := Bool.eq_false_iff.mpr c6
    subst c6
    have H1 : (cj.l0 Cp a0 a1) = some (r1, r2) := by rw [if_neg (show ¬ (false = true) by decide)] at H; exact H
    clear H
    have H := H1
    clear H1
    have H' := ak H
    clear H
    go_wp2
    go_loopg [0, 1] Cp (fun kq v0 v1 w' => ∃ (n8 : Int) (yN : Int), v0 = .int .u64 n8 ∧ v1 = .int .i64 yN ∧ Aside0 (cj.l0 kq n8 yN = some (r1, r2)) ∧ Aside0 (kq ≤ Cp) ∧ Drawn0 w w')
    case atStart => exact ⟨(a0), (a1), (by first | rfl | (simp; done) | (simp [*]; done)), (by first | rfl | (simp; done) | (simp [*]; done)), H', ⟨Nat.le_refl _⟩, by repeat (first | exact Drawn0.refl _ | apply Drawn0.step)⟩
    case round =>
     clear H'
     obtain ⟨n8, yN, rfl, rfl, HA, lH, ⟨m2, rfl⟩⟩ := hrel
     cases gk with
     | zero => exact absurd HA.out (by simp [cj.l0])
     | succ k2 =>
      have H := HA.out
      clear HA
      simp only [cj.l0] at H
      by_cases c7 : yN > 0
      ·rw [if_pos c7] at H
       have lh : decide (0 < yN) = true := decide_eq_true c7
       clear c7
       have H' := ak H
       clear H
       go_wp2
       go_roundg k2
       case measure => have := tX.out; have := lH.out; omega
       case rel => exact ⟨(Go.bits .and .u64 n8 (IntKind.u64.wrap (n8 - 1))), (wrap64 (yN - 1)), (by first | rfl | (simp; done) | (simp [*]; done)), (by first | rfl | (simp; done) | (simp [*]; done)), H', ⟨by have := tX.out; have := lH.out; omega⟩, by repeat (first | exact Drawn0.refl _ | apply Drawn0.step)⟩
      ·rw [if_neg c7] at H
       have lh : decide (0 < yN) = false := decide_eq_false c7
       clear c7
       replace H := Option.bind_eq_some_iff.mp H
       obtain ⟨⟨Iz, Iy⟩, Ud, H⟩ := H
       replace H : (some (Iz, Iy)) = some (r1, r2) := H
       have A8 := ak Ud
       clear Ud
       simp only [Option.some.injEq, Prod.mk.injEq] at H
       obtain ⟨rfl, rfl⟩ := H
       go_wp2_with (first | ((with_reducible refine dp (f := 29) rfl ?_); refine fQ (some 23) rfl rfl Try.func29 (by kernel_rfl) rfl #[.int .u64 n8] rfl (by (try simp only [List.map_toArray, List.map_cons, List.map_nil]); first | done | rfl | (simp only [List.length_drop, List.length_take]; rfl)) ?_; (with_reducible refine (dd.calls k2 n8 Iz Iy _ A8.out).mono ?_); rintro e w' ⟨rfl, ⟨nd, rfl⟩⟩; refine ⟨_, rfl, ?_⟩))
       go_ret2
       exact ⟨by first | rfl | (simp; done) | (simp [*]; done), by repeat (first | exact Drawn0.refl _ | apply Drawn0.step)⟩
end Go.Proofs.Ytemhalnhbgkbcaa.V
end

section
namespace Go.Proofs.Ytemhalnhbgkbcaa.V
structure Least (s m : Nat) : Prop where
 here : s.testBit m = true
 below : ∀ j, j < m → s.testBit j = false
theorem DT (s : Nat) (h : s ≠ 0) : ∃ m, Least s m := by
 obtain ⟨i, hi⟩ := Nat.exists_testBit_of_ne_zero h
 have : ∀ n, (∃ j, j < n ∧ s.testBit j = true) → ∃ m, Least s m := by
  intro n
  induction n with
  | zero => rintro ⟨j, h, _⟩; omega
  | succ n ih =>
   intro hex
   by_cases hb : ∃ j, j < n ∧ s.testBit j = true
   ·exact ih hb
   ·obtain ⟨j, h1, h2⟩ := hex
    have hj : j = n := by
     rcases Nat.lt_or_ge j n with h3 | h3
     ·exact absurd ⟨j, h3, h2⟩ hb
     ·omega
    subst hj
    exact ⟨j, h2, fun t ht => by
     cases hc : s.testBit t with
     | false => rfl
     | true => exact absurd ⟨t, ht, hc⟩ hb⟩
 exact this (i + 1) ⟨i, by omega, hi⟩
theorem Least.form {s m : Nat} (h : Least s m) : ∃ q, s = 2 ^ m * (2 * q + 1) := by
 have h0 : s % 2 ^ m = 0 := by
  apply Nat.eq_of_testBit_eq
  intro j
  rw [Nat.testBit_mod_two_pow, Nat.zero_testBit]
  by_cases hj : j < m
  ·simp [h.below j hj]
  ·simp [hj]
 have h1 := h.here
 rw [lR, decide_eq_true_eq] at h1
 refine ⟨s / 2 ^ m / 2, ?_⟩
 have h2 : 2 * (s / 2 ^ m / 2) + 1 = s / 2 ^ m := by omega
 rw [h2, Nat.mul_comm]
 exact (Nat.div_mul_cancel (Nat.dvd_of_mod_eq_zero h0)).symm
def nt (s : Nat) : Nat := s &&& (s - 1)
theorem sJ {s m : Nat} (h : Least s m) (j : Nat) : (nt s).testBit j = (s.testBit j && decide (j ≠ m)) := by
 obtain ⟨q, hq⟩ := h.form
 have hp : 0 < 2 ^ m := Nat.pos_of_ne_zero (by simp)
 have Cu : s - 1 = 2 ^ m * (2 * q) + (2 ^ m - 1) := by rw [hq, Nat.mul_add]; omega
 have hd : (s - 1) / 2 ^ m = 2 * q := by
  rw [Cu, Nat.mul_add_div hp, Nat.div_eq_of_lt (by omega), Nat.add_zero]
 have aq : s / 2 ^ m = 2 * q + 1 := by rw [hq, Nat.mul_div_cancel_left _ hp]
 unfold nt
 rw [Nat.testBit_and]
 rcases Nat.lt_trichotomy j m with hj | hj | hj
 ·simp [h.below j hj]
 ·subst hj
  rw [lR (s - 1), hd]
  first | (simp; done) | (simp; omega)
 ·obtain ⟨i, rfl⟩ : ∃ i, j = m + 1 + i := ⟨j - m - 1, by omega⟩
  have e : ∀ x : Nat, x / 2 ^ (m + 1 + i) = x / 2 ^ m / 2 / 2 ^ i := by
   intro x
   rw [Nat.pow_add, Nat.pow_succ, ← Nat.div_div_eq_div_mul, ← Nat.div_div_eq_div_mul]
  rw [lR (s - 1), lR s, e, e, hd, aq, show (2 * q + 1) / 2 = q by omega, show (2 * q) / 2 = q by omega]
  simp
  omega
theorem I0 {s m : Nat} (h : Least s m) (n : Nat) : k8 s n = if n ≤ m then [] else (m : Int) :: k8 (nt s) n := by
 induction n with
 | zero => simp [k8]
 | succ n ih =>
  rw [vV, vV, ih, sJ h n]
  rcases Nat.lt_trichotomy n m with hj | hj | hj
  ·rw [h.below n hj, if_neg (by simp), if_pos (by omega), if_pos (by omega)]
  ·subst hj
   have e : ∀ t, t ≤ n → k8 (nt s) t = [] := by
    intro t
    induction t with
    | zero => intro _; simp [k8]
    | succ t iht =>
     intro ht
     rw [vV, iht (by omega), sJ h t, h.below t (by omega)]
     simp
   rw [if_pos h.here, if_pos (Nat.le_refl _), if_neg (by omega), e n (Nat.le_refl _)]
   simp
  ·have hne : decide (n ≠ m) = true := by simp; omega
   have e1 : ¬ n ≤ m := by omega
   have e2 : ¬ n + 1 ≤ m := by omega
   rw [hne, Bool.and_true]
   simp only [e1, e2, if_false]
   split <;> simp
theorem Least.lt {s m : Nat} (h : Least s m) (hs : s < 18446744073709551616) : m < 64 := by
 rcases Nat.lt_or_ge m 64 with hl | hl
 ·exact hl
 ·have := Nat.ge_two_pow_of_testBit h.here
  have h2 : 2 ^ 64 ≤ 2 ^ m := Nat.pow_le_pow_right (by omega) hl
  omega
theorem zC {s m : Nat} (h : Least s m) (hs : s < 18446744073709551616) : iO s = (m : Int) :: iO (nt s) := by
 unfold iO
 rw [I0 h 64, if_neg (by have := h.lt hs; omega)]
theorem FA : iO 0 = [] := by
 unfold iO k8
 simp
theorem FL (s : Nat) (hs : s < 18446744073709551616) : nt s < 18446744073709551616 := Nat.lt_of_le_of_lt Nat.and_le_left hs
theorem Pp (s : Nat) (hs : s < 18446744073709551616) (h : s ≠ 0) : Go.bits .and .u64 (s : Int) (IntKind.u64.wrap ((s : Int) - 1)) = ((nt s : Nat) : Int) := by
 rw [show (s : Int) - 1 = ((s - 1 : Nat) : Int) by omega, wW _ (by omega), u64_and_nat _ _ hs (by omega)]
 rfl
theorem Qp : ∀ (L : List Int) (s k c : Nat), s < 18446744073709551616 → iO s = L → c + L.length ≤ 64 → L.length < k → b8.l0 k (s : Int) (c : Int) = some ((c + L.length : Nat) : Int) := by
 intro L
 induction L with
 | nil =>
  intro s k c hs hL hc hk
  obtain ⟨k, rfl⟩ : ∃ m, k = m + 1 := ⟨k - 1, by omega⟩
  have h0 : s = 0 := by
   by_cases h : s = 0
   ·exact h
   ·obtain ⟨m, hm⟩ := DT s h
    rw [zC hm hs] at hL
    cases hL
  subst h0
  unfold b8.l0
  rw [if_pos (show ((0 : Nat) : Int) = 0 from rfl)]
  rfl
 | cons x L ih =>
  intro s k c hs hL hc hk
  simp only [List.length_cons] at hc hk ⊢
  obtain ⟨k, rfl⟩ : ∃ m, k = m + 1 := ⟨k - 1, by omega⟩
  have h0 : s ≠ 0 := by
   rintro rfl
   rw [FA] at hL
   cases hL
  obtain ⟨m, hm⟩ := DT s h0
  rw [zC hm hs] at hL
  injection hL with _ hL
  unfold b8.l0
  rw [if_neg (by omega), Pp s hs h0, show wrap64 ((c : Int) + 1) = ((c + 1 : Nat) : Int) by unfold wrap64; omega, ih (nt s) k (c + 1) (FL s hs) hL (by omega) (by omega)]
  congr 2
  omega
theorem CR (s : Nat) : (iO s).length ≤ 64 := DS s 64
theorem Sh (s : Nat) (hs : s < 18446744073709551616) (k : Nat) (hk : 64 < k) : b8.f k (s : Int) = some ((iO s).length : Int) := by
 have hl := CR s
 have := Qp (iO s) s k 0 hs rfl (by omega) (by omega)
 simpa [b8.f] using this
theorem N3 (s : Nat) (hs : s < 18446744073709551616) (w : World) : Calls Try.prog 27 #[.int .u64 (s : Int)] w fun e w' => e = .returned (.int .i64 ((iO s).length : Int)) ∧ Drawn0 w w' :=
 b8.calls 65 _ _ w (Sh s hs 65 (by omega))
end Go.Proofs.Ytemhalnhbgkbcaa.V
end

section
namespace Go.Proofs.Ytemhalnhbgkbcaa.V
structure Bk where
 addr : Int
 aff : ByteArray
 slots : List Int
 free : List Int
 attrs : List S85
def bk (a : Int) (s : ByteArray) (l : List Int) (v v' : Value) : List Value := .int .u32 a :: .string s :: (l.map (Value.int .u8) ++ [v, v'])
section
variable (a : Int) (s : ByteArray) (l : List Int) (v v' : Value)
theorem ao (h : l.length = 64) : (bk a s l v v').length = 68 := by simp [bk, h]
theorem EX (h : l.length = 64) (i : Nat) (hi : i < 64) : (bk a s l v v')[2 + i]? = some (.int .u8 (l.getD i 0)) := by
 have hi' : i < l.length := by omega
 rw [Nat.add_comm]
 simp [bk, List.getElem?_append_left, hi', List.getD]
theorem gF (h : l.length = 64) : (bk a s l v v')[66]? = some v := by
 simp [bk, List.getElem?_append_right, h]
theorem gv (h : l.length = 64) : (bk a s l v v')[67]? = some v' := by
 simp [bk, List.getElem?_append_right, h]
theorem mf (h : l.length = 64) : ∀ j u, (l.map (Value.int .u8))[j]? = some u → (bk a s l v v')[2 + j]? = some u := by
 intro j u hj
 have hj' : j < l.length := by
  obtain ⟨h1, _⟩ := List.getElem?_eq_some_iff.1 hj
  simpa using h1
 rw [Nat.add_comm]
 have : (bk a s l v v')[j + 2]? = (l.map (Value.int .u8) ++ [v, v'])[j]? := by simp [bk]
 rw [this, List.getElem?_append_left (by simpa using hj'), hj]
theorem cA (hv : v.oneCell' = true) (hv' : v'.oneCell' = true) : ∀ u ∈ bk a s l v v', u.oneCell' = true := by
 intro u hu
 simp only [bk, List.mem_cons, List.mem_append, List.mem_map, List.not_mem_nil, or_false] at hu
 rcases hu with rfl | rfl | ⟨x, _, rfl⟩ | rfl | rfl
 ·rfl
 ·rfl
 ·rfl
 ·exact hv
 ·exact hv'
theorem sL (h : l.length = 64) (i : Nat) (hi : i < 64) (x : Int) : (bk a s l v v').set (2 + i) (.int .u8 x) = bk a s (l.set i x) v v' := by
 have hi' : i < l.length := by omega
 rw [Nat.add_comm]
 simp [bk, List.set_append, hi', List.map_set]
theorem me (h : l.length = 64) (u : Value) : (bk a s l v v').set 66 u = bk a s l u v' := by
 simp [bk, List.set_append, h]
theorem we (h : l.length = 64) (u : Value) : (bk a s l v v').set 67 u = bk a s l v u := by
 simp [bk, List.set_append, h]
end
structure BkR (W : World) (b : Bk) (A : Option Addr) (c : Nat) (A' : Option Addr) (c' : Nat) : Prop where
 l64 : b.slots.length = 64
 fr : Kd.C (Kd.int .u8) W A b.free.length b.free
 fc : b.free.length ≤ c
 ar : Kd.C lf W A' b.attrs.length b.attrs
 ac : b.attrs.length ≤ c'
theorem BkR.below {W W1 : World} {b : Bk} {A A' : Option Addr} {c c' : Nat} (h : BkR W b A c A' c') (hb : Below W.heap.size W W1) : BkR W1 b A c A' c' := ⟨h.l64, Kd.C_below h.fr hb, h.fc, Kd.C_below h.ar hb, h.ac⟩
def jb (W : World) (v : Value) (b : Bk) : Prop := ∃ A c A' c', v = .agg (bk b.addr b.aff b.slots (.slice A b.free.length c) (.slice A' b.attrs.length c')).toArray ∧ BkR W b A c A' c'
theorem jb.below {W W1 : World} {v : Value} {b : Bk} (h : jb W v b) (hb : Below W.heap.size W W1) : jb W1 v b := by
 obtain ⟨A, c, A', c', e, hr⟩ := h
 exact ⟨A, c, A', c', e, hr.below hb⟩
theorem aX.slot {W : World} {g : Nat} {a : Int} {s : ByteArray} {l : List Int} {v v' : Value} {t : Nat} (h : aX W g (bk a s l v v') t) (hl : l.length = 64) (i : Nat) (hi : i < 64) : W.cell? ⟨g, 2 + i, none⟩ = some (.int .u8 (l.getD i 0)) := h.cell _ _ (EX a s l v v' hl i hi)
theorem Ld (w : World) : (sizeOf 5).run Try.prog w = .ok 1 w := by kernel_rfl
theorem qe (l : List Int) (hl : l.length = 64) (i : Nat) (hi : i < 64) (w : World) :
  (Instr.index 47 (.agg (l.map (Value.int .u8)).toArray) (.int .i64 (i : Int))).run Try.prog w = .ok (.int .u8 (l.getD i 0)) w :=
 CN w 47 5 64 .u8 Try.underlying47 Try.underlying5 Ld l hl i hi
end Go.Proofs.Ytemhalnhbgkbcaa.V
end

section
namespace Go.Proofs.Ytemhalnhbgkbcaa.V
def jF (b : Bk) (j : Nat) : Bool := decide (64 ≤ rd b.free j) || (decide (rd b.free j ∈ b.free.take j) || (b.slots.getD (rd b.free j).toNat 0 != 0))
def lE (b : Bk) : Bool := (List.range b.free.length).all (fun j => !jF b j) && decide (b.slots.countP (fun x => x == 0) = b.free.length)
def pI (l : List Int) : Prop := ∀ x ∈ l, 0 ≤ x ∧ x < 256
theorem lG {l : List Int} (h : pI l) (i : Int) : 0 ≤ rd l i ∧ rd l i < 256 := by
 unfold rd
 rcases Nat.lt_or_ge i.toNat l.length with hi | hi
 ·have : l.getD i.toNat 0 = l[i.toNat] := by simp [List.getD, hi]
  rw [this]
  exact h _ (List.getElem_mem _)
 ·have : l.getD i.toNat 0 = 0 := by simp [List.getD, hi]
  rw [this]
  omega
set_option maxHeartbeats 4000000 in
set_option maxRecDepth 100000 in
theorem KE (b : Bk) (hf : pI b.free) (hs : pI b.slots) (v : Value) (w : World) (h : jb w v b) :
  Calls Try.prog 87 #[v] w fun e w' => e = .returned (.bool (lE b)) ∧ Below w.heap.size w w' := by
 obtain ⟨A, c, A', c', rfl, hr⟩ := h
 have hl := hr.l64
 have HR := ak hr
 have HF := ak hf
 have HS := ak hs
 have HL := ak hl
 clear hr hf hs hl
 go_enter Try.func87, Try.ntmps87
 go_wp2_with (refine aV rfl 57 (.tmp 0) rfl _ rfl ?_; intro g W1 hg hbx cI; have HX := ak hbx; have HB := ak cI; have HG := ak hg; have HRR := ak (HR.out.below cI); have Gb := hbx.cell 66 _ (gF _ _ _ _ _ HL.out); clear hbx cI hg HR)
 go_loopw [3, 5, 12] (fun s _ i W => ∃ k nd : Nat, k ≤ b.free.length ∧ W = W1.drewN nd ∧ i = .int .i64 k ∧ s = .int .u64 ((xi (b.free.take k) : Nat) : Int) ∧ Aside0 (∀ j, j < k → jF b j = false)) (fun _ _ i _ => b.free.length - (intOf i).toNat)
 case atStart => exact ⟨0, 0, by omega, rfl, rfl, rfl, ⟨fun j hj => by omega⟩⟩
 case round =>
  obtain ⟨k, nd, hk, rfl, rfl, rfl, HJ⟩ := hrel
  have hmx : b.free.length ≤ 9223372036854775807 := HRR.out.fr.2.1
  by_cases hkn : k < b.free.length
  ·have hkb : decide ((k : Int) < (b.free.length : Int)) = true := by simp; omega
   obtain ⟨m, hm⟩ : ∃ m : Nat, rd b.free k = (m : Int) := ⟨(rd b.free k).toNat, by have := (lG HF.out k).1; omega⟩
   have sB : m < 256 := by have := (lG HF.out k).2; omega
   obtain ⟨ad, eA, hx⟩ := Kd.at_int HRR.out.fr k (by omega) (by omega)
   cases eA
   rw [hm, Int.toNat_natCast] at hx
   have HM := ak hm
   have p1 : ((k : Int) < (b.free.length : Int)) = True := eq_true (by omega)
   by_cases Ls : 64 ≤ m
   ·have Uu : decide ((64 : Int) ≤ (m : Int)) = true := by simp; omega
    have HV := ak (show lE b = false by
     unfold lE
     rw [Bool.and_eq_false_iff]
     left
     rw [List.all_eq_false]
     exact ⟨k, by simpa using hkn, by unfold jF; rw [HM.out]; simp; omega⟩)
    clear hm
    go_wp2
    go_ret
    exact ⟨by rw [HV.out]; rfl, ab HB.out _⟩
   ·have Uu : decide ((64 : Int) ≤ (m : Int)) = false := by simp; omega
    have hh : hasB (xi (b.free.take k)) (m : Int) = decide ((m : Int) ∈ b.free.take k) := by
     unfold hasB
     rw [Dv m (by omega), Bool.true_and, Int.toNat_natCast, mI _ m (by omega)]
    obtain ⟨z, fE⟩ : ∃ z : Int, b.slots.getD m 0 = z := ⟨_, rfl⟩
    have hz := HX.out.slot HL.out m (by omega)
    rw [fE] at hz
    have HZ := ak fE
    clear fE
    have HH := ak hh
    clear hh
    cases hmem : decide ((m : Int) ∈ b.free.take k) with
    | true =>
     rw [hmem] at HH
     have HV := ak (show lE b = false by
      unfold lE
      rw [Bool.and_eq_false_iff]
      left
      rw [List.all_eq_false]
      exact ⟨k, by simpa using hkn, by unfold jF; rw [HM.out, hmem]; simp⟩)
     clear hm hmem hz
     go_wp2_with (go_at_call 20; refine (yf _ (qH _) _ _).mono ?_; rintro e w' ⟨rfl, ⟨DN, rfl⟩⟩; rw [HH.out])
     go_ret
     exact ⟨by rw [HV.out]; rfl, by repeat (first | exact HB.out | apply ab)⟩
    | false =>
     rw [hmem] at HH
     cases hzz : (z != 0) with
     | true =>
      have HV := ak (show lE b = false by
       unfold lE
       rw [Bool.and_eq_false_iff]
       left
       rw [List.all_eq_false]
       exact ⟨k, by simpa using hkn, by unfold jF; rw [HM.out, Int.toNat_natCast, HZ.out, hzz]; simp⟩)
      clear hm hmem
      go_wp2_with (go_at_call 20; refine (yf _ (qH _) _ _).mono ?_; rintro e w' ⟨rfl, ⟨DN, rfl⟩⟩; rw [HH.out])
      go_ret
      exact ⟨by rw [HV.out]; rfl, by repeat (first | exact HB.out | apply ab)⟩
     | false =>
      have tX := ak (show ∀ j, j < k + 1 → jF b j = false from fun j hj => by
       by_cases hjk : j < k
       ·exact HJ.out j hjk
       ·obtain rfl : j = k := by omega
        unfold jF
        rw [HM.out, Int.toNat_natCast, HZ.out, hzz, hmem]
        simp
        omega)
      have HO := ak (show mU (xi (b.free.take k)) (m : Int) = xi (b.free.take (k + 1)) by
       have e : b.free.take (k + 1) = b.free.take k ++ [(m : Int)] := by
        rw [List.take_add_one, ← HM.out]
        simp [rd, List.getD, List.getElem?_eq_getElem hkn]
       rw [e]
       unfold xi
       rw [List.foldl_append]
       rfl)
      clear hm hmem
      go_wp2_with (first | (go_at_call 20; refine (yf _ (qH _) _ _).mono ?_; rintro e w' ⟨rfl, ⟨DN, rfl⟩⟩; rw [HH.out]) | (go_at_call 21; refine (yO _ (qH _) _ _).mono ?_; rintro e w' ⟨rfl, ⟨Qo, rfl⟩⟩; rw [HO.out]))
      go_roundw
      case rel => exact ⟨k + 1, nd + DN + Qo, by omega, by simp [Nat.add_assoc], by go_num, rfl, tX⟩
      case measure => simp [intOf]; omega
  ·obtain rfl : k = b.free.length := by omega
   have HA := ak (show (List.range b.free.length).all (fun j => !jF b j) = true by
    rw [List.all_eq_true]
    intro j hj
    rw [HJ.out j (by simpa using hj)]
    rfl)
   have hlen : (Try.prog.info? 47).map (·.size) = some (b.slots.map (Value.int .u8)).length := by rw [List.length_map, HL.out]; kernel_rfl
   go_wp2_with (refine fN rfl 47 (.tmp 37) rfl g 2 rfl 57 _ (b.slots.map (Value.int .u8)) (.array 64 5) HX.out (mf _ _ _ _ _ HL.out) Try.underlying47 rfl hlen ?_)
   go_loopw [6, 8, 39] (fun s _ i W => ∃ q nd : Nat, q ≤ 64 ∧ W = W1.drewN nd ∧ i = .int .i64 q ∧ s = .int .i64 (((b.slots.take q).countP (fun x => x == 0) : Nat) : Int)) (fun _ _ i _ => 64 - (intOf i).toNat)
   case atStart => exact ⟨0, nd, by omega, rfl, rfl, rfl⟩
   case round =>
    obtain ⟨q, nd, hq, rfl, rfl, rfl⟩ := hrel
    by_cases yB : q < 64
    ·have hqb : decide ((q : Int) < 64) = true := by simp; omega
     obtain ⟨z, fE⟩ : ∃ z : Int, b.slots.getD q 0 = z := ⟨_, rfl⟩
     have hix := fun w => qe b.slots HL.out q yB w
     rw [fE] at hix
     have hql : q < b.slots.length := by have := HL.out; omega
     have hcp : (b.slots.take (q + 1)).countP (fun x => x == 0) = (b.slots.take q).countP (fun x => x == 0) + if (z == 0) = true then 1 else 0 := by
      rw [List.take_add_one, List.countP_append, List.getElem?_eq_getElem hql]
      have : b.slots[q] = z := by rw [← fE]; simp [List.getD, List.getElem?_eq_getElem hql]
      rw [this]
      simp
     have hcl : (b.slots.take q).countP (fun x => x == 0) ≤ 64 := Nat.le_trans List.countP_le_length (by simp; omega)
     cases hzz : (z == 0) with
     | true =>
      rw [hzz, if_pos rfl] at hcp
      have HC := ak hcp
      clear fE hcp
      go_wp2
      go_roundw
      case rel => exact ⟨q + 1, nd, by omega, rfl, by go_num, by rw [HC.out]; go_num⟩
      case measure => simp [intOf]; omega
     | false =>
      rw [hzz, if_neg (by decide)] at hcp
      have HC := ak hcp
      clear fE hcp
      go_wp2
      go_roundw
      case rel => exact ⟨q + 1, nd, by omega, rfl, by go_num, by rw [HC.out]; rfl⟩
      case measure => simp [intOf]; omega
    ·obtain rfl : q = 64 := by omega
     have hqb : decide ((64 : Int) < 64) = false := by decide
     have HV := ak (show lE b = decide (b.slots.countP (fun x => x == 0) = b.free.length) by
      unfold lE
      rw [HA.out, Bool.true_and])
     have HT := ak (show b.slots.take 64 = b.slots from List.take_of_length_le (by have := HL.out; omega))
     go_wp2
     go_ret
     refine ⟨?_, by repeat (first | exact HB.out | apply ab)⟩
     rw [HV.out]
     simp only [HT.out]
     show Ending.returned (Value.bool (((b.slots.countP (fun x => x == 0) : Nat) : Int) == ((b.free.length : Nat) : Int))) = _
     congr 2
     rw [Bool.eq_iff_iff, beq_iff_eq, decide_eq_true_eq]
     exact Int.ofNat_inj
end Go.Proofs.Ytemhalnhbgkbcaa.V
end

section
namespace Go.Proofs.Ytemhalnhbgkbcaa.V
attribute [local go_sem] dA dy ed ec cP cN dz dx
theorem Ho (d : Nat) (w : World) (x0 y0 : ByteArray) (x1 y1 : ByteArray) :
  (Op.equalIn (d + 2) 85 (.agg #[.string x0, .string x1]) (.agg #[.string y0, .string y1])).run Try.prog w = .ok (x0.toList == y0.toList && (x1.toList == y1.toList)) w := by
 refine Jp Try.underlying85 (by kernel_rfl) ?_
 refine Er (by rfl) (by go_simp; rfl) (by go_simp; rfl) (by go_simp) ?_
 exact Ep (by rfl) (by go_simp; rfl) (by go_simp; rfl) (by go_simp)
end Go.Proofs.Ytemhalnhbgkbcaa.V
end

section
namespace Go.Proofs.Ytemhalnhbgkbcaa.V
open Go.ChangeMaps (setBlock)
abbrev At := S85
def fv (a : At) : Value := .agg #[.string a.f0, .string a.f1]
def sameAt (a b : At) : Bool := a.f0.toList == b.f0.toList && a.f1.toList == b.f1.toList
theorem l8 (a b : At) : sameAt a b = true ↔ a = b := by
 obtain ⟨x, y⟩ := a
 obtain ⟨z, u⟩ := b
 simp only [sameAt, Bool.and_eq_true, beq_iff_eq, S85.mk.injEq]
 have h : ∀ p q : ByteArray, p.toList = q.toList ↔ p = q := fun p q => by
  rw [ByteArray.toList_eq, ByteArray.toList_eq]
  exact ⟨fun h => by obtain ⟨⟨l⟩⟩ := p; obtain ⟨⟨l'⟩⟩ := q; simp_all, fun h => by rw [h]⟩
 rw [h, h]
theorem yv (a b : At) : sameAt a b = sameAt b a := by
 rw [Bool.eq_iff_iff, l8, l8]
 exact ⟨Eq.symm, Eq.symm⟩
theorem qo (a : At) : sameAt a a = true := (l8 a a).2 rfl
theorem G3 (a b : At) (w : World) : (Op.equal 85 (fv a) (fv b)).run Try.prog w = .ok (sameAt a b) w := Ho _ w a.f0 b.f0 a.f1 b.f1
theorem BG (e : Bool) (a : At) (w : World) : (Instr.checkKey e 10000 85 (fv a)).run Try.prog w = .ok () w := by kernel_rfl
def fu (L : List (At × Int)) : List MapEntry := L.mapIdx fun i p => ⟨fv p.1, .int .i64 p.2, i⟩
def nQ (W : World) (g : Nat) (L : List (At × Int)) : Prop := W.heap[g]? = some (.map (fu L).toArray L.length)
def numOf (L : List (At × Int)) (a : At) : Int := match L.find? (fun p => sameAt a p.1) with | some p => p.2 | none => 0
def idxOf (L : List (At × Int)) (a : At) : Option Nat := L.findIdx? (fun p => sameAt a p.1)
def putAt (L : List (At × Int)) (a : At) (v : Int) : List (At × Int) := match idxOf L a with | some i => L.modify i (fun p => (p.1, v)) | none => L ++ [(a, v)]
theorem Eo (a : At) (w : World) : ∀ (L : List (At × Int)) (o i : Nat),
  (Instr.findAsking 85 (fv a) (L.mapIdx fun j p => (⟨fv p.1, .int .i64 p.2, o + j⟩ : MapEntry)) i).run Try.prog w = .ok ((idxOf L a).bind fun j => L[j]?.map fun p => (i + j, .int .i64 p.2)) w
 | [], _, _ => rfl
 | p :: L, o, i => by
  have ih := Eo a w L (o + 1) (i + 1)
  rw [List.mapIdx_cons]
  unfold Instr.findAsking idxOf
  rw [List.findIdx?_cons]
  simp only [Sem.run_bind, G3, Result.andThen_ok, Nat.add_zero]
  cases h : sameAt a p.1 with
  | true => simp
  | false =>
   simp only [Bool.false_eq_true, if_false]
   have e : (L.mapIdx fun j p => (⟨fv p.1, .int .i64 p.2, o + (j + 1)⟩ : MapEntry)) = (L.mapIdx fun j p => (⟨fv p.1, .int .i64 p.2, o + 1 + j⟩ : MapEntry)) := by
    congr 1
    funext j p
    rw [Nat.add_right_comm, Nat.add_assoc]
   rw [e, ih]
   unfold idxOf
   cases h2 : List.findIdx? (fun p => sameAt a p.1) L with
   | none => simp
   | some j =>
    simp only [Option.bind_some, Option.map_some, List.getElem?_cons_succ]
    rw [show i + 1 + j = i + (j + 1) by omega]
theorem yE (a : At) (w : World) (L : List (At × Int)) :
  (Instr.findKey 85 (fv a) (fu L)).run Try.prog w = .ok ((idxOf L a).bind fun j => L[j]?.map fun p => (j, .int .i64 p.2)) w := by
 have h := Eo a w L 0 0
 simp only [Nat.zero_add] at h
 have hu := run_underlying (w := w) Try.underlying85
 unfold Instr.findKey
 simp only [Sem.run_bind, hu, Result.andThen_ok]
 cases L with
 | nil => rfl
 | cons p L =>
  have e : ∀ k r, Instr.findNow k (fv a) (fu (p :: L)) 0 = none → ((match Instr.findNow k (fv a) (fu (p :: L)) 0 with | some r => pure r | none => Instr.findAsking 85 (fv a) (fu (p :: L))) : Sem (Option (Nat × Value))).run Try.prog w = r → (match Instr.findNow k (fv a) (fu (p :: L)) 0 with | some r => pure r | none => Instr.findAsking 85 (fv a) (fu (p :: L)) : Sem (Option (Nat × Value))).run Try.prog w = r := fun _ _ _ h => h
  rw [show ∀ fs, Instr.findNow (.struct fs) (fv a) (fu (p :: L)) 0 = none from fun fs => by simp [fu, List.mapIdx_cons, Instr.findNow, Instr.sameNow, fv]]
  exact h
theorem zE {L : List (At × Int)} {a : At} {j : Nat} (h : idxOf L a = some j) : ∃ p, L[j]? = some p ∧ sameAt a p.1 = true ∧ numOf L a = p.2 := by
 unfold idxOf at h
 obtain ⟨hj, h1, h2⟩ := List.findIdx?_eq_some_iff_getElem.1 h
 refine ⟨L[j], List.getElem?_eq_getElem hj, h1, ?_⟩
 unfold numOf
 have : L.find? (fun p => sameAt a p.1) = some L[j] := by
  rw [List.find?_eq_some_iff_getElem]
  exact ⟨h1, j, hj, rfl, fun k hk => by simpa using h2 k hk⟩
 rw [this]
theorem rv {L : List (At × Int)} {a : At} (h : idxOf L a = none) : (∀ p ∈ L, sameAt a p.1 = false) ∧ numOf L a = 0 := by
 unfold idxOf at h
 have h1 : ∀ p ∈ L, sameAt a p.1 = false := by simpa using h
 refine ⟨h1, ?_⟩
 unfold numOf
 have : L.find? (fun p => sameAt a p.1) = none := by simpa using h1
 rw [this]
theorem K7 (w : World) : (zeroValue 3).run Try.prog w = .ok (.int .i64 0) w := by kernel_rfl
theorem yS (W : World) (g : Nat) (L : List (At × Int)) (h : nQ W g L) (a : At) : (Instr.lookup 93 (.map (some g)) (fv a) false).run Try.prog W = .ok (.int .i64 (numOf L a)) W := by
 have hk := yE a W L
 unfold Instr.lookup
 simp only [Sem.run_bind, run_underlying Try.underlying93, Result.andThen_ok, MapKept.run_getObj_map h, BG, Sem.run_pure, hk]
 cases hi : idxOf L a with
 | none =>
  rw [(rv hi).2]
  simp [K7]
 | some j =>
  obtain ⟨p, hp, _, hn⟩ := zE hi
  rw [hn]
  simp [hp]
theorem zz {L : List (At × Int)} {a : At} (h : idxOf L a = none) (v : Int) : numOf (L ++ [(a, v)]) a = v := by
 have h1 := (rv h).1
 have h2 : L.find? (fun p => sameAt a p.1) = none := by simpa using h1
 unfold numOf
 rw [List.find?_append, h2]
 simp [qo]
theorem IU {L : List (At × Int)} {a : At} (h : idxOf L a = none) : numOf (L ++ [(a, 0)]) a = numOf L a := by
 rw [zz h, (rv h).2]
theorem Fs (a b : At) (h : sameAt a b = true) : Instr.sameBits 10000 (fv a) (fv b) = true := by
 obtain rfl := (l8 a b).1 h
 show ((2 == 2) && ((#[Value.string a.f0, .string a.f1].toList.zip #[Value.string a.f0, .string a.f1].toList).all fun (x, y) => Instr.sameBits 9999 x y)) = true
 simp [Instr.sameBits, MapKept.bytes_beq]
theorem DR (L : List (At × Int)) : (fu L).length = L.length := by simp [fu]
theorem xk (L : List (At × Int)) (i : Nat) : (fu L)[i]? = L[i]?.map fun p => ⟨fv p.1, .int .i64 p.2, i⟩ := by simp [fu]
theorem zB (L : List (At × Int)) (j : Nat) (hj : j < L.length) : (fu L).findIdx? (fun e => (e.born : Int) == (j : Int)) = some j := by
 rw [List.findIdx?_eq_some_iff_getElem]
 refine ⟨by rw [DR]; exact hj, ?_, fun k hk => ?_⟩
 ·simp [fu]
 ·simp only [fu, List.getElem_mapIdx, Bool.not_eq_true, beq_eq_false_iff_ne]
  omega
theorem CC (j : Nat) (w : World) : (asInt (.int .i64 (j : Int))).run Try.prog w = .ok (j : Int) w := by simp [asInt, asIntOf]
theorem Jq (W : World) (g : Nat) (L : List (At × Int)) (h : nQ W g L) (hl : L.length < 1000) (a : At) (v : Int) :
  ∃ W1 W2 j, (Instr.mapEntry 93 (.map (some g)) (fv a)).run Try.prog W = .ok (.tuple #[.int .i64 (numOf L a), .int .i64 j]) W1 ∧ (∃ L1, nQ W1 g L1 ∧ numOf L1 a = numOf L a) ∧
   (Instr.entryStore 93 (.map (some g)) (.int .i64 j) (.int .i64 v)).run Try.prog W1 = .ok () W2 ∧ nQ W2 g (putAt L a v) ∧ W.grownBy W2 (some g) ∧ (∀ p, p.block ≠ g → W1.cell? p = W.cell? p) := by
 have hk := yE a W L
 have hb : ∀ (w : World) (es es' : Array MapEntry) (c c' : Nat), w.heap[g]? = some (.map es c) → (setBlock w g (.map es' c')).heap[g]? = some (.map es' c') := fun w es es' c c' hw => by
  have := (Array.getElem?_eq_some_iff.1 hw).1
  simp [setBlock, this]
 have hgr : ∀ (es : Array MapEntry) (c : Nat), W.grownBy (setBlock W g (.map es c)) (some g) := fun es c => ⟨rfl, rfl, rfl, by simp [setBlock], fun k _ hk => by simp only [setBlock]; rw [Array.getElem?_setIfInBounds_ne (fun e => hk (by rw [e]))]⟩
 have hc : ∀ (es : Array MapEntry) (c : Nat) (p : Addr), p.block ≠ g → (setBlock W g (.map es c)).cell? p = W.cell? p := fun es c p hp => by
  have : (setBlock W g (.map es c)).heap[p.block]? = W.heap[p.block]? := by simp only [setBlock]; rw [Array.getElem?_setIfInBounds_ne (fun e => hp e.symm)]
  simp [World.cell?, this]
 have hu := run_underlying (w := W) Try.underlying93
 cases hi : idxOf L a with
 | none =>
  rw [hi] at hk
  have e1 : (fu L).toArray.push ⟨fv a, .int .i64 0, L.length⟩ = (fu (L ++ [(a, 0)])).toArray := by
   simp [fu, List.mapIdx_append]
  have xx : (setBlock W g (.map (fu (L ++ [(a, 0)])).toArray (L.length + 1))).heap[g]? = some (.map (fu (L ++ [(a, 0)])).toArray (L.length + 1)) := hb W _ _ _ _ h
  refine ⟨setBlock W g (.map (fu (L ++ [(a, 0)])).toArray (L.length + 1)), setBlock W g (.map (fu (L ++ [(a, v)])).toArray (L.length + 1)), L.length, ?_, ⟨L ++ [(a, 0)], by unfold nQ; rw [List.length_append]; exact xx, IU hi⟩, ?_, ?_, hgr _ _, fun p hp => hc _ _ p hp⟩
  ·rw [(rv hi).2, ← e1]
   unfold Instr.mapEntry
   simp only [Sem.run_bind, hu, Result.andThen_ok, MapKept.run_getObj_map h, BG, Sem.run_pure, hk, Option.bind_none, K7, MapKept.run_setObj_map _ h]
   rfl
  ·have e2 : ((fu (L ++ [(a, 0)])).toArray.modify L.length fun e => { e with val := .int .i64 v }) = (fu (L ++ [(a, v)])).toArray := by
    apply Array.ext_getElem?
    intro k
    rw [Array.getElem?_modify]
    simp only [List.getElem?_toArray, xk]
    rcases Nat.lt_trichotomy k L.length with hk | hk | hk
    ·rw [if_neg (by omega), List.getElem?_append_left hk, List.getElem?_append_left hk]
    ·subst hk
     simp
    ·rw [if_neg (by omega), List.getElem?_eq_none (by simp; omega), List.getElem?_eq_none (by simp; omega)]
   have hf : (fu (L ++ [(a, 0)])).toArray.findIdx? (fun e => (e.born : Int) == ((L.length : Nat) : Int)) = some L.length := by
    rw [List.findIdx?_toArray]
    exact zB _ _ (by simp)
   unfold Instr.entryStore
   simp only [Sem.run_bind, Result.andThen_ok, MapKept.run_getObj_map xx, Sem.run_pure, CC, hf, MapKept.run_setObj_map _ xx, e2]
   simp [setBlock, Array.setIfInBounds_setIfInBounds]
  ·have := hb W (fu L).toArray (fu (L ++ [(a, v)])).toArray L.length (L.length + 1) h
   unfold nQ putAt
   rw [hi]
   simpa using this
 | some j =>
  obtain ⟨p, hp, hsm, hn⟩ := zE hi
  have hjl : j < L.length := (List.getElem?_eq_some_iff.1 hp).1
  rw [hi] at hk
  have hent : (fu L).toArray[j]? = some ⟨fv p.1, .int .i64 p.2, j⟩ := by
   rw [List.getElem?_toArray, xk, hp]
   rfl
  obtain rfl := (l8 a p.1).1 hsm
  have e1 : ((fu L).toArray.modify j fun e => { e with key := fv p.1 }) = (fu L).toArray := by
   apply Array.ext_getElem?
   intro k
   rw [Array.getElem?_modify]
   by_cases hk : k = j
   ·subst hk
    rw [if_pos rfl, hent]
    rfl
   ·rw [if_neg (fun e => hk e.symm)]
  have xx : (setBlock W g (.map (fu L).toArray L.length)).heap[g]? = some (.map (fu L).toArray L.length) := hb W _ _ _ _ h
  refine ⟨setBlock W g (.map (fu L).toArray L.length), setBlock W g (.map (fu (L.modify j fun q => (q.1, v))).toArray L.length), j, ?_, ⟨L, xx, rfl⟩, ?_, ?_, hgr _ _, fun p hp => hc _ _ p hp⟩
  ·rw [hn]
   unfold Instr.mapEntry
   simp only [Sem.run_bind, hu, Result.andThen_ok, MapKept.run_getObj_map h, BG, Sem.run_pure, hk, Option.bind_some, hp, Option.map_some, hent, Option.getD_some, Instr.keyThatStays, Fs _ _ hsm, if_true, e1, MapKept.run_setObj_map _ h]
   rfl
  ·have e2 : ((fu L).toArray.modify j fun e => { e with val := .int .i64 v }) = (fu (L.modify j fun q => (q.1, v))).toArray := by
    apply Array.ext_getElem?
    intro k
    rw [Array.getElem?_modify]
    simp only [List.getElem?_toArray, xk, List.getElem?_modify]
    by_cases hk : j = k
    ·subst hk
     simp [hp]
    ·simp [hk]
   have hf : (fu L).toArray.findIdx? (fun e => (e.born : Int) == ((j : Nat) : Int)) = some j := by
    rw [List.findIdx?_toArray]
    exact zB _ _ hjl
   unfold Instr.entryStore
   simp only [Sem.run_bind, Result.andThen_ok, MapKept.run_getObj_map xx, Sem.run_pure, CC, hf, MapKept.run_setObj_map _ xx, e2]
   simp [setBlock, Array.setIfInBounds_setIfInBounds]
  ·have := hb W (fu L).toArray (fu (L.modify j fun q => (q.1, v))).toArray L.length L.length h
   unfold nQ putAt
   rw [hi]
   simpa using this
theorem Cm (L : List (At × Int)) (a : At) (v : Int) : numOf (putAt L a v) a = v := by
 unfold putAt
 cases hi : idxOf L a with
 | none => exact zz hi v
 | some j =>
  have hi' := hi
  unfold idxOf at hi'
  obtain ⟨hj, h1, h2⟩ := List.findIdx?_eq_some_iff_getElem.1 hi'
  unfold numOf
  have : (L.modify j fun p => (p.1, v)).find? (fun p => sameAt a p.1) = some (L[j].1, v) := by
   rw [List.find?_eq_some_iff_getElem]
   refine ⟨h1, j, by simpa using hj, by simp, fun k hk => ?_⟩
   have := h2 k hk
   simp only [List.getElem_modify]
   rw [if_neg (by omega)]
   simpa using this
  rw [this]
end Go.Proofs.Ytemhalnhbgkbcaa.V
end

section
namespace Go.Proofs.Ytemhalnhbgkbcaa.V
attribute [local go_sem] dA dy ed ec cP cN dz dx
mutual
def cg.j0 : Nat → Int → Bool → Option (Bool)
 | 0, _, _ => none
 | k + 1, x0, x3 => if x3 = true then (cg.j1 k x0 x3) else (if x0 ≥ 65 then (if x0 ≤ 90 then (cg.j1 k x0 (decide (x0 ≤ 90))) else (if x0 ≥ 48 then (cg.j1 k x0 (decide (x0 ≤ 57))) else (cg.j1 k x0 false))) else (if x0 ≥ 48 then (cg.j1 k x0 (decide (x0 ≤ 57))) else (cg.j1 k x0 false)))
def cg.j1 : Nat → Int → Bool → Option (Bool)
 | 0, _, _ => none
 | k + 1, x0, x3 => if x3 = true then (some true) else (if x0 = 46 then (some true) else (if x0 = 45 then (some true) else (if x0 = 95 then (some true) else (some false))))
end
def cg.f (k : Nat) (a0 : Int) : Option (Bool) := if a0 ≥ 97 then (cg.j0 k a0 (decide (a0 ≤ 122))) else (cg.j0 k a0 false)
theorem cg.mono_l : ∀ k, (∀ y0 y1, aC (cg.j0 k y0 y1) (cg.j0 (k + 1) y0 y1)) ∧ (∀ y0 y1, aC (cg.j1 k y0 y1) (cg.j1 (k + 1) y0 y1))
 | 0 => ⟨fun _ _ r h => by simp [cg.j0] at h, fun _ _ r h => by simp [cg.j1] at h⟩
 | k + 1 => by
  obtain ⟨cE, gW⟩ := cg.mono_l k
  refine ⟨?_, ?_⟩
  ·intro y0 y1
   unfold cg.j0
   repeat' first
   | (with_reducible exact cE _ _)
   | (with_reducible exact gW _ _)
   | (with_reducible exact aC.refl _)
   | (with_reducible exact aC.none _)
   | (with_reducible refine aC.ite ?_ ?_)
   | (with_reducible refine aC.bind ?_ (fun _ => ?_))
   | exact cE _ _
   | exact gW _ _
   | exact aC.none _
   | refine aC.ite ?_ ?_
   | refine aC.bind ?_ (fun _ => ?_)
  ·intro y0 y1
   unfold cg.j1
   repeat' first
   | (with_reducible exact cE _ _)
   | (with_reducible exact gW _ _)
   | (with_reducible exact aC.refl _)
   | (with_reducible exact aC.none _)
   | (with_reducible refine aC.ite ?_ ?_)
   | (with_reducible refine aC.bind ?_ (fun _ => ?_))
   | exact cE _ _
   | exact gW _ _
   | exact aC.none _
   | refine aC.ite ?_ ?_
   | refine aC.bind ?_ (fun _ => ?_)
theorem cg.mono : ∀ a0 k, aC (cg.f k a0) (cg.f (k + 1) a0) := by
 intro a0 k
 obtain ⟨cE, gW⟩ := cg.mono_l k
 unfold cg.f
 repeat' first
   | (with_reducible exact cE _ _)
   | (with_reducible exact gW _ _)
   | (with_reducible exact aC.refl _)
   | (with_reducible exact aC.none _)
   | (with_reducible refine aC.ite ?_ ?_)
   | (with_reducible refine aC.bind ?_ (fun _ => ?_))
   | exact cE _ _
   | exact gW _ _
   | exact aC.none _
   | refine aC.ite ?_ ?_
   | refine aC.bind ?_ (fun _ => ?_)
set_option maxHeartbeats 8000000 in
set_option maxRecDepth 100000 in
theorem cg.calls (k : Nat) (a0 : Int) (r : Bool) (w : World) (h : cg.f k a0 = some r) :
  Calls Try.prog 112 #[.int .i32 a0] w fun e w' => e = .returned (.bool r) ∧ Drawn0 w w' := by
 have H : (if a0 ≥ 97 then (cg.j0 k a0 (decide (a0 ≤ 122))) else (cg.j0 k a0 false)) = some r := h
 clear h
 have yL := ak H
 clear H
 go_enter Try.func112, Try.ntmps112
 go_upto_region 1 with (fail)
 go_cut [3] (fun v3 wc => ∃ (kq : Nat) (av : Bool), v3 = .bool av ∧ Aside0 (cg.j0 kq a0 av = some r) ∧ Aside0 (kq ≤ k) ∧ Drawn0 w wc)
 case first =>
  have H := yL.out
  clear yL
  by_cases c3 : a0 ≥ 97
  ·rw [if_pos c3] at H
   have kT : decide (97 ≤ a0) = true := decide_eq_true c3
   clear c3
   (first | rw [kT] | (simp only [iT, jx]; rw [kT]) | skip)
   have H' := ak H
   clear H
   go_wp2
   go_meet
   case rel => exact ⟨_, (decide (a0 ≤ 122)), (by first | rfl | (simp; done) | (simp [*]; done)), H', ⟨by first | omega | exact Nat.le_refl _⟩, by repeat (first | exact Drawn0.refl _ | apply Drawn0.step)⟩
  ·rw [if_neg c3] at H
   have kT : decide (97 ≤ a0) = false := decide_eq_false c3
   clear c3
   (first | rw [kT] | (simp only [iT, jx]; rw [kT]) | skip)
   have H' := ak H
   clear H
   go_wp2
   go_meet
   case rel => exact ⟨_, (false), (by first | rfl | (simp; done) | (simp [*]; done)), H', ⟨by first | omega | exact Nat.le_refl _⟩, by repeat (first | exact Drawn0.refl _ | apply Drawn0.step)⟩
 case rest =>
  clear yL
  obtain ⟨kq, av, rfl, HA, oB, ⟨mc1, rfl⟩⟩ := hcut
  cases kq with
  | zero => exact absurd HA.out (by simp [cg.j0])
  | succ xn =>
   have H := HA.out
   clear HA
   simp only [cg.j0] at H
   have R3 := ak H
   clear H
   go_upto_if 3 with (fail)
   go_cut [3] (fun v3 wc => ∃ (kq : Nat) (GU : Bool), v3 = .bool GU ∧ Aside0 (cg.j1 kq a0 GU = some r) ∧ Aside0 (kq ≤ xn) ∧ Drawn0 w wc)
   case first =>
    have H := R3.out
    clear R3
    by_cases c5 : av = true
    ·subst c5
     have H1 : (cg.j1 xn a0 true) = some r := by rw [if_pos rfl] at H; exact H
     clear H
     have H := H1
     clear H1
     have H' := ak H
     clear H
     go_wp2
     go_meet
     case rel => exact ⟨_, (true), (by first | rfl | (simp; done) | (simp [*]; done)), H', ⟨by have := oB.out; first | omega | exact Nat.le_refl _⟩, by repeat (first | exact Drawn0.refl _ | apply Drawn0.step)⟩
    ·replace c5 := Bool.eq_false_iff.mpr c5
     subst c5
     have H1 : (if a0 ≥ 65 then (if a0 ≤ 90 then (cg.j1 xn a0 (decide (a0 ≤ 90))) else (if a0 ≥ 48 then (cg.j1 xn a0 (decide (a0 ≤ 57))) else (cg.j1 xn a0 false))) else (if a0 ≥ 48 then (cg.j1 xn a0 (decide (a0 ≤ 57))) else (cg.j1 xn a0 false))) = some r := by rw [if_neg (show ¬ (false = true) by decide)] at H; exact H
     clear H
     have H := H1
     clear H1
     by_cases c6 : a0 ≥ 65
     ·rw [if_pos c6] at H
      have oK : decide (65 ≤ a0) = true := decide_eq_true c6
      clear c6
      (first | rw [oK] | (simp only [iT, jx]; rw [oK]) | skip)
      by_cases c7 : a0 ≤ 90
      ·rw [if_pos c7] at H
       have lh : decide (a0 ≤ 90) = true := decide_eq_true c7
       clear c7
       have H' := ak H
       clear H
       go_wp2
       go_meet
       case rel => exact ⟨_, (decide (a0 ≤ 90)), (by first | rfl | (simp; done) | (simp [*]; done)), H', ⟨by have := oB.out; first | omega | exact Nat.le_refl _⟩, by repeat (first | exact Drawn0.refl _ | apply Drawn0.step)⟩
      ·rw [if_neg c7] at H
       have lh : decide (a0 ≤ 90) = false := decide_eq_false c7
       clear c7
       by_cases c8 : a0 ≥ 48
       ·rw [if_pos c8] at H
        have sK : decide (48 ≤ a0) = true := decide_eq_true c8
        clear c8
        have H' := ak H
        clear H
        go_wp2
        go_meet
        case rel => exact ⟨_, (decide (a0 ≤ 57)), (by first | rfl | (simp; done) | (simp [*]; done)), H', ⟨by have := oB.out; first | omega | exact Nat.le_refl _⟩, by repeat (first | exact Drawn0.refl _ | apply Drawn0.step)⟩
       ·rw [if_neg c8] at H
        have sK : decide (48 ≤ a0) = false := decide_eq_false c8
        clear c8
        have H' := ak H
        clear H
        go_wp2
        go_meet
        case rel => exact ⟨_, (false), (by first | rfl | (simp; done) | (simp [*]; done)), H', ⟨by have := oB.out; first | omega | exact Nat.le_refl _⟩, by repeat (first | exact Drawn0.refl _ | apply Drawn0.step)⟩
     ·rw [if_neg c6] at H
      have oK : decide (65 ≤ a0) = false := decide_eq_false c6
      clear c6
      (first | rw [oK] | (simp only [iT, jx]; rw [oK]) | skip)
      by_cases c9 : a0 ≥ 48
      ·rw [if_pos c9] at H
       have EF : decide (48 ≤ a0) = true := decide_eq_true c9
       clear c9
       have H' := ak H
       clear H
       go_wp2
       go_meet
       case rel => exact ⟨_, (decide (a0 ≤ 57)), (by first | rfl | (simp; done) | (simp [*]; done)), H', ⟨by have := oB.out; first | omega | exact Nat.le_refl _⟩, by repeat (first | exact Drawn0.refl _ | apply Drawn0.step)⟩
      ·rw [if_neg c9] at H
       have EF : decide (48 ≤ a0) = false := decide_eq_false c9
       clear c9
       have H' := ak H
       clear H
       go_wp2
       go_meet
       case rel => exact ⟨_, (false), (by first | rfl | (simp; done) | (simp [*]; done)), H', ⟨by have := oB.out; first | omega | exact Nat.le_refl _⟩, by repeat (first | exact Drawn0.refl _ | apply Drawn0.step)⟩
   case rest =>
    clear R3
    obtain ⟨kq, GU, rfl, HA, TY, ⟨mc3, rfl⟩⟩ := hcut
    cases kq with
    | zero => exact absurd HA.out (by simp [cg.j1])
    | succ kj3 =>
     have H := HA.out
     clear HA
     simp only [cg.j1] at H
     by_cases c10 : GU = true
     ·subst c10
      have H1 : (some true) = some r := by rw [if_pos rfl] at H; exact H
      clear H
      have H := H1
      clear H1
      obtain rfl := Option.some.inj H
      go_wp2
      go_ret
      exact ⟨by first | rfl | (simp; done) | (simp [*]; done), by repeat (first | exact Drawn0.refl _ | apply Drawn0.step)⟩
     ·replace c10 := Bool.eq_false_iff.mpr c10
      subst c10
      have H1 : (if a0 = 46 then (some true) else (if a0 = 45 then (some true) else (if a0 = 95 then (some true) else (some false)))) = some r := by rw [if_neg (show ¬ (false = true) by decide)] at H; exact H
      clear H
      have H := H1
      clear H1
      by_cases l7 : a0 = 46
      ·rw [if_pos l7] at H
       have zO : (a0 == 46) = true := beq_iff_eq.mpr l7
       have C8 : (a0 != 46) = false := bne_eq_false_iff_eq.mpr l7
       clear l7
       obtain rfl := Option.some.inj H
       go_wp2
       go_ret
       exact ⟨by first | rfl | (simp; done) | (simp [*]; done), by repeat (first | exact Drawn0.refl _ | apply Drawn0.step)⟩
      ·rw [if_neg l7] at H
       have zO : (a0 == 46) = false := beq_eq_false_iff_ne.mpr l7
       have C8 : (a0 != 46) = true := bne_iff_ne.mpr l7
       by_cases mC : a0 = 45
       ·rw [if_pos mC] at H
        have C7 : (a0 == 45) = true := beq_iff_eq.mpr mC
        have Hy : (a0 != 45) = false := bne_eq_false_iff_eq.mpr mC
        clear mC
        obtain rfl := Option.some.inj H
        go_wp2
        go_ret
        exact ⟨by first | rfl | (simp; done) | (simp [*]; done), by repeat (first | exact Drawn0.refl _ | apply Drawn0.step)⟩
       ·rw [if_neg mC] at H
        have C7 : (a0 == 45) = false := beq_eq_false_iff_ne.mpr mC
        have Hy : (a0 != 45) = true := bne_iff_ne.mpr mC
        by_cases oY : a0 = 95
        ·rw [if_pos oY] at H
         have Hx : (a0 == 95) = true := beq_iff_eq.mpr oY
         have Hw : (a0 != 95) = false := bne_eq_false_iff_eq.mpr oY
         clear oY
         obtain rfl := Option.some.inj H
         go_wp2
         go_ret
         exact ⟨by first | rfl | (simp; done) | (simp [*]; done), by repeat (first | exact Drawn0.refl _ | apply Drawn0.step)⟩
        ·rw [if_neg oY] at H
         have Hx : (a0 == 95) = false := beq_eq_false_iff_ne.mpr oY
         have Hw : (a0 != 95) = true := bne_iff_ne.mpr oY
         obtain rfl := Option.some.inj H
         go_wp2
         go_ret
         exact ⟨by first | rfl | (simp; done) | (simp [*]; done), by repeat (first | exact Drawn0.refl _ | apply Drawn0.step)⟩
end Go.Proofs.Ytemhalnhbgkbcaa.V
end

