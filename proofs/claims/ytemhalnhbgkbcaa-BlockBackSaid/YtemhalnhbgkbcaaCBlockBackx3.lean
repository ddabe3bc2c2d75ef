/- The law BlockBack for every input: texts of ours, put together (part 4 of 16). No further condition. -/
import Derived.Test.YtemhalnhbgkbcaaCBlockBackx2
import Derived.Test.YtemhalnhbgkbcaaProg
import Derived.Below
import Derived.Deep.Draws
import Derived.Deep.AppendLies
import Derived.Maps.AppendAt
import Derived.OwnWalk
import Derived.Laws.BytesArg
import Derived.Laws.MakeOwn
import Derived.Laws.OwnMore
import Derived.Deep.OwnRows
import Derived.Tactics
import Derived.Lib.ConvBytes
import Derived.Laws.Slices
import Derived.WalkKit
import Derived.KernelRfl
import Derived.RowKit3
import Derived.Deep.LoopGhost
import Derived.Deep.QuietTactic
import Derived.BigQuiet
import Derived.WideLaws
import Derived.Deep.DeepCutAuto
import Derived.Deep.CutBlock
import Derived.Deep.RegionHeld3
import Derived.Laws.Rows
import Derived.Lib.AppendStr
import Derived.ArgAppend
import Derived.Laws.IdiomCopy
import Derived.OrdersHeld
import Derived.Laws.BitsLemmas
import Derived.RowKit
import Derived.Test.YtemhalnhbgkbcaaCBlockBackw0
import Derived.Test.YtemhalnhbgkbcaaCBlockBackw1
import Derived.Laws.BitsAllLaws
import Derived.Laws.Bits64
import Derived.Laws.StructEq
import Derived.Stop.BytesEq
import Derived.Laws.Tables
import Derived.Laws.CopyOwn
import Derived.Outline
import Derived.MapKept
import Derived.ChangeMaps4
import Derived.Laws.RangeAny
set_option linter.unusedVariables false
set_option linter.unusedSimpArgs false
open Go.RowKit Go.Proofs.YtemhalnhbgkbcaaW.PrintWords Go.Proofs.YtemhalnhbgkbcaaW.PrintLast Go.Proofs.YtemhalnhbgkbcaaW.PrintMore Go.Proofs.Ytemhalnhbgkbcaa.Z
section
namespace Go.Proofs.Ytemhalnhbgkbcaa.V
attribute [local go_sem] eH eF fk fj ei eh eG eE
def M9 : Option Int → Value
 | none => .nilIface
 | some c => .iface 0 (.int .i64 c)
theorem cy : M9 none = .nilIface := rfl
theorem cx (c : Int) : M9 (some c) = .iface 0 (.int .i64 c) := rfl
theorem z7 : (Try.prog.info? 3).map (fun i => (i.zero, i.size, i.bytes)) = some (some (.int .i64 0), 1, 8) := by kernel_rfl
theorem MK : (Try.prog.info? 76).map (fun i => (i.zero, i.size, i.bytes)) = some (some (.agg #[(.string ⟨#[]⟩), (.string ⟨#[]⟩)]), 2, 32) := by kernel_rfl
structure S7 where
 f0 : Int
 f1 : Int
 f2 : Bool
 f3 : Int
def k7 : Kd S7 := Kd.iso (Kd.pair (Kd.int .i64) (Kd.pair (Kd.int .i64) (Kd.pair Kd.bool (Kd.int .u8)))) (fun x : S7 => (x.f0, x.f1, x.f2, x.f3))
structure S76 where
 f0 : ByteArray
 f1 : ByteArray
def Pj : S76 := ⟨(⟨#[]⟩ : ByteArray), (⟨#[]⟩ : ByteArray)⟩
def hH : Kd S76 := Kd.iso (Kd.pair Kd.string Kd.string) (fun x : S76 => (x.f0, x.f1))
theorem wj {w : World} {x : S76} {cs : List Value} (h : hH.K w x cs) : cs = [.string x.f0, .string x.f1] := by
 obtain ⟨_, _, rfl, rfl, rfl⟩ := h
 exact rfl
theorem yR (w : World) (base : Nat) (ok : Nat → Prop) (x : S76)  : hH.M w base ok x [.string x.f0, .string x.f1] := ⟨[.string x.f0], [.string x.f1], rfl, rfl, rfl⟩
def fG (xs : List S76) (i : Int) : S76 := xs.getD i.toNat Pj
theorem F6 {w : World} {A : Option Addr} {n : Nat} {xs : List S76} (h : Kd.C hH w A n xs) (i : Int) (h0 : 0 ≤ i) (h1 : i < n) : ∃ ad , A = some ad ∧ w.cell? (ad.add (i.toNat * 2)) = some (.string (fG xs i).f0) ∧ w.cell? ⟨(ad.add (i.toNat * 2)).block, (ad.add (i.toNat * 2)).off + 1, none⟩ = some (.string (fG xs i).f1) := by
 obtain ⟨ad, c, e, _, hK, lV⟩ := Kd.C_get h Pj i h0 h1
 have hc : ∀ j u, c[j]? = some u → w.cell? (ad.add (i.toNat * 2 + j)) = some u := lV
 obtain rfl := wj hK
 exact ⟨ad, e, hc 0 _ rfl, by rw [← l6 _ _ 1 (by omega)]; exact hc 1 _ rfl⟩
structure S85 where
 f0 : ByteArray
 f1 : ByteArray
def Ph : S85 := ⟨(⟨#[]⟩ : ByteArray), (⟨#[]⟩ : ByteArray)⟩
def iR : Kd S85 := Kd.iso (Kd.pair Kd.string Kd.string) (fun x : S85 => (x.f0, x.f1))
theorem Bo {w : World} {x : S85} {cs : List Value} (h : iR.K w x cs) : cs = [.string x.f0, .string x.f1] := by
 obtain ⟨_, _, rfl, rfl, rfl⟩ := h
 exact rfl
theorem yQ (w : World) (base : Nat) (ok : Nat → Prop) (x : S85)  : iR.M w base ok x [.string x.f0, .string x.f1] := ⟨[.string x.f0], [.string x.f1], rfl, rfl, rfl⟩
def cU (xs : List S85) (i : Int) : S85 := xs.getD i.toNat Ph
theorem lr {w : World} {A : Option Addr} {n : Nat} {xs : List S85} (h : Kd.C iR w A n xs) (i : Int) (h0 : 0 ≤ i) (h1 : i < n) : ∃ ad , A = some ad ∧ w.cell? (ad.add (i.toNat * 2)) = some (.string (cU xs i).f0) ∧ w.cell? ⟨(ad.add (i.toNat * 2)).block, (ad.add (i.toNat * 2)).off + 1, none⟩ = some (.string (cU xs i).f1) := by
 obtain ⟨ad, c, e, _, hK, lV⟩ := Kd.C_get h Ph i h0 h1
 have hc : ∀ j u, c[j]? = some u → w.cell? (ad.add (i.toNat * 2 + j)) = some u := lV
 obtain rfl := Bo hK
 exact ⟨ad, e, hc 0 _ rfl, by rw [← l6 _ _ 1 (by omega)]; exact hc 1 _ rfl⟩
end Go.Proofs.Ytemhalnhbgkbcaa.V
end

section
namespace Go.Proofs.Ytemhalnhbgkbcaa.V
theorem wrap_u64 (n : Int) (h0 : 0 ≤ n) (h : n < 18446744073709551616) : IntKind.u64.wrap n = n := by rw [IntKind.wrap_u64]; omega
theorem uh (n : Nat) (h : n < 18446744073709551616) : IntKind.u64.wrap (n : Int) = (n : Int) := wrap_u64 _ (by omega) (by omega)
theorem g8 (n : Int) (h0 : -9223372036854775808 ≤ n) (h : n < 9223372036854775808) : wrap64 n = n := by unfold wrap64; omega
theorem p9 (i : Nat) (h : i < 64) : (2 : Nat) ^ i < 18446744073709551616 :=
 Nat.lt_of_lt_of_le (Nat.pow_lt_pow_right (by omega) h) (by decide)
end Go.Proofs.Ytemhalnhbgkbcaa.V
end

section
namespace Go.Proofs.Ytemhalnhbgkbcaa.V
theorem ua : ∀ (xs ys : List Int), xs.length = ys.length → ((List.range xs.length).all fun i => xs.getD i 0 == ys.getD i 0) = (xs == ys)
 | [], [], _ => rfl
 | x :: xs, y :: ys, h => by
  have ih := ua xs ys (by simpa using h)
  rw [List.length_cons, List.range_succ_eq_map, List.all_cons, List.all_map]
  simp only [List.getD_cons_zero, Function.comp_def, List.getD_cons_succ, ih]
  simp [List.cons_beq_cons]
 | [], _ :: _, h => by simp at h
 | _ :: _, [], h => by simp at h
section
variable {P : Program} (w : World)
theorem wg (k : IntKind) (d : Nat) (t e : TypeId) (n : Nat) (ht : P.underlying t = some (.array n e)) (he : P.underlying e = some (.int k)) (hsz : ∀ w, (sizeOf e).run P w = .ok 1 w)
  (xs ys : List Int) (hx : xs.length = n) (hy : ys.length = n) :
  (Op.equalIn (d + 2) t (.agg (xs.map (Value.int k)).toArray) (.agg (ys.map (Value.int k)).toArray)).run P w = .ok (xs == ys) w := by
 rw [← ua xs ys (hx.trans hy.symm), hx, List.range_eq_range', Op.equalIn]
 simp only [Sem.run_bind, run_underlying ht, Result.andThen_ok, hsz, Std.Legacy.Range.forIn_eq_forIn_range', Std.Legacy.Range.size, Nat.sub_zero, Nat.add_sub_cancel, Nat.div_one]
 have hl : ∀ i ∈ List.range' 0 n 1, i < n := fun i hi => by simpa using (List.mem_range'_1.1 hi).2
 generalize List.range' 0 n 1 = l at hl ⊢
 induction l with
 | nil => simp
 | cons i l ih =>
  have hi : i < n := hl i (by simp)
  have px : (part e (xs.map (Value.int k)).toArray (i * 1)).run P w = .ok (.int k (xs.getD i 0)) w := by
   simp [part, isAgg, run_underlying he, List.getD, List.getElem?_eq_getElem (show i < xs.length by omega)]
  have py : (part e (ys.map (Value.int k)).toArray (i * 1)).run P w = .ok (.int k (ys.getD i 0)) w := by
   simp [part, isAgg, run_underlying he, List.getD, List.getElem?_eq_getElem (show i < ys.length by omega)]
  have pe : (Op.equalIn (d + 1) e (.int k (xs.getD i 0)) (.int k (ys.getD i 0))).run P w = .ok (xs.getD i 0 == ys.getD i 0) w := by
   rw [run_equalIn_int w d e k k _ _ he]
  simp only [List.forIn_cons, Sem.run_bind, px, py, pe, Result.andThen_ok, List.all_cons]
  cases hb : (xs.getD i 0 == ys.getD i 0)
  ·simp
  ·simp only [Bool.not_true, Bool.false_eq_true, if_false, Sem.run_pure, Result.andThen_ok, Bool.true_and]
   exact ih fun j hj => hl j (by simp [hj])
end
end Go.Proofs.Ytemhalnhbgkbcaa.V
end

section
namespace Go.Proofs.Ytemhalnhbgkbcaa.V
def aH (W : World) (g : Nat) (cs : List Value) (t : Nat) : Prop := W.heap[g]? = some (.cells cs.toArray t (0, 0))
theorem aH.cell {W : World} {g : Nat} {cs : List Value} {t : Nat} (h : aH W g cs t) (j : Nat) (v : Value) (hv : cs[j]? = some v) : W.cell? ⟨g, j, none⟩ = some v := by
 rw [cell_of_row W g j _ t (0, 0) h]
 simpa using hv
theorem aH.frozen {W : World} {g : Nat} {cs : List Value} {t : Nat} (h : aH W g cs t) (j : Nat) : W.frozen? ⟨g, j, none⟩ = false := frozen_of_row W g j _ t h
theorem aH.lt {W : World} {g : Nat} {cs : List Value} {t : Nat} (h : aH W g cs t) : g < W.heap.size := (Array.getElem?_eq_some_iff.1 h).1
theorem aH.below {W W1 : World} {g : Nat} {cs : List Value} {t : Nat} (h : aH W g cs t) (hb : Below W.heap.size W W1) : aH W1 g cs t := (hb.block g h.lt).trans h
theorem aH.grown {W W1 : World} {g : Nat} {cs : List Value} {t : Nat} (h : aH W g cs t) {row : Option Nat} (hg : W.grownBy W1 row) (hne : some g ≠ row) : aH W1 g cs t := (hg.block g h.lt hne).trans h
theorem aH.drewN {W : World} {g : Nat} {cs : List Value} {t : Nat} (h : aH W g cs t) (n : Nat) : aH (W.drewN n) g cs t := h
theorem aH.alloc {W : World} {g : Nat} {cs : List Value} {t : Nat} (h : aH W g cs t) (o : Obj) : aH (W.alloc o) g cs t := h.below (al (Below.refl _ _) o)
theorem aH.set {W : World} {g : Nat} {cs : List Value} {t : Nat} (h : aH W g cs t) (j : Nat) (v : Value) : aH (W.setCell ⟨g, j, none⟩ v) g (cs.set j v) t := by
 have := heap_setCell_same W g j _ t v h
 unfold aH
 rw [this]
 congr 2
 simp
theorem aH.far {W : World} {g : Nat} {cs : List Value} {t : Nat} (h : aH W g cs t) {p : Addr} (hne : g ≠ p.block) (v : Value) : aH (W.setCell p v) g cs t := (Below.heap_setCell W p v g hne).trans h
theorem aH.ne_row {W : World} {g : Nat} {cs : List Value} {t : Nat} (h : aH W g cs t) {α : Type} {d : Kd α} {e base : Nat} {ok : Nat → Prop} {v : Value} {xs : List α} (hr : d.R e W base ok v xs) (ht : e ≠ t) : some g ≠ v.ownBlock := Kd.R_ne hr h ht
theorem aH.ne {W : World} {g g' : Nat} {cs cs' : List Value} {t t' : Nat} (h : aH W g cs t) (h' : aH W g' cs' t') (ht : t ≠ t') : g ≠ g' := by
 rintro rfl
 unfold aH at h h'
 rw [h] at h'
 injection h' with h'
 injection h' with _ h'
 exact ht h'
section
variable {P : Program} {ops : Array Oper} {rest : List Oper} {o : Oper} {a : Act} {w : World} {Q : Exit → Act → World → Prop}
theorem bP (w : World) (g j : Nat) (v : Value) : w.grownBy (w.setCell ⟨g, j, none⟩ v) (some g) :=
 ⟨rfl, rfl, rfl, by simp [World.setCell], fun k _ hk => Below.heap_setCell _ _ _ _ (fun e => hk (by rw [e]))⟩
theorem uq (w : World) (g : Nat) (cs : Array Value) : w.grownBy (w.setRow g cs) (some g) :=
 ⟨rfl, rfl, rfl, by simp, fun k _ hk => setRow_other w g k cs (fun e => hk (by rw [e]))⟩
theorem aE (hgd : o.guard = none) (ty : TypeId) (x : Operand) (ho : o.op = .box ty x) (cs : List Value) (hx : a.eval x = .agg cs.toArray)
  (h : ∀ g W1, w.heap.size ≤ g → aH W1 g cs ty → Below w.heap.size w W1 → wpList P ops Q rest (a.put o.dst (.pointer (some ⟨g, 0, none⟩))) W1) : wpList P ops Q (o :: rest) a w := by
 refine wpList_plain hgd fun K hK => ?_
 have := hK _ _ (h w.heap.size (w.alloc (.cells cs.toArray ty)) (Nat.le_refl _) (heap_alloc_new w _) (al (Below.refl _ _) _))
 unfold Oper.wp execOp
 simp only [ho, hx, Instr.box, newVar, newRow, newObj, Value.cells]
 exact this
theorem D3 (hgd : o.guard = none) (ty : TypeId) (ho : o.op = .alloc ty) (cs : List Value) (hz : ∀ w, (zeroValue ty).run P w = .ok (.agg cs.toArray) w)
  (h : ∀ g W1, w.heap.size ≤ g → aH W1 g cs ty → Below w.heap.size w W1 → wpList P ops Q rest (a.put o.dst (.pointer (some ⟨g, 0, none⟩))) W1) : wpList P ops Q (o :: rest) a w := by
 refine wpList_plain hgd fun K hK => ?_
 have := hK _ _ (h w.heap.size (w.alloc (.cells cs.toArray ty)) (Nat.le_refl _) (heap_alloc_new w _) (al (Below.refl _ _) _))
 unfold Oper.wp execOp
 simp only [ho, Instr.alloc, newVar, newRow, newObj, Value.cells, Sem.run_bind, hz, Result.andThen_ok]
 exact this
theorem ax (N : Option Tmp) (hN : o.dst = N) (hgd : o.guard = none) (ty : TypeId) (ho : o.op = .alloc ty) (cs : List Value) (hz : ∀ w, (zeroValue ty).run P w = .ok (.agg cs.toArray) w)
  (h : ∀ g W1, w.heap.size ≤ g → aH W1 g cs ty → Below w.heap.size w W1 → wpList P ops Q rest (a.put o.dst (.pointer (some ⟨g, 0, none⟩))) W1) : wpList P ops Q (o :: rest) a w := D3 hgd ty ho cs hz h
theorem ay (hgd : o.guard = none) (ty : TypeId) (x : Operand) (ho : o.op = .load ty x) (g : Nat) (hx : a.eval x = .pointer (some ⟨g, 0, none⟩)) (t : Nat) (cs : List Value) (d : TypeDesc) (hb : aH w g cs t)
  (hu : P.underlying ty = some d) (hd : (match d with | .struct _ | .array _ _ => true | _ => false) = true) (n : Nat) (hi : (P.info? ty).map (·.size) = some n) (hn : cs.length = n)
  (h : wpList P ops Q rest (a.put o.dst (.agg cs.toArray)) w) : wpList P ops Q (o :: rest) a w :=
 wpList_load_row hgd ty x ho g hx t cs.toArray (0, 0) d hb hu hd (by rw [hi]; simp [hn]) h
theorem qb (w : World) (g t off : Nat) (ty : TypeId) (cs part : List Value) (d : TypeDesc) (hb : aH w g cs t) (hp : ∀ j v, part[j]? = some v → cs[off + j]? = some v)
  (hu : P.underlying ty = some d) (hd : (match d with | .struct _ | .array _ _ => true | _ => false) = true) (hi : (P.info? ty).map (·.size) = some part.length) :
  (loadVar ty ⟨g, off, none⟩).run P w = .ok (.agg part.toArray) w := by
 have hl : (loadCells ⟨g, off, none⟩ part.length).run P w = .ok part.toArray w :=
  run_loadCells_list (P := P) w ⟨g, off, none⟩ part (fun j v hv => by
   rw [Nu]
   exact hb.cell _ _ (hp j v hv))
 cases hq : P.info? ty with
 | none => simp [hq] at hi
 | some i =>
  have hs : i.size = part.length := by simpa [hq] using hi
  cases d <;> simp at hd <;> simp [loadVar, isAgg, run_underlying hu, sizeOf, typeInfo, hq, hs, hl]
theorem aJ {o : Oper} {a : Act} {w : World} (ty : TypeId) (x : Operand) (ho : o.op = .load ty x) (g : Nat) (hx : a.eval x = .pointer (some ⟨g, 0, none⟩)) (t : Nat) (cs : List Value) (d : TypeDesc) (hb : aH w g cs t)
  (hu : P.underlying ty = some d) (hd : (match d with | .struct _ | .array _ _ => true | _ => false) = true) (hi : (P.info? ty).map (·.size) = some cs.length) :
  (execOp a.eval o).run P w = .ok (.value (.agg cs.toArray)) w := by
 unfold execOp
 simp only [ho, hx, Instr.loadAt, Instr.sureAddr, Sem.run_bind, Sem.run_pure, Result.andThen_ok, qb w g t 0 ty cs cs d hb (fun j v hv => by rw [Nat.zero_add]; exact hv) hu hd hi]
theorem fi (hgd : o.guard = none) (ty : TypeId) (x : Operand) (ho : o.op = .load ty x) (g off : Nat) (hx : a.eval x = .pointer (some ⟨g, off, none⟩)) (t : Nat) (cs part : List Value) (d : TypeDesc) (hb : aH w g cs t)
  (hp : ∀ j v, part[j]? = some v → cs[off + j]? = some v)
  (hu : P.underlying ty = some d) (hd : (match d with | .struct _ | .array _ _ => true | _ => false) = true) (hi : (P.info? ty).map (·.size) = some part.length)
  (h : wpList P ops Q rest (a.put o.dst (.agg part.toArray)) w) : wpList P ops Q (o :: rest) a w := by
 refine wpList_plain hgd fun K hK => ?_
 unfold Oper.wp execOp
 simp only [ho, hx, Instr.loadAt, Instr.sureAddr, Sem.run_bind, Sem.run_pure, Result.andThen_ok, qb w g t off ty cs part d hb hp hu hd hi]
 exact hK _ _ h
theorem aN (hgd : o.guard = none) (ty : TypeId) (x y : Operand) (ho : o.op = .store ty x y) (g : Nat) (cs : List Value) (hx : a.eval x = .pointer (some ⟨g, 0, none⟩)) (hy : a.eval y = .agg cs.toArray)
  (t : Nat) (qS : List Value) (hb : aH w g qS t) (n : Nat) (hi : (P.info? ty).map (·.size) = some n) (hn : cs.length = n) (hold : qS.length = n) (h1 : ∀ v ∈ cs, v.oneCell' = true)
  (h : ∀ W1, aH W1 g cs t → w.grownBy W1 (some g) → wpList P ops Q rest (a.put o.dst undef) W1) : wpList P ops Q (o :: rest) a w :=
 wpList_store_row hgd ty x y ho g cs.toArray hx hy t qS.toArray hb (by rw [hi]; simp [hn]) (by simp; omega) (by rw [Array.all_eq_true_iff_forall_mem]; intro v hv; exact h1 v (by simpa using hv))
  (h _ (setRow_heap w g qS.toArray cs.toArray t (0, 0) hb) (uq w g _))
theorem fw (hgd : o.guard = none) (t : TypeId) (parts : Array (Nat × Operand)) (ho : o.op = .build t parts) (cs : List Value)
  (hf : P.built t (parts.map fun (i, x) => (i, a.eval x)).toList = some cs.toArray) (h : wpList P ops Q rest (a.put o.dst (.agg cs.toArray)) w) : wpList P ops Q (o :: rest) a w := by
 refine wpList_build hgd t parts ho (by rw [hf]; rfl) ?_
 rw [hf]
 exact h
theorem zR (w : World) (t e : TypeId) (n : Nat) (k : IntKind) (ht : P.underlying t = some (.array n e)) (he : P.underlying e = some (.int k)) (hsz : ∀ w, (sizeOf e).run P w = .ok 1 w) (xs : List Int) (hn : xs.length = n) (i : Nat) (hi : i < n) :
  (Instr.index t (.agg (xs.map (Value.int k)).toArray) (.int .i64 (i : Int))).run P w = .ok (.int k (xs.getD i 0)) w := by
 have hi' : i < xs.length := by omega
 simp [Instr.index, asIntOf, run_underlying ht, hsz, hi, part, isAgg, run_underlying he, List.getElem?_eq_getElem hi', List.getD]
end
end Go.Proofs.Ytemhalnhbgkbcaa.V
end

section
namespace Go.Proofs.Ytemhalnhbgkbcaa.V
attribute [local go_sem] eH eF fk fj ei eh eG eE
def iG.f (a0 : Int) : Option (Bool) := if a0 ≥ 0 then (some (decide (a0 < 64))) else (some false)
set_option maxHeartbeats 8000000 in
set_option maxRecDepth 100000 in
theorem iG.calls (a0 : Int) (r : Bool) (w : World) (h : iG.f a0 = some r) :
  Calls Try.prog 64 #[.int .i64 a0] w fun e w' => e = .returned (.bool r) ∧ Drawn0 w w' := by
 have H : (if a0 ≥ 0 then (some (decide (a0 < 64))) else (some false)) = some r := h
 clear h
 by_cases c2 : a0 ≥ 0
 ·rw [if_pos c2] at H
  have sB : decide (0 ≤ a0) = true := decide_eq_true c2
  clear c2
  obtain rfl := Option.some.inj H
  go_enter Try.func64, Try.ntmps64
  go_wp2
  go_ret
  exact ⟨by first | rfl | (simp; done) | (simp [*]; done), by repeat (first | exact Drawn0.refl _ | apply Drawn0.step)⟩
 ·rw [if_neg c2] at H
  have sB : decide (0 ≤ a0) = false := decide_eq_false c2
  clear c2
  obtain rfl := Option.some.inj H
  go_enter Try.func64, Try.ntmps64
  go_wp2
  go_ret
  exact ⟨by first | rfl | (simp; done) | (simp [*]; done), by repeat (first | exact Drawn0.refl _ | apply Drawn0.step)⟩
end Go.Proofs.Ytemhalnhbgkbcaa.V
end

section
namespace Go.Proofs.Ytemhalnhbgkbcaa.V
attribute [local go_sem] eH eF fk fj ei eh eG eE
def l4.f (a0 : Int) (a1 : Int) : Option (Bool) := (iG.f a1).bind fun sO => (if sO = true then (if 0 ≤ a1 then (some ((Go.bits .and .u64 (shr .u64 a0 a1) 1) == 1)) else (none)) else (some false))
set_option maxHeartbeats 8000000 in
set_option maxRecDepth 100000 in
theorem l4.calls (a0 : Int) (a1 : Int) (r : Bool) (w : World) (h : l4.f a0 a1 = some r) :
  Calls Try.prog 20 #[.int .u64 a0, .int .i64 a1] w fun e w' => e = .returned (.bool r) ∧ Drawn0 w w' := by
 have H : ((iG.f a1).bind fun sO => (if sO = true then (if 0 ≤ a1 then (some ((Go.bits .and .u64 (shr .u64 a0 a1) 1) == 1)) else (none)) else (some false))) = some r := h
 clear h
 replace H := Option.bind_eq_some_iff.mp H
 obtain ⟨sO, sn, H⟩ := H
 replace H : (if sO = true then (if 0 ≤ a1 then (some ((Go.bits .and .u64 (shr .u64 a0 a1) 1) == 1)) else (none)) else (some false)) = some r := H
 have A3 := ak sn
 clear sn
 by_cases c4 : sO = true
 ·subst c4
  have H1 : (if 0 ≤ a1 then (some ((Go.bits .and .u64 (shr .u64 a0 a1) 1) == 1)) else (none)) = some r := by rw [if_pos rfl] at H; exact H
  clear H
  have H := H1
  clear H1
  by_cases c5 : 0 ≤ a1
  ·rw [if_pos c5] at H
   have wy := eq_true c5
   have U7 : decide (0 ≤ a1) = true := decide_eq_true c5
   clear c5
   obtain ⟨MJ, yW⟩ : ∃ j_ : Int, (shr .u64 a0 a1) = j_ := ⟨_, rfl⟩
   replace H : (some ((Go.bits .and .u64 (MJ) 1) == 1)) = some r := by first | (rw [yW] at H; exact H) | (simp only [yW] at H ⊢; exact H)
   (try rw [yW] at A3)
   have UB : (a0 / 2 ^ min a1.toNat 64) = MJ := yW
   have UA : a1 ≤ 64 → (a0 / 2 ^ a1.toNat) = MJ := E8 yW
   obtain rfl := Option.some.inj H
   go_enter Try.func20, Try.ntmps20
   go_wp2_with (first | ((with_reducible refine fL (f := 64) rfl ?_); refine kL (some 6) rfl rfl Try.func64 (by kernel_rfl) rfl #[.int .i64 a1] rfl (by (try simp only [List.map_toArray, List.map_cons, List.map_nil]); first | done | rfl | (simp only [List.length_drop, List.length_take]; rfl)) ?_; (with_reducible refine (iG.calls a1 true _ A3.out).mono ?_); rintro e w' ⟨rfl, ⟨nd, rfl⟩⟩; refine ⟨_, rfl, ?_⟩))
   go_ret
   exact ⟨by first | rfl | (simp; done) | (simp only [← yW] <;> (first | rfl | simp)) | (simp [*]; done), by repeat (first | exact Drawn0.refl _ | apply Drawn0.step)⟩
  ·rw [if_neg c5] at H
   exact absurd H (by simp)
 ·replace c4 := Bool.eq_false_iff.mpr c4
  subst c4
  have H1 : (some false) = some r := by rw [if_neg (show ¬ (false = true) by decide)] at H; exact H
  clear H
  have H := H1
  clear H1
  obtain rfl := Option.some.inj H
  go_enter Try.func20, Try.ntmps20
  go_wp2_with (first | ((with_reducible refine fL (f := 64) rfl ?_); refine kL (some 6) rfl rfl Try.func64 (by kernel_rfl) rfl #[.int .i64 a1] rfl (by (try simp only [List.map_toArray, List.map_cons, List.map_nil]); first | done | rfl | (simp only [List.length_drop, List.length_take]; rfl)) ?_; (with_reducible refine (iG.calls a1 false _ A3.out).mono ?_); rintro e w' ⟨rfl, ⟨nd, rfl⟩⟩; refine ⟨_, rfl, ?_⟩))
  go_ret
  exact ⟨by first | rfl | (simp; done) | (simp [*]; done), by repeat (first | exact Drawn0.refl _ | apply Drawn0.step)⟩
end Go.Proofs.Ytemhalnhbgkbcaa.V
end

section
namespace Go.Proofs.Ytemhalnhbgkbcaa.V
attribute [local go_sem] eH eF fk fj ei eh eG eE
def lZ.f (a0 : Int) : Option (Int) := if 0 ≤ a0 then (some (shl .u64 1 a0)) else (none)
set_option maxHeartbeats 8000000 in
set_option maxRecDepth 100000 in
theorem lZ.calls (a0 : Int) (r : Int) (w : World) (h : lZ.f a0 = some r) :
  Calls Try.prog 65 #[.int .i64 a0] w fun e w' => e = .returned (.int .u64 r) ∧ Drawn0 w w' := by
 have H : (if 0 ≤ a0 then (some (shl .u64 1 a0)) else (none)) = some r := h
 clear h
 by_cases c2 : 0 ≤ a0
 ·rw [if_pos c2] at H
  have sB := eq_true c2
  have y8 : decide (0 ≤ a0) = true := decide_eq_true c2
  clear c2
  obtain ⟨zv, sA⟩ : ∃ j_ : Int, (shl .u64 1 a0) = j_ := ⟨_, rfl⟩
  replace H : (some zv) = some r := by first | (rw [sA] at H; exact H) | (simp only [sA] at H ⊢; exact H)
  have Io : (IntKind.u64.wrap (1 * 2 ^ min a0.toNat 64)) = zv := sA
  have N6 : a0 ≤ 64 → (IntKind.u64.wrap (1 * 2 ^ a0.toNat)) = zv := E9 sA
  have UD : (IntKind.u64.wrap (2 ^ min a0.toNat 64)) = zv := by have h_ := Io; rw [Int.one_mul] at h_; exact h_
  have UC : a0 ≤ 64 → (IntKind.u64.wrap (2 ^ a0.toNat)) = zv := fun P5 => by have h_ := N6 P5; rw [Int.one_mul] at h_; exact h_
  obtain rfl := Option.some.inj H
  go_enter Try.func65, Try.ntmps65
  go_wp2
  go_ret
  exact ⟨by first | rfl | (simp; done) | (simp only [← sA] <;> (first | rfl | simp)) | (simp [*]; done), by repeat (first | exact Drawn0.refl _ | apply Drawn0.step)⟩
 ·rw [if_neg c2] at H
  exact absurd H (by simp)
end Go.Proofs.Ytemhalnhbgkbcaa.V
end

section
namespace Go.Proofs.Ytemhalnhbgkbcaa.V
attribute [local go_sem] eH eF fk fj ei eh eG eE
def lq.f (a0 : Int) (a1 : Int) : Option (Int) := (iG.f a1).bind fun sN => (if sN = true then ((lZ.f a1).bind fun mP => (some (Go.bits .or .u64 a0 mP))) else (some a0))
set_option maxHeartbeats 8000000 in
set_option maxRecDepth 100000 in
theorem lq.calls (a0 : Int) (a1 : Int) (r : Int) (w : World) (h : lq.f a0 a1 = some r) :
  Calls Try.prog 21 #[.int .u64 a0, .int .i64 a1] w fun e w' => e = .returned (.int .u64 r) ∧ Drawn0 w w' := by
 have H : ((iG.f a1).bind fun sN => (if sN = true then ((lZ.f a1).bind fun mP => (some (Go.bits .or .u64 a0 mP))) else (some a0))) = some r := h
 clear h
 replace H := Option.bind_eq_some_iff.mp H
 obtain ⟨sN, sn, H⟩ := H
 replace H : (if sN = true then ((lZ.f a1).bind fun mP => (some (Go.bits .or .u64 a0 mP))) else (some a0)) = some r := H
 have A3 := ak sn
 clear sn
 by_cases c4 : sN = true
 ·subst c4
  have H1 : ((lZ.f a1).bind fun mP => (some (Go.bits .or .u64 a0 mP))) = some r := by rw [if_pos rfl] at H; exact H
  clear H
  have H := H1
  clear H1
  replace H := Option.bind_eq_some_iff.mp H
  obtain ⟨mP, PS, H⟩ := H
  replace H : (some (Go.bits .or .u64 a0 mP)) = some r := H
  have A5 := ak PS
  clear PS
  obtain rfl := Option.some.inj H
  go_enter Try.func21, Try.ntmps21
  go_wp2_with (first | ((with_reducible refine fL (f := 64) rfl ?_); refine kL (some 6) rfl rfl Try.func64 (by kernel_rfl) rfl #[.int .i64 a1] rfl (by (try simp only [List.map_toArray, List.map_cons, List.map_nil]); first | done | rfl | (simp only [List.length_drop, List.length_take]; rfl)) ?_; (with_reducible refine (iG.calls a1 true _ A3.out).mono ?_); rintro e w' ⟨rfl, ⟨nd, rfl⟩⟩; refine ⟨_, rfl, ?_⟩) | ((with_reducible refine fL (f := 65) rfl ?_); refine kL (some 11) rfl rfl Try.func65 (by kernel_rfl) rfl #[.int .i64 a1] rfl (by (try simp only [List.map_toArray, List.map_cons, List.map_nil]); first | done | rfl | (simp only [List.length_drop, List.length_take]; rfl)) ?_; (with_reducible refine (lZ.calls a1 mP _ A5.out).mono ?_); rintro e w' ⟨rfl, ⟨nd, rfl⟩⟩; refine ⟨_, rfl, ?_⟩))
  go_ret
  exact ⟨by first | rfl | (simp; done) | (simp [*]; done), by repeat (first | exact Drawn0.refl _ | apply Drawn0.step)⟩
 ·replace c4 := Bool.eq_false_iff.mpr c4
  subst c4
  have H1 : (some a0) = some r := by rw [if_neg (show ¬ (false = true) by decide)] at H; exact H
  clear H
  have H := H1
  clear H1
  obtain rfl := Option.some.inj H
  go_enter Try.func21, Try.ntmps21
  go_wp2_with (first | ((with_reducible refine fL (f := 64) rfl ?_); refine kL (some 6) rfl rfl Try.func64 (by kernel_rfl) rfl #[.int .i64 a1] rfl (by (try simp only [List.map_toArray, List.map_cons, List.map_nil]); first | done | rfl | (simp only [List.length_drop, List.length_take]; rfl)) ?_; (with_reducible refine (iG.calls a1 false _ A3.out).mono ?_); rintro e w' ⟨rfl, ⟨nd, rfl⟩⟩; refine ⟨_, rfl, ?_⟩))
  go_ret
  exact ⟨by first | rfl | (simp; done) | (simp [*]; done), by repeat (first | exact Drawn0.refl _ | apply Drawn0.step)⟩
end Go.Proofs.Ytemhalnhbgkbcaa.V
end

section
namespace Go.Proofs.Ytemhalnhbgkbcaa.V
attribute [local go_sem] eH eF fk fj ei eh eG eE
def eZ.l0 : Nat → Int → Int → Option (Int)
 | 0, _, _ => none
 | k + 1, x0, x3 => if x0 = 0 then (some x3) else (eZ.l0 k (Go.bits .and .u64 x0 (IntKind.u64.wrap (x0 - 1))) (wrap64 (x3 + 1)))
def eZ.f (k : Nat) (a0 : Int) : Option (Int) := eZ.l0 k a0 0
set_option maxHeartbeats 8000000 in
set_option maxRecDepth 100000 in
theorem eZ.calls (k : Nat) (a0 : Int) (r : Int) (w : World) (h : eZ.f k a0 = some r) :
  Calls Try.prog 27 #[.int .u64 a0] w fun e w' => e = .returned (.int .i64 r) ∧ Drawn0 w w' := by
 have H : (eZ.l0 k a0 0) = some r := h
 clear h
 have H' := ak H
 clear H
 go_enter Try.func27, Try.ntmps27
 go_wp2
 go_loopg [0, 3] k (fun kq v0 v3 w' => ∃ (so : Int) (an : Int), v0 = .int .u64 so ∧ v3 = .int .i64 an ∧ Aside0 (eZ.l0 kq so an = some r) ∧ Aside0 (kq ≤ k) ∧ Drawn0 w w')
 case atStart => exact ⟨(a0), (0), (by first | rfl | (simp; done) | (simp [*]; done)), (by first | rfl | (simp; done) | (simp [*]; done)), H', ⟨Nat.le_refl _⟩, by repeat (first | exact Drawn0.refl _ | apply Drawn0.step)⟩
 case round =>
  clear H'
  obtain ⟨so, an, rfl, rfl, HA, dC, ⟨m1, rfl⟩⟩ := hrel
  cases gk with
  | zero => exact absurd HA.out (by simp [eZ.l0])
  | succ k1 =>
   have H := HA.out
   clear HA
   simp only [eZ.l0] at H
   by_cases c2 : so = 0
   ·rw [if_pos c2] at H
    have sB : (so == 0) = true := beq_iff_eq.mpr c2
    have y8 : (so != 0) = false := bne_eq_false_iff_eq.mpr c2
    clear c2
    obtain rfl := Option.some.inj H
    go_wp2
    go_ret
    exact ⟨by first | rfl | (simp; done) | (simp [*]; done), by repeat (first | exact Drawn0.refl _ | apply Drawn0.step)⟩
   ·rw [if_neg c2] at H
    have sB : (so == 0) = false := beq_eq_false_iff_ne.mpr c2
    have y8 : (so != 0) = true := bne_iff_ne.mpr c2
    have H' := ak H
    clear H
    go_wp2
    go_roundg k1
    case measure => have := dC.out; omega
    case rel => exact ⟨(Go.bits .and .u64 so (IntKind.u64.wrap (so - 1))), (wrap64 (an + 1)), (by first | rfl | (simp; done) | (simp [*]; done)), (by first | rfl | (simp; done) | (simp [*]; done)), H', ⟨by have := dC.out; omega⟩, by repeat (first | exact Drawn0.refl _ | apply Drawn0.step)⟩
end Go.Proofs.Ytemhalnhbgkbcaa.V
end

section
namespace Go.Proofs.Ytemhalnhbgkbcaa.V
def mf (i : Int) : Bool := decide (0 ≤ i) && decide (i < 64)
def hasB (s : Nat) (i : Int) : Bool := mf i && s.testBit i.toNat
theorem E7 (i : Int) : iG.f i = some (mf i) := by
 unfold iG.f mf
 by_cases h : 0 ≤ i
 ·rw [if_pos h]; simp [h]
 ·rw [if_neg (by omega)]; simp [h]
theorem pH {i : Int} (h : mf i = true) : 0 ≤ i ∧ i < 64 := by simpa [mf] using h
theorem AQ (i : Nat) (h : i < 64) : mf (i : Int) = true := by simp [mf]; omega
theorem L2 (a : Nat) (ha : a < 18446744073709551616) : Go.bits .and .u64 (a : Int) 1 = ((a % 2 : Nat) : Int) := by
 have := u64_and_nat a 1 ha (by decide)
 rw [nat_mask1] at this
 exact this
theorem kG (a i : Nat) : a.testBit i = decide (a / 2 ^ i % 2 = 1) := by
 rw [Nat.testBit_eq_decide_div_mod_eq]
theorem GU (q : Nat) : (((q % 2 : Nat) : Int) == 1) = decide (q % 2 = 1) := by
 rw [Bool.eq_iff_iff]
 simp
 omega
theorem Oa (s : Nat) (hs : s < 18446744073709551616) (i : Int) : l4.f (s : Int) i = some (hasB s i) := by
 unfold l4.f hasB
 rw [E7, Option.bind_some]
 by_cases h : mf i = true
 ·obtain ⟨h0, h1⟩ := pH h
  obtain ⟨n, rfl⟩ := Int.eq_ofNat_of_zero_le h0
  rw [if_pos h, if_pos h0, h]
  have e : shr .u64 (s : Int) (n : Int) = ((s / 2 ^ n : Nat) : Int) := by
   unfold shr
   rw [Nat.min_eq_left (by show (n : Int).toNat ≤ 64; omega)]
   simp
  rw [e, L2 _ (Nat.lt_of_le_of_lt (Nat.div_le_self _ _) hs), Bool.true_and, Int.toNat_natCast, kG]
  rw [GU]
 ·have h' : mf i = false := by simpa using h
  rw [if_neg h, h']
  rfl
theorem vz (s : Nat) (hs : s < 18446744073709551616) (i : Int) (w : World) : Calls Try.prog 20 #[.int .u64 (s : Int), .int .i64 i] w fun e w' => e = .returned (.bool (hasB s i)) ∧ Drawn0 w w' :=
 l4.calls _ _ _ w (Oa s hs i)
def lI (s : Nat) (i : Int) : Nat := if mf i then s ||| 2 ^ i.toNat else s
theorem K5 (n : Nat) (h : n < 64) : shl .u64 1 (n : Int) = ((2 ^ n : Nat) : Int) := by
 unfold shl
 rw [Nat.min_eq_left (by show (n : Int).toNat ≤ 64; omega), Int.one_mul, Int.toNat_natCast]
 have := uh (2 ^ n) (p9 n h)
 simpa using this
theorem Mq (s : Nat) (hs : s < 18446744073709551616) (i : Int) : lq.f (s : Int) i = some ((lI s i : Nat) : Int) := by
 unfold lq.f lI
 rw [E7, Option.bind_some]
 by_cases h : mf i = true
 ·obtain ⟨h0, h1⟩ := pH h
  obtain ⟨n, rfl⟩ := Int.eq_ofNat_of_zero_le h0
  rw [if_pos h, if_pos h]
  unfold lZ.f
  rw [if_pos h0, Option.bind_some, K5 n (by omega), u64_or_nat _ _ hs (p9 n (by omega)), Int.toNat_natCast]
 ·rw [if_neg h, if_neg h]
theorem Gy (s : Nat) (hs : s < 18446744073709551616) (i : Int) : lI s i < 18446744073709551616 := by
 unfold lI
 split
 ·rename_i h
  obtain ⟨h0, h1⟩ := pH h
  exact Nat.or_lt_two_pow (n := 64) hs (p9 _ (by omega))
 ·exact hs
theorem we (s : Nat) (hs : s < 18446744073709551616) (i : Int) (w : World) : Calls Try.prog 21 #[.int .u64 (s : Int), .int .i64 i] w fun e w' => e = .returned (.int .u64 ((lI s i : Nat) : Int)) ∧ Drawn0 w w' :=
 lq.calls _ _ _ w (Mq s hs i)
theorem zQ (s : Nat) (i : Int) (j : Nat) (hj : j < 64) : (lI s i).testBit j = (s.testBit j || decide (i = (j : Int))) := by
 unfold lI
 by_cases h : mf i = true
 ·obtain ⟨h0, h1⟩ := pH h
  rw [if_pos h, Nat.testBit_or, Nat.testBit_two_pow]
  congr 1
  rw [decide_eq_decide]
  omega
 ·rw [if_neg h]
  have : ¬ i = (j : Int) := by
   rintro rfl
   exact h (AQ j hj)
  simp [this]
def ke (s : Nat) (n : Nat) : List Int := ((List.range n).filter s.testBit).map (fun i : Nat => (i : Int))
def iv (s : Nat) : List Int := ke s 64
theorem tq (s n : Nat) : ke s (n + 1) = if s.testBit n then ke s n ++ [(n : Int)] else ke s n := by
 unfold ke
 rw [List.range_succ, List.filter_append, List.map_append]
 by_cases h : s.testBit n = true
 ·simp [h]
 ·simp [h]
theorem Bi (s n : Nat) : (ke s n).length ≤ n := by
 unfold ke
 rw [List.length_map]
 exact Nat.le_trans (List.length_filter_le _ _) (by simp)
theorem zV (s n : Nat) (x : Int) (h : x ∈ ke s n) : ∃ i : Nat, x = (i : Int) ∧ i < n ∧ s.testBit i = true := by
 unfold ke at h
 simp only [List.mem_map, List.mem_filter, List.mem_range] at h
 obtain ⟨j, ⟨h1, h2⟩, h3⟩ := h
 exact ⟨j, h3.symm, h1, h2⟩
def ux (l : List Int) : Nat := l.foldl lI 0
theorem yY (l : List Int) : ∀ s, s < 18446744073709551616 → l.foldl lI s < 18446744073709551616 := by
 induction l with
 | nil => exact fun s h => h
 | cons x l ih => exact fun s h => ih _ (Gy s h x)
theorem o9 (l : List Int) : ux l < 18446744073709551616 := yY l 0 (by decide)
theorem ud (l : List Int) (j : Nat) (hj : j < 64) : ∀ s, (l.foldl lI s).testBit j = (s.testBit j || decide ((j : Int) ∈ l)) := by
 induction l with
 | nil => simp
 | cons x l ih =>
  intro s
  rw [List.foldl_cons, ih, zQ s x j hj, Bool.or_assoc]
  congr 1
  rw [Bool.eq_iff_iff]
  simp only [Bool.or_eq_true, decide_eq_true_eq, List.mem_cons]
  exact or_congr eq_comm Iff.rfl
theorem oR (l : List Int) (j : Nat) (hj : j < 64) : (ux l).testBit j = decide ((j : Int) ∈ l) := by
 unfold ux; rw [ud l j hj]; simp
end Go.Proofs.Ytemhalnhbgkbcaa.V
end

section
namespace Go.Proofs.Ytemhalnhbgkbcaa.V
structure Least (s m : Nat) : Prop where
 here : s.testBit m = true
 below : ∀ j, j < m → s.testBit j = false
theorem Bj (s : Nat) (h : s ≠ 0) : ∃ m, Least s m := by
 obtain ⟨i, hi⟩ := Nat.exists_testBit_of_ne_zero h
 have : ∀ n, (∃ j, j < n ∧ s.testBit j = true) → ∃ m, Least s m := by
  intro n
  induction n with
  | zero => rintro ⟨j, h, _⟩; omega
  | succ n ih =>
   intro hex
   by_cases hb : ∃ j, j < n ∧ s.testBit j = true
   ·exact ih hb
   ·obtain ⟨j, h1, h2⟩ := hex
    have hj : j = n := by
     rcases Nat.lt_or_ge j n with h3 | h3
     ·exact absurd ⟨j, h3, h2⟩ hb
     ·omega
    subst hj
    exact ⟨j, h2, fun t ht => by
     cases hc : s.testBit t with
     | false => rfl
     | true => exact absurd ⟨t, ht, hc⟩ hb⟩
 exact this (i + 1) ⟨i, by omega, hi⟩
theorem Least.form {s m : Nat} (h : Least s m) : ∃ q, s = 2 ^ m * (2 * q + 1) := by
 have h0 : s % 2 ^ m = 0 := by
  apply Nat.eq_of_testBit_eq
  intro j
  rw [Nat.testBit_mod_two_pow, Nat.zero_testBit]
  by_cases hj : j < m
  ·simp [h.below j hj]
  ·simp [hj]
 have h1 := h.here
 rw [kG, decide_eq_true_eq] at h1
 refine ⟨s / 2 ^ m / 2, ?_⟩
 have h2 : 2 * (s / 2 ^ m / 2) + 1 = s / 2 ^ m := by omega
 rw [h2, Nat.mul_comm]
 exact (Nat.div_mul_cancel (Nat.dvd_of_mod_eq_zero h0)).symm
def lY (s : Nat) : Nat := s &&& (s - 1)
theorem qA {s m : Nat} (h : Least s m) (j : Nat) : (lY s).testBit j = (s.testBit j && decide (j ≠ m)) := by
 obtain ⟨q, hq⟩ := h.form
 have hp : 0 < 2 ^ m := Nat.pos_of_ne_zero (by simp)
 have zy : s - 1 = 2 ^ m * (2 * q) + (2 ^ m - 1) := by rw [hq, Nat.mul_add]; omega
 have hd : (s - 1) / 2 ^ m = 2 * q := by
  rw [zy, Nat.mul_add_div hp, Nat.div_eq_of_lt (by omega), Nat.add_zero]
 have ai : s / 2 ^ m = 2 * q + 1 := by rw [hq, Nat.mul_div_cancel_left _ hp]
 unfold lY
 rw [Nat.testBit_and]
 rcases Nat.lt_trichotomy j m with hj | hj | hj
 ·simp [h.below j hj]
 ·subst hj
  rw [kG (s - 1), hd]
  first | (simp; done) | (simp; omega)
 ·obtain ⟨i, rfl⟩ : ∃ i, j = m + 1 + i := ⟨j - m - 1, by omega⟩
  have e : ∀ x : Nat, x / 2 ^ (m + 1 + i) = x / 2 ^ m / 2 / 2 ^ i := by
   intro x
   rw [Nat.pow_add, Nat.pow_succ, ← Nat.div_div_eq_div_mul, ← Nat.div_div_eq_div_mul]
  rw [kG (s - 1), kG s, e, e, hd, ai, show (2 * q + 1) / 2 = q by omega, show (2 * q) / 2 = q by omega]
  simp
  omega
theorem Fs {s m : Nat} (h : Least s m) (n : Nat) : ke s n = if n ≤ m then [] else (m : Int) :: ke (lY s) n := by
 induction n with
 | zero => simp [ke]
 | succ n ih =>
  rw [tq, tq, ih, qA h n]
  rcases Nat.lt_trichotomy n m with hj | hj | hj
  ·rw [h.below n hj, if_neg (by simp), if_pos (by omega), if_pos (by omega)]
  ·subst hj
   have e : ∀ t, t ≤ n → ke (lY s) t = [] := by
    intro t
    induction t with
    | zero => intro _; simp [ke]
    | succ t iht =>
     intro ht
     rw [tq, iht (by omega), qA h t, h.below t (by omega)]
     simp
   rw [if_pos h.here, if_pos (Nat.le_refl _), if_neg (by omega), e n (Nat.le_refl _)]
   simp
  ·have hne : decide (n ≠ m) = true := by simp; omega
   have e1 : ¬ n ≤ m := by omega
   have e2 : ¬ n + 1 ≤ m := by omega
   rw [hne, Bool.and_true]
   simp only [e1, e2, if_false]
   split <;> simp
theorem Least.lt {s m : Nat} (h : Least s m) (hs : s < 18446744073709551616) : m < 64 := by
 rcases Nat.lt_or_ge m 64 with hl | hl
 ·exact hl
 ·have := Nat.ge_two_pow_of_testBit h.here
  have h2 : 2 ^ 64 ≤ 2 ^ m := Nat.pow_le_pow_right (by omega) hl
  omega
theorem wU {s m : Nat} (h : Least s m) (hs : s < 18446744073709551616) : iv s = (m : Int) :: iv (lY s) := by
 unfold iv
 rw [Fs h 64, if_neg (by have := h.lt hs; omega)]
theorem C1 : iv 0 = [] := by
 unfold iv ke
 simp
theorem Da (s : Nat) (hs : s < 18446744073709551616) : lY s < 18446744073709551616 := Nat.lt_of_le_of_lt Nat.and_le_left hs
theorem LY (s : Nat) (hs : s < 18446744073709551616) (h : s ≠ 0) : Go.bits .and .u64 (s : Int) (IntKind.u64.wrap ((s : Int) - 1)) = ((lY s : Nat) : Int) := by
 rw [show (s : Int) - 1 = ((s - 1 : Nat) : Int) by omega, uh _ (by omega), u64_and_nat _ _ hs (by omega)]
 rfl
theorem MI : ∀ (L : List Int) (s k c : Nat), s < 18446744073709551616 → iv s = L → c + L.length ≤ 64 → L.length < k → eZ.l0 k (s : Int) (c : Int) = some ((c + L.length : Nat) : Int) := by
 intro L
 induction L with
 | nil =>
  intro s k c hs hL hc hk
  obtain ⟨k, rfl⟩ : ∃ m, k = m + 1 := ⟨k - 1, by omega⟩
  have h0 : s = 0 := by
   by_cases h : s = 0
   ·exact h
   ·obtain ⟨m, hm⟩ := Bj s h
    rw [wU hm hs] at hL
    cases hL
  subst h0
  unfold eZ.l0
  rw [if_pos (show ((0 : Nat) : Int) = 0 from rfl)]
  rfl
 | cons x L ih =>
  intro s k c hs hL hc hk
  simp only [List.length_cons] at hc hk ⊢
  obtain ⟨k, rfl⟩ : ∃ m, k = m + 1 := ⟨k - 1, by omega⟩
  have h0 : s ≠ 0 := by
   rintro rfl
   rw [C1] at hL
   cases hL
  obtain ⟨m, hm⟩ := Bj s h0
  rw [wU hm hs] at hL
  injection hL with _ hL
  unfold eZ.l0
  rw [if_neg (by omega), LY s hs h0, show wrap64 ((c : Int) + 1) = ((c + 1 : Nat) : Int) by unfold wrap64; omega, ih (lY s) k (c + 1) (Da s hs) hL (by omega) (by omega)]
  congr 2
  omega
theorem zW (s : Nat) : (iv s).length ≤ 64 := Bi s 64
theorem N4 (s : Nat) (hs : s < 18446744073709551616) (k : Nat) (hk : 64 < k) : eZ.f k (s : Int) = some ((iv s).length : Int) := by
 have hl := zW s
 have := MI (iv s) s k 0 hs rfl (by omega) (by omega)
 simpa [eZ.f] using this
theorem La (s : Nat) (hs : s < 18446744073709551616) (w : World) : Calls Try.prog 27 #[.int .u64 (s : Int)] w fun e w' => e = .returned (.int .i64 ((iv s).length : Int)) ∧ Drawn0 w w' :=
 eZ.calls 65 _ _ w (N4 s hs 65 (by omega))
end Go.Proofs.Ytemhalnhbgkbcaa.V
end

section
namespace Go.Proofs.Ytemhalnhbgkbcaa.V
structure Bk where
 addr : Int
 aff : ByteArray
 slots : List Int
 free : List Int
 attrs : List S85
def aX (a : Int) (s : ByteArray) (l : List Int) (v v' : Value) : List Value := .int .u32 a :: .string s :: (l.map (Value.int .u8) ++ [v, v'])
section
variable (a : Int) (s : ByteArray) (l : List Int) (v v' : Value)
theorem ag (h : l.length = 64) : (aX a s l v v').length = 68 := by simp [aX, h]
theorem Cr (h : l.length = 64) (i : Nat) (hi : i < 64) : (aX a s l v v')[2 + i]? = some (.int .u8 (l.getD i 0)) := by
 have hi' : i < l.length := by omega
 rw [Nat.add_comm]
 simp [aX, List.getElem?_append_left, hi', List.getD]
theorem fR (h : l.length = 64) : (aX a s l v v')[66]? = some v := by
 simp [aX, List.getElem?_append_right, h]
theorem fz (h : l.length = 64) : (aX a s l v v')[67]? = some v' := by
 simp [aX, List.getElem?_append_right, h]
theorem kX (h : l.length = 64) : ∀ j u, (l.map (Value.int .u8))[j]? = some u → (aX a s l v v')[2 + j]? = some u := by
 intro j u hj
 have hj' : j < l.length := by
  obtain ⟨h1, _⟩ := List.getElem?_eq_some_iff.1 hj
  simpa using h1
 rw [Nat.add_comm]
 have : (aX a s l v v')[j + 2]? = (l.map (Value.int .u8) ++ [v, v'])[j]? := by simp [aX]
 rw [this, List.getElem?_append_left (by simpa using hj'), hj]
theorem bZ (hv : v.oneCell' = true) (hv' : v'.oneCell' = true) : ∀ u ∈ aX a s l v v', u.oneCell' = true := by
 intro u hu
 simp only [aX, List.mem_cons, List.mem_append, List.mem_map, List.not_mem_nil, or_false] at hu
 rcases hu with rfl | rfl | ⟨x, _, rfl⟩ | rfl | rfl
 ·rfl
 ·rfl
 ·rfl
 ·exact hv
 ·exact hv'
theorem qG (h : l.length = 64) (i : Nat) (hi : i < 64) (x : Int) : (aX a s l v v').set (2 + i) (.int .u8 x) = aX a s (l.set i x) v v' := by
 have hi' : i < l.length := by omega
 rw [Nat.add_comm]
 simp [aX, List.set_append, hi', List.map_set]
theorem kW (h : l.length = 64) (u : Value) : (aX a s l v v').set 66 u = aX a s l u v' := by
 simp [aX, List.set_append, h]
theorem tA (h : l.length = 64) (u : Value) : (aX a s l v v').set 67 u = aX a s l v u := by
 simp [aX, List.set_append, h]
end
structure BkR (W : World) (b : Bk) (A : Option Addr) (c : Nat) (A' : Option Addr) (c' : Nat) : Prop where
 l64 : b.slots.length = 64
 fr : Kd.C (Kd.int .u8) W A b.free.length b.free
 fc : b.free.length ≤ c
 ar : Kd.C iR W A' b.attrs.length b.attrs
 ac : b.attrs.length ≤ c'
theorem BkR.below {W W1 : World} {b : Bk} {A A' : Option Addr} {c c' : Nat} (h : BkR W b A c A' c') (hb : Below W.heap.size W W1) : BkR W1 b A c A' c' := ⟨h.l64, Kd.C_below h.fr hb, h.fc, Kd.C_below h.ar hb, h.ac⟩
def gi (W : World) (v : Value) (b : Bk) : Prop := ∃ A c A' c', v = .agg (aX b.addr b.aff b.slots (.slice A b.free.length c) (.slice A' b.attrs.length c')).toArray ∧ BkR W b A c A' c'
theorem gi.below {W W1 : World} {v : Value} {b : Bk} (h : gi W v b) (hb : Below W.heap.size W W1) : gi W1 v b := by
 obtain ⟨A, c, A', c', e, hr⟩ := h
 exact ⟨A, c, A', c', e, hr.below hb⟩
theorem aH.slot {W : World} {g : Nat} {a : Int} {s : ByteArray} {l : List Int} {v v' : Value} {t : Nat} (h : aH W g (aX a s l v v') t) (hl : l.length = 64) (i : Nat) (hi : i < 64) : W.cell? ⟨g, 2 + i, none⟩ = some (.int .u8 (l.getD i 0)) := h.cell _ _ (Cr a s l v v' hl i hi)
theorem Ie (w : World) : (sizeOf 5).run Try.prog w = .ok 1 w := by kernel_rfl
theorem oE (l : List Int) (hl : l.length = 64) (i : Nat) (hi : i < 64) (w : World) :
  (Instr.index 47 (.agg (l.map (Value.int .u8)).toArray) (.int .i64 (i : Int))).run Try.prog w = .ok (.int .u8 (l.getD i 0)) w :=
 zR w 47 5 64 .u8 Try.underlying47 Try.underlying5 Ie l hl i hi
end Go.Proofs.Ytemhalnhbgkbcaa.V
end

section
namespace Go.Proofs.Ytemhalnhbgkbcaa.V
def jl (b : Bk) (j : Nat) : Bool := decide (64 ≤ rd b.free j) || (decide (rd b.free j ∈ b.free.take j) || (b.slots.getD (rd b.free j).toNat 0 != 0))
def kB (b : Bk) : Bool := (List.range b.free.length).all (fun j => !jl b j) && decide (b.slots.countP (fun x => x == 0) = b.free.length)
def nN (l : List Int) : Prop := ∀ x ∈ l, 0 ≤ x ∧ x < 256
theorem mZ {l : List Int} (h : nN l) (i : Int) : 0 ≤ rd l i ∧ rd l i < 256 := by
 unfold rd
 rcases Nat.lt_or_ge i.toNat l.length with hi | hi
 ·have : l.getD i.toNat 0 = l[i.toNat] := by simp [List.getD, hi]
  rw [this]
  exact h _ (List.getElem_mem _)
 ·have : l.getD i.toNat 0 = 0 := by simp [List.getD, hi]
  rw [this]
  omega
set_option maxHeartbeats 4000000 in
set_option maxRecDepth 100000 in
theorem Hh (b : Bk) (hf : nN b.free) (hs : nN b.slots) (v : Value) (w : World) (h : gi w v b) :
  Calls Try.prog 87 #[v] w fun e w' => e = .returned (.bool (kB b)) ∧ Below w.heap.size w w' := by
 obtain ⟨A, c, A', c', rfl, hr⟩ := h
 have hl := hr.l64
 have HR := ak hr
 have HF := ak hf
 have HS := ak hs
 have HL := ak hl
 clear hr hf hs hl
 go_enter Try.func87, Try.ntmps87
 go_wp2_with (refine aE rfl 57 (.tmp 0) rfl _ rfl ?_; intro g W1 hg hbx cA; have HX := ak hbx; have HB := ak cA; have HG := ak hg; have HRR := ak (HR.out.below cA); have Iw := hbx.cell 66 _ (fR _ _ _ _ _ HL.out); clear hbx cA hg HR)
 go_loopw [3, 5, 12] (fun s _ i W => ∃ k nd : Nat, k ≤ b.free.length ∧ W = W1.drewN nd ∧ i = .int .i64 k ∧ s = .int .u64 ((ux (b.free.take k) : Nat) : Int) ∧ Aside0 (∀ j, j < k → jl b j = false)) (fun _ _ i _ => b.free.length - (intOf i).toNat)
 case atStart => exact ⟨0, 0, by omega, rfl, rfl, rfl, ⟨fun j hj => by omega⟩⟩
 case round =>
  obtain ⟨k, nd, hk, rfl, rfl, rfl, HJ⟩ := hrel
  have hmx : b.free.length ≤ 9223372036854775807 := HRR.out.fr.2.1
  by_cases hkn : k < b.free.length
  ·have hkb : decide ((k : Int) < (b.free.length : Int)) = true := by simp; omega
   obtain ⟨m, hm⟩ : ∃ m : Nat, rd b.free k = (m : Int) := ⟨(rd b.free k).toNat, by have := (mZ HF.out k).1; omega⟩
   have tf : m < 256 := by have := (mZ HF.out k).2; omega
   obtain ⟨ad, eA, hx⟩ := Kd.at_int HRR.out.fr k (by omega) (by omega)
   cases eA
   rw [hm, Int.toNat_natCast] at hx
   have HM := ak hm
   have p1 : ((k : Int) < (b.free.length : Int)) = True := eq_true (by omega)
   by_cases Vp : 64 ≤ m
   ·have P7 : decide ((64 : Int) ≤ (m : Int)) = true := by simp; omega
    have HV := ak (show kB b = false by
     unfold kB
     rw [Bool.and_eq_false_iff]
     left
     rw [List.all_eq_false]
     exact ⟨k, by simpa using hkn, by unfold jl; rw [HM.out]; simp; omega⟩)
    clear hm
    go_wp2
    go_ret
    exact ⟨by rw [HV.out]; rfl, af HB.out _⟩
   ·have P7 : decide ((64 : Int) ≤ (m : Int)) = false := by simp; omega
    have hh : hasB (ux (b.free.take k)) (m : Int) = decide ((m : Int) ∈ b.free.take k) := by
     unfold hasB
     rw [AQ m (by omega), Bool.true_and, Int.toNat_natCast, oR _ m (by omega)]
    obtain ⟨z, e9⟩ : ∃ z : Int, b.slots.getD m 0 = z := ⟨_, rfl⟩
    have hz := HX.out.slot HL.out m (by omega)
    rw [e9] at hz
    have HZ := ak e9
    clear e9
    have HH := ak hh
    clear hh
    cases hmem : decide ((m : Int) ∈ b.free.take k) with
    | true =>
     rw [hmem] at HH
     have HV := ak (show kB b = false by
      unfold kB
      rw [Bool.and_eq_false_iff]
      left
      rw [List.all_eq_false]
      exact ⟨k, by simpa using hkn, by unfold jl; rw [HM.out, hmem]; simp⟩)
     clear hm hmem hz
     go_wp2_with (go_at_call 20; refine (vz _ (o9 _) _ _).mono ?_; rintro e w' ⟨rfl, ⟨Bd, rfl⟩⟩; rw [HH.out])
     go_ret
     exact ⟨by rw [HV.out]; rfl, by repeat (first | exact HB.out | apply af)⟩
    | false =>
     rw [hmem] at HH
     cases hzz : (z != 0) with
     | true =>
      have HV := ak (show kB b = false by
       unfold kB
       rw [Bool.and_eq_false_iff]
       left
       rw [List.all_eq_false]
       exact ⟨k, by simpa using hkn, by unfold jl; rw [HM.out, Int.toNat_natCast, HZ.out, hzz]; simp⟩)
      clear hm hmem
      go_wp2_with (go_at_call 20; refine (vz _ (o9 _) _ _).mono ?_; rintro e w' ⟨rfl, ⟨Bd, rfl⟩⟩; rw [HH.out])
      go_ret
      exact ⟨by rw [HV.out]; rfl, by repeat (first | exact HB.out | apply af)⟩
     | false =>
      have zL := ak (show ∀ j, j < k + 1 → jl b j = false from fun j hj => by
       by_cases hjk : j < k
       ·exact HJ.out j hjk
       ·obtain rfl : j = k := by omega
        unfold jl
        rw [HM.out, Int.toNat_natCast, HZ.out, hzz, hmem]
        simp
        omega)
      have HO := ak (show lI (ux (b.free.take k)) (m : Int) = ux (b.free.take (k + 1)) by
       have e : b.free.take (k + 1) = b.free.take k ++ [(m : Int)] := by
        rw [List.take_add_one, ← HM.out]
        simp [rd, List.getD, List.getElem?_eq_getElem hkn]
       rw [e]
       unfold ux
       rw [List.foldl_append]
       rfl)
      clear hm hmem
      go_wp2_with (first | (go_at_call 20; refine (vz _ (o9 _) _ _).mono ?_; rintro e w' ⟨rfl, ⟨Bd, rfl⟩⟩; rw [HH.out]) | (go_at_call 21; refine (we _ (o9 _) _ _).mono ?_; rintro e w' ⟨rfl, ⟨MH, rfl⟩⟩; rw [HO.out]))
      go_roundw
      case rel => exact ⟨k + 1, nd + Bd + MH, by omega, by simp [Nat.add_assoc], by go_num, rfl, zL⟩
      case measure => simp [intOf]; omega
  ·obtain rfl : k = b.free.length := by omega
   have HA := ak (show (List.range b.free.length).all (fun j => !jl b j) = true by
    rw [List.all_eq_true]
    intro j hj
    rw [HJ.out j (by simpa using hj)]
    rfl)
   have hlen : (Try.prog.info? 47).map (·.size) = some (b.slots.map (Value.int .u8)).length := by rw [List.length_map, HL.out]; kernel_rfl
   go_wp2_with (refine fi rfl 47 (.tmp 37) rfl g 2 rfl 57 _ (b.slots.map (Value.int .u8)) (.array 64 5) HX.out (kX _ _ _ _ _ HL.out) Try.underlying47 rfl hlen ?_)
   go_loopw [6, 8, 39] (fun s _ i W => ∃ q nd : Nat, q ≤ 64 ∧ W = W1.drewN nd ∧ i = .int .i64 q ∧ s = .int .i64 (((b.slots.take q).countP (fun x => x == 0) : Nat) : Int)) (fun _ _ i _ => 64 - (intOf i).toNat)
   case atStart => exact ⟨0, nd, by omega, rfl, rfl, rfl⟩
   case round =>
    obtain ⟨q, nd, hq, rfl, rfl, rfl⟩ := hrel
    by_cases vT : q < 64
    ·have hqb : decide ((q : Int) < 64) = true := by simp; omega
     obtain ⟨z, e9⟩ : ∃ z : Int, b.slots.getD q 0 = z := ⟨_, rfl⟩
     have hix := fun w => oE b.slots HL.out q vT w
     rw [e9] at hix
     have hql : q < b.slots.length := by have := HL.out; omega
     have hcp : (b.slots.take (q + 1)).countP (fun x => x == 0) = (b.slots.take q).countP (fun x => x == 0) + if (z == 0) = true then 1 else 0 := by
      rw [List.take_add_one, List.countP_append, List.getElem?_eq_getElem hql]
      have : b.slots[q] = z := by rw [← e9]; simp [List.getD, List.getElem?_eq_getElem hql]
      rw [this]
      simp
     have hcl : (b.slots.take q).countP (fun x => x == 0) ≤ 64 := Nat.le_trans List.countP_le_length (by simp; omega)
     cases hzz : (z == 0) with
     | true =>
      rw [hzz, if_pos rfl] at hcp
      have HC := ak hcp
      clear e9 hcp
      go_wp2
      go_roundw
      case rel => exact ⟨q + 1, nd, by omega, rfl, by go_num, by rw [HC.out]; go_num⟩
      case measure => simp [intOf]; omega
     | false =>
      rw [hzz, if_neg (by decide)] at hcp
      have HC := ak hcp
      clear e9 hcp
      go_wp2
      go_roundw
      case rel => exact ⟨q + 1, nd, by omega, rfl, by go_num, by rw [HC.out]; rfl⟩
      case measure => simp [intOf]; omega
    ·obtain rfl : q = 64 := by omega
     have hqb : decide ((64 : Int) < 64) = false := by decide
     have HV := ak (show kB b = decide (b.slots.countP (fun x => x == 0) = b.free.length) by
      unfold kB
      rw [HA.out, Bool.true_and])
     have HT := ak (show b.slots.take 64 = b.slots from List.take_of_length_le (by have := HL.out; omega))
     go_wp2
     go_ret
     refine ⟨?_, by repeat (first | exact HB.out | apply af)⟩
     rw [HV.out]
     simp only [HT.out]
     show Ending.returned (Value.bool (((b.slots.countP (fun x => x == 0) : Nat) : Int) == ((b.free.length : Nat) : Int))) = _
     congr 2
     rw [Bool.eq_iff_iff, beq_iff_eq, decide_eq_true_eq]
     exact Int.ofNat_inj
end Go.Proofs.Ytemhalnhbgkbcaa.V
end

section
namespace Go.Proofs.Ytemhalnhbgkbcaa.V
attribute [local go_sem] eH eF fk fj ei eh eG eE
theorem z8 (d : Nat) (w : World) (x0 y0 : ByteArray) (x1 y1 : ByteArray) :
  (Op.equalIn (d + 2) 85 (.agg #[.string x0, .string x1]) (.agg #[.string y0, .string y1])).run Try.prog w = .ok (x0.toList == y0.toList && (x1.toList == y1.toList)) w := by
 refine Nb Try.underlying85 (by kernel_rfl) ?_
 refine Hk (by rfl) (by go_simp; rfl) (by go_simp; rfl) (by go_simp) ?_
 exact Hj (by rfl) (by go_simp; rfl) (by go_simp; rfl) (by go_simp)
end Go.Proofs.Ytemhalnhbgkbcaa.V
end

section
namespace Go.Proofs.Ytemhalnhbgkbcaa.V
open Go.ChangeMaps (setBlock)
abbrev At := S85
def et (a : At) : Value := .agg #[.string a.f0, .string a.f1]
def sameAt (a b : At) : Bool := a.f0.toList == b.f0.toList && a.f1.toList == b.f1.toList
theorem kx (a b : At) : sameAt a b = true ↔ a = b := by
 obtain ⟨x, y⟩ := a
 obtain ⟨z, u⟩ := b
 simp only [sameAt, Bool.and_eq_true, beq_iff_eq, S85.mk.injEq]
 have h : ∀ p q : ByteArray, p.toList = q.toList ↔ p = q := fun p q => by
  rw [ByteArray.toList_eq, ByteArray.toList_eq]
  exact ⟨fun h => by obtain ⟨⟨l⟩⟩ := p; obtain ⟨⟨l'⟩⟩ := q; simp_all, fun h => by rw [h]⟩
 rw [h, h]
theorem vN (a b : At) : sameAt a b = sameAt b a := by
 rw [Bool.eq_iff_iff, kx, kx]
 exact ⟨Eq.symm, Eq.symm⟩
theorem oN (a : At) : sameAt a a = true := (kx a a).2 rfl
theorem D4 (a b : At) (w : World) : (Op.equal 85 (et a) (et b)).run Try.prog w = .ok (sameAt a b) w := z8 _ w a.f0 b.f0 a.f1 b.f1
theorem yN (e : Bool) (a : At) (w : World) : (Instr.checkKey e 10000 85 (et a)).run Try.prog w = .ok () w := by kernel_rfl
def eL (L : List (At × Int)) : List MapEntry := L.mapIdx fun i p => ⟨et p.1, .int .i64 p.2, i⟩
def mo (W : World) (g : Nat) (L : List (At × Int)) : Prop := W.heap[g]? = some (.map (eL L).toArray L.length)
def numOf (L : List (At × Int)) (a : At) : Int := match L.find? (fun p => sameAt a p.1) with | some p => p.2 | none => 0
def idxOf (L : List (At × Int)) (a : At) : Option Nat := L.findIdx? (fun p => sameAt a p.1)
def putAt (L : List (At × Int)) (a : At) (v : Int) : List (At × Int) := match idxOf L a with | some i => L.modify i (fun p => (p.1, v)) | none => L ++ [(a, v)]
theorem BJ (a : At) (w : World) : ∀ (L : List (At × Int)) (o i : Nat),
  (Instr.findAsking 85 (et a) (L.mapIdx fun j p => (⟨et p.1, .int .i64 p.2, o + j⟩ : MapEntry)) i).run Try.prog w = .ok ((idxOf L a).bind fun j => L[j]?.map fun p => (i + j, .int .i64 p.2)) w
 | [], _, _ => rfl
 | p :: L, o, i => by
  have ih := BJ a w L (o + 1) (i + 1)
  rw [List.mapIdx_cons]
  unfold Instr.findAsking idxOf
  rw [List.findIdx?_cons]
  simp only [Sem.run_bind, D4, Result.andThen_ok, Nat.add_zero]
  cases h : sameAt a p.1 with
  | true => simp
  | false =>
   simp only [Bool.false_eq_true, if_false]
   have e : (L.mapIdx fun j p => (⟨et p.1, .int .i64 p.2, o + (j + 1)⟩ : MapEntry)) = (L.mapIdx fun j p => (⟨et p.1, .int .i64 p.2, o + 1 + j⟩ : MapEntry)) := by
    congr 1
    funext j p
    rw [Nat.add_right_comm, Nat.add_assoc]
   rw [e, ih]
   unfold idxOf
   cases h2 : List.findIdx? (fun p => sameAt a p.1) L with
   | none => simp
   | some j =>
    simp only [Option.bind_some, Option.map_some, List.getElem?_cons_succ]
    rw [show i + 1 + j = i + (j + 1) by omega]
theorem vY (a : At) (w : World) (L : List (At × Int)) :
  (Instr.findKey 85 (et a) (eL L)).run Try.prog w = .ok ((idxOf L a).bind fun j => L[j]?.map fun p => (j, .int .i64 p.2)) w := by
 have h := BJ a w L 0 0
 simp only [Nat.zero_add] at h
 have hu := run_underlying (w := w) Try.underlying85
 unfold Instr.findKey
 simp only [Sem.run_bind, hu, Result.andThen_ok]
 cases L with
 | nil => rfl
 | cons p L =>
  have e : ∀ k r, Instr.findNow k (et a) (eL (p :: L)) 0 = none → ((match Instr.findNow k (et a) (eL (p :: L)) 0 with | some r => pure r | none => Instr.findAsking 85 (et a) (eL (p :: L))) : Sem (Option (Nat × Value))).run Try.prog w = r → (match Instr.findNow k (et a) (eL (p :: L)) 0 with | some r => pure r | none => Instr.findAsking 85 (et a) (eL (p :: L)) : Sem (Option (Nat × Value))).run Try.prog w = r := fun _ _ _ h => h
  rw [show ∀ fs, Instr.findNow (.struct fs) (et a) (eL (p :: L)) 0 = none from fun fs => by simp [eL, List.mapIdx_cons, Instr.findNow, Instr.sameNow, et]]
  exact h
theorem wW {L : List (At × Int)} {a : At} {j : Nat} (h : idxOf L a = some j) : ∃ p, L[j]? = some p ∧ sameAt a p.1 = true ∧ numOf L a = p.2 := by
 unfold idxOf at h
 obtain ⟨hj, h1, h2⟩ := List.findIdx?_eq_some_iff_getElem.1 h
 refine ⟨L[j], List.getElem?_eq_getElem hj, h1, ?_⟩
 unfold numOf
 have : L.find? (fun p => sameAt a p.1) = some L[j] := by
  rw [List.find?_eq_some_iff_getElem]
  exact ⟨h1, j, hj, rfl, fun k hk => by simpa using h2 k hk⟩
 rw [this]
theorem pL {L : List (At × Int)} {a : At} (h : idxOf L a = none) : (∀ p ∈ L, sameAt a p.1 = false) ∧ numOf L a = 0 := by
 unfold idxOf at h
 have h1 : ∀ p ∈ L, sameAt a p.1 = false := by simpa using h
 refine ⟨h1, ?_⟩
 unfold numOf
 have : L.find? (fun p => sameAt a p.1) = none := by simpa using h1
 rw [this]
theorem Ia (w : World) : (zeroValue 3).run Try.prog w = .ok (.int .i64 0) w := by kernel_rfl
theorem wi (W : World) (g : Nat) (L : List (At × Int)) (h : mo W g L) (a : At) : (Instr.lookup 93 (.map (some g)) (et a) false).run Try.prog W = .ok (.int .i64 (numOf L a)) W := by
 have hk := vY a W L
 unfold Instr.lookup
 simp only [Sem.run_bind, run_underlying Try.underlying93, Result.andThen_ok, MapKept.run_getObj_map h, yN, Sem.run_pure, hk]
 cases hi : idxOf L a with
 | none =>
  rw [(pL hi).2]
  simp [Ia]
 | some j =>
  obtain ⟨p, hp, _, hn⟩ := wW hi
  rw [hn]
  simp [hp]
theorem wR {L : List (At × Int)} {a : At} (h : idxOf L a = none) (v : Int) : numOf (L ++ [(a, v)]) a = v := by
 have h1 := (pL h).1
 have h2 : L.find? (fun p => sameAt a p.1) = none := by simpa using h1
 unfold numOf
 rw [List.find?_append, h2]
 simp [oN]
theorem Fo {L : List (At × Int)} {a : At} (h : idxOf L a = none) : numOf (L ++ [(a, 0)]) a = numOf L a := by
 rw [wR h, (pL h).2]
theorem CW (a b : At) (h : sameAt a b = true) : Instr.sameBits 10000 (et a) (et b) = true := by
 obtain rfl := (kx a b).1 h
 show ((2 == 2) && ((#[Value.string a.f0, .string a.f1].toList.zip #[Value.string a.f0, .string a.f1].toList).all fun (x, y) => Instr.sameBits 9999 x y)) = true
 simp [Instr.sameBits, MapKept.bytes_beq]
theorem Bh (L : List (At × Int)) : (eL L).length = L.length := by simp [eL]
theorem uy (L : List (At × Int)) (i : Nat) : (eL L)[i]? = L[i]?.map fun p => ⟨et p.1, .int .i64 p.2, i⟩ := by simp [eL]
theorem wT (L : List (At × Int)) (j : Nat) (hj : j < L.length) : (eL L).findIdx? (fun e => (e.born : Int) == (j : Int)) = some j := by
 rw [List.findIdx?_eq_some_iff_getElem]
 refine ⟨by rw [Bh]; exact hj, ?_, fun k hk => ?_⟩
 ·simp [eL]
 ·simp only [eL, List.getElem_mapIdx, Bool.not_eq_true, beq_eq_false_iff_ne]
  omega
theorem zI (j : Nat) (w : World) : (asInt (.int .i64 (j : Int))).run Try.prog w = .ok (j : Int) w := by simp [asInt, asIntOf]
theorem FW (W : World) (g : Nat) (L : List (At × Int)) (h : mo W g L) (hl : L.length < 1000) (a : At) (v : Int) :
  ∃ W1 W2 j, (Instr.mapEntry 93 (.map (some g)) (et a)).run Try.prog W = .ok (.tuple #[.int .i64 (numOf L a), .int .i64 j]) W1 ∧ (∃ L1, mo W1 g L1 ∧ numOf L1 a = numOf L a) ∧
   (Instr.entryStore 93 (.map (some g)) (.int .i64 j) (.int .i64 v)).run Try.prog W1 = .ok () W2 ∧ mo W2 g (putAt L a v) ∧ W.grownBy W2 (some g) ∧ (∀ p, p.block ≠ g → W1.cell? p = W.cell? p) := by
 have hk := vY a W L
 have hb : ∀ (w : World) (es es' : Array MapEntry) (c c' : Nat), w.heap[g]? = some (.map es c) → (setBlock w g (.map es' c')).heap[g]? = some (.map es' c') := fun w es es' c c' hw => by
  have := (Array.getElem?_eq_some_iff.1 hw).1
  simp [setBlock, this]
 have hgr : ∀ (es : Array MapEntry) (c : Nat), W.grownBy (setBlock W g (.map es c)) (some g) := fun es c => ⟨rfl, rfl, rfl, by simp [setBlock], fun k _ hk => by simp only [setBlock]; rw [Array.getElem?_setIfInBounds_ne (fun e => hk (by rw [e]))]⟩
 have hc : ∀ (es : Array MapEntry) (c : Nat) (p : Addr), p.block ≠ g → (setBlock W g (.map es c)).cell? p = W.cell? p := fun es c p hp => by
  have : (setBlock W g (.map es c)).heap[p.block]? = W.heap[p.block]? := by simp only [setBlock]; rw [Array.getElem?_setIfInBounds_ne (fun e => hp e.symm)]
  simp [World.cell?, this]
 have hu := run_underlying (w := W) Try.underlying93
 cases hi : idxOf L a with
 | none =>
  rw [hi] at hk
  have e1 : (eL L).toArray.push ⟨et a, .int .i64 0, L.length⟩ = (eL (L ++ [(a, 0)])).toArray := by
   simp [eL, List.mapIdx_append]
  have uF : (setBlock W g (.map (eL (L ++ [(a, 0)])).toArray (L.length + 1))).heap[g]? = some (.map (eL (L ++ [(a, 0)])).toArray (L.length + 1)) := hb W _ _ _ _ h
  refine ⟨setBlock W g (.map (eL (L ++ [(a, 0)])).toArray (L.length + 1)), setBlock W g (.map (eL (L ++ [(a, v)])).toArray (L.length + 1)), L.length, ?_, ⟨L ++ [(a, 0)], by unfold mo; rw [List.length_append]; exact uF, Fo hi⟩, ?_, ?_, hgr _ _, fun p hp => hc _ _ p hp⟩
  ·rw [(pL hi).2, ← e1]
   unfold Instr.mapEntry
   simp only [Sem.run_bind, hu, Result.andThen_ok, MapKept.run_getObj_map h, yN, Sem.run_pure, hk, Option.bind_none, Ia, MapKept.run_setObj_map _ h]
   rfl
  ·have e2 : ((eL (L ++ [(a, 0)])).toArray.modify L.length fun e => { e with val := .int .i64 v }) = (eL (L ++ [(a, v)])).toArray := by
    apply Array.ext_getElem?
    intro k
    rw [Array.getElem?_modify]
    simp only [List.getElem?_toArray, uy]
    rcases Nat.lt_trichotomy k L.length with hk | hk | hk
    ·rw [if_neg (by omega), List.getElem?_append_left hk, List.getElem?_append_left hk]
    ·subst hk
     simp
    ·rw [if_neg (by omega), List.getElem?_eq_none (by simp; omega), List.getElem?_eq_none (by simp; omega)]
   have hf : (eL (L ++ [(a, 0)])).toArray.findIdx? (fun e => (e.born : Int) == ((L.length : Nat) : Int)) = some L.length := by
    rw [List.findIdx?_toArray]
    exact wT _ _ (by simp)
   unfold Instr.entryStore
   simp only [Sem.run_bind, Result.andThen_ok, MapKept.run_getObj_map uF, Sem.run_pure, zI, hf, MapKept.run_setObj_map _ uF, e2]
   simp [setBlock, Array.setIfInBounds_setIfInBounds]
  ·have := hb W (eL L).toArray (eL (L ++ [(a, v)])).toArray L.length (L.length + 1) h
   unfold mo putAt
   rw [hi]
   simpa using this
 | some j =>
  obtain ⟨p, hp, hsm, hn⟩ := wW hi
  have hjl : j < L.length := (List.getElem?_eq_some_iff.1 hp).1
  rw [hi] at hk
  have hent : (eL L).toArray[j]? = some ⟨et p.1, .int .i64 p.2, j⟩ := by
   rw [List.getElem?_toArray, uy, hp]
   rfl
  obtain rfl := (kx a p.1).1 hsm
  have e1 : ((eL L).toArray.modify j fun e => { e with key := et p.1 }) = (eL L).toArray := by
   apply Array.ext_getElem?
   intro k
   rw [Array.getElem?_modify]
   by_cases hk : k = j
   ·subst hk
    rw [if_pos rfl, hent]
    rfl
   ·rw [if_neg (fun e => hk e.symm)]
  have uF : (setBlock W g (.map (eL L).toArray L.length)).heap[g]? = some (.map (eL L).toArray L.length) := hb W _ _ _ _ h
  refine ⟨setBlock W g (.map (eL L).toArray L.length), setBlock W g (.map (eL (L.modify j fun q => (q.1, v))).toArray L.length), j, ?_, ⟨L, uF, rfl⟩, ?_, ?_, hgr _ _, fun p hp => hc _ _ p hp⟩
  ·rw [hn]
   unfold Instr.mapEntry
   simp only [Sem.run_bind, hu, Result.andThen_ok, MapKept.run_getObj_map h, yN, Sem.run_pure, hk, Option.bind_some, hp, Option.map_some, hent, Option.getD_some, Instr.keyThatStays, CW _ _ hsm, if_true, e1, MapKept.run_setObj_map _ h]
   rfl
  ·have e2 : ((eL L).toArray.modify j fun e => { e with val := .int .i64 v }) = (eL (L.modify j fun q => (q.1, v))).toArray := by
    apply Array.ext_getElem?
    intro k
    rw [Array.getElem?_modify]
    simp only [List.getElem?_toArray, uy, List.getElem?_modify]
    by_cases hk : j = k
    ·subst hk
     simp [hp]
    ·simp [hk]
   have hf : (eL L).toArray.findIdx? (fun e => (e.born : Int) == ((j : Nat) : Int)) = some j := by
    rw [List.findIdx?_toArray]
    exact wT _ _ hjl
   unfold Instr.entryStore
   simp only [Sem.run_bind, Result.andThen_ok, MapKept.run_getObj_map uF, Sem.run_pure, zI, hf, MapKept.run_setObj_map _ uF, e2]
   simp [setBlock, Array.setIfInBounds_setIfInBounds]
  ·have := hb W (eL L).toArray (eL (L.modify j fun q => (q.1, v))).toArray L.length L.length h
   unfold mo putAt
   rw [hi]
   simpa using this
theorem zq (L : List (At × Int)) (a : At) (v : Int) : numOf (putAt L a v) a = v := by
 unfold putAt
 cases hi : idxOf L a with
 | none => exact wR hi v
 | some j =>
  have hi' := hi
  unfold idxOf at hi'
  obtain ⟨hj, h1, h2⟩ := List.findIdx?_eq_some_iff_getElem.1 hi'
  unfold numOf
  have : (L.modify j fun p => (p.1, v)).find? (fun p => sameAt a p.1) = some (L[j].1, v) := by
   rw [List.find?_eq_some_iff_getElem]
   refine ⟨h1, j, by simpa using hj, by simp, fun k hk => ?_⟩
   have := h2 k hk
   simp only [List.getElem_modify]
   rw [if_neg (by omega)]
   simpa using this
  rw [this]
end Go.Proofs.Ytemhalnhbgkbcaa.V
end

section
namespace Go.Proofs.Ytemhalnhbgkbcaa.V
attribute [local go_sem] eH eF fk fj ei eh eG eE
mutual
def dj.j0 : Nat → Int → Bool → Option (Bool)
 | 0, _, _ => none
 | k + 1, x0, x3 => if x3 = true then (dj.j1 k x0 x3) else (if x0 ≥ 65 then (if x0 ≤ 90 then (dj.j1 k x0 (decide (x0 ≤ 90))) else (if x0 ≥ 48 then (dj.j1 k x0 (decide (x0 ≤ 57))) else (dj.j1 k x0 false))) else (if x0 ≥ 48 then (dj.j1 k x0 (decide (x0 ≤ 57))) else (dj.j1 k x0 false)))
def dj.j1 : Nat → Int → Bool → Option (Bool)
 | 0, _, _ => none
 | k + 1, x0, x3 => if x3 = true then (some true) else (if x0 = 46 then (some true) else (if x0 = 45 then (some true) else (if x0 = 95 then (some true) else (some false))))
end
def dj.f (k : Nat) (a0 : Int) : Option (Bool) := if a0 ≥ 97 then (dj.j0 k a0 (decide (a0 ≤ 122))) else (dj.j0 k a0 false)
set_option maxHeartbeats 8000000 in
set_option maxRecDepth 100000 in
theorem dj.calls (k : Nat) (a0 : Int) (r : Bool) (w : World) (h : dj.f k a0 = some r) :
  Calls Try.prog 112 #[.int .i32 a0] w fun e w' => e = .returned (.bool r) ∧ Drawn0 w w' := by
 have H : (if a0 ≥ 97 then (dj.j0 k a0 (decide (a0 ≤ 122))) else (dj.j0 k a0 false)) = some r := h
 clear h
 have DT := ak H
 clear H
 go_enter Try.func112, Try.ntmps112
 go_upto_region 1 with (fail)
 go_cut [3] (fun v3 wc => ∃ (kq : Nat) (an : Bool), v3 = .bool an ∧ Aside0 (dj.j0 kq a0 an = some r) ∧ Aside0 (kq ≤ k) ∧ Drawn0 w wc)
 case first =>
  have H := DT.out
  clear DT
  by_cases c3 : a0 ≥ 97
  ·rw [if_pos c3] at H
   have nK : decide (97 ≤ a0) = true := decide_eq_true c3
   clear c3
   (first | rw [nK] | (simp only [mh, m3]; rw [nK]) | skip)
   have H' := ak H
   clear H
   go_wp2
   go_meet
   case rel => exact ⟨_, (decide (a0 ≤ 122)), (by first | rfl | (simp; done) | (simp [*]; done)), H', ⟨by first | omega | exact Nat.le_refl _⟩, by repeat (first | exact Drawn0.refl _ | apply Drawn0.step)⟩
  ·rw [if_neg c3] at H
   have nK : decide (97 ≤ a0) = false := decide_eq_false c3
   clear c3
   (first | rw [nK] | (simp only [mh, m3]; rw [nK]) | skip)
   have H' := ak H
   clear H
   go_wp2
   go_meet
   case rel => exact ⟨_, (false), (by first | rfl | (simp; done) | (simp [*]; done)), H', ⟨by first | omega | exact Nat.le_refl _⟩, by repeat (first | exact Drawn0.refl _ | apply Drawn0.step)⟩
 case rest =>
  clear DT
  obtain ⟨kq, an, rfl, HA, DS, ⟨Vj, rfl⟩⟩ := hcut
  cases kq with
  | zero => exact absurd HA.out (by simp [dj.j0])
  | succ Bl =>
   have H := HA.out
   clear HA
   simp only [dj.j0] at H
   have NU := ak H
   clear H
   go_upto_if 3 with (fail)
   go_cut [3] (fun v3 wc => ∃ (kq : Nat) (DW : Bool), v3 = .bool DW ∧ Aside0 (dj.j1 kq a0 DW = some r) ∧ Aside0 (kq ≤ Bl) ∧ Drawn0 w wc)
   case first =>
    have H := NU.out
    clear NU
    by_cases c5 : an = true
    ·subst c5
     have H1 : (dj.j1 Bl a0 true) = some r := by rw [if_pos rfl] at H; exact H
     clear H
     have H := H1
     clear H1
     have H' := ak H
     clear H
     go_wp2
     go_meet
     case rel => exact ⟨_, (true), (by first | rfl | (simp; done) | (simp [*]; done)), H', ⟨by have := DS.out; first | omega | exact Nat.le_refl _⟩, by repeat (first | exact Drawn0.refl _ | apply Drawn0.step)⟩
    ·replace c5 := Bool.eq_false_iff.mpr c5
     subst c5
     have H1 : (if a0 ≥ 65 then (if a0 ≤ 90 then (dj.j1 Bl a0 (decide (a0 ≤ 90))) else (if a0 ≥ 48 then (dj.j1 Bl a0 (decide (a0 ≤ 57))) else (dj.j1 Bl a0 false))) else (if a0 ≥ 48 then (dj.j1 Bl a0 (decide (a0 ≤ 57))) else (dj.j1 Bl a0 false))) = some r := by rw [if_neg (show ¬ (false = true) by decide)] at H; exact H
     clear H
     have H := H1
     clear H1
     by_cases c6 : a0 ≥ 65
     ·rw [if_pos c6] at H
      have nJ : decide (65 ≤ a0) = true := decide_eq_true c6
      clear c6
      (first | rw [nJ] | (simp only [mh, m3]; rw [nJ]) | skip)
      by_cases c7 : a0 ≤ 90
      ·rw [if_pos c7] at H
       have qC : decide (a0 ≤ 90) = true := decide_eq_true c7
       clear c7
       have H' := ak H
       clear H
       go_wp2
       go_meet
       case rel => exact ⟨_, (decide (a0 ≤ 90)), (by first | rfl | (simp; done) | (simp [*]; done)), H', ⟨by have := DS.out; first | omega | exact Nat.le_refl _⟩, by repeat (first | exact Drawn0.refl _ | apply Drawn0.step)⟩
      ·rw [if_neg c7] at H
       have qC : decide (a0 ≤ 90) = false := decide_eq_false c7
       clear c7
       by_cases c8 : a0 ≥ 48
       ·rw [if_pos c8] at H
        have qB : decide (48 ≤ a0) = true := decide_eq_true c8
        clear c8
        have H' := ak H
        clear H
        go_wp2
        go_meet
        case rel => exact ⟨_, (decide (a0 ≤ 57)), (by first | rfl | (simp; done) | (simp [*]; done)), H', ⟨by have := DS.out; first | omega | exact Nat.le_refl _⟩, by repeat (first | exact Drawn0.refl _ | apply Drawn0.step)⟩
       ·rw [if_neg c8] at H
        have qB : decide (48 ≤ a0) = false := decide_eq_false c8
        clear c8
        have H' := ak H
        clear H
        go_wp2
        go_meet
        case rel => exact ⟨_, (false), (by first | rfl | (simp; done) | (simp [*]; done)), H', ⟨by have := DS.out; first | omega | exact Nat.le_refl _⟩, by repeat (first | exact Drawn0.refl _ | apply Drawn0.step)⟩
     ·rw [if_neg c6] at H
      have nJ : decide (65 ≤ a0) = false := decide_eq_false c6
      clear c6
      (first | rw [nJ] | (simp only [mh, m3]; rw [nJ]) | skip)
      by_cases c9 : a0 ≥ 48
      ·rw [if_pos c9] at H
       have Hs : decide (48 ≤ a0) = true := decide_eq_true c9
       clear c9
       have H' := ak H
       clear H
       go_wp2
       go_meet
       case rel => exact ⟨_, (decide (a0 ≤ 57)), (by first | rfl | (simp; done) | (simp [*]; done)), H', ⟨by have := DS.out; first | omega | exact Nat.le_refl _⟩, by repeat (first | exact Drawn0.refl _ | apply Drawn0.step)⟩
      ·rw [if_neg c9] at H
       have Hs : decide (48 ≤ a0) = false := decide_eq_false c9
       clear c9
       have H' := ak H
       clear H
       go_wp2
       go_meet
       case rel => exact ⟨_, (false), (by first | rfl | (simp; done) | (simp [*]; done)), H', ⟨by have := DS.out; first | omega | exact Nat.le_refl _⟩, by repeat (first | exact Drawn0.refl _ | apply Drawn0.step)⟩
   case rest =>
    clear NU
    obtain ⟨kq, DW, rfl, HA, PJ, ⟨Vi, rfl⟩⟩ := hcut
    cases kq with
    | zero => exact absurd HA.out (by simp [dj.j1])
    | succ Vk =>
     have H := HA.out
     clear HA
     simp only [dj.j1] at H
     by_cases c10 : DW = true
     ·subst c10
      have H1 : (some true) = some r := by rw [if_pos rfl] at H; exact H
      clear H
      have H := H1
      clear H1
      obtain rfl := Option.some.inj H
      go_wp2
      go_ret
      exact ⟨by first | rfl | (simp; done) | (simp [*]; done), by repeat (first | exact Drawn0.refl _ | apply Drawn0.step)⟩
     ·replace c10 := Bool.eq_false_iff.mpr c10
      subst c10
      have H1 : (if a0 = 46 then (some true) else (if a0 = 45 then (some true) else (if a0 = 95 then (some true) else (some false)))) = some r := by rw [if_neg (show ¬ (false = true) by decide)] at H; exact H
      clear H
      have H := H1
      clear H1
      by_cases qF : a0 = 46
      ·rw [if_pos qF] at H
       have Er : (a0 == 46) = true := beq_iff_eq.mpr qF
       have Ep : (a0 != 46) = false := bne_eq_false_iff_eq.mpr qF
       clear qF
       obtain rfl := Option.some.inj H
       go_wp2
       go_ret
       exact ⟨by first | rfl | (simp; done) | (simp [*]; done), by repeat (first | exact Drawn0.refl _ | apply Drawn0.step)⟩
      ·rw [if_neg qF] at H
       have Er : (a0 == 46) = false := beq_eq_false_iff_ne.mpr qF
       have Ep : (a0 != 46) = true := bne_iff_ne.mpr qF
       by_cases qE : a0 = 45
       ·rw [if_pos qE] at H
        have Eo : (a0 == 45) = true := beq_iff_eq.mpr qE
        have En : (a0 != 45) = false := bne_eq_false_iff_eq.mpr qE
        clear qE
        obtain rfl := Option.some.inj H
        go_wp2
        go_ret
        exact ⟨by first | rfl | (simp; done) | (simp [*]; done), by repeat (first | exact Drawn0.refl _ | apply Drawn0.step)⟩
       ·rw [if_neg qE] at H
        have Eo : (a0 == 45) = false := beq_eq_false_iff_ne.mpr qE
        have En : (a0 != 45) = true := bne_iff_ne.mpr qE
        by_cases qD : a0 = 95
        ·rw [if_pos qD] at H
         have Em : (a0 == 95) = true := beq_iff_eq.mpr qD
         have El : (a0 != 95) = false := bne_eq_false_iff_eq.mpr qD
         clear qD
         obtain rfl := Option.some.inj H
         go_wp2
         go_ret
         exact ⟨by first | rfl | (simp; done) | (simp [*]; done), by repeat (first | exact Drawn0.refl _ | apply Drawn0.step)⟩
        ·rw [if_neg qD] at H
         have Em : (a0 == 95) = false := beq_eq_false_iff_ne.mpr qD
         have El : (a0 != 95) = true := bne_iff_ne.mpr qD
         obtain rfl := Option.some.inj H
         go_wp2
         go_ret
         exact ⟨by first | rfl | (simp; done) | (simp [*]; done), by repeat (first | exact Drawn0.refl _ | apply Drawn0.step)⟩
end Go.Proofs.Ytemhalnhbgkbcaa.V
end

section
namespace Go.Proofs.Ytemhalnhbgkbcaa.V
attribute [local go_sem] eH eF fk fj ei eh eG eE
def az.l0 : Nat → ByteArray → Int → Option (Bool)
 | 0, _, _ => none
 | k + 1, x0, x3 => if x3 < (x0.size : Int) then (if 0 ≤ x3 then (if (bt x0 x3) ≥ 97 then (if (bt x0 x3) ≤ 122 then (az.l0 k x0 (wrap64 (x3 + 1))) else (if (bt x0 x3) ≥ 65 then (if (bt x0 x3) ≤ 90 then (az.l0 k x0 (wrap64 (x3 + 1))) else (if (bt x0 x3) ≥ 48 then (if (bt x0 x3) ≤ 57 then (az.l0 k x0 (wrap64 (x3 + 1))) else (if (bt x0 x3) = 46 then (az.l0 k x0 (wrap64 (x3 + 1))) else (if (bt x0 x3) = 45 then (az.l0 k x0 (wrap64 (x3 + 1))) else (if ((bt x0 x3) = 95) then (az.l0 k x0 (wrap64 (x3 + 1))) else (some false))))) else (if (bt x0 x3) = 46 then (az.l0 k x0 (wrap64 (x3 + 1))) else (if (bt x0 x3) = 45 then (az.l0 k x0 (wrap64 (x3 + 1))) else (if ((bt x0 x3) = 95) then (az.l0 k x0 (wrap64 (x3 + 1))) else (some false)))))) else (if (bt x0 x3) ≥ 48 then (if (bt x0 x3) ≤ 57 then (az.l0 k x0 (wrap64 (x3 + 1))) else (if (bt x0 x3) = 46 then (az.l0 k x0 (wrap64 (x3 + 1))) else (if (bt x0 x3) = 45 then (az.l0 k x0 (wrap64 (x3 + 1))) else (if ((bt x0 x3) = 95) then (az.l0 k x0 (wrap64 (x3 + 1))) else (some false))))) else (if (bt x0 x3) = 46 then (az.l0 k x0 (wrap64 (x3 + 1))) else (if (bt x0 x3) = 45 then (az.l0 k x0 (wrap64 (x3 + 1))) else (if ((bt x0 x3) = 95) then (az.l0 k x0 (wrap64 (x3 + 1))) else (some false))))))) else (if (bt x0 x3) ≥ 65 then (if (bt x0 x3) ≤ 90 then (az.l0 k x0 (wrap64 (x3 + 1))) else (if (bt x0 x3) ≥ 48 then (if (bt x0 x3) ≤ 57 then (az.l0 k x0 (wrap64 (x3 + 1))) else (if (bt x0 x3) = 46 then (az.l0 k x0 (wrap64 (x3 + 1))) else (if (bt x0 x3) = 45 then (az.l0 k x0 (wrap64 (x3 + 1))) else (if ((bt x0 x3) = 95) then (az.l0 k x0 (wrap64 (x3 + 1))) else (some false))))) else (if (bt x0 x3) = 46 then (az.l0 k x0 (wrap64 (x3 + 1))) else (if (bt x0 x3) = 45 then (az.l0 k x0 (wrap64 (x3 + 1))) else (if ((bt x0 x3) = 95) then (az.l0 k x0 (wrap64 (x3 + 1))) else (some false)))))) else (if (bt x0 x3) ≥ 48 then (if (bt x0 x3) ≤ 57 then (az.l0 k x0 (wrap64 (x3 + 1))) else (if (bt x0 x3) = 46 then (az.l0 k x0 (wrap64 (x3 + 1))) else (if (bt x0 x3) = 45 then (az.l0 k x0 (wrap64 (x3 + 1))) else (if ((bt x0 x3) = 95) then (az.l0 k x0 (wrap64 (x3 + 1))) else (some false))))) else (if (bt x0 x3) = 46 then (az.l0 k x0 (wrap64 (x3 + 1))) else (if (bt x0 x3) = 45 then (az.l0 k x0 (wrap64 (x3 + 1))) else (if ((bt x0 x3) = 95) then (az.l0 k x0 (wrap64 (x3 + 1))) else (some false))))))) else (none)) else (if (x0.size : Int) ≥ 1 then (some (decide ((x0.size : Int) ≤ 64))) else (some false))
def az.f (k : Nat) (a0 : ByteArray) : Option (Bool) := az.l0 k a0 0
set_option maxHeartbeats 8000000 in
set_option maxRecDepth 100000 in
theorem az.calls (k : Nat) (a0 : ByteArray) (r : Bool) (w : World) (h : az.f k a0 = some r) :
  Calls Try.prog 81 #[.string a0] w fun e w' => e = .returned (.bool r) ∧ Drawn0 w w' := by
 have H : (az.l0 k a0 0) = some r := h
 clear h
 have H' := ak H
 clear H
 go_enter Try.func81, Try.ntmps81
 go_wp2
 go_loopg [3] k (fun kq v3 w' => ∃ (an : Int), v3 = .int .i64 an ∧ Aside0 (az.l0 kq a0 an = some r) ∧ Aside0 (kq ≤ k) ∧ Drawn0 w w')
 case atStart => exact ⟨(0), (by first | rfl | (simp; done) | (simp [*]; done)), H', ⟨Nat.le_refl _⟩, by repeat (first | exact Drawn0.refl _ | apply Drawn0.step)⟩
 case round =>
  clear H'
  obtain ⟨an, rfl, HA, dC, ⟨m1, rfl⟩⟩ := hrel
  cases gk with
  | zero => exact absurd HA.out (by simp [az.l0])
  | succ k1 =>
   have H := HA.out
   clear HA
   simp only [az.l0] at H
   by_cases c2 : an < (a0.size : Int)
   ·rw [if_pos c2] at H
    have sB : decide (an < (a0.size : Int)) = true := decide_eq_true c2
    clear c2
    by_cases c3 : 0 ≤ an
    ·rw [if_pos c3] at H
     have nK : decide (0 ≤ an) = true := decide_eq_true c3
     clear c3
     by_cases c5 : (bt a0 an) ≥ 97
     ·rw [if_pos c5] at H
      have wy : decide (97 ≤ (bt a0 an)) = true := decide_eq_true c5
      clear c5
      by_cases c6 : (bt a0 an) ≤ 122
      ·rw [if_pos c6] at H
       have nJ : decide ((bt a0 an) ≤ 122) = true := decide_eq_true c6
       clear c6
       have H' := ak H
       clear H
       have p4 : 0 ≤ (an : Int) := of_decide_eq_true (by first | (with_reducible assumption) | assumption)
       have q4 : an < (a0.size : Int) := of_decide_eq_true (by first | (with_reducible assumption) | assumption)
       have iF := eQ a0 an
       replace p4 := eq_true p4
       replace q4 := eq_true q4
       go_wp2
       go_roundg k1
       case measure => have := dC.out; omega
       case rel => exact ⟨(wrap64 (an + 1)), (by first | rfl | (simp; done) | (simp [*]; done)), H', ⟨by have := dC.out; omega⟩, by repeat (first | exact Drawn0.refl _ | apply Drawn0.step)⟩
      ·rw [if_neg c6] at H
       have nJ : decide ((bt a0 an) ≤ 122) = false := decide_eq_false c6
       clear c6
       by_cases c7 : (bt a0 an) ≥ 65
       ·rw [if_pos c7] at H
        have qC : decide (65 ≤ (bt a0 an)) = true := decide_eq_true c7
        clear c7
        by_cases c8 : (bt a0 an) ≤ 90
        ·rw [if_pos c8] at H
         have qB : decide ((bt a0 an) ≤ 90) = true := decide_eq_true c8
         clear c8
         have H' := ak H
         clear H
         have p4 : 0 ≤ (an : Int) := of_decide_eq_true (by first | (with_reducible assumption) | assumption)
         have q4 : an < (a0.size : Int) := of_decide_eq_true (by first | (with_reducible assumption) | assumption)
         have iF := eQ a0 an
         replace p4 := eq_true p4
         replace q4 := eq_true q4
         go_wp2
         go_roundg k1
         case measure => have := dC.out; omega
         case rel => exact ⟨(wrap64 (an + 1)), (by first | rfl | (simp; done) | (simp [*]; done)), H', ⟨by have := dC.out; omega⟩, by repeat (first | exact Drawn0.refl _ | apply Drawn0.step)⟩
        ·rw [if_neg c8] at H
         have qB : decide ((bt a0 an) ≤ 90) = false := decide_eq_false c8
         clear c8
         by_cases c9 : (bt a0 an) ≥ 48
         ·rw [if_pos c9] at H
          have Hs : decide (48 ≤ (bt a0 an)) = true := decide_eq_true c9
          clear c9
          by_cases c10 : (bt a0 an) ≤ 57
          ·rw [if_pos c10] at H
           have Pa : decide ((bt a0 an) ≤ 57) = true := decide_eq_true c10
           clear c10
           have H' := ak H
           clear H
           have p4 : 0 ≤ (an : Int) := of_decide_eq_true (by first | (with_reducible assumption) | assumption)
           have q4 : an < (a0.size : Int) := of_decide_eq_true (by first | (with_reducible assumption) | assumption)
           have iF := eQ a0 an
           replace p4 := eq_true p4
           replace q4 := eq_true q4
           go_wp2
           go_roundg k1
           case measure => have := dC.out; omega
           case rel => exact ⟨(wrap64 (an + 1)), (by first | rfl | (simp; done) | (simp [*]; done)), H', ⟨by have := dC.out; omega⟩, by repeat (first | exact Drawn0.refl _ | apply Drawn0.step)⟩
          ·rw [if_neg c10] at H
           have Pa : decide ((bt a0 an) ≤ 57) = false := decide_eq_false c10
           clear c10
           by_cases qF : (bt a0 an) = 46
           ·rw [if_pos qF] at H
            have Er : ((bt a0 an) == 46) = true := beq_iff_eq.mpr qF
            have Ep : ((bt a0 an) != 46) = false := bne_eq_false_iff_eq.mpr qF
            clear qF
            have H' := ak H
            clear H
            have p4 : 0 ≤ (an : Int) := of_decide_eq_true (by first | (with_reducible assumption) | assumption)
            have q4 : an < (a0.size : Int) := of_decide_eq_true (by first | (with_reducible assumption) | assumption)
            have iF := eQ a0 an
            replace p4 := eq_true p4
            replace q4 := eq_true q4
            go_wp2
            go_roundg k1
            case measure => have := dC.out; omega
            case rel => exact ⟨(wrap64 (an + 1)), (by first | rfl | (simp; done) | (simp [*]; done)), H', ⟨by have := dC.out; omega⟩, by repeat (first | exact Drawn0.refl _ | apply Drawn0.step)⟩
           ·rw [if_neg qF] at H
            have Er : ((bt a0 an) == 46) = false := beq_eq_false_iff_ne.mpr qF
            have Ep : ((bt a0 an) != 46) = true := bne_iff_ne.mpr qF
            by_cases qE : (bt a0 an) = 45
            ·rw [if_pos qE] at H
             have Eo : ((bt a0 an) == 45) = true := beq_iff_eq.mpr qE
             have En : ((bt a0 an) != 45) = false := bne_eq_false_iff_eq.mpr qE
             clear qE
             have H' := ak H
             clear H
             have p4 : 0 ≤ (an : Int) := of_decide_eq_true (by first | (with_reducible assumption) | assumption)
             have q4 : an < (a0.size : Int) := of_decide_eq_true (by first | (with_reducible assumption) | assumption)
             have iF := eQ a0 an
             replace p4 := eq_true p4
             replace q4 := eq_true q4
             go_wp2
             go_roundg k1
             case measure => have := dC.out; omega
             case rel => exact ⟨(wrap64 (an + 1)), (by first | rfl | (simp; done) | (simp [*]; done)), H', ⟨by have := dC.out; omega⟩, by repeat (first | exact Drawn0.refl _ | apply Drawn0.step)⟩
            ·rw [if_neg qE] at H
             have Eo : ((bt a0 an) == 45) = false := beq_eq_false_iff_ne.mpr qE
             have En : ((bt a0 an) != 45) = true := bne_iff_ne.mpr qE
             by_cases qD : ((bt a0 an) = 95)
             ·rw [if_pos qD] at H
              have Em : ((bt a0 an) == 95) = true := beq_iff_eq.mpr qD
              have El : ((bt a0 an) != 95) = false := bne_eq_false_iff_eq.mpr qD
              clear qD
              have H' := ak H
              clear H
              have p4 : 0 ≤ (an : Int) := of_decide_eq_true (by first | (with_reducible assumption) | assumption)
              have q4 : an < (a0.size : Int) := of_decide_eq_true (by first | (with_reducible assumption) | assumption)
              have iF := eQ a0 an
              replace p4 := eq_true p4
              replace q4 := eq_true q4
              go_wp2
              go_roundg k1
              case measure => have := dC.out; omega
              case rel => exact ⟨(wrap64 (an + 1)), (by first | rfl | (simp; done) | (simp [*]; done)), H', ⟨by have := dC.out; omega⟩, by repeat (first | exact Drawn0.refl _ | apply Drawn0.step)⟩
             ·rw [if_neg qD] at H
              have Em : ((bt a0 an) == 95) = false := beq_eq_false_iff_ne.mpr qD
              have El : ((bt a0 an) != 95) = true := bne_iff_ne.mpr qD
              obtain rfl := Option.some.inj H
              have p4 : 0 ≤ (an : Int) := of_decide_eq_true (by first | (with_reducible assumption) | assumption)
              have q4 : an < (a0.size : Int) := of_decide_eq_true (by first | (with_reducible assumption) | assumption)
              have iF := eQ a0 an
              replace p4 := eq_true p4
              replace q4 := eq_true q4
              go_wp2
              go_ret
              exact ⟨by first | rfl | (simp; done) | (simp [*]; done), by repeat (first | exact Drawn0.refl _ | apply Drawn0.step)⟩
         ·rw [if_neg c9] at H
          have Hs : decide (48 ≤ (bt a0 an)) = false := decide_eq_false c9
          clear c9
          by_cases Cp : (bt a0 an) = 46
          ·rw [if_pos Cp] at H
           have O9 : ((bt a0 an) == 46) = true := beq_iff_eq.mpr Cp
           have O8 : ((bt a0 an) != 46) = false := bne_eq_false_iff_eq.mpr Cp
           clear Cp
           have H' := ak H
           clear H
           have p4 : 0 ≤ (an : Int) := of_decide_eq_true (by first | (with_reducible assumption) | assumption)
           have q4 : an < (a0.size : Int) := of_decide_eq_true (by first | (with_reducible assumption) | assumption)
           have iF := eQ a0 an
           replace p4 := eq_true p4
           replace q4 := eq_true q4
           go_wp2
           go_roundg k1
           case measure => have := dC.out; omega
           case rel => exact ⟨(wrap64 (an + 1)), (by first | rfl | (simp; done) | (simp [*]; done)), H', ⟨by have := dC.out; omega⟩, by repeat (first | exact Drawn0.refl _ | apply Drawn0.step)⟩
          ·rw [if_neg Cp] at H
           have O9 : ((bt a0 an) == 46) = false := beq_eq_false_iff_ne.mpr Cp
           have O8 : ((bt a0 an) != 46) = true := bne_iff_ne.mpr Cp
           by_cases Co : (bt a0 an) = 45
           ·rw [if_pos Co] at H
            have O7 : ((bt a0 an) == 45) = true := beq_iff_eq.mpr Co
            have O6 : ((bt a0 an) != 45) = false := bne_eq_false_iff_eq.mpr Co
            clear Co
            have H' := ak H
            clear H
            have p4 : 0 ≤ (an : Int) := of_decide_eq_true (by first | (with_reducible assumption) | assumption)
            have q4 : an < (a0.size : Int) := of_decide_eq_true (by first | (with_reducible assumption) | assumption)
            have iF := eQ a0 an
            replace p4 := eq_true p4
            replace q4 := eq_true q4
            go_wp2
            go_roundg k1
            case measure => have := dC.out; omega
            case rel => exact ⟨(wrap64 (an + 1)), (by first | rfl | (simp; done) | (simp [*]; done)), H', ⟨by have := dC.out; omega⟩, by repeat (first | exact Drawn0.refl _ | apply Drawn0.step)⟩
           ·rw [if_neg Co] at H
            have O7 : ((bt a0 an) == 45) = false := beq_eq_false_iff_ne.mpr Co
            have O6 : ((bt a0 an) != 45) = true := bne_iff_ne.mpr Co
            by_cases Cn : ((bt a0 an) = 95)
            ·rw [if_pos Cn] at H
             have O5 : ((bt a0 an) == 95) = true := beq_iff_eq.mpr Cn
             have O4 : ((bt a0 an) != 95) = false := bne_eq_false_iff_eq.mpr Cn
             clear Cn
             have H' := ak H
             clear H
             have p4 : 0 ≤ (an : Int) := of_decide_eq_true (by first | (with_reducible assumption) | assumption)
             have q4 : an < (a0.size : Int) := of_decide_eq_true (by first | (with_reducible assumption) | assumption)
             have iF := eQ a0 an
             replace p4 := eq_true p4
             replace q4 := eq_true q4
             go_wp2
             go_roundg k1
             case measure => have := dC.out; omega
             case rel => exact ⟨(wrap64 (an + 1)), (by first | rfl | (simp; done) | (simp [*]; done)), H', ⟨by have := dC.out; omega⟩, by repeat (first | exact Drawn0.refl _ | apply Drawn0.step)⟩
            ·rw [if_neg Cn] at H
             have O5 : ((bt a0 an) == 95) = false := beq_eq_false_iff_ne.mpr Cn
             have O4 : ((bt a0 an) != 95) = true := bne_iff_ne.mpr Cn
             obtain rfl := Option.some.inj H
             have p4 : 0 ≤ (an : Int) := of_decide_eq_true (by first | (with_reducible assumption) | assumption)
             have q4 : an < (a0.size : Int) := of_decide_eq_true (by first | (with_reducible assumption) | assumption)
             have iF := eQ a0 an
             replace p4 := eq_true p4
             replace q4 := eq_true q4
             go_wp2
             go_ret
             exact ⟨by first | rfl | (simp; done) | (simp [*]; done), by repeat (first | exact Drawn0.refl _ | apply Drawn0.step)⟩
       ·rw [if_neg c7] at H
        have qC : decide (65 ≤ (bt a0 an)) = false := decide_eq_false c7
        clear c7
        by_cases uP : (bt a0 an) ≥ 48
        ·rw [if_pos uP] at H
         have Iz : decide (48 ≤ (bt a0 an)) = true := decide_eq_true uP
         clear uP
         by_cases uO : (bt a0 an) ≤ 57
         ·rw [if_pos uO] at H
          have Iy : decide ((bt a0 an) ≤ 57) = true := decide_eq_true uO
          clear uO
          have H' := ak H
          clear H
          have p4 : 0 ≤ (an : Int) := of_decide_eq_true (by first | (with_reducible assumption) | assumption)
          have q4 : an < (a0.size : Int) := of_decide_eq_true (by first | (with_reducible assumption) | assumption)
          have iF := eQ a0 an
          replace p4 := eq_true p4
          replace q4 := eq_true q4
          go_wp2
          go_roundg k1
          case measure => have := dC.out; omega
          case rel => exact ⟨(wrap64 (an + 1)), (by first | rfl | (simp; done) | (simp [*]; done)), H', ⟨by have := dC.out; omega⟩, by repeat (first | exact Drawn0.refl _ | apply Drawn0.step)⟩
         ·rw [if_neg uO] at H
          have Iy : decide ((bt a0 an) ≤ 57) = false := decide_eq_false uO
          clear uO
          by_cases Cm : (bt a0 an) = 46
          ·rw [if_pos Cm] at H
           have O3 : ((bt a0 an) == 46) = true := beq_iff_eq.mpr Cm
           have O2 : ((bt a0 an) != 46) = false := bne_eq_false_iff_eq.mpr Cm
           clear Cm
           have H' := ak H
           clear H
           have p4 : 0 ≤ (an : Int) := of_decide_eq_true (by first | (with_reducible assumption) | assumption)
           have q4 : an < (a0.size : Int) := of_decide_eq_true (by first | (with_reducible assumption) | assumption)
           have iF := eQ a0 an
           replace p4 := eq_true p4
           replace q4 := eq_true q4
           go_wp2
           go_roundg k1
           case measure => have := dC.out; omega
           case rel => exact ⟨(wrap64 (an + 1)), (by first | rfl | (simp; done) | (simp [*]; done)), H', ⟨by have := dC.out; omega⟩, by repeat (first | exact Drawn0.refl _ | apply Drawn0.step)⟩
          ·rw [if_neg Cm] at H
           have O3 : ((bt a0 an) == 46) = false := beq_eq_false_iff_ne.mpr Cm
           have O2 : ((bt a0 an) != 46) = true := bne_iff_ne.mpr Cm
           by_cases Cl : (bt a0 an) = 45
           ·rw [if_pos Cl] at H
            have O1 : ((bt a0 an) == 45) = true := beq_iff_eq.mpr Cl
            have O0 : ((bt a0 an) != 45) = false := bne_eq_false_iff_eq.mpr Cl
            clear Cl
            have H' := ak H
            clear H
            have p4 : 0 ≤ (an : Int) := of_decide_eq_true (by first | (with_reducible assumption) | assumption)
            have q4 : an < (a0.size : Int) := of_decide_eq_true (by first | (with_reducible assumption) | assumption)
            have iF := eQ a0 an
            replace p4 := eq_true p4
            replace q4 := eq_true q4
            go_wp2
            go_roundg k1
            case measure => have := dC.out; omega
            case rel => exact ⟨(wrap64 (an + 1)), (by first | rfl | (simp; done) | (simp [*]; done)), H', ⟨by have := dC.out; omega⟩, by repeat (first | exact Drawn0.refl _ | apply Drawn0.step)⟩
           ·rw [if_neg Cl] at H
            have O1 : ((bt a0 an) == 45) = false := beq_eq_false_iff_ne.mpr Cl
            have O0 : ((bt a0 an) != 45) = true := bne_iff_ne.mpr Cl
            by_cases Ck : ((bt a0 an) = 95)
            ·rw [if_pos Ck] at H
             have OZ : ((bt a0 an) == 95) = true := beq_iff_eq.mpr Ck
             have OY : ((bt a0 an) != 95) = false := bne_eq_false_iff_eq.mpr Ck
             clear Ck
             have H' := ak H
             clear H
             have p4 : 0 ≤ (an : Int) := of_decide_eq_true (by first | (with_reducible assumption) | assumption)
             have q4 : an < (a0.size : Int) := of_decide_eq_true (by first | (with_reducible assumption) | assumption)
             have iF := eQ a0 an
             replace p4 := eq_true p4
             replace q4 := eq_true q4
             go_wp2
             go_roundg k1
             case measure => have := dC.out; omega
             case rel => exact ⟨(wrap64 (an + 1)), (by first | rfl | (simp; done) | (simp [*]; done)), H', ⟨by have := dC.out; omega⟩, by repeat (first | exact Drawn0.refl _ | apply Drawn0.step)⟩
            ·rw [if_neg Ck] at H
             have OZ : ((bt a0 an) == 95) = false := beq_eq_false_iff_ne.mpr Ck
             have OY : ((bt a0 an) != 95) = true := bne_iff_ne.mpr Ck
             obtain rfl := Option.some.inj H
             have p4 : 0 ≤ (an : Int) := of_decide_eq_true (by first | (with_reducible assumption) | assumption)
             have q4 : an < (a0.size : Int) := of_decide_eq_true (by first | (with_reducible assumption) | assumption)
             have iF := eQ a0 an
             replace p4 := eq_true p4
             replace q4 := eq_true q4
             go_wp2
             go_ret
             exact ⟨by first | rfl | (simp; done) | (simp [*]; done), by repeat (first | exact Drawn0.refl _ | apply Drawn0.step)⟩
        ·rw [if_neg uP] at H
         have Iz : decide (48 ≤ (bt a0 an)) = false := decide_eq_false uP
         clear uP
         by_cases Cj : (bt a0 an) = 46
         ·rw [if_pos Cj] at H
          have OX : ((bt a0 an) == 46) = true := beq_iff_eq.mpr Cj
          have OW : ((bt a0 an) != 46) = false := bne_eq_false_iff_eq.mpr Cj
          clear Cj
          have H' := ak H
          clear H
          have p4 : 0 ≤ (an : Int) := of_decide_eq_true (by first | (with_reducible assumption) | assumption)
          have q4 : an < (a0.size : Int) := of_decide_eq_true (by first | (with_reducible assumption) | assumption)
          have iF := eQ a0 an
          replace p4 := eq_true p4
          replace q4 := eq_true q4
          go_wp2
          go_roundg k1
          case measure => have := dC.out; omega
          case rel => exact ⟨(wrap64 (an + 1)), (by first | rfl | (simp; done) | (simp [*]; done)), H', ⟨by have := dC.out; omega⟩, by repeat (first | exact Drawn0.refl _ | apply Drawn0.step)⟩
         ·rw [if_neg Cj] at H
          have OX : ((bt a0 an) == 46) = false := beq_eq_false_iff_ne.mpr Cj
          have OW : ((bt a0 an) != 46) = true := bne_iff_ne.mpr Cj
          by_cases Ci : (bt a0 an) = 45
          ·rw [if_pos Ci] at H
           have OV : ((bt a0 an) == 45) = true := beq_iff_eq.mpr Ci
           have OU : ((bt a0 an) != 45) = false := bne_eq_false_iff_eq.mpr Ci
           clear Ci
           have H' := ak H
           clear H
           have p4 : 0 ≤ (an : Int) := of_decide_eq_true (by first | (with_reducible assumption) | assumption)
           have q4 : an < (a0.size : Int) := of_decide_eq_true (by first | (with_reducible assumption) | assumption)
           have iF := eQ a0 an
           replace p4 := eq_true p4
           replace q4 := eq_true q4
           go_wp2
           go_roundg k1
           case measure => have := dC.out; omega
           case rel => exact ⟨(wrap64 (an + 1)), (by first | rfl | (simp; done) | (simp [*]; done)), H', ⟨by have := dC.out; omega⟩, by repeat (first | exact Drawn0.refl _ | apply Drawn0.step)⟩
          ·rw [if_neg Ci] at H
           have OV : ((bt a0 an) == 45) = false := beq_eq_false_iff_ne.mpr Ci
           have OU : ((bt a0 an) != 45) = true := bne_iff_ne.mpr Ci
           by_cases Ch : ((bt a0 an) = 95)
           ·rw [if_pos Ch] at H
            have OT : ((bt a0 an) == 95) = true := beq_iff_eq.mpr Ch
            have OS : ((bt a0 an) != 95) = false := bne_eq_false_iff_eq.mpr Ch
            clear Ch
            have H' := ak H
            clear H
            have p4 : 0 ≤ (an : Int) := of_decide_eq_true (by first | (with_reducible assumption) | assumption)
            have q4 : an < (a0.size : Int) := of_decide_eq_true (by first | (with_reducible assumption) | assumption)
            have iF := eQ a0 an
            replace p4 := eq_true p4
            replace q4 := eq_true q4
            go_wp2
            go_roundg k1
            case measure => have := dC.out; omega
            case rel => exact ⟨(wrap64 (an + 1)), (by first | rfl | (simp; done) | (simp [*]; done)), H', ⟨by have := dC.out; omega⟩, by repeat (first | exact Drawn0.refl _ | apply Drawn0.step)⟩
           ·rw [if_neg Ch] at H
            have OT : ((bt a0 an) == 95) = false := beq_eq_false_iff_ne.mpr Ch
            have OS : ((bt a0 an) != 95) = true := bne_iff_ne.mpr Ch
            obtain rfl := Option.some.inj H
            have p4 : 0 ≤ (an : Int) := of_decide_eq_true (by first | (with_reducible assumption) | assumption)
            have q4 : an < (a0.size : Int) := of_decide_eq_true (by first | (with_reducible assumption) | assumption)
            have iF := eQ a0 an
            replace p4 := eq_true p4
            replace q4 := eq_true q4
            go_wp2
            go_ret
            exact ⟨by first | rfl | (simp; done) | (simp [*]; done), by repeat (first | exact Drawn0.refl _ | apply Drawn0.step)⟩
     ·rw [if_neg c5] at H
      have wy : decide (97 ≤ (bt a0 an)) = false := decide_eq_false c5
      clear c5
      by_cases DF : (bt a0 an) ≥ 65
      ·rw [if_pos DF] at H
       have OR : decide (65 ≤ (bt a0 an)) = true := decide_eq_true DF
       clear DF
       by_cases DE : (bt a0 an) ≤ 90
       ·rw [if_pos DE] at H
        have OQ : decide ((bt a0 an) ≤ 90) = true := decide_eq_true DE
        clear DE
        have H' := ak H
        clear H
        have p4 : 0 ≤ (an : Int) := of_decide_eq_true (by first | (with_reducible assumption) | assumption)
        have q4 : an < (a0.size : Int) := of_decide_eq_true (by first | (with_reducible assumption) | assumption)
        have iF := eQ a0 an
        replace p4 := eq_true p4
        replace q4 := eq_true q4
        go_wp2
        go_roundg k1
        case measure => have := dC.out; omega
        case rel => exact ⟨(wrap64 (an + 1)), (by first | rfl | (simp; done) | (simp [*]; done)), H', ⟨by have := dC.out; omega⟩, by repeat (first | exact Drawn0.refl _ | apply Drawn0.step)⟩
       ·rw [if_neg DE] at H
        have OQ : decide ((bt a0 an) ≤ 90) = false := decide_eq_false DE
        clear DE
        by_cases DD : (bt a0 an) ≥ 48
        ·rw [if_pos DD] at H
         have OP : decide (48 ≤ (bt a0 an)) = true := decide_eq_true DD
         clear DD
         by_cases DC : (bt a0 an) ≤ 57
         ·rw [if_pos DC] at H
          have OO : decide ((bt a0 an) ≤ 57) = true := decide_eq_true DC
          clear DC
          have H' := ak H
          clear H
          have p4 : 0 ≤ (an : Int) := of_decide_eq_true (by first | (with_reducible assumption) | assumption)
          have q4 : an < (a0.size : Int) := of_decide_eq_true (by first | (with_reducible assumption) | assumption)
          have iF := eQ a0 an
          replace p4 := eq_true p4
          replace q4 := eq_true q4
          go_wp2
          go_roundg k1
          case measure => have := dC.out; omega
          case rel => exact ⟨(wrap64 (an + 1)), (by first | rfl | (simp; done) | (simp [*]; done)), H', ⟨by have := dC.out; omega⟩, by repeat (first | exact Drawn0.refl _ | apply Drawn0.step)⟩
         ·rw [if_neg DC] at H
          have OO : decide ((bt a0 an) ≤ 57) = false := decide_eq_false DC
          clear DC
          by_cases Cg : (bt a0 an) = 46
          ·rw [if_pos Cg] at H
           have ON : ((bt a0 an) == 46) = true := beq_iff_eq.mpr Cg
           have OM : ((bt a0 an) != 46) = false := bne_eq_false_iff_eq.mpr Cg
           clear Cg
           have H' := ak H
           clear H
           have p4 : 0 ≤ (an : Int) := of_decide_eq_true (by first | (with_reducible assumption) | assumption)
           have q4 : an < (a0.size : Int) := of_decide_eq_true (by first | (with_reducible assumption) | assumption)
           have iF := eQ a0 an
           replace p4 := eq_true p4
           replace q4 := eq_true q4
           go_wp2
           go_roundg k1
           case measure => have := dC.out; omega
           case rel => exact ⟨(wrap64 (an + 1)), (by first | rfl | (simp; done) | (simp [*]; done)), H', ⟨by have := dC.out; omega⟩, by repeat (first | exact Drawn0.refl _ | apply Drawn0.step)⟩
          ·rw [if_neg Cg] at H
           have ON : ((bt a0 an) == 46) = false := beq_eq_false_iff_ne.mpr Cg
           have OM : ((bt a0 an) != 46) = true := bne_iff_ne.mpr Cg
           by_cases Cf : (bt a0 an) = 45
           ·rw [if_pos Cf] at H
            have OL : ((bt a0 an) == 45) = true := beq_iff_eq.mpr Cf
            have OK : ((bt a0 an) != 45) = false := bne_eq_false_iff_eq.mpr Cf
            clear Cf
            have H' := ak H
            clear H
            have p4 : 0 ≤ (an : Int) := of_decide_eq_true (by first | (with_reducible assumption) | assumption)
            have q4 : an < (a0.size : Int) := of_decide_eq_true (by first | (with_reducible assumption) | assumption)
            have iF := eQ a0 an
            replace p4 := eq_true p4
            replace q4 := eq_true q4
            go_wp2
            go_roundg k1
            case measure => have := dC.out; omega
            case rel => exact ⟨(wrap64 (an + 1)), (by first | rfl | (simp; done) | (simp [*]; done)), H', ⟨by have := dC.out; omega⟩, by repeat (first | exact Drawn0.refl _ | apply Drawn0.step)⟩
           ·rw [if_neg Cf] at H
            have OL : ((bt a0 an) == 45) = false := beq_eq_false_iff_ne.mpr Cf
            have OK : ((bt a0 an) != 45) = true := bne_iff_ne.mpr Cf
            by_cases Ce : ((bt a0 an) = 95)
            ·rw [if_pos Ce] at H
             have OJ : ((bt a0 an) == 95) = true := beq_iff_eq.mpr Ce
             have OI : ((bt a0 an) != 95) = false := bne_eq_false_iff_eq.mpr Ce
             clear Ce
             have H' := ak H
             clear H
             have p4 : 0 ≤ (an : Int) := of_decide_eq_true (by first | (with_reducible assumption) | assumption)
             have q4 : an < (a0.size : Int) := of_decide_eq_true (by first | (with_reducible assumption) | assumption)
             have iF := eQ a0 an
             replace p4 := eq_true p4
             replace q4 := eq_true q4
             go_wp2
             go_roundg k1
             case measure => have := dC.out; omega
             case rel => exact ⟨(wrap64 (an + 1)), (by first | rfl | (simp; done) | (simp [*]; done)), H', ⟨by have := dC.out; omega⟩, by repeat (first | exact Drawn0.refl _ | apply Drawn0.step)⟩
            ·rw [if_neg Ce] at H
             have OJ : ((bt a0 an) == 95) = false := beq_eq_false_iff_ne.mpr Ce
             have OI : ((bt a0 an) != 95) = true := bne_iff_ne.mpr Ce
             obtain rfl := Option.some.inj H
             have p4 : 0 ≤ (an : Int) := of_decide_eq_true (by first | (with_reducible assumption) | assumption)
             have q4 : an < (a0.size : Int) := of_decide_eq_true (by first | (with_reducible assumption) | assumption)
             have iF := eQ a0 an
             replace p4 := eq_true p4
             replace q4 := eq_true q4
             go_wp2
             go_ret
             exact ⟨by first | rfl | (simp; done) | (simp [*]; done), by repeat (first | exact Drawn0.refl _ | apply Drawn0.step)⟩
        ·rw [if_neg DD] at H
         have OP : decide (48 ≤ (bt a0 an)) = false := decide_eq_false DD
         clear DD
         by_cases Cd : (bt a0 an) = 46
         ·rw [if_pos Cd] at H
          have OH : ((bt a0 an) == 46) = true := beq_iff_eq.mpr Cd
          have OG : ((bt a0 an) != 46) = false := bne_eq_false_iff_eq.mpr Cd
          clear Cd
          have H' := ak H
          clear H
          have p4 : 0 ≤ (an : Int) := of_decide_eq_true (by first | (with_reducible assumption) | assumption)
          have q4 : an < (a0.size : Int) := of_decide_eq_true (by first | (with_reducible assumption) | assumption)
          have iF := eQ a0 an
          replace p4 := eq_true p4
          replace q4 := eq_true q4
          go_wp2
          go_roundg k1
          case measure => have := dC.out; omega
          case rel => exact ⟨(wrap64 (an + 1)), (by first | rfl | (simp; done) | (simp [*]; done)), H', ⟨by have := dC.out; omega⟩, by repeat (first | exact Drawn0.refl _ | apply Drawn0.step)⟩
         ·rw [if_neg Cd] at H
          have OH : ((bt a0 an) == 46) = false := beq_eq_false_iff_ne.mpr Cd
          have OG : ((bt a0 an) != 46) = true := bne_iff_ne.mpr Cd
          by_cases Cc : (bt a0 an) = 45
          ·rw [if_pos Cc] at H
           have OF : ((bt a0 an) == 45) = true := beq_iff_eq.mpr Cc
           have OE : ((bt a0 an) != 45) = false := bne_eq_false_iff_eq.mpr Cc
           clear Cc
           have H' := ak H
           clear H
           have p4 : 0 ≤ (an : Int) := of_decide_eq_true (by first | (with_reducible assumption) | assumption)
           have q4 : an < (a0.size : Int) := of_decide_eq_true (by first | (with_reducible assumption) | assumption)
           have iF := eQ a0 an
           replace p4 := eq_true p4
           replace q4 := eq_true q4
           go_wp2
           go_roundg k1
           case measure => have := dC.out; omega
           case rel => exact ⟨(wrap64 (an + 1)), (by first | rfl | (simp; done) | (simp [*]; done)), H', ⟨by have := dC.out; omega⟩, by repeat (first | exact Drawn0.refl _ | apply Drawn0.step)⟩
          ·rw [if_neg Cc] at H
           have OF : ((bt a0 an) == 45) = false := beq_eq_false_iff_ne.mpr Cc
           have OE : ((bt a0 an) != 45) = true := bne_iff_ne.mpr Cc
           by_cases Cb : ((bt a0 an) = 95)
           ·rw [if_pos Cb] at H
            have OD : ((bt a0 an) == 95) = true := beq_iff_eq.mpr Cb
            have OB : ((bt a0 an) != 95) = false := bne_eq_false_iff_eq.mpr Cb
            clear Cb
            have H' := ak H
            clear H
            have p4 : 0 ≤ (an : Int) := of_decide_eq_true (by first | (with_reducible assumption) | assumption)
            have q4 : an < (a0.size : Int) := of_decide_eq_true (by first | (with_reducible assumption) | assumption)
            have iF := eQ a0 an
            replace p4 := eq_true p4
            replace q4 := eq_true q4
            go_wp2
            go_roundg k1
            case measure => have := dC.out; omega
            case rel => exact ⟨(wrap64 (an + 1)), (by first | rfl | (simp; done) | (simp [*]; done)), H', ⟨by have := dC.out; omega⟩, by repeat (first | exact Drawn0.refl _ | apply Drawn0.step)⟩
           ·rw [if_neg Cb] at H
            have OD : ((bt a0 an) == 95) = false := beq_eq_false_iff_ne.mpr Cb
            have OB : ((bt a0 an) != 95) = true := bne_iff_ne.mpr Cb
            obtain rfl := Option.some.inj H
            have p4 : 0 ≤ (an : Int) := of_decide_eq_true (by first | (with_reducible assumption) | assumption)
            have q4 : an < (a0.size : Int) := of_decide_eq_true (by first | (with_reducible assumption) | assumption)
            have iF := eQ a0 an
            replace p4 := eq_true p4
            replace q4 := eq_true q4
            go_wp2
            go_ret
            exact ⟨by first | rfl | (simp; done) | (simp [*]; done), by repeat (first | exact Drawn0.refl _ | apply Drawn0.step)⟩
      ·rw [if_neg DF] at H
       have OR : decide (65 ≤ (bt a0 an)) = false := decide_eq_false DF
       clear DF
       by_cases DB : (bt a0 an) ≥ 48
       ·rw [if_pos DB] at H
        have OA : decide (48 ≤ (bt a0 an)) = true := decide_eq_true DB
        clear DB
        by_cases DA : (bt a0 an) ≤ 57
        ·rw [if_pos DA] at H
         have Oz : decide ((bt a0 an) ≤ 57) = true := decide_eq_true DA
         clear DA
         have H' := ak H
         clear H
         have p4 : 0 ≤ (an : Int) := of_decide_eq_true (by first | (with_reducible assumption) | assumption)
         have q4 : an < (a0.size : Int) := of_decide_eq_true (by first | (with_reducible assumption) | assumption)
         have iF := eQ a0 an
         replace p4 := eq_true p4
         replace q4 := eq_true q4
         go_wp2
         go_roundg k1
         case measure => have := dC.out; omega
         case rel => exact ⟨(wrap64 (an + 1)), (by first | rfl | (simp; done) | (simp [*]; done)), H', ⟨by have := dC.out; omega⟩, by repeat (first | exact Drawn0.refl _ | apply Drawn0.step)⟩
        ·rw [if_neg DA] at H
         have Oz : decide ((bt a0 an) ≤ 57) = false := decide_eq_false DA
         clear DA
         by_cases Ca : (bt a0 an) = 46
         ·rw [if_pos Ca] at H
          have Oy : ((bt a0 an) == 46) = true := beq_iff_eq.mpr Ca
          have Ox : ((bt a0 an) != 46) = false := bne_eq_false_iff_eq.mpr Ca
          clear Ca
          have H' := ak H
          clear H
          have p4 : 0 ≤ (an : Int) := of_decide_eq_true (by first | (with_reducible assumption) | assumption)
          have q4 : an < (a0.size : Int) := of_decide_eq_true (by first | (with_reducible assumption) | assumption)
          have iF := eQ a0 an
          replace p4 := eq_true p4
          replace q4 := eq_true q4
          go_wp2
          go_roundg k1
          case measure => have := dC.out; omega
          case rel => exact ⟨(wrap64 (an + 1)), (by first | rfl | (simp; done) | (simp [*]; done)), H', ⟨by have := dC.out; omega⟩, by repeat (first | exact Drawn0.refl _ | apply Drawn0.step)⟩
         ·rw [if_neg Ca] at H
          have Oy : ((bt a0 an) == 46) = false := beq_eq_false_iff_ne.mpr Ca
          have Ox : ((bt a0 an) != 46) = true := bne_iff_ne.mpr Ca
          by_cases B8 : (bt a0 an) = 45
          ·rw [if_pos B8] at H
           have Ow : ((bt a0 an) == 45) = true := beq_iff_eq.mpr B8
           have Ov : ((bt a0 an) != 45) = false := bne_eq_false_iff_eq.mpr B8
           clear B8
           have H' := ak H
           clear H
           have p4 : 0 ≤ (an : Int) := of_decide_eq_true (by first | (with_reducible assumption) | assumption)
           have q4 : an < (a0.size : Int) := of_decide_eq_true (by first | (with_reducible assumption) | assumption)
           have iF := eQ a0 an
           replace p4 := eq_true p4
           replace q4 := eq_true q4
           go_wp2
           go_roundg k1
           case measure => have := dC.out; omega
           case rel => exact ⟨(wrap64 (an + 1)), (by first | rfl | (simp; done) | (simp [*]; done)), H', ⟨by have := dC.out; omega⟩, by repeat (first | exact Drawn0.refl _ | apply Drawn0.step)⟩
          ·rw [if_neg B8] at H
           have Ow : ((bt a0 an) == 45) = false := beq_eq_false_iff_ne.mpr B8
           have Ov : ((bt a0 an) != 45) = true := bne_iff_ne.mpr B8
           by_cases B5 : ((bt a0 an) = 95)
           ·rw [if_pos B5] at H
            have Ou : ((bt a0 an) == 95) = true := beq_iff_eq.mpr B5
            have Ot : ((bt a0 an) != 95) = false := bne_eq_false_iff_eq.mpr B5
            clear B5
            have H' := ak H
            clear H
            have p4 : 0 ≤ (an : Int) := of_decide_eq_true (by first | (with_reducible assumption) | assumption)
            have q4 : an < (a0.size : Int) := of_decide_eq_true (by first | (with_reducible assumption) | assumption)
            have iF := eQ a0 an
            replace p4 := eq_true p4
            replace q4 := eq_true q4
            go_wp2
            go_roundg k1
            case measure => have := dC.out; omega
            case rel => exact ⟨(wrap64 (an + 1)), (by first | rfl | (simp; done) | (simp [*]; done)), H', ⟨by have := dC.out; omega⟩, by repeat (first | exact Drawn0.refl _ | apply Drawn0.step)⟩
           ·rw [if_neg B5] at H
            have Ou : ((bt a0 an) == 95) = false := beq_eq_false_iff_ne.mpr B5
            have Ot : ((bt a0 an) != 95) = true := bne_iff_ne.mpr B5
            obtain rfl := Option.some.inj H
            have p4 : 0 ≤ (an : Int) := of_decide_eq_true (by first | (with_reducible assumption) | assumption)
            have q4 : an < (a0.size : Int) := of_decide_eq_true (by first | (with_reducible assumption) | assumption)
            have iF := eQ a0 an
            replace p4 := eq_true p4
            replace q4 := eq_true q4
            go_wp2
            go_ret
            exact ⟨by first | rfl | (simp; done) | (simp [*]; done), by repeat (first | exact Drawn0.refl _ | apply Drawn0.step)⟩
       ·rw [if_neg DB] at H
        have OA : decide (48 ≤ (bt a0 an)) = false := decide_eq_false DB
        clear DB
        by_cases BY : (bt a0 an) = 46
        ·rw [if_pos BY] at H
         have Oq : ((bt a0 an) == 46) = true := beq_iff_eq.mpr BY
         have Oo : ((bt a0 an) != 46) = false := bne_eq_false_iff_eq.mpr BY
         clear BY
         have H' := ak H
         clear H
         have p4 : 0 ≤ (an : Int) := of_decide_eq_true (by first | (with_reducible assumption) | assumption)
         have q4 : an < (a0.size : Int) := of_decide_eq_true (by first | (with_reducible assumption) | assumption)
         have iF := eQ a0 an
         replace p4 := eq_true p4
         replace q4 := eq_true q4
         go_wp2
         go_roundg k1
         case measure => have := dC.out; omega
         case rel => exact ⟨(wrap64 (an + 1)), (by first | rfl | (simp; done) | (simp [*]; done)), H', ⟨by have := dC.out; omega⟩, by repeat (first | exact Drawn0.refl _ | apply Drawn0.step)⟩
        ·rw [if_neg BY] at H
         have Oq : ((bt a0 an) == 46) = false := beq_eq_false_iff_ne.mpr BY
         have Oo : ((bt a0 an) != 46) = true := bne_iff_ne.mpr BY
         by_cases BX : (bt a0 an) = 45
         ·rw [if_pos BX] at H
          have On : ((bt a0 an) == 45) = true := beq_iff_eq.mpr BX
          have Om : ((bt a0 an) != 45) = false := bne_eq_false_iff_eq.mpr BX
          clear BX
          have H' := ak H
          clear H
          have p4 : 0 ≤ (an : Int) := of_decide_eq_true (by first | (with_reducible assumption) | assumption)
          have q4 : an < (a0.size : Int) := of_decide_eq_true (by first | (with_reducible assumption) | assumption)
          have iF := eQ a0 an
          replace p4 := eq_true p4
          replace q4 := eq_true q4
          go_wp2
          go_roundg k1
          case measure => have := dC.out; omega
          case rel => exact ⟨(wrap64 (an + 1)), (by first | rfl | (simp; done) | (simp [*]; done)), H', ⟨by have := dC.out; omega⟩, by repeat (first | exact Drawn0.refl _ | apply Drawn0.step)⟩
         ·rw [if_neg BX] at H
          have On : ((bt a0 an) == 45) = false := beq_eq_false_iff_ne.mpr BX
          have Om : ((bt a0 an) != 45) = true := bne_iff_ne.mpr BX
          by_cases BW : ((bt a0 an) = 95)
          ·rw [if_pos BW] at H
           have Ol : ((bt a0 an) == 95) = true := beq_iff_eq.mpr BW
           have Oj : ((bt a0 an) != 95) = false := bne_eq_false_iff_eq.mpr BW
           clear BW
           have H' := ak H
           clear H
           have p4 : 0 ≤ (an : Int) := of_decide_eq_true (by first | (with_reducible assumption) | assumption)
           have q4 : an < (a0.size : Int) := of_decide_eq_true (by first | (with_reducible assumption) | assumption)
           have iF := eQ a0 an
           replace p4 := eq_true p4
           replace q4 := eq_true q4
           go_wp2
           go_roundg k1
           case measure => have := dC.out; omega
           case rel => exact ⟨(wrap64 (an + 1)), (by first | rfl | (simp; done) | (simp [*]; done)), H', ⟨by have := dC.out; omega⟩, by repeat (first | exact Drawn0.refl _ | apply Drawn0.step)⟩
          ·rw [if_neg BW] at H
           have Ol : ((bt a0 an) == 95) = false := beq_eq_false_iff_ne.mpr BW
           have Oj : ((bt a0 an) != 95) = true := bne_iff_ne.mpr BW
           obtain rfl := Option.some.inj H
           have p4 : 0 ≤ (an : Int) := of_decide_eq_true (by first | (with_reducible assumption) | assumption)
           have q4 : an < (a0.size : Int) := of_decide_eq_true (by first | (with_reducible assumption) | assumption)
           have iF := eQ a0 an
           replace p4 := eq_true p4
           replace q4 := eq_true q4
           go_wp2
           go_ret
           exact ⟨by first | rfl | (simp; done) | (simp [*]; done), by repeat (first | exact Drawn0.refl _ | apply Drawn0.step)⟩
    ·rw [if_neg c3] at H
     exact absurd H (by simp)
   ·rw [if_neg c2] at H
    have sB : decide (an < (a0.size : Int)) = false := decide_eq_false c2
    clear c2
    by_cases Dz : (a0.size : Int) ≥ 1
    ·rw [if_pos Dz] at H
     have Oi : decide (1 ≤ (a0.size : Int)) = true := decide_eq_true Dz
     have Oh : decide (1 ≤ a0.size) = true := decide_eq_true (by omega)
     clear Dz
     obtain rfl := Option.some.inj H
     go_wp2
     go_ret
     exact ⟨by first | rfl | (simp; done) | (simp [*]; done), by repeat (first | exact Drawn0.refl _ | apply Drawn0.step)⟩
    ·rw [if_neg Dz] at H
     have Oi : decide (1 ≤ (a0.size : Int)) = false := decide_eq_false Dz
     have Oh : decide (1 ≤ a0.size) = false := decide_eq_false (by omega)
     clear Dz
     obtain rfl := Option.some.inj H
     go_wp2
     go_ret
     exact ⟨by first | rfl | (simp; done) | (simp [*]; done), by repeat (first | exact Drawn0.refl _ | apply Drawn0.step)⟩
end Go.Proofs.Ytemhalnhbgkbcaa.V
end

section
namespace Go.Proofs.Ytemhalnhbgkbcaa.V
def kH (c : Int) : Bool := (decide (97 ≤ c) && decide (c ≤ 122)) || (decide (65 ≤ c) && decide (c ≤ 90)) || (decide (48 ≤ c) && decide (c ≤ 57)) || decide (c = 46) || decide (c = 45) || decide (c = 95)
def kt (s : ByteArray) (i : Nat) : Bool := (s.data.toList.drop i).all fun b => kH (b.toNat : Int)
def fM (s : ByteArray) : Bool := kt s 0 && decide (0 < s.size) && decide (s.size ≤ 64)
theorem N3 (c : Int) (k : Nat) (hk : 2 < k) : dj.f k c = some (kH c) := by
 obtain ⟨k, rfl⟩ : ∃ m, k = m + 1 + 1 := ⟨k - 2, by omega⟩
 unfold dj.f kH
 simp only [dj.j0, dj.j1]
 repeat' split
 all_goals first | (simp_all; done) | (simp_all; omega) | (exfalso; simp_all; omega)
theorem yP (c : Int) (w : World) : Calls Try.prog 112 #[.int .i32 c] w fun e w' => e = .returned (.bool (kH c)) ∧ Drawn0 w w' :=
 dj.calls 3 c _ w (N3 c 3 (by omega))
theorem Cq (s : ByteArray) (i : Nat) (h : i < s.size) : bt s (i : Int) = (s[i].toNat : Int) := by simp [bt, h]
theorem qI (s : ByteArray) (i : Nat) (h : i < s.size) : kt s i = (kH (bt s (i : Int)) && kt s (i + 1)) := by
 have h' : i < s.data.toList.length := by simpa using h
 unfold kt
 rw [List.drop_eq_getElem_cons h', List.all_cons, Cq s i h]
 rfl
theorem v7 (s : ByteArray) (i : Nat) (h : s.size ≤ i) : kt s i = true := by
 unfold kt
 rw [List.drop_of_length_le (by simpa using h)]
 rfl
theorem toList_nil (s : ByteArray) : s.data.toList = [] ↔ s.size = 0 := by
 constructor
 ·intro h
  have := congrArg List.length h
  simpa using this
 ·intro h
  exact List.eq_nil_of_length_eq_zero (by simpa using h)
theorem GN (k : Nat) (s : ByteArray) (i : Nat) (h : i < s.size) (hm : s.size ≤ 9223372036854775807) : az.l0 (k + 1) s (i : Int) = if kH (bt s (i : Int)) then az.l0 k s ((i + 1 : Nat) : Int) else some false := by
 simp only [az.l0]
 rw [if_pos (show (i : Int) < (s.size : Int) by omega), if_pos (show (0 : Int) ≤ (i : Int) by omega), show wrap64 ((i : Int) + 1) = ((i + 1 : Nat) : Int) by unfold wrap64; omega]
 generalize az.l0 k s ((i + 1 : Nat) : Int) = A
 generalize bt s (i : Int) = c
 unfold kH
 repeat' split
 all_goals first | rfl | (exfalso; simp_all; omega) | (simp_all; done) | (simp_all; omega)
theorem MA (s : ByteArray) (hm : s.size ≤ 9223372036854775807) : ∀ (d k i : Nat), i + d = s.size → d < k → az.l0 k s (i : Int) = some (kt s i && decide (0 < s.size) && decide (s.size ≤ 64)) := by
 intro d
 induction d with
 | zero =>
  intro k i hi hk
  obtain ⟨k, rfl⟩ : ∃ m, k = m + 1 := ⟨k - 1, by omega⟩
  simp only [az.l0]
  rw [if_neg (by omega), v7 s i (by omega)]
  by_cases h1 : 0 < s.size
  ·rw [if_pos (by omega)]
   simp [h1]
   omega
  ·rw [if_neg (by omega)]
   simp [h1]
 | succ d ih =>
  intro k i hi hk
  obtain ⟨k, rfl⟩ : ∃ m, k = m + 1 := ⟨k - 1, by omega⟩
  rw [GN k s i (by omega) hm, qI s i (by omega)]
  by_cases h : kH (bt s (i : Int)) = true
  ·rw [if_pos h, ih k (i + 1) (by omega) (by omega), h, Bool.true_and]
  ·have h' : kH (bt s (i : Int)) = false := by simpa using h
   rw [if_neg h, h']
   simp
theorem Ea (s : ByteArray) (hm : s.size ≤ 9223372036854775807) (k : Nat) (hk : s.size < k) : az.f k s = some (fM s) := MA s hm s.size k 0 (by omega) hk
theorem tV (w : World) (s : ByteArray) (p n : Nat) : ((w.iter s p).drewN n).iterPos w.heap.size = p := World.iterPos_iter (w.drewN n) s p
theorem pM {w : World} {s : ByteArray} {p : Nat} (h : Below w.heap.size w w) : Below w.heap.size w (w.iter s p) := al h _
theorem vR (c : Int) (h : 128 ≤ c) : kH c = false := by
 unfold kH
 simp
 omega
theorem vM (s : ByteArray) : s.toList = [] ↔ s.size = 0 := by rw [ByteArray.toList_eq]; exact toList_nil s
set_option maxHeartbeats 2000000 in
set_option maxRecDepth 100000 in
theorem Fa (s : ByteArray) (w : World) : Calls Try.prog 104 #[.string s] w fun e w' => e = .returned (.bool (fM s)) ∧ Below w.heap.size w w' := by
 go_enter Try.func104, Try.ntmps104
 go_wp2
 go_loopw [4] (fun c W => ∃ pos nd : Nat, W = (w.iter s pos).drewN nd ∧ pos ≤ s.size ∧ Aside0 (kt s 0 = kt s pos)) (fun _ W => s.size - W.iterPos w.heap.size)
 case atStart => exact ⟨0, 0, rfl, by omega, ⟨rfl⟩⟩
 case round =>
  obtain ⟨pos, nd, rfl, hpos, HA⟩ := hrel
  by_cases hp : pos < s.size
  ·have hnx : ∀ ty, (Instr.next (.pointer (some ⟨w.heap.size, 0, none⟩)) true ty).run Try.prog ((w.iter s pos).drewN nd) = .ok (.tuple #[.bool true, .int .i64 pos, .int .i32 (Utf8.decode s pos).1]) ((w.iter s (pos + (Utf8.decode s pos).2)).drewN nd) := fun ty => run_next_any (w.drewN nd) s pos ty hp
   by_cases ha : (s[pos]'hp).toNat < 128
   ·have hd := decode_ascii s pos hp ha
    rw [hd] at hnx
    have hbt := Cq s pos hp
    have hst := qI s pos hp
    cases hok : kH (bt s (pos : Int)) with
    | true =>
     have vr := ak (show kt s 0 = kt s (pos + 1) by rw [HA.out, hst, hok, Bool.true_and])
     rw [hbt] at hok
     have HOK := ak hok
     clear hok hst hbt hd ha
     go_wp2_with (go_at_call 112; refine (yP _ _).mono ?_; rintro e w' ⟨rfl, ⟨Bd, rfl⟩⟩; rw [HOK.out])
     go_roundw
     case rel => exact ⟨pos + 1, nd + Bd, rfl, by omega, vr⟩
     case measure => rw [tV, tV]; omega
    | false =>
     have HF := ak (show fM s = false by unfold fM; rw [HA.out, hst, hok]; rfl)
     rw [hbt] at hok
     have HOK := ak hok
     clear hok hst hbt hd ha
     go_wp2_with (go_at_call 112; refine (yP _ _).mono ?_; rintro e w' ⟨rfl, ⟨Bd, rfl⟩⟩; rw [HOK.out])
     go_ret
     exact ⟨by rw [HF.out]; rfl, by repeat (first | exact Below.refl _ _ | apply af | apply pM)⟩
   ·have hd := decode_high s pos hp (by omega)
    have hst := qI s pos hp
    have hok : kH (bt s (pos : Int)) = false := vR _ (by rw [Cq s pos hp]; omega)
    have HF := ak (show fM s = false by unfold fM; rw [HA.out, hst, hok]; rfl)
    have HOK := ak (vR ((Utf8.decode s pos).1 : Int) (by omega))
    generalize Utf8.decode s pos = D at hnx HOK
    clear hok hst hd ha
    go_wp2_with (go_at_call 112; refine (yP _ _).mono ?_; rintro e w' ⟨rfl, ⟨Bd, rfl⟩⟩; rw [HOK.out])
    go_ret
    exact ⟨by rw [HF.out]; rfl, by repeat (first | exact Below.refl _ _ | apply af | apply pM)⟩
  ·have hnx : ∀ ty, (Instr.next (.pointer (some ⟨w.heap.size, 0, none⟩)) true ty).run Try.prog ((w.iter s pos).drewN nd) = .ok (.tuple #[.bool false]) ((w.iter s pos).drewN nd) := fun ty => run_next_end (w.drewN nd) s pos ty hp
   have hall : kt s 0 = true := by rw [HA.out, v7 s pos (by omega)]
   by_cases h0 : s.size = 0
   ·have hn : s.toList = [] := (vM s).2 h0
    have Dn : (!s.toList.isEmpty) = false := by rw [hn]; rfl
    have HF := ak (show fM s = false by unfold fM; rw [h0]; simp)
    clear h0 hall HA hpos hp
    go_wp2
    go_ret
    exact ⟨by rw [HF.out]; rfl, by repeat (first | exact Below.refl _ _ | apply af | apply pM)⟩
   ·have hn : ¬ s.toList = [] := fun h => h0 ((vM s).1 h)
    have Dn : (!s.toList.isEmpty) = true := by cases hh : s.toList <;> simp_all
    have HF := ak (show fM s = decide ((s.size : Int) ≤ 64) by
     unfold fM
     rw [hall, decide_eq_true (show 0 < s.size by omega)]
     simp only [Bool.true_and]
     exact decide_eq_decide.2 (by omega))
    clear h0 hall HA hpos hp
    go_wp2
    go_ret
    exact ⟨by rw [HF.out]; rfl, by repeat (first | exact Below.refl _ _ | apply af | apply pM)⟩
def ff.f (a0 : ByteArray) : Option Bool := some (fM a0)
theorem ff.calls (a0 : ByteArray) (r : Bool) (w : World) (h : ff.f a0 = some r) : Calls Try.prog 104 #[.string a0] w fun e w' => e = .returned (.bool r) ∧ Below w.heap.size w w' := by
 obtain rfl := Option.some.inj h
 exact Fa a0 w
end Go.Proofs.Ytemhalnhbgkbcaa.V
end

