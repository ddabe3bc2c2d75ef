/- The law BlockRight for every input: texts of ours, put together (part 3 of 12). No further condition. -/
import Derived.Test.YtemhalnhbgkbcaaProg
import Derived.Below
import Derived.Deep.Draws
import Derived.Deep.AppendLies
import Derived.Maps.AppendAt
import Derived.OwnWalk
import Derived.Laws.BytesArg
import Derived.Laws.MakeOwn
import Derived.Laws.OwnMore
import Derived.Deep.OwnRows
import Derived.Tactics
import Derived.Lib.ConvBytes
import Derived.Laws.Slices
import Derived.WalkKit
import Derived.KernelRfl
import Derived.RowKit3
import Derived.Deep.LoopGhost
import Derived.Deep.QuietTactic
import Derived.BigQuiet
import Derived.WideLaws
import Derived.Deep.DeepCutAuto
import Derived.Deep.CutBlock
import Derived.Deep.RegionHeld3
import Derived.Laws.Rows
import Derived.Lib.AppendStr
import Derived.ArgAppend
import Derived.Laws.IdiomCopy
import Derived.OrdersHeld
import Derived.Laws.BitsLemmas
import Derived.RowKit
import Derived.Test.YtemhalnhbgkbcaaCBlockRightw0
import Derived.Test.YtemhalnhbgkbcaaCBlockRightw1
import Derived.Laws.BitsAllLaws
import Derived.Laws.Bits64
import Derived.Laws.StructEq
import Derived.Stop.BytesEq
import Derived.Laws.Tables
import Derived.Laws.CopyOwn
import Derived.Outline
import Derived.MapKept
import Derived.ChangeMaps4
-- V0
section
-- PRINTED by print.py (a twelfth state) out of the translation. Not trusted: Lean checks it.
namespace Go.Proofs.Ytemhalnhbgkbcaa.V
open Go.RowKit Go.Proofs.YtemhalnhbgkbcaaW.PrintWords Go.Proofs.YtemhalnhbgkbcaaW.PrintLast Go.Proofs.YtemhalnhbgkbcaaW.PrintMore
attribute [local go_sem] max2_int min2_int max_two min_two max_three min_three max_four min_four   -- for this text's walks alone
set_option linter.unusedVariables false
set_option linter.unusedSimpArgs false



def errW : Option Int → Value
  | none => .nilIface
  | some c => .iface 0 (.int .i64 c)
theorem errW_none : errW none = .nilIface := rfl
theorem errW_some (c : Int) : errW (some c) = .iface 0 (.int .i64 c) := rfl
theorem info3 : (Try.prog.info? 3).map (fun i => (i.zero, i.size, i.bytes)) = some (some (.int .i64 0), 1, 8) := by kernel_rfl
theorem info5 : (Try.prog.info? 5).map (fun i => (i.zero, i.size, i.bytes)) = some (some (.int .u8 0), 1, 1) := by kernel_rfl
theorem info76 : (Try.prog.info? 76).map (fun i => (i.zero, i.size, i.bytes)) = some (some (.agg #[(.string ⟨#[]⟩), (.string ⟨#[]⟩)]), 2, 32) := by kernel_rfl
-- the values' own types
/-! #### struct type 7 -/
/-! #### struct type 8 -/
/-! #### struct type 13 -/
/-! #### struct type 14 -/
/-! #### struct type 76 -/
structure S76 where
  f0 : ByteArray
  f1 : ByteArray
def z76 : S76 := ⟨(⟨#[]⟩ : ByteArray), (⟨#[]⟩ : ByteArray)⟩
def k76 : Kd S76 := Kd.iso (Kd.pair Kd.string Kd.string) (fun x : S76 => (x.f0, x.f1))
theorem k76_open {w : World} {x : S76} {cs : List Value} (h : k76.K w x cs) : cs = [.string x.f0, .string x.f1] := by
  obtain ⟨_, _, rfl, rfl, rfl⟩ := h
  exact rfl
theorem k76_mk (w : World) (x : S76)  : k76.K w x [.string x.f0, .string x.f1] := ⟨[.string x.f0], [.string x.f1], rfl, rfl, rfl⟩
theorem k76_mkM (w : World) (base : Nat) (ok : Nat → Prop) (x : S76)  : k76.M w base ok x [.string x.f0, .string x.f1] := ⟨[.string x.f0], [.string x.f1], rfl, rfl, rfl⟩
def rd_T76 (xs : List S76) (i : Int) : S76 := xs.getD i.toNat z76
theorem at_T76 {w : World} {A : Option Addr} {n : Nat} {xs : List S76} (h : Kd.C k76 w A n xs) (i : Int) (h0 : 0 ≤ i) (h1 : i < n) : ∃ ad , A = some ad ∧ w.cell? (ad.add (i.toNat * 2)) = some (.string (rd_T76 xs i).f0) ∧ w.cell? ⟨(ad.add (i.toNat * 2)).block, (ad.add (i.toNat * 2)).off + 1, none⟩ = some (.string (rd_T76 xs i).f1) := by
  obtain ⟨ad, c, e, _, hK, hc0⟩ := Kd.C_get h z76 i h0 h1
  have hc : ∀ j u, c[j]? = some u → w.cell? (ad.add (i.toNat * 2 + j)) = some u := hc0
  obtain rfl := k76_open hK
  exact ⟨ad, e, hc 0 _ rfl, by rw [← add_field _ _ 1 (by omega)]; exact hc 1 _ rfl⟩
/-! #### struct type 85 -/
structure S85 where
  f0 : ByteArray
  f1 : ByteArray
def z85 : S85 := ⟨(⟨#[]⟩ : ByteArray), (⟨#[]⟩ : ByteArray)⟩
def k85 : Kd S85 := Kd.iso (Kd.pair Kd.string Kd.string) (fun x : S85 => (x.f0, x.f1))
theorem k85_open {w : World} {x : S85} {cs : List Value} (h : k85.K w x cs) : cs = [.string x.f0, .string x.f1] := by
  obtain ⟨_, _, rfl, rfl, rfl⟩ := h
  exact rfl
theorem k85_mkM (w : World) (base : Nat) (ok : Nat → Prop) (x : S85)  : k85.M w base ok x [.string x.f0, .string x.f1] := ⟨[.string x.f0], [.string x.f1], rfl, rfl, rfl⟩
def rd_T85 (xs : List S85) (i : Int) : S85 := xs.getD i.toNat z85
theorem at_T85 {w : World} {A : Option Addr} {n : Nat} {xs : List S85} (h : Kd.C k85 w A n xs) (i : Int) (h0 : 0 ≤ i) (h1 : i < n) : ∃ ad , A = some ad ∧ w.cell? (ad.add (i.toNat * 2)) = some (.string (rd_T85 xs i).f0) ∧ w.cell? ⟨(ad.add (i.toNat * 2)).block, (ad.add (i.toNat * 2)).off + 1, none⟩ = some (.string (rd_T85 xs i).f1) := by
  obtain ⟨ad, c, e, _, hK, hc0⟩ := Kd.C_get h z85 i h0 h1
  have hc : ∀ j u, c[j]? = some u → w.cell? (ad.add (i.toNat * 2 + j)) = some u := hc0
  obtain rfl := k85_open hK
  exact ⟨ad, e, hc 0 _ rfl, by rw [← add_field _ _ 1 (by omega)]; exact hc 1 _ rfl⟩
/-! #### struct type 61 -/
/-! #### struct type 62 -/
/-! #### struct type 79 -/
/-! #### struct type 75 -/
/-! #### struct type 78 -/
/-! #### struct type 136 -/
/-! #### struct type 137 -/
end Go.Proofs.Ytemhalnhbgkbcaa.V
end

-- HBase
section
/- Small laws of our own, over the words. -/
namespace Go.Proofs.Ytemhalnhbgkbcaa.V
open Go.RowKit Go.Proofs.YtemhalnhbgkbcaaW.PrintWords Go.Proofs.YtemhalnhbgkbcaaW.PrintLast Go.Proofs.YtemhalnhbgkbcaaW.PrintMore

theorem wrap_u64 (n : Int) (h0 : 0 ≤ n) (h : n < 18446744073709551616) : IntKind.u64.wrap n = n := by rw [IntKind.wrap_u64]; omega
theorem wrap_u64_nat (n : Nat) (h : n < 18446744073709551616) : IntKind.u64.wrap (n : Int) = (n : Int) := wrap_u64 _ (by omega) (by omega)
theorem wrap64_id (n : Int) (h0 : -9223372036854775808 ≤ n) (h : n < 9223372036854775808) : wrap64 n = n := by unfold wrap64; omega
theorem two_pow_lt64 (i : Nat) (h : i < 64) : (2 : Nat) ^ i < 18446744073709551616 :=
  Nat.lt_of_lt_of_le (Nat.pow_lt_pow_right (by omega) h) (by decide)
end Go.Proofs.Ytemhalnhbgkbcaa.V
end

-- HArr
section
/- Arrays of whole numbers held against each other; a row that has just been laid. -/
namespace Go.Proofs.Ytemhalnhbgkbcaa.V
open Go.RowKit Go.Proofs.YtemhalnhbgkbcaaW.PrintWords Go.Proofs.YtemhalnhbgkbcaaW.PrintLast Go.Proofs.YtemhalnhbgkbcaaW.PrintMore
section
variable {P : Program} (w : World)
end
/-- A row of scalars that has just been laid. -/
theorem reads_new {α : Type} (enc : α → Value) (d : α) (w : World) (e : TypeId) (xs : List α) (hm : xs.length ≤ 9223372036854775807) :
    ReadsOf enc d (w.alloc (.cells (xs.map enc).toArray e)) (some ⟨w.heap.size, 0, none⟩) xs.length xs := by
  refine ⟨rfl, hm, fun _ => ⟨_, rfl, fun j hj => ?_⟩⟩
  rw [add_plain, cell_of_row (w.alloc (.cells (xs.map enc).toArray e)) w.heap.size j (xs.map enc).toArray e (0, 0) (heap_alloc_new w _)]
  simp [List.getD_eq_getElem?_getD, hj]
theorem C_new_int (k : IntKind) (w : World) (e : TypeId) (xs : List Int) (hm : xs.length ≤ 9223372036854775807) :
    Kd.C (Kd.int k) (w.alloc (.cells (xs.map (Value.int k)).toArray e)) (some ⟨w.heap.size, 0, none⟩) xs.length xs := Kd.C_of_reads (h1 := fun _ => rfl) (reads_new (Value.int k) 0 w e xs hm)
end Go.Proofs.Ytemhalnhbgkbcaa.V
end

-- HOps
section
/- Steps over whole variables in memory, the world behind them under a letter. -/
namespace Go.Proofs.Ytemhalnhbgkbcaa.V
open Go.RowKit Go.Proofs.YtemhalnhbgkbcaaW.PrintWords Go.Proofs.YtemhalnhbgkbcaaW.PrintLast Go.Proofs.YtemhalnhbgkbcaaW.PrintMore
set_option linter.unusedVariables false

/-- Block g of W is a row of the cells cs, of elements of type t. -/
def Box (W : World) (g : Nat) (cs : List Value) (t : Nat) : Prop := W.heap[g]? = some (.cells cs.toArray t (0, 0))
theorem Box.cell {W : World} {g : Nat} {cs : List Value} {t : Nat} (h : Box W g cs t) (j : Nat) (v : Value) (hv : cs[j]? = some v) : W.cell? ⟨g, j, none⟩ = some v := by
  rw [cell_of_row W g j _ t (0, 0) h]
  simpa using hv
theorem Box.frozen {W : World} {g : Nat} {cs : List Value} {t : Nat} (h : Box W g cs t) (j : Nat) : W.frozen? ⟨g, j, none⟩ = false := frozen_of_row W g j _ t h
theorem Box.lt {W : World} {g : Nat} {cs : List Value} {t : Nat} (h : Box W g cs t) : g < W.heap.size := (Array.getElem?_eq_some_iff.1 h).1
theorem Box.below {W W1 : World} {g : Nat} {cs : List Value} {t : Nat} (h : Box W g cs t) (hb : Below W.heap.size W W1) : Box W1 g cs t := (hb.block g h.lt).trans h
theorem Box.grown {W W1 : World} {g : Nat} {cs : List Value} {t : Nat} (h : Box W g cs t) {row : Option Nat} (hg : W.grownBy W1 row) (hne : some g ≠ row) : Box W1 g cs t := (hg.block g h.lt hne).trans h
theorem Box.drewN {W : World} {g : Nat} {cs : List Value} {t : Nat} (h : Box W g cs t) (n : Nat) : Box (W.drewN n) g cs t := h
theorem Box.alloc {W : World} {g : Nat} {cs : List Value} {t : Nat} (h : Box W g cs t) (o : Obj) : Box (W.alloc o) g cs t := h.below (below_alloc (Below.refl _ _) o)
theorem Box.set {W : World} {g : Nat} {cs : List Value} {t : Nat} (h : Box W g cs t) (j : Nat) (v : Value) : Box (W.setCell ⟨g, j, none⟩ v) g (cs.set j v) t := by
  have := heap_setCell_same W g j _ t v h
  unfold Box
  rw [this]
  congr 2
  simp
theorem Box.far {W : World} {g : Nat} {cs : List Value} {t : Nat} (h : Box W g cs t) {p : Addr} (hne : g ≠ p.block) (v : Value) : Box (W.setCell p v) g cs t := (Below.heap_setCell W p v g hne).trans h
theorem Box.ne_row {W : World} {g : Nat} {cs : List Value} {t : Nat} (h : Box W g cs t) {α : Type} {d : Kd α} {e base : Nat} {ok : Nat → Prop} {v : Value} {xs : List α} (hr : d.R e W base ok v xs) (ht : e ≠ t) : some g ≠ v.ownBlock := Kd.R_ne hr h ht
theorem Box.ne {W : World} {g g' : Nat} {cs cs' : List Value} {t t' : Nat} (h : Box W g cs t) (h' : Box W g' cs' t') (ht : t ≠ t') : g ≠ g' := by
  rintro rfl
  unfold Box at h h'
  rw [h] at h'
  injection h' with h'
  injection h' with _ h'
  exact ht h'
section
variable {P : Program} {ops : Array Oper} {rest : List Oper} {o : Oper} {a : Act} {w : World} {Q : Exit → Act → World → Prop}
theorem setCell_grown (w : World) (g j : Nat) (v : Value) : w.grownBy (w.setCell ⟨g, j, none⟩ v) (some g) :=
  ⟨rfl, rfl, rfl, by simp [World.setCell], fun k _ hk => Below.heap_setCell _ _ _ _ (fun e => hk (by rw [e]))⟩
theorem setRow_grown (w : World) (g : Nat) (cs : Array Value) : w.grownBy (w.setRow g cs) (some g) :=
  ⟨rfl, rfl, rfl, by simp, fun k _ hk => setRow_other w g k cs (fun e => hk (by rw [e]))⟩
/-- A struct that is boxed. -/
theorem step_box (hgd : o.guard = none) (ty : TypeId) (x : Operand) (ho : o.op = .box ty x) (cs : List Value) (hx : a.eval x = .agg cs.toArray)
    (h : ∀ g W1, w.heap.size ≤ g → Box W1 g cs ty → Below w.heap.size w W1 → wpList P ops Q rest (a.put o.dst (.pointer (some ⟨g, 0, none⟩))) W1) : wpList P ops Q (o :: rest) a w := by
  refine wpList_plain hgd fun K hK => ?_
  have := hK _ _ (h w.heap.size (w.alloc (.cells cs.toArray ty)) (Nat.le_refl _) (heap_alloc_new w _) (below_alloc (Below.refl _ _) _))
  unfold Oper.wp execOp
  simp only [ho, hx, Instr.box, newVar, newRow, newObj, Value.cells]
  exact this
/-- A variable of a type with this zero value. -/
theorem step_alloc (hgd : o.guard = none) (ty : TypeId) (ho : o.op = .alloc ty) (cs : List Value) (hz : ∀ w, (zeroValue ty).run P w = .ok (.agg cs.toArray) w)
    (h : ∀ g W1, w.heap.size ≤ g → Box W1 g cs ty → Below w.heap.size w W1 → wpList P ops Q rest (a.put o.dst (.pointer (some ⟨g, 0, none⟩))) W1) : wpList P ops Q (o :: rest) a w := by
  refine wpList_plain hgd fun K hK => ?_
  have := hK _ _ (h w.heap.size (w.alloc (.cells cs.toArray ty)) (Nat.le_refl _) (heap_alloc_new w _) (below_alloc (Below.refl _ _) _))
  unfold Oper.wp execOp
  simp only [ho, Instr.alloc, newVar, newRow, newObj, Value.cells, Sem.run_bind, hz, Result.andThen_ok]
  exact this
/-- The same, its slot named. -/
theorem step_allocN (N : Option Tmp) (hN : o.dst = N) (hgd : o.guard = none) (ty : TypeId) (ho : o.op = .alloc ty) (cs : List Value) (hz : ∀ w, (zeroValue ty).run P w = .ok (.agg cs.toArray) w)
    (h : ∀ g W1, w.heap.size ≤ g → Box W1 g cs ty → Below w.heap.size w W1 → wpList P ops Q rest (a.put o.dst (.pointer (some ⟨g, 0, none⟩))) W1) : wpList P ops Q (o :: rest) a w := step_alloc hgd ty ho cs hz h
/-- A whole variable loaded. -/
theorem step_load (hgd : o.guard = none) (ty : TypeId) (x : Operand) (ho : o.op = .load ty x) (g : Nat) (hx : a.eval x = .pointer (some ⟨g, 0, none⟩)) (t : Nat) (cs : List Value) (d : TypeDesc) (hb : Box w g cs t)
    (hu : P.underlying ty = some d) (hd : (match d with | .struct _ | .array _ _ => true | _ => false) = true) (n : Nat) (hi : (P.info? ty).map (·.size) = some n) (hn : cs.length = n)
    (h : wpList P ops Q rest (a.put o.dst (.agg cs.toArray)) w) : wpList P ops Q (o :: rest) a w :=
  wpList_load_row hgd ty x ho g hx t cs.toArray (0, 0) d hb hu hd (by rw [hi]; simp [hn]) h
/-- A part of a variable loaded. -/
theorem run_loadPart (w : World) (g t off : Nat) (ty : TypeId) (cs part : List Value) (d : TypeDesc) (hb : Box w g cs t) (hp : ∀ j v, part[j]? = some v → cs[off + j]? = some v)
    (hu : P.underlying ty = some d) (hd : (match d with | .struct _ | .array _ _ => true | _ => false) = true) (hi : (P.info? ty).map (·.size) = some part.length) :
    (loadVar ty ⟨g, off, none⟩).run P w = .ok (.agg part.toArray) w := by
  have hl : (loadCells ⟨g, off, none⟩ part.length).run P w = .ok part.toArray w :=
    run_loadCells_list (P := P) w ⟨g, off, none⟩ part (fun j v hv => by
      rw [add_at]
      exact hb.cell _ _ (hp j v hv))
  cases hq : P.info? ty with
  | none => simp [hq] at hi
  | some i =>
    have hs : i.size = part.length := by simpa [hq] using hi
    cases d <;> simp at hd <;> simp [loadVar, isAgg, run_underlying hu, sizeOf, typeInfo, hq, hs, hl]
/-- A whole variable, loaded in a region that draws. -/
theorem run_load_box {o : Oper} {a : Act} {w : World} (ty : TypeId) (x : Operand) (ho : o.op = .load ty x) (g : Nat) (hx : a.eval x = .pointer (some ⟨g, 0, none⟩)) (t : Nat) (cs : List Value) (d : TypeDesc) (hb : Box w g cs t)
    (hu : P.underlying ty = some d) (hd : (match d with | .struct _ | .array _ _ => true | _ => false) = true) (hi : (P.info? ty).map (·.size) = some cs.length) :
    (execOp a.eval o).run P w = .ok (.value (.agg cs.toArray)) w := by
  unfold execOp
  simp only [ho, hx, Instr.loadAt, Instr.sureAddr, Sem.run_bind, Sem.run_pure, Result.andThen_ok, run_loadPart w g t 0 ty cs cs d hb (fun j v hv => by rw [Nat.zero_add]; exact hv) hu hd hi]
theorem step_loadPart (hgd : o.guard = none) (ty : TypeId) (x : Operand) (ho : o.op = .load ty x) (g off : Nat) (hx : a.eval x = .pointer (some ⟨g, off, none⟩)) (t : Nat) (cs part : List Value) (d : TypeDesc) (hb : Box w g cs t)
    (hp : ∀ j v, part[j]? = some v → cs[off + j]? = some v)
    (hu : P.underlying ty = some d) (hd : (match d with | .struct _ | .array _ _ => true | _ => false) = true) (hi : (P.info? ty).map (·.size) = some part.length)
    (h : wpList P ops Q rest (a.put o.dst (.agg part.toArray)) w) : wpList P ops Q (o :: rest) a w := by
  refine wpList_plain hgd fun K hK => ?_
  unfold Oper.wp execOp
  simp only [ho, hx, Instr.loadAt, Instr.sureAddr, Sem.run_bind, Sem.run_pure, Result.andThen_ok, run_loadPart w g t off ty cs part d hb hp hu hd hi]
  exact hK _ _ h
/-- A whole variable stored. -/
theorem step_store (hgd : o.guard = none) (ty : TypeId) (x y : Operand) (ho : o.op = .store ty x y) (g : Nat) (cs : List Value) (hx : a.eval x = .pointer (some ⟨g, 0, none⟩)) (hy : a.eval y = .agg cs.toArray)
    (t : Nat) (old : List Value) (hb : Box w g old t) (n : Nat) (hi : (P.info? ty).map (·.size) = some n) (hn : cs.length = n) (hold : old.length = n) (h1 : ∀ v ∈ cs, v.oneCell' = true)
    (h : ∀ W1, Box W1 g cs t → w.grownBy W1 (some g) → wpList P ops Q rest (a.put o.dst undef) W1) : wpList P ops Q (o :: rest) a w :=
  wpList_store_row hgd ty x y ho g cs.toArray hx hy t old.toArray hb (by rw [hi]; simp [hn]) (by simp; omega) (by rw [Array.all_eq_true_iff_forall_mem]; intro v hv; exact h1 v (by simpa using hv))
    (h _ (setRow_heap w g old.toArray cs.toArray t (0, 0) hb) (setRow_grown w g _))
/-- A struct put together. -/
theorem step_build (hgd : o.guard = none) (t : TypeId) (parts : Array (Nat × Operand)) (ho : o.op = .build t parts) (cs : List Value)
    (hf : P.built t (parts.map fun (i, x) => (i, a.eval x)).toList = some cs.toArray) (h : wpList P ops Q rest (a.put o.dst (.agg cs.toArray)) w) : wpList P ops Q (o :: rest) a w := by
  refine wpList_build hgd t parts ho (by rw [hf]; rfl) ?_
  rw [hf]
  exact h
/-- An array's element. -/
theorem run_index_arr (w : World) (t e : TypeId) (n : Nat) (k : IntKind) (ht : P.underlying t = some (.array n e)) (he : P.underlying e = some (.int k)) (hsz : ∀ w, (sizeOf e).run P w = .ok 1 w) (xs : List Int) (hn : xs.length = n) (i : Nat) (hi : i < n) :
    (Instr.index t (.agg (xs.map (Value.int k)).toArray) (.int .i64 (i : Int))).run P w = .ok (.int k (xs.getD i 0)) w := by
  have hi' : i < xs.length := by omega
  simp [Instr.index, asIntOf, run_underlying ht, hsz, hi, part, isAgg, run_underlying he, List.getElem?_eq_getElem hi', List.getD]
end
end Go.Proofs.Ytemhalnhbgkbcaa.V
end

-- VFBitsSlot
section
-- PRINTED by print.py (a twelfth state) out of the translation. Not trusted: Lean checks it.
namespace Go.Proofs.Ytemhalnhbgkbcaa.V
open Go.RowKit Go.Proofs.YtemhalnhbgkbcaaW.PrintWords Go.Proofs.YtemhalnhbgkbcaaW.PrintLast Go.Proofs.YtemhalnhbgkbcaaW.PrintMore
attribute [local go_sem] max2_int min2_int max_two min_two max_three min_three max_four min_four   -- for this text's walks alone
set_option linter.unusedVariables false
set_option linter.unusedSimpArgs false

/-! ### bits_slot: function 64 -/
def bits_slot.f (a0 : Int) : Option (Bool) := if a0 ≥ 0 then (some (decide (a0 < 64))) else (some false)
set_option maxHeartbeats 8000000 in
set_option maxRecDepth 100000 in
theorem bits_slot.calls (a0 : Int) (r : Bool) (w : World) (h : bits_slot.f a0 = some r) :
    Calls Try.prog 64 #[.int .i64 a0] w fun e w' => e = .returned (.bool r) ∧ Drawn0 w w' := by
  have H : (if a0 ≥ 0 then (some (decide (a0 < 64))) else (some false)) = some r := h
  clear h
  by_cases c2 : a0 ≥ 0
  · rw [if_pos c2] at H
    have c2b0 : decide (0 ≤ a0) = true := decide_eq_true c2
    clear c2
    obtain rfl := Option.some.inj H
    go_enter Try.func64, Try.ntmps64
    go_wp2
    go_ret
    exact ⟨by first | rfl | (simp; done) | (simp [*]; done), by repeat (first | exact Drawn0.refl _ | apply Drawn0.step)⟩
  · rw [if_neg c2] at H
    have c2b0 : decide (0 ≤ a0) = false := decide_eq_false c2
    clear c2
    obtain rfl := Option.some.inj H
    go_enter Try.func64, Try.ntmps64
    go_wp2
    go_ret
    exact ⟨by first | rfl | (simp; done) | (simp [*]; done), by repeat (first | exact Drawn0.refl _ | apply Drawn0.step)⟩
end Go.Proofs.Ytemhalnhbgkbcaa.V
end

-- VFBitsSetHas
section
-- PRINTED by print.py (a twelfth state) out of the translation. Not trusted: Lean checks it.
namespace Go.Proofs.Ytemhalnhbgkbcaa.V
open Go.RowKit Go.Proofs.YtemhalnhbgkbcaaW.PrintWords Go.Proofs.YtemhalnhbgkbcaaW.PrintLast Go.Proofs.YtemhalnhbgkbcaaW.PrintMore
attribute [local go_sem] max2_int min2_int max_two min_two max_three min_three max_four min_four   -- for this text's walks alone
set_option linter.unusedVariables false
set_option linter.unusedSimpArgs false

/-! ### bits_Set_Has: function 20 -/
def bits_Set_Has.f (a0 : Int) (a1 : Int) : Option (Bool) := (bits_slot.f a1).bind fun t20101 => (if t20101 = true then (if 0 ≤ a1 then (some ((Go.bits .and .u64 (shr .u64 a0 a1) 1) == 1)) else (none)) else (some false))
set_option maxHeartbeats 8000000 in
set_option maxRecDepth 100000 in
theorem bits_Set_Has.calls (a0 : Int) (a1 : Int) (r : Bool) (w : World) (h : bits_Set_Has.f a0 a1 = some r) :
    Calls Try.prog 20 #[.int .u64 a0, .int .i64 a1] w fun e w' => e = .returned (.bool r) ∧ Drawn0 w w' := by
  have H : ((bits_slot.f a1).bind fun t20101 => (if t20101 = true then (if 0 ≤ a1 then (some ((Go.bits .and .u64 (shr .u64 a0 a1) 1) == 1)) else (none)) else (some false))) = some r := h
  clear h
  replace H := Option.bind_eq_some_iff.mp H
  obtain ⟨t20101, A30, H⟩ := H
  replace H : (if t20101 = true then (if 0 ≤ a1 then (some ((Go.bits .and .u64 (shr .u64 a0 a1) 1) == 1)) else (none)) else (some false)) = some r := H
  have A3 := Aside0.mk A30
  clear A30
  by_cases c4 : t20101 = true
  · subst c4
    have H1 : (if 0 ≤ a1 then (some ((Go.bits .and .u64 (shr .u64 a0 a1) 1) == 1)) else (none)) = some r := by rw [if_pos rfl] at H; exact H
    clear H
    have H := H1
    clear H1
    by_cases c5 : 0 ≤ a1
    · rw [if_pos c5] at H
      have c5b0 := eq_true c5
      have c5b1 : decide (0 ≤ a1) = true := decide_eq_true c5
      clear c5
      obtain ⟨ji6, hji6⟩ : ∃ j_ : Int, (shr .u64 a0 a1) = j_ := ⟨_, rfl⟩
      replace H : (some ((Go.bits .and .u64 (ji6) 1) == 1)) = some r := by first | (rw [hji6] at H; exact H) | (simp only [hji6] at H ⊢; exact H)
      (try rw [hji6] at A3)
      have hji6_ : (a0 / 2 ^ min a1.toNat 64) = ji6 := hji6
      have hji6z : a1 ≤ 64 → (a0 / 2 ^ a1.toNat) = ji6 := shr_small hji6
      obtain rfl := Option.some.inj H
      go_enter Try.func20, Try.ntmps20
      go_wp2_with (first | ((with_reducible refine gate_callee (f := 64) rfl ?_); refine goesL_ (some 6) rfl rfl Try.func64 (by kernel_rfl) rfl #[.int .i64 a1] rfl (by (try simp only [List.map_toArray, List.map_cons, List.map_nil]); first | done | rfl | (simp only [List.length_drop, List.length_take]; rfl)) ?_; (with_reducible refine (bits_slot.calls a1 true _ A3.out).mono ?_); rintro e w' ⟨rfl, ⟨nd, rfl⟩⟩; refine ⟨_, rfl, ?_⟩))
      go_ret
      exact ⟨by first | rfl | (simp; done) | (simp only [← hji6] <;> (first | rfl | simp)) | (simp [*]; done), by repeat (first | exact Drawn0.refl _ | apply Drawn0.step)⟩
    · rw [if_neg c5] at H
      exact absurd H (by simp)
  · replace c4 := Bool.eq_false_iff.mpr c4
    subst c4
    have H1 : (some false) = some r := by rw [if_neg (show ¬ (false = true) by decide)] at H; exact H
    clear H
    have H := H1
    clear H1
    obtain rfl := Option.some.inj H
    go_enter Try.func20, Try.ntmps20
    go_wp2_with (first | ((with_reducible refine gate_callee (f := 64) rfl ?_); refine goesL_ (some 6) rfl rfl Try.func64 (by kernel_rfl) rfl #[.int .i64 a1] rfl (by (try simp only [List.map_toArray, List.map_cons, List.map_nil]); first | done | rfl | (simp only [List.length_drop, List.length_take]; rfl)) ?_; (with_reducible refine (bits_slot.calls a1 false _ A3.out).mono ?_); rintro e w' ⟨rfl, ⟨nd, rfl⟩⟩; refine ⟨_, rfl, ?_⟩))
    go_ret
    exact ⟨by first | rfl | (simp; done) | (simp [*]; done), by repeat (first | exact Drawn0.refl _ | apply Drawn0.step)⟩
end Go.Proofs.Ytemhalnhbgkbcaa.V
end

-- VFBitsOne
section
-- PRINTED by print.py (a twelfth state) out of the translation. Not trusted: Lean checks it.
namespace Go.Proofs.Ytemhalnhbgkbcaa.V
open Go.RowKit Go.Proofs.YtemhalnhbgkbcaaW.PrintWords Go.Proofs.YtemhalnhbgkbcaaW.PrintLast Go.Proofs.YtemhalnhbgkbcaaW.PrintMore
attribute [local go_sem] max2_int min2_int max_two min_two max_three min_three max_four min_four   -- for this text's walks alone
set_option linter.unusedVariables false
set_option linter.unusedSimpArgs false

/-! ### bits_one: function 65 -/
def bits_one.f (a0 : Int) : Option (Int) := if 0 ≤ a0 then (some (shl .u64 1 a0)) else (none)
set_option maxHeartbeats 8000000 in
set_option maxRecDepth 100000 in
theorem bits_one.calls (a0 : Int) (r : Int) (w : World) (h : bits_one.f a0 = some r) :
    Calls Try.prog 65 #[.int .i64 a0] w fun e w' => e = .returned (.int .u64 r) ∧ Drawn0 w w' := by
  have H : (if 0 ≤ a0 then (some (shl .u64 1 a0)) else (none)) = some r := h
  clear h
  by_cases c2 : 0 ≤ a0
  · rw [if_pos c2] at H
    have c2b0 := eq_true c2
    have c2b1 : decide (0 ≤ a0) = true := decide_eq_true c2
    clear c2
    obtain ⟨ji3, hji3⟩ : ∃ j_ : Int, (shl .u64 1 a0) = j_ := ⟨_, rfl⟩
    replace H : (some ji3) = some r := by first | (rw [hji3] at H; exact H) | (simp only [hji3] at H ⊢; exact H)
    have hji3_ : (IntKind.u64.wrap (1 * 2 ^ min a0.toNat 64)) = ji3 := hji3
    have hji3z : a0 ≤ 64 → (IntKind.u64.wrap (1 * 2 ^ a0.toNat)) = ji3 := shl_small hji3
    have hji3u : (IntKind.u64.wrap (2 ^ min a0.toNat 64)) = ji3 := by have h_ := hji3_; rw [Int.one_mul] at h_; exact h_
    have hji3v : a0 ≤ 64 → (IntKind.u64.wrap (2 ^ a0.toNat)) = ji3 := fun hle_ => by have h_ := hji3z hle_; rw [Int.one_mul] at h_; exact h_
    obtain rfl := Option.some.inj H
    go_enter Try.func65, Try.ntmps65
    go_wp2
    go_ret
    exact ⟨by first | rfl | (simp; done) | (simp only [← hji3] <;> (first | rfl | simp)) | (simp [*]; done), by repeat (first | exact Drawn0.refl _ | apply Drawn0.step)⟩
  · rw [if_neg c2] at H
    exact absurd H (by simp)
end Go.Proofs.Ytemhalnhbgkbcaa.V
end

-- VFBitsSetWith
section
-- PRINTED by print.py (a twelfth state) out of the translation. Not trusted: Lean checks it.
namespace Go.Proofs.Ytemhalnhbgkbcaa.V
open Go.RowKit Go.Proofs.YtemhalnhbgkbcaaW.PrintWords Go.Proofs.YtemhalnhbgkbcaaW.PrintLast Go.Proofs.YtemhalnhbgkbcaaW.PrintMore
attribute [local go_sem] max2_int min2_int max_two min_two max_three min_three max_four min_four   -- for this text's walks alone
set_option linter.unusedVariables false
set_option linter.unusedSimpArgs false

/-! ### bits_Set_With: function 21 -/
def bits_Set_With.f (a0 : Int) (a1 : Int) : Option (Int) := (bits_slot.f a1).bind fun t21101 => (if t21101 = true then ((bits_one.f a1).bind fun t21102 => (some (Go.bits .or .u64 a0 t21102))) else (some a0))
set_option maxHeartbeats 8000000 in
set_option maxRecDepth 100000 in
theorem bits_Set_With.calls (a0 : Int) (a1 : Int) (r : Int) (w : World) (h : bits_Set_With.f a0 a1 = some r) :
    Calls Try.prog 21 #[.int .u64 a0, .int .i64 a1] w fun e w' => e = .returned (.int .u64 r) ∧ Drawn0 w w' := by
  have H : ((bits_slot.f a1).bind fun t21101 => (if t21101 = true then ((bits_one.f a1).bind fun t21102 => (some (Go.bits .or .u64 a0 t21102))) else (some a0))) = some r := h
  clear h
  replace H := Option.bind_eq_some_iff.mp H
  obtain ⟨t21101, A30, H⟩ := H
  replace H : (if t21101 = true then ((bits_one.f a1).bind fun t21102 => (some (Go.bits .or .u64 a0 t21102))) else (some a0)) = some r := H
  have A3 := Aside0.mk A30
  clear A30
  by_cases c4 : t21101 = true
  · subst c4
    have H1 : ((bits_one.f a1).bind fun t21102 => (some (Go.bits .or .u64 a0 t21102))) = some r := by rw [if_pos rfl] at H; exact H
    clear H
    have H := H1
    clear H1
    replace H := Option.bind_eq_some_iff.mp H
    obtain ⟨t21102, A50, H⟩ := H
    replace H : (some (Go.bits .or .u64 a0 t21102)) = some r := H
    have A5 := Aside0.mk A50
    clear A50
    obtain rfl := Option.some.inj H
    go_enter Try.func21, Try.ntmps21
    go_wp2_with (first | ((with_reducible refine gate_callee (f := 64) rfl ?_); refine goesL_ (some 6) rfl rfl Try.func64 (by kernel_rfl) rfl #[.int .i64 a1] rfl (by (try simp only [List.map_toArray, List.map_cons, List.map_nil]); first | done | rfl | (simp only [List.length_drop, List.length_take]; rfl)) ?_; (with_reducible refine (bits_slot.calls a1 true _ A3.out).mono ?_); rintro e w' ⟨rfl, ⟨nd, rfl⟩⟩; refine ⟨_, rfl, ?_⟩) | ((with_reducible refine gate_callee (f := 65) rfl ?_); refine goesL_ (some 11) rfl rfl Try.func65 (by kernel_rfl) rfl #[.int .i64 a1] rfl (by (try simp only [List.map_toArray, List.map_cons, List.map_nil]); first | done | rfl | (simp only [List.length_drop, List.length_take]; rfl)) ?_; (with_reducible refine (bits_one.calls a1 t21102 _ A5.out).mono ?_); rintro e w' ⟨rfl, ⟨nd, rfl⟩⟩; refine ⟨_, rfl, ?_⟩))
    go_ret
    exact ⟨by first | rfl | (simp; done) | (simp [*]; done), by repeat (first | exact Drawn0.refl _ | apply Drawn0.step)⟩
  · replace c4 := Bool.eq_false_iff.mpr c4
    subst c4
    have H1 : (some a0) = some r := by rw [if_neg (show ¬ (false = true) by decide)] at H; exact H
    clear H
    have H := H1
    clear H1
    obtain rfl := Option.some.inj H
    go_enter Try.func21, Try.ntmps21
    go_wp2_with (first | ((with_reducible refine gate_callee (f := 64) rfl ?_); refine goesL_ (some 6) rfl rfl Try.func64 (by kernel_rfl) rfl #[.int .i64 a1] rfl (by (try simp only [List.map_toArray, List.map_cons, List.map_nil]); first | done | rfl | (simp only [List.length_drop, List.length_take]; rfl)) ?_; (with_reducible refine (bits_slot.calls a1 false _ A3.out).mono ?_); rintro e w' ⟨rfl, ⟨nd, rfl⟩⟩; refine ⟨_, rfl, ?_⟩))
    go_ret
    exact ⟨by first | rfl | (simp; done) | (simp [*]; done), by repeat (first | exact Drawn0.refl _ | apply Drawn0.step)⟩
end Go.Proofs.Ytemhalnhbgkbcaa.V
end

-- VFBitsSetWithout
section
-- PRINTED by print.py (a twelfth state) out of the translation. Not trusted: Lean checks it.
namespace Go.Proofs.Ytemhalnhbgkbcaa.V
open Go.RowKit Go.Proofs.YtemhalnhbgkbcaaW.PrintWords Go.Proofs.YtemhalnhbgkbcaaW.PrintLast Go.Proofs.YtemhalnhbgkbcaaW.PrintMore
attribute [local go_sem] max2_int min2_int max_two min_two max_three min_three max_four min_four   -- for this text's walks alone
set_option linter.unusedVariables false
set_option linter.unusedSimpArgs false

/-! ### bits_Set_Without: function 23 -/
def bits_Set_Without.f (a0 : Int) (a1 : Int) : Option (Int) := (bits_slot.f a1).bind fun t23101 => (if t23101 = true then ((bits_one.f a1).bind fun t23102 => (some (Go.bits .andNot .u64 a0 t23102))) else (some a0))
set_option maxHeartbeats 8000000 in
set_option maxRecDepth 100000 in
theorem bits_Set_Without.calls (a0 : Int) (a1 : Int) (r : Int) (w : World) (h : bits_Set_Without.f a0 a1 = some r) :
    Calls Try.prog 23 #[.int .u64 a0, .int .i64 a1] w fun e w' => e = .returned (.int .u64 r) ∧ Drawn0 w w' := by
  have H : ((bits_slot.f a1).bind fun t23101 => (if t23101 = true then ((bits_one.f a1).bind fun t23102 => (some (Go.bits .andNot .u64 a0 t23102))) else (some a0))) = some r := h
  clear h
  replace H := Option.bind_eq_some_iff.mp H
  obtain ⟨t23101, A30, H⟩ := H
  replace H : (if t23101 = true then ((bits_one.f a1).bind fun t23102 => (some (Go.bits .andNot .u64 a0 t23102))) else (some a0)) = some r := H
  have A3 := Aside0.mk A30
  clear A30
  by_cases c4 : t23101 = true
  · subst c4
    have H1 : ((bits_one.f a1).bind fun t23102 => (some (Go.bits .andNot .u64 a0 t23102))) = some r := by rw [if_pos rfl] at H; exact H
    clear H
    have H := H1
    clear H1
    replace H := Option.bind_eq_some_iff.mp H
    obtain ⟨t23102, A50, H⟩ := H
    replace H : (some (Go.bits .andNot .u64 a0 t23102)) = some r := H
    have A5 := Aside0.mk A50
    clear A50
    obtain rfl := Option.some.inj H
    go_enter Try.func23, Try.ntmps23
    go_wp2_with (first | ((with_reducible refine gate_callee (f := 64) rfl ?_); refine goesL_ (some 6) rfl rfl Try.func64 (by kernel_rfl) rfl #[.int .i64 a1] rfl (by (try simp only [List.map_toArray, List.map_cons, List.map_nil]); first | done | rfl | (simp only [List.length_drop, List.length_take]; rfl)) ?_; (with_reducible refine (bits_slot.calls a1 true _ A3.out).mono ?_); rintro e w' ⟨rfl, ⟨nd, rfl⟩⟩; refine ⟨_, rfl, ?_⟩) | ((with_reducible refine gate_callee (f := 65) rfl ?_); refine goesL_ (some 11) rfl rfl Try.func65 (by kernel_rfl) rfl #[.int .i64 a1] rfl (by (try simp only [List.map_toArray, List.map_cons, List.map_nil]); first | done | rfl | (simp only [List.length_drop, List.length_take]; rfl)) ?_; (with_reducible refine (bits_one.calls a1 t23102 _ A5.out).mono ?_); rintro e w' ⟨rfl, ⟨nd, rfl⟩⟩; refine ⟨_, rfl, ?_⟩))
    go_ret
    exact ⟨by first | rfl | (simp; done) | (simp [*]; done), by repeat (first | exact Drawn0.refl _ | apply Drawn0.step)⟩
  · replace c4 := Bool.eq_false_iff.mpr c4
    subst c4
    have H1 : (some a0) = some r := by rw [if_neg (show ¬ (false = true) by decide)] at H; exact H
    clear H
    have H := H1
    clear H1
    obtain rfl := Option.some.inj H
    go_enter Try.func23, Try.ntmps23
    go_wp2_with (first | ((with_reducible refine gate_callee (f := 64) rfl ?_); refine goesL_ (some 6) rfl rfl Try.func64 (by kernel_rfl) rfl #[.int .i64 a1] rfl (by (try simp only [List.map_toArray, List.map_cons, List.map_nil]); first | done | rfl | (simp only [List.length_drop, List.length_take]; rfl)) ?_; (with_reducible refine (bits_slot.calls a1 false _ A3.out).mono ?_); rintro e w' ⟨rfl, ⟨nd, rfl⟩⟩; refine ⟨_, rfl, ?_⟩))
    go_ret
    exact ⟨by first | rfl | (simp; done) | (simp [*]; done), by repeat (first | exact Drawn0.refl _ | apply Drawn0.step)⟩
end Go.Proofs.Ytemhalnhbgkbcaa.V
end

-- VFBitsOf
section
-- PRINTED by print.py (a twelfth state) out of the translation. Not trusted: Lean checks it.
namespace Go.Proofs.Ytemhalnhbgkbcaa.V
open Go.RowKit Go.Proofs.YtemhalnhbgkbcaaW.PrintWords Go.Proofs.YtemhalnhbgkbcaaW.PrintLast Go.Proofs.YtemhalnhbgkbcaaW.PrintMore
attribute [local go_sem] max2_int min2_int max_two min_two max_three min_three max_four min_four   -- for this text's walks alone
set_option linter.unusedVariables false
set_option linter.unusedSimpArgs false

/-! ### bits_Of: function 28 -/
def bits_Of.l0 : Nat → Int → List Int → Int → Int → Option (Int)
  | 0, _, _, _, _ => none
  | k + 1, x3, x6, x7, x8 => if x8 < x7 then (if 0 ≤ x8 then (if x8 < (x6.length : Int) then ((bits_Set_With.f x3 (rd x6 x8)).bind fun t28102 => (bits_Of.l0 k t28102 x6 x7 (wrap64 (x8 + 1)))) else (none)) else (none)) else (some x3)
def bits_Of.f (k : Nat) (l0 : List Int) : Option (Int) := bits_Of.l0 k 0 l0 (l0.length : Int) 0
theorem bits_Of.mono_l : ∀ k, (∀ y0 y1 y2 y3, LeO (bits_Of.l0 k y0 y1 y2 y3) (bits_Of.l0 (k + 1) y0 y1 y2 y3))
  | 0 => fun _ _ _ _ r h => by simp [bits_Of.l0] at h
  | k + 1 => by
    have ih0 := bits_Of.mono_l k
    · intro y0 y1 y2 y3
      unfold bits_Of.l0
      repeat' first
      | (with_reducible exact ih0 _ _ _ _)
      | (with_reducible exact LeO.refl _)
      | (with_reducible exact LeO.none _)
      | (with_reducible refine LeO.ite ?_ ?_)
      | (with_reducible refine LeO.bind ?_ (fun _ => ?_))
      | exact ih0 _ _ _ _
      | exact LeO.none _
      | refine LeO.ite ?_ ?_
      | refine LeO.bind ?_ (fun _ => ?_)
theorem bits_Of.mono : ∀ a0 k, LeO (bits_Of.f k a0) (bits_Of.f (k + 1) a0) := by
  intro a0 k
  have ih0 := bits_Of.mono_l k
  unfold bits_Of.f
  repeat' first
      | (with_reducible exact ih0 _ _ _ _)
      | (with_reducible exact LeO.refl _)
      | (with_reducible exact LeO.none _)
      | (with_reducible refine LeO.ite ?_ ?_)
      | (with_reducible refine LeO.bind ?_ (fun _ => ?_))
      | exact ih0 _ _ _ _
      | exact LeO.none _
      | refine LeO.ite ?_ ?_
      | refine LeO.bind ?_ (fun _ => ?_)
set_option maxHeartbeats 8000000 in
set_option maxRecDepth 100000 in
theorem bits_Of.calls (k : Nat) (A0 : Option Addr) (c0 : Nat) (l0 : List Int) (r : Int) (w : World) (hr0 : Kd.C (Kd.int .i64) w A0 l0.length l0) (hc0 : l0.length ≤ c0) (h : bits_Of.f k l0 = some r) :
    Calls Try.prog 28 #[.slice A0 l0.length c0] w fun e w' => e = .returned (.int .u64 r) ∧ Drawn0 w w' := by
  have HR0 := Aside0.mk hr0
  have HC0 := Aside0.mk hc0
  clear hr0 hc0
  have H : (bits_Of.l0 k 0 l0 (l0.length : Int) 0) = some r := h
  clear h
  have H' := Aside0.mk H
  clear H
  go_enter Try.func28, Try.ntmps28
  go_wp2
  go_loopg [3, 8] k (fun kq v3 v8 w' => ∃ (x3_1 : Int) (x8_1 : Int), v3 = .int .u64 x3_1 ∧ v8 = .int .i64 x8_1 ∧ Aside0 (bits_Of.l0 kq x3_1 l0 (l0.length : Int) x8_1 = some r) ∧ Aside0 (kq ≤ k) ∧ Drawn0 w w')
  case atStart => exact ⟨(0), (0), (by first | rfl | (simp; done) | (simp [*]; done)), (by first | rfl | (simp; done) | (simp [*]; done)), H', ⟨Nat.le_refl _⟩, by repeat (first | exact Drawn0.refl _ | apply Drawn0.step)⟩
  case round =>
    clear H'
    obtain ⟨x3_1, x8_1, rfl, rfl, HA, HK1, ⟨m1, rfl⟩⟩ := hrel
    cases gk with
    | zero => exact absurd HA.out (by simp [bits_Of.l0])
    | succ k1 =>
      have H := HA.out
      clear HA
      simp only [bits_Of.l0] at H
      by_cases c2 : x8_1 < (l0.length : Int)
      · rw [if_pos c2] at H
        have c2b0 : decide (x8_1 < (l0.length : Int)) = true := decide_eq_true c2
        clear c2
        by_cases c3 : 0 ≤ x8_1
        · rw [if_pos c3] at H
          have c3b0 : decide (0 ≤ x8_1) = true := decide_eq_true c3
          clear c3
          by_cases c4 : x8_1 < (l0.length : Int)
          · rw [if_pos c4] at H
            have c4b0 : decide (x8_1 < (l0.length : Int)) = true := decide_eq_true c4
            clear c4
            replace H := Option.bind_eq_some_iff.mp H
            obtain ⟨t28102, A50, H⟩ := H
            replace H : (bits_Of.l0 k1 t28102 l0 (l0.length : Int) (wrap64 (x8_1 + 1))) = some r := H
            have A5 := Aside0.mk A50
            clear A50
            have H' := Aside0.mk H
            clear H
            have p28101 : 0 ≤ (x8_1 : Int) := of_decide_eq_true (by first | (with_reducible assumption) | assumption)
            have q28101 : x8_1 < (l0.length : Int) := of_decide_eq_true (by first | (with_reducible assumption) | assumption)
            obtain ⟨ad28101, e28101, hx28101_0⟩ := Kd.at_int HR0.out x8_1 p28101 q28101
            cases e28101
            replace p28101 := eq_true p28101
            replace q28101 := eq_true q28101
            go_wp2_with (first | ((with_reducible refine gate_callee (f := 21) rfl ?_); refine goesL_ (some 14) rfl rfl Try.func21 (by kernel_rfl) rfl #[.int .u64 x3_1, .int .i64 (rd l0 x8_1)] rfl (by (try simp only [List.map_toArray, List.map_cons, List.map_nil]); first | done | rfl | (simp only [List.length_drop, List.length_take]; rfl)) ?_; (with_reducible refine (bits_Set_With.calls x3_1 (rd l0 x8_1) t28102 _ A5.out).mono ?_); rintro e w' ⟨rfl, ⟨nd, rfl⟩⟩; refine ⟨_, rfl, ?_⟩))
            go_roundg k1
            case measure => have := HK1.out; omega
            case rel => exact ⟨(t28102), (wrap64 (x8_1 + 1)), (by first | rfl | (simp; done) | (simp [*]; done)), (by first | rfl | (simp; done) | (simp [*]; done)), H', ⟨by have := HK1.out; omega⟩, by repeat (first | exact Drawn0.refl _ | apply Drawn0.step)⟩
          · rw [if_neg c4] at H
            exact absurd H (by simp)
        · rw [if_neg c3] at H
          exact absurd H (by simp)
      · rw [if_neg c2] at H
        have c2b0 : decide (x8_1 < (l0.length : Int)) = false := decide_eq_false c2
        clear c2
        obtain rfl := Option.some.inj H
        go_wp2
        go_ret
        exact ⟨by first | rfl | (simp; done) | (simp [*]; done), by repeat (first | exact Drawn0.refl _ | apply Drawn0.step)⟩
end Go.Proofs.Ytemhalnhbgkbcaa.V
end

-- VFBitsSetLen
section
-- PRINTED by print.py (a twelfth state) out of the translation. Not trusted: Lean checks it.
namespace Go.Proofs.Ytemhalnhbgkbcaa.V
open Go.RowKit Go.Proofs.YtemhalnhbgkbcaaW.PrintWords Go.Proofs.YtemhalnhbgkbcaaW.PrintLast Go.Proofs.YtemhalnhbgkbcaaW.PrintMore
attribute [local go_sem] max2_int min2_int max_two min_two max_three min_three max_four min_four   -- for this text's walks alone
set_option linter.unusedVariables false
set_option linter.unusedSimpArgs false

/-! ### bits_Set_Len: function 27 -/
def bits_Set_Len.l0 : Nat → Int → Int → Option (Int)
  | 0, _, _ => none
  | k + 1, x0, x3 => if x0 = 0 then (some x3) else (bits_Set_Len.l0 k (Go.bits .and .u64 x0 (IntKind.u64.wrap (x0 - 1))) (wrap64 (x3 + 1)))
def bits_Set_Len.f (k : Nat) (a0 : Int) : Option (Int) := bits_Set_Len.l0 k a0 0
theorem bits_Set_Len.mono_l : ∀ k, (∀ y0 y1, LeO (bits_Set_Len.l0 k y0 y1) (bits_Set_Len.l0 (k + 1) y0 y1))
  | 0 => fun _ _ r h => by simp [bits_Set_Len.l0] at h
  | k + 1 => by
    have ih0 := bits_Set_Len.mono_l k
    · intro y0 y1
      unfold bits_Set_Len.l0
      repeat' first
      | (with_reducible exact ih0 _ _)
      | (with_reducible exact LeO.refl _)
      | (with_reducible exact LeO.none _)
      | (with_reducible refine LeO.ite ?_ ?_)
      | (with_reducible refine LeO.bind ?_ (fun _ => ?_))
      | exact ih0 _ _
      | exact LeO.none _
      | refine LeO.ite ?_ ?_
      | refine LeO.bind ?_ (fun _ => ?_)
theorem bits_Set_Len.mono : ∀ a0 k, LeO (bits_Set_Len.f k a0) (bits_Set_Len.f (k + 1) a0) := by
  intro a0 k
  have ih0 := bits_Set_Len.mono_l k
  unfold bits_Set_Len.f
  repeat' first
      | (with_reducible exact ih0 _ _)
      | (with_reducible exact LeO.refl _)
      | (with_reducible exact LeO.none _)
      | (with_reducible refine LeO.ite ?_ ?_)
      | (with_reducible refine LeO.bind ?_ (fun _ => ?_))
      | exact ih0 _ _
      | exact LeO.none _
      | refine LeO.ite ?_ ?_
      | refine LeO.bind ?_ (fun _ => ?_)
set_option maxHeartbeats 8000000 in
set_option maxRecDepth 100000 in
theorem bits_Set_Len.calls (k : Nat) (a0 : Int) (r : Int) (w : World) (h : bits_Set_Len.f k a0 = some r) :
    Calls Try.prog 27 #[.int .u64 a0] w fun e w' => e = .returned (.int .i64 r) ∧ Drawn0 w w' := by
  have H : (bits_Set_Len.l0 k a0 0) = some r := h
  clear h
  have H' := Aside0.mk H
  clear H
  go_enter Try.func27, Try.ntmps27
  go_wp2
  go_loopg [0, 3] k (fun kq v0 v3 w' => ∃ (x0_1 : Int) (x3_1 : Int), v0 = .int .u64 x0_1 ∧ v3 = .int .i64 x3_1 ∧ Aside0 (bits_Set_Len.l0 kq x0_1 x3_1 = some r) ∧ Aside0 (kq ≤ k) ∧ Drawn0 w w')
  case atStart => exact ⟨(a0), (0), (by first | rfl | (simp; done) | (simp [*]; done)), (by first | rfl | (simp; done) | (simp [*]; done)), H', ⟨Nat.le_refl _⟩, by repeat (first | exact Drawn0.refl _ | apply Drawn0.step)⟩
  case round =>
    clear H'
    obtain ⟨x0_1, x3_1, rfl, rfl, HA, HK1, ⟨m1, rfl⟩⟩ := hrel
    cases gk with
    | zero => exact absurd HA.out (by simp [bits_Set_Len.l0])
    | succ k1 =>
      have H := HA.out
      clear HA
      simp only [bits_Set_Len.l0] at H
      by_cases c2 : x0_1 = 0
      · rw [if_pos c2] at H
        have c2b0 : (x0_1 == 0) = true := beq_iff_eq.mpr c2
        have c2b1 : (x0_1 != 0) = false := bne_eq_false_iff_eq.mpr c2
        clear c2
        obtain rfl := Option.some.inj H
        go_wp2
        go_ret
        exact ⟨by first | rfl | (simp; done) | (simp [*]; done), by repeat (first | exact Drawn0.refl _ | apply Drawn0.step)⟩
      · rw [if_neg c2] at H
        have c2b0 : (x0_1 == 0) = false := beq_eq_false_iff_ne.mpr c2
        have c2b1 : (x0_1 != 0) = true := bne_iff_ne.mpr c2
        have H' := Aside0.mk H
        clear H
        go_wp2
        go_roundg k1
        case measure => have := HK1.out; omega
        case rel => exact ⟨(Go.bits .and .u64 x0_1 (IntKind.u64.wrap (x0_1 - 1))), (wrap64 (x3_1 + 1)), (by first | rfl | (simp; done) | (simp [*]; done)), (by first | rfl | (simp; done) | (simp [*]; done)), H', ⟨by have := HK1.out; omega⟩, by repeat (first | exact Drawn0.refl _ | apply Drawn0.step)⟩
end Go.Proofs.Ytemhalnhbgkbcaa.V
end

-- VFBitsSetList
section
-- PRINTED by print.py (a twelfth state) out of the translation. Not trusted: Lean checks it.
namespace Go.Proofs.Ytemhalnhbgkbcaa.V
open Go.RowKit Go.Proofs.YtemhalnhbgkbcaaW.PrintWords Go.Proofs.YtemhalnhbgkbcaaW.PrintLast Go.Proofs.YtemhalnhbgkbcaaW.PrintMore
attribute [local go_sem] max2_int min2_int max_two min_two max_three min_three max_four min_four   -- for this text's walks alone
set_option linter.unusedVariables false
set_option linter.unusedSimpArgs false

/-! ### bits_Set_List: function 26 -/
def bits_Set_List.l0 : Nat → Int → List Int → Int → Option (List Int)
  | 0, _, _, _ => none
  | k + 1, x0, x3, x5 => if x5 < 64 then ((bits_Set_Has.f x0 x5).bind fun t26101 => (if t26101 = true then (if x3.length < 17592186044416 then (bits_Set_List.l0 k x0 (x3 ++ [x5]) (wrap64 (x5 + 1))) else (none)) else (bits_Set_List.l0 k x0 x3 (wrap64 (x5 + 1))))) else (some x3)
def bits_Set_List.f (k : Nat) (a0 : Int) : Option (List Int) := bits_Set_List.l0 k a0 ([] : List Int) 0
theorem bits_Set_List.mono_l : ∀ k, (∀ y0 y1 y2, LeO (bits_Set_List.l0 k y0 y1 y2) (bits_Set_List.l0 (k + 1) y0 y1 y2))
  | 0 => fun _ _ _ r h => by simp [bits_Set_List.l0] at h
  | k + 1 => by
    have ih0 := bits_Set_List.mono_l k
    · intro y0 y1 y2
      unfold bits_Set_List.l0
      repeat' first
      | (with_reducible exact ih0 _ _ _)
      | (with_reducible exact LeO.refl _)
      | (with_reducible exact LeO.none _)
      | (with_reducible refine LeO.ite ?_ ?_)
      | (with_reducible refine LeO.bind ?_ (fun _ => ?_))
      | exact ih0 _ _ _
      | exact LeO.none _
      | refine LeO.ite ?_ ?_
      | refine LeO.bind ?_ (fun _ => ?_)
theorem bits_Set_List.mono : ∀ a0 k, LeO (bits_Set_List.f k a0) (bits_Set_List.f (k + 1) a0) := by
  intro a0 k
  have ih0 := bits_Set_List.mono_l k
  unfold bits_Set_List.f
  repeat' first
      | (with_reducible exact ih0 _ _ _)
      | (with_reducible exact LeO.refl _)
      | (with_reducible exact LeO.none _)
      | (with_reducible refine LeO.ite ?_ ?_)
      | (with_reducible refine LeO.bind ?_ (fun _ => ?_))
      | exact ih0 _ _ _
      | exact LeO.none _
      | refine LeO.ite ?_ ?_
      | refine LeO.bind ?_ (fun _ => ?_)
set_option maxHeartbeats 8000000 in
set_option maxRecDepth 100000 in
theorem bits_Set_List.calls (k : Nat) (a0 : Int) (r : List Int) (w : World) (h : bits_Set_List.f k a0 = some r) :
    Calls Try.prog 26 #[.int .u64 a0] w fun e w' => ∃ v0_ : Value, e = .returned (v0_) ∧ Kd.R (Kd.int .i64) 3 w' w.heap.size (fun _ => True) v0_ r ∧ Below w.heap.size w w' := by
  have HB := Aside0.mk (Below.refl w.heap.size w)
  have H : (bits_Set_List.l0 k a0 ([] : List Int) 0) = some r := h
  clear h
  have H' := Aside0.mk H
  clear H
  go_enter Try.func26, Try.ntmps26
  go_wp2
  go_loopg [3, 5] k (fun kq v3 v5 w' => ∃ (x3_1 : List Int) (x5_1 : Int), v5 = .int .i64 x5_1 ∧ Aside0 (bits_Set_List.l0 kq a0 x3_1 x5_1 = some r) ∧ Aside0 (kq ≤ k) ∧ Aside0 (Kd.R (Kd.int .i64) 3 w' w.heap.size (fun _ => True) v3 x3_1) ∧ Aside0 (Below w.heap.size w w'))
  case atStart => exact ⟨(([] : List Int)), (0), (by first | rfl | (simp; done) | (simp [*]; done)), H', ⟨Nat.le_refl _⟩, ⟨by first | exact Kd.R_nil _ _ _ _ _ | exact Kd.N_nil _ _ _ _ _ | exact Kd.V_nil _ _ _ _ _ | exact Kd.Q_nil _ _ _ _ _ | exact Kd.S_nil _ _ _ _ _⟩, ⟨by repeat (first | (with_reducible first | exact HB.out | apply below_alloc | apply pw_below_drewN | apply below_drew1) | exact HB.out)⟩⟩
  case round =>
    clear H'
    obtain ⟨x3_1, x5_1, rfl, HA, HK1, HO_3, HB⟩ := hrel
    cases gk with
    | zero => exact absurd HA.out (by simp [bits_Set_List.l0])
    | succ k1 =>
      have H := HA.out
      clear HA
      simp only [bits_Set_List.l0] at H
      by_cases c2 : x5_1 < 64
      · rw [if_pos c2] at H
        have c2b0 : decide (x5_1 < 64) = true := decide_eq_true c2
        clear c2
        replace H := Option.bind_eq_some_iff.mp H
        obtain ⟨t26101, A30, H⟩ := H
        replace H : (if t26101 = true then (if x3_1.length < 17592186044416 then (bits_Set_List.l0 k1 a0 (x3_1 ++ [x5_1]) (wrap64 (x5_1 + 1))) else (none)) else (bits_Set_List.l0 k1 a0 x3_1 (wrap64 (x5_1 + 1)))) = some r := H
        have A3 := Aside0.mk A30
        clear A30
        by_cases c4 : t26101 = true
        · subst c4
          have H1 : (if x3_1.length < 17592186044416 then (bits_Set_List.l0 k1 a0 (x3_1 ++ [x5_1]) (wrap64 (x5_1 + 1))) else (none)) = some r := by rw [if_pos rfl] at H; exact H
          clear H
          have H := H1
          clear H1
          by_cases c5 : x3_1.length < 17592186044416
          · rw [if_pos c5] at H
            have LMc5 := Aside0.mk c5
            clear c5
            obtain ⟨y26102, hy26102⟩ : ∃ y_ : List Int, y_ = (x3_1 ++ [x5_1]) := ⟨_, rfl⟩
            replace H : (bits_Set_List.l0 k1 a0 y26102 (wrap64 (x5_1 + 1))) = some r := by first | (rw [hy26102]; with_reducible exact H) | (have H2_ := (Option.bind_some _ _).symm.trans H; rw [hy26102]; with_reducible exact H2_) | (have H2_ := (Option.bind_some _ _).symm.trans H; with_reducible exact H2_) | with_reducible exact H | (rw [hy26102]; exact H) | exact H
            have Ny26102 := Aside0.mk hy26102
            clear hy26102
            have H' := Aside0.mk H
            clear H
            go_wp2_with (first | ((with_reducible refine gate_callee (f := 20) rfl ?_); refine goesL_ (some 10) rfl rfl Try.func20 (by kernel_rfl) rfl #[.int .u64 a0, .int .i64 x5_1] rfl (by (try simp only [List.map_toArray, List.map_cons, List.map_nil]); first | done | rfl | (simp only [List.length_drop, List.length_take]; rfl)) ?_; (with_reducible refine (bits_Set_Has.calls a0 x5_1 true _ A3.out).mono ?_); rintro e w' ⟨rfl, ⟨nd, rfl⟩⟩; refine ⟨_, rfl, ?_⟩) | ((with_reducible refine gate_builtin (b := .append) (xs := #[.tmp 11, .tmp 13]) rfl ?_); at_builtin; refine Kd.R_append (Kd.int .i64) (w0 := w) w.heap.size rfl (.tmp 11) (.tmp 13) 31 3 (.int .i64 0) 8 rfl Try.underlying31 info3 rfl (by decide) (by omega) u3 x3_1 x5_1 [.int .i64 x5_1] (fun _ => True) (fun _ => False) rfl rfl ?aP (fun _ hk => hk.elim) ?aF ?aO ?aB ?aS ?aL ?_; (case aP => exact rfl); (case aB => exact (by repeat (first | (with_reducible first | exact HB.out | apply below_alloc | apply pw_below_drewN | apply below_drew1) | exact HB.out))); (case aF => exact (fun _ _ => trivial)); (case aO => exact (by (with_reducible repeat (first | apply Kd.R_alloc | apply Kd.R_drewN | apply Kd.R_drew)); exact HO_3.out)); (case aS => exact (below_size (by repeat (first | (with_reducible first | exact HB.out | apply below_alloc | apply pw_below_drewN | apply below_drew1) | exact HB.out)))); (case aL => have := LMc5.out; omega); intro v26103 w6 ho hb hg hat; rw [← Ny26102.out] at ho; have n0_ := Aside0.mk (hb); have n1_ := Aside0.mk (ho); clear HB; clear HO_3; have HB := n0_; have HO26104 := n1_; clear n0_ n1_; clear ho hb hg hat))
            go_roundg k1
            case measure => have := HK1.out; omega
            case rel => exact ⟨(y26102), (wrap64 (x5_1 + 1)), (by first | rfl | (simp; done) | (simp [*]; done)), H', ⟨by have := HK1.out; omega⟩, ⟨by (with_reducible repeat (first | apply Kd.R_alloc | apply Kd.R_drewN | apply Kd.R_drew)); exact HO26104.out⟩, ⟨by repeat (first | (with_reducible first | exact HB.out | apply below_alloc | apply pw_below_drewN | apply below_drew1) | exact HB.out)⟩⟩
          · rw [if_neg c5] at H
            exact absurd H (by simp)
        · replace c4 := Bool.eq_false_iff.mpr c4
          subst c4
          have H1 : (bits_Set_List.l0 k1 a0 x3_1 (wrap64 (x5_1 + 1))) = some r := by rw [if_neg (show ¬ (false = true) by decide)] at H; exact H
          clear H
          have H := H1
          clear H1
          have H' := Aside0.mk H
          clear H
          go_wp2_with (first | ((with_reducible refine gate_callee (f := 20) rfl ?_); refine goesL_ (some 10) rfl rfl Try.func20 (by kernel_rfl) rfl #[.int .u64 a0, .int .i64 x5_1] rfl (by (try simp only [List.map_toArray, List.map_cons, List.map_nil]); first | done | rfl | (simp only [List.length_drop, List.length_take]; rfl)) ?_; (with_reducible refine (bits_Set_Has.calls a0 x5_1 false _ A3.out).mono ?_); rintro e w' ⟨rfl, ⟨nd, rfl⟩⟩; refine ⟨_, rfl, ?_⟩))
          go_roundg k1
          case measure => have := HK1.out; omega
          case rel => exact ⟨(x3_1), (wrap64 (x5_1 + 1)), (by first | rfl | (simp; done) | (simp [*]; done)), H', ⟨by have := HK1.out; omega⟩, ⟨by (with_reducible repeat (first | apply Kd.R_alloc | apply Kd.R_drewN | apply Kd.R_drew)); exact HO_3.out⟩, ⟨by repeat (first | (with_reducible first | exact HB.out | apply below_alloc | apply pw_below_drewN | apply below_drew1) | exact HB.out)⟩⟩
      · rw [if_neg c2] at H
        have c2b0 : decide (x5_1 < 64) = false := decide_eq_false c2
        clear c2
        obtain rfl := Option.some.inj H
        go_wp2
        go_ret
        exact ⟨_, by first | rfl | (simp [errW_none, errW_some] <;> rfl) | (simp [*, errW_none, errW_some] <;> rfl), by (with_reducible repeat (first | apply Kd.R_alloc | apply Kd.R_drewN | apply Kd.R_drew)); exact HO_3.out, by repeat (first | (with_reducible first | exact HB.out | apply below_alloc | apply pw_below_drewN | apply below_drew1) | exact HB.out)⟩
end Go.Proofs.Ytemhalnhbgkbcaa.V
end

-- VFVirgateref14List
section
-- PRINTED by print.py (a twelfth state) out of the translation. Not trusted: Lean checks it.
namespace Go.Proofs.Ytemhalnhbgkbcaa.V
open Go.RowKit Go.Proofs.YtemhalnhbgkbcaaW.PrintWords Go.Proofs.YtemhalnhbgkbcaaW.PrintLast Go.Proofs.YtemhalnhbgkbcaaW.PrintMore
attribute [local go_sem] max2_int min2_int max_two min_two max_three min_three max_four min_four   -- for this text's walks alone
set_option linter.unusedVariables false
set_option linter.unusedSimpArgs false

/-! ### virgateref14_List: function 19 -/
def virgateref14_List.l0 : Nat → Int → List Int → Int → Option (List Int)
  | 0, _, _, _ => none
  | k + 1, x0, x3, x4 => if x4 < 64 then (if (Int.tmod x0 2) = 1 then (if x3.length < 17592186044416 then (virgateref14_List.l0 k (IntKind.u64.wrap (Int.tdiv x0 2)) (x3 ++ [x4]) (wrap64 (x4 + 1))) else (none)) else (virgateref14_List.l0 k (IntKind.u64.wrap (Int.tdiv x0 2)) x3 (wrap64 (x4 + 1)))) else (some x3)
def virgateref14_List.f (k : Nat) (a0 : Int) : Option (List Int) := virgateref14_List.l0 k a0 ([] : List Int) 0
theorem virgateref14_List.mono_l : ∀ k, (∀ y0 y1 y2, LeO (virgateref14_List.l0 k y0 y1 y2) (virgateref14_List.l0 (k + 1) y0 y1 y2))
  | 0 => fun _ _ _ r h => by simp [virgateref14_List.l0] at h
  | k + 1 => by
    have ih0 := virgateref14_List.mono_l k
    · intro y0 y1 y2
      unfold virgateref14_List.l0
      repeat' first
      | (with_reducible exact ih0 _ _ _)
      | (with_reducible exact LeO.refl _)
      | (with_reducible exact LeO.none _)
      | (with_reducible refine LeO.ite ?_ ?_)
      | (with_reducible refine LeO.bind ?_ (fun _ => ?_))
      | exact ih0 _ _ _
      | exact LeO.none _
      | refine LeO.ite ?_ ?_
      | refine LeO.bind ?_ (fun _ => ?_)
theorem virgateref14_List.mono : ∀ a0 k, LeO (virgateref14_List.f k a0) (virgateref14_List.f (k + 1) a0) := by
  intro a0 k
  have ih0 := virgateref14_List.mono_l k
  unfold virgateref14_List.f
  repeat' first
      | (with_reducible exact ih0 _ _ _)
      | (with_reducible exact LeO.refl _)
      | (with_reducible exact LeO.none _)
      | (with_reducible refine LeO.ite ?_ ?_)
      | (with_reducible refine LeO.bind ?_ (fun _ => ?_))
      | exact ih0 _ _ _
      | exact LeO.none _
      | refine LeO.ite ?_ ?_
      | refine LeO.bind ?_ (fun _ => ?_)
set_option maxHeartbeats 8000000 in
set_option maxRecDepth 100000 in
theorem virgateref14_List.calls (k : Nat) (a0 : Int) (r : List Int) (w : World) (h : virgateref14_List.f k a0 = some r) :
    Calls Try.prog 19 #[.int .u64 a0] w fun e w' => ∃ v0_ : Value, e = .returned (v0_) ∧ Kd.R (Kd.int .i64) 3 w' w.heap.size (fun _ => True) v0_ r ∧ Below w.heap.size w w' := by
  have HB := Aside0.mk (Below.refl w.heap.size w)
  have H : (virgateref14_List.l0 k a0 ([] : List Int) 0) = some r := h
  clear h
  have H' := Aside0.mk H
  clear H
  go_enter Try.func19, Try.ntmps19
  go_wp2
  go_loopg [0, 3, 4] k (fun kq v0 v3 v4 w' => ∃ (x0_1 : Int) (x3_1 : List Int) (x4_1 : Int), v0 = .int .u64 x0_1 ∧ v4 = .int .i64 x4_1 ∧ Aside0 (virgateref14_List.l0 kq x0_1 x3_1 x4_1 = some r) ∧ Aside0 (kq ≤ k) ∧ Aside0 (Kd.R (Kd.int .i64) 3 w' w.heap.size (fun _ => True) v3 x3_1) ∧ Aside0 (Below w.heap.size w w'))
  case atStart => exact ⟨(a0), (([] : List Int)), (0), (by first | rfl | (simp; done) | (simp [*]; done)), (by first | rfl | (simp; done) | (simp [*]; done)), H', ⟨Nat.le_refl _⟩, ⟨by first | exact Kd.R_nil _ _ _ _ _ | exact Kd.N_nil _ _ _ _ _ | exact Kd.V_nil _ _ _ _ _ | exact Kd.Q_nil _ _ _ _ _ | exact Kd.S_nil _ _ _ _ _⟩, ⟨by repeat (first | (with_reducible first | exact HB.out | apply below_alloc | apply pw_below_drewN | apply below_drew1) | exact HB.out)⟩⟩
  case round =>
    clear H'
    try clear c1
    obtain ⟨x0_1, x3_1, x4_1, rfl, rfl, HA, HK1, HO_3, HB⟩ := hrel
    cases gk with
    | zero => exact absurd HA.out (by simp [virgateref14_List.l0])
    | succ k1 =>
      have H := HA.out
      clear HA
      simp only [virgateref14_List.l0] at H
      by_cases c2 : x4_1 < 64
      · rw [if_pos c2] at H
        have c2b0 : decide (x4_1 < 64) = true := decide_eq_true c2
        clear c2
        by_cases c3 : (Int.tmod x0_1 2) = 1
        · rw [if_pos c3] at H
          have c3b0 : ((Int.tmod x0_1 2) == 1) = true := beq_iff_eq.mpr c3
          have c3b1 : ((Int.tmod x0_1 2) != 1) = false := bne_eq_false_iff_eq.mpr c3
          clear c3
          by_cases c4 : x3_1.length < 17592186044416
          · rw [if_pos c4] at H
            have LMc4 := Aside0.mk c4
            clear c4
            obtain ⟨y19101, hy19101⟩ : ∃ y_ : List Int, y_ = (x3_1 ++ [x4_1]) := ⟨_, rfl⟩
            replace H : (virgateref14_List.l0 k1 (IntKind.u64.wrap (Int.tdiv x0_1 2)) y19101 (wrap64 (x4_1 + 1))) = some r := by first | (rw [hy19101]; with_reducible exact H) | (have H2_ := (Option.bind_some _ _).symm.trans H; rw [hy19101]; with_reducible exact H2_) | (have H2_ := (Option.bind_some _ _).symm.trans H; with_reducible exact H2_) | with_reducible exact H | (rw [hy19101]; exact H) | exact H
            have Ny19101 := Aside0.mk hy19101
            clear hy19101
            have H' := Aside0.mk H
            clear H
            go_wp2_with (first | ((with_reducible refine gate_builtin (b := .append) (xs := #[.tmp 12, .tmp 14]) rfl ?_); at_builtin; refine Kd.R_append (Kd.int .i64) (w0 := w) w.heap.size rfl (.tmp 12) (.tmp 14) 31 3 (.int .i64 0) 8 rfl Try.underlying31 info3 rfl (by decide) (by omega) u3 x3_1 x4_1 [.int .i64 x4_1] (fun _ => True) (fun _ => False) rfl rfl ?aP (fun _ hk => hk.elim) ?aF ?aO ?aB ?aS ?aL ?_; (case aP => exact rfl); (case aB => exact (by repeat (first | (with_reducible first | exact HB.out | apply below_alloc | apply pw_below_drewN | apply below_drew1) | exact HB.out))); (case aF => exact (fun _ _ => trivial)); (case aO => exact (by (with_reducible repeat (first | apply Kd.R_alloc | apply Kd.R_drewN | apply Kd.R_drew)); exact HO_3.out)); (case aS => exact (below_size (by repeat (first | (with_reducible first | exact HB.out | apply below_alloc | apply pw_below_drewN | apply below_drew1) | exact HB.out)))); (case aL => have := LMc4.out; omega); intro v19102 w5 ho hb hg hat; rw [← Ny19101.out] at ho; have n0_ := Aside0.mk (hb); have n1_ := Aside0.mk (ho); clear HB; clear HO_3; have HB := n0_; have HO19103 := n1_; clear n0_ n1_; clear ho hb hg hat))
            go_roundg k1
            case measure => have := HK1.out; omega
            case rel => exact ⟨(IntKind.u64.wrap (Int.tdiv x0_1 2)), (y19101), (wrap64 (x4_1 + 1)), (by first | rfl | (simp; done) | (simp [*]; done)), (by first | rfl | (simp; done) | (simp [*]; done)), H', ⟨by have := HK1.out; omega⟩, ⟨by (with_reducible repeat (first | apply Kd.R_alloc | apply Kd.R_drewN | apply Kd.R_drew)); exact HO19103.out⟩, ⟨by repeat (first | (with_reducible first | exact HB.out | apply below_alloc | apply pw_below_drewN | apply below_drew1) | exact HB.out)⟩⟩
          · rw [if_neg c4] at H
            exact absurd H (by simp)
        · rw [if_neg c3] at H
          have c3b0 : ((Int.tmod x0_1 2) == 1) = false := beq_eq_false_iff_ne.mpr c3
          have c3b1 : ((Int.tmod x0_1 2) != 1) = true := bne_iff_ne.mpr c3
          have H' := Aside0.mk H
          clear H
          go_wp2
          go_roundg k1
          case measure => have := HK1.out; omega
          case rel => exact ⟨(IntKind.u64.wrap (Int.tdiv x0_1 2)), (x3_1), (wrap64 (x4_1 + 1)), (by first | rfl | (simp; done) | (simp [*]; done)), (by first | rfl | (simp; done) | (simp [*]; done)), H', ⟨by have := HK1.out; omega⟩, ⟨by (with_reducible repeat (first | apply Kd.R_alloc | apply Kd.R_drewN | apply Kd.R_drew)); exact HO_3.out⟩, ⟨by repeat (first | (with_reducible first | exact HB.out | apply below_alloc | apply pw_below_drewN | apply below_drew1) | exact HB.out)⟩⟩
      · rw [if_neg c2] at H
        have c2b0 : decide (x4_1 < 64) = false := decide_eq_false c2
        clear c2
        obtain rfl := Option.some.inj H
        go_wp2
        go_ret
        exact ⟨_, by first | rfl | (simp [errW_none, errW_some] <;> rfl) | (simp [*, errW_none, errW_some] <;> rfl), by (with_reducible repeat (first | apply Kd.R_alloc | apply Kd.R_drewN | apply Kd.R_drew)); exact HO_3.out, by repeat (first | (with_reducible first | exact HB.out | apply below_alloc | apply pw_below_drewN | apply below_drew1) | exact HB.out)⟩
end Go.Proofs.Ytemhalnhbgkbcaa.V
end

-- HBits
section
/- The printed functions of bits and of its reference, as plain functions of numbers: contracts without rounds. -/
namespace Go.Proofs.Ytemhalnhbgkbcaa.V
open Go.RowKit Go.Proofs.YtemhalnhbgkbcaaW.PrintWords Go.Proofs.YtemhalnhbgkbcaaW.PrintLast Go.Proofs.YtemhalnhbgkbcaaW.PrintMore

def slotB (i : Int) : Bool := decide (0 ≤ i) && decide (i < 64)
def hasB (s : Nat) (i : Int) : Bool := slotB i && s.testBit i.toNat
theorem slot_f (i : Int) : bits_slot.f i = some (slotB i) := by
  unfold bits_slot.f slotB
  by_cases h : 0 ≤ i
  · rw [if_pos h]; simp [h]
  · rw [if_neg (by omega)]; simp [h]
theorem slotB_true {i : Int} (h : slotB i = true) : 0 ≤ i ∧ i < 64 := by simpa [slotB] using h
theorem slotB_of (i : Nat) (h : i < 64) : slotB (i : Int) = true := by simp [slotB]; omega
theorem and_one (a : Nat) (ha : a < 18446744073709551616) : Go.bits .and .u64 (a : Int) 1 = ((a % 2 : Nat) : Int) := by
  have := u64_and_nat a 1 ha (by decide)
  rw [nat_mask1] at this
  exact this
theorem testBit_eq_mod (a i : Nat) : a.testBit i = decide (a / 2 ^ i % 2 = 1) := by
  rw [Nat.testBit_eq_decide_div_mod_eq]
theorem one_test (q : Nat) : (((q % 2 : Nat) : Int) == 1) = decide (q % 2 = 1) := by
  rw [Bool.eq_iff_iff]
  simp
  omega
theorem has_f (s : Nat) (hs : s < 18446744073709551616) (i : Int) : bits_Set_Has.f (s : Int) i = some (hasB s i) := by
  unfold bits_Set_Has.f hasB
  rw [slot_f, Option.bind_some]
  by_cases h : slotB i = true
  · obtain ⟨h0, h1⟩ := slotB_true h
    obtain ⟨n, rfl⟩ := Int.eq_ofNat_of_zero_le h0
    rw [if_pos h, if_pos h0, h]
    have e : shr .u64 (s : Int) (n : Int) = ((s / 2 ^ n : Nat) : Int) := by
      unfold shr
      rw [Nat.min_eq_left (by show (n : Int).toNat ≤ 64; omega)]
      simp
    rw [e, and_one _ (Nat.lt_of_le_of_lt (Nat.div_le_self _ _) hs), Bool.true_and, Int.toNat_natCast, testBit_eq_mod]
    rw [one_test]
  · have h' : slotB i = false := by simpa using h
    rw [if_neg h, h']
    rfl
theorem has_any (s : Nat) (hs : s < 18446744073709551616) (i : Int) (w : World) : Calls Try.prog 20 #[.int .u64 (s : Int), .int .i64 i] w fun e w' => e = .returned (.bool (hasB s i)) ∧ Drawn0 w w' :=
  bits_Set_Has.calls _ _ _ w (has_f s hs i)
def withN (s : Nat) (i : Int) : Nat := if slotB i then s ||| 2 ^ i.toNat else s
theorem shl_one (n : Nat) (h : n < 64) : shl .u64 1 (n : Int) = ((2 ^ n : Nat) : Int) := by
  unfold shl
  rw [Nat.min_eq_left (by show (n : Int).toNat ≤ 64; omega), Int.one_mul, Int.toNat_natCast]
  have := wrap_u64_nat (2 ^ n) (two_pow_lt64 n h)
  simpa using this
theorem with_f (s : Nat) (hs : s < 18446744073709551616) (i : Int) : bits_Set_With.f (s : Int) i = some ((withN s i : Nat) : Int) := by
  unfold bits_Set_With.f withN
  rw [slot_f, Option.bind_some]
  by_cases h : slotB i = true
  · obtain ⟨h0, h1⟩ := slotB_true h
    obtain ⟨n, rfl⟩ := Int.eq_ofNat_of_zero_le h0
    rw [if_pos h, if_pos h]
    unfold bits_one.f
    rw [if_pos h0, Option.bind_some, shl_one n (by omega), u64_or_nat _ _ hs (two_pow_lt64 n (by omega)), Int.toNat_natCast]
  · rw [if_neg h, if_neg h]
theorem withN_lt (s : Nat) (hs : s < 18446744073709551616) (i : Int) : withN s i < 18446744073709551616 := by
  unfold withN
  split
  · rename_i h
    obtain ⟨h0, h1⟩ := slotB_true h
    exact Nat.or_lt_two_pow (n := 64) hs (two_pow_lt64 _ (by omega))
  · exact hs
theorem with_any (s : Nat) (hs : s < 18446744073709551616) (i : Int) (w : World) : Calls Try.prog 21 #[.int .u64 (s : Int), .int .i64 i] w fun e w' => e = .returned (.int .u64 ((withN s i : Nat) : Int)) ∧ Drawn0 w w' :=
  bits_Set_With.calls _ _ _ w (with_f s hs i)
theorem withN_testBit (s : Nat) (i : Int) (j : Nat) (hj : j < 64) : (withN s i).testBit j = (s.testBit j || decide (i = (j : Int))) := by
  unfold withN
  by_cases h : slotB i = true
  · obtain ⟨h0, h1⟩ := slotB_true h
    rw [if_pos h, Nat.testBit_or, Nat.testBit_two_pow]
    congr 1
    rw [decide_eq_decide]
    omega
  · rw [if_neg h]
    have : ¬ i = (j : Int) := by
      rintro rfl
      exact h (slotB_of j hj)
    simp [this]
/-- The numbers of a set, rising, below n. -/
def listN (s : Nat) (n : Nat) : List Int := ((List.range n).filter s.testBit).map (fun i : Nat => (i : Int))
def listOf (s : Nat) : List Int := listN s 64
theorem listN_succ (s n : Nat) : listN s (n + 1) = if s.testBit n then listN s n ++ [(n : Int)] else listN s n := by
  unfold listN
  rw [List.range_succ, List.filter_append, List.map_append]
  by_cases h : s.testBit n = true
  · simp [h]
  · simp [h]
theorem listN_length (s n : Nat) : (listN s n).length ≤ n := by
  unfold listN
  rw [List.length_map]
  exact Nat.le_trans (List.length_filter_le _ _) (by simp)
theorem mem_listN (s n i : Nat) : (i : Int) ∈ listN s n ↔ i < n ∧ s.testBit i = true := by
  unfold listN
  simp only [List.mem_map, List.mem_filter, List.mem_range]
  constructor
  · rintro ⟨j, ⟨h1, h2⟩, h3⟩
    have : j = i := by omega
    subst this
    exact ⟨h1, h2⟩
  · rintro ⟨h1, h2⟩
    exact ⟨i, ⟨h1, h2⟩, rfl⟩
theorem mem_listN_nat (s n : Nat) (x : Int) (h : x ∈ listN s n) : ∃ i : Nat, x = (i : Int) ∧ i < n ∧ s.testBit i = true := by
  unfold listN at h
  simp only [List.mem_map, List.mem_filter, List.mem_range] at h
  obtain ⟨j, ⟨h1, h2⟩, h3⟩ := h
  exact ⟨j, h3.symm, h1, h2⟩
/-- Of: one by one. -/
def ofN (l : List Int) : Nat := l.foldl withN 0
theorem foldl_withN_lt (l : List Int) : ∀ s, s < 18446744073709551616 → l.foldl withN s < 18446744073709551616 := by
  induction l with
  | nil => exact fun s h => h
  | cons x l ih => exact fun s h => ih _ (withN_lt s h x)
theorem ofN_lt (l : List Int) : ofN l < 18446744073709551616 := foldl_withN_lt l 0 (by decide)
theorem foldl_withN_testBit (l : List Int) (j : Nat) (hj : j < 64) : ∀ s, (l.foldl withN s).testBit j = (s.testBit j || decide ((j : Int) ∈ l)) := by
  induction l with
  | nil => simp
  | cons x l ih =>
    intro s
    rw [List.foldl_cons, ih, withN_testBit s x j hj, Bool.or_assoc]
    congr 1
    rw [Bool.eq_iff_iff]
    simp only [Bool.or_eq_true, decide_eq_true_eq, List.mem_cons]
    exact or_congr eq_comm Iff.rfl
theorem ofN_testBit (l : List Int) (j : Nat) (hj : j < 64) : (ofN l).testBit j = decide ((j : Int) ∈ l) := by
  unfold ofN; rw [foldl_withN_testBit l j hj]; simp
end Go.Proofs.Ytemhalnhbgkbcaa.V
end

-- VFBitsSetLow
section
-- PRINTED by print.py (a twelfth state) out of the translation. Not trusted: Lean checks it.
namespace Go.Proofs.Ytemhalnhbgkbcaa.V
open Go.RowKit Go.Proofs.YtemhalnhbgkbcaaW.PrintWords Go.Proofs.YtemhalnhbgkbcaaW.PrintLast Go.Proofs.YtemhalnhbgkbcaaW.PrintMore
attribute [local go_sem] max2_int min2_int max_two min_two max_three min_three max_four min_four   -- for this text's walks alone
set_option linter.unusedVariables false
set_option linter.unusedSimpArgs false

/-! ### bits_Set_Low: function 29 -/
def bits_Set_Low.l0 : Nat → Int → Int → Option (Int × Bool)
  | 0, _, _ => none
  | k + 1, x0, x4 => if (Go.bits .and .u64 x0 1) = 0 then (bits_Set_Low.l0 k (x0 / 2) (wrap64 (x4 + 1))) else (some (x4, true))
def bits_Set_Low.f (k : Nat) (a0 : Int) : Option (Int × Bool) := if a0 = 0 then (some (0, false)) else (bits_Set_Low.l0 k a0 0)
theorem bits_Set_Low.mono_l : ∀ k, (∀ y0 y1, LeO (bits_Set_Low.l0 k y0 y1) (bits_Set_Low.l0 (k + 1) y0 y1))
  | 0 => fun _ _ r h => by simp [bits_Set_Low.l0] at h
  | k + 1 => by
    have ih0 := bits_Set_Low.mono_l k
    · intro y0 y1
      unfold bits_Set_Low.l0
      repeat' first
      | (with_reducible exact ih0 _ _)
      | (with_reducible exact LeO.refl _)
      | (with_reducible exact LeO.none _)
      | (with_reducible refine LeO.ite ?_ ?_)
      | (with_reducible refine LeO.bind ?_ (fun _ => ?_))
      | exact ih0 _ _
      | exact LeO.none _
      | refine LeO.ite ?_ ?_
      | refine LeO.bind ?_ (fun _ => ?_)
theorem bits_Set_Low.mono : ∀ a0 k, LeO (bits_Set_Low.f k a0) (bits_Set_Low.f (k + 1) a0) := by
  intro a0 k
  have ih0 := bits_Set_Low.mono_l k
  unfold bits_Set_Low.f
  repeat' first
      | (with_reducible exact ih0 _ _)
      | (with_reducible exact LeO.refl _)
      | (with_reducible exact LeO.none _)
      | (with_reducible refine LeO.ite ?_ ?_)
      | (with_reducible refine LeO.bind ?_ (fun _ => ?_))
      | exact ih0 _ _
      | exact LeO.none _
      | refine LeO.ite ?_ ?_
      | refine LeO.bind ?_ (fun _ => ?_)
set_option maxHeartbeats 8000000 in
set_option maxRecDepth 100000 in
theorem bits_Set_Low.calls (k : Nat) (a0 : Int) (r1 : Int) (r2 : Bool) (w : World) (h : bits_Set_Low.f k a0 = some (r1, r2)) :
    Calls Try.prog 29 #[.int .u64 a0] w fun e w' => e = .returned (.tuple #[.int .i64 r1, .bool r2]) ∧ Drawn0 w w' := by
  have H : (if a0 = 0 then (some (0, false)) else (bits_Set_Low.l0 k a0 0)) = some (r1, r2) := h
  clear h
  by_cases c2 : a0 = 0
  · rw [if_pos c2] at H
    have c2b0 : (a0 == 0) = true := beq_iff_eq.mpr c2
    have c2b1 : (a0 != 0) = false := bne_eq_false_iff_eq.mpr c2
    clear c2
    simp only [Option.some.injEq, Prod.mk.injEq] at H
    obtain ⟨rfl, rfl⟩ := H
    go_enter Try.func29, Try.ntmps29
    go_wp2
    go_ret2
    exact ⟨by first | rfl | (simp; done) | (simp [*]; done), by repeat (first | exact Drawn0.refl _ | apply Drawn0.step)⟩
  · rw [if_neg c2] at H
    have c2b0 : (a0 == 0) = false := beq_eq_false_iff_ne.mpr c2
    have c2b1 : (a0 != 0) = true := bne_iff_ne.mpr c2
    have H' := Aside0.mk H
    clear H
    go_enter Try.func29, Try.ntmps29
    go_wp2
    go_loopg [0, 4] k (fun kq v0 v4 w' => ∃ (x0_1 : Int) (x4_1 : Int), v0 = .int .u64 x0_1 ∧ v4 = .int .i64 x4_1 ∧ Aside0 (bits_Set_Low.l0 kq x0_1 x4_1 = some (r1, r2)) ∧ Aside0 (kq ≤ k) ∧ Drawn0 w w')
    case atStart => exact ⟨(a0), (0), (by first | rfl | (simp; done) | (simp [*]; done)), (by first | rfl | (simp; done) | (simp [*]; done)), H', ⟨Nat.le_refl _⟩, by repeat (first | exact Drawn0.refl _ | apply Drawn0.step)⟩
    case round =>
      clear H'
      try clear c2
      try clear c2b0
      try clear c2b1
      try clear p2
      obtain ⟨x0_1, x4_1, rfl, rfl, HA, HK1, ⟨m1, rfl⟩⟩ := hrel
      cases gk with
      | zero => exact absurd HA.out (by simp [bits_Set_Low.l0])
      | succ k1 =>
        have H := HA.out
        clear HA
        simp only [bits_Set_Low.l0] at H
        by_cases c3 : (Go.bits .and .u64 x0_1 1) = 0
        · rw [if_pos c3] at H
          have c3b0 : ((Go.bits .and .u64 x0_1 1) == 0) = true := beq_iff_eq.mpr c3
          have c3b1 : ((Go.bits .and .u64 x0_1 1) != 0) = false := bne_eq_false_iff_eq.mpr c3
          clear c3
          have H' := Aside0.mk H
          clear H
          go_wp2
          go_roundg k1
          case measure => have := HK1.out; omega
          case rel => exact ⟨(x0_1 / 2), (wrap64 (x4_1 + 1)), (by first | rfl | (simp; done) | (simp [*]; done)), (by first | rfl | (simp; done) | (simp [*]; done)), H', ⟨by have := HK1.out; omega⟩, by repeat (first | exact Drawn0.refl _ | apply Drawn0.step)⟩
        · rw [if_neg c3] at H
          have c3b0 : ((Go.bits .and .u64 x0_1 1) == 0) = false := beq_eq_false_iff_ne.mpr c3
          have c3b1 : ((Go.bits .and .u64 x0_1 1) != 0) = true := bne_iff_ne.mpr c3
          simp only [Option.some.injEq, Prod.mk.injEq] at H
          obtain ⟨rfl, rfl⟩ := H
          go_wp2
          go_ret2
          exact ⟨by first | rfl | (simp; done) | (simp [*]; done), by repeat (first | exact Drawn0.refl _ | apply Drawn0.step)⟩
end Go.Proofs.Ytemhalnhbgkbcaa.V
end

-- VFBitsSetHigh
section
-- PRINTED by print.py (a twelfth state) out of the translation. Not trusted: Lean checks it.
namespace Go.Proofs.Ytemhalnhbgkbcaa.V
open Go.RowKit Go.Proofs.YtemhalnhbgkbcaaW.PrintWords Go.Proofs.YtemhalnhbgkbcaaW.PrintLast Go.Proofs.YtemhalnhbgkbcaaW.PrintMore
attribute [local go_sem] max2_int min2_int max_two min_two max_three min_three max_four min_four   -- for this text's walks alone
set_option linter.unusedVariables false
set_option linter.unusedSimpArgs false

/-! ### bits_Set_High: function 30 -/
def bits_Set_High.l0 : Nat → Int → Int → Option (Int × Bool)
  | 0, _, _ => none
  | k + 1, x0, x4 => if x0 = 0 then (some (x4, true)) else (bits_Set_High.l0 k (x0 / 2) (wrap64 (x4 + 1)))
def bits_Set_High.f (k : Nat) (a0 : Int) : Option (Int × Bool) := if a0 = 0 then (some (0, false)) else (bits_Set_High.l0 k a0 (-1))
theorem bits_Set_High.mono_l : ∀ k, (∀ y0 y1, LeO (bits_Set_High.l0 k y0 y1) (bits_Set_High.l0 (k + 1) y0 y1))
  | 0 => fun _ _ r h => by simp [bits_Set_High.l0] at h
  | k + 1 => by
    have ih0 := bits_Set_High.mono_l k
    · intro y0 y1
      unfold bits_Set_High.l0
      repeat' first
      | (with_reducible exact ih0 _ _)
      | (with_reducible exact LeO.refl _)
      | (with_reducible exact LeO.none _)
      | (with_reducible refine LeO.ite ?_ ?_)
      | (with_reducible refine LeO.bind ?_ (fun _ => ?_))
      | exact ih0 _ _
      | exact LeO.none _
      | refine LeO.ite ?_ ?_
      | refine LeO.bind ?_ (fun _ => ?_)
theorem bits_Set_High.mono : ∀ a0 k, LeO (bits_Set_High.f k a0) (bits_Set_High.f (k + 1) a0) := by
  intro a0 k
  have ih0 := bits_Set_High.mono_l k
  unfold bits_Set_High.f
  repeat' first
      | (with_reducible exact ih0 _ _)
      | (with_reducible exact LeO.refl _)
      | (with_reducible exact LeO.none _)
      | (with_reducible refine LeO.ite ?_ ?_)
      | (with_reducible refine LeO.bind ?_ (fun _ => ?_))
      | exact ih0 _ _
      | exact LeO.none _
      | refine LeO.ite ?_ ?_
      | refine LeO.bind ?_ (fun _ => ?_)
set_option maxHeartbeats 8000000 in
set_option maxRecDepth 100000 in
theorem bits_Set_High.calls (k : Nat) (a0 : Int) (r1 : Int) (r2 : Bool) (w : World) (h : bits_Set_High.f k a0 = some (r1, r2)) :
    Calls Try.prog 30 #[.int .u64 a0] w fun e w' => e = .returned (.tuple #[.int .i64 r1, .bool r2]) ∧ Drawn0 w w' := by
  have H : (if a0 = 0 then (some (0, false)) else (bits_Set_High.l0 k a0 (-1))) = some (r1, r2) := h
  clear h
  by_cases c2 : a0 = 0
  · rw [if_pos c2] at H
    have c2b0 : (a0 == 0) = true := beq_iff_eq.mpr c2
    have c2b1 : (a0 != 0) = false := bne_eq_false_iff_eq.mpr c2
    clear c2
    simp only [Option.some.injEq, Prod.mk.injEq] at H
    obtain ⟨rfl, rfl⟩ := H
    go_enter Try.func30, Try.ntmps30
    go_wp2
    go_ret2
    exact ⟨by first | rfl | (simp; done) | (simp [*]; done), by repeat (first | exact Drawn0.refl _ | apply Drawn0.step)⟩
  · rw [if_neg c2] at H
    have c2b0 : (a0 == 0) = false := beq_eq_false_iff_ne.mpr c2
    have c2b1 : (a0 != 0) = true := bne_iff_ne.mpr c2
    have H' := Aside0.mk H
    clear H
    go_enter Try.func30, Try.ntmps30
    go_wp2
    go_loopg [0, 4] k (fun kq v0 v4 w' => ∃ (x0_1 : Int) (x4_1 : Int), v0 = .int .u64 x0_1 ∧ v4 = .int .i64 x4_1 ∧ Aside0 (bits_Set_High.l0 kq x0_1 x4_1 = some (r1, r2)) ∧ Aside0 (kq ≤ k) ∧ Drawn0 w w')
    case atStart => exact ⟨(a0), ((-1)), (by first | rfl | (simp; done) | (simp [*]; done)), (by first | rfl | (simp; done) | (simp [*]; done)), H', ⟨Nat.le_refl _⟩, by repeat (first | exact Drawn0.refl _ | apply Drawn0.step)⟩
    case round =>
      clear H'
      try clear c2
      try clear c2b0
      try clear c2b1
      try clear p2
      obtain ⟨x0_1, x4_1, rfl, rfl, HA, HK1, ⟨m1, rfl⟩⟩ := hrel
      cases gk with
      | zero => exact absurd HA.out (by simp [bits_Set_High.l0])
      | succ k1 =>
        have H := HA.out
        clear HA
        simp only [bits_Set_High.l0] at H
        by_cases c3 : x0_1 = 0
        · rw [if_pos c3] at H
          have c3b0 : (x0_1 == 0) = true := beq_iff_eq.mpr c3
          have c3b1 : (x0_1 != 0) = false := bne_eq_false_iff_eq.mpr c3
          clear c3
          simp only [Option.some.injEq, Prod.mk.injEq] at H
          obtain ⟨rfl, rfl⟩ := H
          go_wp2
          go_ret2
          exact ⟨by first | rfl | (simp; done) | (simp [*]; done), by repeat (first | exact Drawn0.refl _ | apply Drawn0.step)⟩
        · rw [if_neg c3] at H
          have c3b0 : (x0_1 == 0) = false := beq_eq_false_iff_ne.mpr c3
          have c3b1 : (x0_1 != 0) = true := bne_iff_ne.mpr c3
          have H' := Aside0.mk H
          clear H
          go_wp2
          go_roundg k1
          case measure => have := HK1.out; omega
          case rel => exact ⟨(x0_1 / 2), (wrap64 (x4_1 + 1)), (by first | rfl | (simp; done) | (simp [*]; done)), (by first | rfl | (simp; done) | (simp [*]; done)), H', ⟨by have := HK1.out; omega⟩, by repeat (first | exact Drawn0.refl _ | apply Drawn0.step)⟩
end Go.Proofs.Ytemhalnhbgkbcaa.V
end

-- VFBitsSetNth
section
-- PRINTED by print.py (a twelfth state) out of the translation. Not trusted: Lean checks it.
namespace Go.Proofs.Ytemhalnhbgkbcaa.V
open Go.RowKit Go.Proofs.YtemhalnhbgkbcaaW.PrintWords Go.Proofs.YtemhalnhbgkbcaaW.PrintLast Go.Proofs.YtemhalnhbgkbcaaW.PrintMore
attribute [local go_sem] max2_int min2_int max_two min_two max_three min_three max_four min_four   -- for this text's walks alone
set_option linter.unusedVariables false
set_option linter.unusedSimpArgs false

/-! ### bits_Set_Nth: function 31 -/
mutual
def bits_Set_Nth.j0 : Nat → Int → Int → Bool → Option (Int × Bool)
  | 0, _, _, _ => none
  | k + 1, x0, x1, x13 => if x13 = true then (some (0, false)) else (bits_Set_Nth.l0 k x0 x1)
def bits_Set_Nth.l0 : Nat → Int → Int → Option (Int × Bool)
  | 0, _, _ => none
  | k + 1, x0, x1 => if x1 > 0 then (bits_Set_Nth.l0 k (Go.bits .and .u64 x0 (IntKind.u64.wrap (x0 - 1))) (wrap64 (x1 - 1))) else ((bits_Set_Low.f k x0).bind fun bt31102 => (some (bt31102.1, bt31102.2)))
end
def bits_Set_Nth.f (k : Nat) (a0 : Int) (a1 : Int) : Option (Int × Bool) := if a1 < 0 then (bits_Set_Nth.j0 k a0 a1 true) else ((bits_Set_Len.f k a0).bind fun t31101 => (bits_Set_Nth.j0 k a0 a1 (decide (a1 ≥ t31101))))
theorem bits_Set_Nth.mono_l : ∀ k, (∀ y0 y1 y2, LeO (bits_Set_Nth.j0 k y0 y1 y2) (bits_Set_Nth.j0 (k + 1) y0 y1 y2)) ∧ (∀ y0 y1, LeO (bits_Set_Nth.l0 k y0 y1) (bits_Set_Nth.l0 (k + 1) y0 y1))
  | 0 => ⟨fun _ _ _ r h => by simp [bits_Set_Nth.j0] at h, fun _ _ r h => by simp [bits_Set_Nth.l0] at h⟩
  | k + 1 => by
    obtain ⟨ih0, ih1⟩ := bits_Set_Nth.mono_l k
    refine ⟨?_, ?_⟩
    · intro y0 y1 y2
      unfold bits_Set_Nth.j0
      repeat' first
      | (with_reducible exact ih0 _ _ _)
      | (with_reducible exact ih1 _ _)
      | (with_reducible exact bits_Set_Len.mono _ _)
      | (with_reducible exact bits_Set_Low.mono _ _)
      | (with_reducible exact LeO.refl _)
      | (with_reducible exact LeO.none _)
      | (with_reducible refine LeO.ite ?_ ?_)
      | (with_reducible refine LeO.bind ?_ (fun _ => ?_))
      | exact ih0 _ _ _
      | exact ih1 _ _
      | exact bits_Set_Len.mono _ _
      | exact bits_Set_Low.mono _ _
      | exact LeO.none _
      | refine LeO.ite ?_ ?_
      | refine LeO.bind ?_ (fun _ => ?_)
    · intro y0 y1
      unfold bits_Set_Nth.l0
      repeat' first
      | (with_reducible exact ih0 _ _ _)
      | (with_reducible exact ih1 _ _)
      | (with_reducible exact bits_Set_Len.mono _ _)
      | (with_reducible exact bits_Set_Low.mono _ _)
      | (with_reducible exact LeO.refl _)
      | (with_reducible exact LeO.none _)
      | (with_reducible refine LeO.ite ?_ ?_)
      | (with_reducible refine LeO.bind ?_ (fun _ => ?_))
      | exact ih0 _ _ _
      | exact ih1 _ _
      | exact bits_Set_Len.mono _ _
      | exact bits_Set_Low.mono _ _
      | exact LeO.none _
      | refine LeO.ite ?_ ?_
      | refine LeO.bind ?_ (fun _ => ?_)
theorem bits_Set_Nth.mono : ∀ a0 a1 k, LeO (bits_Set_Nth.f k a0 a1) (bits_Set_Nth.f (k + 1) a0 a1) := by
  intro a0 a1 k
  obtain ⟨ih0, ih1⟩ := bits_Set_Nth.mono_l k
  unfold bits_Set_Nth.f
  repeat' first
      | (with_reducible exact ih0 _ _ _)
      | (with_reducible exact ih1 _ _)
      | (with_reducible exact bits_Set_Len.mono _ _)
      | (with_reducible exact bits_Set_Low.mono _ _)
      | (with_reducible exact LeO.refl _)
      | (with_reducible exact LeO.none _)
      | (with_reducible refine LeO.ite ?_ ?_)
      | (with_reducible refine LeO.bind ?_ (fun _ => ?_))
      | exact ih0 _ _ _
      | exact ih1 _ _
      | exact bits_Set_Len.mono _ _
      | exact bits_Set_Low.mono _ _
      | exact LeO.none _
      | refine LeO.ite ?_ ?_
      | refine LeO.bind ?_ (fun _ => ?_)
set_option maxHeartbeats 8000000 in
set_option maxRecDepth 100000 in
theorem bits_Set_Nth.calls (k : Nat) (a0 : Int) (a1 : Int) (r1 : Int) (r2 : Bool) (w : World) (h : bits_Set_Nth.f k a0 a1 = some (r1, r2)) :
    Calls Try.prog 31 #[.int .u64 a0, .int .i64 a1] w fun e w' => e = .returned (.tuple #[.int .i64 r1, .bool r2]) ∧ Drawn0 w w' := by
  have H : (if a1 < 0 then (bits_Set_Nth.j0 k a0 a1 true) else ((bits_Set_Len.f k a0).bind fun t31101 => (bits_Set_Nth.j0 k a0 a1 (decide (a1 ≥ t31101))))) = some (r1, r2) := h
  clear h
  have HC3 := Aside0.mk H
  clear H
  go_enter Try.func31, Try.ntmps31
  go_upto_region 1 with (fail)
  go_cut [13] (fun v13 wc => ∃ (kq : Nat) (x13_2 : Bool), v13 = .bool x13_2 ∧ Aside0 (bits_Set_Nth.j0 kq a0 a1 x13_2 = some (r1, r2)) ∧ Aside0 (kq ≤ k) ∧ Drawn0 w wc)
  case first =>
    have H := HC3.out
    clear HC3
    by_cases c4 : a1 < 0
    · rw [if_pos c4] at H
      have c4b0 : decide (a1 < 0) = true := decide_eq_true c4
      clear c4
      (first | rw [c4b0] | (simp only [i64_w, i32_w]; rw [c4b0]) | skip)
      have H' := Aside0.mk H
      clear H
      go_wp2
      go_meet
      case rel => exact ⟨_, (true), (by first | rfl | (simp; done) | (simp [*]; done)), H', ⟨by first | omega | exact Nat.le_refl _⟩, by repeat (first | exact Drawn0.refl _ | apply Drawn0.step)⟩
    · rw [if_neg c4] at H
      have c4b0 : decide (a1 < 0) = false := decide_eq_false c4
      clear c4
      (first | rw [c4b0] | (simp only [i64_w, i32_w]; rw [c4b0]) | skip)
      replace H := Option.bind_eq_some_iff.mp H
      obtain ⟨t31101, A50, H⟩ := H
      replace H : (bits_Set_Nth.j0 k a0 a1 (decide (a1 ≥ t31101))) = some (r1, r2) := H
      have A5 := Aside0.mk A50
      clear A50
      have H' := Aside0.mk H
      clear H
      go_wp2_with (first | (go_at_call 27; (with_reducible refine (bits_Set_Len.calls k a0 t31101 _ A5.out).mono ?_); rintro e w' ⟨rfl, ⟨nd, rfl⟩⟩))
      go_meet
      case rel => exact ⟨_, (decide (a1 ≥ t31101)), (by first | rfl | (simp; done) | (simp [*]; done)), H', ⟨by first | omega | exact Nat.le_refl _⟩, by repeat (first | exact Drawn0.refl _ | apply Drawn0.step)⟩
  case rest =>
    clear HC3
    try clear p2
    try clear c3
    try clear c4
    try clear c4b0
    obtain ⟨kq, x13_2, rfl, HA, HJ2, ⟨mc2, rfl⟩⟩ := hcut
    cases kq with
    | zero => exact absurd HA.out (by simp [bits_Set_Nth.j0])
    | succ kj2 =>
      have H := HA.out
      clear HA
      simp only [bits_Set_Nth.j0] at H
      by_cases c6 : x13_2 = true
      · subst c6
        have H1 : (some (0, false)) = some (r1, r2) := by rw [if_pos rfl] at H; exact H
        clear H
        have H := H1
        clear H1
        simp only [Option.some.injEq, Prod.mk.injEq] at H
        obtain ⟨rfl, rfl⟩ := H
        go_wp2
        go_ret2
        exact ⟨by first | rfl | (simp; done) | (simp [*]; done), by repeat (first | exact Drawn0.refl _ | apply Drawn0.step)⟩
      · replace c6 := Bool.eq_false_iff.mpr c6
        subst c6
        have H1 : (bits_Set_Nth.l0 kj2 a0 a1) = some (r1, r2) := by rw [if_neg (show ¬ (false = true) by decide)] at H; exact H
        clear H
        have H := H1
        clear H1
        have H' := Aside0.mk H
        clear H
        go_wp2
        go_loopg [0, 1] kj2 (fun kq v0 v1 w' => ∃ (x0_2 : Int) (x1_2 : Int), v0 = .int .u64 x0_2 ∧ v1 = .int .i64 x1_2 ∧ Aside0 (bits_Set_Nth.l0 kq x0_2 x1_2 = some (r1, r2)) ∧ Aside0 (kq ≤ kj2) ∧ Drawn0 w w')
        case atStart => exact ⟨(a0), (a1), (by first | rfl | (simp; done) | (simp [*]; done)), (by first | rfl | (simp; done) | (simp [*]; done)), H', ⟨Nat.le_refl _⟩, by repeat (first | exact Drawn0.refl _ | apply Drawn0.step)⟩
        case round =>
          clear H'
          try clear c2
          try clear p2
          try clear c3
          try clear c4
          try clear c4b0
          try clear c6
          try clear p2
          obtain ⟨x0_2, x1_2, rfl, rfl, HA, HK2, ⟨m2, rfl⟩⟩ := hrel
          cases gk with
          | zero => exact absurd HA.out (by simp [bits_Set_Nth.l0])
          | succ k2 =>
            have H := HA.out
            clear HA
            simp only [bits_Set_Nth.l0] at H
            by_cases c7 : x1_2 > 0
            · rw [if_pos c7] at H
              have c7b0 : decide (0 < x1_2) = true := decide_eq_true c7
              clear c7
              have H' := Aside0.mk H
              clear H
              go_wp2
              go_roundg k2
              case measure => have := HJ2.out; have := HK2.out; omega
              case rel => exact ⟨(Go.bits .and .u64 x0_2 (IntKind.u64.wrap (x0_2 - 1))), (wrap64 (x1_2 - 1)), (by first | rfl | (simp; done) | (simp [*]; done)), (by first | rfl | (simp; done) | (simp [*]; done)), H', ⟨by have := HJ2.out; have := HK2.out; omega⟩, by repeat (first | exact Drawn0.refl _ | apply Drawn0.step)⟩
            · rw [if_neg c7] at H
              have c7b0 : decide (0 < x1_2) = false := decide_eq_false c7
              clear c7
              replace H := Option.bind_eq_some_iff.mp H
              obtain ⟨⟨t31102, t31103⟩, A80, H⟩ := H
              replace H : (some (t31102, t31103)) = some (r1, r2) := H
              have A8 := Aside0.mk A80
              clear A80
              simp only [Option.some.injEq, Prod.mk.injEq] at H
              obtain ⟨rfl, rfl⟩ := H
              go_wp2_with (first | ((with_reducible refine gate_callee (f := 29) rfl ?_); refine goesL_ (some 23) rfl rfl Try.func29 (by kernel_rfl) rfl #[.int .u64 x0_2] rfl (by (try simp only [List.map_toArray, List.map_cons, List.map_nil]); first | done | rfl | (simp only [List.length_drop, List.length_take]; rfl)) ?_; (with_reducible refine (bits_Set_Low.calls k2 x0_2 t31102 t31103 _ A8.out).mono ?_); rintro e w' ⟨rfl, ⟨nd, rfl⟩⟩; refine ⟨_, rfl, ?_⟩))
              go_ret2
              exact ⟨by first | rfl | (simp; done) | (simp [*]; done), by repeat (first | exact Drawn0.refl _ | apply Drawn0.step)⟩
end Go.Proofs.Ytemhalnhbgkbcaa.V
end

-- HBits2
section
/- bits: how many, the least, the greatest, one by its place. -/
namespace Go.Proofs.Ytemhalnhbgkbcaa.V
open Go.RowKit Go.Proofs.YtemhalnhbgkbcaaW.PrintWords Go.Proofs.YtemhalnhbgkbcaaW.PrintLast Go.Proofs.YtemhalnhbgkbcaaW.PrintMore

/-- m is the least one in s. -/
structure Least (s m : Nat) : Prop where
  here : s.testBit m = true
  below : ∀ j, j < m → s.testBit j = false
theorem least_ex (s : Nat) (h : s ≠ 0) : ∃ m, Least s m := by
  obtain ⟨i, hi⟩ := Nat.exists_testBit_of_ne_zero h
  have : ∀ n, (∃ j, j < n ∧ s.testBit j = true) → ∃ m, Least s m := by
    intro n
    induction n with
    | zero => rintro ⟨j, h, _⟩; omega
    | succ n ih =>
      intro hex
      by_cases hb : ∃ j, j < n ∧ s.testBit j = true
      · exact ih hb
      · obtain ⟨j, h1, h2⟩ := hex
        have hj : j = n := by
          rcases Nat.lt_or_ge j n with h3 | h3
          · exact absurd ⟨j, h3, h2⟩ hb
          · omega
        subst hj
        exact ⟨j, h2, fun t ht => by
          cases hc : s.testBit t with
          | false => rfl
          | true => exact absurd ⟨t, ht, hc⟩ hb⟩
  exact this (i + 1) ⟨i, by omega, hi⟩
theorem Least.form {s m : Nat} (h : Least s m) : ∃ q, s = 2 ^ m * (2 * q + 1) := by
  have h0 : s % 2 ^ m = 0 := by
    apply Nat.eq_of_testBit_eq
    intro j
    rw [Nat.testBit_mod_two_pow, Nat.zero_testBit]
    by_cases hj : j < m
    · simp [h.below j hj]
    · simp [hj]
  have h1 := h.here
  rw [testBit_eq_mod, decide_eq_true_eq] at h1
  refine ⟨s / 2 ^ m / 2, ?_⟩
  have h2 : 2 * (s / 2 ^ m / 2) + 1 = s / 2 ^ m := by omega
  rw [h2, Nat.mul_comm]
  exact (Nat.div_mul_cancel (Nat.dvd_of_mod_eq_zero h0)).symm
def clearLow (s : Nat) : Nat := s &&& (s - 1)
theorem clearLow_testBit {s m : Nat} (h : Least s m) (j : Nat) : (clearLow s).testBit j = (s.testBit j && decide (j ≠ m)) := by
  obtain ⟨q, hq⟩ := h.form
  have hp : 0 < 2 ^ m := Nat.pos_of_ne_zero (by simp)
  have hs1 : s - 1 = 2 ^ m * (2 * q) + (2 ^ m - 1) := by rw [hq, Nat.mul_add]; omega
  have hd : (s - 1) / 2 ^ m = 2 * q := by
    rw [hs1, Nat.mul_add_div hp, Nat.div_eq_of_lt (by omega), Nat.add_zero]
  have hd0 : s / 2 ^ m = 2 * q + 1 := by rw [hq, Nat.mul_div_cancel_left _ hp]
  unfold clearLow
  rw [Nat.testBit_and]
  rcases Nat.lt_trichotomy j m with hj | hj | hj
  · simp [h.below j hj]
  · subst hj
    rw [testBit_eq_mod (s - 1), hd]
    first | (simp; done) | (simp; omega)
  · obtain ⟨i, rfl⟩ : ∃ i, j = m + 1 + i := ⟨j - m - 1, by omega⟩
    have e : ∀ x : Nat, x / 2 ^ (m + 1 + i) = x / 2 ^ m / 2 / 2 ^ i := by
      intro x
      rw [Nat.pow_add, Nat.pow_succ, ← Nat.div_div_eq_div_mul, ← Nat.div_div_eq_div_mul]
    rw [testBit_eq_mod (s - 1), testBit_eq_mod s, e, e, hd, hd0, show (2 * q + 1) / 2 = q by omega, show (2 * q) / 2 = q by omega]
    simp
    omega
theorem listN_low {s m : Nat} (h : Least s m) (n : Nat) : listN s n = if n ≤ m then [] else (m : Int) :: listN (clearLow s) n := by
  induction n with
  | zero => simp [listN]
  | succ n ih =>
    rw [listN_succ, listN_succ, ih, clearLow_testBit h n]
    rcases Nat.lt_trichotomy n m with hj | hj | hj
    · rw [h.below n hj, if_neg (by simp), if_pos (by omega), if_pos (by omega)]
    · subst hj
      have e : ∀ t, t ≤ n → listN (clearLow s) t = [] := by
        intro t
        induction t with
        | zero => intro _; simp [listN]
        | succ t iht =>
          intro ht
          rw [listN_succ, iht (by omega), clearLow_testBit h t, h.below t (by omega)]
          simp
      rw [if_pos h.here, if_pos (Nat.le_refl _), if_neg (by omega), e n (Nat.le_refl _)]
      simp
    · have hne : decide (n ≠ m) = true := by simp; omega
      have e1 : ¬ n ≤ m := by omega
      have e2 : ¬ n + 1 ≤ m := by omega
      rw [hne, Bool.and_true]
      simp only [e1, e2, if_false]
      split <;> simp
theorem Least.lt {s m : Nat} (h : Least s m) (hs : s < 18446744073709551616) : m < 64 := by
  rcases Nat.lt_or_ge m 64 with hl | hl
  · exact hl
  · have := Nat.ge_two_pow_of_testBit h.here
    have h2 : 2 ^ 64 ≤ 2 ^ m := Nat.pow_le_pow_right (by omega) hl
    omega
theorem listOf_low {s m : Nat} (h : Least s m) (hs : s < 18446744073709551616) : listOf s = (m : Int) :: listOf (clearLow s) := by
  unfold listOf
  rw [listN_low h 64, if_neg (by have := h.lt hs; omega)]
theorem listOf_zero : listOf 0 = [] := by
  unfold listOf listN
  simp
theorem clearLow_lt (s : Nat) (hs : s < 18446744073709551616) : clearLow s < 18446744073709551616 := Nat.lt_of_le_of_lt Nat.and_le_left hs
theorem clear_f (s : Nat) (hs : s < 18446744073709551616) (h : s ≠ 0) : Go.bits .and .u64 (s : Int) (IntKind.u64.wrap ((s : Int) - 1)) = ((clearLow s : Nat) : Int) := by
  rw [show (s : Int) - 1 = ((s - 1 : Nat) : Int) by omega, wrap_u64_nat _ (by omega), u64_and_nat _ _ hs (by omega)]
  rfl
theorem len_l0 : ∀ (L : List Int) (s k c : Nat), s < 18446744073709551616 → listOf s = L → c + L.length ≤ 64 → L.length < k → bits_Set_Len.l0 k (s : Int) (c : Int) = some ((c + L.length : Nat) : Int) := by
  intro L
  induction L with
  | nil =>
    intro s k c hs hL hc hk
    obtain ⟨k, rfl⟩ : ∃ m, k = m + 1 := ⟨k - 1, by omega⟩
    have h0 : s = 0 := by
      by_cases h : s = 0
      · exact h
      · obtain ⟨m, hm⟩ := least_ex s h
        rw [listOf_low hm hs] at hL
        cases hL
    subst h0
    unfold bits_Set_Len.l0
    rw [if_pos (show ((0 : Nat) : Int) = 0 from rfl)]
    rfl
  | cons x L ih =>
    intro s k c hs hL hc hk
    simp only [List.length_cons] at hc hk ⊢
    obtain ⟨k, rfl⟩ : ∃ m, k = m + 1 := ⟨k - 1, by omega⟩
    have h0 : s ≠ 0 := by
      rintro rfl
      rw [listOf_zero] at hL
      cases hL
    obtain ⟨m, hm⟩ := least_ex s h0
    rw [listOf_low hm hs] at hL
    injection hL with _ hL
    unfold bits_Set_Len.l0
    rw [if_neg (by omega), clear_f s hs h0, show wrap64 ((c : Int) + 1) = ((c + 1 : Nat) : Int) by unfold wrap64; omega, ih (clearLow s) k (c + 1) (clearLow_lt s hs) hL (by omega) (by omega)]
    congr 2
    omega
theorem listOf_length (s : Nat) : (listOf s).length ≤ 64 := listN_length s 64
theorem len_f (s : Nat) (hs : s < 18446744073709551616) (k : Nat) (hk : 64 < k) : bits_Set_Len.f k (s : Int) = some ((listOf s).length : Int) := by
  have hl := listOf_length s
  have := len_l0 (listOf s) s k 0 hs rfl (by omega) (by omega)
  simpa [bits_Set_Len.f] using this
theorem len_any (s : Nat) (hs : s < 18446744073709551616) (w : World) : Calls Try.prog 27 #[.int .u64 (s : Int)] w fun e w' => e = .returned (.int .i64 ((listOf s).length : Int)) ∧ Drawn0 w w' :=
  bits_Set_Len.calls 65 _ _ w (len_f s hs 65 (by omega))
end Go.Proofs.Ytemhalnhbgkbcaa.V
end

-- BK
section
/- Blocks: as values, and as variables in memory. -/
namespace Go.Proofs.Ytemhalnhbgkbcaa.V
open Go.RowKit Go.Proofs.YtemhalnhbgkbcaaW.PrintWords Go.Proofs.YtemhalnhbgkbcaaW.PrintLast Go.Proofs.YtemhalnhbgkbcaaW.PrintMore
set_option linter.unusedVariables false
set_option linter.unusedSimpArgs false

/-- A block's parts. -/
structure Bk where
  addr : Int
  aff : ByteArray
  slots : List Int
  free : List Int
  attrs : List S85
/-- A block's cells, the two slices as they are. -/
def bkL (a : Int) (s : ByteArray) (l : List Int) (v v' : Value) : List Value := .int .u32 a :: .string s :: (l.map (Value.int .u8) ++ [v, v'])
section
variable (a : Int) (s : ByteArray) (l : List Int) (v v' : Value)
theorem bkL_length (h : l.length = 64) : (bkL a s l v v').length = 68 := by simp [bkL, h]
theorem bkL_slot (h : l.length = 64) (i : Nat) (hi : i < 64) : (bkL a s l v v')[2 + i]? = some (.int .u8 (l.getD i 0)) := by
  have hi' : i < l.length := by omega
  rw [Nat.add_comm]
  simp [bkL, List.getElem?_append_left, hi', List.getD]
theorem bkL_66 (h : l.length = 64) : (bkL a s l v v')[66]? = some v := by
  simp [bkL, List.getElem?_append_right, h]
theorem bkL_67 (h : l.length = 64) : (bkL a s l v v')[67]? = some v' := by
  simp [bkL, List.getElem?_append_right, h]
theorem bkL_part (h : l.length = 64) : ∀ j u, (l.map (Value.int .u8))[j]? = some u → (bkL a s l v v')[2 + j]? = some u := by
  intro j u hj
  have hj' : j < l.length := by
    obtain ⟨h1, _⟩ := List.getElem?_eq_some_iff.1 hj
    simpa using h1
  rw [Nat.add_comm]
  have : (bkL a s l v v')[j + 2]? = (l.map (Value.int .u8) ++ [v, v'])[j]? := by simp [bkL]
  rw [this, List.getElem?_append_left (by simpa using hj'), hj]
theorem bkL_one (hv : v.oneCell' = true) (hv' : v'.oneCell' = true) : ∀ u ∈ bkL a s l v v', u.oneCell' = true := by
  intro u hu
  simp only [bkL, List.mem_cons, List.mem_append, List.mem_map, List.not_mem_nil, or_false] at hu
  rcases hu with rfl | rfl | ⟨x, _, rfl⟩ | rfl | rfl
  · rfl
  · rfl
  · rfl
  · exact hv
  · exact hv'
theorem bkL_set_slot (h : l.length = 64) (i : Nat) (hi : i < 64) (x : Int) : (bkL a s l v v').set (2 + i) (.int .u8 x) = bkL a s (l.set i x) v v' := by
  have hi' : i < l.length := by omega
  rw [Nat.add_comm]
  simp [bkL, List.set_append, hi', List.map_set]
theorem bkL_set_66 (h : l.length = 64) (u : Value) : (bkL a s l v v').set 66 u = bkL a s l u v' := by
  simp [bkL, List.set_append, h]
theorem bkL_set_67 (h : l.length = 64) (u : Value) : (bkL a s l v v').set 67 u = bkL a s l v u := by
  simp [bkL, List.set_append, h]
end
/-- A block's rows, read. -/
structure BkR (W : World) (b : Bk) (A : Option Addr) (c : Nat) (A' : Option Addr) (c' : Nat) : Prop where
  l64 : b.slots.length = 64
  fr : Kd.C (Kd.int .u8) W A b.free.length b.free
  fc : b.free.length ≤ c
  ar : Kd.C k85 W A' b.attrs.length b.attrs
  ac : b.attrs.length ≤ c'
theorem BkR.below {W W1 : World} {b : Bk} {A A' : Option Addr} {c c' : Nat} (h : BkR W b A c A' c') (hb : Below W.heap.size W W1) : BkR W1 b A c A' c' := ⟨h.l64, Kd.C_below h.fr hb, h.fc, Kd.C_below h.ar hb, h.ac⟩
/-- A value is a block. -/
def BkV (W : World) (v : Value) (b : Bk) : Prop := ∃ A c A' c', v = .agg (bkL b.addr b.aff b.slots (.slice A b.free.length c) (.slice A' b.attrs.length c')).toArray ∧ BkR W b A c A' c'
theorem BkV.below {W W1 : World} {v : Value} {b : Bk} (h : BkV W v b) (hb : Below W.heap.size W W1) : BkV W1 v b := by
  obtain ⟨A, c, A', c', e, hr⟩ := h
  exact ⟨A, c, A', c', e, hr.below hb⟩
theorem Box.slot {W : World} {g : Nat} {a : Int} {s : ByteArray} {l : List Int} {v v' : Value} {t : Nat} (h : Box W g (bkL a s l v v') t) (hl : l.length = 64) (i : Nat) (hi : i < 64) : W.cell? ⟨g, 2 + i, none⟩ = some (.int .u8 (l.getD i 0)) := h.cell _ _ (bkL_slot a s l v v' hl i hi)
theorem size5 (w : World) : (sizeOf 5).run Try.prog w = .ok 1 w := by kernel_rfl
theorem index47 (l : List Int) (hl : l.length = 64) (i : Nat) (hi : i < 64) (w : World) :
    (Instr.index 47 (.agg (l.map (Value.int .u8)).toArray) (.int .i64 (i : Int))).run Try.prog w = .ok (.int .u8 (l.getD i 0)) w :=
  run_index_arr w 47 5 64 .u8 Try.underlying47 Try.underlying5 size5 l hl i hi
end Go.Proofs.Ytemhalnhbgkbcaa.V
end

-- BFree
section
/- block.free: has the row of those that are free just these? -/
namespace Go.Proofs.Ytemhalnhbgkbcaa.V
open Go.RowKit Go.Proofs.YtemhalnhbgkbcaaW.PrintWords Go.Proofs.YtemhalnhbgkbcaaW.PrintLast Go.Proofs.YtemhalnhbgkbcaaW.PrintMore
set_option linter.unusedVariables false
set_option linter.unusedSimpArgs false

/-- Is what stands at j among the free ones wrong? -/
def freeBad (b : Bk) (j : Nat) : Bool := decide (64 ≤ rd b.free j) || (decide (rd b.free j ∈ b.free.take j) || (b.slots.getD (rd b.free j).toNat 0 != 0))
def freeOk (b : Bk) : Bool := (List.range b.free.length).all (fun j => !freeBad b j) && decide (b.slots.countP (fun x => x == 0) = b.free.length)
/-- Numbers of eight bits. -/
def U8s (l : List Int) : Prop := ∀ x ∈ l, 0 ≤ x ∧ x < 256
theorem U8s_rd {l : List Int} (h : U8s l) (i : Int) : 0 ≤ rd l i ∧ rd l i < 256 := by
  unfold rd
  rcases Nat.lt_or_ge i.toNat l.length with hi | hi
  · have : l.getD i.toNat 0 = l[i.toNat] := by simp [List.getD, hi]
    rw [this]
    exact h _ (List.getElem_mem _)
  · have : l.getD i.toNat 0 = 0 := by simp [List.getD, hi]
    rw [this]
    omega
set_option maxHeartbeats 4000000 in
set_option maxRecDepth 100000 in
theorem free_any (b : Bk) (hf : U8s b.free) (hs : U8s b.slots) (v : Value) (w : World) (h : BkV w v b) :
    Calls Try.prog 87 #[v] w fun e w' => e = .returned (.bool (freeOk b)) ∧ Below w.heap.size w w' := by
  obtain ⟨A, c, A', c', rfl, hr⟩ := h
  have hl := hr.l64
  have HR := Aside0.mk hr
  have HF := Aside0.mk hf
  have HS := Aside0.mk hs
  have HL := Aside0.mk hl
  clear hr hf hs hl
  go_enter Try.func87, Try.ntmps87
  go_wp2_with (refine step_box rfl 57 (.tmp 0) rfl _ rfl ?_; intro g W1 hg hbx hb1; have HX := Aside0.mk hbx; have HB := Aside0.mk hb1; have HG := Aside0.mk hg; have HRR := Aside0.mk (HR.out.below hb1); have h66 := hbx.cell 66 _ (bkL_66 _ _ _ _ _ HL.out); clear hbx hb1 hg HR)
  go_loopw [3, 5, 12] (fun s _ i W => ∃ k nd : Nat, k ≤ b.free.length ∧ W = W1.drewN nd ∧ i = .int .i64 k ∧ s = .int .u64 ((ofN (b.free.take k) : Nat) : Int) ∧ Aside0 (∀ j, j < k → freeBad b j = false)) (fun _ _ i _ => b.free.length - (intOf i).toNat)
  case atStart => exact ⟨0, 0, by omega, rfl, rfl, rfl, ⟨fun j hj => by omega⟩⟩
  case round =>
    obtain ⟨k, nd, hk, rfl, rfl, rfl, HJ⟩ := hrel
    have hmx : b.free.length ≤ 9223372036854775807 := HRR.out.fr.2.1
    by_cases hkn : k < b.free.length
    · have hkb : decide ((k : Int) < (b.free.length : Int)) = true := by simp; omega
      obtain ⟨m, hm⟩ : ∃ m : Nat, rd b.free k = (m : Int) := ⟨(rd b.free k).toNat, by have := (U8s_rd HF.out k).1; omega⟩
      have hm2 : m < 256 := by have := (U8s_rd HF.out k).2; omega
      obtain ⟨ad, eA, hx⟩ := Kd.at_int HRR.out.fr k (by omega) (by omega)
      cases eA
      rw [hm, Int.toNat_natCast] at hx
      have HM := Aside0.mk hm
      have p1 : ((k : Int) < (b.free.length : Int)) = True := eq_true (by omega)
      by_cases h64 : 64 ≤ m
      · have hb64 : decide ((64 : Int) ≤ (m : Int)) = true := by simp; omega
        have HV := Aside0.mk (show freeOk b = false by
          unfold freeOk
          rw [Bool.and_eq_false_iff]
          left
          rw [List.all_eq_false]
          exact ⟨k, by simpa using hkn, by unfold freeBad; rw [HM.out]; simp; omega⟩)
        clear hm
        go_wp2
        go_ret
        exact ⟨by rw [HV.out]; rfl, pw_below_drewN HB.out _⟩
      · have hb64 : decide ((64 : Int) ≤ (m : Int)) = false := by simp; omega
        have hh : hasB (ofN (b.free.take k)) (m : Int) = decide ((m : Int) ∈ b.free.take k) := by
          unfold hasB
          rw [slotB_of m (by omega), Bool.true_and, Int.toNat_natCast, ofN_testBit _ m (by omega)]
        obtain ⟨z, hz0⟩ : ∃ z : Int, b.slots.getD m 0 = z := ⟨_, rfl⟩
        have hz := HX.out.slot HL.out m (by omega)
        rw [hz0] at hz
        have HZ := Aside0.mk hz0
        clear hz0
        have HH := Aside0.mk hh
        clear hh
        cases hmem : decide ((m : Int) ∈ b.free.take k) with
        | true =>
          rw [hmem] at HH
          have HV := Aside0.mk (show freeOk b = false by
            unfold freeOk
            rw [Bool.and_eq_false_iff]
            left
            rw [List.all_eq_false]
            exact ⟨k, by simpa using hkn, by unfold freeBad; rw [HM.out, hmem]; simp⟩)
          clear hm hmem hz
          go_wp2_with (go_at_call 20; refine (has_any _ (ofN_lt _) _ _).mono ?_; rintro e w' ⟨rfl, ⟨nd2, rfl⟩⟩; rw [HH.out])
          go_ret
          exact ⟨by rw [HV.out]; rfl, by repeat (first | exact HB.out | apply pw_below_drewN)⟩
        | false =>
          rw [hmem] at HH
          cases hzz : (z != 0) with
          | true =>
            have HV := Aside0.mk (show freeOk b = false by
              unfold freeOk
              rw [Bool.and_eq_false_iff]
              left
              rw [List.all_eq_false]
              exact ⟨k, by simpa using hkn, by unfold freeBad; rw [HM.out, Int.toNat_natCast, HZ.out, hzz]; simp⟩)
            clear hm hmem
            go_wp2_with (go_at_call 20; refine (has_any _ (ofN_lt _) _ _).mono ?_; rintro e w' ⟨rfl, ⟨nd2, rfl⟩⟩; rw [HH.out])
            go_ret
            exact ⟨by rw [HV.out]; rfl, by repeat (first | exact HB.out | apply pw_below_drewN)⟩
          | false =>
            have HJ2 := Aside0.mk (show ∀ j, j < k + 1 → freeBad b j = false from fun j hj => by
              by_cases hjk : j < k
              · exact HJ.out j hjk
              · obtain rfl : j = k := by omega
                unfold freeBad
                rw [HM.out, Int.toNat_natCast, HZ.out, hzz, hmem]
                simp
                omega)
            have HO := Aside0.mk (show withN (ofN (b.free.take k)) (m : Int) = ofN (b.free.take (k + 1)) by
              have e : b.free.take (k + 1) = b.free.take k ++ [(m : Int)] := by
                rw [List.take_add_one, ← HM.out]
                simp [rd, List.getD, List.getElem?_eq_getElem hkn]
              rw [e]
              unfold ofN
              rw [List.foldl_append]
              rfl)
            clear hm hmem
            go_wp2_with (first | (go_at_call 20; refine (has_any _ (ofN_lt _) _ _).mono ?_; rintro e w' ⟨rfl, ⟨nd2, rfl⟩⟩; rw [HH.out]) | (go_at_call 21; refine (with_any _ (ofN_lt _) _ _).mono ?_; rintro e w' ⟨rfl, ⟨nd3, rfl⟩⟩; rw [HO.out]))
            go_roundw
            case rel => exact ⟨k + 1, nd + nd2 + nd3, by omega, by simp [Nat.add_assoc], by go_num, rfl, HJ2⟩
            case measure => simp [intOf]; omega
    · obtain rfl : k = b.free.length := by omega
      have HA := Aside0.mk (show (List.range b.free.length).all (fun j => !freeBad b j) = true by
        rw [List.all_eq_true]
        intro j hj
        rw [HJ.out j (by simpa using hj)]
        rfl)
      have hlen : (Try.prog.info? 47).map (·.size) = some (b.slots.map (Value.int .u8)).length := by rw [List.length_map, HL.out]; kernel_rfl
      go_wp2_with (refine step_loadPart rfl 47 (.tmp 37) rfl g 2 rfl 57 _ (b.slots.map (Value.int .u8)) (.array 64 5) HX.out (bkL_part _ _ _ _ _ HL.out) Try.underlying47 rfl hlen ?_)
      go_loopw [6, 8, 39] (fun s _ i W => ∃ q nd : Nat, q ≤ 64 ∧ W = W1.drewN nd ∧ i = .int .i64 q ∧ s = .int .i64 (((b.slots.take q).countP (fun x => x == 0) : Nat) : Int)) (fun _ _ i _ => 64 - (intOf i).toNat)
      case atStart => exact ⟨0, nd, by omega, rfl, rfl, rfl⟩
      case round =>
        obtain ⟨q, nd, hq, rfl, rfl, rfl⟩ := hrel
        by_cases hq2 : q < 64
        · have hqb : decide ((q : Int) < 64) = true := by simp; omega
          obtain ⟨z, hz0⟩ : ∃ z : Int, b.slots.getD q 0 = z := ⟨_, rfl⟩
          have hix := fun w => index47 b.slots HL.out q hq2 w
          rw [hz0] at hix
          have hql : q < b.slots.length := by have := HL.out; omega
          have hcp : (b.slots.take (q + 1)).countP (fun x => x == 0) = (b.slots.take q).countP (fun x => x == 0) + if (z == 0) = true then 1 else 0 := by
            rw [List.take_add_one, List.countP_append, List.getElem?_eq_getElem hql]
            have : b.slots[q] = z := by rw [← hz0]; simp [List.getD, List.getElem?_eq_getElem hql]
            rw [this]
            simp
          have hcl : (b.slots.take q).countP (fun x => x == 0) ≤ 64 := Nat.le_trans List.countP_le_length (by simp; omega)
          cases hzz : (z == 0) with
          | true =>
            rw [hzz, if_pos rfl] at hcp
            have HC := Aside0.mk hcp
            clear hz0 hcp
            go_wp2
            go_roundw
            case rel => exact ⟨q + 1, nd, by omega, rfl, by go_num, by rw [HC.out]; go_num⟩
            case measure => simp [intOf]; omega
          | false =>
            rw [hzz, if_neg (by decide)] at hcp
            have HC := Aside0.mk hcp
            clear hz0 hcp
            go_wp2
            go_roundw
            case rel => exact ⟨q + 1, nd, by omega, rfl, by go_num, by rw [HC.out]; rfl⟩
            case measure => simp [intOf]; omega
        · obtain rfl : q = 64 := by omega
          have hqb : decide ((64 : Int) < 64) = false := by decide
          have HV := Aside0.mk (show freeOk b = decide (b.slots.countP (fun x => x == 0) = b.free.length) by
            unfold freeOk
            rw [HA.out, Bool.true_and])
          have HT := Aside0.mk (show b.slots.take 64 = b.slots from List.take_of_length_le (by have := HL.out; omega))
          go_wp2
          go_ret
          refine ⟨?_, by repeat (first | exact HB.out | apply pw_below_drewN)⟩
          rw [HV.out]
          simp only [HT.out]
          show Ending.returned (Value.bool (((b.slots.countP (fun x => x == 0) : Nat) : Int) == ((b.free.length : Nat) : Int))) = _
          congr 2
          rw [Bool.eq_iff_iff, beq_iff_eq, decide_eq_true_eq]
          exact Int.ofNat_inj
end Go.Proofs.Ytemhalnhbgkbcaa.V
end

-- VE85
section
-- PRINTED by print.py (a twelfth state) out of the translation. Not trusted: Lean checks it.
namespace Go.Proofs.Ytemhalnhbgkbcaa.V
open Go.RowKit Go.Proofs.YtemhalnhbgkbcaaW.PrintWords Go.Proofs.YtemhalnhbgkbcaaW.PrintLast Go.Proofs.YtemhalnhbgkbcaaW.PrintMore
attribute [local go_sem] max2_int min2_int max_two min_two max_three min_three max_four min_four   -- for this text's walks alone
set_option linter.unusedVariables false
set_option linter.unusedSimpArgs false

theorem eqA85 (d : Nat) (w : World) (x0 y0 : ByteArray) (x1 y1 : ByteArray) :
    (Op.equalIn (d + 2) 85 (.agg #[.string x0, .string x1]) (.agg #[.string y0, .string y1])).run Try.prog w = .ok (x0.toList == y0.toList && (x1.toList == y1.toList)) w := by
  refine eqA_of Try.underlying85 (by kernel_rfl) ?_
  refine eqf_cons (by rfl) (by go_simp; rfl) (by go_simp; rfl) (by go_simp) ?_
  exact eqf_last (by rfl) (by go_simp; rfl) (by go_simp; rfl) (by go_simp)
end Go.Proofs.Ytemhalnhbgkbcaa.V
end

-- BMap
section
/- A map from attributes to whole numbers: how it is read and counted up. -/
namespace Go.Proofs.Ytemhalnhbgkbcaa.V
open Go.ChangeMaps (setBlock)
open Go.RowKit Go.Proofs.YtemhalnhbgkbcaaW.PrintWords Go.Proofs.YtemhalnhbgkbcaaW.PrintLast Go.Proofs.YtemhalnhbgkbcaaW.PrintMore
set_option linter.unusedVariables false
set_option linter.unusedSimpArgs false

abbrev At := S85
def atV (a : At) : Value := .agg #[.string a.f0, .string a.f1]
def sameAt (a b : At) : Bool := a.f0.toList == b.f0.toList && a.f1.toList == b.f1.toList
theorem sameAt_iff (a b : At) : sameAt a b = true ↔ a = b := by
  obtain ⟨x, y⟩ := a
  obtain ⟨z, u⟩ := b
  simp only [sameAt, Bool.and_eq_true, beq_iff_eq, S85.mk.injEq]
  have h : ∀ p q : ByteArray, p.toList = q.toList ↔ p = q := fun p q => by
    rw [ByteArray.toList_eq, ByteArray.toList_eq]
    exact ⟨fun h => by obtain ⟨⟨l⟩⟩ := p; obtain ⟨⟨l'⟩⟩ := q; simp_all, fun h => by rw [h]⟩
  rw [h, h]
theorem sameAt_self (a : At) : sameAt a a = true := (sameAt_iff a a).2 rfl
theorem run_sameAt (a b : At) (w : World) : (Op.equal 85 (atV a) (atV b)).run Try.prog w = .ok (sameAt a b) w := eqA85 _ w a.f0 b.f0 a.f1 b.f1
theorem run_chk (e : Bool) (a : At) (w : World) : (Instr.checkKey e 10000 85 (atV a)).run Try.prog w = .ok () w := by kernel_rfl
/-- A map's entries: its list of attributes, each with its number, in the order in which they came. -/
def mapEs (L : List (At × Int)) : List MapEntry := L.mapIdx fun i p => ⟨atV p.1, .int .i64 p.2, i⟩
def MapIs (W : World) (g : Nat) (L : List (At × Int)) : Prop := W.heap[g]? = some (.map (mapEs L).toArray L.length)
def numOf (L : List (At × Int)) (a : At) : Int := match L.find? (fun p => sameAt a p.1) with | some p => p.2 | none => 0
def idxOf (L : List (At × Int)) (a : At) : Option Nat := L.findIdx? (fun p => sameAt a p.1)
/-- An attribute's number, set. -/
def putAt (L : List (At × Int)) (a : At) (v : Int) : List (At × Int) := match idxOf L a with | some i => L.modify i (fun p => (p.1, v)) | none => L ++ [(a, v)]
theorem find_run (a : At) (w : World) : ∀ (L : List (At × Int)) (o i : Nat),
    (Instr.findAsking 85 (atV a) (L.mapIdx fun j p => (⟨atV p.1, .int .i64 p.2, o + j⟩ : MapEntry)) i).run Try.prog w = .ok ((idxOf L a).bind fun j => L[j]?.map fun p => (i + j, .int .i64 p.2)) w
  | [], _, _ => rfl
  | p :: L, o, i => by
    have ih := find_run a w L (o + 1) (i + 1)
    rw [List.mapIdx_cons]
    unfold Instr.findAsking idxOf
    rw [List.findIdx?_cons]
    simp only [Sem.run_bind, run_sameAt, Result.andThen_ok, Nat.add_zero]
    cases h : sameAt a p.1 with
    | true => simp
    | false =>
      simp only [Bool.false_eq_true, if_false]
      have e : (L.mapIdx fun j p => (⟨atV p.1, .int .i64 p.2, o + (j + 1)⟩ : MapEntry)) = (L.mapIdx fun j p => (⟨atV p.1, .int .i64 p.2, o + 1 + j⟩ : MapEntry)) := by
        congr 1
        funext j p
        rw [Nat.add_right_comm, Nat.add_assoc]
      rw [e, ih]
      unfold idxOf
      cases h2 : List.findIdx? (fun p => sameAt a p.1) L with
      | none => simp
      | some j =>
        simp only [Option.bind_some, Option.map_some, List.getElem?_cons_succ]
        rw [show i + 1 + j = i + (j + 1) by omega]
theorem findKey_run (a : At) (w : World) (L : List (At × Int)) :
    (Instr.findKey 85 (atV a) (mapEs L)).run Try.prog w = .ok ((idxOf L a).bind fun j => L[j]?.map fun p => (j, .int .i64 p.2)) w := by
  have h := find_run a w L 0 0
  simp only [Nat.zero_add] at h
  have hu := run_underlying (w := w) Try.underlying85
  unfold Instr.findKey
  simp only [Sem.run_bind, hu, Result.andThen_ok]
  cases L with
  | nil => rfl
  | cons p L =>
    have e : ∀ k r, Instr.findNow k (atV a) (mapEs (p :: L)) 0 = none → ((match Instr.findNow k (atV a) (mapEs (p :: L)) 0 with | some r => pure r | none => Instr.findAsking 85 (atV a) (mapEs (p :: L))) : Sem (Option (Nat × Value))).run Try.prog w = r → (match Instr.findNow k (atV a) (mapEs (p :: L)) 0 with | some r => pure r | none => Instr.findAsking 85 (atV a) (mapEs (p :: L)) : Sem (Option (Nat × Value))).run Try.prog w = r := fun _ _ _ h => h
    rw [show ∀ fs, Instr.findNow (.struct fs) (atV a) (mapEs (p :: L)) 0 = none from fun fs => by simp [mapEs, List.mapIdx_cons, Instr.findNow, Instr.sameNow, atV]]
    exact h
theorem idxOf_some {L : List (At × Int)} {a : At} {j : Nat} (h : idxOf L a = some j) : ∃ p, L[j]? = some p ∧ sameAt a p.1 = true ∧ numOf L a = p.2 := by
  unfold idxOf at h
  obtain ⟨hj, h1, h2⟩ := List.findIdx?_eq_some_iff_getElem.1 h
  refine ⟨L[j], List.getElem?_eq_getElem hj, h1, ?_⟩
  unfold numOf
  have : L.find? (fun p => sameAt a p.1) = some L[j] := by
    rw [List.find?_eq_some_iff_getElem]
    exact ⟨h1, j, hj, rfl, fun k hk => by simpa using h2 k hk⟩
  rw [this]
theorem idxOf_none {L : List (At × Int)} {a : At} (h : idxOf L a = none) : (∀ p ∈ L, sameAt a p.1 = false) ∧ numOf L a = 0 := by
  unfold idxOf at h
  have h1 : ∀ p ∈ L, sameAt a p.1 = false := by simpa using h
  refine ⟨h1, ?_⟩
  unfold numOf
  have : L.find? (fun p => sameAt a p.1) = none := by simpa using h1
  rw [this]
theorem zero3 (w : World) : (zeroValue 3).run Try.prog w = .ok (.int .i64 0) w := by kernel_rfl
theorem look_run (W : World) (g : Nat) (L : List (At × Int)) (h : MapIs W g L) (a : At) : (Instr.lookup 93 (.map (some g)) (atV a) false).run Try.prog W = .ok (.int .i64 (numOf L a)) W := by
  have hk := findKey_run a W L
  unfold Instr.lookup
  simp only [Sem.run_bind, run_underlying Try.underlying93, Result.andThen_ok, MapKept.run_getObj_map h, run_chk, Sem.run_pure, hk]
  cases hi : idxOf L a with
  | none =>
    rw [(idxOf_none hi).2]
    simp [zero3]
  | some j =>
    obtain ⟨p, hp, _, hn⟩ := idxOf_some hi
    rw [hn]
    simp [hp]
theorem numOf_snoc {L : List (At × Int)} {a : At} (h : idxOf L a = none) (v : Int) : numOf (L ++ [(a, v)]) a = v := by
  have h1 := (idxOf_none h).1
  have h2 : L.find? (fun p => sameAt a p.1) = none := by simpa using h1
  unfold numOf
  rw [List.find?_append, h2]
  simp [sameAt_self]
theorem numOf_new {L : List (At × Int)} {a : At} (h : idxOf L a = none) : numOf (L ++ [(a, 0)]) a = numOf L a := by
  rw [numOf_snoc h, (idxOf_none h).2]
theorem sameBits_at (a b : At) (h : sameAt a b = true) : Instr.sameBits 10000 (atV a) (atV b) = true := by
  obtain rfl := (sameAt_iff a b).1 h
  show ((2 == 2) && ((#[Value.string a.f0, .string a.f1].toList.zip #[Value.string a.f0, .string a.f1].toList).all fun (x, y) => Instr.sameBits 9999 x y)) = true
  simp [Instr.sameBits, MapKept.bytes_beq]
theorem mapEs_length (L : List (At × Int)) : (mapEs L).length = L.length := by simp [mapEs]
theorem mapEs_get (L : List (At × Int)) (i : Nat) : (mapEs L)[i]? = L[i]?.map fun p => ⟨atV p.1, .int .i64 p.2, i⟩ := by simp [mapEs]
theorem mapEs_find (L : List (At × Int)) (j : Nat) (hj : j < L.length) : (mapEs L).findIdx? (fun e => (e.born : Int) == (j : Int)) = some j := by
  rw [List.findIdx?_eq_some_iff_getElem]
  refine ⟨by rw [mapEs_length]; exact hj, ?_, fun k hk => ?_⟩
  · simp [mapEs]
  · simp only [mapEs, List.getElem_mapIdx, Bool.not_eq_true, beq_eq_false_iff_ne]
    omega
theorem asInt_run (j : Nat) (w : World) : (asInt (.int .i64 (j : Int))).run Try.prog w = .ok (j : Int) w := by simp [asInt, asIntOf]
theorem entry_run (W : World) (g : Nat) (L : List (At × Int)) (h : MapIs W g L) (hl : L.length < 1000) (a : At) (v : Int) :
    ∃ W1 W2 j, (Instr.mapEntry 93 (.map (some g)) (atV a)).run Try.prog W = .ok (.tuple #[.int .i64 (numOf L a), .int .i64 j]) W1 ∧ (∃ L1, MapIs W1 g L1 ∧ numOf L1 a = numOf L a) ∧
      (Instr.entryStore 93 (.map (some g)) (.int .i64 j) (.int .i64 v)).run Try.prog W1 = .ok () W2 ∧ MapIs W2 g (putAt L a v) ∧ W.grownBy W2 (some g) ∧ (∀ p, p.block ≠ g → W1.cell? p = W.cell? p) := by
  have hk := findKey_run a W L
  have hb : ∀ (w : World) (es es' : Array MapEntry) (c c' : Nat), w.heap[g]? = some (.map es c) → (setBlock w g (.map es' c')).heap[g]? = some (.map es' c') := fun w es es' c c' hw => by
    have := (Array.getElem?_eq_some_iff.1 hw).1
    simp [setBlock, this]
  have hgr : ∀ (es : Array MapEntry) (c : Nat), W.grownBy (setBlock W g (.map es c)) (some g) := fun es c => ⟨rfl, rfl, rfl, by simp [setBlock], fun k _ hk => by simp only [setBlock]; rw [Array.getElem?_setIfInBounds_ne (fun e => hk (by rw [e]))]⟩
  have hc : ∀ (es : Array MapEntry) (c : Nat) (p : Addr), p.block ≠ g → (setBlock W g (.map es c)).cell? p = W.cell? p := fun es c p hp => by
    have : (setBlock W g (.map es c)).heap[p.block]? = W.heap[p.block]? := by simp only [setBlock]; rw [Array.getElem?_setIfInBounds_ne (fun e => hp e.symm)]
    simp [World.cell?, this]
  have hu := run_underlying (w := W) Try.underlying93
  cases hi : idxOf L a with
  | none =>
    rw [hi] at hk
    have e1 : (mapEs L).toArray.push ⟨atV a, .int .i64 0, L.length⟩ = (mapEs (L ++ [(a, 0)])).toArray := by
      simp [mapEs, List.mapIdx_append]
    have hm1 : (setBlock W g (.map (mapEs (L ++ [(a, 0)])).toArray (L.length + 1))).heap[g]? = some (.map (mapEs (L ++ [(a, 0)])).toArray (L.length + 1)) := hb W _ _ _ _ h
    refine ⟨setBlock W g (.map (mapEs (L ++ [(a, 0)])).toArray (L.length + 1)), setBlock W g (.map (mapEs (L ++ [(a, v)])).toArray (L.length + 1)), L.length, ?_, ⟨L ++ [(a, 0)], by unfold MapIs; rw [List.length_append]; exact hm1, numOf_new hi⟩, ?_, ?_, hgr _ _, fun p hp => hc _ _ p hp⟩
    · rw [(idxOf_none hi).2, ← e1]
      unfold Instr.mapEntry
      simp only [Sem.run_bind, hu, Result.andThen_ok, MapKept.run_getObj_map h, run_chk, Sem.run_pure, hk, Option.bind_none, zero3, MapKept.run_setObj_map _ h]
      rfl
    · have e2 : ((mapEs (L ++ [(a, 0)])).toArray.modify L.length fun e => { e with val := .int .i64 v }) = (mapEs (L ++ [(a, v)])).toArray := by
        apply Array.ext_getElem?
        intro k
        rw [Array.getElem?_modify]
        simp only [List.getElem?_toArray, mapEs_get]
        rcases Nat.lt_trichotomy k L.length with hk | hk | hk
        · rw [if_neg (by omega), List.getElem?_append_left hk, List.getElem?_append_left hk]
        · subst hk
          simp
        · rw [if_neg (by omega), List.getElem?_eq_none (by simp; omega), List.getElem?_eq_none (by simp; omega)]
      have hf : (mapEs (L ++ [(a, 0)])).toArray.findIdx? (fun e => (e.born : Int) == ((L.length : Nat) : Int)) = some L.length := by
        rw [List.findIdx?_toArray]
        exact mapEs_find _ _ (by simp)
      unfold Instr.entryStore
      simp only [Sem.run_bind, Result.andThen_ok, MapKept.run_getObj_map hm1, Sem.run_pure, asInt_run, hf, MapKept.run_setObj_map _ hm1, e2]
      simp [setBlock, Array.setIfInBounds_setIfInBounds]
    · have := hb W (mapEs L).toArray (mapEs (L ++ [(a, v)])).toArray L.length (L.length + 1) h
      unfold MapIs putAt
      rw [hi]
      simpa using this
  | some j =>
    obtain ⟨p, hp, hsm, hn⟩ := idxOf_some hi
    have hjl : j < L.length := (List.getElem?_eq_some_iff.1 hp).1
    rw [hi] at hk
    have hent : (mapEs L).toArray[j]? = some ⟨atV p.1, .int .i64 p.2, j⟩ := by
      rw [List.getElem?_toArray, mapEs_get, hp]
      rfl
    obtain rfl := (sameAt_iff a p.1).1 hsm
    have e1 : ((mapEs L).toArray.modify j fun e => { e with key := atV p.1 }) = (mapEs L).toArray := by
      apply Array.ext_getElem?
      intro k
      rw [Array.getElem?_modify]
      by_cases hk : k = j
      · subst hk
        rw [if_pos rfl, hent]
        rfl
      · rw [if_neg (fun e => hk e.symm)]
    have hm1 : (setBlock W g (.map (mapEs L).toArray L.length)).heap[g]? = some (.map (mapEs L).toArray L.length) := hb W _ _ _ _ h
    refine ⟨setBlock W g (.map (mapEs L).toArray L.length), setBlock W g (.map (mapEs (L.modify j fun q => (q.1, v))).toArray L.length), j, ?_, ⟨L, hm1, rfl⟩, ?_, ?_, hgr _ _, fun p hp => hc _ _ p hp⟩
    · rw [hn]
      unfold Instr.mapEntry
      simp only [Sem.run_bind, hu, Result.andThen_ok, MapKept.run_getObj_map h, run_chk, Sem.run_pure, hk, Option.bind_some, hp, Option.map_some, hent, Option.getD_some, Instr.keyThatStays, sameBits_at _ _ hsm, if_true, e1, MapKept.run_setObj_map _ h]
      rfl
    · have e2 : ((mapEs L).toArray.modify j fun e => { e with val := .int .i64 v }) = (mapEs (L.modify j fun q => (q.1, v))).toArray := by
        apply Array.ext_getElem?
        intro k
        rw [Array.getElem?_modify]
        simp only [List.getElem?_toArray, mapEs_get, List.getElem?_modify]
        by_cases hk : j = k
        · subst hk
          simp [hp]
        · simp [hk]
      have hf : (mapEs L).toArray.findIdx? (fun e => (e.born : Int) == ((j : Nat) : Int)) = some j := by
        rw [List.findIdx?_toArray]
        exact mapEs_find _ _ hjl
      unfold Instr.entryStore
      simp only [Sem.run_bind, Result.andThen_ok, MapKept.run_getObj_map hm1, Sem.run_pure, asInt_run, hf, MapKept.run_setObj_map _ hm1, e2]
      simp [setBlock, Array.setIfInBounds_setIfInBounds]
    · have := hb W (mapEs L).toArray (mapEs (L.modify j fun q => (q.1, v))).toArray L.length L.length h
      unfold MapIs putAt
      rw [hi]
      simpa using this
theorem numOf_put (L : List (At × Int)) (a : At) (v : Int) : numOf (putAt L a v) a = v := by
  unfold putAt
  cases hi : idxOf L a with
  | none => exact numOf_snoc hi v
  | some j =>
    have hi' := hi
    unfold idxOf at hi'
    obtain ⟨hj, h1, h2⟩ := List.findIdx?_eq_some_iff_getElem.1 hi'
    unfold numOf
    have : (L.modify j fun p => (p.1, v)).find? (fun p => sameAt a p.1) = some (L[j].1, v) := by
      rw [List.find?_eq_some_iff_getElem]
      refine ⟨h1, j, by simpa using hj, by simp, fun k hk => ?_⟩
      have := h2 k hk
      simp only [List.getElem_modify]
      rw [if_neg (by omega)]
      simpa using this
    rw [this]
end Go.Proofs.Ytemhalnhbgkbcaa.V
end

-- VFNamesMay
section
-- PRINTED by print.py (a twelfth state) out of the translation. Not trusted: Lean checks it.
namespace Go.Proofs.Ytemhalnhbgkbcaa.V
open Go.RowKit Go.Proofs.YtemhalnhbgkbcaaW.PrintWords Go.Proofs.YtemhalnhbgkbcaaW.PrintLast Go.Proofs.YtemhalnhbgkbcaaW.PrintMore
attribute [local go_sem] max2_int min2_int max_two min_two max_three min_three max_four min_four   -- for this text's walks alone
set_option linter.unusedVariables false
set_option linter.unusedSimpArgs false

/-! ### names_may: function 112 -/
mutual
def names_may.j0 : Nat → Int → Bool → Option (Bool)
  | 0, _, _ => none
  | k + 1, x0, x3 => if x3 = true then (names_may.j1 k x0 x3) else (if x0 ≥ 65 then (if x0 ≤ 90 then (names_may.j1 k x0 (decide (x0 ≤ 90))) else (if x0 ≥ 48 then (names_may.j1 k x0 (decide (x0 ≤ 57))) else (names_may.j1 k x0 false))) else (if x0 ≥ 48 then (names_may.j1 k x0 (decide (x0 ≤ 57))) else (names_may.j1 k x0 false)))
def names_may.j1 : Nat → Int → Bool → Option (Bool)
  | 0, _, _ => none
  | k + 1, x0, x3 => if x3 = true then (some true) else (if x0 = 46 then (some true) else (if x0 = 45 then (some true) else (if x0 = 95 then (some true) else (some false))))
end
def names_may.f (k : Nat) (a0 : Int) : Option (Bool) := if a0 ≥ 97 then (names_may.j0 k a0 (decide (a0 ≤ 122))) else (names_may.j0 k a0 false)
theorem names_may.mono_l : ∀ k, (∀ y0 y1, LeO (names_may.j0 k y0 y1) (names_may.j0 (k + 1) y0 y1)) ∧ (∀ y0 y1, LeO (names_may.j1 k y0 y1) (names_may.j1 (k + 1) y0 y1))
  | 0 => ⟨fun _ _ r h => by simp [names_may.j0] at h, fun _ _ r h => by simp [names_may.j1] at h⟩
  | k + 1 => by
    obtain ⟨ih0, ih1⟩ := names_may.mono_l k
    refine ⟨?_, ?_⟩
    · intro y0 y1
      unfold names_may.j0
      repeat' first
      | (with_reducible exact ih0 _ _)
      | (with_reducible exact ih1 _ _)
      | (with_reducible exact LeO.refl _)
      | (with_reducible exact LeO.none _)
      | (with_reducible refine LeO.ite ?_ ?_)
      | (with_reducible refine LeO.bind ?_ (fun _ => ?_))
      | exact ih0 _ _
      | exact ih1 _ _
      | exact LeO.none _
      | refine LeO.ite ?_ ?_
      | refine LeO.bind ?_ (fun _ => ?_)
    · intro y0 y1
      unfold names_may.j1
      repeat' first
      | (with_reducible exact ih0 _ _)
      | (with_reducible exact ih1 _ _)
      | (with_reducible exact LeO.refl _)
      | (with_reducible exact LeO.none _)
      | (with_reducible refine LeO.ite ?_ ?_)
      | (with_reducible refine LeO.bind ?_ (fun _ => ?_))
      | exact ih0 _ _
      | exact ih1 _ _
      | exact LeO.none _
      | refine LeO.ite ?_ ?_
      | refine LeO.bind ?_ (fun _ => ?_)
theorem names_may.mono : ∀ a0 k, LeO (names_may.f k a0) (names_may.f (k + 1) a0) := by
  intro a0 k
  obtain ⟨ih0, ih1⟩ := names_may.mono_l k
  unfold names_may.f
  repeat' first
      | (with_reducible exact ih0 _ _)
      | (with_reducible exact ih1 _ _)
      | (with_reducible exact LeO.refl _)
      | (with_reducible exact LeO.none _)
      | (with_reducible refine LeO.ite ?_ ?_)
      | (with_reducible refine LeO.bind ?_ (fun _ => ?_))
      | exact ih0 _ _
      | exact ih1 _ _
      | exact LeO.none _
      | refine LeO.ite ?_ ?_
      | refine LeO.bind ?_ (fun _ => ?_)
set_option maxHeartbeats 8000000 in
set_option maxRecDepth 100000 in
theorem names_may.calls (k : Nat) (a0 : Int) (r : Bool) (w : World) (h : names_may.f k a0 = some r) :
    Calls Try.prog 112 #[.int .i32 a0] w fun e w' => e = .returned (.bool r) ∧ Drawn0 w w' := by
  have H : (if a0 ≥ 97 then (names_may.j0 k a0 (decide (a0 ≤ 122))) else (names_may.j0 k a0 false)) = some r := h
  clear h
  have HC2 := Aside0.mk H
  clear H
  go_enter Try.func112, Try.ntmps112
  go_upto_region 1 with (fail)
  go_cut [3] (fun v3 wc => ∃ (kq : Nat) (x3_1 : Bool), v3 = .bool x3_1 ∧ Aside0 (names_may.j0 kq a0 x3_1 = some r) ∧ Aside0 (kq ≤ k) ∧ Drawn0 w wc)
  case first =>
    have H := HC2.out
    clear HC2
    by_cases c3 : a0 ≥ 97
    · rw [if_pos c3] at H
      have c3b0 : decide (97 ≤ a0) = true := decide_eq_true c3
      clear c3
      (first | rw [c3b0] | (simp only [i64_w, i32_w]; rw [c3b0]) | skip)
      have H' := Aside0.mk H
      clear H
      go_wp2
      go_meet
      case rel => exact ⟨_, (decide (a0 ≤ 122)), (by first | rfl | (simp; done) | (simp [*]; done)), H', ⟨by first | omega | exact Nat.le_refl _⟩, by repeat (first | exact Drawn0.refl _ | apply Drawn0.step)⟩
    · rw [if_neg c3] at H
      have c3b0 : decide (97 ≤ a0) = false := decide_eq_false c3
      clear c3
      (first | rw [c3b0] | (simp only [i64_w, i32_w]; rw [c3b0]) | skip)
      have H' := Aside0.mk H
      clear H
      go_wp2
      go_meet
      case rel => exact ⟨_, (false), (by first | rfl | (simp; done) | (simp [*]; done)), H', ⟨by first | omega | exact Nat.le_refl _⟩, by repeat (first | exact Drawn0.refl _ | apply Drawn0.step)⟩
  case rest =>
    clear HC2
    try clear c1
    try clear p2
    try clear c3
    try clear c3b0
    obtain ⟨kq, x3_1, rfl, HA, HJ1, ⟨mc1, rfl⟩⟩ := hcut
    cases kq with
    | zero => exact absurd HA.out (by simp [names_may.j0])
    | succ kj1 =>
      have H := HA.out
      clear HA
      simp only [names_may.j0] at H
      have HC4 := Aside0.mk H
      clear H
      go_upto_if 3 with (fail)
      go_cut [3] (fun v3 wc => ∃ (kq : Nat) (x3_3 : Bool), v3 = .bool x3_3 ∧ Aside0 (names_may.j1 kq a0 x3_3 = some r) ∧ Aside0 (kq ≤ kj1) ∧ Drawn0 w wc)
      case first =>
        have H := HC4.out
        clear HC4
        by_cases c5 : x3_1 = true
        · subst c5
          have H1 : (names_may.j1 kj1 a0 true) = some r := by rw [if_pos rfl] at H; exact H
          clear H
          have H := H1
          clear H1
          have H' := Aside0.mk H
          clear H
          go_wp2
          go_meet
          case rel => exact ⟨_, (true), (by first | rfl | (simp; done) | (simp [*]; done)), H', ⟨by have := HJ1.out; first | omega | exact Nat.le_refl _⟩, by repeat (first | exact Drawn0.refl _ | apply Drawn0.step)⟩
        · replace c5 := Bool.eq_false_iff.mpr c5
          subst c5
          have H1 : (if a0 ≥ 65 then (if a0 ≤ 90 then (names_may.j1 kj1 a0 (decide (a0 ≤ 90))) else (if a0 ≥ 48 then (names_may.j1 kj1 a0 (decide (a0 ≤ 57))) else (names_may.j1 kj1 a0 false))) else (if a0 ≥ 48 then (names_may.j1 kj1 a0 (decide (a0 ≤ 57))) else (names_may.j1 kj1 a0 false))) = some r := by rw [if_neg (show ¬ (false = true) by decide)] at H; exact H
          clear H
          have H := H1
          clear H1
          by_cases c6 : a0 ≥ 65
          · rw [if_pos c6] at H
            have c6b0 : decide (65 ≤ a0) = true := decide_eq_true c6
            clear c6
            (first | rw [c6b0] | (simp only [i64_w, i32_w]; rw [c6b0]) | skip)
            by_cases c7 : a0 ≤ 90
            · rw [if_pos c7] at H
              have c7b0 : decide (a0 ≤ 90) = true := decide_eq_true c7
              clear c7
              have H' := Aside0.mk H
              clear H
              go_wp2
              go_meet
              case rel => exact ⟨_, (decide (a0 ≤ 90)), (by first | rfl | (simp; done) | (simp [*]; done)), H', ⟨by have := HJ1.out; first | omega | exact Nat.le_refl _⟩, by repeat (first | exact Drawn0.refl _ | apply Drawn0.step)⟩
            · rw [if_neg c7] at H
              have c7b0 : decide (a0 ≤ 90) = false := decide_eq_false c7
              clear c7
              by_cases c8 : a0 ≥ 48
              · rw [if_pos c8] at H
                have c8b0 : decide (48 ≤ a0) = true := decide_eq_true c8
                clear c8
                have H' := Aside0.mk H
                clear H
                go_wp2
                go_meet
                case rel => exact ⟨_, (decide (a0 ≤ 57)), (by first | rfl | (simp; done) | (simp [*]; done)), H', ⟨by have := HJ1.out; first | omega | exact Nat.le_refl _⟩, by repeat (first | exact Drawn0.refl _ | apply Drawn0.step)⟩
              · rw [if_neg c8] at H
                have c8b0 : decide (48 ≤ a0) = false := decide_eq_false c8
                clear c8
                have H' := Aside0.mk H
                clear H
                go_wp2
                go_meet
                case rel => exact ⟨_, (false), (by first | rfl | (simp; done) | (simp [*]; done)), H', ⟨by have := HJ1.out; first | omega | exact Nat.le_refl _⟩, by repeat (first | exact Drawn0.refl _ | apply Drawn0.step)⟩
          · rw [if_neg c6] at H
            have c6b0 : decide (65 ≤ a0) = false := decide_eq_false c6
            clear c6
            (first | rw [c6b0] | (simp only [i64_w, i32_w]; rw [c6b0]) | skip)
            by_cases c9 : a0 ≥ 48
            · rw [if_pos c9] at H
              have c9b0 : decide (48 ≤ a0) = true := decide_eq_true c9
              clear c9
              have H' := Aside0.mk H
              clear H
              go_wp2
              go_meet
              case rel => exact ⟨_, (decide (a0 ≤ 57)), (by first | rfl | (simp; done) | (simp [*]; done)), H', ⟨by have := HJ1.out; first | omega | exact Nat.le_refl _⟩, by repeat (first | exact Drawn0.refl _ | apply Drawn0.step)⟩
            · rw [if_neg c9] at H
              have c9b0 : decide (48 ≤ a0) = false := decide_eq_false c9
              clear c9
              have H' := Aside0.mk H
              clear H
              go_wp2
              go_meet
              case rel => exact ⟨_, (false), (by first | rfl | (simp; done) | (simp [*]; done)), H', ⟨by have := HJ1.out; first | omega | exact Nat.le_refl _⟩, by repeat (first | exact Drawn0.refl _ | apply Drawn0.step)⟩
      case rest =>
        clear HC4
        try clear c1
        try clear p2
        try clear c3
        try clear c3b0
        try clear c5
        try clear c6
        try clear c6b0
        try clear c7
        try clear c7b0
        try clear c8
        try clear c8b0
        try clear c9
        try clear c9b0
        try clear p2
        obtain ⟨kq, x3_3, rfl, HA, HJ3, ⟨mc3, rfl⟩⟩ := hcut
        cases kq with
        | zero => exact absurd HA.out (by simp [names_may.j1])
        | succ kj3 =>
          have H := HA.out
          clear HA
          simp only [names_may.j1] at H
          by_cases c10 : x3_3 = true
          · subst c10
            have H1 : (some true) = some r := by rw [if_pos rfl] at H; exact H
            clear H
            have H := H1
            clear H1
            obtain rfl := Option.some.inj H
            go_wp2
            go_ret
            exact ⟨by first | rfl | (simp; done) | (simp [*]; done), by repeat (first | exact Drawn0.refl _ | apply Drawn0.step)⟩
          · replace c10 := Bool.eq_false_iff.mpr c10
            subst c10
            have H1 : (if a0 = 46 then (some true) else (if a0 = 45 then (some true) else (if a0 = 95 then (some true) else (some false)))) = some r := by rw [if_neg (show ¬ (false = true) by decide)] at H; exact H
            clear H
            have H := H1
            clear H1
            by_cases c11 : a0 = 46
            · rw [if_pos c11] at H
              have c11b0 : (a0 == 46) = true := beq_iff_eq.mpr c11
              have c11b1 : (a0 != 46) = false := bne_eq_false_iff_eq.mpr c11
              clear c11
              obtain rfl := Option.some.inj H
              go_wp2
              go_ret
              exact ⟨by first | rfl | (simp; done) | (simp [*]; done), by repeat (first | exact Drawn0.refl _ | apply Drawn0.step)⟩
            · rw [if_neg c11] at H
              have c11b0 : (a0 == 46) = false := beq_eq_false_iff_ne.mpr c11
              have c11b1 : (a0 != 46) = true := bne_iff_ne.mpr c11
              by_cases c12 : a0 = 45
              · rw [if_pos c12] at H
                have c12b0 : (a0 == 45) = true := beq_iff_eq.mpr c12
                have c12b1 : (a0 != 45) = false := bne_eq_false_iff_eq.mpr c12
                clear c12
                obtain rfl := Option.some.inj H
                go_wp2
                go_ret
                exact ⟨by first | rfl | (simp; done) | (simp [*]; done), by repeat (first | exact Drawn0.refl _ | apply Drawn0.step)⟩
              · rw [if_neg c12] at H
                have c12b0 : (a0 == 45) = false := beq_eq_false_iff_ne.mpr c12
                have c12b1 : (a0 != 45) = true := bne_iff_ne.mpr c12
                by_cases c13 : a0 = 95
                · rw [if_pos c13] at H
                  have c13b0 : (a0 == 95) = true := beq_iff_eq.mpr c13
                  have c13b1 : (a0 != 95) = false := bne_eq_false_iff_eq.mpr c13
                  clear c13
                  obtain rfl := Option.some.inj H
                  go_wp2
                  go_ret
                  exact ⟨by first | rfl | (simp; done) | (simp [*]; done), by repeat (first | exact Drawn0.refl _ | apply Drawn0.step)⟩
                · rw [if_neg c13] at H
                  have c13b0 : (a0 == 95) = false := beq_eq_false_iff_ne.mpr c13
                  have c13b1 : (a0 != 95) = true := bne_iff_ne.mpr c13
                  obtain rfl := Option.some.inj H
                  go_wp2
                  go_ret
                  exact ⟨by first | rfl | (simp; done) | (simp [*]; done), by repeat (first | exact Drawn0.refl _ | apply Drawn0.step)⟩
end Go.Proofs.Ytemhalnhbgkbcaa.V
end

