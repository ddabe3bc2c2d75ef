/- The law ViewApart for every input: texts of ours, put together (part 4 of 16). No further condition. -/
import Derived.Test.YtndddnglapkplaaGreatDoorCViewApartx2
import Derived.Test.YtndddnglapkplaaGreatDoorProg
import Derived.Below
import Derived.Deep.Draws
import Derived.Deep.AppendLies
import Derived.Maps.AppendAt
import Derived.OwnWalk
import Derived.Laws.BytesArg
import Derived.Laws.MakeOwn
import Derived.Laws.OwnMore
import Derived.Deep.OwnRows
import Derived.Tactics
import Derived.Lib.ConvBytes
import Derived.Laws.Slices
import Derived.WalkKit
import Derived.KernelRfl
import Derived.RowKit3
import Derived.Deep.LoopGhost
import Derived.Deep.QuietTactic
import Derived.BigQuiet
import Derived.WideLaws
import Derived.Deep.DeepCutAuto
import Derived.Deep.CutBlock
import Derived.Deep.RegionHeld3
import Derived.Laws.Rows
import Derived.Lib.AppendStr
import Derived.ArgAppend
import Derived.Laws.IdiomCopy
import Derived.OrdersHeld
import Derived.Laws.BitsLemmas
import Derived.RowKit
import Derived.Test.YtndddnglapkplaaGreatDoorCViewApartw0
import Derived.Test.YtndddnglapkplaaGreatDoorCViewApartw1
import Derived.Laws.BitsAllLaws
import Derived.Laws.Bits64
import Derived.Laws.StructEq
import Derived.Stop.BytesEq
import Derived.Laws.Tables
import Derived.Laws.CopyOwn
import Derived.Outline
import Derived.MapKept
import Derived.ChangeMaps4
set_option linter.unusedVariables false
set_option linter.unusedSimpArgs false
open Go.RowKit Go.Proofs.YtndddnglapkplaaGreatDoorW.PrintWords Go.Proofs.YtndddnglapkplaaGreatDoorW.PrintLast Go.Proofs.YtndddnglapkplaaGreatDoorW.PrintMore Go.Proofs.YtndddnglapkplaaGreatDoor.Z
section
namespace Go.Proofs.YtndddnglapkplaaGreatDoor.V
attribute [local go_sem] bI bG bP bO bw bu bH bF
def L7 : Option Int → Value
 | none => .nilIface
 | some c => .iface 0 (.int .i64 c)
theorem aq : L7 none = .nilIface := rfl
theorem ao (c : Int) : L7 (some c) = .iface 0 (.int .i64 c) := rfl
theorem Ie : (Tryz.prog.info? 5).map (fun i => (i.zero, i.size, i.bytes)) = some (some (.int .u8 0), 1, 1) := by kernel_rfl
theorem NZ : (Tryz.prog.info? 9).map (fun i => (i.zero, i.size, i.bytes)) = some (some (.string ⟨#[]⟩), 1, 16) := by kernel_rfl
theorem Ll : (Tryz.prog.info? 69).map (fun i => (i.zero, i.size, i.bytes)) = some (some (.agg #[(.int .u32 0), (.int .i64 0), (.bool false)]), 3, 24) := by kernel_rfl
theorem Lk : (Tryz.prog.info? 78).map (fun i => (i.zero, i.size, i.bytes)) = some (some (.agg #[(.string ⟨#[]⟩), (.string ⟨#[]⟩)]), 2, 32) := by kernel_rfl
theorem Jz : (Tryz.prog.info? 145).map (fun i => (i.zero, i.size, i.bytes)) = some (some (.agg #[(.int .u32 0), (.int .i64 0)]), 2, 16) := by kernel_rfl
structure S67 where
 f0 : Int
 f1 : Int
def Ub : S67 := ⟨(0 : Int), (0 : Int)⟩
def Lh : Kd S67 := Kd.iso (Kd.pair (Kd.int .u32) (Kd.int .i64)) (fun x : S67 => (x.f0, x.f1))
theorem Ge {w : World} {x : S67} {cs : List Value} (h : Lh.K w x cs) : cs = [.int .u32 x.f0, .int .i64 x.f1] := by
 obtain ⟨_, _, rfl, rfl, rfl⟩ := h
 exact rfl
theorem Jw (w : World) (base : Nat) (ok : Nat → Prop) (x : S67)  : Lh.M w base ok x [.int .u32 x.f0, .int .i64 x.f1] := ⟨[.int .u32 x.f0], [.int .i64 x.f1], rfl, rfl, rfl⟩
structure S69 where
 f0 : S67
 f1 : Bool
def Po : S69 := ⟨Ub, false⟩
def xF : Kd S69 := Kd.iso (Kd.pair Lh Kd.bool) (fun x : S69 => (x.f0, x.f1))
theorem Gd {w : World} {x : S69} {cs : List Value} (h : xF.K w x cs) : cs = [.int .u32 x.f0.f0, .int .i64 x.f0.f1, .bool x.f1] := by
 obtain ⟨_, _, rfl, s0, rfl⟩ := h
 obtain rfl := Ge s0
 exact rfl
theorem Jv (w : World) (base : Nat) (ok : Nat → Prop) (x : S69)  : xF.M w base ok x [.int .u32 x.f0.f0, .int .i64 x.f0.f1, .bool x.f1] := ⟨[.int .u32 x.f0.f0, .int .i64 x.f0.f1], [.bool x.f1], rfl, (Jw w base ok x.f0 ), rfl⟩
def vB (xs : List S69) (i : Int) : S69 := xs.getD i.toNat Po
theorem Mw {w : World} {A : Option Addr} {n : Nat} {xs : List S69} (h : Kd.C xF w A n xs) (i : Int) (h0 : 0 ≤ i) (h1 : i < n) : ∃ ad , A = some ad ∧ w.cell? (ad.add (i.toNat * 3)) = some (.int .u32 (vB xs i).f0.f0) ∧ w.cell? ⟨(ad.add (i.toNat * 3)).block, (ad.add (i.toNat * 3)).off + 1, none⟩ = some (.int .i64 (vB xs i).f0.f1) ∧ w.cell? ⟨(ad.add (i.toNat * 3)).block, (ad.add (i.toNat * 3)).off + 2, none⟩ = some (.bool (vB xs i).f1) := by
 obtain ⟨ad, c, e, _, hK, gX⟩ := Kd.C_get h Po i h0 h1
 have hc : ∀ j u, c[j]? = some u → w.cell? (ad.add (i.toNat * 3 + j)) = some u := gX
 obtain rfl := Gd hK
 exact ⟨ad, e, hc 0 _ rfl, by rw [← ln _ _ 1 (by omega)]; exact hc 1 _ rfl, by rw [← ln _ _ 2 (by omega)]; exact hc 2 _ rfl⟩
structure S58 where
 f0 : ByteArray
 f1 : ByteArray
 f2 : Int
def Pp : S58 := ⟨(⟨#[]⟩ : ByteArray), (⟨#[]⟩ : ByteArray), (0 : Int)⟩
def vI : Kd S58 := Kd.iso (Kd.pair Kd.string (Kd.pair Kd.string (Kd.int .i64))) (fun x : S58 => (x.f0, x.f1, x.f2))
theorem Gf {w : World} {x : S58} {cs : List Value} (h : vI.K w x cs) : cs = [.string x.f0, .string x.f1, .int .i64 x.f2] := by
 obtain ⟨_, _, rfl, rfl, ⟨_, _, rfl, rfl, rfl⟩⟩ := h
 exact rfl
theorem Li (w : World) (x : S58)  : vI.K w x [.string x.f0, .string x.f1, .int .i64 x.f2] := ⟨[.string x.f0], [.string x.f1, .int .i64 x.f2], rfl, rfl, ⟨[.string x.f1], [.int .i64 x.f2], rfl, rfl, rfl⟩⟩
def qy (xs : List S58) (i : Int) : S58 := xs.getD i.toNat Pp
theorem Ai {w : World} {A : Option Addr} {n : Nat} {xs : List S58} (h : Kd.C vI w A n xs) (i : Int) (h0 : 0 ≤ i) (h1 : i < n) : ∃ ad , A = some ad ∧ w.cell? (ad.add (i.toNat * 3)) = some (.string (qy xs i).f0) ∧ w.cell? ⟨(ad.add (i.toNat * 3)).block, (ad.add (i.toNat * 3)).off + 1, none⟩ = some (.string (qy xs i).f1) ∧ w.cell? ⟨(ad.add (i.toNat * 3)).block, (ad.add (i.toNat * 3)).off + 2, none⟩ = some (.int .i64 (qy xs i).f2) := by
 obtain ⟨ad, c, e, _, hK, gX⟩ := Kd.C_get h Pp i h0 h1
 have hc : ∀ j u, c[j]? = some u → w.cell? (ad.add (i.toNat * 3 + j)) = some u := gX
 obtain rfl := Gf hK
 exact ⟨ad, e, hc 0 _ rfl, by rw [← ln _ _ 1 (by omega)]; exact hc 1 _ rfl, by rw [← ln _ _ 2 (by omega)]; exact hc 2 _ rfl⟩
structure S43 where
 f0 : Int
 f1 : Int
def Ud : S43 := ⟨(0 : Int), (0 : Int)⟩
structure S45 where
 f0 : S43
 f1 : Bool
def Uc : S45 := ⟨Ud, false⟩
structure S78 where
 f0 : ByteArray
 f1 : ByteArray
def Pn : S78 := ⟨(⟨#[]⟩ : ByteArray), (⟨#[]⟩ : ByteArray)⟩
def lP : Kd S78 := Kd.iso (Kd.pair Kd.string Kd.string) (fun x : S78 => (x.f0, x.f1))
theorem Gc {w : World} {x : S78} {cs : List Value} (h : lP.K w x cs) : cs = [.string x.f0, .string x.f1] := by
 obtain ⟨_, _, rfl, rfl, rfl⟩ := h
 exact rfl
theorem Ju (w : World) (base : Nat) (ok : Nat → Prop) (x : S78)  : lP.M w base ok x [.string x.f0, .string x.f1] := ⟨[.string x.f0], [.string x.f1], rfl, rfl, rfl⟩
def bc (xs : List S78) (i : Int) : S78 := xs.getD i.toNat Pn
theorem wi {w : World} {A : Option Addr} {n : Nat} {xs : List S78} (h : Kd.C lP w A n xs) (i : Int) (h0 : 0 ≤ i) (h1 : i < n) : ∃ ad , A = some ad ∧ w.cell? (ad.add (i.toNat * 2)) = some (.string (bc xs i).f0) ∧ w.cell? ⟨(ad.add (i.toNat * 2)).block, (ad.add (i.toNat * 2)).off + 1, none⟩ = some (.string (bc xs i).f1) := by
 obtain ⟨ad, c, e, _, hK, gX⟩ := Kd.C_get h Pn i h0 h1
 have hc : ∀ j u, c[j]? = some u → w.cell? (ad.add (i.toNat * 2 + j)) = some u := gX
 obtain rfl := Gc hK
 exact ⟨ad, e, hc 0 _ rfl, by rw [← ln _ _ 1 (by omega)]; exact hc 1 _ rfl⟩
structure S49 where
 f0 : Int
 f1 : ByteArray
 f2 : (List Int)
 f3 : (List Int)
 f4 : (List S78)
def z49 : S49 := ⟨(0 : Int), (⟨#[]⟩ : ByteArray), ([] : List Int), ([] : List Int), ([] : List S78)⟩
structure S144 where
 f0 : Int
 f1 : Int
structure S51 where
 f0 : Int
 f1 : ByteArray
 f2 : Int
 f3 : S45
 f4 : S49
 f5 : Int
 f6 : (List S144)
 f7 : Bool
def z51 : S51 := ⟨(0 : Int), (⟨#[]⟩ : ByteArray), (0 : Int), Uc, z49, (0 : Int), ([] : List S144), false⟩
structure S81 where
 f0 : ByteArray
 f1 : ByteArray
def Pm : S81 := ⟨(⟨#[]⟩ : ByteArray), (⟨#[]⟩ : ByteArray)⟩
def vH : Kd S81 := Kd.iso (Kd.pair Kd.string Kd.string) (fun x : S81 => (x.f0, x.f1))
theorem Gb {w : World} {x : S81} {cs : List Value} (h : vH.K w x cs) : cs = [.string x.f0, .string x.f1] := by
 obtain ⟨_, _, rfl, rfl, rfl⟩ := h
 exact rfl
theorem Jt (w : World) (base : Nat) (ok : Nat → Prop) (x : S81)  : vH.M w base ok x [.string x.f0, .string x.f1] := ⟨[.string x.f0], [.string x.f1], rfl, rfl, rfl⟩
def lN (xs : List S81) (i : Int) : S81 := xs.getD i.toNat Pm
theorem Mu {w : World} {A : Option Addr} {n : Nat} {xs : List S81} (h : Kd.C vH w A n xs) (i : Int) (h0 : 0 ≤ i) (h1 : i < n) : ∃ ad , A = some ad ∧ w.cell? (ad.add (i.toNat * 2)) = some (.string (lN xs i).f0) ∧ w.cell? ⟨(ad.add (i.toNat * 2)).block, (ad.add (i.toNat * 2)).off + 1, none⟩ = some (.string (lN xs i).f1) := by
 obtain ⟨ad, c, e, _, hK, gX⟩ := Kd.C_get h Pm i h0 h1
 have hc : ∀ j u, c[j]? = some u → w.cell? (ad.add (i.toNat * 2 + j)) = some u := gX
 obtain rfl := Gb hK
 exact ⟨ad, e, hc 0 _ rfl, by rw [← ln _ _ 1 (by omega)]; exact hc 1 _ rfl⟩
structure S145 where
 f0 : Int
 f1 : Int
def z145 : S145 := ⟨(0 : Int), (0 : Int)⟩
def rC : Kd S145 := Kd.iso (Kd.pair (Kd.int .u32) (Kd.int .i64)) (fun x : S145 => (x.f0, x.f1))
theorem ED {w : World} {x : S145} {cs : List Value} (h : rC.K w x cs) : cs = [.int .u32 x.f0, .int .i64 x.f1] := by
 obtain ⟨_, _, rfl, rfl, rfl⟩ := h
 exact rfl
theorem Gg (w : World) (base : Nat) (ok : Nat → Prop) (x : S145)  : rC.M w base ok x [.int .u32 x.f0, .int .i64 x.f1] := ⟨[.int .u32 x.f0], [.int .i64 x.f1], rfl, rfl, rfl⟩
def aE (xs : List S145) (i : Int) : S145 := xs.getD i.toNat z145
theorem mA {w : World} {A : Option Addr} {n : Nat} {xs : List S145} (h : Kd.C rC w A n xs) (i : Int) (h0 : 0 ≤ i) (h1 : i < n) : ∃ ad , A = some ad ∧ w.cell? (ad.add (i.toNat * 2)) = some (.int .u32 (aE xs i).f0) ∧ w.cell? ⟨(ad.add (i.toNat * 2)).block, (ad.add (i.toNat * 2)).off + 1, none⟩ = some (.int .i64 (aE xs i).f1) := by
 obtain ⟨ad, c, e, _, hK, gX⟩ := Kd.C_get h z145 i h0 h1
 have hc : ∀ j u, c[j]? = some u → w.cell? (ad.add (i.toNat * 2 + j)) = some u := gX
 obtain rfl := ED hK
 exact ⟨ad, e, hc 0 _ rfl, by rw [← ln _ _ 1 (by omega)]; exact hc 1 _ rfl⟩
end Go.Proofs.YtndddnglapkplaaGreatDoor.V
end

section
namespace Go.Proofs.YtndddnglapkplaaGreatDoor.V
theorem wrap_u64 (n : Int) (h0 : 0 ≤ n) (h : n < 18446744073709551616) : IntKind.u64.wrap n = n := by rw [IntKind.wrap_u64]; omega
theorem oI (n : Nat) (h : n < 18446744073709551616) : IntKind.u64.wrap (n : Int) = (n : Int) := wrap_u64 _ (by omega) (by omega)
theorem bM (n : Int) (h0 : -9223372036854775808 ≤ n) (h : n < 9223372036854775808) : wrap64 n = n := by unfold wrap64; omega
theorem oK (i : Nat) (h : i < 64) : (2 : Nat) ^ i < 18446744073709551616 :=
 Nat.lt_of_lt_of_le (Nat.pow_lt_pow_right (by omega) h) (by decide)
end Go.Proofs.YtndddnglapkplaaGreatDoor.V
end

section
namespace Go.Proofs.YtndddnglapkplaaGreatDoor.V
def bS (W : World) (g : Nat) (cs : List Value) (t : Nat) : Prop := W.heap[g]? = some (.cells cs.toArray t (0, 0))
theorem bS.cell {W : World} {g : Nat} {cs : List Value} {t : Nat} (h : bS W g cs t) (j : Nat) (v : Value) (hv : cs[j]? = some v) : W.cell? ⟨g, j, none⟩ = some v := by
 rw [cell_of_row W g j _ t (0, 0) h]
 simpa using hv
theorem bS.frozen {W : World} {g : Nat} {cs : List Value} {t : Nat} (h : bS W g cs t) (j : Nat) : W.frozen? ⟨g, j, none⟩ = false := frozen_of_row W g j _ t h
theorem bS.lt {W : World} {g : Nat} {cs : List Value} {t : Nat} (h : bS W g cs t) : g < W.heap.size := (Array.getElem?_eq_some_iff.1 h).1
theorem bS.below {W W1 : World} {g : Nat} {cs : List Value} {t : Nat} (h : bS W g cs t) (hb : Below W.heap.size W W1) : bS W1 g cs t := (hb.block g h.lt).trans h
theorem bS.grown {W W1 : World} {g : Nat} {cs : List Value} {t : Nat} (h : bS W g cs t) {row : Option Nat} (hg : W.grownBy W1 row) (hne : some g ≠ row) : bS W1 g cs t := (hg.block g h.lt hne).trans h
theorem bS.drewN {W : World} {g : Nat} {cs : List Value} {t : Nat} (h : bS W g cs t) (n : Nat) : bS (W.drewN n) g cs t := h
theorem bS.alloc {W : World} {g : Nat} {cs : List Value} {t : Nat} (h : bS W g cs t) (o : Obj) : bS (W.alloc o) g cs t := h.below (aa (Below.refl _ _) o)
theorem bS.set {W : World} {g : Nat} {cs : List Value} {t : Nat} (h : bS W g cs t) (j : Nat) (v : Value) : bS (W.setCell ⟨g, j, none⟩ v) g (cs.set j v) t := by
 have := heap_setCell_same W g j _ t v h
 unfold bS
 rw [this]
 congr 2
 simp
theorem bS.far {W : World} {g : Nat} {cs : List Value} {t : Nat} (h : bS W g cs t) {p : Addr} (hne : g ≠ p.block) (v : Value) : bS (W.setCell p v) g cs t := (Below.heap_setCell W p v g hne).trans h
theorem bS.ne_row {W : World} {g : Nat} {cs : List Value} {t : Nat} (h : bS W g cs t) {α : Type} {d : Kd α} {e base : Nat} {ok : Nat → Prop} {v : Value} {xs : List α} (hr : d.R e W base ok v xs) (ht : e ≠ t) : some g ≠ v.ownBlock := Kd.R_ne hr h ht
section
variable {P : Program} {ops : Array Oper} {rest : List Oper} {o : Oper} {a : Act} {w : World} {Q : Exit → Act → World → Prop}
theorem cS (w : World) (g j : Nat) (v : Value) : w.grownBy (w.setCell ⟨g, j, none⟩ v) (some g) :=
 ⟨rfl, rfl, rfl, by simp [World.setCell], fun k _ hk => Below.heap_setCell _ _ _ _ (fun e => hk (by rw [e]))⟩
theorem oL (w : World) (g : Nat) (cs : Array Value) : w.grownBy (w.setRow g cs) (some g) :=
 ⟨rfl, rfl, rfl, by simp, fun k _ hk => setRow_other w g k cs (fun e => hk (by rw [e]))⟩
theorem fL (hgd : o.guard = none) (ty : TypeId) (x : Operand) (ho : o.op = .box ty x) (cs : List Value) (hx : a.eval x = .agg cs.toArray)
  (h : ∀ g W1, w.heap.size ≤ g → bS W1 g cs ty → Below w.heap.size w W1 → wpList P ops Q rest (a.put o.dst (.pointer (some ⟨g, 0, none⟩))) W1) : wpList P ops Q (o :: rest) a w := by
 refine wpList_plain hgd fun K hK => ?_
 have := hK _ _ (h w.heap.size (w.alloc (.cells cs.toArray ty)) (Nat.le_refl _) (heap_alloc_new w _) (aa (Below.refl _ _) _))
 unfold Oper.wp execOp
 simp only [ho, hx, Instr.box, newVar, newRow, newObj, Value.cells]
 exact this
theorem CK (hgd : o.guard = none) (ty : TypeId) (ho : o.op = .alloc ty) (cs : List Value) (hz : ∀ w, (zeroValue ty).run P w = .ok (.agg cs.toArray) w)
  (h : ∀ g W1, w.heap.size ≤ g → bS W1 g cs ty → Below w.heap.size w W1 → wpList P ops Q rest (a.put o.dst (.pointer (some ⟨g, 0, none⟩))) W1) : wpList P ops Q (o :: rest) a w := by
 refine wpList_plain hgd fun K hK => ?_
 have := hK _ _ (h w.heap.size (w.alloc (.cells cs.toArray ty)) (Nat.le_refl _) (heap_alloc_new w _) (aa (Below.refl _ _) _))
 unfold Oper.wp execOp
 simp only [ho, Instr.alloc, newVar, newRow, newObj, Value.cells, Sem.run_bind, hz, Result.andThen_ok]
 exact this
theorem a6 (N : Option Tmp) (hN : o.dst = N) (hgd : o.guard = none) (ty : TypeId) (ho : o.op = .alloc ty) (cs : List Value) (hz : ∀ w, (zeroValue ty).run P w = .ok (.agg cs.toArray) w)
  (h : ∀ g W1, w.heap.size ≤ g → bS W1 g cs ty → Below w.heap.size w W1 → wpList P ops Q rest (a.put o.dst (.pointer (some ⟨g, 0, none⟩))) W1) : wpList P ops Q (o :: rest) a w := CK hgd ty ho cs hz h
theorem bN (hgd : o.guard = none) (ty : TypeId) (x : Operand) (ho : o.op = .load ty x) (g : Nat) (hx : a.eval x = .pointer (some ⟨g, 0, none⟩)) (t : Nat) (cs : List Value) (d : TypeDesc) (hb : bS w g cs t)
  (hu : P.underlying ty = some d) (hd : (match d with | .struct _ | .array _ _ => true | _ => false) = true) (n : Nat) (hi : (P.info? ty).map (·.size) = some n) (hn : cs.length = n)
  (h : wpList P ops Q rest (a.put o.dst (.agg cs.toArray)) w) : wpList P ops Q (o :: rest) a w :=
 wpList_load_row hgd ty x ho g hx t cs.toArray (0, 0) d hb hu hd (by rw [hi]; simp [hn]) h
theorem sk (w : World) (g t off : Nat) (ty : TypeId) (cs part : List Value) (d : TypeDesc) (hb : bS w g cs t) (hp : ∀ j v, part[j]? = some v → cs[off + j]? = some v)
  (hu : P.underlying ty = some d) (hd : (match d with | .struct _ | .array _ _ => true | _ => false) = true) (hi : (P.info? ty).map (·.size) = some part.length) :
  (loadVar ty ⟨g, off, none⟩).run P w = .ok (.agg part.toArray) w := by
 have hl : (loadCells ⟨g, off, none⟩ part.length).run P w = .ok part.toArray w :=
  run_loadCells_list (P := P) w ⟨g, off, none⟩ part (fun j v hv => by
   rw [MB]
   exact hb.cell _ _ (hp j v hv))
 cases hq : P.info? ty with
 | none => simp [hq] at hi
 | some i =>
  have hs : i.size = part.length := by simpa [hq] using hi
  cases d <;> simp at hd <;> simp [loadVar, isAgg, run_underlying hu, sizeOf, typeInfo, hq, hs, hl]
theorem kQ {o : Oper} {a : Act} {w : World} (ty : TypeId) (x : Operand) (ho : o.op = .load ty x) (g : Nat) (hx : a.eval x = .pointer (some ⟨g, 0, none⟩)) (t : Nat) (cs : List Value) (d : TypeDesc) (hb : bS w g cs t)
  (hu : P.underlying ty = some d) (hd : (match d with | .struct _ | .array _ _ => true | _ => false) = true) (hi : (P.info? ty).map (·.size) = some cs.length) :
  (execOp a.eval o).run P w = .ok (.value (.agg cs.toArray)) w := by
 unfold execOp
 simp only [ho, hx, Instr.loadAt, Instr.sureAddr, Sem.run_bind, Sem.run_pure, Result.andThen_ok, sk w g t 0 ty cs cs d hb (fun j v hv => by rw [Nat.zero_add]; exact hv) hu hd hi]
theorem lV (hgd : o.guard = none) (ty : TypeId) (x : Operand) (ho : o.op = .load ty x) (g off : Nat) (hx : a.eval x = .pointer (some ⟨g, off, none⟩)) (t : Nat) (cs part : List Value) (d : TypeDesc) (hb : bS w g cs t)
  (hp : ∀ j v, part[j]? = some v → cs[off + j]? = some v)
  (hu : P.underlying ty = some d) (hd : (match d with | .struct _ | .array _ _ => true | _ => false) = true) (hi : (P.info? ty).map (·.size) = some part.length)
  (h : wpList P ops Q rest (a.put o.dst (.agg part.toArray)) w) : wpList P ops Q (o :: rest) a w := by
 refine wpList_plain hgd fun K hK => ?_
 unfold Oper.wp execOp
 simp only [ho, hx, Instr.loadAt, Instr.sureAddr, Sem.run_bind, Sem.run_pure, Result.andThen_ok, sk w g t off ty cs part d hb hp hu hd hi]
 exact hK _ _ h
theorem aM (hgd : o.guard = none) (ty : TypeId) (x y : Operand) (ho : o.op = .store ty x y) (g : Nat) (cs : List Value) (hx : a.eval x = .pointer (some ⟨g, 0, none⟩)) (hy : a.eval y = .agg cs.toArray)
  (t : Nat) (nZ : List Value) (hb : bS w g nZ t) (n : Nat) (hi : (P.info? ty).map (·.size) = some n) (hn : cs.length = n) (hold : nZ.length = n) (h1 : ∀ v ∈ cs, v.oneCell' = true)
  (h : ∀ W1, bS W1 g cs t → w.grownBy W1 (some g) → wpList P ops Q rest (a.put o.dst undef) W1) : wpList P ops Q (o :: rest) a w :=
 wpList_store_row hgd ty x y ho g cs.toArray hx hy t nZ.toArray hb (by rw [hi]; simp [hn]) (by simp; omega) (by rw [Array.all_eq_true_iff_forall_mem]; intro v hv; exact h1 v (by simpa using hv))
  (h _ (setRow_heap w g nZ.toArray cs.toArray t (0, 0) hb) (oL w g _))
theorem ev (hgd : o.guard = none) (t : TypeId) (parts : Array (Nat × Operand)) (ho : o.op = .build t parts) (cs : List Value)
  (hf : P.built t (parts.map fun (i, x) => (i, a.eval x)).toList = some cs.toArray) (h : wpList P ops Q rest (a.put o.dst (.agg cs.toArray)) w) : wpList P ops Q (o :: rest) a w := by
 refine wpList_build hgd t parts ho (by rw [hf]; rfl) ?_
 rw [hf]
 exact h
theorem nT (w : World) (t e : TypeId) (n : Nat) (k : IntKind) (ht : P.underlying t = some (.array n e)) (he : P.underlying e = some (.int k)) (hsz : ∀ w, (sizeOf e).run P w = .ok 1 w) (xs : List Int) (hn : xs.length = n) (i : Nat) (hi : i < n) :
  (Instr.index t (.agg (xs.map (Value.int k)).toArray) (.int .i64 (i : Int))).run P w = .ok (.int k (xs.getD i 0)) w := by
 have hi' : i < xs.length := by omega
 simp [Instr.index, asIntOf, run_underlying ht, hsz, hi, part, isAgg, run_underlying he, List.getElem?_eq_getElem hi', List.getD]
end
end Go.Proofs.YtndddnglapkplaaGreatDoor.V
end

section
namespace Go.Proofs.YtndddnglapkplaaGreatDoor.V
attribute [local go_sem] bI bG bP bO bw bu bH bF
def gD.f (a0 : Int) : Option (Bool) := if a0 ≥ 0 then (some (decide (a0 < 64))) else (some false)
set_option maxHeartbeats 8000000 in
set_option maxRecDepth 100000 in
theorem gD.calls (a0 : Int) (r : Bool) (w : World) (h : gD.f a0 = some r) :
  Calls Tryz.prog 127 #[.int .i64 a0] w fun e w' => e = .returned (.bool r) ∧ Drawn0 w w' := by
 have H : (if a0 ≥ 0 then (some (decide (a0 < 64))) else (some false)) = some r := h
 clear h
 by_cases c2 : a0 ≥ 0
 ·rw [if_pos c2] at H
  have gY : decide (0 ≤ a0) = true := decide_eq_true c2
  clear c2
  obtain rfl := Option.some.inj H
  go_enter Tryz.func127, Tryz.ntmps127
  go_wp2
  go_ret
  exact ⟨by first | rfl | (simp; done) | (simp [*]; done), by repeat (first | exact Drawn0.refl _ | apply Drawn0.step)⟩
 ·rw [if_neg c2] at H
  have gY : decide (0 ≤ a0) = false := decide_eq_false c2
  clear c2
  obtain rfl := Option.some.inj H
  go_enter Tryz.func127, Tryz.ntmps127
  go_wp2
  go_ret
  exact ⟨by first | rfl | (simp; done) | (simp [*]; done), by repeat (first | exact Drawn0.refl _ | apply Drawn0.step)⟩
end Go.Proofs.YtndddnglapkplaaGreatDoor.V
end

section
namespace Go.Proofs.YtndddnglapkplaaGreatDoor.V
attribute [local go_sem] bI bG bP bO bw bu bH bF
def lh.f (a0 : Int) (a1 : Int) : Option (Bool) := (gD.f a1).bind fun oq => (if oq = true then (if 0 ≤ a1 then (some ((Go.bits .and .u64 (shr .u64 a0 a1) 1) == 1)) else (none)) else (some false))
set_option maxHeartbeats 8000000 in
set_option maxRecDepth 100000 in
theorem lh.calls (a0 : Int) (a1 : Int) (r : Bool) (w : World) (h : lh.f a0 a1 = some r) :
  Calls Tryz.prog 121 #[.int .u64 a0, .int .i64 a1] w fun e w' => e = .returned (.bool r) ∧ Drawn0 w w' := by
 have H : ((gD.f a1).bind fun oq => (if oq = true then (if 0 ≤ a1 then (some ((Go.bits .and .u64 (shr .u64 a0 a1) 1) == 1)) else (none)) else (some false))) = some r := h
 clear h
 replace H := Option.bind_eq_some_iff.mp H
 obtain ⟨oq, hG, H⟩ := H
 replace H : (if oq = true then (if 0 ≤ a1 then (some ((Go.bits .and .u64 (shr .u64 a0 a1) 1) == 1)) else (none)) else (some false)) = some r := H
 have A3 := ak hG
 clear hG
 by_cases c4 : oq = true
 ·subst c4
  have H1 : (if 0 ≤ a1 then (some ((Go.bits .and .u64 (shr .u64 a0 a1) 1) == 1)) else (none)) = some r := by rw [if_pos rfl] at H; exact H
  clear H
  have H := H1
  clear H1
  by_cases c5 : 0 ≤ a1
  ·rw [if_pos c5] at H
   have mb := eq_true c5
   have sS : decide (0 ≤ a1) = true := decide_eq_true c5
   clear c5
   obtain ⟨sv, nk⟩ : ∃ j_ : Int, (shr .u64 a0 a1) = j_ := ⟨_, rfl⟩
   replace H : (some ((Go.bits .and .u64 (sv) 1) == 1)) = some r := by first | (rw [nk] at H; exact H) | (simp only [nk] at H ⊢; exact H)
   (try rw [nk] at A3)
   have C7 : (a0 / 2 ^ min a1.toNat 64) = sv := nk
   have C6 : a1 ≤ 64 → (a0 / 2 ^ a1.toNat) = sv := Ea nk
   obtain rfl := Option.some.inj H
   go_enter Tryz.func121, Tryz.ntmps121
   go_wp2_with (first | ((with_reducible refine aD (f := 127) rfl ?_); refine bg (some 6) rfl rfl Tryz.func127 (by kernel_rfl) rfl #[.int .i64 a1] rfl (by (try simp only [List.map_toArray, List.map_cons, List.map_nil]); first | done | rfl | (simp only [List.length_drop, List.length_take]; rfl)) ?_; (with_reducible refine (gD.calls a1 true _ A3.out).mono ?_); rintro e w' ⟨rfl, ⟨nd, rfl⟩⟩; refine ⟨_, rfl, ?_⟩))
   go_ret
   exact ⟨by first | rfl | (simp; done) | (simp only [← nk] <;> (first | rfl | simp)) | (simp [*]; done), by repeat (first | exact Drawn0.refl _ | apply Drawn0.step)⟩
  ·rw [if_neg c5] at H
   exact absurd H (by simp)
 ·replace c4 := Bool.eq_false_iff.mpr c4
  subst c4
  have H1 : (some false) = some r := by rw [if_neg (show ¬ (false = true) by decide)] at H; exact H
  clear H
  have H := H1
  clear H1
  obtain rfl := Option.some.inj H
  go_enter Tryz.func121, Tryz.ntmps121
  go_wp2_with (first | ((with_reducible refine aD (f := 127) rfl ?_); refine bg (some 6) rfl rfl Tryz.func127 (by kernel_rfl) rfl #[.int .i64 a1] rfl (by (try simp only [List.map_toArray, List.map_cons, List.map_nil]); first | done | rfl | (simp only [List.length_drop, List.length_take]; rfl)) ?_; (with_reducible refine (gD.calls a1 false _ A3.out).mono ?_); rintro e w' ⟨rfl, ⟨nd, rfl⟩⟩; refine ⟨_, rfl, ?_⟩))
  go_ret
  exact ⟨by first | rfl | (simp; done) | (simp [*]; done), by repeat (first | exact Drawn0.refl _ | apply Drawn0.step)⟩
end Go.Proofs.YtndddnglapkplaaGreatDoor.V
end

section
namespace Go.Proofs.YtndddnglapkplaaGreatDoor.V
attribute [local go_sem] bI bG bP bO bw bu bH bF
def lg.f (a0 : Int) : Option (Int) := if 0 ≤ a0 then (some (shl .u64 1 a0)) else (none)
set_option maxHeartbeats 8000000 in
set_option maxRecDepth 100000 in
theorem lg.calls (a0 : Int) (r : Int) (w : World) (h : lg.f a0 = some r) :
  Calls Tryz.prog 128 #[.int .i64 a0] w fun e w' => e = .returned (.int .u64 r) ∧ Drawn0 w w' := by
 have H : (if 0 ≤ a0 then (some (shl .u64 1 a0)) else (none)) = some r := h
 clear h
 by_cases c2 : 0 ≤ a0
 ·rw [if_pos c2] at H
  have gY := eq_true c2
  have sV : decide (0 ≤ a0) = true := decide_eq_true c2
  clear c2
  obtain ⟨xG, qe⟩ : ∃ j_ : Int, (shl .u64 1 a0) = j_ := ⟨_, rfl⟩
  replace H : (some xG) = some r := by first | (rw [qe] at H; exact H) | (simp only [qe] at H ⊢; exact H)
  have Ir : (IntKind.u64.wrap (1 * 2 ^ min a0.toNat 64)) = xG := qe
  have N9 : a0 ≤ 64 → (IntKind.u64.wrap (1 * 2 ^ a0.toNat)) = xG := xt qe
  have WO : (IntKind.u64.wrap (2 ^ min a0.toNat 64)) = xG := by have h_ := Ir; rw [Int.one_mul] at h_; exact h_
  have WN : a0 ≤ 64 → (IntKind.u64.wrap (2 ^ a0.toNat)) = xG := fun Gp => by have h_ := N9 Gp; rw [Int.one_mul] at h_; exact h_
  obtain rfl := Option.some.inj H
  go_enter Tryz.func128, Tryz.ntmps128
  go_wp2
  go_ret
  exact ⟨by first | rfl | (simp; done) | (simp only [← qe] <;> (first | rfl | simp)) | (simp [*]; done), by repeat (first | exact Drawn0.refl _ | apply Drawn0.step)⟩
 ·rw [if_neg c2] at H
  exact absurd H (by simp)
end Go.Proofs.YtndddnglapkplaaGreatDoor.V
end

section
namespace Go.Proofs.YtndddnglapkplaaGreatDoor.V
attribute [local go_sem] bI bG bP bO bw bu bH bF
def kr.f (a0 : Int) (a1 : Int) : Option (Int) := (gD.f a1).bind fun ou => (if ou = true then ((lg.f a1).bind fun kz => (some (Go.bits .or .u64 a0 kz))) else (some a0))
set_option maxHeartbeats 8000000 in
set_option maxRecDepth 100000 in
theorem kr.calls (a0 : Int) (a1 : Int) (r : Int) (w : World) (h : kr.f a0 a1 = some r) :
  Calls Tryz.prog 118 #[.int .u64 a0, .int .i64 a1] w fun e w' => e = .returned (.int .u64 r) ∧ Drawn0 w w' := by
 have H : ((gD.f a1).bind fun ou => (if ou = true then ((lg.f a1).bind fun kz => (some (Go.bits .or .u64 a0 kz))) else (some a0))) = some r := h
 clear h
 replace H := Option.bind_eq_some_iff.mp H
 obtain ⟨ou, hG, H⟩ := H
 replace H : (if ou = true then ((lg.f a1).bind fun kz => (some (Go.bits .or .u64 a0 kz))) else (some a0)) = some r := H
 have A3 := ak hG
 clear hG
 by_cases c4 : ou = true
 ·subst c4
  have H1 : ((lg.f a1).bind fun kz => (some (Go.bits .or .u64 a0 kz))) = some r := by rw [if_pos rfl] at H; exact H
  clear H
  have H := H1
  clear H1
  replace H := Option.bind_eq_some_iff.mp H
  obtain ⟨kz, qa, H⟩ := H
  replace H : (some (Go.bits .or .u64 a0 kz)) = some r := H
  have A5 := ak qa
  clear qa
  obtain rfl := Option.some.inj H
  go_enter Tryz.func118, Tryz.ntmps118
  go_wp2_with (first | ((with_reducible refine aD (f := 127) rfl ?_); refine bg (some 6) rfl rfl Tryz.func127 (by kernel_rfl) rfl #[.int .i64 a1] rfl (by (try simp only [List.map_toArray, List.map_cons, List.map_nil]); first | done | rfl | (simp only [List.length_drop, List.length_take]; rfl)) ?_; (with_reducible refine (gD.calls a1 true _ A3.out).mono ?_); rintro e w' ⟨rfl, ⟨nd, rfl⟩⟩; refine ⟨_, rfl, ?_⟩) | ((with_reducible refine aD (f := 128) rfl ?_); refine bg (some 11) rfl rfl Tryz.func128 (by kernel_rfl) rfl #[.int .i64 a1] rfl (by (try simp only [List.map_toArray, List.map_cons, List.map_nil]); first | done | rfl | (simp only [List.length_drop, List.length_take]; rfl)) ?_; (with_reducible refine (lg.calls a1 kz _ A5.out).mono ?_); rintro e w' ⟨rfl, ⟨nd, rfl⟩⟩; refine ⟨_, rfl, ?_⟩))
  go_ret
  exact ⟨by first | rfl | (simp; done) | (simp [*]; done), by repeat (first | exact Drawn0.refl _ | apply Drawn0.step)⟩
 ·replace c4 := Bool.eq_false_iff.mpr c4
  subst c4
  have H1 : (some a0) = some r := by rw [if_neg (show ¬ (false = true) by decide)] at H; exact H
  clear H
  have H := H1
  clear H1
  obtain rfl := Option.some.inj H
  go_enter Tryz.func118, Tryz.ntmps118
  go_wp2_with (first | ((with_reducible refine aD (f := 127) rfl ?_); refine bg (some 6) rfl rfl Tryz.func127 (by kernel_rfl) rfl #[.int .i64 a1] rfl (by (try simp only [List.map_toArray, List.map_cons, List.map_nil]); first | done | rfl | (simp only [List.length_drop, List.length_take]; rfl)) ?_; (with_reducible refine (gD.calls a1 false _ A3.out).mono ?_); rintro e w' ⟨rfl, ⟨nd, rfl⟩⟩; refine ⟨_, rfl, ?_⟩))
  go_ret
  exact ⟨by first | rfl | (simp; done) | (simp [*]; done), by repeat (first | exact Drawn0.refl _ | apply Drawn0.step)⟩
end Go.Proofs.YtndddnglapkplaaGreatDoor.V
end

section
namespace Go.Proofs.YtndddnglapkplaaGreatDoor.V
attribute [local go_sem] bI bG bP bO bw bu bH bF
def dO.l0 : Nat → Int → Int → Option (Int)
 | 0, _, _ => none
 | k + 1, x0, x3 => if x0 = 0 then (some x3) else (dO.l0 k (Go.bits .and .u64 x0 (IntKind.u64.wrap (x0 - 1))) (wrap64 (x3 + 1)))
def dO.f (k : Nat) (a0 : Int) : Option (Int) := dO.l0 k a0 0
set_option maxHeartbeats 8000000 in
set_option maxRecDepth 100000 in
theorem dO.calls (k : Nat) (a0 : Int) (r : Int) (w : World) (h : dO.f k a0 = some r) :
  Calls Tryz.prog 120 #[.int .u64 a0] w fun e w' => e = .returned (.int .i64 r) ∧ Drawn0 w w' := by
 have H : (dO.l0 k a0 0) = some r := h
 clear h
 have H' := ak H
 clear H
 go_enter Tryz.func120, Tryz.ntmps120
 go_wp2
 go_loopg [0, 3] k (fun kq v0 v3 w' => ∃ (gT : Int) (aw : Int), v0 = .int .u64 gT ∧ v3 = .int .i64 aw ∧ Aside0 (dO.l0 kq gT aw = some r) ∧ Aside0 (kq ≤ k) ∧ Drawn0 w w')
 case atStart => exact ⟨(a0), (0), (by first | rfl | (simp; done) | (simp [*]; done)), (by first | rfl | (simp; done) | (simp [*]; done)), H', ⟨Nat.le_refl _⟩, by repeat (first | exact Drawn0.refl _ | apply Drawn0.step)⟩
 case round =>
  clear H'
  obtain ⟨gT, aw, rfl, rfl, HA, cC, ⟨m1, rfl⟩⟩ := hrel
  cases gk with
  | zero => exact absurd HA.out (by simp [dO.l0])
  | succ k1 =>
   have H := HA.out
   clear HA
   simp only [dO.l0] at H
   by_cases c2 : gT = 0
   ·rw [if_pos c2] at H
    have gY : (gT == 0) = true := beq_iff_eq.mpr c2
    have sV : (gT != 0) = false := bne_eq_false_iff_eq.mpr c2
    clear c2
    obtain rfl := Option.some.inj H
    go_wp2
    go_ret
    exact ⟨by first | rfl | (simp; done) | (simp [*]; done), by repeat (first | exact Drawn0.refl _ | apply Drawn0.step)⟩
   ·rw [if_neg c2] at H
    have gY : (gT == 0) = false := beq_eq_false_iff_ne.mpr c2
    have sV : (gT != 0) = true := bne_iff_ne.mpr c2
    have H' := ak H
    clear H
    go_wp2
    go_roundg k1
    case measure => have := cC.out; omega
    case rel => exact ⟨(Go.bits .and .u64 gT (IntKind.u64.wrap (gT - 1))), (wrap64 (aw + 1)), (by first | rfl | (simp; done) | (simp [*]; done)), (by first | rfl | (simp; done) | (simp [*]; done)), H', ⟨by have := cC.out; omega⟩, by repeat (first | exact Drawn0.refl _ | apply Drawn0.step)⟩
end Go.Proofs.YtndddnglapkplaaGreatDoor.V
end

section
namespace Go.Proofs.YtndddnglapkplaaGreatDoor.V
def lW (i : Int) : Bool := decide (0 ≤ i) && decide (i < 64)
def hasB (s : Nat) (i : Int) : Bool := lW i && s.testBit i.toNat
theorem D9 (i : Int) : gD.f i = some (lW i) := by
 unfold gD.f lW
 by_cases h : 0 ≤ i
 ·rw [if_pos h]; simp [h]
 ·rw [if_neg (by omega)]; simp [h]
theorem oa {i : Int} (h : lW i = true) : 0 ≤ i ∧ i < 64 := by simpa [lW] using h
theorem yJ (i : Nat) (h : i < 64) : lW (i : Int) = true := by simp [lW]; omega
theorem and_one (a : Nat) (ha : a < 18446744073709551616) : Go.bits .and .u64 (a : Int) 1 = ((a % 2 : Nat) : Int) := by
 have := u64_and_nat a 1 ha (by decide)
 rw [nat_mask1] at this
 exact this
theorem jy (a i : Nat) : a.testBit i = decide (a / 2 ^ i % 2 = 1) := by
 rw [Nat.testBit_eq_decide_div_mod_eq]
theorem F2 (q : Nat) : (((q % 2 : Nat) : Int) == 1) = decide (q % 2 = 1) := by
 rw [Bool.eq_iff_iff]
 simp
 omega
theorem Ob (s : Nat) (hs : s < 18446744073709551616) (i : Int) : lh.f (s : Int) i = some (hasB s i) := by
 unfold lh.f hasB
 rw [D9, Option.bind_some]
 by_cases h : lW i = true
 ·obtain ⟨h0, h1⟩ := oa h
  obtain ⟨n, rfl⟩ := Int.eq_ofNat_of_zero_le h0
  rw [if_pos h, if_pos h0, h]
  have e : shr .u64 (s : Int) (n : Int) = ((s / 2 ^ n : Nat) : Int) := by
   unfold shr
   rw [Nat.min_eq_left (by show (n : Int).toNat ≤ 64; omega)]
   simp
  rw [e, and_one _ (Nat.lt_of_le_of_lt (Nat.div_le_self _ _) hs), Bool.true_and, Int.toNat_natCast, jy]
  rw [F2]
 ·have h' : lW i = false := by simpa using h
  rw [if_neg h, h']
  rfl
theorem wU (s : Nat) (hs : s < 18446744073709551616) (i : Int) (w : World) : Calls Tryz.prog 121 #[.int .u64 (s : Int), .int .i64 i] w fun e w' => e = .returned (.bool (hasB s i)) ∧ Drawn0 w w' :=
 lh.calls _ _ _ w (Ob s hs i)
def lU (s : Nat) (i : Int) : Nat := if lW i then s ||| 2 ^ i.toNat else s
theorem Jk (n : Nat) (h : n < 64) : shl .u64 1 (n : Int) = ((2 ^ n : Nat) : Int) := by
 unfold shl
 rw [Nat.min_eq_left (by show (n : Int).toNat ≤ 64; omega), Int.one_mul, Int.toNat_natCast]
 have := oI (2 ^ n) (oK n h)
 simpa using this
theorem KM (s : Nat) (hs : s < 18446744073709551616) (i : Int) : kr.f (s : Int) i = some ((lU s i : Nat) : Int) := by
 unfold kr.f lU
 rw [D9, Option.bind_some]
 by_cases h : lW i = true
 ·obtain ⟨h0, h1⟩ := oa h
  obtain ⟨n, rfl⟩ := Int.eq_ofNat_of_zero_le h0
  rw [if_pos h, if_pos h]
  unfold lg.f
  rw [if_pos h0, Option.bind_some, Jk n (by omega), u64_or_nat _ _ hs (oK n (by omega)), Int.toNat_natCast]
 ·rw [if_neg h, if_neg h]
theorem Fz (s : Nat) (hs : s < 18446744073709551616) (i : Int) : lU s i < 18446744073709551616 := by
 unfold lU
 split
 ·rename_i h
  obtain ⟨h0, h1⟩ := oa h
  exact Nat.or_lt_two_pow (n := 64) hs (oK _ (by omega))
 ·exact hs
theorem yz (s : Nat) (hs : s < 18446744073709551616) (i : Int) (w : World) : Calls Tryz.prog 118 #[.int .u64 (s : Int), .int .i64 i] w fun e w' => e = .returned (.int .u64 ((lU s i : Nat) : Int)) ∧ Drawn0 w w' :=
 kr.calls _ _ _ w (KM s hs i)
theorem yg (s : Nat) (i : Int) (j : Nat) (hj : j < 64) : (lU s i).testBit j = (s.testBit j || decide (i = (j : Int))) := by
 unfold lU
 by_cases h : lW i = true
 ·obtain ⟨h0, h1⟩ := oa h
  rw [if_pos h, Nat.testBit_or, Nat.testBit_two_pow]
  congr 1
  rw [decide_eq_decide]
  omega
 ·rw [if_neg h]
  have : ¬ i = (j : Int) := by
   rintro rfl
   exact h (yJ j hj)
  simp [this]
def iy (s : Nat) (n : Nat) : List Int := ((List.range n).filter s.testBit).map (fun i : Nat => (i : Int))
def gG (s : Nat) : List Int := iy s 64
theorem rB (s n : Nat) : iy s (n + 1) = if s.testBit n then iy s n ++ [(n : Int)] else iy s n := by
 unfold iy
 rw [List.range_succ, List.filter_append, List.map_append]
 by_cases h : s.testBit n = true
 ·simp [h]
 ·simp [h]
theorem y6 (s n : Nat) : (iy s n).length ≤ n := by
 unfold iy
 rw [List.length_map]
 exact Nat.le_trans (List.length_filter_le _ _) (by simp)
theorem Ey (s n i : Nat) : (i : Int) ∈ iy s n ↔ i < n ∧ s.testBit i = true := by
 unfold iy
 simp only [List.mem_map, List.mem_filter, List.mem_range]
 constructor
 ·rintro ⟨j, ⟨h1, h2⟩, h3⟩
  have : j = i := by omega
  subst this
  exact ⟨h1, h2⟩
 ·rintro ⟨h1, h2⟩
  exact ⟨i, ⟨h1, h2⟩, rfl⟩
theorem nV (s n : Nat) (x : Int) (h : x ∈ iy s n) : ∃ i : Nat, x = (i : Int) ∧ i < n ∧ s.testBit i = true := by
 unfold iy at h
 simp only [List.mem_map, List.mem_filter, List.mem_range] at h
 obtain ⟨j, ⟨h1, h2⟩, h3⟩ := h
 exact ⟨j, h3.symm, h1, h2⟩
def tY (l : List Int) : Nat := l.foldl lU 0
theorem wV (l : List Int) : ∀ s, s < 18446744073709551616 → l.foldl lU s < 18446744073709551616 := by
 induction l with
 | nil => exact fun s h => h
 | cons x l ih => exact fun s h => ih _ (Fz s h x)
theorem qB (l : List Int) : tY l < 18446744073709551616 := wV l 0 (by decide)
theorem sc (l : List Int) (j : Nat) (hj : j < 64) : ∀ s, (l.foldl lU s).testBit j = (s.testBit j || decide ((j : Int) ∈ l)) := by
 induction l with
 | nil => simp
 | cons x l ih =>
  intro s
  rw [List.foldl_cons, ih, yg s x j hj, Bool.or_assoc]
  congr 1
  rw [Bool.eq_iff_iff]
  simp only [Bool.or_eq_true, decide_eq_true_eq, List.mem_cons]
  exact or_congr eq_comm Iff.rfl
theorem lO (l : List Int) (j : Nat) (hj : j < 64) : (tY l).testBit j = decide ((j : Int) ∈ l) := by
 unfold tY; rw [sc l j hj]; simp
end Go.Proofs.YtndddnglapkplaaGreatDoor.V
end

section
namespace Go.Proofs.YtndddnglapkplaaGreatDoor.V
structure Least (s m : Nat) : Prop where
 here : s.testBit m = true
 below : ∀ j, j < m → s.testBit j = false
theorem y7 (s : Nat) (h : s ≠ 0) : ∃ m, Least s m := by
 obtain ⟨i, hi⟩ := Nat.exists_testBit_of_ne_zero h
 have : ∀ n, (∃ j, j < n ∧ s.testBit j = true) → ∃ m, Least s m := by
  intro n
  induction n with
  | zero => rintro ⟨j, h, _⟩; omega
  | succ n ih =>
   intro hex
   by_cases hb : ∃ j, j < n ∧ s.testBit j = true
   ·exact ih hb
   ·obtain ⟨j, h1, h2⟩ := hex
    have hj : j = n := by
     rcases Nat.lt_or_ge j n with h3 | h3
     ·exact absurd ⟨j, h3, h2⟩ hb
     ·omega
    subst hj
    exact ⟨j, h2, fun t ht => by
     cases hc : s.testBit t with
     | false => rfl
     | true => exact absurd ⟨t, ht, hc⟩ hb⟩
 exact this (i + 1) ⟨i, by omega, hi⟩
theorem Least.form {s m : Nat} (h : Least s m) : ∃ q, s = 2 ^ m * (2 * q + 1) := by
 have h0 : s % 2 ^ m = 0 := by
  apply Nat.eq_of_testBit_eq
  intro j
  rw [Nat.testBit_mod_two_pow, Nat.zero_testBit]
  by_cases hj : j < m
  ·simp [h.below j hj]
  ·simp [hj]
 have h1 := h.here
 rw [jy, decide_eq_true_eq] at h1
 refine ⟨s / 2 ^ m / 2, ?_⟩
 have h2 : 2 * (s / 2 ^ m / 2) + 1 = s / 2 ^ m := by omega
 rw [h2, Nat.mul_comm]
 exact (Nat.div_mul_cancel (Nat.dvd_of_mod_eq_zero h0)).symm
def ld (s : Nat) : Nat := s &&& (s - 1)
theorem pc {s m : Nat} (h : Least s m) (j : Nat) : (ld s).testBit j = (s.testBit j && decide (j ≠ m)) := by
 obtain ⟨q, hq⟩ := h.form
 have hp : 0 < 2 ^ m := Nat.pos_of_ne_zero (by simp)
 have nH : s - 1 = 2 ^ m * (2 * q) + (2 ^ m - 1) := by rw [hq, Nat.mul_add]; omega
 have hd : (s - 1) / 2 ^ m = 2 * q := by
  rw [nH, Nat.mul_add_div hp, Nat.div_eq_of_lt (by omega), Nat.add_zero]
 have xR : s / 2 ^ m = 2 * q + 1 := by rw [hq, Nat.mul_div_cancel_left _ hp]
 unfold ld
 rw [Nat.testBit_and]
 rcases Nat.lt_trichotomy j m with hj | hj | hj
 ·simp [h.below j hj]
 ·subst hj
  rw [jy (s - 1), hd]
  first | (simp; done) | (simp; omega)
 ·obtain ⟨i, rfl⟩ : ∃ i, j = m + 1 + i := ⟨j - m - 1, by omega⟩
  have e : ∀ x : Nat, x / 2 ^ (m + 1 + i) = x / 2 ^ m / 2 / 2 ^ i := by
   intro x
   rw [Nat.pow_add, Nat.pow_succ, ← Nat.div_div_eq_div_mul, ← Nat.div_div_eq_div_mul]
  rw [jy (s - 1), jy s, e, e, hd, xR, show (2 * q + 1) / 2 = q by omega, show (2 * q) / 2 = q by omega]
  simp
  omega
theorem EB {s m : Nat} (h : Least s m) (n : Nat) : iy s n = if n ≤ m then [] else (m : Int) :: iy (ld s) n := by
 induction n with
 | zero => simp [iy]
 | succ n ih =>
  rw [rB, rB, ih, pc h n]
  rcases Nat.lt_trichotomy n m with hj | hj | hj
  ·rw [h.below n hj, if_neg (by simp), if_pos (by omega), if_pos (by omega)]
  ·subst hj
   have e : ∀ t, t ≤ n → iy (ld s) t = [] := by
    intro t
    induction t with
    | zero => intro _; simp [iy]
    | succ t iht =>
     intro ht
     rw [rB, iht (by omega), pc h t, h.below t (by omega)]
     simp
   rw [if_pos h.here, if_pos (Nat.le_refl _), if_neg (by omega), e n (Nat.le_refl _)]
   simp
  ·have hne : decide (n ≠ m) = true := by simp; omega
   have e1 : ¬ n ≤ m := by omega
   have e2 : ¬ n + 1 ≤ m := by omega
   rw [hne, Bool.and_true]
   simp only [e1, e2, if_false]
   split <;> simp
theorem Least.lt {s m : Nat} (h : Least s m) (hs : s < 18446744073709551616) : m < 64 := by
 rcases Nat.lt_or_ge m 64 with hl | hl
 ·exact hl
 ·have := Nat.ge_two_pow_of_testBit h.here
  have h2 : 2 ^ 64 ≤ 2 ^ m := Nat.pow_le_pow_right (by omega) hl
  omega
theorem vF {s m : Nat} (h : Least s m) (hs : s < 18446744073709551616) : gG s = (m : Int) :: gG (ld s) := by
 unfold gG
 rw [EB h 64, if_neg (by have := h.lt hs; omega)]
theorem Bc : gG 0 = [] := by
 unfold gG iy
 simp
theorem Bh (s : Nat) (hs : s < 18446744073709551616) : ld s < 18446744073709551616 := Nat.lt_of_le_of_lt Nat.and_le_left hs
theorem Kp (s : Nat) (hs : s < 18446744073709551616) (h : s ≠ 0) : Go.bits .and .u64 (s : Int) (IntKind.u64.wrap ((s : Int) - 1)) = ((ld s : Nat) : Int) := by
 rw [show (s : Int) - 1 = ((s - 1 : Nat) : Int) by omega, oI _ (by omega), u64_and_nat _ _ hs (by omega)]
 rfl
theorem Lg : ∀ (L : List Int) (s k c : Nat), s < 18446744073709551616 → gG s = L → c + L.length ≤ 64 → L.length < k → dO.l0 k (s : Int) (c : Int) = some ((c + L.length : Nat) : Int) := by
 intro L
 induction L with
 | nil =>
  intro s k c hs hL hc hk
  obtain ⟨k, rfl⟩ : ∃ m, k = m + 1 := ⟨k - 1, by omega⟩
  have h0 : s = 0 := by
   by_cases h : s = 0
   ·exact h
   ·obtain ⟨m, hm⟩ := y7 s h
    rw [vF hm hs] at hL
    cases hL
  subst h0
  unfold dO.l0
  rw [if_pos (show ((0 : Nat) : Int) = 0 from rfl)]
  rfl
 | cons x L ih =>
  intro s k c hs hL hc hk
  simp only [List.length_cons] at hc hk ⊢
  obtain ⟨k, rfl⟩ : ∃ m, k = m + 1 := ⟨k - 1, by omega⟩
  have h0 : s ≠ 0 := by
   rintro rfl
   rw [Bc] at hL
   cases hL
  obtain ⟨m, hm⟩ := y7 s h0
  rw [vF hm hs] at hL
  injection hL with _ hL
  unfold dO.l0
  rw [if_neg (by omega), Kp s hs h0, show wrap64 ((c : Int) + 1) = ((c + 1 : Nat) : Int) by unfold wrap64; omega, ih (ld s) k (c + 1) (Bh s hs) hL (by omega) (by omega)]
  congr 2
  omega
theorem ym (s : Nat) : (gG s).length ≤ 64 := y6 s 64
theorem NW (s : Nat) (hs : s < 18446744073709551616) (k : Nat) (hk : 64 < k) : dO.f k (s : Int) = some ((gG s).length : Int) := by
 have hl := ym s
 have := Lg (gG s) s k 0 hs rfl (by omega) (by omega)
 simpa [dO.f] using this
theorem Jr (s : Nat) (hs : s < 18446744073709551616) (w : World) : Calls Tryz.prog 120 #[.int .u64 (s : Int)] w fun e w' => e = .returned (.int .i64 ((gG s).length : Int)) ∧ Drawn0 w w' :=
 dO.calls 65 _ _ w (NW s hs 65 (by omega))
end Go.Proofs.YtndddnglapkplaaGreatDoor.V
end

section
namespace Go.Proofs.YtndddnglapkplaaGreatDoor.V
structure Bk where
 addr : Int
 aff : ByteArray
 slots : List Int
 free : List Int
 attrs : List S81
def en (a : Int) (s : ByteArray) (l : List Int) (v v' : Value) : List Value := .int .u32 a :: .string s :: (l.map (Value.int .u8) ++ [v, v'])
section
variable (a : Int) (s : ByteArray) (l : List Int) (v v' : Value)
theorem fl (h : l.length = 64) : (en a s l v v').length = 68 := by simp [en, h]
theorem GL (h : l.length = 64) (i : Nat) (hi : i < 64) : (en a s l v v')[2 + i]? = some (.int .u8 (l.getD i 0)) := by
 have hi' : i < l.length := by omega
 rw [Nat.add_comm]
 simp [en, List.getElem?_append_left, hi', List.getD]
theorem Fi (h : l.length = 64) : (en a s l v v')[66]? = some v := by
 simp [en, List.getElem?_append_right, h]
theorem pd (h : l.length = 64) : (en a s l v v')[67]? = some v' := by
 simp [en, List.getElem?_append_right, h]
theorem Ad (h : l.length = 64) : ∀ j u, (l.map (Value.int .u8))[j]? = some u → (en a s l v v')[2 + j]? = some u := by
 intro j u hj
 have hj' : j < l.length := by
  obtain ⟨h1, _⟩ := List.getElem?_eq_some_iff.1 hj
  simpa using h1
 rw [Nat.add_comm]
 have : (en a s l v v')[j + 2]? = (l.map (Value.int .u8) ++ [v, v'])[j]? := by simp [en]
 rw [this, List.getElem?_append_left (by simpa using hj'), hj]
theorem oE (hv : v.oneCell' = true) (hv' : v'.oneCell' = true) : ∀ u ∈ en a s l v v', u.oneCell' = true := by
 intro u hu
 simp only [en, List.mem_cons, List.mem_append, List.mem_map, List.not_mem_nil, or_false] at hu
 rcases hu with rfl | rfl | ⟨x, _, rfl⟩ | rfl | rfl
 ·rfl
 ·rfl
 ·rfl
 ·exact hv
 ·exact hv'
theorem Ds (h : l.length = 64) (u : Value) : (en a s l v v').set 66 u = en a s l u v' := by
 simp [en, List.set_append, h]
theorem Dr (h : l.length = 64) (u : Value) : (en a s l v v').set 67 u = en a s l v u := by
 simp [en, List.set_append, h]
end
structure BkR (W : World) (b : Bk) (A : Option Addr) (c : Nat) (A' : Option Addr) (c' : Nat) : Prop where
 l64 : b.slots.length = 64
 fr : Kd.C (Kd.int .u8) W A b.free.length b.free
 fc : b.free.length ≤ c
 ar : Kd.C vH W A' b.attrs.length b.attrs
 ac : b.attrs.length ≤ c'
theorem BkR.below {W W1 : World} {b : Bk} {A A' : Option Addr} {c c' : Nat} (h : BkR W b A c A' c') (hb : Below W.heap.size W W1) : BkR W1 b A c A' c' := ⟨h.l64, Kd.C_below h.fr hb, h.fc, Kd.C_below h.ar hb, h.ac⟩
def rh (W : World) (v : Value) (b : Bk) : Prop := ∃ A c A' c', v = .agg (en b.addr b.aff b.slots (.slice A b.free.length c) (.slice A' b.attrs.length c')).toArray ∧ BkR W b A c A' c'
theorem rh.below {W W1 : World} {v : Value} {b : Bk} (h : rh W v b) (hb : Below W.heap.size W W1) : rh W1 v b := by
 obtain ⟨A, c, A', c', e, hr⟩ := h
 exact ⟨A, c, A', c', e, hr.below hb⟩
theorem bS.slot {W : World} {g : Nat} {a : Int} {s : ByteArray} {l : List Int} {v v' : Value} {t : Nat} (h : bS W g (en a s l v v') t) (hl : l.length = 64) (i : Nat) (hi : i < 64) : W.cell? ⟨g, 2 + i, none⟩ = some (.int .u8 (l.getD i 0)) := h.cell _ _ (GL a s l v v' hl i hi)
theorem ND (w : World) : (sizeOf 5).run Tryz.prog w = .ok 1 w := by kernel_rfl
theorem BE (l : List Int) (hl : l.length = 64) (i : Nat) (hi : i < 64) (w : World) :
  (Instr.index 60 (.agg (l.map (Value.int .u8)).toArray) (.int .i64 (i : Int))).run Tryz.prog w = .ok (.int .u8 (l.getD i 0)) w :=
 nT w 60 5 64 .u8 Tryz.underlying60 Tryz.underlying5 ND l hl i hi
end Go.Proofs.YtndddnglapkplaaGreatDoor.V
end

section
namespace Go.Proofs.YtndddnglapkplaaGreatDoor.V
def jJ (b : Bk) (j : Nat) : Bool := decide (64 ≤ rd b.free j) || (decide (rd b.free j ∈ b.free.take j) || (b.slots.getD (rd b.free j).toNat 0 != 0))
def jI (b : Bk) : Bool := (List.range b.free.length).all (fun j => !jJ b j) && decide (b.slots.countP (fun x => x == 0) = b.free.length)
def dK (l : List Int) : Prop := ∀ x ∈ l, 0 ≤ x ∧ x < 256
theorem iM {l : List Int} (h : dK l) (i : Int) : 0 ≤ rd l i ∧ rd l i < 256 := by
 unfold rd
 rcases Nat.lt_or_ge i.toNat l.length with hi | hi
 ·have : l.getD i.toNat 0 = l[i.toNat] := by simp [List.getD, hi]
  rw [this]
  exact h _ (List.getElem_mem _)
 ·have : l.getD i.toNat 0 = 0 := by simp [List.getD, hi]
  rw [this]
  omega
set_option maxHeartbeats 4000000 in
set_option maxRecDepth 100000 in
theorem Gw (b : Bk) (hf : dK b.free) (hs : dK b.slots) (v : Value) (w : World) (h : rh w v b) :
  Calls Tryz.prog 109 #[v] w fun e w' => e = .returned (.bool (jI b)) ∧ Below w.heap.size w w' := by
 obtain ⟨A, c, A', c', rfl, hr⟩ := h
 have hl := hr.l64
 have HR := ak hr
 have HF := ak hf
 have HS := ak hs
 have HL := ak hl
 clear hr hf hs hl
 go_enter Tryz.func109, Tryz.ntmps109
 go_wp2_with (refine fL rfl 64 (.tmp 0) rfl _ rfl ?_; intro g W1 hg hbx aW; have HX := ak hbx; have HB := ak aW; have HG := ak hg; have HRR := ak (HR.out.below aW); have sM := hbx.cell 66 _ (Fi _ _ _ _ _ HL.out); clear hbx aW hg HR)
 go_loopw [3, 5, 12] (fun s _ i W => ∃ k nd : Nat, k ≤ b.free.length ∧ W = W1.drewN nd ∧ i = .int .i64 k ∧ s = .int .u64 ((tY (b.free.take k) : Nat) : Int) ∧ Aside0 (∀ j, j < k → jJ b j = false)) (fun _ _ i _ => b.free.length - (intOf i).toNat)
 case atStart => exact ⟨0, 0, by omega, rfl, rfl, rfl, ⟨fun j hj => by omega⟩⟩
 case round =>
  obtain ⟨k, nd, hk, rfl, rfl, rfl, HJ⟩ := hrel
  have hmx : b.free.length ≤ 9223372036854775807 := HRR.out.fr.2.1
  by_cases hkn : k < b.free.length
  ·have hkb : decide ((k : Int) < (b.free.length : Int)) = true := by simp; omega
   obtain ⟨m, hm⟩ : ∃ m : Nat, rd b.free k = (m : Int) := ⟨(rd b.free k).toNat, by have := (iM HF.out k).1; omega⟩
   have EP : m < 256 := by have := (iM HF.out k).2; omega
   obtain ⟨ad, eA, hx⟩ := Kd.at_int HRR.out.fr k (by omega) (by omega)
   cases eA
   rw [hm, Int.toNat_natCast] at hx
   have HM := ak hm
   have p1 : ((k : Int) < (b.free.length : Int)) = True := eq_true (by omega)
   by_cases pH : 64 ≤ m
   ·have QH : decide ((64 : Int) ≤ (m : Int)) = true := by simp; omega
    have HV := ak (show jI b = false by
     unfold jI
     rw [Bool.and_eq_false_iff]
     left
     rw [List.all_eq_false]
     exact ⟨k, by simpa using hkn, by unfold jJ; rw [HM.out]; simp; omega⟩)
    clear hm
    go_wp2
    go_ret
    exact ⟨by rw [HV.out]; rfl, J HB.out _⟩
   ·have QH : decide ((64 : Int) ≤ (m : Int)) = false := by simp; omega
    have hh : hasB (tY (b.free.take k)) (m : Int) = decide ((m : Int) ∈ b.free.take k) := by
     unfold hasB
     rw [yJ m (by omega), Bool.true_and, Int.toNat_natCast, lO _ m (by omega)]
    obtain ⟨z, jt⟩ : ∃ z : Int, b.slots.getD m 0 = z := ⟨_, rfl⟩
    have hz := HX.out.slot HL.out m (by omega)
    rw [jt] at hz
    have HZ := ak jt
    clear jt
    have HH := ak hh
    clear hh
    cases hmem : decide ((m : Int) ∈ b.free.take k) with
    | true =>
     rw [hmem] at HH
     have HV := ak (show jI b = false by
      unfold jI
      rw [Bool.and_eq_false_iff]
      left
      rw [List.all_eq_false]
      exact ⟨k, by simpa using hkn, by unfold jJ; rw [HM.out, hmem]; simp⟩)
     clear hm hmem hz
     go_wp2_with (go_at_call 121; refine (wU _ (qB _) _ _).mono ?_; rintro e w' ⟨rfl, ⟨yZ, rfl⟩⟩; rw [HH.out])
     go_ret
     exact ⟨by rw [HV.out]; rfl, by repeat (first | exact HB.out | apply J)⟩
    | false =>
     rw [hmem] at HH
     cases hzz : (z != 0) with
     | true =>
      have HV := ak (show jI b = false by
       unfold jI
       rw [Bool.and_eq_false_iff]
       left
       rw [List.all_eq_false]
       exact ⟨k, by simpa using hkn, by unfold jJ; rw [HM.out, Int.toNat_natCast, HZ.out, hzz]; simp⟩)
      clear hm hmem
      go_wp2_with (go_at_call 121; refine (wU _ (qB _) _ _).mono ?_; rintro e w' ⟨rfl, ⟨yZ, rfl⟩⟩; rw [HH.out])
      go_ret
      exact ⟨by rw [HV.out]; rfl, by repeat (first | exact HB.out | apply J)⟩
     | false =>
      have ph := ak (show ∀ j, j < k + 1 → jJ b j = false from fun j hj => by
       by_cases hjk : j < k
       ·exact HJ.out j hjk
       ·obtain rfl : j = k := by omega
        unfold jJ
        rw [HM.out, Int.toNat_natCast, HZ.out, hzz, hmem]
        simp
        omega)
      have HO := ak (show lU (tY (b.free.take k)) (m : Int) = tY (b.free.take (k + 1)) by
       have e : b.free.take (k + 1) = b.free.take k ++ [(m : Int)] := by
        rw [List.take_add_one, ← HM.out]
        simp [rd, List.getD, List.getElem?_eq_getElem hkn]
       rw [e]
       unfold tY
       rw [List.foldl_append]
       rfl)
      clear hm hmem
      go_wp2_with (first | (go_at_call 121; refine (wU _ (qB _) _ _).mono ?_; rintro e w' ⟨rfl, ⟨yZ, rfl⟩⟩; rw [HH.out]) | (go_at_call 118; refine (yz _ (qB _) _ _).mono ?_; rintro e w' ⟨rfl, ⟨Le, rfl⟩⟩; rw [HO.out]))
      go_roundw
      case rel => exact ⟨k + 1, nd + yZ + Le, by omega, by simp [Nat.add_assoc], by go_num, rfl, ph⟩
      case measure => simp [intOf]; omega
  ·obtain rfl : k = b.free.length := by omega
   have HA := ak (show (List.range b.free.length).all (fun j => !jJ b j) = true by
    rw [List.all_eq_true]
    intro j hj
    rw [HJ.out j (by simpa using hj)]
    rfl)
   have hlen : (Tryz.prog.info? 60).map (·.size) = some (b.slots.map (Value.int .u8)).length := by rw [List.length_map, HL.out]; kernel_rfl
   go_wp2_with (refine lV rfl 60 (.tmp 37) rfl g 2 rfl 64 _ (b.slots.map (Value.int .u8)) (.array 64 5) HX.out (Ad _ _ _ _ _ HL.out) Tryz.underlying60 rfl hlen ?_)
   go_loopw [6, 8, 39] (fun s _ i W => ∃ q nd : Nat, q ≤ 64 ∧ W = W1.drewN nd ∧ i = .int .i64 q ∧ s = .int .i64 (((b.slots.take q).countP (fun x => x == 0) : Nat) : Int)) (fun _ _ i _ => 64 - (intOf i).toNat)
   case atStart => exact ⟨0, nd, by omega, rfl, rfl, rfl⟩
   case round =>
    obtain ⟨q, nd, hq, rfl, rfl, rfl⟩ := hrel
    by_cases PJ : q < 64
    ·have hqb : decide ((q : Int) < 64) = true := by simp; omega
     obtain ⟨z, jt⟩ : ∃ z : Int, b.slots.getD q 0 = z := ⟨_, rfl⟩
     have hix := fun w => BE b.slots HL.out q PJ w
     rw [jt] at hix
     have hql : q < b.slots.length := by have := HL.out; omega
     have hcp : (b.slots.take (q + 1)).countP (fun x => x == 0) = (b.slots.take q).countP (fun x => x == 0) + if (z == 0) = true then 1 else 0 := by
      rw [List.take_add_one, List.countP_append, List.getElem?_eq_getElem hql]
      have : b.slots[q] = z := by rw [← jt]; simp [List.getD, List.getElem?_eq_getElem hql]
      rw [this]
      simp
     have hcl : (b.slots.take q).countP (fun x => x == 0) ≤ 64 := Nat.le_trans List.countP_le_length (by simp; omega)
     cases hzz : (z == 0) with
     | true =>
      rw [hzz, if_pos rfl] at hcp
      have HC := ak hcp
      clear jt hcp
      go_wp2
      go_roundw
      case rel => exact ⟨q + 1, nd, by omega, rfl, by go_num, by rw [HC.out]; go_num⟩
      case measure => simp [intOf]; omega
     | false =>
      rw [hzz, if_neg (by decide)] at hcp
      have HC := ak hcp
      clear jt hcp
      go_wp2
      go_roundw
      case rel => exact ⟨q + 1, nd, by omega, rfl, by go_num, by rw [HC.out]; rfl⟩
      case measure => simp [intOf]; omega
    ·obtain rfl : q = 64 := by omega
     have hqb : decide ((64 : Int) < 64) = false := by decide
     have HV := ak (show jI b = decide (b.slots.countP (fun x => x == 0) = b.free.length) by
      unfold jI
      rw [HA.out, Bool.true_and])
     have HT := ak (show b.slots.take 64 = b.slots from List.take_of_length_le (by have := HL.out; omega))
     go_wp2
     go_ret
     refine ⟨?_, by repeat (first | exact HB.out | apply J)⟩
     rw [HV.out]
     simp only [HT.out]
     show Ending.returned (Value.bool (((b.slots.countP (fun x => x == 0) : Nat) : Int) == ((b.free.length : Nat) : Int))) = _
     congr 2
     rw [Bool.eq_iff_iff, beq_iff_eq, decide_eq_true_eq]
     exact Int.ofNat_inj
end Go.Proofs.YtndddnglapkplaaGreatDoor.V
end

section
namespace Go.Proofs.YtndddnglapkplaaGreatDoor.V
theorem Oc (d : Nat) (w : World) (x0 y0 : ByteArray) (x1 y1 : ByteArray) :
  (Op.equalIn (d + 2) 81 (.agg #[.string x0, .string x1]) (.agg #[.string y0, .string y1])).run Tryz.prog w = .ok (x0.toList == y0.toList && (x1.toList == y1.toList)) w := by
 refine EZ Tryz.underlying81 (by kernel_rfl) ?_
 refine zI (by rfl) (by go_simp; rfl) (by go_simp; rfl) (by go_simp) ?_
 exact zH (by rfl) (by go_simp; rfl) (by go_simp; rfl) (by go_simp)
end Go.Proofs.YtndddnglapkplaaGreatDoor.V
end

section
namespace Go.Proofs.YtndddnglapkplaaGreatDoor.V
open Go.ChangeMaps (setBlock)
abbrev At := S81
def jl (a : At) : Value := .agg #[.string a.f0, .string a.f1]
def sameAt (a b : At) : Bool := a.f0.toList == b.f0.toList && a.f1.toList == b.f1.toList
theorem rn (a b : At) : sameAt a b = true ↔ a = b := by
 obtain ⟨x, y⟩ := a
 obtain ⟨z, u⟩ := b
 simp only [sameAt, Bool.and_eq_true, beq_iff_eq, S81.mk.injEq]
 have h : ∀ p q : ByteArray, p.toList = q.toList ↔ p = q := fun p q => by
  rw [ByteArray.toList_eq, ByteArray.toList_eq]
  exact ⟨fun h => by obtain ⟨⟨l⟩⟩ := p; obtain ⟨⟨l'⟩⟩ := q; simp_all, fun h => by rw [h]⟩
 rw [h, h]
theorem AW (a : At) : sameAt a a = true := (rn a a).2 rfl
theorem CP (a b : At) (w : World) : (Op.equal 81 (jl a) (jl b)).run Tryz.prog w = .ok (sameAt a b) w := Oc _ w a.f0 b.f0 a.f1 b.f1
theorem wE (e : Bool) (a : At) (w : World) : (Instr.checkKey e 10000 81 (jl a)).run Tryz.prog w = .ok () w := by kernel_rfl
def dF (L : List (At × Int)) : List MapEntry := L.mapIdx fun i p => ⟨jl p.1, .int .i64 p.2, i⟩
def lz (W : World) (g : Nat) (L : List (At × Int)) : Prop := W.heap[g]? = some (.map (dF L).toArray L.length)
def numOf (L : List (At × Int)) (a : At) : Int := match L.find? (fun p => sameAt a p.1) with | some p => p.2 | none => 0
def idxOf (L : List (At × Int)) (a : At) : Option Nat := L.findIdx? (fun p => sameAt a p.1)
def putAt (L : List (At × Int)) (a : At) (v : Int) : List (At × Int) := match idxOf L a with | some i => L.modify i (fun p => (p.1, v)) | none => L ++ [(a, v)]
theorem zG (a : At) (w : World) : ∀ (L : List (At × Int)) (o i : Nat),
  (Instr.findAsking 81 (jl a) (L.mapIdx fun j p => (⟨jl p.1, .int .i64 p.2, o + j⟩ : MapEntry)) i).run Tryz.prog w = .ok ((idxOf L a).bind fun j => L[j]?.map fun p => (i + j, .int .i64 p.2)) w
 | [], _, _ => rfl
 | p :: L, o, i => by
  have ih := zG a w L (o + 1) (i + 1)
  rw [List.mapIdx_cons]
  unfold Instr.findAsking idxOf
  rw [List.findIdx?_cons]
  simp only [Sem.run_bind, CP, Result.andThen_ok, Nat.add_zero]
  cases h : sameAt a p.1 with
  | true => simp
  | false =>
   simp only [Bool.false_eq_true, if_false]
   have e : (L.mapIdx fun j p => (⟨jl p.1, .int .i64 p.2, o + (j + 1)⟩ : MapEntry)) = (L.mapIdx fun j p => (⟨jl p.1, .int .i64 p.2, o + 1 + j⟩ : MapEntry)) := by
    congr 1
    funext j p
    rw [Nat.add_right_comm, Nat.add_assoc]
   rw [e, ih]
   unfold idxOf
   cases h2 : List.findIdx? (fun p => sameAt a p.1) L with
   | none => simp
   | some j =>
    simp only [Option.bind_some, Option.map_some, List.getElem?_cons_succ]
    rw [show i + 1 + j = i + (j + 1) by omega]
theorem ug (a : At) (w : World) (L : List (At × Int)) :
  (Instr.findKey 81 (jl a) (dF L)).run Tryz.prog w = .ok ((idxOf L a).bind fun j => L[j]?.map fun p => (j, .int .i64 p.2)) w := by
 have h := zG a w L 0 0
 simp only [Nat.zero_add] at h
 have hu := run_underlying (w := w) Tryz.underlying81
 unfold Instr.findKey
 simp only [Sem.run_bind, hu, Result.andThen_ok]
 cases L with
 | nil => rfl
 | cons p L =>
  have e : ∀ k r, Instr.findNow k (jl a) (dF (p :: L)) 0 = none → ((match Instr.findNow k (jl a) (dF (p :: L)) 0 with | some r => pure r | none => Instr.findAsking 81 (jl a) (dF (p :: L))) : Sem (Option (Nat × Value))).run Tryz.prog w = r → (match Instr.findNow k (jl a) (dF (p :: L)) 0 with | some r => pure r | none => Instr.findAsking 81 (jl a) (dF (p :: L)) : Sem (Option (Nat × Value))).run Tryz.prog w = r := fun _ _ _ h => h
  rw [show ∀ fs, Instr.findNow (.struct fs) (jl a) (dF (p :: L)) 0 = none from fun fs => by simp [dF, List.mapIdx_cons, Instr.findNow, Instr.sameNow, jl]]
  exact h
theorem vL {L : List (At × Int)} {a : At} {j : Nat} (h : idxOf L a = some j) : ∃ p, L[j]? = some p ∧ sameAt a p.1 = true ∧ numOf L a = p.2 := by
 unfold idxOf at h
 obtain ⟨hj, h1, h2⟩ := List.findIdx?_eq_some_iff_getElem.1 h
 refine ⟨L[j], List.getElem?_eq_getElem hj, h1, ?_⟩
 unfold numOf
 have : L.find? (fun p => sameAt a p.1) = some L[j] := by
  rw [List.find?_eq_some_iff_getElem]
  exact ⟨h1, j, hj, rfl, fun k hk => by simpa using h2 k hk⟩
 rw [this]
theorem oc {L : List (At × Int)} {a : At} (h : idxOf L a = none) : (∀ p ∈ L, sameAt a p.1 = false) ∧ numOf L a = 0 := by
 unfold idxOf at h
 have h1 : ∀ p ∈ L, sameAt a p.1 = false := by simpa using h
 refine ⟨h1, ?_⟩
 unfold numOf
 have : L.find? (fun p => sameAt a p.1) = none := by simpa using h1
 rw [this]
theorem CA (w : World) : (zeroValue 3).run Tryz.prog w = .ok (.int .i64 0) w := by kernel_rfl
theorem uE (W : World) (g : Nat) (L : List (At × Int)) (h : lz W g L) (a : At) : (Instr.lookup 188 (.map (some g)) (jl a) false).run Tryz.prog W = .ok (.int .i64 (numOf L a)) W := by
 have hk := ug a W L
 unfold Instr.lookup
 simp only [Sem.run_bind, run_underlying Tryz.underlying188, Result.andThen_ok, MapKept.run_getObj_map h, wE, Sem.run_pure, hk]
 cases hi : idxOf L a with
 | none =>
  rw [(oc hi).2]
  simp [CA]
 | some j =>
  obtain ⟨p, hp, _, hn⟩ := vL hi
  rw [hn]
  simp [hp]
theorem vC {L : List (At × Int)} {a : At} (h : idxOf L a = none) (v : Int) : numOf (L ++ [(a, v)]) a = v := by
 have h1 := (oc h).1
 have h2 : L.find? (fun p => sameAt a p.1) = none := by simpa using h1
 unfold numOf
 rw [List.find?_append, h2]
 simp [AW]
theorem Es {L : List (At × Int)} {a : At} (h : idxOf L a = none) : numOf (L ++ [(a, 0)]) a = numOf L a := by
 rw [vC h, (oc h).2]
theorem AV (a b : At) (h : sameAt a b = true) : Instr.sameBits 10000 (jl a) (jl b) = true := by
 obtain rfl := (rn a b).1 h
 show ((2 == 2) && ((#[Value.string a.f0, .string a.f1].toList.zip #[Value.string a.f0, .string a.f1].toList).all fun (x, y) => Instr.sameBits 9999 x y)) = true
 simp [Instr.sameBits, MapKept.bytes_beq]
theorem y4 (L : List (At × Int)) : (dF L).length = L.length := by simp [dF]
theorem su (L : List (At × Int)) (i : Nat) : (dF L)[i]? = L[i]?.map fun p => ⟨jl p.1, .int .i64 p.2, i⟩ := by simp [dF]
theorem vE (L : List (At × Int)) (j : Nat) (hj : j < L.length) : (dF L).findIdx? (fun e => (e.born : Int) == (j : Int)) = some j := by
 rw [List.findIdx?_eq_some_iff_getElem]
 refine ⟨by rw [y4]; exact hj, ?_, fun k hk => ?_⟩
 ·simp [dF]
 ·simp only [dF, List.getElem_mapIdx, Bool.not_eq_true, beq_eq_false_iff_ne]
  omega
theorem xV (j : Nat) (w : World) : (asInt (.int .i64 (j : Int))).run Tryz.prog w = .ok (j : Int) w := by simp [asInt, asIntOf]
theorem E7 (W : World) (g : Nat) (L : List (At × Int)) (h : lz W g L) (hl : L.length < 1000) (a : At) (v : Int) :
  ∃ W1 W2 j, (Instr.mapEntry 188 (.map (some g)) (jl a)).run Tryz.prog W = .ok (.tuple #[.int .i64 (numOf L a), .int .i64 j]) W1 ∧ (∃ L1, lz W1 g L1 ∧ numOf L1 a = numOf L a) ∧
   (Instr.entryStore 188 (.map (some g)) (.int .i64 j) (.int .i64 v)).run Tryz.prog W1 = .ok () W2 ∧ lz W2 g (putAt L a v) ∧ W.grownBy W2 (some g) ∧ (∀ p, p.block ≠ g → W1.cell? p = W.cell? p) := by
 have hk := ug a W L
 have hb : ∀ (w : World) (es es' : Array MapEntry) (c c' : Nat), w.heap[g]? = some (.map es c) → (setBlock w g (.map es' c')).heap[g]? = some (.map es' c') := fun w es es' c c' hw => by
  have := (Array.getElem?_eq_some_iff.1 hw).1
  simp [setBlock, this]
 have hgr : ∀ (es : Array MapEntry) (c : Nat), W.grownBy (setBlock W g (.map es c)) (some g) := fun es c => ⟨rfl, rfl, rfl, by simp [setBlock], fun k _ hk => by simp only [setBlock]; rw [Array.getElem?_setIfInBounds_ne (fun e => hk (by rw [e]))]⟩
 have hc : ∀ (es : Array MapEntry) (c : Nat) (p : Addr), p.block ≠ g → (setBlock W g (.map es c)).cell? p = W.cell? p := fun es c p hp => by
  have : (setBlock W g (.map es c)).heap[p.block]? = W.heap[p.block]? := by simp only [setBlock]; rw [Array.getElem?_setIfInBounds_ne (fun e => hp e.symm)]
  simp [World.cell?, this]
 have hu := run_underlying (w := W) Tryz.underlying188
 cases hi : idxOf L a with
 | none =>
  rw [hi] at hk
  have e1 : (dF L).toArray.push ⟨jl a, .int .i64 0, L.length⟩ = (dF (L ++ [(a, 0)])).toArray := by
   simp [dF, List.mapIdx_append]
  have iu : (setBlock W g (.map (dF (L ++ [(a, 0)])).toArray (L.length + 1))).heap[g]? = some (.map (dF (L ++ [(a, 0)])).toArray (L.length + 1)) := hb W _ _ _ _ h
  refine ⟨setBlock W g (.map (dF (L ++ [(a, 0)])).toArray (L.length + 1)), setBlock W g (.map (dF (L ++ [(a, v)])).toArray (L.length + 1)), L.length, ?_, ⟨L ++ [(a, 0)], by unfold lz; rw [List.length_append]; exact iu, Es hi⟩, ?_, ?_, hgr _ _, fun p hp => hc _ _ p hp⟩
  ·rw [(oc hi).2, ← e1]
   unfold Instr.mapEntry
   simp only [Sem.run_bind, hu, Result.andThen_ok, MapKept.run_getObj_map h, wE, Sem.run_pure, hk, Option.bind_none, CA, MapKept.run_setObj_map _ h]
   rfl
  ·have e2 : ((dF (L ++ [(a, 0)])).toArray.modify L.length fun e => { e with val := .int .i64 v }) = (dF (L ++ [(a, v)])).toArray := by
    apply Array.ext_getElem?
    intro k
    rw [Array.getElem?_modify]
    simp only [List.getElem?_toArray, su]
    rcases Nat.lt_trichotomy k L.length with hk | hk | hk
    ·rw [if_neg (by omega), List.getElem?_append_left hk, List.getElem?_append_left hk]
    ·subst hk
     simp
    ·rw [if_neg (by omega), List.getElem?_eq_none (by simp; omega), List.getElem?_eq_none (by simp; omega)]
   have hf : (dF (L ++ [(a, 0)])).toArray.findIdx? (fun e => (e.born : Int) == ((L.length : Nat) : Int)) = some L.length := by
    rw [List.findIdx?_toArray]
    exact vE _ _ (by simp)
   unfold Instr.entryStore
   simp only [Sem.run_bind, Result.andThen_ok, MapKept.run_getObj_map iu, Sem.run_pure, xV, hf, MapKept.run_setObj_map _ iu, e2]
   simp [setBlock, Array.setIfInBounds_setIfInBounds]
  ·have := hb W (dF L).toArray (dF (L ++ [(a, v)])).toArray L.length (L.length + 1) h
   unfold lz putAt
   rw [hi]
   simpa using this
 | some j =>
  obtain ⟨p, hp, hsm, hn⟩ := vL hi
  have hjl : j < L.length := (List.getElem?_eq_some_iff.1 hp).1
  rw [hi] at hk
  have hent : (dF L).toArray[j]? = some ⟨jl p.1, .int .i64 p.2, j⟩ := by
   rw [List.getElem?_toArray, su, hp]
   rfl
  obtain rfl := (rn a p.1).1 hsm
  have e1 : ((dF L).toArray.modify j fun e => { e with key := jl p.1 }) = (dF L).toArray := by
   apply Array.ext_getElem?
   intro k
   rw [Array.getElem?_modify]
   by_cases hk : k = j
   ·subst hk
    rw [if_pos rfl, hent]
    rfl
   ·rw [if_neg (fun e => hk e.symm)]
  have iu : (setBlock W g (.map (dF L).toArray L.length)).heap[g]? = some (.map (dF L).toArray L.length) := hb W _ _ _ _ h
  refine ⟨setBlock W g (.map (dF L).toArray L.length), setBlock W g (.map (dF (L.modify j fun q => (q.1, v))).toArray L.length), j, ?_, ⟨L, iu, rfl⟩, ?_, ?_, hgr _ _, fun p hp => hc _ _ p hp⟩
  ·rw [hn]
   unfold Instr.mapEntry
   simp only [Sem.run_bind, hu, Result.andThen_ok, MapKept.run_getObj_map h, wE, Sem.run_pure, hk, Option.bind_some, hp, Option.map_some, hent, Option.getD_some, Instr.keyThatStays, AV _ _ hsm, if_true, e1, MapKept.run_setObj_map _ h]
   rfl
  ·have e2 : ((dF L).toArray.modify j fun e => { e with val := .int .i64 v }) = (dF (L.modify j fun q => (q.1, v))).toArray := by
    apply Array.ext_getElem?
    intro k
    rw [Array.getElem?_modify]
    simp only [List.getElem?_toArray, su, List.getElem?_modify]
    by_cases hk : j = k
    ·subst hk
     simp [hp]
    ·simp [hk]
   have hf : (dF L).toArray.findIdx? (fun e => (e.born : Int) == ((j : Nat) : Int)) = some j := by
    rw [List.findIdx?_toArray]
    exact vE _ _ hjl
   unfold Instr.entryStore
   simp only [Sem.run_bind, Result.andThen_ok, MapKept.run_getObj_map iu, Sem.run_pure, xV, hf, MapKept.run_setObj_map _ iu, e2]
   simp [setBlock, Array.setIfInBounds_setIfInBounds]
  ·have := hb W (dF L).toArray (dF (L.modify j fun q => (q.1, v))).toArray L.length L.length h
   unfold lz putAt
   rw [hi]
   simpa using this
theorem xB (L : List (At × Int)) (a : At) (v : Int) : numOf (putAt L a v) a = v := by
 unfold putAt
 cases hi : idxOf L a with
 | none => exact vC hi v
 | some j =>
  have hi' := hi
  unfold idxOf at hi'
  obtain ⟨hj, h1, h2⟩ := List.findIdx?_eq_some_iff_getElem.1 hi'
  unfold numOf
  have : (L.modify j fun p => (p.1, v)).find? (fun p => sameAt a p.1) = some (L[j].1, v) := by
   rw [List.find?_eq_some_iff_getElem]
   refine ⟨h1, j, by simpa using hj, by simp, fun k hk => ?_⟩
   have := h2 k hk
   simp only [List.getElem_modify]
   rw [if_neg (by omega)]
   simpa using this
  rw [this]
end Go.Proofs.YtndddnglapkplaaGreatDoor.V
end

section
namespace Go.Proofs.YtndddnglapkplaaGreatDoor.V
attribute [local go_sem] bI bG bP bO bw bu bH bF
mutual
def cI.j0 : Nat → Int → Bool → Option (Bool)
 | 0, _, _ => none
 | k + 1, x0, x3 => if x3 = true then (cI.j1 k x0 x3) else (if x0 ≥ 65 then (if x0 ≤ 90 then (cI.j1 k x0 (decide (x0 ≤ 90))) else (if x0 ≥ 48 then (cI.j1 k x0 (decide (x0 ≤ 57))) else (cI.j1 k x0 false))) else (if x0 ≥ 48 then (cI.j1 k x0 (decide (x0 ≤ 57))) else (cI.j1 k x0 false)))
def cI.j1 : Nat → Int → Bool → Option (Bool)
 | 0, _, _ => none
 | k + 1, x0, x3 => if x3 = true then (some true) else (if x0 = 46 then (some true) else (if x0 = 45 then (some true) else (if x0 = 95 then (some true) else (some false))))
end
def cI.f (k : Nat) (a0 : Int) : Option (Bool) := if a0 ≥ 97 then (cI.j0 k a0 (decide (a0 ≤ 122))) else (cI.j0 k a0 false)
set_option maxHeartbeats 8000000 in
set_option maxRecDepth 100000 in
theorem cI.calls (k : Nat) (a0 : Int) (r : Bool) (w : World) (h : cI.f k a0 = some r) :
  Calls Tryz.prog 116 #[.int .i32 a0] w fun e w' => e = .returned (.bool r) ∧ Drawn0 w w' := by
 have H : (if a0 ≥ 97 then (cI.j0 k a0 (decide (a0 ≤ 122))) else (cI.j0 k a0 false)) = some r := h
 clear h
 have tl := ak H
 clear H
 go_enter Tryz.func116, Tryz.ntmps116
 go_upto_region 1 with (fail)
 go_cut [3] (fun v3 wc => ∃ (kq : Nat) (aw : Bool), v3 = .bool aw ∧ Aside0 (cI.j0 kq a0 aw = some r) ∧ Aside0 (kq ≤ k) ∧ Drawn0 w wc)
 case first =>
  have H := tl.out
  clear tl
  by_cases c3 : a0 ≥ 97
  ·rw [if_pos c3] at H
   have gw : decide (97 ≤ a0) = true := decide_eq_true c3
   clear c3
   (first | rw [gw] | (simp only [cp, cL]; rw [gw]) | skip)
   have H' := ak H
   clear H
   go_wp2
   go_meet
   case rel => exact ⟨_, (decide (a0 ≤ 122)), (by first | rfl | (simp; done) | (simp [*]; done)), H', ⟨by first | omega | exact Nat.le_refl _⟩, by repeat (first | exact Drawn0.refl _ | apply Drawn0.step)⟩
  ·rw [if_neg c3] at H
   have gw : decide (97 ≤ a0) = false := decide_eq_false c3
   clear c3
   (first | rw [gw] | (simp only [cp, cL]; rw [gw]) | skip)
   have H' := ak H
   clear H
   go_wp2
   go_meet
   case rel => exact ⟨_, (false), (by first | rfl | (simp; done) | (simp [*]; done)), H', ⟨by first | omega | exact Nat.le_refl _⟩, by repeat (first | exact Drawn0.refl _ | apply Drawn0.step)⟩
 case rest =>
  clear tl
  obtain ⟨kq, aw, rfl, HA, kN, ⟨XV, rfl⟩⟩ := hcut
  cases kq with
  | zero => exact absurd HA.out (by simp [cI.j0])
  | succ oW =>
   have H := HA.out
   clear HA
   simp only [cI.j0] at H
   have Cu := ak H
   clear H
   go_upto_if 3 with (fail)
   go_cut [3] (fun v3 wc => ∃ (kq : Nat) (CC : Bool), v3 = .bool CC ∧ Aside0 (cI.j1 kq a0 CC = some r) ∧ Aside0 (kq ≤ oW) ∧ Drawn0 w wc)
   case first =>
    have H := Cu.out
    clear Cu
    by_cases c5 : aw = true
    ·subst c5
     have H1 : (cI.j1 oW a0 true) = some r := by rw [if_pos rfl] at H; exact H
     clear H
     have H := H1
     clear H1
     have H' := ak H
     clear H
     go_wp2
     go_meet
     case rel => exact ⟨_, (true), (by first | rfl | (simp; done) | (simp [*]; done)), H', ⟨by have := kN.out; first | omega | exact Nat.le_refl _⟩, by repeat (first | exact Drawn0.refl _ | apply Drawn0.step)⟩
    ·replace c5 := Bool.eq_false_iff.mpr c5
     subst c5
     have H1 : (if a0 ≥ 65 then (if a0 ≤ 90 then (cI.j1 oW a0 (decide (a0 ≤ 90))) else (if a0 ≥ 48 then (cI.j1 oW a0 (decide (a0 ≤ 57))) else (cI.j1 oW a0 false))) else (if a0 ≥ 48 then (cI.j1 oW a0 (decide (a0 ≤ 57))) else (cI.j1 oW a0 false))) = some r := by rw [if_neg (show ¬ (false = true) by decide)] at H; exact H
     clear H
     have H := H1
     clear H1
     by_cases c6 : a0 ≥ 65
     ·rw [if_pos c6] at H
      have jq : decide (65 ≤ a0) = true := decide_eq_true c6
      clear c6
      (first | rw [jq] | (simp only [cp, cL]; rw [jq]) | skip)
      by_cases c7 : a0 ≤ 90
      ·rw [if_pos c7] at H
       have nn : decide (a0 ≤ 90) = true := decide_eq_true c7
       clear c7
       have H' := ak H
       clear H
       go_wp2
       go_meet
       case rel => exact ⟨_, (decide (a0 ≤ 90)), (by first | rfl | (simp; done) | (simp [*]; done)), H', ⟨by have := kN.out; first | omega | exact Nat.le_refl _⟩, by repeat (first | exact Drawn0.refl _ | apply Drawn0.step)⟩
      ·rw [if_neg c7] at H
       have nn : decide (a0 ≤ 90) = false := decide_eq_false c7
       clear c7
       by_cases c8 : a0 ≥ 48
       ·rw [if_pos c8] at H
        have ma : decide (48 ≤ a0) = true := decide_eq_true c8
        clear c8
        have H' := ak H
        clear H
        go_wp2
        go_meet
        case rel => exact ⟨_, (decide (a0 ≤ 57)), (by first | rfl | (simp; done) | (simp [*]; done)), H', ⟨by have := kN.out; first | omega | exact Nat.le_refl _⟩, by repeat (first | exact Drawn0.refl _ | apply Drawn0.step)⟩
       ·rw [if_neg c8] at H
        have ma : decide (48 ≤ a0) = false := decide_eq_false c8
        clear c8
        have H' := ak H
        clear H
        go_wp2
        go_meet
        case rel => exact ⟨_, (false), (by first | rfl | (simp; done) | (simp [*]; done)), H', ⟨by have := kN.out; first | omega | exact Nat.le_refl _⟩, by repeat (first | exact Drawn0.refl _ | apply Drawn0.step)⟩
     ·rw [if_neg c6] at H
      have jq : decide (65 ≤ a0) = false := decide_eq_false c6
      clear c6
      (first | rw [jq] | (simp only [cp, cL]; rw [jq]) | skip)
      by_cases c9 : a0 ≥ 48
      ·rw [if_pos c9] at H
       have qh : decide (48 ≤ a0) = true := decide_eq_true c9
       clear c9
       have H' := ak H
       clear H
       go_wp2
       go_meet
       case rel => exact ⟨_, (decide (a0 ≤ 57)), (by first | rfl | (simp; done) | (simp [*]; done)), H', ⟨by have := kN.out; first | omega | exact Nat.le_refl _⟩, by repeat (first | exact Drawn0.refl _ | apply Drawn0.step)⟩
      ·rw [if_neg c9] at H
       have qh : decide (48 ≤ a0) = false := decide_eq_false c9
       clear c9
       have H' := ak H
       clear H
       go_wp2
       go_meet
       case rel => exact ⟨_, (false), (by first | rfl | (simp; done) | (simp [*]; done)), H', ⟨by have := kN.out; first | omega | exact Nat.le_refl _⟩, by repeat (first | exact Drawn0.refl _ | apply Drawn0.step)⟩
   case rest =>
    clear Cu
    obtain ⟨kq, CC, rfl, HA, Qg, ⟨XU, rfl⟩⟩ := hcut
    cases kq with
    | zero => exact absurd HA.out (by simp [cI.j1])
    | succ XW =>
     have H := HA.out
     clear HA
     simp only [cI.j1] at H
     by_cases c10 : CC = true
     ·subst c10
      have H1 : (some true) = some r := by rw [if_pos rfl] at H; exact H
      clear H
      have H := H1
      clear H1
      obtain rfl := Option.some.inj H
      go_wp2
      go_ret
      exact ⟨by first | rfl | (simp; done) | (simp [*]; done), by repeat (first | exact Drawn0.refl _ | apply Drawn0.step)⟩
     ·replace c10 := Bool.eq_false_iff.mpr c10
      subst c10
      have H1 : (if a0 = 46 then (some true) else (if a0 = 45 then (some true) else (if a0 = 95 then (some true) else (some false)))) = some r := by rw [if_neg (show ¬ (false = true) by decide)] at H; exact H
      clear H
      have H := H1
      clear H1
      by_cases eD : a0 = 46
      ·rw [if_pos eD] at H
       have mT : (a0 == 46) = true := beq_iff_eq.mpr eD
       have pT : (a0 != 46) = false := bne_eq_false_iff_eq.mpr eD
       clear eD
       obtain rfl := Option.some.inj H
       go_wp2
       go_ret
       exact ⟨by first | rfl | (simp; done) | (simp [*]; done), by repeat (first | exact Drawn0.refl _ | apply Drawn0.step)⟩
      ·rw [if_neg eD] at H
       have mT : (a0 == 46) = false := beq_eq_false_iff_ne.mpr eD
       have pT : (a0 != 46) = true := bne_iff_ne.mpr eD
       by_cases ft : a0 = 45
       ·rw [if_pos ft] at H
        have pS : (a0 == 45) = true := beq_iff_eq.mpr ft
        have we : (a0 != 45) = false := bne_eq_false_iff_eq.mpr ft
        clear ft
        obtain rfl := Option.some.inj H
        go_wp2
        go_ret
        exact ⟨by first | rfl | (simp; done) | (simp [*]; done), by repeat (first | exact Drawn0.refl _ | apply Drawn0.step)⟩
       ·rw [if_neg ft] at H
        have pS : (a0 == 45) = false := beq_eq_false_iff_ne.mpr ft
        have we : (a0 != 45) = true := bne_iff_ne.mpr ft
        by_cases jK : a0 = 95
        ·rw [if_pos jK] at H
         have wb : (a0 == 95) = true := beq_iff_eq.mpr jK
         have Dn : (a0 != 95) = false := bne_eq_false_iff_eq.mpr jK
         clear jK
         obtain rfl := Option.some.inj H
         go_wp2
         go_ret
         exact ⟨by first | rfl | (simp; done) | (simp [*]; done), by repeat (first | exact Drawn0.refl _ | apply Drawn0.step)⟩
        ·rw [if_neg jK] at H
         have wb : (a0 == 95) = false := beq_eq_false_iff_ne.mpr jK
         have Dn : (a0 != 95) = true := bne_iff_ne.mpr jK
         obtain rfl := Option.some.inj H
         go_wp2
         go_ret
         exact ⟨by first | rfl | (simp; done) | (simp [*]; done), by repeat (first | exact Drawn0.refl _ | apply Drawn0.step)⟩
end Go.Proofs.YtndddnglapkplaaGreatDoor.V
end

section
namespace Go.Proofs.YtndddnglapkplaaGreatDoor.V
attribute [local go_sem] bI bG bP bO bw bu bH bF
def aG.l0 : Nat → ByteArray → Int → Option (Bool)
 | 0, _, _ => none
 | k + 1, x0, x3 => if x3 < (x0.size : Int) then (if 0 ≤ x3 then (if (bt x0 x3) ≥ 97 then (if (bt x0 x3) ≤ 122 then (aG.l0 k x0 (wrap64 (x3 + 1))) else (if (bt x0 x3) ≥ 65 then (if (bt x0 x3) ≤ 90 then (aG.l0 k x0 (wrap64 (x3 + 1))) else (if (bt x0 x3) ≥ 48 then (if (bt x0 x3) ≤ 57 then (aG.l0 k x0 (wrap64 (x3 + 1))) else (if (bt x0 x3) = 46 then (aG.l0 k x0 (wrap64 (x3 + 1))) else (if (bt x0 x3) = 45 then (aG.l0 k x0 (wrap64 (x3 + 1))) else (if ((bt x0 x3) = 95) then (aG.l0 k x0 (wrap64 (x3 + 1))) else (some false))))) else (if (bt x0 x3) = 46 then (aG.l0 k x0 (wrap64 (x3 + 1))) else (if (bt x0 x3) = 45 then (aG.l0 k x0 (wrap64 (x3 + 1))) else (if ((bt x0 x3) = 95) then (aG.l0 k x0 (wrap64 (x3 + 1))) else (some false)))))) else (if (bt x0 x3) ≥ 48 then (if (bt x0 x3) ≤ 57 then (aG.l0 k x0 (wrap64 (x3 + 1))) else (if (bt x0 x3) = 46 then (aG.l0 k x0 (wrap64 (x3 + 1))) else (if (bt x0 x3) = 45 then (aG.l0 k x0 (wrap64 (x3 + 1))) else (if ((bt x0 x3) = 95) then (aG.l0 k x0 (wrap64 (x3 + 1))) else (some false))))) else (if (bt x0 x3) = 46 then (aG.l0 k x0 (wrap64 (x3 + 1))) else (if (bt x0 x3) = 45 then (aG.l0 k x0 (wrap64 (x3 + 1))) else (if ((bt x0 x3) = 95) then (aG.l0 k x0 (wrap64 (x3 + 1))) else (some false))))))) else (if (bt x0 x3) ≥ 65 then (if (bt x0 x3) ≤ 90 then (aG.l0 k x0 (wrap64 (x3 + 1))) else (if (bt x0 x3) ≥ 48 then (if (bt x0 x3) ≤ 57 then (aG.l0 k x0 (wrap64 (x3 + 1))) else (if (bt x0 x3) = 46 then (aG.l0 k x0 (wrap64 (x3 + 1))) else (if (bt x0 x3) = 45 then (aG.l0 k x0 (wrap64 (x3 + 1))) else (if ((bt x0 x3) = 95) then (aG.l0 k x0 (wrap64 (x3 + 1))) else (some false))))) else (if (bt x0 x3) = 46 then (aG.l0 k x0 (wrap64 (x3 + 1))) else (if (bt x0 x3) = 45 then (aG.l0 k x0 (wrap64 (x3 + 1))) else (if ((bt x0 x3) = 95) then (aG.l0 k x0 (wrap64 (x3 + 1))) else (some false)))))) else (if (bt x0 x3) ≥ 48 then (if (bt x0 x3) ≤ 57 then (aG.l0 k x0 (wrap64 (x3 + 1))) else (if (bt x0 x3) = 46 then (aG.l0 k x0 (wrap64 (x3 + 1))) else (if (bt x0 x3) = 45 then (aG.l0 k x0 (wrap64 (x3 + 1))) else (if ((bt x0 x3) = 95) then (aG.l0 k x0 (wrap64 (x3 + 1))) else (some false))))) else (if (bt x0 x3) = 46 then (aG.l0 k x0 (wrap64 (x3 + 1))) else (if (bt x0 x3) = 45 then (aG.l0 k x0 (wrap64 (x3 + 1))) else (if ((bt x0 x3) = 95) then (aG.l0 k x0 (wrap64 (x3 + 1))) else (some false))))))) else (none)) else (if (x0.size : Int) ≥ 1 then (some (decide ((x0.size : Int) ≤ 64))) else (some false))
def aG.f (k : Nat) (a0 : ByteArray) : Option (Bool) := aG.l0 k a0 0
set_option maxHeartbeats 8000000 in
set_option maxRecDepth 100000 in
theorem aG.calls (k : Nat) (a0 : ByteArray) (r : Bool) (w : World) (h : aG.f k a0 = some r) :
  Calls Tryz.prog 43 #[.string a0] w fun e w' => e = .returned (.bool r) ∧ Drawn0 w w' := by
 have H : (aG.l0 k a0 0) = some r := h
 clear h
 have H' := ak H
 clear H
 go_enter Tryz.func43, Tryz.ntmps43
 go_wp2
 go_loopg [3] k (fun kq v3 w' => ∃ (aw : Int), v3 = .int .i64 aw ∧ Aside0 (aG.l0 kq a0 aw = some r) ∧ Aside0 (kq ≤ k) ∧ Drawn0 w w')
 case atStart => exact ⟨(0), (by first | rfl | (simp; done) | (simp [*]; done)), H', ⟨Nat.le_refl _⟩, by repeat (first | exact Drawn0.refl _ | apply Drawn0.step)⟩
 case round =>
  clear H'
  obtain ⟨aw, rfl, HA, cC, ⟨m1, rfl⟩⟩ := hrel
  cases gk with
  | zero => exact absurd HA.out (by simp [aG.l0])
  | succ k1 =>
   have H := HA.out
   clear HA
   simp only [aG.l0] at H
   by_cases c2 : aw < (a0.size : Int)
   ·rw [if_pos c2] at H
    have gY : decide (aw < (a0.size : Int)) = true := decide_eq_true c2
    clear c2
    by_cases c3 : 0 ≤ aw
    ·rw [if_pos c3] at H
     have gw : decide (0 ≤ aw) = true := decide_eq_true c3
     clear c3
     by_cases c5 : (bt a0 aw) ≥ 97
     ·rw [if_pos c5] at H
      have mb : decide (97 ≤ (bt a0 aw)) = true := decide_eq_true c5
      clear c5
      by_cases c6 : (bt a0 aw) ≤ 122
      ·rw [if_pos c6] at H
       have jq : decide ((bt a0 aw) ≤ 122) = true := decide_eq_true c6
       clear c6
       have H' := ak H
       clear H
       have p4 : 0 ≤ (aw : Int) := of_decide_eq_true (by first | (with_reducible assumption) | assumption)
       have q4 : aw < (a0.size : Int) := of_decide_eq_true (by first | (with_reducible assumption) | assumption)
       have dj := cb a0 aw
       replace p4 := eq_true p4
       replace q4 := eq_true q4
       go_wp2
       go_roundg k1
       case measure => have := cC.out; omega
       case rel => exact ⟨(wrap64 (aw + 1)), (by first | rfl | (simp; done) | (simp [*]; done)), H', ⟨by have := cC.out; omega⟩, by repeat (first | exact Drawn0.refl _ | apply Drawn0.step)⟩
      ·rw [if_neg c6] at H
       have jq : decide ((bt a0 aw) ≤ 122) = false := decide_eq_false c6
       clear c6
       by_cases c7 : (bt a0 aw) ≥ 65
       ·rw [if_pos c7] at H
        have nn : decide (65 ≤ (bt a0 aw)) = true := decide_eq_true c7
        clear c7
        by_cases c8 : (bt a0 aw) ≤ 90
        ·rw [if_pos c8] at H
         have ma : decide ((bt a0 aw) ≤ 90) = true := decide_eq_true c8
         clear c8
         have H' := ak H
         clear H
         have p4 : 0 ≤ (aw : Int) := of_decide_eq_true (by first | (with_reducible assumption) | assumption)
         have q4 : aw < (a0.size : Int) := of_decide_eq_true (by first | (with_reducible assumption) | assumption)
         have dj := cb a0 aw
         replace p4 := eq_true p4
         replace q4 := eq_true q4
         go_wp2
         go_roundg k1
         case measure => have := cC.out; omega
         case rel => exact ⟨(wrap64 (aw + 1)), (by first | rfl | (simp; done) | (simp [*]; done)), H', ⟨by have := cC.out; omega⟩, by repeat (first | exact Drawn0.refl _ | apply Drawn0.step)⟩
        ·rw [if_neg c8] at H
         have ma : decide ((bt a0 aw) ≤ 90) = false := decide_eq_false c8
         clear c8
         by_cases c9 : (bt a0 aw) ≥ 48
         ·rw [if_pos c9] at H
          have qh : decide (48 ≤ (bt a0 aw)) = true := decide_eq_true c9
          clear c9
          by_cases c10 : (bt a0 aw) ≤ 57
          ·rw [if_pos c10] at H
           have tN : decide ((bt a0 aw) ≤ 57) = true := decide_eq_true c10
           clear c10
           have H' := ak H
           clear H
           have p4 : 0 ≤ (aw : Int) := of_decide_eq_true (by first | (with_reducible assumption) | assumption)
           have q4 : aw < (a0.size : Int) := of_decide_eq_true (by first | (with_reducible assumption) | assumption)
           have dj := cb a0 aw
           replace p4 := eq_true p4
           replace q4 := eq_true q4
           go_wp2
           go_roundg k1
           case measure => have := cC.out; omega
           case rel => exact ⟨(wrap64 (aw + 1)), (by first | rfl | (simp; done) | (simp [*]; done)), H', ⟨by have := cC.out; omega⟩, by repeat (first | exact Drawn0.refl _ | apply Drawn0.step)⟩
          ·rw [if_neg c10] at H
           have tN : decide ((bt a0 aw) ≤ 57) = false := decide_eq_false c10
           clear c10
           by_cases eD : (bt a0 aw) = 46
           ·rw [if_pos eD] at H
            have mT : ((bt a0 aw) == 46) = true := beq_iff_eq.mpr eD
            have pT : ((bt a0 aw) != 46) = false := bne_eq_false_iff_eq.mpr eD
            clear eD
            have H' := ak H
            clear H
            have p4 : 0 ≤ (aw : Int) := of_decide_eq_true (by first | (with_reducible assumption) | assumption)
            have q4 : aw < (a0.size : Int) := of_decide_eq_true (by first | (with_reducible assumption) | assumption)
            have dj := cb a0 aw
            replace p4 := eq_true p4
            replace q4 := eq_true q4
            go_wp2
            go_roundg k1
            case measure => have := cC.out; omega
            case rel => exact ⟨(wrap64 (aw + 1)), (by first | rfl | (simp; done) | (simp [*]; done)), H', ⟨by have := cC.out; omega⟩, by repeat (first | exact Drawn0.refl _ | apply Drawn0.step)⟩
           ·rw [if_neg eD] at H
            have mT : ((bt a0 aw) == 46) = false := beq_eq_false_iff_ne.mpr eD
            have pT : ((bt a0 aw) != 46) = true := bne_iff_ne.mpr eD
            by_cases ft : (bt a0 aw) = 45
            ·rw [if_pos ft] at H
             have pS : ((bt a0 aw) == 45) = true := beq_iff_eq.mpr ft
             have we : ((bt a0 aw) != 45) = false := bne_eq_false_iff_eq.mpr ft
             clear ft
             have H' := ak H
             clear H
             have p4 : 0 ≤ (aw : Int) := of_decide_eq_true (by first | (with_reducible assumption) | assumption)
             have q4 : aw < (a0.size : Int) := of_decide_eq_true (by first | (with_reducible assumption) | assumption)
             have dj := cb a0 aw
             replace p4 := eq_true p4
             replace q4 := eq_true q4
             go_wp2
             go_roundg k1
             case measure => have := cC.out; omega
             case rel => exact ⟨(wrap64 (aw + 1)), (by first | rfl | (simp; done) | (simp [*]; done)), H', ⟨by have := cC.out; omega⟩, by repeat (first | exact Drawn0.refl _ | apply Drawn0.step)⟩
            ·rw [if_neg ft] at H
             have pS : ((bt a0 aw) == 45) = false := beq_eq_false_iff_ne.mpr ft
             have we : ((bt a0 aw) != 45) = true := bne_iff_ne.mpr ft
             by_cases jK : ((bt a0 aw) = 95)
             ·rw [if_pos jK] at H
              have wb : ((bt a0 aw) == 95) = true := beq_iff_eq.mpr jK
              have Dn : ((bt a0 aw) != 95) = false := bne_eq_false_iff_eq.mpr jK
              clear jK
              have H' := ak H
              clear H
              have p4 : 0 ≤ (aw : Int) := of_decide_eq_true (by first | (with_reducible assumption) | assumption)
              have q4 : aw < (a0.size : Int) := of_decide_eq_true (by first | (with_reducible assumption) | assumption)
              have dj := cb a0 aw
              replace p4 := eq_true p4
              replace q4 := eq_true q4
              go_wp2
              go_roundg k1
              case measure => have := cC.out; omega
              case rel => exact ⟨(wrap64 (aw + 1)), (by first | rfl | (simp; done) | (simp [*]; done)), H', ⟨by have := cC.out; omega⟩, by repeat (first | exact Drawn0.refl _ | apply Drawn0.step)⟩
             ·rw [if_neg jK] at H
              have wb : ((bt a0 aw) == 95) = false := beq_eq_false_iff_ne.mpr jK
              have Dn : ((bt a0 aw) != 95) = true := bne_iff_ne.mpr jK
              obtain rfl := Option.some.inj H
              have p4 : 0 ≤ (aw : Int) := of_decide_eq_true (by first | (with_reducible assumption) | assumption)
              have q4 : aw < (a0.size : Int) := of_decide_eq_true (by first | (with_reducible assumption) | assumption)
              have dj := cb a0 aw
              replace p4 := eq_true p4
              replace q4 := eq_true q4
              go_wp2
              go_ret
              exact ⟨by first | rfl | (simp; done) | (simp [*]; done), by repeat (first | exact Drawn0.refl _ | apply Drawn0.step)⟩
         ·rw [if_neg c9] at H
          have qh : decide (48 ≤ (bt a0 aw)) = false := decide_eq_false c9
          clear c9
          by_cases fD : (bt a0 aw) = 46
          ·rw [if_pos fD] at H
           have rL : ((bt a0 aw) == 46) = true := beq_iff_eq.mpr fD
           have Dm : ((bt a0 aw) != 46) = false := bne_eq_false_iff_eq.mpr fD
           clear fD
           have H' := ak H
           clear H
           have p4 : 0 ≤ (aw : Int) := of_decide_eq_true (by first | (with_reducible assumption) | assumption)
           have q4 : aw < (a0.size : Int) := of_decide_eq_true (by first | (with_reducible assumption) | assumption)
           have dj := cb a0 aw
           replace p4 := eq_true p4
           replace q4 := eq_true q4
           go_wp2
           go_roundg k1
           case measure => have := cC.out; omega
           case rel => exact ⟨(wrap64 (aw + 1)), (by first | rfl | (simp; done) | (simp [*]; done)), H', ⟨by have := cC.out; omega⟩, by repeat (first | exact Drawn0.refl _ | apply Drawn0.step)⟩
          ·rw [if_neg fD] at H
           have rL : ((bt a0 aw) == 46) = false := beq_eq_false_iff_ne.mpr fD
           have Dm : ((bt a0 aw) != 46) = true := bne_iff_ne.mpr fD
           by_cases kL : (bt a0 aw) = 45
           ·rw [if_pos kL] at H
            have Dl : ((bt a0 aw) == 45) = true := beq_iff_eq.mpr kL
            have IV : ((bt a0 aw) != 45) = false := bne_eq_false_iff_eq.mpr kL
            clear kL
            have H' := ak H
            clear H
            have p4 : 0 ≤ (aw : Int) := of_decide_eq_true (by first | (with_reducible assumption) | assumption)
            have q4 : aw < (a0.size : Int) := of_decide_eq_true (by first | (with_reducible assumption) | assumption)
            have dj := cb a0 aw
            replace p4 := eq_true p4
            replace q4 := eq_true q4
            go_wp2
            go_roundg k1
            case measure => have := cC.out; omega
            case rel => exact ⟨(wrap64 (aw + 1)), (by first | rfl | (simp; done) | (simp [*]; done)), H', ⟨by have := cC.out; omega⟩, by repeat (first | exact Drawn0.refl _ | apply Drawn0.step)⟩
           ·rw [if_neg kL] at H
            have Dl : ((bt a0 aw) == 45) = false := beq_eq_false_iff_ne.mpr kL
            have IV : ((bt a0 aw) != 45) = true := bne_iff_ne.mpr kL
            by_cases mS : ((bt a0 aw) = 95)
            ·rw [if_pos mS] at H
             have yv : ((bt a0 aw) == 95) = true := beq_iff_eq.mpr mS
             have Pb : ((bt a0 aw) != 95) = false := bne_eq_false_iff_eq.mpr mS
             clear mS
             have H' := ak H
             clear H
             have p4 : 0 ≤ (aw : Int) := of_decide_eq_true (by first | (with_reducible assumption) | assumption)
             have q4 : aw < (a0.size : Int) := of_decide_eq_true (by first | (with_reducible assumption) | assumption)
             have dj := cb a0 aw
             replace p4 := eq_true p4
             replace q4 := eq_true q4
             go_wp2
             go_roundg k1
             case measure => have := cC.out; omega
             case rel => exact ⟨(wrap64 (aw + 1)), (by first | rfl | (simp; done) | (simp [*]; done)), H', ⟨by have := cC.out; omega⟩, by repeat (first | exact Drawn0.refl _ | apply Drawn0.step)⟩
            ·rw [if_neg mS] at H
             have yv : ((bt a0 aw) == 95) = false := beq_eq_false_iff_ne.mpr mS
             have Pb : ((bt a0 aw) != 95) = true := bne_iff_ne.mpr mS
             obtain rfl := Option.some.inj H
             have p4 : 0 ≤ (aw : Int) := of_decide_eq_true (by first | (with_reducible assumption) | assumption)
             have q4 : aw < (a0.size : Int) := of_decide_eq_true (by first | (with_reducible assumption) | assumption)
             have dj := cb a0 aw
             replace p4 := eq_true p4
             replace q4 := eq_true q4
             go_wp2
             go_ret
             exact ⟨by first | rfl | (simp; done) | (simp [*]; done), by repeat (first | exact Drawn0.refl _ | apply Drawn0.step)⟩
       ·rw [if_neg c7] at H
        have nn : decide (65 ≤ (bt a0 aw)) = false := decide_eq_false c7
        clear c7
        by_cases sY : (bt a0 aw) ≥ 48
        ·rw [if_pos sY] at H
         have Pa : decide (48 ≤ (bt a0 aw)) = true := decide_eq_true sY
         clear sY
         by_cases pR : (bt a0 aw) ≤ 57
         ·rw [if_pos pR] at H
          have Dk : decide ((bt a0 aw) ≤ 57) = true := decide_eq_true pR
          clear pR
          have H' := ak H
          clear H
          have p4 : 0 ≤ (aw : Int) := of_decide_eq_true (by first | (with_reducible assumption) | assumption)
          have q4 : aw < (a0.size : Int) := of_decide_eq_true (by first | (with_reducible assumption) | assumption)
          have dj := cb a0 aw
          replace p4 := eq_true p4
          replace q4 := eq_true q4
          go_wp2
          go_roundg k1
          case measure => have := cC.out; omega
          case rel => exact ⟨(wrap64 (aw + 1)), (by first | rfl | (simp; done) | (simp [*]; done)), H', ⟨by have := cC.out; omega⟩, by repeat (first | exact Drawn0.refl _ | apply Drawn0.step)⟩
         ·rw [if_neg pR] at H
          have Dk : decide ((bt a0 aw) ≤ 57) = false := decide_eq_false pR
          clear pR
          by_cases z6 : (bt a0 aw) = 46
          ·rw [if_pos z6] at H
           have O8 : ((bt a0 aw) == 46) = true := beq_iff_eq.mpr z6
           have O7 : ((bt a0 aw) != 46) = false := bne_eq_false_iff_eq.mpr z6
           clear z6
           have H' := ak H
           clear H
           have p4 : 0 ≤ (aw : Int) := of_decide_eq_true (by first | (with_reducible assumption) | assumption)
           have q4 : aw < (a0.size : Int) := of_decide_eq_true (by first | (with_reducible assumption) | assumption)
           have dj := cb a0 aw
           replace p4 := eq_true p4
           replace q4 := eq_true q4
           go_wp2
           go_roundg k1
           case measure => have := cC.out; omega
           case rel => exact ⟨(wrap64 (aw + 1)), (by first | rfl | (simp; done) | (simp [*]; done)), H', ⟨by have := cC.out; omega⟩, by repeat (first | exact Drawn0.refl _ | apply Drawn0.step)⟩
          ·rw [if_neg z6] at H
           have O8 : ((bt a0 aw) == 46) = false := beq_eq_false_iff_ne.mpr z6
           have O7 : ((bt a0 aw) != 46) = true := bne_iff_ne.mpr z6
           by_cases zZ : (bt a0 aw) = 45
           ·rw [if_pos zZ] at H
            have O6 : ((bt a0 aw) == 45) = true := beq_iff_eq.mpr zZ
            have O5 : ((bt a0 aw) != 45) = false := bne_eq_false_iff_eq.mpr zZ
            clear zZ
            have H' := ak H
            clear H
            have p4 : 0 ≤ (aw : Int) := of_decide_eq_true (by first | (with_reducible assumption) | assumption)
            have q4 : aw < (a0.size : Int) := of_decide_eq_true (by first | (with_reducible assumption) | assumption)
            have dj := cb a0 aw
            replace p4 := eq_true p4
            replace q4 := eq_true q4
            go_wp2
            go_roundg k1
            case measure => have := cC.out; omega
            case rel => exact ⟨(wrap64 (aw + 1)), (by first | rfl | (simp; done) | (simp [*]; done)), H', ⟨by have := cC.out; omega⟩, by repeat (first | exact Drawn0.refl _ | apply Drawn0.step)⟩
           ·rw [if_neg zZ] at H
            have O6 : ((bt a0 aw) == 45) = false := beq_eq_false_iff_ne.mpr zZ
            have O5 : ((bt a0 aw) != 45) = true := bne_iff_ne.mpr zZ
            by_cases zY : ((bt a0 aw) = 95)
            ·rw [if_pos zY] at H
             have O4 : ((bt a0 aw) == 95) = true := beq_iff_eq.mpr zY
             have O3 : ((bt a0 aw) != 95) = false := bne_eq_false_iff_eq.mpr zY
             clear zY
             have H' := ak H
             clear H
             have p4 : 0 ≤ (aw : Int) := of_decide_eq_true (by first | (with_reducible assumption) | assumption)
             have q4 : aw < (a0.size : Int) := of_decide_eq_true (by first | (with_reducible assumption) | assumption)
             have dj := cb a0 aw
             replace p4 := eq_true p4
             replace q4 := eq_true q4
             go_wp2
             go_roundg k1
             case measure => have := cC.out; omega
             case rel => exact ⟨(wrap64 (aw + 1)), (by first | rfl | (simp; done) | (simp [*]; done)), H', ⟨by have := cC.out; omega⟩, by repeat (first | exact Drawn0.refl _ | apply Drawn0.step)⟩
            ·rw [if_neg zY] at H
             have O4 : ((bt a0 aw) == 95) = false := beq_eq_false_iff_ne.mpr zY
             have O3 : ((bt a0 aw) != 95) = true := bne_iff_ne.mpr zY
             obtain rfl := Option.some.inj H
             have p4 : 0 ≤ (aw : Int) := of_decide_eq_true (by first | (with_reducible assumption) | assumption)
             have q4 : aw < (a0.size : Int) := of_decide_eq_true (by first | (with_reducible assumption) | assumption)
             have dj := cb a0 aw
             replace p4 := eq_true p4
             replace q4 := eq_true q4
             go_wp2
             go_ret
             exact ⟨by first | rfl | (simp; done) | (simp [*]; done), by repeat (first | exact Drawn0.refl _ | apply Drawn0.step)⟩
        ·rw [if_neg sY] at H
         have Pa : decide (48 ≤ (bt a0 aw)) = false := decide_eq_false sY
         clear sY
         by_cases r8 : (bt a0 aw) = 46
         ·rw [if_pos r8] at H
          have O2 : ((bt a0 aw) == 46) = true := beq_iff_eq.mpr r8
          have O1 : ((bt a0 aw) != 46) = false := bne_eq_false_iff_eq.mpr r8
          clear r8
          have H' := ak H
          clear H
          have p4 : 0 ≤ (aw : Int) := of_decide_eq_true (by first | (with_reducible assumption) | assumption)
          have q4 : aw < (a0.size : Int) := of_decide_eq_true (by first | (with_reducible assumption) | assumption)
          have dj := cb a0 aw
          replace p4 := eq_true p4
          replace q4 := eq_true q4
          go_wp2
          go_roundg k1
          case measure => have := cC.out; omega
          case rel => exact ⟨(wrap64 (aw + 1)), (by first | rfl | (simp; done) | (simp [*]; done)), H', ⟨by have := cC.out; omega⟩, by repeat (first | exact Drawn0.refl _ | apply Drawn0.step)⟩
         ·rw [if_neg r8] at H
          have O2 : ((bt a0 aw) == 46) = false := beq_eq_false_iff_ne.mpr r8
          have O1 : ((bt a0 aw) != 46) = true := bne_iff_ne.mpr r8
          by_cases pQ : (bt a0 aw) = 45
          ·rw [if_pos pQ] at H
           have Dj : ((bt a0 aw) == 45) = true := beq_iff_eq.mpr pQ
           have O0 : ((bt a0 aw) != 45) = false := bne_eq_false_iff_eq.mpr pQ
           clear pQ
           have H' := ak H
           clear H
           have p4 : 0 ≤ (aw : Int) := of_decide_eq_true (by first | (with_reducible assumption) | assumption)
           have q4 : aw < (a0.size : Int) := of_decide_eq_true (by first | (with_reducible assumption) | assumption)
           have dj := cb a0 aw
           replace p4 := eq_true p4
           replace q4 := eq_true q4
           go_wp2
           go_roundg k1
           case measure => have := cC.out; omega
           case rel => exact ⟨(wrap64 (aw + 1)), (by first | rfl | (simp; done) | (simp [*]; done)), H', ⟨by have := cC.out; omega⟩, by repeat (first | exact Drawn0.refl _ | apply Drawn0.step)⟩
          ·rw [if_neg pQ] at H
           have Dj : ((bt a0 aw) == 45) = false := beq_eq_false_iff_ne.mpr pQ
           have O0 : ((bt a0 aw) != 45) = true := bne_iff_ne.mpr pQ
           by_cases zX : ((bt a0 aw) = 95)
           ·rw [if_pos zX] at H
            have OZ : ((bt a0 aw) == 95) = true := beq_iff_eq.mpr zX
            have OY : ((bt a0 aw) != 95) = false := bne_eq_false_iff_eq.mpr zX
            clear zX
            have H' := ak H
            clear H
            have p4 : 0 ≤ (aw : Int) := of_decide_eq_true (by first | (with_reducible assumption) | assumption)
            have q4 : aw < (a0.size : Int) := of_decide_eq_true (by first | (with_reducible assumption) | assumption)
            have dj := cb a0 aw
            replace p4 := eq_true p4
            replace q4 := eq_true q4
            go_wp2
            go_roundg k1
            case measure => have := cC.out; omega
            case rel => exact ⟨(wrap64 (aw + 1)), (by first | rfl | (simp; done) | (simp [*]; done)), H', ⟨by have := cC.out; omega⟩, by repeat (first | exact Drawn0.refl _ | apply Drawn0.step)⟩
           ·rw [if_neg zX] at H
            have OZ : ((bt a0 aw) == 95) = false := beq_eq_false_iff_ne.mpr zX
            have OY : ((bt a0 aw) != 95) = true := bne_iff_ne.mpr zX
            obtain rfl := Option.some.inj H
            have p4 : 0 ≤ (aw : Int) := of_decide_eq_true (by first | (with_reducible assumption) | assumption)
            have q4 : aw < (a0.size : Int) := of_decide_eq_true (by first | (with_reducible assumption) | assumption)
            have dj := cb a0 aw
            replace p4 := eq_true p4
            replace q4 := eq_true q4
            go_wp2
            go_ret
            exact ⟨by first | rfl | (simp; done) | (simp [*]; done), by repeat (first | exact Drawn0.refl _ | apply Drawn0.step)⟩
     ·rw [if_neg c5] at H
      have mb : decide (97 ≤ (bt a0 aw)) = false := decide_eq_false c5
      clear c5
      by_cases sX : (bt a0 aw) ≥ 65
      ·rw [if_pos sX] at H
       have IU : decide (65 ≤ (bt a0 aw)) = true := decide_eq_true sX
       clear sX
       by_cases sW : (bt a0 aw) ≤ 90
       ·rw [if_pos sW] at H
        have IT : decide ((bt a0 aw) ≤ 90) = true := decide_eq_true sW
        clear sW
        have H' := ak H
        clear H
        have p4 : 0 ≤ (aw : Int) := of_decide_eq_true (by first | (with_reducible assumption) | assumption)
        have q4 : aw < (a0.size : Int) := of_decide_eq_true (by first | (with_reducible assumption) | assumption)
        have dj := cb a0 aw
        replace p4 := eq_true p4
        replace q4 := eq_true q4
        go_wp2
        go_roundg k1
        case measure => have := cC.out; omega
        case rel => exact ⟨(wrap64 (aw + 1)), (by first | rfl | (simp; done) | (simp [*]; done)), H', ⟨by have := cC.out; omega⟩, by repeat (first | exact Drawn0.refl _ | apply Drawn0.step)⟩
       ·rw [if_neg sW] at H
        have IT : decide ((bt a0 aw) ≤ 90) = false := decide_eq_false sW
        clear sW
        by_cases qP : (bt a0 aw) ≥ 48
        ·rw [if_pos qP] at H
         have Di : decide (48 ≤ (bt a0 aw)) = true := decide_eq_true qP
         clear qP
         by_cases Cc : (bt a0 aw) ≤ 57
         ·rw [if_pos Cc] at H
          have OX : decide ((bt a0 aw) ≤ 57) = true := decide_eq_true Cc
          clear Cc
          have H' := ak H
          clear H
          have p4 : 0 ≤ (aw : Int) := of_decide_eq_true (by first | (with_reducible assumption) | assumption)
          have q4 : aw < (a0.size : Int) := of_decide_eq_true (by first | (with_reducible assumption) | assumption)
          have dj := cb a0 aw
          replace p4 := eq_true p4
          replace q4 := eq_true q4
          go_wp2
          go_roundg k1
          case measure => have := cC.out; omega
          case rel => exact ⟨(wrap64 (aw + 1)), (by first | rfl | (simp; done) | (simp [*]; done)), H', ⟨by have := cC.out; omega⟩, by repeat (first | exact Drawn0.refl _ | apply Drawn0.step)⟩
         ·rw [if_neg Cc] at H
          have OX : decide ((bt a0 aw) ≤ 57) = false := decide_eq_false Cc
          clear Cc
          by_cases zW : (bt a0 aw) = 46
          ·rw [if_pos zW] at H
           have OW : ((bt a0 aw) == 46) = true := beq_iff_eq.mpr zW
           have OV : ((bt a0 aw) != 46) = false := bne_eq_false_iff_eq.mpr zW
           clear zW
           have H' := ak H
           clear H
           have p4 : 0 ≤ (aw : Int) := of_decide_eq_true (by first | (with_reducible assumption) | assumption)
           have q4 : aw < (a0.size : Int) := of_decide_eq_true (by first | (with_reducible assumption) | assumption)
           have dj := cb a0 aw
           replace p4 := eq_true p4
           replace q4 := eq_true q4
           go_wp2
           go_roundg k1
           case measure => have := cC.out; omega
           case rel => exact ⟨(wrap64 (aw + 1)), (by first | rfl | (simp; done) | (simp [*]; done)), H', ⟨by have := cC.out; omega⟩, by repeat (first | exact Drawn0.refl _ | apply Drawn0.step)⟩
          ·rw [if_neg zW] at H
           have OW : ((bt a0 aw) == 46) = false := beq_eq_false_iff_ne.mpr zW
           have OV : ((bt a0 aw) != 46) = true := bne_iff_ne.mpr zW
           by_cases zV : (bt a0 aw) = 45
           ·rw [if_pos zV] at H
            have OU : ((bt a0 aw) == 45) = true := beq_iff_eq.mpr zV
            have OT : ((bt a0 aw) != 45) = false := bne_eq_false_iff_eq.mpr zV
            clear zV
            have H' := ak H
            clear H
            have p4 : 0 ≤ (aw : Int) := of_decide_eq_true (by first | (with_reducible assumption) | assumption)
            have q4 : aw < (a0.size : Int) := of_decide_eq_true (by first | (with_reducible assumption) | assumption)
            have dj := cb a0 aw
            replace p4 := eq_true p4
            replace q4 := eq_true q4
            go_wp2
            go_roundg k1
            case measure => have := cC.out; omega
            case rel => exact ⟨(wrap64 (aw + 1)), (by first | rfl | (simp; done) | (simp [*]; done)), H', ⟨by have := cC.out; omega⟩, by repeat (first | exact Drawn0.refl _ | apply Drawn0.step)⟩
           ·rw [if_neg zV] at H
            have OU : ((bt a0 aw) == 45) = false := beq_eq_false_iff_ne.mpr zV
            have OT : ((bt a0 aw) != 45) = true := bne_iff_ne.mpr zV
            by_cases r7 : ((bt a0 aw) = 95)
            ·rw [if_pos r7] at H
             have OS : ((bt a0 aw) == 95) = true := beq_iff_eq.mpr r7
             have OR : ((bt a0 aw) != 95) = false := bne_eq_false_iff_eq.mpr r7
             clear r7
             have H' := ak H
             clear H
             have p4 : 0 ≤ (aw : Int) := of_decide_eq_true (by first | (with_reducible assumption) | assumption)
             have q4 : aw < (a0.size : Int) := of_decide_eq_true (by first | (with_reducible assumption) | assumption)
             have dj := cb a0 aw
             replace p4 := eq_true p4
             replace q4 := eq_true q4
             go_wp2
             go_roundg k1
             case measure => have := cC.out; omega
             case rel => exact ⟨(wrap64 (aw + 1)), (by first | rfl | (simp; done) | (simp [*]; done)), H', ⟨by have := cC.out; omega⟩, by repeat (first | exact Drawn0.refl _ | apply Drawn0.step)⟩
            ·rw [if_neg r7] at H
             have OS : ((bt a0 aw) == 95) = false := beq_eq_false_iff_ne.mpr r7
             have OR : ((bt a0 aw) != 95) = true := bne_iff_ne.mpr r7
             obtain rfl := Option.some.inj H
             have p4 : 0 ≤ (aw : Int) := of_decide_eq_true (by first | (with_reducible assumption) | assumption)
             have q4 : aw < (a0.size : Int) := of_decide_eq_true (by first | (with_reducible assumption) | assumption)
             have dj := cb a0 aw
             replace p4 := eq_true p4
             replace q4 := eq_true q4
             go_wp2
             go_ret
             exact ⟨by first | rfl | (simp; done) | (simp [*]; done), by repeat (first | exact Drawn0.refl _ | apply Drawn0.step)⟩
        ·rw [if_neg qP] at H
         have Di : decide (48 ≤ (bt a0 aw)) = false := decide_eq_false qP
         clear qP
         by_cases qO : (bt a0 aw) = 46
         ·rw [if_pos qO] at H
          have IS : ((bt a0 aw) == 46) = true := beq_iff_eq.mpr qO
          have IQ : ((bt a0 aw) != 46) = false := bne_eq_false_iff_eq.mpr qO
          clear qO
          have H' := ak H
          clear H
          have p4 : 0 ≤ (aw : Int) := of_decide_eq_true (by first | (with_reducible assumption) | assumption)
          have q4 : aw < (a0.size : Int) := of_decide_eq_true (by first | (with_reducible assumption) | assumption)
          have dj := cb a0 aw
          replace p4 := eq_true p4
          replace q4 := eq_true q4
          go_wp2
          go_roundg k1
          case measure => have := cC.out; omega
          case rel => exact ⟨(wrap64 (aw + 1)), (by first | rfl | (simp; done) | (simp [*]; done)), H', ⟨by have := cC.out; omega⟩, by repeat (first | exact Drawn0.refl _ | apply Drawn0.step)⟩
         ·rw [if_neg qO] at H
          have IS : ((bt a0 aw) == 46) = false := beq_eq_false_iff_ne.mpr qO
          have IQ : ((bt a0 aw) != 46) = true := bne_iff_ne.mpr qO
          by_cases qN : (bt a0 aw) = 45
          ·rw [if_pos qN] at H
           have IP : ((bt a0 aw) == 45) = true := beq_iff_eq.mpr qN
           have IN : ((bt a0 aw) != 45) = false := bne_eq_false_iff_eq.mpr qN
           clear qN
           have H' := ak H
           clear H
           have p4 : 0 ≤ (aw : Int) := of_decide_eq_true (by first | (with_reducible assumption) | assumption)
           have q4 : aw < (a0.size : Int) := of_decide_eq_true (by first | (with_reducible assumption) | assumption)
           have dj := cb a0 aw
           replace p4 := eq_true p4
           replace q4 := eq_true q4
           go_wp2
           go_roundg k1
           case measure => have := cC.out; omega
           case rel => exact ⟨(wrap64 (aw + 1)), (by first | rfl | (simp; done) | (simp [*]; done)), H', ⟨by have := cC.out; omega⟩, by repeat (first | exact Drawn0.refl _ | apply Drawn0.step)⟩
          ·rw [if_neg qN] at H
           have IP : ((bt a0 aw) == 45) = false := beq_eq_false_iff_ne.mpr qN
           have IN : ((bt a0 aw) != 45) = true := bne_iff_ne.mpr qN
           by_cases zU : ((bt a0 aw) = 95)
           ·rw [if_pos zU] at H
            have OQ : ((bt a0 aw) == 95) = true := beq_iff_eq.mpr zU
            have OP : ((bt a0 aw) != 95) = false := bne_eq_false_iff_eq.mpr zU
            clear zU
            have H' := ak H
            clear H
            have p4 : 0 ≤ (aw : Int) := of_decide_eq_true (by first | (with_reducible assumption) | assumption)
            have q4 : aw < (a0.size : Int) := of_decide_eq_true (by first | (with_reducible assumption) | assumption)
            have dj := cb a0 aw
            replace p4 := eq_true p4
            replace q4 := eq_true q4
            go_wp2
            go_roundg k1
            case measure => have := cC.out; omega
            case rel => exact ⟨(wrap64 (aw + 1)), (by first | rfl | (simp; done) | (simp [*]; done)), H', ⟨by have := cC.out; omega⟩, by repeat (first | exact Drawn0.refl _ | apply Drawn0.step)⟩
           ·rw [if_neg zU] at H
            have OQ : ((bt a0 aw) == 95) = false := beq_eq_false_iff_ne.mpr zU
            have OP : ((bt a0 aw) != 95) = true := bne_iff_ne.mpr zU
            obtain rfl := Option.some.inj H
            have p4 : 0 ≤ (aw : Int) := of_decide_eq_true (by first | (with_reducible assumption) | assumption)
            have q4 : aw < (a0.size : Int) := of_decide_eq_true (by first | (with_reducible assumption) | assumption)
            have dj := cb a0 aw
            replace p4 := eq_true p4
            replace q4 := eq_true q4
            go_wp2
            go_ret
            exact ⟨by first | rfl | (simp; done) | (simp [*]; done), by repeat (first | exact Drawn0.refl _ | apply Drawn0.step)⟩
      ·rw [if_neg sX] at H
       have IU : decide (65 ≤ (bt a0 aw)) = false := decide_eq_false sX
       clear sX
       by_cases Cb : (bt a0 aw) ≥ 48
       ·rw [if_pos Cb] at H
        have OO : decide (48 ≤ (bt a0 aw)) = true := decide_eq_true Cb
        clear Cb
        by_cases Ca : (bt a0 aw) ≤ 57
        ·rw [if_pos Ca] at H
         have ON : decide ((bt a0 aw) ≤ 57) = true := decide_eq_true Ca
         clear Ca
         have H' := ak H
         clear H
         have p4 : 0 ≤ (aw : Int) := of_decide_eq_true (by first | (with_reducible assumption) | assumption)
         have q4 : aw < (a0.size : Int) := of_decide_eq_true (by first | (with_reducible assumption) | assumption)
         have dj := cb a0 aw
         replace p4 := eq_true p4
         replace q4 := eq_true q4
         go_wp2
         go_roundg k1
         case measure => have := cC.out; omega
         case rel => exact ⟨(wrap64 (aw + 1)), (by first | rfl | (simp; done) | (simp [*]; done)), H', ⟨by have := cC.out; omega⟩, by repeat (first | exact Drawn0.refl _ | apply Drawn0.step)⟩
        ·rw [if_neg Ca] at H
         have ON : decide ((bt a0 aw) ≤ 57) = false := decide_eq_false Ca
         clear Ca
         by_cases pP : (bt a0 aw) = 46
         ·rw [if_pos pP] at H
          have Dh : ((bt a0 aw) == 46) = true := beq_iff_eq.mpr pP
          have OM : ((bt a0 aw) != 46) = false := bne_eq_false_iff_eq.mpr pP
          clear pP
          have H' := ak H
          clear H
          have p4 : 0 ≤ (aw : Int) := of_decide_eq_true (by first | (with_reducible assumption) | assumption)
          have q4 : aw < (a0.size : Int) := of_decide_eq_true (by first | (with_reducible assumption) | assumption)
          have dj := cb a0 aw
          replace p4 := eq_true p4
          replace q4 := eq_true q4
          go_wp2
          go_roundg k1
          case measure => have := cC.out; omega
          case rel => exact ⟨(wrap64 (aw + 1)), (by first | rfl | (simp; done) | (simp [*]; done)), H', ⟨by have := cC.out; omega⟩, by repeat (first | exact Drawn0.refl _ | apply Drawn0.step)⟩
         ·rw [if_neg pP] at H
          have Dh : ((bt a0 aw) == 46) = false := beq_eq_false_iff_ne.mpr pP
          have OM : ((bt a0 aw) != 46) = true := bne_iff_ne.mpr pP
          by_cases rZ : (bt a0 aw) = 45
          ·rw [if_pos rZ] at H
           have IM : ((bt a0 aw) == 45) = true := beq_iff_eq.mpr rZ
           have OL : ((bt a0 aw) != 45) = false := bne_eq_false_iff_eq.mpr rZ
           clear rZ
           have H' := ak H
           clear H
           have p4 : 0 ≤ (aw : Int) := of_decide_eq_true (by first | (with_reducible assumption) | assumption)
           have q4 : aw < (a0.size : Int) := of_decide_eq_true (by first | (with_reducible assumption) | assumption)
           have dj := cb a0 aw
           replace p4 := eq_true p4
           replace q4 := eq_true q4
           go_wp2
           go_roundg k1
           case measure => have := cC.out; omega
           case rel => exact ⟨(wrap64 (aw + 1)), (by first | rfl | (simp; done) | (simp [*]; done)), H', ⟨by have := cC.out; omega⟩, by repeat (first | exact Drawn0.refl _ | apply Drawn0.step)⟩
          ·rw [if_neg rZ] at H
           have IM : ((bt a0 aw) == 45) = false := beq_eq_false_iff_ne.mpr rZ
           have OL : ((bt a0 aw) != 45) = true := bne_iff_ne.mpr rZ
           by_cases rY : ((bt a0 aw) = 95)
           ·rw [if_pos rY] at H
            have IL : ((bt a0 aw) == 95) = true := beq_iff_eq.mpr rY
            have OK : ((bt a0 aw) != 95) = false := bne_eq_false_iff_eq.mpr rY
            clear rY
            have H' := ak H
            clear H
            have p4 : 0 ≤ (aw : Int) := of_decide_eq_true (by first | (with_reducible assumption) | assumption)
            have q4 : aw < (a0.size : Int) := of_decide_eq_true (by first | (with_reducible assumption) | assumption)
            have dj := cb a0 aw
            replace p4 := eq_true p4
            replace q4 := eq_true q4
            go_wp2
            go_roundg k1
            case measure => have := cC.out; omega
            case rel => exact ⟨(wrap64 (aw + 1)), (by first | rfl | (simp; done) | (simp [*]; done)), H', ⟨by have := cC.out; omega⟩, by repeat (first | exact Drawn0.refl _ | apply Drawn0.step)⟩
           ·rw [if_neg rY] at H
            have IL : ((bt a0 aw) == 95) = false := beq_eq_false_iff_ne.mpr rY
            have OK : ((bt a0 aw) != 95) = true := bne_iff_ne.mpr rY
            obtain rfl := Option.some.inj H
            have p4 : 0 ≤ (aw : Int) := of_decide_eq_true (by first | (with_reducible assumption) | assumption)
            have q4 : aw < (a0.size : Int) := of_decide_eq_true (by first | (with_reducible assumption) | assumption)
            have dj := cb a0 aw
            replace p4 := eq_true p4
            replace q4 := eq_true q4
            go_wp2
            go_ret
            exact ⟨by first | rfl | (simp; done) | (simp [*]; done), by repeat (first | exact Drawn0.refl _ | apply Drawn0.step)⟩
       ·rw [if_neg Cb] at H
        have OO : decide (48 ≤ (bt a0 aw)) = false := decide_eq_false Cb
        clear Cb
        by_cases mR : (bt a0 aw) = 46
        ·rw [if_pos mR] at H
         have Dg : ((bt a0 aw) == 46) = true := beq_iff_eq.mpr mR
         have Df : ((bt a0 aw) != 46) = false := bne_eq_false_iff_eq.mpr mR
         clear mR
         have H' := ak H
         clear H
         have p4 : 0 ≤ (aw : Int) := of_decide_eq_true (by first | (with_reducible assumption) | assumption)
         have q4 : aw < (a0.size : Int) := of_decide_eq_true (by first | (with_reducible assumption) | assumption)
         have dj := cb a0 aw
         replace p4 := eq_true p4
         replace q4 := eq_true q4
         go_wp2
         go_roundg k1
         case measure => have := cC.out; omega
         case rel => exact ⟨(wrap64 (aw + 1)), (by first | rfl | (simp; done) | (simp [*]; done)), H', ⟨by have := cC.out; omega⟩, by repeat (first | exact Drawn0.refl _ | apply Drawn0.step)⟩
        ·rw [if_neg mR] at H
         have Dg : ((bt a0 aw) == 46) = false := beq_eq_false_iff_ne.mpr mR
         have Df : ((bt a0 aw) != 46) = true := bne_iff_ne.mpr mR
         by_cases zS : (bt a0 aw) = 45
         ·rw [if_pos zS] at H
          have OI : ((bt a0 aw) == 45) = true := beq_iff_eq.mpr zS
          have OH : ((bt a0 aw) != 45) = false := bne_eq_false_iff_eq.mpr zS
          clear zS
          have H' := ak H
          clear H
          have p4 : 0 ≤ (aw : Int) := of_decide_eq_true (by first | (with_reducible assumption) | assumption)
          have q4 : aw < (a0.size : Int) := of_decide_eq_true (by first | (with_reducible assumption) | assumption)
          have dj := cb a0 aw
          replace p4 := eq_true p4
          replace q4 := eq_true q4
          go_wp2
          go_roundg k1
          case measure => have := cC.out; omega
          case rel => exact ⟨(wrap64 (aw + 1)), (by first | rfl | (simp; done) | (simp [*]; done)), H', ⟨by have := cC.out; omega⟩, by repeat (first | exact Drawn0.refl _ | apply Drawn0.step)⟩
         ·rw [if_neg zS] at H
          have OI : ((bt a0 aw) == 45) = false := beq_eq_false_iff_ne.mpr zS
          have OH : ((bt a0 aw) != 45) = true := bne_iff_ne.mpr zS
          by_cases zR : ((bt a0 aw) = 95)
          ·rw [if_pos zR] at H
           have OG : ((bt a0 aw) == 95) = true := beq_iff_eq.mpr zR
           have OF : ((bt a0 aw) != 95) = false := bne_eq_false_iff_eq.mpr zR
           clear zR
           have H' := ak H
           clear H
           have p4 : 0 ≤ (aw : Int) := of_decide_eq_true (by first | (with_reducible assumption) | assumption)
           have q4 : aw < (a0.size : Int) := of_decide_eq_true (by first | (with_reducible assumption) | assumption)
           have dj := cb a0 aw
           replace p4 := eq_true p4
           replace q4 := eq_true q4
           go_wp2
           go_roundg k1
           case measure => have := cC.out; omega
           case rel => exact ⟨(wrap64 (aw + 1)), (by first | rfl | (simp; done) | (simp [*]; done)), H', ⟨by have := cC.out; omega⟩, by repeat (first | exact Drawn0.refl _ | apply Drawn0.step)⟩
          ·rw [if_neg zR] at H
           have OG : ((bt a0 aw) == 95) = false := beq_eq_false_iff_ne.mpr zR
           have OF : ((bt a0 aw) != 95) = true := bne_iff_ne.mpr zR
           obtain rfl := Option.some.inj H
           have p4 : 0 ≤ (aw : Int) := of_decide_eq_true (by first | (with_reducible assumption) | assumption)
           have q4 : aw < (a0.size : Int) := of_decide_eq_true (by first | (with_reducible assumption) | assumption)
           have dj := cb a0 aw
           replace p4 := eq_true p4
           replace q4 := eq_true q4
           go_wp2
           go_ret
           exact ⟨by first | rfl | (simp; done) | (simp [*]; done), by repeat (first | exact Drawn0.refl _ | apply Drawn0.step)⟩
    ·rw [if_neg c3] at H
     exact absurd H (by simp)
   ·rw [if_neg c2] at H
    have gY : decide (aw < (a0.size : Int)) = false := decide_eq_false c2
    clear c2
    by_cases B8 : (a0.size : Int) ≥ 1
    ·rw [if_pos B8] at H
     have OE : decide (1 ≤ (a0.size : Int)) = true := decide_eq_true B8
     have OD : decide (1 ≤ a0.size) = true := decide_eq_true (by omega)
     clear B8
     obtain rfl := Option.some.inj H
     go_wp2
     go_ret
     exact ⟨by first | rfl | (simp; done) | (simp [*]; done), by repeat (first | exact Drawn0.refl _ | apply Drawn0.step)⟩
    ·rw [if_neg B8] at H
     have OE : decide (1 ≤ (a0.size : Int)) = false := decide_eq_false B8
     have OD : decide (1 ≤ a0.size) = false := decide_eq_false (by omega)
     clear B8
     obtain rfl := Option.some.inj H
     go_wp2
     go_ret
     exact ⟨by first | rfl | (simp; done) | (simp [*]; done), by repeat (first | exact Drawn0.refl _ | apply Drawn0.step)⟩
end Go.Proofs.YtndddnglapkplaaGreatDoor.V
end

