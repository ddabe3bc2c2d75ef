/- The law ViewOf for every input: texts of ours, put together (part 4 of 17). No further condition. -/
import Derived.Test.YtndddnglapkplaaGreatDoorCViewOfx2
import Derived.Test.YtndddnglapkplaaGreatDoorProg
import Derived.Below
import Derived.Deep.Draws
import Derived.Deep.AppendLies
import Derived.Maps.AppendAt
import Derived.OwnWalk
import Derived.Laws.BytesArg
import Derived.Laws.MakeOwn
import Derived.Laws.OwnMore
import Derived.Deep.OwnRows
import Derived.Tactics
import Derived.Lib.ConvBytes
import Derived.Laws.Slices
import Derived.WalkKit
import Derived.KernelRfl
import Derived.RowKit3
import Derived.Deep.LoopGhost
import Derived.Deep.QuietTactic
import Derived.BigQuiet
import Derived.WideLaws
import Derived.Deep.DeepCutAuto
import Derived.Deep.CutBlock
import Derived.Deep.RegionHeld3
import Derived.Laws.Rows
import Derived.Lib.AppendStr
import Derived.ArgAppend
import Derived.Laws.IdiomCopy
import Derived.OrdersHeld
import Derived.Laws.BitsLemmas
import Derived.RowKit
import Derived.Test.YtndddnglapkplaaGreatDoorCViewOfw0
import Derived.Test.YtndddnglapkplaaGreatDoorCViewOfw1
import Derived.Laws.BitsAllLaws
import Derived.Laws.Bits64
import Derived.Laws.StructEq
import Derived.Stop.BytesEq
import Derived.Laws.Tables
import Derived.Laws.CopyOwn
import Derived.Outline
import Derived.MapKept
import Derived.ChangeMaps4
import Derived.Laws.RangeAny
set_option linter.unusedVariables false
set_option linter.unusedSimpArgs false
set_option linter.unusedSectionVars false
open Go.RowKit Go.Proofs.YtndddnglapkplaaGreatDoorW.PrintWords Go.Proofs.YtndddnglapkplaaGreatDoorW.PrintLast Go.Proofs.YtndddnglapkplaaGreatDoorW.PrintMore Go.Proofs.YtndddnglapkplaaGreatDoor.Z
namespace Go.Proofs.YtndddnglapkplaaGreatDoor.V
section
attribute [local go_sem] bq bn bI bH aW aV bp bj
def UL : Option Int → Value
 | none => .nilIface
 | some c => .iface 0 (.int .i64 c)
theorem db : UL none = .nilIface := rfl
theorem da (c : Int) : UL (some c) = .iface 0 (.int .i64 c) := rfl
theorem PH : (Tryz.prog.info? 5).map (fun i => (i.zero, i.size, i.bytes)) = some (some (.int .u8 0), 1, 1) := by kernel_rfl
theorem WM : (Tryz.prog.info? 9).map (fun i => (i.zero, i.size, i.bytes)) = some (some (.string ⟨#[]⟩), 1, 16) := by kernel_rfl
theorem TW : (Tryz.prog.info? 52).map (fun i => (i.zero, i.size, i.bytes)) = some (some (.agg #[(.int .i64 0), (.string ⟨#[]⟩), (.int .u32 0), (.int .u32 0), (.int .i64 0), (.bool false), (.int .u32 0), (.string ⟨#[]⟩), (.slice none 0 0), (.slice none 0 0), (.slice none 0 0), (.int .i64 0), (.slice none 0 0), (.bool false)]), 14, 192) := by kernel_rfl
theorem TV : (Tryz.prog.info? 58).map (fun i => (i.zero, i.size, i.bytes)) = some (some (.agg #[(.string ⟨#[]⟩), (.string ⟨#[]⟩), (.int .i64 0)]), 3, 40) := by kernel_rfl
theorem TU : (Tryz.prog.info? 69).map (fun i => (i.zero, i.size, i.bytes)) = some (some (.agg #[(.int .u32 0), (.int .i64 0), (.bool false)]), 3, 24) := by kernel_rfl
theorem TT : (Tryz.prog.info? 78).map (fun i => (i.zero, i.size, i.bytes)) = some (some (.agg #[(.string ⟨#[]⟩), (.string ⟨#[]⟩)]), 2, 32) := by kernel_rfl
theorem Bl : (Tryz.prog.info? 91).map (fun i => (i.zero, i.size, i.bytes)) = some (some (.agg #[(.string ⟨#[]⟩), (.string ⟨#[]⟩), (.int .i64 0)]), 3, 40) := by kernel_rfl
theorem Iq : (Tryz.prog.info? 144).map (fun i => (i.zero, i.size, i.bytes)) = some (some (.agg #[(.int .u32 0), (.int .i64 0)]), 2, 16) := by kernel_rfl
theorem Rm : (Tryz.prog.info? 145).map (fun i => (i.zero, i.size, i.bytes)) = some (some (.agg #[(.int .u32 0), (.int .i64 0)]), 2, 16) := by kernel_rfl
structure S91 where
 f0 : ByteArray
 f1 : ByteArray
 f2 : Int
def z91 : S91 := ⟨(⟨#[]⟩ : ByteArray), (⟨#[]⟩ : ByteArray), (0 : Int)⟩
def kS : Kd S91 := Kd.iso (Kd.pair Kd.string (Kd.pair Kd.string (Kd.int .i64))) (fun x : S91 => (x.f0, x.f1, x.f2))
theorem NV {w : World} {x : S91} {cs : List Value} (h : kS.K w x cs) : cs = [.string x.f0, .string x.f1, .int .i64 x.f2] := by
 obtain ⟨_, _, rfl, rfl, ⟨_, _, rfl, rfl, rfl⟩⟩ := h
 exact rfl
theorem TP (w : World) (x : S91)  : kS.K w x [.string x.f0, .string x.f1, .int .i64 x.f2] := ⟨[.string x.f0], [.string x.f1, .int .i64 x.f2], rfl, rfl, ⟨[.string x.f1], [.int .i64 x.f2], rfl, rfl, rfl⟩⟩
theorem y9 (w : World) (base : Nat) (ok : Nat → Prop) (x : S91)  : kS.M w base ok x [.string x.f0, .string x.f1, .int .i64 x.f2] := ⟨[.string x.f0], [.string x.f1, .int .i64 x.f2], rfl, rfl, ⟨[.string x.f1], [.int .i64 x.f2], rfl, rfl, rfl⟩⟩
def cM (xs : List S91) (i : Int) : S91 := xs.getD i.toNat z91
theorem BT {w : World} {A : Option Addr} {n : Nat} {xs : List S91} (h : Kd.C kS w A n xs) (i : Int) (h0 : 0 ≤ i) (h1 : i < n) : ∃ ad , A = some ad ∧ w.cell? (ad.add (i.toNat * 3)) = some (.string (cM xs i).f0) ∧ w.cell? ⟨(ad.add (i.toNat * 3)).block, (ad.add (i.toNat * 3)).off + 1, none⟩ = some (.string (cM xs i).f1) ∧ w.cell? ⟨(ad.add (i.toNat * 3)).block, (ad.add (i.toNat * 3)).off + 2, none⟩ = some (.int .i64 (cM xs i).f2) := by
 obtain ⟨ad, c, e, _, hK, en⟩ := Kd.C_get h z91 i h0 h1
 have hc : ∀ j u, c[j]? = some u → w.cell? (ad.add (i.toNat * 3 + j)) = some u := en
 obtain rfl := NV hK
 exact ⟨ad, e, hc 0 _ rfl, by rw [← dL _ _ 1 (by omega)]; exact hc 1 _ rfl, by rw [← dL _ _ 2 (by omega)]; exact hc 2 _ rfl⟩
structure S67 where
 f0 : Int
 f1 : Int
def z67 : S67 := ⟨(0 : Int), (0 : Int)⟩
def TQ : Kd S67 := Kd.iso (Kd.pair (Kd.int .u32) (Kd.int .i64)) (fun x : S67 => (x.f0, x.f1))
theorem N0 {w : World} {x : S67} {cs : List Value} (h : TQ.K w x cs) : cs = [.int .u32 x.f0, .int .i64 x.f1] := by
 obtain ⟨_, _, rfl, rfl, rfl⟩ := h
 exact rfl
theorem Rf (w : World) (base : Nat) (ok : Nat → Prop) (x : S67)  : TQ.M w base ok x [.int .u32 x.f0, .int .i64 x.f1] := ⟨[.int .u32 x.f0], [.int .i64 x.f1], rfl, rfl, rfl⟩
structure S69 where
 f0 : S67
 f1 : Bool
def XZ : S69 := ⟨z67, false⟩
def Bg : Kd S69 := Kd.iso (Kd.pair TQ Kd.bool) (fun x : S69 => (x.f0, x.f1))
theorem NZ {w : World} {x : S69} {cs : List Value} (h : Bg.K w x cs) : cs = [.int .u32 x.f0.f0, .int .i64 x.f0.f1, .bool x.f1] := by
 obtain ⟨_, _, rfl, s0, rfl⟩ := h
 obtain rfl := N0 s0
 exact rfl
theorem Re (w : World) (base : Nat) (ok : Nat → Prop) (x : S69)  : Bg.M w base ok x [.int .u32 x.f0.f0, .int .i64 x.f0.f1, .bool x.f1] := ⟨[.int .u32 x.f0.f0, .int .i64 x.f0.f1], [.bool x.f1], rfl, (Rf w base ok x.f0 ), rfl⟩
def vU (xs : List S69) (i : Int) : S69 := xs.getD i.toNat XZ
theorem MW {w : World} {A : Option Addr} {n : Nat} {xs : List S69} (h : Kd.C Bg w A n xs) (i : Int) (h0 : 0 ≤ i) (h1 : i < n) : ∃ ad , A = some ad ∧ w.cell? (ad.add (i.toNat * 3)) = some (.int .u32 (vU xs i).f0.f0) ∧ w.cell? ⟨(ad.add (i.toNat * 3)).block, (ad.add (i.toNat * 3)).off + 1, none⟩ = some (.int .i64 (vU xs i).f0.f1) ∧ w.cell? ⟨(ad.add (i.toNat * 3)).block, (ad.add (i.toNat * 3)).off + 2, none⟩ = some (.bool (vU xs i).f1) := by
 obtain ⟨ad, c, e, _, hK, en⟩ := Kd.C_get h XZ i h0 h1
 have hc : ∀ j u, c[j]? = some u → w.cell? (ad.add (i.toNat * 3 + j)) = some u := en
 obtain rfl := NZ hK
 exact ⟨ad, e, hc 0 _ rfl, by rw [← dL _ _ 1 (by omega)]; exact hc 1 _ rfl, by rw [← dL _ _ 2 (by omega)]; exact hc 2 _ rfl⟩
structure S58 where
 f0 : ByteArray
 f1 : ByteArray
 f2 : Int
def Er : S58 := ⟨(⟨#[]⟩ : ByteArray), (⟨#[]⟩ : ByteArray), (0 : Int)⟩
def rB : Kd S58 := Kd.iso (Kd.pair Kd.string (Kd.pair Kd.string (Kd.int .i64))) (fun x : S58 => (x.f0, x.f1, x.f2))
theorem N1 {w : World} {x : S58} {cs : List Value} (h : rB.K w x cs) : cs = [.string x.f0, .string x.f1, .int .i64 x.f2] := by
 obtain ⟨_, _, rfl, rfl, ⟨_, _, rfl, rfl, rfl⟩⟩ := h
 exact rfl
theorem TR (w : World) (x : S58)  : rB.K w x [.string x.f0, .string x.f1, .int .i64 x.f2] := ⟨[.string x.f0], [.string x.f1, .int .i64 x.f2], rfl, rfl, ⟨[.string x.f1], [.int .i64 x.f2], rfl, rfl, rfl⟩⟩
theorem Rg (w : World) (base : Nat) (ok : Nat → Prop) (x : S58)  : rB.M w base ok x [.string x.f0, .string x.f1, .int .i64 x.f2] := ⟨[.string x.f0], [.string x.f1, .int .i64 x.f2], rfl, rfl, ⟨[.string x.f1], [.int .i64 x.f2], rfl, rfl, rfl⟩⟩
def ir (xs : List S58) (i : Int) : S58 := xs.getD i.toNat Er
theorem U8 {w : World} {A : Option Addr} {n : Nat} {xs : List S58} (h : Kd.C rB w A n xs) (i : Int) (h0 : 0 ≤ i) (h1 : i < n) : ∃ ad , A = some ad ∧ w.cell? (ad.add (i.toNat * 3)) = some (.string (ir xs i).f0) ∧ w.cell? ⟨(ad.add (i.toNat * 3)).block, (ad.add (i.toNat * 3)).off + 1, none⟩ = some (.string (ir xs i).f1) ∧ w.cell? ⟨(ad.add (i.toNat * 3)).block, (ad.add (i.toNat * 3)).off + 2, none⟩ = some (.int .i64 (ir xs i).f2) := by
 obtain ⟨ad, c, e, _, hK, en⟩ := Kd.C_get h Er i h0 h1
 have hc : ∀ j u, c[j]? = some u → w.cell? (ad.add (i.toNat * 3 + j)) = some u := en
 obtain rfl := N1 hK
 exact ⟨ad, e, hc 0 _ rfl, by rw [← dL _ _ 1 (by omega)]; exact hc 1 _ rfl, by rw [← dL _ _ 2 (by omega)]; exact hc 2 _ rfl⟩
structure S43 where
 f0 : Int
 f1 : Int
def z43 : S43 := ⟨(0 : Int), (0 : Int)⟩
def PG : Kd S43 := Kd.iso (Kd.pair (Kd.int .u32) (Kd.int .i64)) (fun x : S43 => (x.f0, x.f1))
theorem N5 {w : World} {x : S43} {cs : List Value} (h : PG.K w x cs) : cs = [.int .u32 x.f0, .int .i64 x.f1] := by
 obtain ⟨_, _, rfl, rfl, rfl⟩ := h
 exact rfl
theorem L9 {w : World} {base : Nat} {ok : Nat → Prop} {x : S43} {cs : List Value} (h : PG.M w base ok x cs) : cs = [.int .u32 x.f0, .int .i64 x.f1] := by
 obtain ⟨_, _, rfl, rfl, rfl⟩ := h
 exact rfl
theorem Rj (w : World) (base : Nat) (ok : Nat → Prop) (x : S43)  : PG.M w base ok x [.int .u32 x.f0, .int .i64 x.f1] := ⟨[.int .u32 x.f0], [.int .i64 x.f1], rfl, rfl, rfl⟩
structure S45 where
 f0 : S43
 f1 : Bool
def C9 : S45 := ⟨z43, false⟩
def PF : Kd S45 := Kd.iso (Kd.pair PG Kd.bool) (fun x : S45 => (x.f0, x.f1))
theorem N4 {w : World} {x : S45} {cs : List Value} (h : PF.K w x cs) : cs = [.int .u32 x.f0.f0, .int .i64 x.f0.f1, .bool x.f1] := by
 obtain ⟨_, _, rfl, s0, rfl⟩ := h
 obtain rfl := N5 s0
 exact rfl
theorem L8 {w : World} {base : Nat} {ok : Nat → Prop} {x : S45} {cs : List Value} (h : PF.M w base ok x cs) : cs = [.int .u32 x.f0.f0, .int .i64 x.f0.f1, .bool x.f1] := by
 obtain ⟨_, _, rfl, s0, rfl⟩ := h
 obtain rfl := L9 s0
 exact rfl
theorem Ri (w : World) (base : Nat) (ok : Nat → Prop) (x : S45)  : PF.M w base ok x [.int .u32 x.f0.f0, .int .i64 x.f0.f1, .bool x.f1] := ⟨[.int .u32 x.f0.f0, .int .i64 x.f0.f1], [.bool x.f1], rfl, (Rj w base ok x.f0 ), rfl⟩
structure S78 where
 f0 : ByteArray
 f1 : ByteArray
def XY : S78 := ⟨(⟨#[]⟩ : ByteArray), (⟨#[]⟩ : ByteArray)⟩
def iZ : Kd S78 := Kd.iso (Kd.pair Kd.string Kd.string) (fun x : S78 => (x.f0, x.f1))
theorem NY {w : World} {x : S78} {cs : List Value} (h : iZ.K w x cs) : cs = [.string x.f0, .string x.f1] := by
 obtain ⟨_, _, rfl, rfl, rfl⟩ := h
 exact rfl
theorem Im (w : World) (base : Nat) (ok : Nat → Prop) (x : S78)  : iZ.M w base ok x [.string x.f0, .string x.f1] := ⟨[.string x.f0], [.string x.f1], rfl, rfl, rfl⟩
def aY (xs : List S78) (i : Int) : S78 := xs.getD i.toNat XY
theorem wQ {w : World} {A : Option Addr} {n : Nat} {xs : List S78} (h : Kd.C iZ w A n xs) (i : Int) (h0 : 0 ≤ i) (h1 : i < n) : ∃ ad , A = some ad ∧ w.cell? (ad.add (i.toNat * 2)) = some (.string (aY xs i).f0) ∧ w.cell? ⟨(ad.add (i.toNat * 2)).block, (ad.add (i.toNat * 2)).off + 1, none⟩ = some (.string (aY xs i).f1) := by
 obtain ⟨ad, c, e, _, hK, en⟩ := Kd.C_get h XY i h0 h1
 have hc : ∀ j u, c[j]? = some u → w.cell? (ad.add (i.toNat * 2 + j)) = some u := en
 obtain rfl := NY hK
 exact ⟨ad, e, hc 0 _ rfl, by rw [← dL _ _ 1 (by omega)]; exact hc 1 _ rfl⟩
structure S49 where
 f0 : Int
 f1 : ByteArray
 f2 : (List Int)
 f3 : (List Int)
 f4 : (List S78)
def z49 : S49 := ⟨(0 : Int), (⟨#[]⟩ : ByteArray), ([] : List Int), ([] : List Int), ([] : List S78)⟩
def PE : Kd S49 := Kd.iso (Kd.pair (Kd.int .u32) (Kd.pair Kd.string (Kd.pair (Kd.slice 3 (Kd.int .i64)) (Kd.pair (Kd.slice 3 (Kd.int .i64)) (Kd.slice 78 iZ))))) (fun x : S49 => (x.f0, x.f1, x.f2, x.f3, x.f4))
theorem N3 {w : World} {x : S49} {cs : List Value} (h : PE.K w x cs) : ∃ A2 c2 A3 c3 A4 c4, cs = [.int .u32 x.f0, .string x.f1, .slice A2 x.f2.length c2, .slice A3 x.f3.length c3, .slice A4 x.f4.length c4] ∧ x.f2.length ≤ c2 ∧ (Kd.int .i64).C w A2 x.f2.length x.f2 ∧ x.f3.length ≤ c3 ∧ (Kd.int .i64).C w A3 x.f3.length x.f3 ∧ x.f4.length ≤ c4 ∧ iZ.C w A4 x.f4.length x.f4 := by
 obtain ⟨_, _, rfl, rfl, ⟨_, _, rfl, rfl, ⟨_, _, rfl, ⟨A2, c2, rfl, l2, g2⟩, ⟨_, _, rfl, ⟨A3, c3, rfl, l3, g3⟩, ⟨A4, c4, rfl, l4, g4⟩⟩⟩⟩⟩ := h
 exact ⟨A2, c2, A3, c3, A4, c4, rfl, l2, g2, l3, g3, l4, g4⟩
theorem L7 {w : World} {base : Nat} {ok : Nat → Prop} {x : S49} {cs : List Value} (h : PE.M w base ok x cs) : ∃ v2 v3 v4, cs = [.int .u32 x.f0, .string x.f1, v2, v3, v4] ∧ (Kd.int .i64).R 3 w base ok v2 x.f2 ∧ (Kd.int .i64).R 3 w base ok v3 x.f3 ∧ iZ.R 78 w base ok v4 x.f4 := by
 obtain ⟨_, _, rfl, rfl, ⟨_, _, rfl, rfl, ⟨_, _, rfl, ⟨v2, rfl, g2⟩, ⟨_, _, rfl, ⟨v3, rfl, g3⟩, ⟨v4, rfl, g4⟩⟩⟩⟩⟩ := h
 exact ⟨v2, v3, v4, rfl, g2, g3, g4⟩
theorem Rh (w : World) (base : Nat) (ok : Nat → Prop) (x : S49) {v2 : Value} (g2 : (Kd.int .i64).R 3 w base ok v2 x.f2) {v3 : Value} (g3 : (Kd.int .i64).R 3 w base ok v3 x.f3) {v4 : Value} (g4 : iZ.R 78 w base ok v4 x.f4) : PE.M w base ok x [.int .u32 x.f0, .string x.f1, v2, v3, v4] := ⟨[.int .u32 x.f0], [.string x.f1, v2, v3, v4], rfl, rfl, ⟨[.string x.f1], [v2, v3, v4], rfl, rfl, ⟨[v2], [v3, v4], rfl, ⟨v2, rfl, g2⟩, ⟨[v3], [v4], rfl, ⟨v3, rfl, g3⟩, ⟨v4, rfl, g4⟩⟩⟩⟩⟩
structure S144 where
 f0 : Int
 f1 : Int
def S5 : S144 := ⟨(0 : Int), (0 : Int)⟩
def ja : Kd S144 := Kd.iso (Kd.pair (Kd.int .u32) (Kd.int .i64)) (fun x : S144 => (x.f0, x.f1))
theorem Mb {w : World} {x : S144} {cs : List Value} (h : ja.K w x cs) : cs = [.int .u32 x.f0, .int .i64 x.f1] := by
 obtain ⟨_, _, rfl, rfl, rfl⟩ := h
 exact rfl
theorem Fh (w : World) (base : Nat) (ok : Nat → Prop) (x : S144)  : ja.M w base ok x [.int .u32 x.f0, .int .i64 x.f1] := ⟨[.int .u32 x.f0], [.int .i64 x.f1], rfl, rfl, rfl⟩
def aD (xs : List S144) (i : Int) : S144 := xs.getD i.toNat S5
theorem hU {w : World} {A : Option Addr} {n : Nat} {xs : List S144} (h : Kd.C ja w A n xs) (i : Int) (h0 : 0 ≤ i) (h1 : i < n) : ∃ ad , A = some ad ∧ w.cell? (ad.add (i.toNat * 2)) = some (.int .u32 (aD xs i).f0) ∧ w.cell? ⟨(ad.add (i.toNat * 2)).block, (ad.add (i.toNat * 2)).off + 1, none⟩ = some (.int .i64 (aD xs i).f1) := by
 obtain ⟨ad, c, e, _, hK, en⟩ := Kd.C_get h S5 i h0 h1
 have hc : ∀ j u, c[j]? = some u → w.cell? (ad.add (i.toNat * 2 + j)) = some u := en
 obtain rfl := Mb hK
 exact ⟨ad, e, hc 0 _ rfl, by rw [← dL _ _ 1 (by omega)]; exact hc 1 _ rfl⟩
structure S52 where
 f0 : Int
 f1 : ByteArray
 f2 : Int
 f3 : S45
 f4 : S49
 f5 : Int
 f6 : (List S144)
 f7 : Bool
def xS : S52 := ⟨(0 : Int), (⟨#[]⟩ : ByteArray), (0 : Int), C9, z49, (0 : Int), ([] : List S144), false⟩
def e7 : Kd S52 := Kd.iso (Kd.pair (Kd.int .i64) (Kd.pair Kd.string (Kd.pair (Kd.int .u32) (Kd.pair PF (Kd.pair PE (Kd.pair (Kd.int .i64) (Kd.pair (Kd.slice 144 ja) Kd.bool))))))) (fun x : S52 => (x.f0, x.f1, x.f2, x.f3, x.f4, x.f5, x.f6, x.f7))
theorem np {w : World} {x : S52} {cs : List Value} (h : e7.K w x cs) : ∃ A8 c8 A9 c9 kr c10 jE dB, cs = [.int .i64 x.f0, .string x.f1, .int .u32 x.f2, .int .u32 x.f3.f0.f0, .int .i64 x.f3.f0.f1, .bool x.f3.f1, .int .u32 x.f4.f0, .string x.f4.f1, .slice A8 x.f4.f2.length c8, .slice A9 x.f4.f3.length c9, .slice kr x.f4.f4.length c10, .int .i64 x.f5, .slice jE x.f6.length dB, .bool x.f7] ∧ x.f4.f2.length ≤ c8 ∧ (Kd.int .i64).C w A8 x.f4.f2.length x.f4.f2 ∧ x.f4.f3.length ≤ c9 ∧ (Kd.int .i64).C w A9 x.f4.f3.length x.f4.f3 ∧ x.f4.f4.length ≤ c10 ∧ iZ.C w kr x.f4.f4.length x.f4.f4 ∧ x.f6.length ≤ dB ∧ ja.C w jE x.f6.length x.f6 := by
 obtain ⟨_, _, rfl, rfl, ⟨_, _, rfl, rfl, ⟨_, _, rfl, rfl, ⟨_, _, rfl, s3, ⟨_, _, rfl, s6, ⟨_, _, rfl, rfl, ⟨_, _, rfl, ⟨jE, dB, rfl, sF, g12⟩, rfl⟩⟩⟩⟩⟩⟩⟩ := h
 obtain rfl := N4 s3
 obtain ⟨A8, c8, A9, c9, kr, c10, rfl, l8, g8, l9, g9, sG, g10⟩ := N3 s6
 exact ⟨A8, c8, A9, c9, kr, c10, jE, dB, rfl, l8, g8, l9, g9, sG, g10, sF, g12⟩
theorem LZ {w : World} {base : Nat} {ok : Nat → Prop} {x : S52} {cs : List Value} (h : e7.M w base ok x cs) : ∃ v8 v9 v10 v12, cs = [.int .i64 x.f0, .string x.f1, .int .u32 x.f2, .int .u32 x.f3.f0.f0, .int .i64 x.f3.f0.f1, .bool x.f3.f1, .int .u32 x.f4.f0, .string x.f4.f1, v8, v9, v10, .int .i64 x.f5, v12, .bool x.f7] ∧ (Kd.int .i64).R 3 w base ok v8 x.f4.f2 ∧ (Kd.int .i64).R 3 w base ok v9 x.f4.f3 ∧ iZ.R 78 w base ok v10 x.f4.f4 ∧ ja.R 144 w base ok v12 x.f6 := by
 obtain ⟨_, _, rfl, rfl, ⟨_, _, rfl, rfl, ⟨_, _, rfl, rfl, ⟨_, _, rfl, s3, ⟨_, _, rfl, s6, ⟨_, _, rfl, rfl, ⟨_, _, rfl, ⟨v12, rfl, g12⟩, rfl⟩⟩⟩⟩⟩⟩⟩ := h
 obtain rfl := L8 s3
 obtain ⟨v8, v9, v10, rfl, g8, g9, g10⟩ := L7 s6
 exact ⟨v8, v9, v10, v12, rfl, g8, g9, g10, g12⟩
theorem za (w : World) (base : Nat) (ok : Nat → Prop) (x : S52) {v8 : Value} (g8 : (Kd.int .i64).R 3 w base ok v8 x.f4.f2) {v9 : Value} (g9 : (Kd.int .i64).R 3 w base ok v9 x.f4.f3) {v10 : Value} (g10 : iZ.R 78 w base ok v10 x.f4.f4) {v12 : Value} (g12 : ja.R 144 w base ok v12 x.f6) : e7.M w base ok x [.int .i64 x.f0, .string x.f1, .int .u32 x.f2, .int .u32 x.f3.f0.f0, .int .i64 x.f3.f0.f1, .bool x.f3.f1, .int .u32 x.f4.f0, .string x.f4.f1, v8, v9, v10, .int .i64 x.f5, v12, .bool x.f7] := ⟨[.int .i64 x.f0], [.string x.f1, .int .u32 x.f2, .int .u32 x.f3.f0.f0, .int .i64 x.f3.f0.f1, .bool x.f3.f1, .int .u32 x.f4.f0, .string x.f4.f1, v8, v9, v10, .int .i64 x.f5, v12, .bool x.f7], rfl, rfl, ⟨[.string x.f1], [.int .u32 x.f2, .int .u32 x.f3.f0.f0, .int .i64 x.f3.f0.f1, .bool x.f3.f1, .int .u32 x.f4.f0, .string x.f4.f1, v8, v9, v10, .int .i64 x.f5, v12, .bool x.f7], rfl, rfl, ⟨[.int .u32 x.f2], [.int .u32 x.f3.f0.f0, .int .i64 x.f3.f0.f1, .bool x.f3.f1, .int .u32 x.f4.f0, .string x.f4.f1, v8, v9, v10, .int .i64 x.f5, v12, .bool x.f7], rfl, rfl, ⟨[.int .u32 x.f3.f0.f0, .int .i64 x.f3.f0.f1, .bool x.f3.f1], [.int .u32 x.f4.f0, .string x.f4.f1, v8, v9, v10, .int .i64 x.f5, v12, .bool x.f7], rfl, (Ri w base ok x.f3 ), ⟨[.int .u32 x.f4.f0, .string x.f4.f1, v8, v9, v10], [.int .i64 x.f5, v12, .bool x.f7], rfl, (Rh w base ok x.f4 g8 g9 g10), ⟨[.int .i64 x.f5], [v12, .bool x.f7], rfl, rfl, ⟨[v12], [.bool x.f7], rfl, ⟨v12, rfl, g12⟩, rfl⟩⟩⟩⟩⟩⟩⟩
def dN (xs : List S52) (i : Int) : S52 := xs.getD i.toNat xS
theorem MX {w : World} {A : Option Addr} {n : Nat} {xs : List S52} (h : Kd.C e7 w A n xs) (i : Int) (h0 : 0 ≤ i) (h1 : i < n) : ∃ ad A8 c8 A9 c9 kr c10 jE dB, A = some ad ∧ w.cell? (ad.add (i.toNat * 14)) = some (.int .i64 (dN xs i).f0) ∧ w.cell? ⟨(ad.add (i.toNat * 14)).block, (ad.add (i.toNat * 14)).off + 1, none⟩ = some (.string (dN xs i).f1) ∧ w.cell? ⟨(ad.add (i.toNat * 14)).block, (ad.add (i.toNat * 14)).off + 2, none⟩ = some (.int .u32 (dN xs i).f2) ∧ w.cell? ⟨(ad.add (i.toNat * 14)).block, (ad.add (i.toNat * 14)).off + 3, none⟩ = some (.int .u32 (dN xs i).f3.f0.f0) ∧ w.cell? ⟨(ad.add (i.toNat * 14)).block, (ad.add (i.toNat * 14)).off + 4, none⟩ = some (.int .i64 (dN xs i).f3.f0.f1) ∧ w.cell? ⟨(ad.add (i.toNat * 14)).block, (ad.add (i.toNat * 14)).off + 5, none⟩ = some (.bool (dN xs i).f3.f1) ∧ w.cell? ⟨(ad.add (i.toNat * 14)).block, (ad.add (i.toNat * 14)).off + 6, none⟩ = some (.int .u32 (dN xs i).f4.f0) ∧ w.cell? ⟨(ad.add (i.toNat * 14)).block, (ad.add (i.toNat * 14)).off + 7, none⟩ = some (.string (dN xs i).f4.f1) ∧ w.cell? ⟨(ad.add (i.toNat * 14)).block, (ad.add (i.toNat * 14)).off + 8, none⟩ = some (.slice A8 (dN xs i).f4.f2.length c8) ∧ w.cell? ⟨(ad.add (i.toNat * 14)).block, (ad.add (i.toNat * 14)).off + 9, none⟩ = some (.slice A9 (dN xs i).f4.f3.length c9) ∧ w.cell? ⟨(ad.add (i.toNat * 14)).block, (ad.add (i.toNat * 14)).off + 10, none⟩ = some (.slice kr (dN xs i).f4.f4.length c10) ∧ w.cell? ⟨(ad.add (i.toNat * 14)).block, (ad.add (i.toNat * 14)).off + 11, none⟩ = some (.int .i64 (dN xs i).f5) ∧ w.cell? ⟨(ad.add (i.toNat * 14)).block, (ad.add (i.toNat * 14)).off + 12, none⟩ = some (.slice jE (dN xs i).f6.length dB) ∧ w.cell? ⟨(ad.add (i.toNat * 14)).block, (ad.add (i.toNat * 14)).off + 13, none⟩ = some (.bool (dN xs i).f7) ∧ (dN xs i).f4.f2.length ≤ c8 ∧ (Kd.int .i64).C w A8 (dN xs i).f4.f2.length (dN xs i).f4.f2 ∧ (dN xs i).f4.f3.length ≤ c9 ∧ (Kd.int .i64).C w A9 (dN xs i).f4.f3.length (dN xs i).f4.f3 ∧ (dN xs i).f4.f4.length ≤ c10 ∧ iZ.C w kr (dN xs i).f4.f4.length (dN xs i).f4.f4 ∧ (dN xs i).f6.length ≤ dB ∧ ja.C w jE (dN xs i).f6.length (dN xs i).f6 := by
 obtain ⟨ad, c, e, _, hK, en⟩ := Kd.C_get h xS i h0 h1
 have hc : ∀ j u, c[j]? = some u → w.cell? (ad.add (i.toNat * 14 + j)) = some u := en
 obtain ⟨A8, c8, A9, c9, kr, c10, jE, dB, rfl, l8, g8, l9, g9, sG, g10, sF, g12⟩ := np hK
 exact ⟨ad, A8, c8, A9, c9, kr, c10, jE, dB, e, hc 0 _ rfl, by rw [← dL _ _ 1 (by omega)]; exact hc 1 _ rfl, by rw [← dL _ _ 2 (by omega)]; exact hc 2 _ rfl, by rw [← dL _ _ 3 (by omega)]; exact hc 3 _ rfl, by rw [← dL _ _ 4 (by omega)]; exact hc 4 _ rfl, by rw [← dL _ _ 5 (by omega)]; exact hc 5 _ rfl, by rw [← dL _ _ 6 (by omega)]; exact hc 6 _ rfl, by rw [← dL _ _ 7 (by omega)]; exact hc 7 _ rfl, by rw [← dL _ _ 8 (by omega)]; exact hc 8 _ rfl, by rw [← dL _ _ 9 (by omega)]; exact hc 9 _ rfl, by rw [← dL _ _ 10 (by omega)]; exact hc 10 _ rfl, by rw [← dL _ _ 11 (by omega)]; exact hc 11 _ rfl, by rw [← dL _ _ 12 (by omega)]; exact hc 12 _ rfl, by rw [← dL _ _ 13 (by omega)]; exact hc 13 _ rfl, l8, g8, l9, g9, sG, g10, sF, g12⟩
structure S51 where
 f0 : Int
 f1 : ByteArray
 f2 : Int
 f3 : S45
 f4 : S49
 f5 : Int
 f6 : (List S144)
 f7 : Bool
def z51 : S51 := ⟨(0 : Int), (⟨#[]⟩ : ByteArray), (0 : Int), C9, z49, (0 : Int), ([] : List S144), false⟩
structure S81 where
 f0 : ByteArray
 f1 : ByteArray
def XX : S81 := ⟨(⟨#[]⟩ : ByteArray), (⟨#[]⟩ : ByteArray)⟩
def Bf : Kd S81 := Kd.iso (Kd.pair Kd.string Kd.string) (fun x : S81 => (x.f0, x.f1))
theorem NW {w : World} {x : S81} {cs : List Value} (h : Bf.K w x cs) : cs = [.string x.f0, .string x.f1] := by
 obtain ⟨_, _, rfl, rfl, rfl⟩ := h
 exact rfl
theorem Rb (w : World) (base : Nat) (ok : Nat → Prop) (x : S81)  : Bf.M w base ok x [.string x.f0, .string x.f1] := ⟨[.string x.f0], [.string x.f1], rfl, rfl, rfl⟩
def mf (xs : List S81) (i : Int) : S81 := xs.getD i.toNat XX
theorem MV {w : World} {A : Option Addr} {n : Nat} {xs : List S81} (h : Kd.C Bf w A n xs) (i : Int) (h0 : 0 ≤ i) (h1 : i < n) : ∃ ad , A = some ad ∧ w.cell? (ad.add (i.toNat * 2)) = some (.string (mf xs i).f0) ∧ w.cell? ⟨(ad.add (i.toNat * 2)).block, (ad.add (i.toNat * 2)).off + 1, none⟩ = some (.string (mf xs i).f1) := by
 obtain ⟨ad, c, e, _, hK, en⟩ := Kd.C_get h XX i h0 h1
 have hc : ∀ j u, c[j]? = some u → w.cell? (ad.add (i.toNat * 2 + j)) = some u := en
 obtain rfl := NW hK
 exact ⟨ad, e, hc 0 _ rfl, by rw [← dL _ _ 1 (by omega)]; exact hc 1 _ rfl⟩
structure S145 where
 f0 : Int
 f1 : Int
def z145 : S145 := ⟨(0 : Int), (0 : Int)⟩
def sx : Kd S145 := Kd.iso (Kd.pair (Kd.int .u32) (Kd.int .i64)) (fun x : S145 => (x.f0, x.f1))
theorem Ma {w : World} {x : S145} {cs : List Value} (h : sx.K w x cs) : cs = [.int .u32 x.f0, .int .i64 x.f1] := by
 obtain ⟨_, _, rfl, rfl, rfl⟩ := h
 exact rfl
theorem N6 (w : World) (base : Nat) (ok : Nat → Prop) (x : S145)  : sx.M w base ok x [.int .u32 x.f0, .int .i64 x.f1] := ⟨[.int .u32 x.f0], [.int .i64 x.f1], rfl, rfl, rfl⟩
def ct (xs : List S145) (i : Int) : S145 := xs.getD i.toNat z145
theorem CU {w : World} {A : Option Addr} {n : Nat} {xs : List S145} (h : Kd.C sx w A n xs) (i : Int) (h0 : 0 ≤ i) (h1 : i < n) : ∃ ad , A = some ad ∧ w.cell? (ad.add (i.toNat * 2)) = some (.int .u32 (ct xs i).f0) ∧ w.cell? ⟨(ad.add (i.toNat * 2)).block, (ad.add (i.toNat * 2)).off + 1, none⟩ = some (.int .i64 (ct xs i).f1) := by
 obtain ⟨ad, c, e, _, hK, en⟩ := Kd.C_get h z145 i h0 h1
 have hc : ∀ j u, c[j]? = some u → w.cell? (ad.add (i.toNat * 2 + j)) = some u := en
 obtain rfl := Ma hK
 exact ⟨ad, e, hc 0 _ rfl, by rw [← dL _ _ 1 (by omega)]; exact hc 1 _ rfl⟩
end
section
theorem wrap_u64 (n : Int) (h0 : 0 ≤ n) (h : n < 18446744073709551616) : IntKind.u64.wrap n = n := by rw [IntKind.wrap_u64]; omega
theorem jY (n : Nat) (h : n < 18446744073709551616) : IntKind.u64.wrap (n : Int) = (n : Int) := wrap_u64 _ (by omega) (by omega)
theorem bB (n : Int) (h0 : -9223372036854775808 ≤ n) (h : n < 9223372036854775808) : wrap64 n = n := by unfold wrap64; omega
theorem tm (i : Nat) (h : i < 64) : (2 : Nat) ^ i < 18446744073709551616 :=
 Nat.lt_of_lt_of_le (Nat.pow_lt_pow_right (by omega) h) (by decide)
end
section
def bC (W : World) (g : Nat) (cs : List Value) (t : Nat) : Prop := W.heap[g]? = some (.cells cs.toArray t (0, 0))
theorem bC.cell {W : World} {g : Nat} {cs : List Value} {t : Nat} (h : bC W g cs t) (j : Nat) (v : Value) (hv : cs[j]? = some v) : W.cell? ⟨g, j, none⟩ = some v := by
 rw [cell_of_row W g j _ t (0, 0) h]
 simpa using hv
theorem bC.frozen {W : World} {g : Nat} {cs : List Value} {t : Nat} (h : bC W g cs t) (j : Nat) : W.frozen? ⟨g, j, none⟩ = false := frozen_of_row W g j _ t h
theorem bC.lt {W : World} {g : Nat} {cs : List Value} {t : Nat} (h : bC W g cs t) : g < W.heap.size := (Array.getElem?_eq_some_iff.1 h).1
theorem bC.below {W W1 : World} {g : Nat} {cs : List Value} {t : Nat} (h : bC W g cs t) (hb : Below W.heap.size W W1) : bC W1 g cs t := (hb.block g h.lt).trans h
theorem bC.grown {W W1 : World} {g : Nat} {cs : List Value} {t : Nat} (h : bC W g cs t) {row : Option Nat} (hg : W.grownBy W1 row) (hne : some g ≠ row) : bC W1 g cs t := (hg.block g h.lt hne).trans h
theorem bC.drewN {W : World} {g : Nat} {cs : List Value} {t : Nat} (h : bC W g cs t) (n : Nat) : bC (W.drewN n) g cs t := h
theorem bC.alloc {W : World} {g : Nat} {cs : List Value} {t : Nat} (h : bC W g cs t) (o : Obj) : bC (W.alloc o) g cs t := h.below (cO (Below.refl _ _) o)
theorem bC.set {W : World} {g : Nat} {cs : List Value} {t : Nat} (h : bC W g cs t) (j : Nat) (v : Value) : bC (W.setCell ⟨g, j, none⟩ v) g (cs.set j v) t := by
 have := heap_setCell_same W g j _ t v h
 unfold bC
 rw [this]
 congr 2
 simp
theorem bC.far {W : World} {g : Nat} {cs : List Value} {t : Nat} (h : bC W g cs t) {p : Addr} (hne : g ≠ p.block) (v : Value) : bC (W.setCell p v) g cs t := (Below.heap_setCell W p v g hne).trans h
theorem bC.ne_row {W : World} {g : Nat} {cs : List Value} {t : Nat} (h : bC W g cs t) {α : Type} {d : Kd α} {e base : Nat} {ok : Nat → Prop} {v : Value} {xs : List α} (hr : d.R e W base ok v xs) (ht : e ≠ t) : some g ≠ v.ownBlock := Kd.R_ne hr h ht
section
variable {P : Program} {ops : Array Oper} {rest : List Oper} {o : Oper} {a : Act} {w : World} {Q : Exit → Act → World → Prop}
theorem b8 (w : World) (g j : Nat) (v : Value) : w.grownBy (w.setCell ⟨g, j, none⟩ v) (some g) :=
 ⟨rfl, rfl, rfl, by simp [World.setCell], fun k _ hk => Below.heap_setCell _ _ _ _ (fun e => hk (by rw [e]))⟩
theorem tp (w : World) (g : Nat) (cs : Array Value) : w.grownBy (w.setRow g cs) (some g) :=
 ⟨rfl, rfl, rfl, by simp, fun k _ hk => setRow_other w g k cs (fun e => hk (by rw [e]))⟩
theorem cH (hgd : o.guard = none) (ty : TypeId) (x : Operand) (ho : o.op = .box ty x) (cs : List Value) (hx : a.eval x = .agg cs.toArray)
  (h : ∀ g W1, w.heap.size ≤ g → bC W1 g cs ty → Below w.heap.size w W1 → wpList P ops Q rest (a.put o.dst (.pointer (some ⟨g, 0, none⟩))) W1) : wpList P ops Q (o :: rest) a w := by
 refine wpList_plain hgd fun K hK => ?_
 have := hK _ _ (h w.heap.size (w.alloc (.cells cs.toArray ty)) (Nat.le_refl _) (heap_alloc_new w _) (cO (Below.refl _ _) _))
 unfold Oper.wp execOp
 simp only [ho, hx, Instr.box, newVar, newRow, newObj, Value.cells]
 exact this
theorem JD (hgd : o.guard = none) (ty : TypeId) (ho : o.op = .alloc ty) (cs : List Value) (hz : ∀ w, (zeroValue ty).run P w = .ok (.agg cs.toArray) w)
  (h : ∀ g W1, w.heap.size ≤ g → bC W1 g cs ty → Below w.heap.size w W1 → wpList P ops Q rest (a.put o.dst (.pointer (some ⟨g, 0, none⟩))) W1) : wpList P ops Q (o :: rest) a w := by
 refine wpList_plain hgd fun K hK => ?_
 have := hK _ _ (h w.heap.size (w.alloc (.cells cs.toArray ty)) (Nat.le_refl _) (heap_alloc_new w _) (cO (Below.refl _ _) _))
 unfold Oper.wp execOp
 simp only [ho, Instr.alloc, newVar, newRow, newObj, Value.cells, Sem.run_bind, hz, Result.andThen_ok]
 exact this
theorem aE (N : Option Tmp) (hN : o.dst = N) (hgd : o.guard = none) (ty : TypeId) (ho : o.op = .alloc ty) (cs : List Value) (hz : ∀ w, (zeroValue ty).run P w = .ok (.agg cs.toArray) w)
  (h : ∀ g W1, w.heap.size ≤ g → bC W1 g cs ty → Below w.heap.size w W1 → wpList P ops Q rest (a.put o.dst (.pointer (some ⟨g, 0, none⟩))) W1) : wpList P ops Q (o :: rest) a w := JD hgd ty ho cs hz h
theorem a7 (hgd : o.guard = none) (ty : TypeId) (x : Operand) (ho : o.op = .load ty x) (g : Nat) (hx : a.eval x = .pointer (some ⟨g, 0, none⟩)) (t : Nat) (cs : List Value) (d : TypeDesc) (hb : bC w g cs t)
  (hu : P.underlying ty = some d) (hd : (match d with | .struct _ | .array _ _ => true | _ => false) = true) (n : Nat) (hi : (P.info? ty).map (·.size) = some n) (hn : cs.length = n)
  (h : wpList P ops Q rest (a.put o.dst (.agg cs.toArray)) w) : wpList P ops Q (o :: rest) a w :=
 wpList_load_row hgd ty x ho g hx t cs.toArray (0, 0) d hb hu hd (by rw [hi]; simp [hn]) h
theorem yd (w : World) (g t off : Nat) (ty : TypeId) (cs part : List Value) (d : TypeDesc) (hb : bC w g cs t) (hp : ∀ j v, part[j]? = some v → cs[off + j]? = some v)
  (hu : P.underlying ty = some d) (hd : (match d with | .struct _ | .array _ _ => true | _ => false) = true) (hi : (P.info? ty).map (·.size) = some part.length) :
  (loadVar ty ⟨g, off, none⟩).run P w = .ok (.agg part.toArray) w := by
 have hl : (loadCells ⟨g, off, none⟩ part.length).run P w = .ok part.toArray w :=
  run_loadCells_list (P := P) w ⟨g, off, none⟩ part (fun j v hv => by
   rw [M3]
   exact hb.cell _ _ (hp j v hv))
 cases hq : P.info? ty with
 | none => simp [hq] at hi
 | some i =>
  have hs : i.size = part.length := by simpa [hq] using hi
  cases d <;> simp at hd <;> simp [loadVar, isAgg, run_underlying hu, sizeOf, typeInfo, hq, hs, hl]
theorem iq {o : Oper} {a : Act} {w : World} (ty : TypeId) (x : Operand) (ho : o.op = .load ty x) (g : Nat) (hx : a.eval x = .pointer (some ⟨g, 0, none⟩)) (t : Nat) (cs : List Value) (d : TypeDesc) (hb : bC w g cs t)
  (hu : P.underlying ty = some d) (hd : (match d with | .struct _ | .array _ _ => true | _ => false) = true) (hi : (P.info? ty).map (·.size) = some cs.length) :
  (execOp a.eval o).run P w = .ok (.value (.agg cs.toArray)) w := by
 unfold execOp
 simp only [ho, hx, Instr.loadAt, Instr.sureAddr, Sem.run_bind, Sem.run_pure, Result.andThen_ok, yd w g t 0 ty cs cs d hb (fun j v hv => by rw [Nat.zero_add]; exact hv) hu hd hi]
theorem kv (hgd : o.guard = none) (ty : TypeId) (x : Operand) (ho : o.op = .load ty x) (g off : Nat) (hx : a.eval x = .pointer (some ⟨g, off, none⟩)) (t : Nat) (cs part : List Value) (d : TypeDesc) (hb : bC w g cs t)
  (hp : ∀ j v, part[j]? = some v → cs[off + j]? = some v)
  (hu : P.underlying ty = some d) (hd : (match d with | .struct _ | .array _ _ => true | _ => false) = true) (hi : (P.info? ty).map (·.size) = some part.length)
  (h : wpList P ops Q rest (a.put o.dst (.agg part.toArray)) w) : wpList P ops Q (o :: rest) a w := by
 refine wpList_plain hgd fun K hK => ?_
 unfold Oper.wp execOp
 simp only [ho, hx, Instr.loadAt, Instr.sureAddr, Sem.run_bind, Sem.run_pure, Result.andThen_ok, yd w g t off ty cs part d hb hp hu hd hi]
 exact hK _ _ h
theorem ay (hgd : o.guard = none) (ty : TypeId) (x y : Operand) (ho : o.op = .store ty x y) (g : Nat) (cs : List Value) (hx : a.eval x = .pointer (some ⟨g, 0, none⟩)) (hy : a.eval y = .agg cs.toArray)
  (t : Nat) (old : List Value) (hb : bC w g old t) (n : Nat) (hi : (P.info? ty).map (·.size) = some n) (hn : cs.length = n) (hold : old.length = n) (h1 : ∀ v ∈ cs, v.oneCell' = true)
  (h : ∀ W1, bC W1 g cs t → w.grownBy W1 (some g) → wpList P ops Q rest (a.put o.dst undef) W1) : wpList P ops Q (o :: rest) a w :=
 wpList_store_row hgd ty x y ho g cs.toArray hx hy t old.toArray hb (by rw [hi]; simp [hn]) (by simp; omega) (by rw [Array.all_eq_true_iff_forall_mem]; intro v hv; exact h1 v (by simpa using hv))
  (h _ (setRow_heap w g old.toArray cs.toArray t (0, 0) hb) (tp w g _))
theorem dE (hgd : o.guard = none) (t : TypeId) (parts : Array (Nat × Operand)) (ho : o.op = .build t parts) (cs : List Value)
  (hf : P.built t (parts.map fun (i, x) => (i, a.eval x)).toList = some cs.toArray) (h : wpList P ops Q rest (a.put o.dst (.agg cs.toArray)) w) : wpList P ops Q (o :: rest) a w := by
 refine wpList_build hgd t parts ho (by rw [hf]; rfl) ?_
 rw [hf]
 exact h
theorem ss (w : World) (t e : TypeId) (n : Nat) (k : IntKind) (ht : P.underlying t = some (.array n e)) (he : P.underlying e = some (.int k)) (hsz : ∀ w, (sizeOf e).run P w = .ok 1 w) (xs : List Int) (hn : xs.length = n) (i : Nat) (hi : i < n) :
  (Instr.index t (.agg (xs.map (Value.int k)).toArray) (.int .i64 (i : Int))).run P w = .ok (.int k (xs.getD i 0)) w := by
 have hi' : i < xs.length := by omega
 simp [Instr.index, asIntOf, run_underlying ht, hsz, hi, part, isAgg, run_underlying he, List.getElem?_eq_getElem hi', List.getD]
end
end
section
attribute [local go_sem] bq bn bI bH aW aV bp bj
def iC.f (a0 : Int) : Option (Bool) := if a0 ≥ 0 then (some (decide (a0 < 64))) else (some false)
set_option maxHeartbeats 8000000 in
set_option maxRecDepth 100000 in
theorem iC.calls (a0 : Int) (r : Bool) (w : World) (h : iC.f a0 = some r) :
  Calls Tryz.prog 127 #[.int .i64 a0] w fun e w' => e = .returned (.bool r) ∧ Drawn0 w w' := by
 have H : (if a0 ≥ 0 then (some (decide (a0 < 64))) else (some false)) = some r := h
 clear h
 by_cases c2 : a0 ≥ 0
 ·rw [if_pos c2] at H
  have ig := decide_eq_true c2
  clear c2
  obtain rfl := Option.some.inj H
  go_enter Tryz.func127, Tryz.ntmps127
  go_wp2
  go_ret
  exact ⟨rf, dl⟩
 ·rw [if_neg c2] at H
  have ig := decide_eq_false c2
  clear c2
  obtain rfl := Option.some.inj H
  go_enter Tryz.func127, Tryz.ntmps127
  go_wp2
  go_ret
  exact ⟨rf, dl⟩
end
section
attribute [local go_sem] bq bn bI bH aW aV bp bj
def nH.f (a0 : Int) (a1 : Int) : Option (Bool) := (iC.f a1).bind fun sR => (if sR = true then (if 0 ≤ a1 then (some ((Go.bits .and .u64 (shr .u64 a0 a1) 1) == 1)) else (none)) else (some false))
set_option maxHeartbeats 8000000 in
set_option maxRecDepth 100000 in
theorem nH.calls (a0 : Int) (a1 : Int) (r : Bool) (w : World) (h : nH.f a0 a1 = some r) :
  Calls Tryz.prog 121 #[.int .u64 a0, .int .i64 a1] w fun e w' => e = .returned (.bool r) ∧ Drawn0 w w' := by
 have H : ((iC.f a1).bind fun sR => (if sR = true then (if 0 ≤ a1 then (some ((Go.bits .and .u64 (shr .u64 a0 a1) 1) == 1)) else (none)) else (some false))) = some r := h
 clear h
 replace H := Option.bind_eq_some_iff.mp H
 obtain ⟨sR, jO, H⟩ := H
 replace H : (if sR = true then (if 0 ≤ a1 then (some ((Go.bits .and .u64 (shr .u64 a0 a1) 1) == 1)) else (none)) else (some false)) = some r := H
 have A3 := ak jO
 clear jO
 by_cases c4 : sR = true
 ·subst c4
  replace H : (if 0 ≤ a1 then (some ((Go.bits .and .u64 (shr .u64 a0 a1) 1) == 1)) else (none)) = some r := by rw [if_pos rfl] at H; exact H
  by_cases c5 : 0 ≤ a1
  ·rw [if_pos c5] at H
   have nF := eq_true c5
   have xt := decide_eq_true c5
   clear c5
   obtain ⟨yi, qR⟩ : ∃ j_ : Int, (shr .u64 a0 a1) = j_ := ⟨_, rfl⟩
   replace H : (some ((Go.bits .and .u64 (yi) 1) == 1)) = some r := by first | (rw [qR] at H; exact H) | (simp only [qR] at H ⊢; exact H)
   (try rw [qR] at A3)
   have J4 : (a0 / 2 ^ min a1.toNat 64) = yi := qR
   have J3 : a1 ≤ 64 → (a0 / 2 ^ a1.toNat) = yi := Lg qR
   obtain rfl := Option.some.inj H
   go_enter Tryz.func121, Tryz.ntmps121
   go_wp2_with (first | ((with_reducible refine au (f := 127) rfl ?_); refine gC (some 6) Tryz.func127 #[.int .i64 a1] ?_; (with_reducible refine (iC.calls a1 true _ A3.out).mono ?_); rintro e w' ⟨rfl, ⟨nd, rfl⟩⟩; refine ⟨_, rfl, ?_⟩))
   go_ret
   exact ⟨by first | rfl | (simp; done) | (simp only [← qR] <;> (first | rfl | simp)) | (simp [*]; done), dl⟩
  ·rw [if_neg c5] at H
   exact absurd H (by simp)
 ·replace c4 := Bool.eq_false_iff.mpr c4
  subst c4
  replace H : (some false) = some r := by rw [if_neg (show ¬ (false = true) by decide)] at H; exact H
  obtain rfl := Option.some.inj H
  go_enter Tryz.func121, Tryz.ntmps121
  go_wp2_with (first | ((with_reducible refine au (f := 127) rfl ?_); refine gC (some 6) Tryz.func127 #[.int .i64 a1] ?_; (with_reducible refine (iC.calls a1 false _ A3.out).mono ?_); rintro e w' ⟨rfl, ⟨nd, rfl⟩⟩; refine ⟨_, rfl, ?_⟩))
  go_ret
  exact ⟨rf, dl⟩
end
section
attribute [local go_sem] bq bn bI bH aW aV bp bj
def nG.f (a0 : Int) : Option (Int) := if 0 ≤ a0 then (some (shl .u64 1 a0)) else (none)
set_option maxHeartbeats 8000000 in
set_option maxRecDepth 100000 in
theorem nG.calls (a0 : Int) (r : Int) (w : World) (h : nG.f a0 = some r) :
  Calls Tryz.prog 128 #[.int .i64 a0] w fun e w' => e = .returned (.int .u64 r) ∧ Drawn0 w w' := by
 have H : (if 0 ≤ a0 then (some (shl .u64 1 a0)) else (none)) = some r := h
 clear h
 by_cases c2 : 0 ≤ a0
 ·rw [if_pos c2] at H
  have ig := eq_true c2
  have yF := decide_eq_true c2
  clear c2
  obtain ⟨Du, vB⟩ : ∃ j_ : Int, (shl .u64 1 a0) = j_ := ⟨_, rfl⟩
  replace H : (some Du) = some r := by first | (rw [vB] at H; exact H) | (simp only [vB] at H ⊢; exact H)
  have PO : (IntKind.u64.wrap (1 * 2 ^ min a0.toNat 64)) = Du := vB
  have WV : a0 ≤ 64 → (IntKind.u64.wrap (1 * 2 ^ a0.toNat)) = Du := Dd vB
  have aL4 : (IntKind.u64.wrap (2 ^ min a0.toNat 64)) = Du := by have h_ := PO; rw [Int.one_mul] at h_; exact h_
  have aL3 : a0 ≤ 64 → (IntKind.u64.wrap (2 ^ a0.toNat)) = Du := fun Oe => by have h_ := WV Oe; rw [Int.one_mul] at h_; exact h_
  obtain rfl := Option.some.inj H
  go_enter Tryz.func128, Tryz.ntmps128
  go_wp2
  go_ret
  exact ⟨by first | rfl | (simp; done) | (simp only [← vB] <;> (first | rfl | simp)) | (simp [*]; done), dl⟩
 ·rw [if_neg c2] at H
  exact absurd H (by simp)
end
section
attribute [local go_sem] bq bn bI bH aW aV bp bj
def mm.f (a0 : Int) (a1 : Int) : Option (Int) := (iC.f a1).bind fun sU => (if sU = true then ((nG.f a1).bind fun mC => (some (Go.bits .or .u64 a0 mC))) else (some a0))
set_option maxHeartbeats 8000000 in
set_option maxRecDepth 100000 in
theorem mm.calls (a0 : Int) (a1 : Int) (r : Int) (w : World) (h : mm.f a0 a1 = some r) :
  Calls Tryz.prog 118 #[.int .u64 a0, .int .i64 a1] w fun e w' => e = .returned (.int .u64 r) ∧ Drawn0 w w' := by
 have H : ((iC.f a1).bind fun sU => (if sU = true then ((nG.f a1).bind fun mC => (some (Go.bits .or .u64 a0 mC))) else (some a0))) = some r := h
 clear h
 replace H := Option.bind_eq_some_iff.mp H
 obtain ⟨sU, jO, H⟩ := H
 replace H : (if sU = true then ((nG.f a1).bind fun mC => (some (Go.bits .or .u64 a0 mC))) else (some a0)) = some r := H
 have A3 := ak jO
 clear jO
 by_cases c4 : sU = true
 ·subst c4
  replace H : ((nG.f a1).bind fun mC => (some (Go.bits .or .u64 a0 mC))) = some r := by rw [if_pos rfl] at H; exact H
  replace H := Option.bind_eq_some_iff.mp H
  obtain ⟨mC, yQ, H⟩ := H
  replace H : (some (Go.bits .or .u64 a0 mC)) = some r := H
  have A5 := ak yQ
  clear yQ
  obtain rfl := Option.some.inj H
  go_enter Tryz.func118, Tryz.ntmps118
  go_wp2_with (first | ((with_reducible refine au (f := 127) rfl ?_); refine gC (some 6) Tryz.func127 #[.int .i64 a1] ?_; (with_reducible refine (iC.calls a1 true _ A3.out).mono ?_); rintro e w' ⟨rfl, ⟨nd, rfl⟩⟩; refine ⟨_, rfl, ?_⟩) | ((with_reducible refine au (f := 128) rfl ?_); refine gC (some 11) Tryz.func128 #[.int .i64 a1] ?_; (with_reducible refine (nG.calls a1 mC _ A5.out).mono ?_); rintro e w' ⟨rfl, ⟨nd, rfl⟩⟩; refine ⟨_, rfl, ?_⟩))
  go_ret
  exact ⟨rf, dl⟩
 ·replace c4 := Bool.eq_false_iff.mpr c4
  subst c4
  replace H : (some a0) = some r := by rw [if_neg (show ¬ (false = true) by decide)] at H; exact H
  obtain rfl := Option.some.inj H
  go_enter Tryz.func118, Tryz.ntmps118
  go_wp2_with (first | ((with_reducible refine au (f := 127) rfl ?_); refine gC (some 6) Tryz.func127 #[.int .i64 a1] ?_; (with_reducible refine (iC.calls a1 false _ A3.out).mono ?_); rintro e w' ⟨rfl, ⟨nd, rfl⟩⟩; refine ⟨_, rfl, ?_⟩))
  go_ret
  exact ⟨rf, dl⟩
end
section
attribute [local go_sem] bq bn bI bH aW aV bp bj
def ei.l0 : Nat → Int → Int → Option (Int)
 | 0, _, _ => none
 | k + 1, x0, x3 => if x0 = 0 then (some x3) else (ei.l0 k (Go.bits .and .u64 x0 (IntKind.u64.wrap (x0 - 1))) (wrap64 (x3 + 1)))
def ei.f (k : Nat) (a0 : Int) : Option (Int) := ei.l0 k a0 0
set_option maxHeartbeats 8000000 in
set_option maxRecDepth 100000 in
theorem ei.calls (k : Nat) (a0 : Int) (r : Int) (w : World) (h : ei.f k a0 = some r) :
  Calls Tryz.prog 120 #[.int .u64 a0] w fun e w' => e = .returned (.int .i64 r) ∧ Drawn0 w w' := by
 have H : (ei.l0 k a0 0) = some r := h
 clear h
 have H' := ak H; clear H
 go_enter Tryz.func120, Tryz.ntmps120
 go_wp2
 go_loopg [0, 3] k (fun kq v0 v3 w' => ∃ (iW : Int) (bK : Int), v0 = .int .u64 iW ∧ v3 = .int .i64 bK ∧ Aside0 (ei.l0 kq iW bK = some r) ∧ Aside0 (kq ≤ k) ∧ Drawn0 w w')
 case atStart => exact ⟨(a0), (0), rf, rf, H', ⟨Nat.le_refl _⟩, dl⟩
 case round =>
  clear H'
  obtain ⟨iW, bK, rfl, rfl, HA, ee, ⟨m1, rfl⟩⟩ := hrel
  cases gk with
  | zero => exact absurd HA.out (by simp [ei.l0])
  | succ k1 =>
   have H := HA.out
   clear HA
   simp only [ei.l0] at H
   by_cases c2 : iW = 0
   ·rw [if_pos c2] at H
    have ig : (iW == 0) = true := beq_iff_eq.mpr c2
    have yF : (iW != 0) = false := bne_eq_false_iff_eq.mpr c2
    clear c2
    obtain rfl := Option.some.inj H
    go_wp2
    go_ret
    exact ⟨rf, dl⟩
   ·rw [if_neg c2] at H
    have ig : (iW == 0) = false := beq_eq_false_iff_ne.mpr c2
    have yF : (iW != 0) = true := bne_iff_ne.mpr c2
    have H' := ak H; clear H
    go_wp2
    go_roundg k1
    case measure => have := ee.out; omega
    case rel => exact ⟨(Go.bits .and .u64 iW (IntKind.u64.wrap (iW - 1))), (wrap64 (bK + 1)), rf, rf, H', ⟨by have := ee.out; omega⟩, dl⟩
end
section
def oJ (i : Int) : Bool := decide (0 ≤ i) && decide (i < 64)
def hasB (s : Nat) (i : Int) : Bool := oJ i && s.testBit i.toNat
theorem Lf (i : Int) : iC.f i = some (oJ i) := by
 unfold iC.f oJ
 by_cases h : 0 ≤ i
 ·rw [if_pos h]; simp [h]
 ·rw [if_neg (by omega)]; simp [h]
theorem sM {i : Int} (h : oJ i = true) : 0 ≤ i ∧ i < 64 := by simpa [oJ] using h
theorem ED (i : Nat) (h : i < 64) : oJ (i : Int) = true := by simp [oJ]; omega
theorem and_one (a : Nat) (ha : a < 18446744073709551616) : Go.bits .and .u64 (a : Int) 1 = ((a % 2 : Nat) : Int) := by
 have := u64_and_nat a 1 ha (by decide)
 rw [nat_mask1] at this
 exact this
theorem k6 (a i : Nat) : a.testBit i = decide (a / 2 ^ i % 2 = 1) := by
 rw [Nat.testBit_eq_decide_div_mod_eq]
theorem NO (q : Nat) : (((q % 2 : Nat) : Int) == 1) = decide (q % 2 = 1) := by
 rw [Bool.eq_iff_iff]
 simp
 omega
theorem WY (s : Nat) (hs : s < 18446744073709551616) (i : Int) : nH.f (s : Int) i = some (hasB s i) := by
 unfold nH.f hasB
 rw [Lf, Option.bind_some]
 by_cases h : oJ i = true
 ·obtain ⟨h0, h1⟩ := sM h
  obtain ⟨n, rfl⟩ := Int.eq_ofNat_of_zero_le h0
  rw [if_pos h, if_pos h0, h]
  have e : shr .u64 (s : Int) (n : Int) = ((s / 2 ^ n : Nat) : Int) := by
   unfold shr
   rw [Nat.min_eq_left (by show (n : Int).toNat ≤ 64; omega)]
   simp
  rw [e, and_one _ (Nat.lt_of_le_of_lt (Nat.div_le_self _ _) hs), Bool.true_and, Int.toNat_natCast, k6]
  rw [NO]
 ·have h' : oJ i = false := by simpa using h
  rw [if_neg h, h']
  rfl
theorem CK (s : Nat) (hs : s < 18446744073709551616) (i : Int) (w : World) : Calls Tryz.prog 121 #[.int .u64 (s : Int), .int .i64 i] w fun e w' => e = .returned (.bool (hasB s i)) ∧ Drawn0 w w' :=
 nH.calls _ _ _ w (WY s hs i)
def oI (s : Nat) (i : Int) : Nat := if oJ i then s ||| 2 ^ i.toNat else s
theorem QS (n : Nat) (h : n < 64) : shl .u64 1 (n : Int) = ((2 ^ n : Nat) : Int) := by
 unfold shl
 rw [Nat.min_eq_left (by show (n : Int).toNat ≤ 64; omega), Int.one_mul, Int.toNat_natCast]
 have := jY (2 ^ n) (tm n h)
 simpa using this
theorem S6 (s : Nat) (hs : s < 18446744073709551616) (i : Int) : mm.f (s : Int) i = some ((oI s i : Nat) : Int) := by
 unfold mm.f oI
 rw [Lf, Option.bind_some]
 by_cases h : oJ i = true
 ·obtain ⟨h0, h1⟩ := sM h
  obtain ⟨n, rfl⟩ := Int.eq_ofNat_of_zero_le h0
  rw [if_pos h, if_pos h]
  unfold nG.f
  rw [if_pos h0, Option.bind_some, QS n (by omega), u64_or_nat _ _ hs (tm n (by omega)), Int.toNat_natCast]
 ·rw [if_neg h, if_neg h]
theorem Nk (s : Nat) (hs : s < 18446744073709551616) (i : Int) : oI s i < 18446744073709551616 := by
 unfold oI
 split
 ·rename_i h
  obtain ⟨h0, h1⟩ := sM h
  exact Nat.or_lt_two_pow (n := 64) hs (tm _ (by omega))
 ·exact hs
theorem Eu (s : Nat) (hs : s < 18446744073709551616) (i : Int) (w : World) : Calls Tryz.prog 118 #[.int .u64 (s : Int), .int .i64 i] w fun e w' => e = .returned (.int .u64 ((oI s i : Nat) : Int)) ∧ Drawn0 w w' :=
 mm.calls _ _ _ w (S6 s hs i)
theorem D6 (s : Nat) (i : Int) (j : Nat) (hj : j < 64) : (oI s i).testBit j = (s.testBit j || decide (i = (j : Int))) := by
 unfold oI
 by_cases h : oJ i = true
 ·obtain ⟨h0, h1⟩ := sM h
  rw [if_pos h, Nat.testBit_or, Nat.testBit_two_pow]
  congr 1
  rw [decide_eq_decide]
  omega
 ·rw [if_neg h]
  have : ¬ i = (j : Int) := by
   rintro rfl
   exact h (ED j hj)
  simp [this]
def jH (s : Nat) (n : Nat) : List Int := ((List.range n).filter s.testBit).map (fun i : Nat => (i : Int))
def iG (s : Nat) : List Int := jH s 64
theorem xe (s n : Nat) : jH s (n + 1) = if s.testBit n then jH s n ++ [(n : Int)] else jH s n := by
 unfold jH
 rw [List.range_succ, List.filter_append, List.map_append]
 by_cases h : s.testBit n = true
 ·simp [h]
 ·simp [h]
theorem Ff (s n : Nat) : (jH s n).length ≤ n := by
 unfold jH
 rw [List.length_map]
 exact Nat.le_trans (List.length_filter_le _ _) (by simp)
theorem LV (s n i : Nat) : (i : Int) ∈ jH s n ↔ i < n ∧ s.testBit i = true := by
 unfold jH
 simp only [List.mem_map, List.mem_filter, List.mem_range]
 constructor
 ·rintro ⟨j, ⟨h1, h2⟩, h3⟩
  have : j = i := by omega
  subst this
  exact ⟨h1, h2⟩
 ·rintro ⟨h1, h2⟩
  exact ⟨i, ⟨h1, h2⟩, rfl⟩
theorem sv (s n : Nat) (x : Int) (h : x ∈ jH s n) : ∃ i : Nat, x = (i : Int) ∧ i < n ∧ s.testBit i = true := by
 unfold jH at h
 simp only [List.mem_map, List.mem_filter, List.mem_range] at h
 obtain ⟨j, ⟨h1, h2⟩, h3⟩ := h
 exact ⟨j, h3.symm, h1, h2⟩
def zz (l : List Int) : Nat := l.foldl oI 0
theorem CN (l : List Int) : ∀ s, s < 18446744073709551616 → l.foldl oI s < 18446744073709551616 := by
 induction l with
 | nil => exact fun s h => h
 | cons x l ih => exact fun s h => ih _ (Nk s h x)
theorem wb (l : List Int) : zz l < 18446744073709551616 := CN l 0 (by decide)
theorem xQ (l : List Int) (j : Nat) (hj : j < 64) : ∀ s, (l.foldl oI s).testBit j = (s.testBit j || decide ((j : Int) ∈ l)) := by
 induction l with
 | nil => simp
 | cons x l ih =>
  intro s
  rw [List.foldl_cons, ih, D6 s x j hj, Bool.or_assoc]
  congr 1
  rw [Bool.eq_iff_iff]
  simp only [Bool.or_eq_true, decide_eq_true_eq, List.mem_cons]
  exact or_congr eq_comm Iff.rfl
theorem om (l : List Int) (j : Nat) (hj : j < 64) : (zz l).testBit j = decide ((j : Int) ∈ l) := by
 unfold zz; rw [xQ l j hj]; simp
end
section
structure Least (s m : Nat) : Prop where
 here : s.testBit m = true
 below : ∀ j, j < m → s.testBit j = false
theorem Fg (s : Nat) (h : s ≠ 0) : ∃ m, Least s m := by
 obtain ⟨i, hi⟩ := Nat.exists_testBit_of_ne_zero h
 have : ∀ n, (∃ j, j < n ∧ s.testBit j = true) → ∃ m, Least s m := by
  intro n
  induction n with
  | zero => rintro ⟨j, h, _⟩; omega
  | succ n ih =>
   intro hex
   by_cases hb : ∃ j, j < n ∧ s.testBit j = true
   ·exact ih hb
   ·obtain ⟨j, h1, h2⟩ := hex
    have hj : j = n := by
     rcases Nat.lt_or_ge j n with h3 | h3
     ·exact absurd ⟨j, h3, h2⟩ hb
     ·omega
    subst hj
    exact ⟨j, h2, fun t ht => by
     cases hc : s.testBit t with
     | false => rfl
     | true => exact absurd ⟨t, ht, hc⟩ hb⟩
 exact this (i + 1) ⟨i, by omega, hi⟩
theorem Least.form {s m : Nat} (h : Least s m) : ∃ q, s = 2 ^ m * (2 * q + 1) := by
 have h0 : s % 2 ^ m = 0 := by
  apply Nat.eq_of_testBit_eq
  intro j
  rw [Nat.testBit_mod_two_pow, Nat.zero_testBit]
  by_cases hj : j < m
  ·simp [h.below j hj]
  ·simp [hj]
 have h1 := h.here
 rw [k6, decide_eq_true_eq] at h1
 refine ⟨s / 2 ^ m / 2, ?_⟩
 have h2 : 2 * (s / 2 ^ m / 2) + 1 = s / 2 ^ m := by omega
 rw [h2, Nat.mul_comm]
 exact (Nat.div_mul_cancel (Nat.dvd_of_mod_eq_zero h0)).symm
def nE (s : Nat) : Nat := s &&& (s - 1)
theorem uf {s m : Nat} (h : Least s m) (j : Nat) : (nE s).testBit j = (s.testBit j && decide (j ≠ m)) := by
 obtain ⟨q, hq⟩ := h.form
 have hp : 0 < 2 ^ m := Nat.pos_of_ne_zero (by simp)
 have rV : s - 1 = 2 ^ m * (2 * q) + (2 ^ m - 1) := by rw [hq, Nat.mul_add]; omega
 have hd : (s - 1) / 2 ^ m = 2 * q := by
  rw [rV, Nat.mul_add_div hp, Nat.div_eq_of_lt (by omega), Nat.add_zero]
 have DI : s / 2 ^ m = 2 * q + 1 := by rw [hq, Nat.mul_div_cancel_left _ hp]
 unfold nE
 rw [Nat.testBit_and]
 rcases Nat.lt_trichotomy j m with hj | hj | hj
 ·simp [h.below j hj]
 ·subst hj
  rw [k6 (s - 1), hd]
  first | (simp; done) | (simp; omega)
 ·obtain ⟨i, rfl⟩ : ∃ i, j = m + 1 + i := ⟨j - m - 1, by omega⟩
  have e : ∀ x : Nat, x / 2 ^ (m + 1 + i) = x / 2 ^ m / 2 / 2 ^ i := by
   intro x
   rw [Nat.pow_add, Nat.pow_succ, ← Nat.div_div_eq_div_mul, ← Nat.div_div_eq_div_mul]
  rw [k6 (s - 1), k6 s, e, e, hd, DI, show (2 * q + 1) / 2 = q by omega, show (2 * q) / 2 = q by omega]
  simp
  omega
theorem LY {s m : Nat} (h : Least s m) (n : Nat) : jH s n = if n ≤ m then [] else (m : Int) :: jH (nE s) n := by
 induction n with
 | zero => simp [jH]
 | succ n ih =>
  rw [xe, xe, ih, uf h n]
  rcases Nat.lt_trichotomy n m with hj | hj | hj
  ·rw [h.below n hj, if_neg (by simp), if_pos (by omega), if_pos (by omega)]
  ·subst hj
   have e : ∀ t, t ≤ n → jH (nE s) t = [] := by
    intro t
    induction t with
    | zero => intro _; simp [jH]
    | succ t iht =>
     intro ht
     rw [xe, iht (by omega), uf h t, h.below t (by omega)]
     simp
   rw [if_pos h.here, if_pos (Nat.le_refl _), if_neg (by omega), e n (Nat.le_refl _)]
   simp
  ·have hne : decide (n ≠ m) = true := by simp; omega
   have e1 : ¬ n ≤ m := by omega
   have e2 : ¬ n + 1 ≤ m := by omega
   rw [hne, Bool.and_true]
   simp only [e1, e2, if_false]
   split <;> simp
theorem Least.lt {s m : Nat} (h : Least s m) (hs : s < 18446744073709551616) : m < 64 := by
 rcases Nat.lt_or_ge m 64 with hl | hl
 ·exact hl
 ·have := Nat.ge_two_pow_of_testBit h.here
  have h2 : 2 ^ 64 ≤ 2 ^ m := Nat.pow_le_pow_right (by omega) hl
  omega
theorem Be {s m : Nat} (h : Least s m) (hs : s < 18446744073709551616) : iG s = (m : Int) :: iG (nE s) := by
 unfold iG
 rw [LY h 64, if_neg (by have := h.lt hs; omega)]
theorem Hf : iG 0 = [] := by
 unfold iG jH
 simp
theorem Hk (s : Nat) (hs : s < 18446744073709551616) : nE s < 18446744073709551616 := Nat.lt_of_le_of_lt Nat.and_le_left hs
theorem Ss (s : Nat) (hs : s < 18446744073709551616) (h : s ≠ 0) : Go.bits .and .u64 (s : Int) (IntKind.u64.wrap ((s : Int) - 1)) = ((nE s : Nat) : Int) := by
 rw [show (s : Int) - 1 = ((s - 1 : Nat) : Int) by omega, jY _ (by omega), u64_and_nat _ _ hs (by omega)]
 rfl
theorem TN : ∀ (L : List Int) (s k c : Nat), s < 18446744073709551616 → iG s = L → c + L.length ≤ 64 → L.length < k → ei.l0 k (s : Int) (c : Int) = some ((c + L.length : Nat) : Int) := by
 intro L
 induction L with
 | nil =>
  intro s k c hs hL hc hk
  obtain ⟨k, rfl⟩ : ∃ m, k = m + 1 := ⟨k - 1, by omega⟩
  have h0 : s = 0 := by
   by_cases h : s = 0
   ·exact h
   ·obtain ⟨m, hm⟩ := Fg s h
    rw [Be hm hs] at hL
    cases hL
  subst h0
  unfold ei.l0
  rw [if_pos (show ((0 : Nat) : Int) = 0 from rfl)]
  rfl
 | cons x L ih =>
  intro s k c hs hL hc hk
  simp only [List.length_cons] at hc hk ⊢
  obtain ⟨k, rfl⟩ : ∃ m, k = m + 1 := ⟨k - 1, by omega⟩
  have h0 : s ≠ 0 := by
   rintro rfl
   rw [Hf] at hL
   cases hL
  obtain ⟨m, hm⟩ := Fg s h0
  rw [Be hm hs] at hL
  injection hL with _ hL
  unfold ei.l0
  rw [if_neg (by omega), Ss s hs h0, show wrap64 ((c : Int) + 1) = ((c + 1 : Nat) : Int) by unfold wrap64; omega, ih (nE s) k (c + 1) (Hk s hs) hL (by omega) (by omega)]
  congr 2
  omega
theorem Ec (s : Nat) : (iG s).length ≤ 64 := Ff s 64
theorem WL (s : Nat) (hs : s < 18446744073709551616) (k : Nat) (hk : 64 < k) : ei.f k (s : Int) = some ((iG s).length : Int) := by
 have hl := Ec s
 have := TN (iG s) s k 0 hs rfl (by omega) (by omega)
 simpa [ei.f] using this
theorem Q8 (s : Nat) (hs : s < 18446744073709551616) (w : World) : Calls Tryz.prog 120 #[.int .u64 (s : Int)] w fun e w' => e = .returned (.int .i64 ((iG s).length : Int)) ∧ Drawn0 w w' :=
 ei.calls 65 _ _ w (WL s hs 65 (by omega))
end
section
structure Bk where
 addr : Int
 aff : ByteArray
 slots : List Int
 free : List Int
 attrs : List S81
def eY (a : Int) (s : ByteArray) (l : List Int) (v v' : Value) : List Value := .int .u32 a :: .string s :: (l.map (Value.int .u8) ++ [v, v'])
section
variable (a : Int) (s : ByteArray) (l : List Int) (v v' : Value)
theorem iz (h : l.length = 64) : (eY a s l v v').length = 68 := by simp [eY, h]
theorem OJ (h : l.length = 64) (i : Nat) (hi : i < 64) : (eY a s l v v')[2 + i]? = some (.int .u8 (l.getD i 0)) := by
 have hi' : i < l.length := by omega
 rw [Nat.add_comm]
 simp [eY, List.getElem?_append_left, hi', List.getD]
theorem Gh (h : l.length = 64) : (eY a s l v v')[66]? = some v := by
 simp [eY, List.getElem?_append_right, h]
theorem si (h : l.length = 64) : (eY a s l v v')[67]? = some v' := by
 simp [eY, List.getElem?_append_right, h]
theorem Ay (h : l.length = 64) : ∀ j u, (l.map (Value.int .u8))[j]? = some u → (eY a s l v v')[2 + j]? = some u := by
 intro j u hj
 have hj' : j < l.length := by
  obtain ⟨h1, _⟩ := List.getElem?_eq_some_iff.1 hj
  simpa using h1
 rw [Nat.add_comm]
 have : (eY a s l v v')[j + 2]? = (l.map (Value.int .u8) ++ [v, v'])[j]? := by simp [eY]
 rw [this, List.getElem?_append_left (by simpa using hj'), hj]
theorem tg (hv : v.oneCell' = true) (hv' : v'.oneCell' = true) : ∀ u ∈ eY a s l v v', u.oneCell' = true := by
 intro u hu
 simp only [eY, List.mem_cons, List.mem_append, List.mem_map, List.not_mem_nil, or_false] at hu
 rcases hu with rfl | rfl | ⟨x, _, rfl⟩ | rfl | rfl
 ·rfl
 ·rfl
 ·rfl
 ·exact hv
 ·exact hv'
theorem Kn (h : l.length = 64) (u : Value) : (eY a s l v v').set 66 u = eY a s l u v' := by
 simp [eY, List.set_append, h]
theorem Km (h : l.length = 64) (u : Value) : (eY a s l v v').set 67 u = eY a s l v u := by
 simp [eY, List.set_append, h]
end
structure BkR (W : World) (b : Bk) (A : Option Addr) (c : Nat) (A' : Option Addr) (c' : Nat) : Prop where
 l64 : b.slots.length = 64
 fr : Kd.C (Kd.int .u8) W A b.free.length b.free
 fc : b.free.length ≤ c
 ar : Kd.C Bf W A' b.attrs.length b.attrs
 ac : b.attrs.length ≤ c'
theorem BkR.below {W W1 : World} {b : Bk} {A A' : Option Addr} {c c' : Nat} (h : BkR W b A c A' c') (hb : Below W.heap.size W W1) : BkR W1 b A c A' c' := ⟨h.l64, Kd.C_below h.fr hb, h.fc, Kd.C_below h.ar hb, h.ac⟩
def sm (W : World) (v : Value) (b : Bk) : Prop := ∃ A c A' c', v = .agg (eY b.addr b.aff b.slots (.slice A b.free.length c) (.slice A' b.attrs.length c')).toArray ∧ BkR W b A c A' c'
theorem sm.below {W W1 : World} {v : Value} {b : Bk} (h : sm W v b) (hb : Below W.heap.size W W1) : sm W1 v b := by
 obtain ⟨A, c, A', c', e, hr⟩ := h
 exact ⟨A, c, A', c', e, hr.below hb⟩
theorem bC.slot {W : World} {g : Nat} {a : Int} {s : ByteArray} {l : List Int} {v v' : Value} {t : Nat} (h : bC W g (eY a s l v v') t) (hl : l.length = 64) (i : Nat) (hi : i < 64) : W.cell? ⟨g, 2 + i, none⟩ = some (.int .u8 (l.getD i 0)) := h.cell _ _ (OJ a s l v v' hl i hi)
theorem Wr (w : World) : (sizeOf 5).run Tryz.prog w = .ok 1 w := by kernel_rfl
theorem Cg (l : List Int) (hl : l.length = 64) (i : Nat) (hi : i < 64) (w : World) :
  (Instr.index 60 (.agg (l.map (Value.int .u8)).toArray) (.int .i64 (i : Int))).run Tryz.prog w = .ok (.int .u8 (l.getD i 0)) w :=
 ss w 60 5 64 .u8 Tryz.underlying60 Tryz.underlying5 Wr l hl i hi
end
section
def lB (b : Bk) (j : Nat) : Bool := decide (64 ≤ rd b.free j) || (decide (rd b.free j ∈ b.free.take j) || (b.slots.getD (rd b.free j).toNat 0 != 0))
def lA (b : Bk) : Bool := (List.range b.free.length).all (fun j => !lB b j) && decide (b.slots.countP (fun x => x == 0) = b.free.length)
def dC (l : List Int) : Prop := ∀ x ∈ l, 0 ≤ x ∧ x < 256
theorem iA {l : List Int} (h : dC l) (i : Int) : 0 ≤ rd l i ∧ rd l i < 256 := by
 unfold rd
 rcases Nat.lt_or_ge i.toNat l.length with hi | hi
 ·have : l.getD i.toNat 0 = l[i.toNat] := by simp [List.getD, hi]
  rw [this]
  exact h _ (List.getElem_mem _)
 ·have : l.getD i.toNat 0 = 0 := by simp [List.getD, hi]
  rw [this]
  omega
set_option maxHeartbeats 4000000 in
set_option maxRecDepth 100000 in
theorem Oo (b : Bk) (hf : dC b.free) (hs : dC b.slots) (v : Value) (w : World) (h : sm w v b) :
  Calls Tryz.prog 109 #[v] w fun e w' => e = .returned (.bool (lA b)) ∧ Below w.heap.size w w' := by
 obtain ⟨A, c, A', c', rfl, hr⟩ := h
 have hl := hr.l64
 have HR := ak hr
 have HF := ak hf
 have HS := ak hs
 have HL := ak hl
 clear hr hf hs hl
 go_enter Tryz.func109, Tryz.ntmps109
 go_wp2_with (refine cH rfl 64 (.tmp 0) rfl _ rfl ?_; intro g W1 hg hbx aw; have HX := ak hbx; have HB := ak aw; have HG := ak hg; have HRR := ak (HR.out.below aw); have pz := hbx.cell 66 _ (Gh _ _ _ _ _ HL.out); clear hbx aw hg HR)
 go_loopw [3, 5, 12] (fun s _ i W => ∃ k nd : Nat, k ≤ b.free.length ∧ W = W1.drewN nd ∧ i = .int .i64 k ∧ s = .int .u64 ((zz (b.free.take k) : Nat) : Int) ∧ Aside0 (∀ j, j < k → lB b j = false)) (fun _ _ i _ => b.free.length - (intOf i).toNat)
 case atStart => exact ⟨0, 0, by omega, rfl, rfl, rfl, ⟨fun j hj => by omega⟩⟩
 case round =>
  obtain ⟨k, nd, hk, rfl, rfl, rfl, HJ⟩ := hrel
  have hmx : b.free.length ≤ 9223372036854775807 := HRR.out.fr.2.1
  by_cases hkn : k < b.free.length
  ·have hkb : decide ((k : Int) < (b.free.length : Int)) = true := by simp; omega
   obtain ⟨m, hm⟩ : ∃ m : Nat, rd b.free k = (m : Int) := ⟨(rd b.free k).toNat, by have := (iA HF.out k).1; omega⟩
   have Fz : m < 256 := by have := (iA HF.out k).2; omega
   obtain ⟨ad, eA, hx⟩ := Kd.at_int HRR.out.fr k (by omega) (by omega)
   cases eA
   rw [hm, Int.toNat_natCast] at hx
   have HM := ak hm
   have p1 : ((k : Int) < (b.free.length : Int)) = True := eq_true (by omega)
   by_cases uV : 64 ≤ m
   ·have Z5 : decide ((64 : Int) ≤ (m : Int)) = true := by simp; omega
    have HV := ak (show lA b = false by
     unfold lA
     rw [Bool.and_eq_false_iff]
     left
     rw [List.all_eq_false]
     exact ⟨k, by simpa using hkn, by unfold lB; rw [HM.out]; simp; omega⟩)
    clear hm
    go_wp2
    go_ret
    exact ⟨by rw [HV.out]; rfl, bh HB.out _⟩
   ·have Z5 : decide ((64 : Int) ≤ (m : Int)) = false := by simp; omega
    have hh : hasB (zz (b.free.take k)) (m : Int) = decide ((m : Int) ∈ b.free.take k) := by
     unfold hasB
     rw [ED m (by omega), Bool.true_and, Int.toNat_natCast, om _ m (by omega)]
    obtain ⟨z, kT⟩ : ∃ z : Int, b.slots.getD m 0 = z := ⟨_, rfl⟩
    have hz := HX.out.slot HL.out m (by omega)
    rw [kT] at hz
    have HZ := ak kT
    clear kT
    have HH := ak hh
    clear hh
    cases hmem : decide ((m : Int) ∈ b.free.take k) with
    | true =>
     rw [hmem] at HH
     have HV := ak (show lA b = false by
      unfold lA
      rw [Bool.and_eq_false_iff]
      left
      rw [List.all_eq_false]
      exact ⟨k, by simpa using hkn, by unfold lB; rw [HM.out, hmem]; simp⟩)
     clear hm hmem hz
     go_wp2_with (go_at_call 121; refine (CK _ (wb _) _ _).mono ?_; rintro e w' ⟨rfl, ⟨E8, rfl⟩⟩; rw [HH.out])
     go_ret
     exact ⟨by rw [HV.out]; rfl, by repeat (first | exact HB.out | apply bh)⟩
    | false =>
     rw [hmem] at HH
     cases hzz : (z != 0) with
     | true =>
      have HV := ak (show lA b = false by
       unfold lA
       rw [Bool.and_eq_false_iff]
       left
       rw [List.all_eq_false]
       exact ⟨k, by simpa using hkn, by unfold lB; rw [HM.out, Int.toNat_natCast, HZ.out, hzz]; simp⟩)
      clear hm hmem
      go_wp2_with (go_at_call 121; refine (CK _ (wb _) _ _).mono ?_; rintro e w' ⟨rfl, ⟨E8, rfl⟩⟩; rw [HH.out])
      go_ret
      exact ⟨by rw [HV.out]; rfl, by repeat (first | exact HB.out | apply bh)⟩
     | false =>
      have um := ak (show ∀ j, j < k + 1 → lB b j = false from fun j hj => by
       by_cases hjk : j < k
       ·exact HJ.out j hjk
       ·obtain rfl : j = k := by omega
        unfold lB
        rw [HM.out, Int.toNat_natCast, HZ.out, hzz, hmem]
        simp
        omega)
      have HO := ak (show oI (zz (b.free.take k)) (m : Int) = zz (b.free.take (k + 1)) by
       have e : b.free.take (k + 1) = b.free.take k ++ [(m : Int)] := by
        rw [List.take_add_one, ← HM.out]
        simp [rd, List.getD, List.getElem?_eq_getElem hkn]
       rw [e]
       unfold zz
       rw [List.foldl_append]
       rfl)
      clear hm hmem
      go_wp2_with (first | (go_at_call 121; refine (CK _ (wb _) _ _).mono ?_; rintro e w' ⟨rfl, ⟨E8, rfl⟩⟩; rw [HH.out]) | (go_at_call 118; refine (Eu _ (wb _) _ _).mono ?_; rintro e w' ⟨rfl, ⟨TK, rfl⟩⟩; rw [HO.out]))
      go_roundw
      case rel => exact ⟨k + 1, nd + E8 + TK, by omega, by simp [Nat.add_assoc], by go_num, rfl, um⟩
      case measure => simp [intOf]; omega
  ·obtain rfl : k = b.free.length := by omega
   have HA := ak (show (List.range b.free.length).all (fun j => !lB b j) = true by
    rw [List.all_eq_true]
    intro j hj
    rw [HJ.out j (by simpa using hj)]
    rfl)
   have hlen : (Tryz.prog.info? 60).map (·.size) = some (b.slots.map (Value.int .u8)).length := by rw [List.length_map, HL.out]; kernel_rfl
   go_wp2_with (refine kv rfl 60 (.tmp 37) rfl g 2 rfl 64 _ (b.slots.map (Value.int .u8)) (.array 64 5) HX.out (Ay _ _ _ _ _ HL.out) Tryz.underlying60 rfl hlen ?_)
   go_loopw [6, 8, 39] (fun s _ i W => ∃ q nd : Nat, q ≤ 64 ∧ W = W1.drewN nd ∧ i = .int .i64 q ∧ s = .int .i64 (((b.slots.take q).countP (fun x => x == 0) : Nat) : Int)) (fun _ _ i _ => 64 - (intOf i).toNat)
   case atStart => exact ⟨0, nd, by omega, rfl, rfl, rfl⟩
   case round =>
    obtain ⟨q, nd, hq, rfl, rfl, rfl⟩ := hrel
    by_cases hq2 : q < 64
    ·have hqb : decide ((q : Int) < 64) = true := by simp; omega
     obtain ⟨z, kT⟩ : ∃ z : Int, b.slots.getD q 0 = z := ⟨_, rfl⟩
     have hix := fun w => Cg b.slots HL.out q hq2 w
     rw [kT] at hix
     have hql : q < b.slots.length := by have := HL.out; omega
     have hcp : (b.slots.take (q + 1)).countP (fun x => x == 0) = (b.slots.take q).countP (fun x => x == 0) + if (z == 0) = true then 1 else 0 := by
      rw [List.take_add_one, List.countP_append, List.getElem?_eq_getElem hql]
      have : b.slots[q] = z := by rw [← kT]; simp [List.getD, List.getElem?_eq_getElem hql]
      rw [this]
      simp
     have hcl : (b.slots.take q).countP (fun x => x == 0) ≤ 64 := Nat.le_trans List.countP_le_length (by simp; omega)
     cases hzz : (z == 0) with
     | true =>
      rw [hzz, if_pos rfl] at hcp
      have HC := ak hcp
      clear kT hcp
      go_wp2
      go_roundw
      case rel => exact ⟨q + 1, nd, by omega, rfl, by go_num, by rw [HC.out]; go_num⟩
      case measure => simp [intOf]; omega
     | false =>
      rw [hzz, if_neg (by decide)] at hcp
      have HC := ak hcp
      clear kT hcp
      go_wp2
      go_roundw
      case rel => exact ⟨q + 1, nd, by omega, rfl, by go_num, by rw [HC.out]; rfl⟩
      case measure => simp [intOf]; omega
    ·obtain rfl : q = 64 := by omega
     have hqb : decide ((64 : Int) < 64) = false := by decide
     have HV := ak (show lA b = decide (b.slots.countP (fun x => x == 0) = b.free.length) by
      unfold lA
      rw [HA.out, Bool.true_and])
     have HT := ak (show b.slots.take 64 = b.slots from List.take_of_length_le (by have := HL.out; omega))
     go_wp2
     go_ret
     refine ⟨?_, by repeat (first | exact HB.out | apply bh)⟩
     rw [HV.out]
     simp only [HT.out]
     show Ending.returned (Value.bool (((b.slots.countP (fun x => x == 0) : Nat) : Int) == ((b.free.length : Nat) : Int))) = _
     congr 2
     rw [Bool.eq_iff_iff, beq_iff_eq, decide_eq_true_eq]
     exact Int.ofNat_inj
end
section
theorem Xb (d : Nat) (w : World) (x0 y0 : ByteArray) (x1 y1 : ByteArray) :
  (Op.equalIn (d + 2) 81 (.agg #[.string x0, .string x1]) (.agg #[.string y0, .string y1])).run Tryz.prog w = .ok (x0.toList == y0.toList && (x1.toList == y1.toList)) w := by
 refine wE Tryz.underlying81 (by kernel_rfl) ?_
 refine qT (by rfl) (by go_simp; rfl) (by go_simp; rfl) (by go_simp) ?_
 exact qS (by rfl) (by go_simp; rfl) (by go_simp; rfl) (by go_simp)
end
section
open Go.ChangeMaps (setBlock)
abbrev At := S81
def kM (a : At) : Value := .agg #[.string a.f0, .string a.f1]
def sameAt (a b : At) : Bool := a.f0.toList == b.f0.toList && a.f1.toList == b.f1.toList
theorem wZ (a b : At) : sameAt a b = true ↔ a = b := by
 obtain ⟨x, y⟩ := a
 obtain ⟨z, u⟩ := b
 simp only [sameAt, Bool.and_eq_true, beq_iff_eq, S81.mk.injEq]
 have h : ∀ p q : ByteArray, p.toList = q.toList ↔ p = q := fun p q => by
  rw [ByteArray.toList_eq, ByteArray.toList_eq]
  exact ⟨fun h => by obtain ⟨⟨l⟩⟩ := p; obtain ⟨⟨l'⟩⟩ := q; simp_all, fun h => by rw [h]⟩
 rw [h, h]
theorem G7 (a : At) : sameAt a a = true := (wZ a a).2 rfl
theorem JI (a b : At) (w : World) : (Op.equal 81 (kM a) (kM b)).run Tryz.prog w = .ok (sameAt a b) w := Xb _ w a.f0 b.f0 a.f1 b.f1
theorem Cc (e : Bool) (a : At) (w : World) : (Instr.checkKey e 10000 81 (kM a)).run Tryz.prog w = .ok () w := by kernel_rfl
def dU (L : List (At × Int)) : List MapEntry := L.mapIdx fun i p => ⟨kM p.1, .int .i64 p.2, i⟩
def nQ (W : World) (g : Nat) (L : List (At × Int)) : Prop := W.heap[g]? = some (.map (dU L).toArray L.length)
def numOf (L : List (At × Int)) (a : At) : Int := match L.find? (fun p => sameAt a p.1) with | some p => p.2 | none => 0
def idxOf (L : List (At × Int)) (a : At) : Option Nat := L.findIdx? (fun p => sameAt a p.1)
def putAt (L : List (At × Int)) (a : At) (v : Int) : List (At × Int) := match idxOf L a with | some i => L.modify i (fun p => (p.1, v)) | none => L ++ [(a, v)]
theorem FU (a : At) (w : World) : ∀ (L : List (At × Int)) (o i : Nat),
  (Instr.findAsking 81 (kM a) (L.mapIdx fun j p => (⟨kM p.1, .int .i64 p.2, o + j⟩ : MapEntry)) i).run Tryz.prog w = .ok ((idxOf L a).bind fun j => L[j]?.map fun p => (i + j, .int .i64 p.2)) w
 | [], _, _ => rfl
 | p :: L, o, i => by
  have ih := FU a w L (o + 1) (i + 1)
  rw [List.mapIdx_cons]
  unfold Instr.findAsking idxOf
  rw [List.findIdx?_cons]
  simp only [Sem.run_bind, JI, Result.andThen_ok, Nat.add_zero]
  cases h : sameAt a p.1 with
  | true => simp
  | false =>
   simp only [Bool.false_eq_true, if_false]
   have e : (L.mapIdx fun j p => (⟨kM p.1, .int .i64 p.2, o + (j + 1)⟩ : MapEntry)) = (L.mapIdx fun j p => (⟨kM p.1, .int .i64 p.2, o + 1 + j⟩ : MapEntry)) := by
    congr 1
    funext j p
    rw [Nat.add_right_comm, Nat.add_assoc]
   rw [e, ih]
   unfold idxOf
   cases h2 : List.findIdx? (fun p => sameAt a p.1) L with
   | none => simp
   | some j =>
    simp only [Option.bind_some, Option.map_some, List.getElem?_cons_succ]
    rw [show i + 1 + j = i + (j + 1) by omega]
theorem zJ (a : At) (w : World) (L : List (At × Int)) :
  (Instr.findKey 81 (kM a) (dU L)).run Tryz.prog w = .ok ((idxOf L a).bind fun j => L[j]?.map fun p => (j, .int .i64 p.2)) w := by
 have h := FU a w L 0 0
 simp only [Nat.zero_add] at h
 have hu := run_underlying (w := w) Tryz.underlying81
 unfold Instr.findKey
 simp only [Sem.run_bind, hu, Result.andThen_ok]
 cases L with
 | nil => rfl
 | cons p L =>
  have e : ∀ k r, Instr.findNow k (kM a) (dU (p :: L)) 0 = none → ((match Instr.findNow k (kM a) (dU (p :: L)) 0 with | some r => pure r | none => Instr.findAsking 81 (kM a) (dU (p :: L))) : Sem (Option (Nat × Value))).run Tryz.prog w = r → (match Instr.findNow k (kM a) (dU (p :: L)) 0 with | some r => pure r | none => Instr.findAsking 81 (kM a) (dU (p :: L)) : Sem (Option (Nat × Value))).run Tryz.prog w = r := fun _ _ _ h => h
  rw [show ∀ fs, Instr.findNow (.struct fs) (kM a) (dU (p :: L)) 0 = none from fun fs => by simp [dU, List.mapIdx_cons, Instr.findNow, Instr.sameNow, kM]]
  exact h
theorem Bn {L : List (At × Int)} {a : At} {j : Nat} (h : idxOf L a = some j) : ∃ p, L[j]? = some p ∧ sameAt a p.1 = true ∧ numOf L a = p.2 := by
 unfold idxOf at h
 obtain ⟨hj, h1, h2⟩ := List.findIdx?_eq_some_iff_getElem.1 h
 refine ⟨L[j], List.getElem?_eq_getElem hj, h1, ?_⟩
 unfold numOf
 have : L.find? (fun p => sameAt a p.1) = some L[j] := by
  rw [List.find?_eq_some_iff_getElem]
  exact ⟨h1, j, hj, rfl, fun k hk => by simpa using h2 k hk⟩
 rw [this]
theorem sO {L : List (At × Int)} {a : At} (h : idxOf L a = none) : (∀ p ∈ L, sameAt a p.1 = false) ∧ numOf L a = 0 := by
 unfold idxOf at h
 have h1 : ∀ p ∈ L, sameAt a p.1 = false := by simpa using h
 refine ⟨h1, ?_⟩
 unfold numOf
 have : L.find? (fun p => sameAt a p.1) = none := by simpa using h1
 rw [this]
theorem Pq (w : World) : (zeroValue 3).run Tryz.prog w = .ok (.int .i64 0) w := by kernel_rfl
theorem Ae (W : World) (g : Nat) (L : List (At × Int)) (h : nQ W g L) (a : At) : (Instr.lookup 188 (.map (some g)) (kM a) false).run Tryz.prog W = .ok (.int .i64 (numOf L a)) W := by
 have hk := zJ a W L
 unfold Instr.lookup
 simp only [Sem.run_bind, run_underlying Tryz.underlying188, Result.andThen_ok, MapKept.run_getObj_map h, Cc, Sem.run_pure, hk]
 cases hi : idxOf L a with
 | none =>
  rw [(sO hi).2]
  simp [Pq]
 | some j =>
  obtain ⟨p, hp, _, hn⟩ := Bn hi
  rw [hn]
  simp [hp]
theorem Bc {L : List (At × Int)} {a : At} (h : idxOf L a = none) (v : Int) : numOf (L ++ [(a, v)]) a = v := by
 have h1 := (sO h).1
 have h2 : L.find? (fun p => sameAt a p.1) = none := by simpa using h1
 unfold numOf
 rw [List.find?_append, h2]
 simp [G7]
theorem LR {L : List (At × Int)} {a : At} (h : idxOf L a = none) : numOf (L ++ [(a, 0)]) a = numOf L a := by
 rw [Bc h, (sO h).2]
theorem G6 (a b : At) (h : sameAt a b = true) : Instr.sameBits 10000 (kM a) (kM b) = true := by
 obtain rfl := (wZ a b).1 h
 show ((2 == 2) && ((#[Value.string a.f0, .string a.f1].toList.zip #[Value.string a.f0, .string a.f1].toList).all fun (x, y) => Instr.sameBits 9999 x y)) = true
 simp [Instr.sameBits, MapKept.bytes_beq]
theorem Fa (L : List (At × Int)) : (dU L).length = L.length := by simp [dU]
theorem yg (L : List (At × Int)) (i : Nat) : (dU L)[i]? = L[i]?.map fun p => ⟨kM p.1, .int .i64 p.2, i⟩ := by simp [dU]
theorem Bd (L : List (At × Int)) (j : Nat) (hj : j < L.length) : (dU L).findIdx? (fun e => (e.born : Int) == (j : Int)) = some j := by
 rw [List.findIdx?_eq_some_iff_getElem]
 refine ⟨by rw [Fa]; exact hj, ?_, fun k hk => ?_⟩
 ·simp [dU]
 ·simp only [dU, List.getElem_mapIdx, Bool.not_eq_true, beq_eq_false_iff_ne]
  omega
theorem DT (j : Nat) (w : World) : (asInt (.int .i64 (j : Int))).run Tryz.prog w = .ok (j : Int) w := by simp [asInt, asIntOf]
theorem MC (W : World) (g : Nat) (L : List (At × Int)) (h : nQ W g L) (hl : L.length < 1000) (a : At) (v : Int) :
  ∃ W1 W2 j, (Instr.mapEntry 188 (.map (some g)) (kM a)).run Tryz.prog W = .ok (.tuple #[.int .i64 (numOf L a), .int .i64 j]) W1 ∧ (∃ L1, nQ W1 g L1 ∧ numOf L1 a = numOf L a) ∧
   (Instr.entryStore 188 (.map (some g)) (.int .i64 j) (.int .i64 v)).run Tryz.prog W1 = .ok () W2 ∧ nQ W2 g (putAt L a v) ∧ W.grownBy W2 (some g) ∧ (∀ p, p.block ≠ g → W1.cell? p = W.cell? p) := by
 have hk := zJ a W L
 have hb : ∀ (w : World) (es es' : Array MapEntry) (c c' : Nat), w.heap[g]? = some (.map es c) → (setBlock w g (.map es' c')).heap[g]? = some (.map es' c') := fun w es es' c c' hw => by
  have := (Array.getElem?_eq_some_iff.1 hw).1
  simp [setBlock, this]
 have hgr : ∀ (es : Array MapEntry) (c : Nat), W.grownBy (setBlock W g (.map es c)) (some g) := fun es c => ⟨rfl, rfl, rfl, by simp [setBlock], fun k _ hk => by simp only [setBlock]; rw [Array.getElem?_setIfInBounds_ne (fun e => hk (by rw [e]))]⟩
 have hc : ∀ (es : Array MapEntry) (c : Nat) (p : Addr), p.block ≠ g → (setBlock W g (.map es c)).cell? p = W.cell? p := fun es c p hp => by
  have : (setBlock W g (.map es c)).heap[p.block]? = W.heap[p.block]? := by simp only [setBlock]; rw [Array.getElem?_setIfInBounds_ne (fun e => hp e.symm)]
  simp [World.cell?, this]
 have hu := run_underlying (w := W) Tryz.underlying188
 cases hi : idxOf L a with
 | none =>
  rw [hi] at hk
  have e1 : (dU L).toArray.push ⟨kM a, .int .i64 0, L.length⟩ = (dU (L ++ [(a, 0)])).toArray := by
   simp [dU, List.mapIdx_append]
  have lv : (setBlock W g (.map (dU (L ++ [(a, 0)])).toArray (L.length + 1))).heap[g]? = some (.map (dU (L ++ [(a, 0)])).toArray (L.length + 1)) := hb W _ _ _ _ h
  refine ⟨setBlock W g (.map (dU (L ++ [(a, 0)])).toArray (L.length + 1)), setBlock W g (.map (dU (L ++ [(a, v)])).toArray (L.length + 1)), L.length, ?_, ⟨L ++ [(a, 0)], by unfold nQ; rw [List.length_append]; exact lv, LR hi⟩, ?_, ?_, hgr _ _, fun p hp => hc _ _ p hp⟩
  ·rw [(sO hi).2, ← e1]
   unfold Instr.mapEntry
   simp only [Sem.run_bind, hu, Result.andThen_ok, MapKept.run_getObj_map h, Cc, Sem.run_pure, hk, Option.bind_none, Pq, MapKept.run_setObj_map _ h]
   rfl
  ·have e2 : ((dU (L ++ [(a, 0)])).toArray.modify L.length fun e => { e with val := .int .i64 v }) = (dU (L ++ [(a, v)])).toArray := by
    apply Array.ext_getElem?
    intro k
    rw [Array.getElem?_modify]
    simp only [List.getElem?_toArray, yg]
    rcases Nat.lt_trichotomy k L.length with hk | hk | hk
    ·rw [if_neg (by omega), List.getElem?_append_left hk, List.getElem?_append_left hk]
    ·subst hk
     simp
    ·rw [if_neg (by omega), List.getElem?_eq_none (by simp; omega), List.getElem?_eq_none (by simp; omega)]
   have hf : (dU (L ++ [(a, 0)])).toArray.findIdx? (fun e => (e.born : Int) == ((L.length : Nat) : Int)) = some L.length := by
    rw [List.findIdx?_toArray]
    exact Bd _ _ (by simp)
   unfold Instr.entryStore
   simp only [Sem.run_bind, Result.andThen_ok, MapKept.run_getObj_map lv, Sem.run_pure, DT, hf, MapKept.run_setObj_map _ lv, e2]
   simp [setBlock, Array.setIfInBounds_setIfInBounds]
  ·have := hb W (dU L).toArray (dU (L ++ [(a, v)])).toArray L.length (L.length + 1) h
   unfold nQ putAt
   rw [hi]
   simpa using this
 | some j =>
  obtain ⟨p, hp, hsm, hn⟩ := Bn hi
  have hjl : j < L.length := (List.getElem?_eq_some_iff.1 hp).1
  rw [hi] at hk
  have hent : (dU L).toArray[j]? = some ⟨kM p.1, .int .i64 p.2, j⟩ := by
   rw [List.getElem?_toArray, yg, hp]
   rfl
  obtain rfl := (wZ a p.1).1 hsm
  have e1 : ((dU L).toArray.modify j fun e => { e with key := kM p.1 }) = (dU L).toArray := by
   apply Array.ext_getElem?
   intro k
   rw [Array.getElem?_modify]
   by_cases hk : k = j
   ·subst hk
    rw [if_pos rfl, hent]
    rfl
   ·rw [if_neg (fun e => hk e.symm)]
  have lv : (setBlock W g (.map (dU L).toArray L.length)).heap[g]? = some (.map (dU L).toArray L.length) := hb W _ _ _ _ h
  refine ⟨setBlock W g (.map (dU L).toArray L.length), setBlock W g (.map (dU (L.modify j fun q => (q.1, v))).toArray L.length), j, ?_, ⟨L, lv, rfl⟩, ?_, ?_, hgr _ _, fun p hp => hc _ _ p hp⟩
  ·rw [hn]
   unfold Instr.mapEntry
   simp only [Sem.run_bind, hu, Result.andThen_ok, MapKept.run_getObj_map h, Cc, Sem.run_pure, hk, Option.bind_some, hp, Option.map_some, hent, Option.getD_some, Instr.keyThatStays, G6 _ _ hsm, if_true, e1, MapKept.run_setObj_map _ h]
   rfl
  ·have e2 : ((dU L).toArray.modify j fun e => { e with val := .int .i64 v }) = (dU (L.modify j fun q => (q.1, v))).toArray := by
    apply Array.ext_getElem?
    intro k
    rw [Array.getElem?_modify]
    simp only [List.getElem?_toArray, yg, List.getElem?_modify]
    by_cases hk : j = k
    ·subst hk
     simp [hp]
    ·simp [hk]
   have hf : (dU L).toArray.findIdx? (fun e => (e.born : Int) == ((j : Nat) : Int)) = some j := by
    rw [List.findIdx?_toArray]
    exact Bd _ _ hjl
   unfold Instr.entryStore
   simp only [Sem.run_bind, Result.andThen_ok, MapKept.run_getObj_map lv, Sem.run_pure, DT, hf, MapKept.run_setObj_map _ lv, e2]
   simp [setBlock, Array.setIfInBounds_setIfInBounds]
  ·have := hb W (dU L).toArray (dU (L.modify j fun q => (q.1, v))).toArray L.length L.length h
   unfold nQ putAt
   rw [hi]
   simpa using this
theorem Dn (L : List (At × Int)) (a : At) (v : Int) : numOf (putAt L a v) a = v := by
 unfold putAt
 cases hi : idxOf L a with
 | none => exact Bc hi v
 | some j =>
  have hi' := hi
  unfold idxOf at hi'
  obtain ⟨hj, h1, h2⟩ := List.findIdx?_eq_some_iff_getElem.1 hi'
  unfold numOf
  have : (L.modify j fun p => (p.1, v)).find? (fun p => sameAt a p.1) = some (L[j].1, v) := by
   rw [List.find?_eq_some_iff_getElem]
   refine ⟨h1, j, by simpa using hj, by simp, fun k hk => ?_⟩
   have := h2 k hk
   simp only [List.getElem_modify]
   rw [if_neg (by omega)]
   simpa using this
  rw [this]
end
section
attribute [local go_sem] bq bn bI bH aW aV bp bj
mutual
def cN.j0 : Nat → Int → Bool → Option (Bool)
 | 0, _, _ => none
 | k + 1, x0, x3 => if x3 = true then (cN.j1 k x0 x3) else (if x0 ≥ 65 then (if x0 ≤ 90 then (cN.j1 k x0 (decide (x0 ≤ 90))) else (if x0 ≥ 48 then (cN.j1 k x0 (decide (x0 ≤ 57))) else (cN.j1 k x0 false))) else (if x0 ≥ 48 then (cN.j1 k x0 (decide (x0 ≤ 57))) else (cN.j1 k x0 false)))
def cN.j1 : Nat → Int → Bool → Option (Bool)
 | 0, _, _ => none
 | k + 1, x0, x3 => if x3 = true then (some true) else (if x0 = 46 then (some true) else (if x0 = 45 then (some true) else (if x0 = 95 then (some true) else (some false))))
end
def cN.f (k : Nat) (a0 : Int) : Option (Bool) := if a0 ≥ 97 then (cN.j0 k a0 (decide (a0 ≤ 122))) else (cN.j0 k a0 false)
set_option maxHeartbeats 8000000 in
set_option maxRecDepth 100000 in
theorem cN.calls (k : Nat) (a0 : Int) (r : Bool) (w : World) (h : cN.f k a0 = some r) :
  Calls Tryz.prog 116 #[.int .i32 a0] w fun e w' => e = .returned (.bool r) ∧ Drawn0 w w' := by
 have H : (if a0 ≥ 97 then (cN.j0 k a0 (decide (a0 ≤ 122))) else (cN.j0 k a0 false)) = some r := h
 clear h
 have nV := ak H
 clear H
 go_enter Tryz.func116, Tryz.ntmps116
 go_upto_region 1 with (fail)
 go_cut [3] (fun v3 wc => ∃ (kq : Nat) (bK : Bool), v3 = .bool bK ∧ Aside0 (cN.j0 kq a0 bK = some r) ∧ Aside0 (kq ≤ k) ∧ Drawn0 w wc)
 case first =>
  have H := nV.out
  clear nV
  by_cases c3 : a0 ≥ 97
  ·rw [if_pos c3] at H
   have gq := decide_eq_true c3
   clear c3
   (first | rw [gq] | (simp only [gO, kj]; rw [gq]) | skip)
   have H' := ak H; clear H
   go_wp2
   go_meet
   case rel => exact ⟨_, (decide (a0 ≤ 122)), rf, H', ⟨by first | omega | exact Nat.le_refl _⟩, dl⟩
  ·rw [if_neg c3] at H
   have gq := decide_eq_false c3
   clear c3
   (first | rw [gq] | (simp only [gO, kj]; rw [gq]) | skip)
   have H' := ak H; clear H
   go_wp2
   go_meet
   case rel => exact ⟨_, (false), rf, H', ⟨by first | omega | exact Nat.le_refl _⟩, dl⟩
 case rest =>
  clear nV
  obtain ⟨kq, bK, rfl, HA, mS, ⟨mc1, rfl⟩⟩ := hcut
  cases kq with
  | zero => exact absurd HA.out (by simp [cN.j0])
  | succ tI =>
   have H := HA.out
   clear HA
   simp only [cN.j0] at H
   have my := ak H
   clear H
   go_upto_if 3 with (fail)
   go_cut [3] (fun v3 wc => ∃ (kq : Nat) (Jt : Bool), v3 = .bool Jt ∧ Aside0 (cN.j1 kq a0 Jt = some r) ∧ Aside0 (kq ≤ tI) ∧ Drawn0 w wc)
   case first =>
    have H := my.out
    clear my
    by_cases c5 : bK = true
    ·subst c5
     replace H : (cN.j1 tI a0 true) = some r := by rw [if_pos rfl] at H; exact H
     have H' := ak H; clear H
     go_wp2
     go_meet
     case rel => exact ⟨_, (true), rf, H', ⟨by have := mS.out; first | omega | exact Nat.le_refl _⟩, dl⟩
    ·replace c5 := Bool.eq_false_iff.mpr c5
     subst c5
     replace H : (if a0 ≥ 65 then (if a0 ≤ 90 then (cN.j1 tI a0 (decide (a0 ≤ 90))) else (if a0 ≥ 48 then (cN.j1 tI a0 (decide (a0 ≤ 57))) else (cN.j1 tI a0 false))) else (if a0 ≥ 48 then (cN.j1 tI a0 (decide (a0 ≤ 57))) else (cN.j1 tI a0 false))) = some r := by rw [if_neg (show ¬ (false = true) by decide)] at H; exact H
     by_cases c6 : a0 ≥ 65
     ·rw [if_pos c6] at H
      have jd := decide_eq_true c6
      clear c6
      (first | rw [jd] | (simp only [gO, kj]; rw [jd]) | skip)
      by_cases c7 : a0 ≤ 90
      ·rw [if_pos c7] at H
       have qV := decide_eq_true c7
       clear c7
       have H' := ak H; clear H
       go_wp2
       go_meet
       case rel => exact ⟨_, (decide (a0 ≤ 90)), rf, H', ⟨by have := mS.out; first | omega | exact Nat.le_refl _⟩, dl⟩
      ·rw [if_neg c7] at H
       have qV := decide_eq_false c7
       clear c7
       by_cases c8 : a0 ≥ 48
       ·rw [if_pos c8] at H
        have qU := decide_eq_true c8
        clear c8
        have H' := ak H; clear H
        go_wp2
        go_meet
        case rel => exact ⟨_, (decide (a0 ≤ 57)), rf, H', ⟨by have := mS.out; first | omega | exact Nat.le_refl _⟩, dl⟩
       ·rw [if_neg c8] at H
        have qU := decide_eq_false c8
        clear c8
        have H' := ak H; clear H
        go_wp2
        go_meet
        case rel => exact ⟨_, (false), rf, H', ⟨by have := mS.out; first | omega | exact Nat.le_refl _⟩, dl⟩
     ·rw [if_neg c6] at H
      have jd := decide_eq_false c6
      clear c6
      (first | rw [jd] | (simp only [gO, kj]; rw [jd]) | skip)
      by_cases c9 : a0 ≥ 48
      ·rw [if_pos c9] at H
       have xq := decide_eq_true c9
       clear c9
       have H' := ak H; clear H
       go_wp2
       go_meet
       case rel => exact ⟨_, (decide (a0 ≤ 57)), rf, H', ⟨by have := mS.out; first | omega | exact Nat.le_refl _⟩, dl⟩
      ·rw [if_neg c9] at H
       have xq := decide_eq_false c9
       clear c9
       have H' := ak H; clear H
       go_wp2
       go_meet
       case rel => exact ⟨_, (false), rf, H', ⟨by have := mS.out; first | omega | exact Nat.le_refl _⟩, dl⟩
   case rest =>
    clear my
    obtain ⟨kq, Jt, rfl, HA, YY, ⟨mc3, rfl⟩⟩ := hcut
    cases kq with
    | zero => exact absurd HA.out (by simp [cN.j1])
    | succ kj3 =>
     have H := HA.out
     clear HA
     simp only [cN.j1] at H
     by_cases c10 : Jt = true
     ·subst c10
      replace H : (some true) = some r := by rw [if_pos rfl] at H; exact H
      obtain rfl := Option.some.inj H
      go_wp2
      go_ret
      exact ⟨rf, dl⟩
     ·replace c10 := Bool.eq_false_iff.mpr c10
      subst c10
      replace H : (if a0 = 46 then (some true) else (if a0 = 45 then (some true) else (if a0 = 95 then (some true) else (some false)))) = some r := by rw [if_neg (show ¬ (false = true) by decide)] at H; exact H
      by_cases iy : a0 = 46
      ·rw [if_pos iy] at H
       have vk : (a0 == 46) = true := beq_iff_eq.mpr iy
       have BQ : (a0 != 46) = false := bne_eq_false_iff_eq.mpr iy
       clear iy
       obtain rfl := Option.some.inj H
       go_wp2
       go_ret
       exact ⟨rf, dl⟩
      ·rw [if_neg iy] at H
       have vk : (a0 == 46) = false := beq_eq_false_iff_ne.mpr iy
       have BQ : (a0 != 46) = true := bne_iff_ne.mpr iy
       by_cases dB : a0 = 45
       ·rw [if_pos dB] at H
        have u9 : (a0 == 45) = true := beq_iff_eq.mpr dB
        have Kk : (a0 != 45) = false := bne_eq_false_iff_eq.mpr dB
        clear dB
        obtain rfl := Option.some.inj H
        go_wp2
        go_ret
        exact ⟨rf, dl⟩
       ·rw [if_neg dB] at H
        have u9 : (a0 == 45) = false := beq_eq_false_iff_ne.mpr dB
        have Kk : (a0 != 45) = true := bne_iff_ne.mpr dB
        by_cases qw : a0 = 95
        ·rw [if_pos qw] at H
         have Kj : (a0 == 95) = true := beq_iff_eq.mpr qw
         have XO : (a0 != 95) = false := bne_eq_false_iff_eq.mpr qw
         clear qw
         obtain rfl := Option.some.inj H
         go_wp2
         go_ret
         exact ⟨rf, dl⟩
        ·rw [if_neg qw] at H
         have Kj : (a0 == 95) = false := beq_eq_false_iff_ne.mpr qw
         have XO : (a0 != 95) = true := bne_iff_ne.mpr qw
         obtain rfl := Option.some.inj H
         go_wp2
         go_ret
         exact ⟨rf, dl⟩
end
section
attribute [local go_sem] bq bn bI bH aW aV bp bj
def al.l0 : Nat → ByteArray → Int → Option (Bool)
 | 0, _, _ => none
 | k + 1, x0, x3 => if x3 < (x0.size : Int) then (if 0 ≤ x3 then (if (bt x0 x3) ≥ 97 then (if (bt x0 x3) ≤ 122 then (al.l0 k x0 (wrap64 (x3 + 1))) else (if (bt x0 x3) ≥ 65 then (if (bt x0 x3) ≤ 90 then (al.l0 k x0 (wrap64 (x3 + 1))) else (if (bt x0 x3) ≥ 48 then (if (bt x0 x3) ≤ 57 then (al.l0 k x0 (wrap64 (x3 + 1))) else (if (bt x0 x3) = 46 then (al.l0 k x0 (wrap64 (x3 + 1))) else (if (bt x0 x3) = 45 then (al.l0 k x0 (wrap64 (x3 + 1))) else (if ((bt x0 x3) = 95) then (al.l0 k x0 (wrap64 (x3 + 1))) else (some false))))) else (if (bt x0 x3) = 46 then (al.l0 k x0 (wrap64 (x3 + 1))) else (if (bt x0 x3) = 45 then (al.l0 k x0 (wrap64 (x3 + 1))) else (if ((bt x0 x3) = 95) then (al.l0 k x0 (wrap64 (x3 + 1))) else (some false)))))) else (if (bt x0 x3) ≥ 48 then (if (bt x0 x3) ≤ 57 then (al.l0 k x0 (wrap64 (x3 + 1))) else (if (bt x0 x3) = 46 then (al.l0 k x0 (wrap64 (x3 + 1))) else (if (bt x0 x3) = 45 then (al.l0 k x0 (wrap64 (x3 + 1))) else (if ((bt x0 x3) = 95) then (al.l0 k x0 (wrap64 (x3 + 1))) else (some false))))) else (if (bt x0 x3) = 46 then (al.l0 k x0 (wrap64 (x3 + 1))) else (if (bt x0 x3) = 45 then (al.l0 k x0 (wrap64 (x3 + 1))) else (if ((bt x0 x3) = 95) then (al.l0 k x0 (wrap64 (x3 + 1))) else (some false))))))) else (if (bt x0 x3) ≥ 65 then (if (bt x0 x3) ≤ 90 then (al.l0 k x0 (wrap64 (x3 + 1))) else (if (bt x0 x3) ≥ 48 then (if (bt x0 x3) ≤ 57 then (al.l0 k x0 (wrap64 (x3 + 1))) else (if (bt x0 x3) = 46 then (al.l0 k x0 (wrap64 (x3 + 1))) else (if (bt x0 x3) = 45 then (al.l0 k x0 (wrap64 (x3 + 1))) else (if ((bt x0 x3) = 95) then (al.l0 k x0 (wrap64 (x3 + 1))) else (some false))))) else (if (bt x0 x3) = 46 then (al.l0 k x0 (wrap64 (x3 + 1))) else (if (bt x0 x3) = 45 then (al.l0 k x0 (wrap64 (x3 + 1))) else (if ((bt x0 x3) = 95) then (al.l0 k x0 (wrap64 (x3 + 1))) else (some false)))))) else (if (bt x0 x3) ≥ 48 then (if (bt x0 x3) ≤ 57 then (al.l0 k x0 (wrap64 (x3 + 1))) else (if (bt x0 x3) = 46 then (al.l0 k x0 (wrap64 (x3 + 1))) else (if (bt x0 x3) = 45 then (al.l0 k x0 (wrap64 (x3 + 1))) else (if ((bt x0 x3) = 95) then (al.l0 k x0 (wrap64 (x3 + 1))) else (some false))))) else (if (bt x0 x3) = 46 then (al.l0 k x0 (wrap64 (x3 + 1))) else (if (bt x0 x3) = 45 then (al.l0 k x0 (wrap64 (x3 + 1))) else (if ((bt x0 x3) = 95) then (al.l0 k x0 (wrap64 (x3 + 1))) else (some false))))))) else (none)) else (if (x0.size : Int) ≥ 1 then (some (decide ((x0.size : Int) ≤ 64))) else (some false))
def al.f (k : Nat) (a0 : ByteArray) : Option (Bool) := al.l0 k a0 0
theorem al.step (k : Nat) (a0 : ByteArray) (x : Int) (r : Bool) (c2 : x < (a0.size : Int)) (c3 : 0 ≤ x) (h : al.l0 (k + 1) a0 x = some r) :
  (((97 ≤ bt a0 x ∧ bt a0 x ≤ 122) ∨ (65 ≤ bt a0 x ∧ bt a0 x ≤ 90) ∨ (48 ≤ bt a0 x ∧ bt a0 x ≤ 57) ∨ bt a0 x = 46 ∨ bt a0 x = 45 ∨ bt a0 x = 95) ∧ al.l0 k a0 (wrap64 (x + 1)) = some r) ∨
  ((122 < bt a0 x ∨ (90 < bt a0 x ∧ bt a0 x < 97 ∧ bt a0 x ≠ 95) ∨ (57 < bt a0 x ∧ bt a0 x < 65) ∨ (bt a0 x < 48 ∧ bt a0 x ≠ 46 ∧ bt a0 x ≠ 45)) ∧ false = r) := by
 rw [al.l0, if_pos c2, if_pos c3] at h
 repeat' split at h
 all_goals first
  | exact .inl ⟨by omega, h⟩
  | exact .inr ⟨by omega, Option.some.inj h⟩
set_option maxHeartbeats 8000000 in
set_option maxRecDepth 100000 in
theorem al.calls (k : Nat) (a0 : ByteArray) (r : Bool) (w : World) (h : al.f k a0 = some r) :
  Calls Tryz.prog 43 #[.string a0] w fun e w' => e = .returned (.bool r) ∧ Drawn0 w w' := by
 have H' := ak (show al.l0 k a0 0 = some r from h)
 clear h
 go_enter Tryz.func43, Tryz.ntmps43
 go_wp2
 go_loopg [3] k (fun kq v3 w' => ∃ (bK : Int), v3 = .int .i64 bK ∧ Aside0 (al.l0 kq a0 bK = some r) ∧ Aside0 (kq ≤ k) ∧ Drawn0 w w')
 case atStart => exact ⟨(0), rf, H', ⟨Nat.le_refl _⟩, dl⟩
 case round =>
  clear H'
  obtain ⟨bK, rfl, HA, ee, ⟨m1, rfl⟩⟩ := hrel
  cases gk with
  | zero => exact absurd HA.out (by simp [al.l0])
  | succ k1 =>
   by_cases c2 : bK < (a0.size : Int)
   ·have ig := decide_eq_true c2
    have q4 := eq_true c2
    by_cases c3 : 0 ≤ bK
    ·have p4 := eq_true c3
     have Fq := fi a0 bK
     rcases al.step k1 a0 bK r c2 c3 HA.out with ⟨hw, H⟩ | ⟨hw, rfl⟩
     all_goals clear HA c2 c3
     ·have H' := ak H
      clear H
      rcases hw with hw | hw | hw | hw | hw | hw
      all_goals
       (first | have f0 : decide (97 ≤ bt a0 bK) = true := decide_eq_true (by omega) | have f0 : decide (97 ≤ bt a0 bK) = false := decide_eq_false (by omega))
       (first | have f1 : decide (bt a0 bK ≤ 122) = true := decide_eq_true (by omega) | have f1 : decide (bt a0 bK ≤ 122) = false := decide_eq_false (by omega))
       (first | have f2 : decide (65 ≤ bt a0 bK) = true := decide_eq_true (by omega) | have f2 : decide (65 ≤ bt a0 bK) = false := decide_eq_false (by omega))
       (first | have f3 : decide (bt a0 bK ≤ 90) = true := decide_eq_true (by omega) | have f3 : decide (bt a0 bK ≤ 90) = false := decide_eq_false (by omega))
       (first | have f4 : decide (48 ≤ bt a0 bK) = true := decide_eq_true (by omega) | have f4 : decide (48 ≤ bt a0 bK) = false := decide_eq_false (by omega))
       (first | have f5 : decide (bt a0 bK ≤ 57) = true := decide_eq_true (by omega) | have f5 : decide (bt a0 bK ≤ 57) = false := decide_eq_false (by omega))
       (first | have g0 : (bt a0 bK == 46) = true := beq_iff_eq.mpr (by omega) | have g0 : (bt a0 bK == 46) = false := beq_eq_false_iff_ne.mpr (by omega))
       (first | have g1 : (bt a0 bK == 45) = true := beq_iff_eq.mpr (by omega) | have g1 : (bt a0 bK == 45) = false := beq_eq_false_iff_ne.mpr (by omega))
       (first | have g2 : (bt a0 bK == 95) = true := beq_iff_eq.mpr (by omega) | have g2 : (bt a0 bK == 95) = false := beq_eq_false_iff_ne.mpr (by omega))
       clear hw
       go_wp2
       go_roundg k1
       case measure => have := ee.out; omega
       case rel => exact ⟨(wrap64 (bK + 1)), rf, H', ⟨by have := ee.out; omega⟩, dl⟩
     ·rcases hw with hw | hw | hw | hw
      all_goals
       (first | have f0 : decide (97 ≤ bt a0 bK) = true := decide_eq_true (by omega) | have f0 : decide (97 ≤ bt a0 bK) = false := decide_eq_false (by omega))
       (first | have f1 : decide (bt a0 bK ≤ 122) = true := decide_eq_true (by omega) | have f1 : decide (bt a0 bK ≤ 122) = false := decide_eq_false (by omega))
       (first | have f2 : decide (65 ≤ bt a0 bK) = true := decide_eq_true (by omega) | have f2 : decide (65 ≤ bt a0 bK) = false := decide_eq_false (by omega))
       (first | have f3 : decide (bt a0 bK ≤ 90) = true := decide_eq_true (by omega) | have f3 : decide (bt a0 bK ≤ 90) = false := decide_eq_false (by omega))
       (first | have f4 : decide (48 ≤ bt a0 bK) = true := decide_eq_true (by omega) | have f4 : decide (48 ≤ bt a0 bK) = false := decide_eq_false (by omega))
       (first | have f5 : decide (bt a0 bK ≤ 57) = true := decide_eq_true (by omega) | have f5 : decide (bt a0 bK ≤ 57) = false := decide_eq_false (by omega))
       (first | have g0 : (bt a0 bK == 46) = true := beq_iff_eq.mpr (by omega) | have g0 : (bt a0 bK == 46) = false := beq_eq_false_iff_ne.mpr (by omega))
       (first | have g1 : (bt a0 bK == 45) = true := beq_iff_eq.mpr (by omega) | have g1 : (bt a0 bK == 45) = false := beq_eq_false_iff_ne.mpr (by omega))
       (first | have g2 : (bt a0 bK == 95) = true := beq_iff_eq.mpr (by omega) | have g2 : (bt a0 bK == 95) = false := beq_eq_false_iff_ne.mpr (by omega))
       clear hw
       go_wp2
       go_ret
       exact ⟨rf, dl⟩
    ·have H := HA.out
     rw [al.l0, if_pos c2, if_neg c3] at H
     exact absurd H (by simp)
   ·have H := HA.out
    rw [al.l0, if_neg c2] at H
    have ig := decide_eq_false c2
    clear c2
    by_cases IU : (a0.size : Int) ≥ 1
    ·rw [if_pos IU] at H
     have XF := decide_eq_true IU
     have XE : decide (1 ≤ a0.size) = true := decide_eq_true (by omega)
     clear IU
     obtain rfl := Option.some.inj H
     go_wp2
     go_ret
     exact ⟨rf, dl⟩
    ·rw [if_neg IU] at H
     have XF := decide_eq_false IU
     have XE : decide (1 ≤ a0.size) = false := decide_eq_false (by omega)
     clear IU
     obtain rfl := Option.some.inj H
     go_wp2
     go_ret
     exact ⟨rf, dl⟩
end
section
def ll (c : Int) : Bool := (decide (97 ≤ c) && decide (c ≤ 122)) || (decide (65 ≤ c) && decide (c ≤ 90)) || (decide (48 ≤ c) && decide (c ≤ 57)) || decide (c = 46) || decide (c = 45) || decide (c = 95)
def kB (s : ByteArray) (i : Nat) : Bool := (s.data.toList.drop i).all fun b => ll (b.toNat : Int)
def bU (s : ByteArray) : Bool := kB s 0 && decide (0 < s.size) && decide (s.size ≤ 64)
theorem TJ (c : Int) (k : Nat) (hk : 2 < k) : cN.f k c = some (ll c) := by
 obtain ⟨k, rfl⟩ : ∃ m, k = m + 1 + 1 := ⟨k - 2, by omega⟩
 unfold cN.f ll
 simp only [cN.j0, cN.j1]
 repeat' split
 all_goals first | (simp_all; done) | (simp_all; omega) | (exfalso; simp_all; omega)
theorem Ad (c : Int) (w : World) : Calls Tryz.prog 116 #[.int .i32 c] w fun e w' => e = .returned (.bool (ll c)) ∧ Drawn0 w w' :=
 cN.calls 3 c _ w (TJ c 3 (by omega))
theorem yG (s : ByteArray) (i : Nat) (h : i < s.size) : bt s (i : Int) = (s[i].toNat : Int) := by simp [bt, h]
theorem ui (s : ByteArray) (i : Nat) (h : i < s.size) : kB s i = (ll (bt s (i : Int)) && kB s (i + 1)) := by
 have h' : i < s.data.toList.length := by simpa using h
 unfold kB
 rw [List.drop_eq_getElem_cons h', List.all_cons, yG s i h]
 rfl
theorem zQ (s : ByteArray) (i : Nat) (h : s.size ≤ i) : kB s i = true := by
 unfold kB
 rw [List.drop_of_length_le (by simpa using h)]
 rfl
theorem toList_nil (s : ByteArray) : s.data.toList = [] ↔ s.size = 0 := by
 constructor
 ·intro h
  have := congrArg List.length h
  simpa using this
 ·intro h
  exact List.eq_nil_of_length_eq_zero (by simpa using h)
theorem NJ (k : Nat) (s : ByteArray) (i : Nat) (h : i < s.size) (hm : s.size ≤ 9223372036854775807) : al.l0 (k + 1) s (i : Int) = if ll (bt s (i : Int)) then al.l0 k s ((i + 1 : Nat) : Int) else some false := by
 simp only [al.l0]
 rw [if_pos (show (i : Int) < (s.size : Int) by omega), if_pos (show (0 : Int) ≤ (i : Int) by omega), show wrap64 ((i : Int) + 1) = ((i + 1 : Nat) : Int) by unfold wrap64; omega]
 generalize al.l0 k s ((i + 1 : Nat) : Int) = A
 generalize bt s (i : Int) = c
 unfold ll
 repeat' split
 all_goals first | rfl | (exfalso; simp_all; omega) | (simp_all; done) | (simp_all; omega)
theorem Tx (s : ByteArray) (hm : s.size ≤ 9223372036854775807) : ∀ (d k i : Nat), i + d = s.size → d < k → al.l0 k s (i : Int) = some (kB s i && decide (0 < s.size) && decide (s.size ≤ 64)) := by
 intro d
 induction d with
 | zero =>
  intro k i hi hk
  obtain ⟨k, rfl⟩ : ∃ m, k = m + 1 := ⟨k - 1, by omega⟩
  simp only [al.l0]
  rw [if_neg (by omega), zQ s i (by omega)]
  by_cases h1 : 0 < s.size
  ·rw [if_pos (by omega)]
   simp [h1]
   omega
  ·rw [if_neg (by omega)]
   simp [h1]
 | succ d ih =>
  intro k i hi hk
  obtain ⟨k, rfl⟩ : ∃ m, k = m + 1 := ⟨k - 1, by omega⟩
  rw [NJ k s i (by omega) hm, ui s i (by omega)]
  by_cases h : ll (bt s (i : Int)) = true
  ·rw [if_pos h, ih k (i + 1) (by omega) (by omega), h, Bool.true_and]
  ·have h' : ll (bt s (i : Int)) = false := by simpa using h
   rw [if_neg h, h']
   simp
theorem sN (s : ByteArray) (hm : s.size ≤ 9223372036854775807) (k : Nat) (hk : s.size < k) : al.f k s = some (bU s) := Tx s hm s.size k 0 (by omega) hk
theorem xE (w : World) (s : ByteArray) (p n : Nat) : ((w.iter s p).drewN n).iterPos w.heap.size = p := World.iterPos_iter (w.drewN n) s p
theorem sP {w : World} {s : ByteArray} {p : Nat} (h : Below w.heap.size w w) : Below w.heap.size w (w.iter s p) := cO h _
theorem zx (c : Int) (h : 128 ≤ c) : ll c = false := by
 unfold ll
 simp
 omega
theorem zv (s : ByteArray) : s.toList = [] ↔ s.size = 0 := by rw [ByteArray.toList_eq]; exact toList_nil s
set_option maxHeartbeats 2000000 in
set_option maxRecDepth 100000 in
theorem Lq (s : ByteArray) (w : World) : Calls Tryz.prog 92 #[.string s] w fun e w' => e = .returned (.bool (bU s)) ∧ Below w.heap.size w w' := by
 go_enter Tryz.func92, Tryz.ntmps92
 go_wp2
 go_loopw [4] (fun c W => ∃ pos nd : Nat, W = (w.iter s pos).drewN nd ∧ pos ≤ s.size ∧ Aside0 (kB s 0 = kB s pos)) (fun _ W => s.size - W.iterPos w.heap.size)
 case atStart => exact ⟨0, 0, rfl, by omega, ⟨rfl⟩⟩
 case round =>
  obtain ⟨pos, nd, rfl, hpos, HA⟩ := hrel
  by_cases hp : pos < s.size
  ·have hnx : ∀ ty, (Instr.next (.pointer (some ⟨w.heap.size, 0, none⟩)) true ty).run Tryz.prog ((w.iter s pos).drewN nd) = .ok (.tuple #[.bool true, .int .i64 pos, .int .i32 (Utf8.decode s pos).1]) ((w.iter s (pos + (Utf8.decode s pos).2)).drewN nd) := fun ty => run_next_any (w.drewN nd) s pos ty hp
   by_cases ha : (s[pos]'(hp)).toNat < 128
   ·have hd := decode_ascii s pos hp ha
    rw [hd] at hnx
    have hbt := yG s pos hp
    have hst := ui s pos hp
    cases hok : ll (bt s (pos : Int)) with
    | true =>
     have iJ := ak (show kB s 0 = kB s (pos + 1) by rw [HA.out, hst, hok, Bool.true_and])
     rw [hbt] at hok
     have HOK := ak hok
     clear hok hst hbt hd ha
     go_wp2_with (go_at_call 116; refine (Ad _ _).mono ?_; rintro e w' ⟨rfl, ⟨E8, rfl⟩⟩; rw [HOK.out])
     go_roundw
     case rel => exact ⟨pos + 1, nd + E8, rfl, by omega, iJ⟩
     case measure => rw [xE, xE]; omega
    | false =>
     have HF := ak (show bU s = false by unfold bU; rw [HA.out, hst, hok]; rfl)
     rw [hbt] at hok
     have HOK := ak hok
     clear hok hst hbt hd ha
     go_wp2_with (go_at_call 116; refine (Ad _ _).mono ?_; rintro e w' ⟨rfl, ⟨E8, rfl⟩⟩; rw [HOK.out])
     go_ret
     exact ⟨by rw [HF.out]; rfl, by repeat (first | exact Below.refl _ _ | apply bh | apply sP)⟩
   ·have hd := decode_high s pos hp (by omega)
    have hst := ui s pos hp
    have hok : ll (bt s (pos : Int)) = false := zx _ (by rw [yG s pos hp]; omega)
    have HF := ak (show bU s = false by unfold bU; rw [HA.out, hst, hok]; rfl)
    have HOK := ak (zx ((Utf8.decode s pos).1 : Int) (by omega))
    generalize Utf8.decode s pos = D at hnx HOK
    clear hok hst hd ha
    go_wp2_with (go_at_call 116; refine (Ad _ _).mono ?_; rintro e w' ⟨rfl, ⟨E8, rfl⟩⟩; rw [HOK.out])
    go_ret
    exact ⟨by rw [HF.out]; rfl, by repeat (first | exact Below.refl _ _ | apply bh | apply sP)⟩
  ·have hnx : ∀ ty, (Instr.next (.pointer (some ⟨w.heap.size, 0, none⟩)) true ty).run Tryz.prog ((w.iter s pos).drewN nd) = .ok (.tuple #[.bool false]) ((w.iter s pos).drewN nd) := fun ty => run_next_end (w.drewN nd) s pos ty hp
   have hall : kB s 0 = true := by rw [HA.out, zQ s pos (by omega)]
   by_cases h0 : s.size = 0
   ·have hn : s.toList = [] := (zv s).2 h0
    have tU : (!s.toList.isEmpty) = false := by rw [hn]; rfl
    have HF := ak (show bU s = false by unfold bU; rw [h0]; simp)
    clear h0 hall HA hpos hp
    go_wp2
    go_ret
    exact ⟨by rw [HF.out]; rfl, by repeat (first | exact Below.refl _ _ | apply bh | apply sP)⟩
   ·have hn : ¬ s.toList = [] := fun h => h0 ((zv s).1 h)
    have tU : (!s.toList.isEmpty) = true := by cases hh : s.toList <;> simp_all
    have HF := ak (show bU s = decide ((s.size : Int) ≤ 64) by
     unfold bU
     rw [hall, decide_eq_true (show 0 < s.size by omega)]
     simp only [Bool.true_and]
     exact decide_eq_decide.2 (by omega))
    clear h0 hall HA hpos hp
    go_wp2
    go_ret
    exact ⟨by rw [HF.out]; rfl, by repeat (first | exact Below.refl _ _ | apply bh | apply sP)⟩
def bP.f (a0 : ByteArray) : Option Bool := some (bU a0)
theorem bP.calls (a0 : ByteArray) (r : Bool) (w : World) (h : bP.f a0 = some r) : Calls Tryz.prog 92 #[.string a0] w fun e w' => e = .returned (.bool r) ∧ Below w.heap.size w w' := by
 obtain rfl := Option.some.inj h
 exact Lq a0 w
end
section
attribute [local go_sem] bq bn bI bH aW aV bp bj
def sh.f (aI : ByteArray) (ax : ByteArray) : Option (Bool) := (bP.f aI).bind fun sS => (if sS = true then ((bP.f ax).bind fun mB => (some mB)) else (some false))
set_option maxHeartbeats 8000000 in
set_option maxRecDepth 100000 in
theorem sh.calls (aI : ByteArray) (ax : ByteArray) (r : Bool) (w : World) (h : sh.f aI ax = some r) :
  Calls Tryz.prog 119 #[.agg #[.string aI, .string ax]] w fun e w' => e = .returned (.bool r) ∧ Below w.heap.size w w' := by
 have aR0 := Tryz.underlying81
 have HB := ak (Below.refl w.heap.size w)
 have H : ((bP.f aI).bind fun sS => (if sS = true then ((bP.f ax).bind fun mB => (some mB)) else (some false))) = some r := h
 clear h
 replace H := Option.bind_eq_some_iff.mp H
 obtain ⟨sS, eS, H⟩ := H
 replace H : (if sS = true then ((bP.f ax).bind fun mB => (some mB)) else (some false)) = some r := H
 have A2 := ak eS
 clear eS
 by_cases c3 : sS = true
 ·subst c3
  replace H : ((bP.f ax).bind fun mB => (some mB)) = some r := by rw [if_pos rfl] at H; exact H
  replace H := Option.bind_eq_some_iff.mp H
  obtain ⟨mB, so, H⟩ := H
  replace H : (some mB) = some r := H
  have A4 := ak so
  clear so
  obtain rfl := Option.some.inj H
  go_enter Tryz.func119, Tryz.ntmps119
  go_wp2_with (first | ((with_reducible refine af (N := 1) rfl ?_); refine bE (N := 1) (cs := #[.string aI, .string ax]) (t := 81) ?_; intro uc hg w5 hbox hb; have fk := ak (hbox); have Ph := ak (gl hg : w.heap.size ≤ uc); have Pm := ak (gl hg : w.heap.size ≤ uc); replace HB := bs hb; clear hb hbox hg; have yu := cf fk 0; have yt := cf fk 1; have yr := J fk.out 0; have yq := J fk.out 1) | ((with_reducible refine au (f := 92) rfl ?_); refine gC (some 5) Tryz.func92 #[.string aI] ?_; (with_reducible refine (bP.calls aI true _ A2.out).mono ?_); rintro e w7 ⟨rfl, hb⟩; refine ⟨_, rfl, ?_⟩; replace fk := bm fk hb; replace HB := bs hb; (try clear hb); (try clear aU); (try clear hk); (try clear hi); have qq := cf fk 0; have qp := cf fk 1; have qo := J fk.out 0; have qn := J fk.out 1) | (go_at_call 92; (with_reducible refine (bP.calls ax mB _ A4.out).mono ?_); rintro e w9 ⟨rfl, hb⟩; replace fk := bm fk hb; replace HB := bs hb; (try clear hb); (try clear aU); (try clear hk); (try clear hi)))
  go_ret
  exact ⟨rg, bl⟩
 ·replace c3 := Bool.eq_false_iff.mpr c3
  subst c3
  replace H : (some false) = some r := by rw [if_neg (show ¬ (false = true) by decide)] at H; exact H
  obtain rfl := Option.some.inj H
  go_enter Tryz.func119, Tryz.ntmps119
  go_wp2_with (first | ((with_reducible refine af (N := 1) rfl ?_); refine bE (N := 1) (cs := #[.string aI, .string ax]) (t := 81) ?_; intro uc hg uB hbox hb; have fk := ak (hbox); have Ph := ak (gl hg : w.heap.size ≤ uc); have Pm := ak (gl hg : w.heap.size ≤ uc); replace HB := bs hb; clear hb hbox hg; have py := cf fk 0; have px := cf fk 1; have pw := J fk.out 0; have pt := J fk.out 1) | ((with_reducible refine au (f := 92) rfl ?_); refine gC (some 5) Tryz.func92 #[.string aI] ?_; (with_reducible refine (bP.calls aI false _ A2.out).mono ?_); rintro e KR ⟨rfl, hb⟩; refine ⟨_, rfl, ?_⟩; replace fk := bm fk hb; replace HB := bs hb; (try clear hb); (try clear aU); (try clear hk); (try clear hi)))
  go_ret
  exact ⟨rg, bl⟩
end
section
def iD (a : At) : Bool := bU a.f0 && bU a.f1
theorem U6 (a : At) : sh.f a.f0 a.f1 = some (iD a) := by
 unfold sh.f bP.f iD
 cases h : bU a.f0 <;> simp
theorem Ax (a : At) (w : World) : Calls Tryz.prog 119 #[kM a] w fun e w' => e = .returned (.bool (iD a)) ∧ Below w.heap.size w w' := sh.calls a.f0 a.f1 _ w (U6 a)
def nI (l : List At) (j : Nat) : At := mf l (j : Int)
def jG (l : List Int) : Nat := zz (l.map fun s => s - 1)
def lH (b : Bk) : Bool := (b.slots.all fun s => decide (s ≤ (b.attrs.length : Int))) && ((List.range b.attrs.length).all (fun j => iD (nI b.attrs j) && !((b.attrs.take j).any (sameAt (nI b.attrs j)))) && decide ((iG (jG b.slots)).length = b.attrs.length))
def kH (l : List At) : List (At × Int) := l.map fun a => (a, 1)
theorem EE (l : List At) (a : At) : numOf (kH l) a = if l.any (sameAt a) = true then 1 else 0 := by
 unfold numOf kH
 induction l with
 | nil => rfl
 | cons x l ih =>
  rw [List.map_cons, List.find?_cons, List.any_cons]
  cases h : sameAt a x with
  | true => simp
  | false => simpa using ih
theorem Nq (l : List At) (a : At) (h : l.any (sameAt a) = false) (v : Int) : putAt (kH l) a v = kH l ++ [(a, v)] := by
 have : idxOf (kH l) a = none := by
  unfold idxOf kH
  simpa using h
 unfold putAt
 rw [this]
theorem G5 (l : List At) : (kH l).length = l.length := by simp [kH]
theorem Sw (l : List At) (j : Nat) (h : j < l.length) : nI l j = l[j] := by simp [nI, mf, List.getD, h]
theorem Hv (l : List At) (j : Nat) (h : j < l.length) : l.take (j + 1) = l.take j ++ [nI l j] := by
 rw [List.take_add_one, List.getElem?_eq_getElem h, Sw l j h]
 rfl
def pI.T13 : Bool × List (List Nat × List Nat) := (true, [([], []), ([], []), ([0, 1], [0, 1]), ([2], [2]), ([0, 1, 0, 1], [0, 1]), ([4], [4]), ([0, 5, 3, 4, 0, 1, 2, 3, 4, 5], [0, 3, 5])])
def pI.B13 : List Nat := [0, 0, 3, 7, 3, 19, 63]
theorem pI.tab13 : dA .any (opsOf Tryz.f108 13) = pI.T13 := by kernel_rfl
theorem pI.bits13 : dy pI.T13.2 pI.B13 = true := by kernel_rfl
def pH.T17 : Bool × List (List Nat × List Nat) := (true, [([], []), ([0], [0]), ([], []), ([2], [2]), ([3], [3]), ([1, 4], [1, 4]), ([5, 1, 0, 1, 2, 3, 4, 5], [5])])
def pH.B17 : List Nat := [0, 1, 0, 4, 12, 31, 63]
theorem pH.tab17 : dA .any (opsOf Tryz.f108 17) = pH.T17 := by kernel_rfl
theorem pH.bits17 : dy pH.T17.2 pH.B17 = true := by kernel_rfl
set_option maxHeartbeats 4000000 in
set_option maxRecDepth 100000 in
theorem DR (b : Bk) (hs : dC b.slots) (hn : b.attrs.length ≤ 64) (v : Value) (w : World) (h : sm w v b) :
  Calls Tryz.prog 108 #[v] w fun e w' => e = .returned (.bool (lH b)) ∧ Below w.heap.size w w' := by
 obtain ⟨A, c, A', c', rfl, hr⟩ := h
 have hl := hr.l64
 have HR := ak hr
 have HS := ak hs
 have HL := ak hl
 have hmm := @run_makeMap Tryz.prog
 have hlen : (Tryz.prog.info? 60).map (·.size) = some (b.slots.map (Value.int .u8)).length := by rw [List.length_map, hl]; kernel_rfl
 have HLN := ak hlen
 clear hr hs hl hlen
 go_enter Tryz.func108, Tryz.ntmps108
 go_wp2_with (first
  | (refine cH rfl 64 (.tmp 0) rfl _ rfl ?_; intro g W1 hg hbx aw; have HX := ak hbx; have HB := ak aw; have HG := ak hg; have HRR := ak (HR.out.below aw); have FR := hbx.cell 67 _ (si _ _ _ _ _ HL.out); clear hbx aw hg HR)
  | (refine kv rfl 60 (.tmp 10) rfl g 2 rfl 64 _ (b.slots.map (Value.int .u8)) (.array 64 5) (HX.out.alloc _) (Ay _ _ _ _ _ HL.out) Tryz.underlying60 rfl HLN.out ?_))
 have HM := ak (show nQ (W1.alloc (.map #[] 0)) W1.heap.size [] from heap_alloc_new W1 _)
 have iO := ak (HX.out.alloc (.map #[] 0))
 have BX := ak (cO (Below.refl W1.heap.size W1) (.map #[] 0))
 have HLT := ak HX.out.lt
 have fR := ak (show w.heap.size ≤ W1.heap.size from HB.out.size)
 have eM := HX
 have bR := HB
 have ke := HRR
 have HGM := ak (Eq.refl W1.heap.size)
 clear HX HB HRR FR hmm
 generalize W1.alloc (Obj.map #[] 0) = W2 at HM iO BX ⊢
 generalize hgm : W1.heap.size = gm at HM fR HLT BX HGM ⊢
 have HGE := ak hgm
 clear hgm HGM
 have FR := iO.out.cell 67 _ (si _ _ _ _ _ HL.out)
 go_loopw [4, 6, 12] (fun s _ i W => ∃ k nd : Nat, k ≤ 64 ∧ W = W2.drewN nd ∧ i = .int .i64 k ∧ s = .int .u64 ((jG (b.slots.take k) : Nat) : Int) ∧ Aside0 (∀ j, j < k → rd b.slots (j : Int) ≤ (b.attrs.length : Int))) (fun _ _ i _ => 64 - (intOf i).toNat)
 case atStart => exact ⟨0, 0, by omega, rfl, rfl, rfl, ⟨fun j hj => by omega⟩⟩
 case round =>
  obtain ⟨k, nd, hk, rfl, rfl, rfl, HJ⟩ := hrel
  by_cases Ug : k < 64
  ·have hkb : decide ((k : Int) < 64) = true := by simp; omega
   have hkl : k < b.slots.length := by have := HL.out; omega
   obtain ⟨m, hm⟩ : ∃ m : Nat, rd b.slots k = (m : Int) := ⟨(rd b.slots k).toNat, by have := (iA HS.out k).1; omega⟩
   have Fz : m < 256 := by have := (iA HS.out k).2; omega
   have hix := fun w => Cg b.slots HL.out k Ug w
   have xI : b.slots.getD k 0 = (m : Int) := by rw [← hm]; simp [rd]
   rw [xI] at hix
   by_cases hbig : m ≤ b.attrs.length
   ·have hgb : decide (b.attrs.length < m) = false := by simp; omega
    have HU := ak (show oI (jG (b.slots.take k)) ((m : Int) - 1) = jG (b.slots.take (k + 1)) by
     unfold jG zz
     rw [List.take_add_one, List.map_append, List.foldl_append, List.getElem?_eq_getElem hkl]
     have : b.slots[k] = (m : Int) := by rw [← xI]; simp [List.getD, List.getElem?_eq_getElem hkl]
     rw [this]
     rfl)
    have um := ak (show ∀ j, j < k + 1 → rd b.slots (j : Int) ≤ (b.attrs.length : Int) from fun j hj => by
     by_cases h : j < k
     ·exact HJ.out j h
     ·obtain rfl : j = k := by omega
      rw [hm]
      omega)
    clear hm xI
    go_wp2_with (go_at_call 118; refine (Eu (jG (b.slots.take k)) (wb _) _ _).mono ?_; rintro e w' ⟨rfl, ⟨TK, rfl⟩⟩; rw [HU.out])
    go_roundw
    case rel => exact ⟨k + 1, nd + TK, by omega, by simp, by go_num, rfl, um⟩
    case measure => simp [intOf]; omega
   ·have hgb : decide (b.attrs.length < m) = true := by simp; omega
    have HV := ak (show lH b = false by
     unfold lH
     rw [Bool.and_eq_false_iff]
     left
     rw [List.all_eq_false]
     refine ⟨b.slots[k], List.getElem_mem _, ?_⟩
     have : b.slots[k] = (m : Int) := by rw [← xI]; simp [List.getD, List.getElem?_eq_getElem hkl]
     rw [this]
     simp
     omega)
    clear hm xI
    go_wp2
    go_ret
    exact ⟨by rw [HV.out]; rfl, by apply bh; exact bR.out.trans (BX.out.mono fR.out)⟩
  ·obtain rfl : k = 64 := by omega
   rw [show ((64 : Nat) : Int) = (64 : Int) from rfl]
   have hkb : decide ((64 : Int) < 64) = false := by decide
   have HT := ak (show b.slots.take 64 = b.slots from List.take_of_length_le (by have := HL.out; omega))
   have HA := ak (show (b.slots.all fun s => decide (s ≤ (b.attrs.length : Int))) = true by
    rw [List.all_eq_true]
    intro s hs
    obtain ⟨j, hj, rfl⟩ := List.getElem_of_mem hs
    have := HJ.out j (by have := HL.out; omega)
    simpa [rd, List.getD, hj] using this)
   go_wp2_with fail
   go_loopw [8, 30] (fun _ i W => ∃ k : Nat, k ≤ b.attrs.length ∧ i = .int .i64 k ∧ Aside0 (nQ W gm (kH (b.attrs.take k))) ∧ Aside0 (Below gm W1 W) ∧ Aside0 (∀ j, j < k → iD (nI b.attrs j) = true ∧ (b.attrs.take j).any (sameAt (nI b.attrs j)) = false)) (fun _ i _ => b.attrs.length - (intOf i).toNat)
   case atStart => exact ⟨0, by omega, rfl, HM, ⟨by apply bh; exact BX.out⟩, ⟨fun j hj => by omega⟩⟩
   case round =>
    clear HM iO FR HJ BX
    obtain ⟨k, hk, rfl, HM, HZ, HJ⟩ := hrel
    obtain ⟨W, rfl⟩ : ∃ W : World, W = wr := ⟨_, rfl⟩
    have HR := ak (ke.out.below (by rw [HGE.out]; exact HZ.out))
    by_cases hkn : k < b.attrs.length
    ·have hkb : decide ((k : Int) < (b.attrs.length : Int)) = true := by simp; omega
     obtain ⟨ad, eA, j7, eD⟩ := MV HR.out.ar k (by omega) (by omega)
     cases eA
     rw [Int.toNat_natCast] at j7 eD
     have p1 : ((k : Int) < (b.attrs.length : Int)) = True := eq_true (by omega)
     obtain ⟨a, ha⟩ : ∃ a : At, nI b.attrs k = a := ⟨_, rfl⟩
     have ha' : mf b.attrs (k : Int) = a := ha
     rw [ha'] at j7 eD
     have gj := ak ha
     have HK := ak (show (kH (b.attrs.take (k + 1))) = kH (b.attrs.take k) ++ [(a, 1)] by
      unfold kH
      rw [Hv _ _ hkn, ha]
      simp)
     have hbad : (iD a = false ∨ (b.attrs.take k).any (sameAt a) = true) → lH b = false := fun h => by
      unfold lH
      rw [HA.out, Bool.true_and, Bool.and_eq_false_iff]
      left
      rw [List.all_eq_false]
      refine ⟨k, by simpa using hkn, ?_⟩
      rw [ha]
      rcases h with h | h <;> rw [h] <;> simp
     have HBAD := ak hbad
     have um := ak (show iD a = true → (b.attrs.take k).any (sameAt a) = false → ∀ j, j < k + 1 → iD (nI b.attrs j) = true ∧ (b.attrs.take j).any (sameAt (nI b.attrs j)) = false from fun h1 h2 j hj => by
      by_cases hjk : j < k
      ·exact HJ.out j hjk
      ·obtain rfl : j = k := by omega
       rw [ha]
       exact ⟨h1, h2⟩)
     clear ha ha' hbad
     go_wp2_with (first
      | (refine aE (some 8) rfl rfl 81 rfl [.string ⟨#[]⟩, .string ⟨#[]⟩] (fun _ => by kernel_rfl) ?_; intro ga W3 hga ep tZ)
      | (refine ay rfl 81 (.tmp 8) (.tmp 33) rfl ga [.string a.f0, .string a.f1] rfl rfl 81 _ ep 2 (by kernel_rfl) rfl rfl (by intro u hu; simp at hu; rcases hu with rfl | rfl <;> rfl) ?_; intro W4 iQ yp))
     have pO := ak iQ
     have Zx := ep.lt
     have hbW : Below W.heap.size W W4 := tZ.grown yp tZ.size (fun q hq => by cases hq; exact hga)
     have GH := ak (show nQ W4 gm (kH (b.attrs.take k)) from (hbW.block gm (Array.getElem?_eq_some_iff.1 HM.out).1).trans HM.out)
     have HGW := ak (show gm ≤ W.heap.size from by have := (Array.getElem?_eq_some_iff.1 HM.out).1; omega)
     have DV := ak (HZ.out.trans (hbW.mono HGW.out))
     have HGA := ak (show gm ≠ ga by have := (Array.getElem?_eq_some_iff.1 HM.out).1; omega)
     have HLK := ak (show (kH (b.attrs.take k)).length < 1000 by rw [G5, List.length_take]; omega)
     have HGS := ak (show gm ≤ W4.heap.size from Nat.le_trans HGW.out hbW.size)
     clear HM HR HZ ep iQ hga tZ yp hbW Zx j7 eD
     obtain ⟨n, tV⟩ : ∃ n : Nat, numOf (kH (b.attrs.take k)) a = (n : Int) := by
      rw [EE]
      split
      ·exact ⟨1, rfl⟩
      ·exact ⟨0, rfl⟩
     have VY := ak tV
     have pL := ak (show (n = 1 ∧ (b.attrs.take k).any (sameAt a) = true) ∨ (n = 0 ∧ (b.attrs.take k).any (sameAt a) = false) by
      rw [EE] at tV
      split at tV
      ·rename_i h; exact .inl ⟨by omega, h⟩
      ·rename_i h; exact .inr ⟨by omega, by simpa using h⟩)
     clear tV
     refine dV (n := 7) (S := fun w' => w'.cell? ⟨ga, 0, none⟩ = some (.string a.f0) ∧ w'.cell? ⟨ga, 1, none⟩ = some (.string a.f1) ∧ ∃ L1, nQ w' gm L1 ∧ numOf L1 a = (n : Int)) (ds := [6]) #[false, false, false, false, false, false, false] (by kernel_rfl) rfl rfl ⟨pO.out.cell 0 _ rfl, pO.out.cell 1 _ rfl, _, GH.out, VY.out⟩ (fun hHeld => ?_); refine cz pI.tab13 pI.bits13 (fun aa bV => ?_)
     refine pu 0 aa.out ?_
     refine tk 1 aa.out bV.out hHeld ?_ (hv := by intro w' bx; obtain ⟨s0, s1, s2⟩ := bx; go_simp; with_reducible rfl)
     refine tk 2 aa.out bV.out hHeld ?_ (hv := by intro w' bx; obtain ⟨s0, s1, L1, s2, s3⟩ := bx; have hlk := Ae _ _ _ s2 a; rw [s3] at hlk; simp only [kM] at hlk; go_simp; with_reducible rfl)
     refine pu 3 aa.out ?_
     refine on 4 aa.out (fun K hK => ?_)
     obtain ⟨W6, W7, jj, DH, BE, Uq, Yt, dq, IA⟩ := MC W4.drew gm _ GH.out HLK.out a (wrap64 ((n : Int) + 1)); rw [VY.out] at DH; simp only [kM] at DH
     refine eJ (v := .tuple #[.int .i64 (n : Int), .int .i64 jj]) (w1 := W6) (by rfl) ?_ ?_
     ·go_simp
      try rfl
     refine kn hK ⟨(IA _ HGA.out.symm).trans (pO.out.cell 0 _ rfl), (IA _ HGA.out.symm).trans (pO.out.cell 1 _ rfl), by obtain ⟨L1, h1, h2⟩ := BE; exact ⟨L1, h1, h2.trans VY.out⟩⟩ (fun hHeld => ?_)
     clear hK K
     refine pu 5 aa.out ?_
     refine y8 (i := 6) (N := none) #[true, true, true, true, true, true, true] rfl rfl (rA aa.out (by kernel_rfl)) (by decide) (fun K hK => ?_)
     refine uG (w1 := ?_) (by rfl) rfl ?_ ?_
     rotate_left
     ·go_simp
      rfl
     refine hK.out _ _ ?_
     clear hK K
     refine dn aa.out ?_
     have wW := ak (show bC W7 ga [.string a.f0, .string a.f1] 81 from (show bC W4.drew ga _ _ from pO.out).grown dq (fun e => HGA.out (Option.some.inj e).symm))
     have Je := ak Yt
     have zR := ak ((show Below gm W1 W4.drew from bu DV.out).grown dq HGS.out (fun q hq => by cases hq; exact Nat.le_refl _))
     have iP := ak (show gm ≤ W7.heap.size from Nat.le_trans HGS.out dq.size)
     clear Yt dq IA DH Uq BE pO GH DV hHeld
     have iM := wW.out.cell 0 _ rfl
     have lu := wW.out.cell 1 _ rfl
     cases hmy : iD a with
     | false =>
      have HV := ak (HBAD.out (.inl hmy))
      have HMY := ak hmy
      clear hmy
      go_wp2_with (go_at_call 119; refine (Ax a _).mono ?_; rintro e W8 ⟨rfl, fU⟩; rw [HMY.out])
      go_ret
      exact ⟨by rw [HV.out]; rfl, bR.out.trans ((zR.out.trans (fU.mono iP.out)).mono fR.out)⟩
     | true =>
      have HMY := ak hmy
      clear hmy
      rcases pL.out with ⟨kk, rV⟩ | ⟨kk, rV⟩
      ·have HV := ak (HBAD.out (.inr rV))
       have pM := ak (show wrap64 ((n : Int) + 1) = 2 by rw [kk]; unfold wrap64; omega)
       clear kk rV
       go_wp2_with (first | (go_at_call 119; refine (Ax a _).mono ?_; rintro e W8 ⟨rfl, fU⟩; rw [HMY.out]; have sj := ak (zR.out.trans (fU.mono iP.out)); have Zm := (wW.out.below fU).cell 0 _ rfl; have Zl := (wW.out.below fU).cell 1 _ rfl; have GG := ak (show nQ W8 gm _ from (fU.block gm (Array.getElem?_eq_some_iff.1 Je.out).1).trans Je.out); have hlk := Ae _ _ _ GG.out a; rw [Dn, pM.out] at hlk; simp only [kM] at hlk; clear fU wW Je zR iM lu))
       go_ret
       exact ⟨by rw [HV.out]; rfl, bR.out.trans (sj.out.mono fR.out)⟩
      ·have pM := ak (show wrap64 ((n : Int) + 1) = 1 by rw [kk]; unfold wrap64; omega)
       have YY := ak (um.out HMY.out rV)
       have HPU := ak (show putAt (kH (b.attrs.take k)) a (wrap64 ((n : Int) + 1)) = kH (b.attrs.take (k + 1)) by rw [pM.out, Nq _ _ rV, HK.out])
       clear kk rV
       go_wp2_with (first | (go_at_call 119; refine (Ax a _).mono ?_; rintro e W8 ⟨rfl, fU⟩; rw [HMY.out]; have sj := ak (zR.out.trans (fU.mono iP.out)); have Zm := (wW.out.below fU).cell 0 _ rfl; have Zl := (wW.out.below fU).cell 1 _ rfl; have GG := ak (show nQ W8 gm _ from (fU.block gm (Array.getElem?_eq_some_iff.1 Je.out).1).trans Je.out); have hlk := Ae _ _ _ GG.out a; rw [Dn, pM.out] at hlk; simp only [kM] at hlk; clear fU wW Je zR iM lu))
       rw [HPU.out] at GG
       go_roundw
       case rel => exact ⟨k + 1, by omega, by go_num, GG, sj, YY⟩
       case measure => simp [intOf]; omega
    ·obtain rfl : k = b.attrs.length := by omega
     have hkb : decide ((b.attrs.length : Int) < (b.attrs.length : Int)) = false := by simp
     have HAA := ak (show (List.range b.attrs.length).all (fun j => iD (nI b.attrs j) && !((b.attrs.take j).any (sameAt (nI b.attrs j)))) = true by
      rw [List.all_eq_true]
      intro j hj
      obtain ⟨h1, h2⟩ := HJ.out j (by simpa using hj)
      rw [h1, h2]
      rfl)
     have HV := ak (show lH b = decide ((iG (jG b.slots)).length = b.attrs.length) by
      unfold lH
      rw [HA.out, HAA.out, Bool.true_and, Bool.true_and])
     have HXW := ak (eM.out.below (by rw [HGE.out]; exact HZ.out))
     have FR := HXW.out.cell 67 _ (si _ _ _ _ _ HL.out)
     rw [HT.out]
     go_wp2_with fail
     refine dV (n := 7) (S := fun w' => w'.cell? ⟨g, 67, none⟩ = some (Value.slice A' b.attrs.length c')) (ds := []) #[false, false, false, false, false, false, false] (by kernel_rfl) rfl rfl FR (fun hHeld => ?_); refine cz pH.tab17 pH.bits17 (fun aa bV => ?_)
     refine pu 0 aa.out ?_
     refine pu 2 aa.out ?_
     refine tk 3 aa.out bV.out hHeld ?_
     refine pu 4 aa.out ?_
     refine on 1 aa.out (fun K hK => ?_)
     refine gs Tryz.func120 #[.int .u64 ((jG b.slots : Nat) : Int)] (Q8 (jG b.slots) (wb _) _) ?_
     rintro e W9 ⟨rfl, ⟨nd9, rfl⟩⟩
     refine ⟨_, rfl, ?_⟩
     refine kn hK hHeld (fun hHeld => ?_)
     clear hK K
     refine pu 5 aa.out ?_
     refine pu 6 aa.out ?_
     refine dn aa.out ?_
     try go_wp2
     go_ret
     refine ⟨?_, by apply bh; exact gM (bR.out.trans (HZ.out.mono fR.out))⟩
     rw [HV.out]
     show Ending.returned (Value.bool ((((iG (jG b.slots)).length : Nat) : Int) == ((b.attrs.length : Nat) : Int))) = _
     congr 2
     rw [Bool.eq_iff_iff, beq_iff_eq, decide_eq_true_eq]
     exact Int.ofNat_inj
end
section
attribute [local go_sem] bq bn bI bH aW aV bp bj
def gz.f (a0 : Int) : Option (Int) := some ((IntKind.u64.wrap (4294967296 - (IntKind.u64.wrap (2 ^ (32 - (mn (mx a0 0) 32)).toNat)))) % 4294967296)
set_option maxHeartbeats 8000000 in
set_option maxRecDepth 100000 in
theorem gz.calls (a0 : Int) (r : Int) (w : World) (h : gz.f a0 = some r) :
  Calls Tryz.prog 74 #[.int .i64 a0] w fun e w' => e = .returned (.int .u32 r) ∧ Below w.heap.size w w' := by
 have HB := ak (Below.refl w.heap.size w)
 have H : (some ((IntKind.u64.wrap (4294967296 - (IntKind.u64.wrap (2 ^ (32 - (mn (mx a0 0) 32)).toNat)))) % 4294967296)) = some r := h
 clear h
 obtain ⟨Fi, FB⟩ : ∃ j_ : Int, (mx a0 0) = j_ := ⟨_, rfl⟩
 replace H : (some ((IntKind.u64.wrap (4294967296 - (IntKind.u64.wrap (2 ^ (32 - (mn (Fi) 32)).toNat)))) % 4294967296)) = some r := by first | (rw [FB] at H; exact H) | (simp only [FB] at H ⊢; exact H)
 (try (have aL6 : 0 ≤ Fi := by (rw [← FB]; unfold mx; (repeat' split) <;> omega)))
 (try (have aL5 : 0 ≤ Fi := by omega))
 have aL7 : (if a0 < 0 then 0 else a0) = Fi := FB
 obtain ⟨Du, vB⟩ : ∃ j_ : Int, (mn (Fi) 32) = j_ := ⟨_, rfl⟩
 replace H : (some ((IntKind.u64.wrap (4294967296 - (IntKind.u64.wrap (2 ^ (32 - (Du)).toNat)))) % 4294967296)) = some r := by first | (rw [vB] at H; exact H) | (simp only [vB] at H ⊢; exact H)
 have PO : (if 32 < (Fi) then 32 else (Fi)) = Du := vB
 obtain rfl := Option.some.inj H
 go_enter Tryz.func74, Tryz.ntmps74
 go_wp2
 go_ret
 exact ⟨by first | rfl | (simp [db, da] <;> rfl) | (simp only [← FB, ← vB]; first | rfl | (simp [db, da] <;> rfl)) | (simp [*, db, da] <;> rfl), bl⟩
end
section
attribute [local go_sem] bq bn bI bH aW aV bp bj
def il.f (a0 : Int) : Option (Int) := (gz.f 26).bind fun sY => (some (Go.bits .and .u32 a0 sY))
set_option maxHeartbeats 8000000 in
set_option maxRecDepth 100000 in
theorem il.calls (a0 : Int) (r : Int) (w : World) (h : il.f a0 = some r) :
  Calls Tryz.prog 106 #[.int .u32 a0] w fun e w' => e = .returned (.int .u32 r) ∧ Below w.heap.size w w' := by
 have HB := ak (Below.refl w.heap.size w)
 have H : ((gz.f 26).bind fun sY => (some (Go.bits .and .u32 a0 sY))) = some r := h
 clear h
 replace H := Option.bind_eq_some_iff.mp H
 obtain ⟨sY, eS, H⟩ := H
 replace H : (some (Go.bits .and .u32 a0 sY)) = some r := H
 have A2 := ak eS
 clear eS
 obtain rfl := Option.some.inj H
 go_enter Tryz.func106, Tryz.ntmps106
 go_wp2_with (first | ((with_reducible refine au (f := 74) rfl ?_); refine gC (some 4) Tryz.func74 #[.int .i64 26] ?_; (with_reducible refine (gz.calls 26 sY _ A2.out).mono ?_); rintro e w3 ⟨rfl, hb⟩; refine ⟨_, rfl, ?_⟩; replace HB := bs hb; (try clear hb); (try clear aU); (try clear hk); (try clear hi)))
 go_ret
 exact ⟨rg, bl⟩
end
section
attribute [local go_sem] bq bn bI bH aW aV bp bj
def jM.f (a0 : ByteArray) : Option (Bool) := if a0.toList = ([] : List UInt8) then (some true) else ((bP.f a0).bind fun sX => (some sX))
set_option maxHeartbeats 8000000 in
set_option maxRecDepth 100000 in
theorem jM.calls (a0 : ByteArray) (r : Bool) (w : World) (h : jM.f a0 = some r) :
  Calls Tryz.prog 107 #[.string a0] w fun e w' => e = .returned (.bool r) ∧ Below w.heap.size w w' := by
 have HB := ak (Below.refl w.heap.size w)
 have H : (if a0.toList = ([] : List UInt8) then (some true) else ((bP.f a0).bind fun sX => (some sX))) = some r := h
 clear h
 by_cases c2 : a0.toList = ([] : List UInt8)
 ·rw [if_pos c2] at H
  have ig : (a0.toList == ([] : List UInt8)) = true := beq_iff_eq.mpr c2
  have yF : (a0.toList != ([] : List UInt8)) = false := bne_eq_false_iff_eq.mpr c2
  clear c2
  obtain rfl := Option.some.inj H
  go_enter Tryz.func107, Tryz.ntmps107
  go_wp2
  go_ret
  exact ⟨rg, bl⟩
 ·rw [if_neg c2] at H
  have ig : (a0.toList == ([] : List UInt8)) = false := beq_eq_false_iff_ne.mpr c2
  have yF : (a0.toList != ([] : List UInt8)) = true := bne_iff_ne.mpr c2
  replace H := Option.bind_eq_some_iff.mp H
  obtain ⟨sX, jO, H⟩ := H
  replace H : (some sX) = some r := H
  have A3 := ak jO
  clear jO
  obtain rfl := Option.some.inj H
  go_enter Tryz.func107, Tryz.ntmps107
  go_wp2_with (first | (go_at_call 92; (with_reducible refine (bP.calls a0 sX _ A3.out).mono ?_); rintro e w4 ⟨rfl, hb⟩; replace HB := bs hb; (try clear hb); (try clear aU); (try clear hk); (try clear hi)))
  go_ret
  exact ⟨rg, bl⟩
end
end Go.Proofs.YtndddnglapkplaaGreatDoor.V
