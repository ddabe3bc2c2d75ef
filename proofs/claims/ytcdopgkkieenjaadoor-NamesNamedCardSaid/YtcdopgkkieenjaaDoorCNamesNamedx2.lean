/- Texts of ours that the claims of this seat share, put together (part 3). No further condition. -/
import Derived.Shelf.Strings.Builder1
import Derived.Shelf.Strings.Builder2
import Derived.Shelf.Strings.OnBuilder
import Derived.Shelf.Small.Wraps
import Derived.Shelf.Utf8.RuneCount
import Derived.Shelf.Strings.Search1
import Derived.Shelf.Strings.Search2
import Derived.Shelf.Strings.Search3
import Derived.Shelf.Strings.Cut
import Derived.Shelf.Strings.Count
import Derived.Shelf.LaysM
import Derived.Shelf.Strings.Shaped
import Derived.Shelf.Strings.Prefix
import Derived.Shelf.Strings.Split
import Derived.Shelf.Strings.Replace
import Derived.Shelf.Strings.SplitShaped
import Derived.Shelf.Unicode.Decode
import Derived.Shelf.Strings.RuneCount
import Derived.Shelf.Strings.Explode
import Derived.Shelf.Unicode.DecodeSlow
import Derived.Shelf.Unicode.DecodeAny
import Derived.Test.YtcdopgkkieenjaaDoorProg
import Derived.Test.YtcdopgkkieenjaaDoorCNamesNamedx1
import Derived.Laws.StructEq
import Derived.Stop.BytesEq
import Derived.Laws.Tables
import Derived.Laws.Rows
import Derived.Laws.CopyOwn
import Derived.Lib.SplitLaws
import Derived.Outline
import Derived.Handy
-- Shelf
section
/-
  DERIVED: THE SHELF's CONTRACTS AT THIS DUMP, IN PLAIN WORDS (tools/lay-plain.mjs out of 'YtcdopgkkieenjaaDoorShelf.lean', which tools/lay-shelf.mjs wrote): THE SAME DECLARATIONS UNDER THE SAME NAMES: 'import', 'namespace', 'open', 'def', 'theorem' AND NOTHING ELSE: no command of the shelf's: FOR A HAND-IN. Each laying: the table of numbers ('.._ren') and one theorem, a field a fact of the dump's own or the kernel's comparison; each contract: ONE APPLICATION.
-/
namespace Go.Proofs
open Go.Shelf
def Tryd.lays169_ren : Go.Shelf.Ren := ⟨fun | 169 => 94 | n => n, fun | 70 => 103 | 9 => 9 | 0 => 0 | 72 => 105 | 37 => 102 | 127 => 114 | 3 => 3 | 5 => 5 | n => n, fun | n => n⟩
theorem Tryd.lays169 : Go.Proofs.Lays.n169 Tryd.prog Tryd.lays169_ren := {
  mixed := by kernel_rfl
  f169 := Tryd.func94.trans (congrArg some (by kernel_rfl))
  t0 := Tryd.underlying0
  a0 := Tryd.isAgg0
  z0 := Tryd.sizeOf0
  v0 := Tryd.zeroValue0
  t3 := Tryd.underlying3
  a3 := Tryd.isAgg3
  z3 := Tryd.sizeOf3
  v3 := Tryd.zeroValue3
  t9 := Tryd.underlying9
  a9 := Tryd.isAgg9
  z9 := Tryd.sizeOf9
  v9 := Tryd.zeroValue9
  t37 := Tryd.underlying102
  a37 := Tryd.isAgg102
  z37 := Tryd.sizeOf102
  v37 := Tryd.zeroValue102
  t70 := Tryd.underlying103
  a70 := Tryd.isAgg103
  z70 := Tryd.sizeOf103
  v70 := Tryd.zeroValue103
  t72 := Tryd.underlying105
  a72 := Tryd.isAgg105
  z72 := Tryd.sizeOf105
  v72 := Tryd.zeroValue105
  t127 := Tryd.underlying114
  a127 := Tryd.isAgg114
  z127 := Tryd.sizeOf114
  v127 := Tryd.zeroValue114 }
theorem Tryd.Builder_Extra_169 : Builder.Extra Tryd.prog Tryd.lays169_ren := {
  sizeBuilder := by kernel_rfl
  liesBuilder := by kernel_rfl
  t5 := Tryd.underlying5
  a5 := Tryd.isAgg5
  z5 := Tryd.sizeOf5
  v5 := Tryd.zeroValue5
  infoByte := by kernel_rfl
  cellsByte := by kernel_rfl
  sizeByte := by kernel_rfl
  neB5 := by decide }
open Go.RowKit in
/-- (*strings.Builder).String: "String returns the accumulated string.": WHATEVER THE BUILDER HOLDS. (LAID: no walk: one application.) -/
theorem Tryd.Builder_String_any (B b : Nat) (l : List UInt8) (w : World) (h : Lib.IsBuilder 105 5 B b (Lib.byteCells l) w) (hBw : B ≤ w.heap.size) :
    Calls Tryd.prog 94 #[.pointer (some ⟨b, 0, none⟩)] w fun e w' => e = .returned (.string ⟨l.toArray⟩) ∧ Below B w w' := Any.Builder_String_any Tryd.lays169 Tryd.Builder_Extra_169 B b l w h hBw
def Tryd.lays165_ren : Go.Shelf.Ren := ⟨fun | 165 => 92 | 240 => 99 | 241 => 100 | 276 => 107 | 277 => 108 | n => n, fun | 70 => 103 | 3 => 3 | 0 => 0 | 4 => 4 | 9 => 9 | 20 => 20 | 72 => 105 | 37 => 102 | 164 => 120 | 5 => 5 | n => n, fun | n => n⟩
theorem Tryd.lays165 : Go.Proofs.Lays.n165 Tryd.prog Tryd.lays165_ren := {
  mixed := by kernel_rfl
  f165 := Tryd.func92.trans (congrArg some (by kernel_rfl))
  f240 := Tryd.func99.trans (congrArg some (by kernel_rfl))
  f241 := Tryd.func100.trans (congrArg some (by kernel_rfl))
  f276 := Tryd.func107.trans (congrArg some (by kernel_rfl))
  f277 := Tryd.func108.trans (congrArg some (by kernel_rfl))
  t0 := Tryd.underlying0
  a0 := Tryd.isAgg0
  z0 := Tryd.sizeOf0
  v0 := Tryd.zeroValue0
  t3 := Tryd.underlying3
  a3 := Tryd.isAgg3
  z3 := Tryd.sizeOf3
  v3 := Tryd.zeroValue3
  t4 := Tryd.underlying4
  a4 := Tryd.isAgg4
  z4 := Tryd.sizeOf4
  v4 := Tryd.zeroValue4
  t9 := Tryd.underlying9
  a9 := Tryd.isAgg9
  z9 := Tryd.sizeOf9
  v9 := Tryd.zeroValue9
  t20 := Tryd.underlying20
  a20 := Tryd.isAgg20
  z20 := Tryd.sizeOf20
  v20 := Tryd.zeroValue20
  t37 := Tryd.underlying102
  a37 := Tryd.isAgg102
  z37 := Tryd.sizeOf102
  v37 := Tryd.zeroValue102
  t70 := Tryd.underlying103
  a70 := Tryd.isAgg103
  z70 := Tryd.sizeOf103
  v70 := Tryd.zeroValue103
  t72 := Tryd.underlying105
  a72 := Tryd.isAgg105
  z72 := Tryd.sizeOf105
  v72 := Tryd.zeroValue105
  t164 := Tryd.underlying120
  a164 := Tryd.isAgg120
  z164 := Tryd.sizeOf120
  v164 := Tryd.zeroValue120 }
theorem Tryd.Builder_Extra_165 : Builder.Extra Tryd.prog Tryd.lays165_ren := {
  sizeBuilder := by kernel_rfl
  liesBuilder := by kernel_rfl
  t5 := Tryd.underlying5
  a5 := Tryd.isAgg5
  z5 := Tryd.sizeOf5
  v5 := Tryd.zeroValue5
  infoByte := by kernel_rfl
  cellsByte := by kernel_rfl
  sizeByte := by kernel_rfl
  neB5 := by decide }
open Go.RowKit in
/-- (*strings.Builder).Grow AT A BUILDER THAT HAS NOT BEEN WRITTEN ('var b strings.Builder; b.Grow(n)'): "Grow grows b's capacity, if necessary, to guarantee space for another n bytes.": it holds no byte behind it as before it. (LAID: no walk: one application.) -/
theorem Tryd.Builder_Grow_fresh (B b n : Nat) (w : World) (hB : B ≤ b) (hbk : w.heap[b]? = some (.cells #[.pointer none, .slice none 0 0] 105 (0, 0))) (hBw : B ≤ w.heap.size) (hn : n ≤ 281474976710656) :
    Calls Tryd.prog 92 #[.pointer (some ⟨b, 0, none⟩), .int .i64 n] w fun e w' => e = .returned (.tuple #[]) ∧ (Lib.BuilderAt 105 5 B b (.pointer (some ⟨b, 0, none⟩)) [] w' ∧ Below B w w') := Any.Builder_Grow_fresh Tryd.lays165 Tryd.Builder_Extra_165 B b n w hB hbk hBw hn
def Tryd.lays156_ren : Go.Shelf.Ren := ⟨fun | 156 => 75 | 165 => 92 | 166 => 93 | 169 => 94 | 240 => 99 | 241 => 100 | 276 => 107 | 277 => 108 | n => n, fun | 31 => 84 | 9 => 9 | 3 => 3 | 4 => 4 | 0 => 0 | 20 => 20 | 72 => 105 | 76 => 109 | 70 => 103 | 37 => 102 | 75 => 108 | 127 => 114 | 164 => 120 | 5 => 5 | 80 => 111 | n => n, fun | n => n⟩
theorem Tryd.lays156 : Go.Proofs.Lays.n156 Tryd.prog Tryd.lays156_ren := {
  mixed := by kernel_rfl
  f156 := Tryd.func75.trans (congrArg some (by kernel_rfl))
  f165 := Tryd.func92.trans (congrArg some (by kernel_rfl))
  f166 := Tryd.func93.trans (congrArg some (by kernel_rfl))
  f169 := Tryd.func94.trans (congrArg some (by kernel_rfl))
  f240 := Tryd.func99.trans (congrArg some (by kernel_rfl))
  f241 := Tryd.func100.trans (congrArg some (by kernel_rfl))
  f276 := Tryd.func107.trans (congrArg some (by kernel_rfl))
  f277 := Tryd.func108.trans (congrArg some (by kernel_rfl))
  t0 := Tryd.underlying0
  a0 := Tryd.isAgg0
  z0 := Tryd.sizeOf0
  v0 := Tryd.zeroValue0
  t3 := Tryd.underlying3
  a3 := Tryd.isAgg3
  z3 := Tryd.sizeOf3
  v3 := Tryd.zeroValue3
  t4 := Tryd.underlying4
  a4 := Tryd.isAgg4
  z4 := Tryd.sizeOf4
  v4 := Tryd.zeroValue4
  t9 := Tryd.underlying9
  a9 := Tryd.isAgg9
  z9 := Tryd.sizeOf9
  v9 := Tryd.zeroValue9
  t20 := Tryd.underlying20
  a20 := Tryd.isAgg20
  z20 := Tryd.sizeOf20
  v20 := Tryd.zeroValue20
  t31 := Tryd.underlying84
  a31 := Tryd.isAgg84
  z31 := Tryd.sizeOf84
  v31 := Tryd.zeroValue84
  t37 := Tryd.underlying102
  a37 := Tryd.isAgg102
  z37 := Tryd.sizeOf102
  v37 := Tryd.zeroValue102
  t70 := Tryd.underlying103
  a70 := Tryd.isAgg103
  z70 := Tryd.sizeOf103
  v70 := Tryd.zeroValue103
  t72 := Tryd.underlying105
  a72 := Tryd.isAgg105
  z72 := Tryd.sizeOf105
  v72 := Tryd.zeroValue105
  t75 := Tryd.underlying108
  a75 := Tryd.isAgg108
  z75 := Tryd.sizeOf108
  v75 := Tryd.zeroValue108
  t76 := Tryd.underlying109
  a76 := Tryd.isAgg109
  z76 := Tryd.sizeOf109
  v76 := Tryd.zeroValue109
  t127 := Tryd.underlying114
  a127 := Tryd.isAgg114
  z127 := Tryd.sizeOf114
  v127 := Tryd.zeroValue114
  t164 := Tryd.underlying120
  a164 := Tryd.isAgg120
  z164 := Tryd.sizeOf120
  v164 := Tryd.zeroValue120 }
theorem Tryd.Builder_Extra_156 : Builder.Extra Tryd.prog Tryd.lays156_ren := {
  sizeBuilder := by kernel_rfl
  liesBuilder := by kernel_rfl
  t5 := Tryd.underlying5
  a5 := Tryd.isAgg5
  z5 := Tryd.sizeOf5
  v5 := Tryd.zeroValue5
  infoByte := by kernel_rfl
  cellsByte := by kernel_rfl
  sizeByte := by kernel_rfl
  neB5 := by decide }
open Go.RowKit in
/-- strings.Join: "Join concatenates the elements of its first argument to create a single string. The separator string sep is placed between elements in the resulting string.": HOWEVER MANY ELEMENTS. Below the heap's end the world is as it was. (LAID: no walk: one application.) -/
theorem Tryd.strings_Join (bk o c : Nat) (xs : List ByteArray) (sep : ByteArray) (w : World) (hcells : ∀ (j : Nat) x, xs[j]? = some x → w.cell? ⟨bk, o + j, none⟩ = some (.string x)) (hbk : bk < w.heap.size) (hN : xs.length ≤ 140737488355328) (hcap : xs.length ≤ c) (hlen : (Lib.join (xs.map (·.data.toList)) sep.data.toList).length ≤ 140737488355328) :
    Calls Tryd.prog 75 #[.slice (some ⟨bk, o, none⟩) xs.length c, .string sep] w fun e w' => e = .returned (.string ⟨(Lib.join (xs.map (·.data.toList)) sep.data.toList).toArray⟩) ∧ Below w.heap.size w w' := Any.strings_Join Tryd.lays156 Tryd.Builder_Extra_156 bk o c xs sep w hcells hbk hN hcap hlen
def Tryd.lays219_ren : Go.Shelf.Ren := ⟨fun | 219 => 104 | 217 => 111 | 225 => 112 | 224 => 113 | 267 => 114 | 266 => 116 | 314 => 117 | n => n, fun | 9 => 9 | 3 => 3 | 4 => 4 | 5 => 5 | 46 => 61 | 146 => 125 | 51 => 22 | n => n, fun | 1 => 0 | n => n⟩
theorem Tryd.lays219 : Go.Proofs.Lays.n219 Tryd.prog Tryd.lays219_ren := {
  mixed := by kernel_rfl
  f217 := Tryd.func111.trans (congrArg some (by kernel_rfl))
  f219 := Tryd.func104.trans (congrArg some (by kernel_rfl))
  f224 := Tryd.func113.trans (congrArg some (by kernel_rfl))
  f225 := Tryd.func112.trans (congrArg some (by kernel_rfl))
  f266 := Tryd.func116.trans (congrArg some (by kernel_rfl))
  f267 := Tryd.func114.trans (congrArg some (by kernel_rfl))
  f314 := Tryd.func117.trans (congrArg some (by kernel_rfl))
  t3 := Tryd.underlying3
  a3 := Tryd.isAgg3
  z3 := Tryd.sizeOf3
  v3 := Tryd.zeroValue3
  t4 := Tryd.underlying4
  a4 := Tryd.isAgg4
  z4 := Tryd.sizeOf4
  v4 := Tryd.zeroValue4
  t5 := Tryd.underlying5
  a5 := Tryd.isAgg5
  z5 := Tryd.sizeOf5
  v5 := Tryd.zeroValue5
  t9 := Tryd.underlying9
  a9 := Tryd.isAgg9
  z9 := Tryd.sizeOf9
  v9 := Tryd.zeroValue9
  t46 := Tryd.underlying61
  a46 := Tryd.isAgg61
  z46 := Tryd.sizeOf61
  v46 := Tryd.zeroValue61
  t51 := Tryd.underlying22
  a51 := Tryd.isAgg22
  z51 := Tryd.sizeOf22
  v51 := Tryd.zeroValue22
  t146 := Tryd.underlying125
  a146 := Tryd.isAgg125
  z146 := Tryd.sizeOf125
  v146 := Tryd.zeroValue125
  g1 := by kernel_rfl }
open Go.RowKit Go.Lib in
/-- internal/stringslite.Index (what strings.Index calls) AT A substr OF ONE BYTE c: IT RETURNS 'Lib.indexByte s c'; the world is as it was. (LAID: no walk: one application.) -/
theorem Tryd.stringslite_Index_one (s : ByteArray) (c : UInt8) (w : World) :
    Calls Tryd.prog 104 #[.string s, .string ⟨#[c]⟩] w fun e w' => e = .returned (.int .i64 (Lib.indexByte s.data.toList c)) ∧ w' = w := Any.stringslite_Index_one Tryd.lays219 s c w
def Tryd.lays143_ren : Go.Shelf.Ren := ⟨fun | 143 => 103 | 219 => 104 | 217 => 111 | 225 => 112 | 224 => 113 | 267 => 114 | 266 => 116 | 314 => 117 | n => n, fun | 9 => 9 | 3 => 3 | 4 => 4 | 5 => 5 | 46 => 61 | 146 => 125 | 51 => 22 | n => n, fun | 1 => 0 | n => n⟩
theorem Tryd.lays143 : Go.Proofs.Lays.n143 Tryd.prog Tryd.lays143_ren := {
  mixed := by kernel_rfl
  f143 := Tryd.func103.trans (congrArg some (by kernel_rfl))
  f217 := Tryd.func111.trans (congrArg some (by kernel_rfl))
  f219 := Tryd.func104.trans (congrArg some (by kernel_rfl))
  f224 := Tryd.func113.trans (congrArg some (by kernel_rfl))
  f225 := Tryd.func112.trans (congrArg some (by kernel_rfl))
  f266 := Tryd.func116.trans (congrArg some (by kernel_rfl))
  f267 := Tryd.func114.trans (congrArg some (by kernel_rfl))
  f314 := Tryd.func117.trans (congrArg some (by kernel_rfl))
  t3 := Tryd.underlying3
  a3 := Tryd.isAgg3
  z3 := Tryd.sizeOf3
  v3 := Tryd.zeroValue3
  t4 := Tryd.underlying4
  a4 := Tryd.isAgg4
  z4 := Tryd.sizeOf4
  v4 := Tryd.zeroValue4
  t5 := Tryd.underlying5
  a5 := Tryd.isAgg5
  z5 := Tryd.sizeOf5
  v5 := Tryd.zeroValue5
  t9 := Tryd.underlying9
  a9 := Tryd.isAgg9
  z9 := Tryd.sizeOf9
  v9 := Tryd.zeroValue9
  t46 := Tryd.underlying61
  a46 := Tryd.isAgg61
  z46 := Tryd.sizeOf61
  v46 := Tryd.zeroValue61
  t51 := Tryd.underlying22
  a51 := Tryd.isAgg22
  z51 := Tryd.sizeOf22
  v51 := Tryd.zeroValue22
  t146 := Tryd.underlying125
  a146 := Tryd.isAgg125
  z146 := Tryd.sizeOf125
  v146 := Tryd.zeroValue125
  g1 := by kernel_rfl }
open Go.RowKit Go.Lib in
/-- strings.Index: "Index returns the index of the first instance of substr in s, or -1 if substr is not present in s.": AT A substr OF ONE BYTE c: IT RETURNS 'Lib.indexByte s c'; the world is as it was. (LAID: no walk: one application.) -/
theorem Tryd.strings_Index_one (s : ByteArray) (c : UInt8) (w : World) :
    Calls Tryd.prog 103 #[.string s, .string ⟨#[c]⟩] w fun e w' => e = .returned (.int .i64 (Lib.indexByte s.data.toList c)) ∧ w' = w := Any.strings_Index_one Tryd.lays143 s c w
def Tryd.lays138_ren : Go.Shelf.Ren := ⟨fun | 138 => 102 | 195 => 109 | 218 => 110 | 143 => 103 | 219 => 104 | 217 => 111 | 225 => 112 | 224 => 113 | 267 => 114 | 266 => 116 | 314 => 117 | n => n, fun | 9 => 9 | 3 => 3 | 4 => 4 | 5 => 5 | 0 => 0 | 46 => 61 | 146 => 125 | 51 => 22 | n => n, fun | 1 => 0 | n => n⟩
theorem Tryd.lays138 : Go.Proofs.Lays.n138 Tryd.prog Tryd.lays138_ren := {
  mixed := by kernel_rfl
  f138 := Tryd.func102.trans (congrArg some (by kernel_rfl))
  f143 := Tryd.func103.trans (congrArg some (by kernel_rfl))
  f195 := Tryd.func109.trans (congrArg some (by kernel_rfl))
  f217 := Tryd.func111.trans (congrArg some (by kernel_rfl))
  f218 := Tryd.func110.trans (congrArg some (by kernel_rfl))
  f219 := Tryd.func104.trans (congrArg some (by kernel_rfl))
  f224 := Tryd.func113.trans (congrArg some (by kernel_rfl))
  f225 := Tryd.func112.trans (congrArg some (by kernel_rfl))
  f266 := Tryd.func116.trans (congrArg some (by kernel_rfl))
  f267 := Tryd.func114.trans (congrArg some (by kernel_rfl))
  f314 := Tryd.func117.trans (congrArg some (by kernel_rfl))
  t0 := Tryd.underlying0
  a0 := Tryd.isAgg0
  z0 := Tryd.sizeOf0
  v0 := Tryd.zeroValue0
  t3 := Tryd.underlying3
  a3 := Tryd.isAgg3
  z3 := Tryd.sizeOf3
  v3 := Tryd.zeroValue3
  t4 := Tryd.underlying4
  a4 := Tryd.isAgg4
  z4 := Tryd.sizeOf4
  v4 := Tryd.zeroValue4
  t5 := Tryd.underlying5
  a5 := Tryd.isAgg5
  z5 := Tryd.sizeOf5
  v5 := Tryd.zeroValue5
  t9 := Tryd.underlying9
  a9 := Tryd.isAgg9
  z9 := Tryd.sizeOf9
  v9 := Tryd.zeroValue9
  t46 := Tryd.underlying61
  a46 := Tryd.isAgg61
  z46 := Tryd.sizeOf61
  v46 := Tryd.zeroValue61
  t51 := Tryd.underlying22
  a51 := Tryd.isAgg22
  z51 := Tryd.sizeOf22
  v51 := Tryd.zeroValue22
  t146 := Tryd.underlying125
  a146 := Tryd.isAgg125
  z146 := Tryd.sizeOf125
  v146 := Tryd.zeroValue125
  g1 := by kernel_rfl }
open Go.RowKit Go.Lib in
/-- strings.Count AT A substr OF ONE BYTE ('hp'): "Count counts the number of non-overlapping instances of substr in s.": IT RETURNS 'Lib.countByte s (that byte)'; the world is as it was. ✋ NO CONTRACT HERE YET at an empty substr (utf8.RuneCountInString) or at a longer one (a loop over strings.Index). (LAID: no walk: one application.) -/
theorem Tryd.strings_Count_one (s : ByteArray) (c : UInt8) (w : World) :
    Calls Tryd.prog 102 #[.string s, .string ⟨#[c]⟩] w fun e w' => e = .returned (.int .i64 (Lib.countByte s.data.toList c)) ∧ w' = w := Any.strings_Count_one Tryd.lays138 s c w
def Tryd.lays221_ren : Go.Shelf.Ren := ⟨fun | 221 => 95 | 268 => 101 | 138 => 102 | 143 => 103 | 195 => 109 | 197 => 105 | 218 => 110 | 219 => 104 | 260 => 115 | 217 => 111 | 225 => 112 | 224 => 113 | 267 => 114 | 266 => 116 | 314 => 117 | n => n, fun | 9 => 9 | 3 => 3 | 31 => 84 | 4 => 4 | 0 => 0 | 105 => 117 | 21 => 21 | 5 => 5 | 46 => 61 | 119 => 127 | 139 => 130 | 138 => 129 | 146 => 125 | 51 => 22 | n => n, fun | 1 => 0 | 3 => 1 | 4 => 2 | n => n⟩
theorem Tryd.lays221 : Go.Proofs.Lays.n221 Tryd.prog Tryd.lays221_ren := {
  mixed := by kernel_rfl
  f138 := Tryd.func102.trans (congrArg some (by kernel_rfl))
  f143 := Tryd.func103.trans (congrArg some (by kernel_rfl))
  f195 := Tryd.func109.trans (congrArg some (by kernel_rfl))
  f197 := Tryd.func105.trans (congrArg some (by kernel_rfl))
  f217 := Tryd.func111.trans (congrArg some (by kernel_rfl))
  f218 := Tryd.func110.trans (congrArg some (by kernel_rfl))
  f219 := Tryd.func104.trans (congrArg some (by kernel_rfl))
  f221 := Tryd.func95.trans (congrArg some (by kernel_rfl))
  f224 := Tryd.func113.trans (congrArg some (by kernel_rfl))
  f225 := Tryd.func112.trans (congrArg some (by kernel_rfl))
  f260 := Tryd.func115.trans (congrArg some (by kernel_rfl))
  f266 := Tryd.func116.trans (congrArg some (by kernel_rfl))
  f267 := Tryd.func114.trans (congrArg some (by kernel_rfl))
  f268 := Tryd.func101.trans (congrArg some (by kernel_rfl))
  f314 := Tryd.func117.trans (congrArg some (by kernel_rfl))
  t0 := Tryd.underlying0
  a0 := Tryd.isAgg0
  z0 := Tryd.sizeOf0
  v0 := Tryd.zeroValue0
  t3 := Tryd.underlying3
  a3 := Tryd.isAgg3
  z3 := Tryd.sizeOf3
  v3 := Tryd.zeroValue3
  t4 := Tryd.underlying4
  a4 := Tryd.isAgg4
  z4 := Tryd.sizeOf4
  v4 := Tryd.zeroValue4
  t5 := Tryd.underlying5
  a5 := Tryd.isAgg5
  z5 := Tryd.sizeOf5
  v5 := Tryd.zeroValue5
  t9 := Tryd.underlying9
  a9 := Tryd.isAgg9
  z9 := Tryd.sizeOf9
  v9 := Tryd.zeroValue9
  t21 := Tryd.underlying21
  a21 := Tryd.isAgg21
  z21 := Tryd.sizeOf21
  v21 := Tryd.zeroValue21
  t31 := Tryd.underlying84
  a31 := Tryd.isAgg84
  z31 := Tryd.sizeOf84
  v31 := Tryd.zeroValue84
  t46 := Tryd.underlying61
  a46 := Tryd.isAgg61
  z46 := Tryd.sizeOf61
  v46 := Tryd.zeroValue61
  t51 := Tryd.underlying22
  a51 := Tryd.isAgg22
  z51 := Tryd.sizeOf22
  v51 := Tryd.zeroValue22
  t105 := Tryd.underlying117
  a105 := Tryd.isAgg117
  z105 := Tryd.sizeOf117
  v105 := Tryd.zeroValue117
  t119 := Tryd.underlying127
  a119 := Tryd.isAgg127
  z119 := Tryd.sizeOf127
  t138 := Tryd.underlying129
  a138 := Tryd.isAgg129
  z138 := Tryd.sizeOf129
  v138 := Tryd.zeroValue129
  t139 := Tryd.underlying130
  a139 := Tryd.isAgg130
  z139 := Tryd.sizeOf130
  v139 := Tryd.zeroValue130
  t146 := Tryd.underlying125
  a146 := Tryd.isAgg125
  z146 := Tryd.sizeOf125
  v146 := Tryd.zeroValue125
  g1 := by kernel_rfl
  g3 := by kernel_rfl
  g4 := by kernel_rfl }
def Tryd.lays154_ren : Go.Shelf.Ren := ⟨fun | 154 => 97 | 138 => 102 | 165 => 92 | 143 => 103 | 166 => 93 | 197 => 105 | 169 => 94 | 195 => 109 | 218 => 110 | 240 => 99 | 241 => 100 | 219 => 104 | 260 => 115 | 276 => 107 | 277 => 108 | 217 => 111 | 225 => 112 | 224 => 113 | 267 => 114 | 266 => 116 | 314 => 117 | n => n, fun | 9 => 9 | 3 => 3 | 4 => 4 | 72 => 105 | 0 => 0 | 76 => 109 | 105 => 117 | 21 => 21 | 5 => 5 | 70 => 103 | 20 => 20 | 37 => 102 | 75 => 108 | 127 => 114 | 164 => 120 | 46 => 61 | 119 => 127 | 139 => 130 | 138 => 129 | 146 => 125 | 51 => 22 | 80 => 111 | n => n, fun | 1 => 0 | 3 => 1 | 4 => 2 | n => n⟩
theorem Tryd.lays154 : Go.Proofs.Lays.n154 Tryd.prog Tryd.lays154_ren := {
  mixed := by kernel_rfl
  f138 := Tryd.func102.trans (congrArg some (by kernel_rfl))
  f143 := Tryd.func103.trans (congrArg some (by kernel_rfl))
  f154 := Tryd.func97.trans (congrArg some (by kernel_rfl))
  f165 := Tryd.func92.trans (congrArg some (by kernel_rfl))
  f166 := Tryd.func93.trans (congrArg some (by kernel_rfl))
  f169 := Tryd.func94.trans (congrArg some (by kernel_rfl))
  f195 := Tryd.func109.trans (congrArg some (by kernel_rfl))
  f197 := Tryd.func105.trans (congrArg some (by kernel_rfl))
  f217 := Tryd.func111.trans (congrArg some (by kernel_rfl))
  f218 := Tryd.func110.trans (congrArg some (by kernel_rfl))
  f219 := Tryd.func104.trans (congrArg some (by kernel_rfl))
  f224 := Tryd.func113.trans (congrArg some (by kernel_rfl))
  f225 := Tryd.func112.trans (congrArg some (by kernel_rfl))
  f240 := Tryd.func99.trans (congrArg some (by kernel_rfl))
  f241 := Tryd.func100.trans (congrArg some (by kernel_rfl))
  f260 := Tryd.func115.trans (congrArg some (by kernel_rfl))
  f266 := Tryd.func116.trans (congrArg some (by kernel_rfl))
  f267 := Tryd.func114.trans (congrArg some (by kernel_rfl))
  f276 := Tryd.func107.trans (congrArg some (by kernel_rfl))
  f277 := Tryd.func108.trans (congrArg some (by kernel_rfl))
  f314 := Tryd.func117.trans (congrArg some (by kernel_rfl))
  t0 := Tryd.underlying0
  a0 := Tryd.isAgg0
  z0 := Tryd.sizeOf0
  v0 := Tryd.zeroValue0
  t3 := Tryd.underlying3
  a3 := Tryd.isAgg3
  z3 := Tryd.sizeOf3
  v3 := Tryd.zeroValue3
  t4 := Tryd.underlying4
  a4 := Tryd.isAgg4
  z4 := Tryd.sizeOf4
  v4 := Tryd.zeroValue4
  t5 := Tryd.underlying5
  a5 := Tryd.isAgg5
  z5 := Tryd.sizeOf5
  v5 := Tryd.zeroValue5
  t9 := Tryd.underlying9
  a9 := Tryd.isAgg9
  z9 := Tryd.sizeOf9
  v9 := Tryd.zeroValue9
  t20 := Tryd.underlying20
  a20 := Tryd.isAgg20
  z20 := Tryd.sizeOf20
  v20 := Tryd.zeroValue20
  t21 := Tryd.underlying21
  a21 := Tryd.isAgg21
  z21 := Tryd.sizeOf21
  v21 := Tryd.zeroValue21
  t37 := Tryd.underlying102
  a37 := Tryd.isAgg102
  z37 := Tryd.sizeOf102
  v37 := Tryd.zeroValue102
  t46 := Tryd.underlying61
  a46 := Tryd.isAgg61
  z46 := Tryd.sizeOf61
  v46 := Tryd.zeroValue61
  t51 := Tryd.underlying22
  a51 := Tryd.isAgg22
  z51 := Tryd.sizeOf22
  v51 := Tryd.zeroValue22
  t70 := Tryd.underlying103
  a70 := Tryd.isAgg103
  z70 := Tryd.sizeOf103
  v70 := Tryd.zeroValue103
  t72 := Tryd.underlying105
  a72 := Tryd.isAgg105
  z72 := Tryd.sizeOf105
  v72 := Tryd.zeroValue105
  t75 := Tryd.underlying108
  a75 := Tryd.isAgg108
  z75 := Tryd.sizeOf108
  v75 := Tryd.zeroValue108
  t76 := Tryd.underlying109
  a76 := Tryd.isAgg109
  z76 := Tryd.sizeOf109
  v76 := Tryd.zeroValue109
  t105 := Tryd.underlying117
  a105 := Tryd.isAgg117
  z105 := Tryd.sizeOf117
  v105 := Tryd.zeroValue117
  t119 := Tryd.underlying127
  a119 := Tryd.isAgg127
  z119 := Tryd.sizeOf127
  t127 := Tryd.underlying114
  a127 := Tryd.isAgg114
  z127 := Tryd.sizeOf114
  v127 := Tryd.zeroValue114
  t138 := Tryd.underlying129
  a138 := Tryd.isAgg129
  z138 := Tryd.sizeOf129
  v138 := Tryd.zeroValue129
  t139 := Tryd.underlying130
  a139 := Tryd.isAgg130
  z139 := Tryd.sizeOf130
  v139 := Tryd.zeroValue130
  t146 := Tryd.underlying125
  a146 := Tryd.isAgg125
  z146 := Tryd.sizeOf125
  v146 := Tryd.zeroValue125
  t164 := Tryd.underlying120
  a164 := Tryd.isAgg120
  z164 := Tryd.sizeOf120
  v164 := Tryd.zeroValue120
  g1 := by kernel_rfl
  g3 := by kernel_rfl
  g4 := by kernel_rfl }
theorem Tryd.Builder_Extra_154 : Builder.Extra Tryd.prog Tryd.lays154_ren := {
  sizeBuilder := by kernel_rfl
  liesBuilder := by kernel_rfl
  t5 := Tryd.underlying5
  a5 := Tryd.isAgg5
  z5 := Tryd.sizeOf5
  v5 := Tryd.zeroValue5
  infoByte := by kernel_rfl
  cellsByte := by kernel_rfl
  sizeByte := by kernel_rfl
  neB5 := by decide }
end Go.Proofs
end

-- HOps
section
/- Steps over whole variables in memory, the world behind them under a letter. -/
namespace Go.Proofs.YtcdopgkkieenjaaDoor.V
open Go.RowKit Go.Proofs.YtcdopgkkieenjaaDoorW.PrintWords Go.Proofs.YtcdopgkkieenjaaDoorW.PrintLast Go.Proofs.YtcdopgkkieenjaaDoorW.PrintMore
set_option linter.unusedVariables false

/-- Block g of W is a row of the cells cs, of elements of type t. -/
def Box (W : World) (g : Nat) (cs : List Value) (t : Nat) : Prop := W.heap[g]? = some (.cells cs.toArray t (0, 0))
theorem Box.cell {W : World} {g : Nat} {cs : List Value} {t : Nat} (h : Box W g cs t) (j : Nat) (v : Value) (hv : cs[j]? = some v) : W.cell? ⟨g, j, none⟩ = some v := by
  rw [cell_of_row W g j _ t (0, 0) h]
  simpa using hv
theorem Box.frozen {W : World} {g : Nat} {cs : List Value} {t : Nat} (h : Box W g cs t) (j : Nat) : W.frozen? ⟨g, j, none⟩ = false := frozen_of_row W g j _ t h
theorem Box.lt {W : World} {g : Nat} {cs : List Value} {t : Nat} (h : Box W g cs t) : g < W.heap.size := (Array.getElem?_eq_some_iff.1 h).1
theorem Box.below {W W1 : World} {g : Nat} {cs : List Value} {t : Nat} (h : Box W g cs t) (hb : Below W.heap.size W W1) : Box W1 g cs t := (hb.block g h.lt).trans h
theorem Box.grown {W W1 : World} {g : Nat} {cs : List Value} {t : Nat} (h : Box W g cs t) {row : Option Nat} (hg : W.grownBy W1 row) (hne : some g ≠ row) : Box W1 g cs t := (hg.block g h.lt hne).trans h
theorem Box.drewN {W : World} {g : Nat} {cs : List Value} {t : Nat} (h : Box W g cs t) (n : Nat) : Box (W.drewN n) g cs t := h
theorem Box.alloc {W : World} {g : Nat} {cs : List Value} {t : Nat} (h : Box W g cs t) (o : Obj) : Box (W.alloc o) g cs t := h.below (below_alloc (Below.refl _ _) o)
theorem Box.set {W : World} {g : Nat} {cs : List Value} {t : Nat} (h : Box W g cs t) (j : Nat) (v : Value) : Box (W.setCell ⟨g, j, none⟩ v) g (cs.set j v) t := by
  have := heap_setCell_same W g j _ t v h
  unfold Box
  rw [this]
  congr 2
  simp
theorem Box.far {W : World} {g : Nat} {cs : List Value} {t : Nat} (h : Box W g cs t) {p : Addr} (hne : g ≠ p.block) (v : Value) : Box (W.setCell p v) g cs t := (Below.heap_setCell W p v g hne).trans h
section
variable {P : Program} {ops : Array Oper} {rest : List Oper} {o : Oper} {a : Act} {w : World} {Q : Exit → Act → World → Prop}
theorem setRow_grown (w : World) (g : Nat) (cs : Array Value) : w.grownBy (w.setRow g cs) (some g) :=
  ⟨rfl, rfl, rfl, by simp, fun k _ hk => setRow_other w g k cs (fun e => hk (by rw [e]))⟩
/-- A struct that is boxed. -/
theorem step_box (hgd : o.guard = none) (ty : TypeId) (x : Operand) (ho : o.op = .box ty x) (cs : List Value) (hx : a.eval x = .agg cs.toArray)
    (h : ∀ g W1, w.heap.size ≤ g → Box W1 g cs ty → Below w.heap.size w W1 → wpList P ops Q rest (a.put o.dst (.pointer (some ⟨g, 0, none⟩))) W1) : wpList P ops Q (o :: rest) a w := by
  refine wpList_plain hgd fun K hK => ?_
  have := hK _ _ (h w.heap.size (w.alloc (.cells cs.toArray ty)) (Nat.le_refl _) (heap_alloc_new w _) (below_alloc (Below.refl _ _) _))
  unfold Oper.wp execOp
  simp only [ho, hx, Instr.box, newVar, newRow, newObj, Value.cells]
  exact this
/-- A variable of a type with this zero value. -/
theorem step_alloc (hgd : o.guard = none) (ty : TypeId) (ho : o.op = .alloc ty) (cs : List Value) (hz : ∀ w, (zeroValue ty).run P w = .ok (.agg cs.toArray) w)
    (h : ∀ g W1, w.heap.size ≤ g → Box W1 g cs ty → Below w.heap.size w W1 → wpList P ops Q rest (a.put o.dst (.pointer (some ⟨g, 0, none⟩))) W1) : wpList P ops Q (o :: rest) a w := by
  refine wpList_plain hgd fun K hK => ?_
  have := hK _ _ (h w.heap.size (w.alloc (.cells cs.toArray ty)) (Nat.le_refl _) (heap_alloc_new w _) (below_alloc (Below.refl _ _) _))
  unfold Oper.wp execOp
  simp only [ho, Instr.alloc, newVar, newRow, newObj, Value.cells, Sem.run_bind, hz, Result.andThen_ok]
  exact this
/-- The same, its slot named. -/
theorem step_allocN (N : Option Tmp) (hN : o.dst = N) (hgd : o.guard = none) (ty : TypeId) (ho : o.op = .alloc ty) (cs : List Value) (hz : ∀ w, (zeroValue ty).run P w = .ok (.agg cs.toArray) w)
    (h : ∀ g W1, w.heap.size ≤ g → Box W1 g cs ty → Below w.heap.size w W1 → wpList P ops Q rest (a.put o.dst (.pointer (some ⟨g, 0, none⟩))) W1) : wpList P ops Q (o :: rest) a w := step_alloc hgd ty ho cs hz h
/-- A whole variable loaded. -/
theorem step_load (hgd : o.guard = none) (ty : TypeId) (x : Operand) (ho : o.op = .load ty x) (g : Nat) (hx : a.eval x = .pointer (some ⟨g, 0, none⟩)) (t : Nat) (cs : List Value) (d : TypeDesc) (hb : Box w g cs t)
    (hu : P.underlying ty = some d) (hd : (match d with | .struct _ | .array _ _ => true | _ => false) = true) (n : Nat) (hi : (P.info? ty).map (·.size) = some n) (hn : cs.length = n)
    (h : wpList P ops Q rest (a.put o.dst (.agg cs.toArray)) w) : wpList P ops Q (o :: rest) a w :=
  wpList_load_row hgd ty x ho g hx t cs.toArray (0, 0) d hb hu hd (by rw [hi]; simp [hn]) h
/-- A whole variable stored. -/
theorem step_store (hgd : o.guard = none) (ty : TypeId) (x y : Operand) (ho : o.op = .store ty x y) (g : Nat) (cs : List Value) (hx : a.eval x = .pointer (some ⟨g, 0, none⟩)) (hy : a.eval y = .agg cs.toArray)
    (t : Nat) (old : List Value) (hb : Box w g old t) (n : Nat) (hi : (P.info? ty).map (·.size) = some n) (hn : cs.length = n) (hold : old.length = n) (h1 : ∀ v ∈ cs, v.oneCell' = true)
    (h : ∀ W1, Box W1 g cs t → w.grownBy W1 (some g) → wpList P ops Q rest (a.put o.dst undef) W1) : wpList P ops Q (o :: rest) a w :=
  wpList_store_row hgd ty x y ho g cs.toArray hx hy t old.toArray hb (by rw [hi]; simp [hn]) (by simp; omega) (by rw [Array.all_eq_true_iff_forall_mem]; intro v hv; exact h1 v (by simpa using hv))
    (h _ (setRow_heap w g old.toArray cs.toArray t (0, 0) hb) (setRow_grown w g _))
/-- An array's element. -/
theorem run_index_arr (w : World) (t e : TypeId) (n : Nat) (k : IntKind) (ht : P.underlying t = some (.array n e)) (he : P.underlying e = some (.int k)) (hsz : ∀ w, (sizeOf e).run P w = .ok 1 w) (xs : List Int) (hn : xs.length = n) (i : Nat) (hi : i < n) :
    (Instr.index t (.agg (xs.map (Value.int k)).toArray) (.int .i64 (i : Int))).run P w = .ok (.int k (xs.getD i 0)) w := by
  have hi' : i < xs.length := by omega
  simp [Instr.index, asIntOf, run_underlying ht, hsz, hi, part, isAgg, run_underlying he, List.getElem?_eq_getElem hi', List.getD]
end
end Go.Proofs.YtcdopgkkieenjaaDoor.V
end

-- ISplit
section
/- strings.Split and strings.Cut at a text of one byte, strings.Join: contracts without the library's variable. -/
namespace Go.Proofs.YtcdopgkkieenjaaDoor.V
open Go.RowKit Go.Proofs.YtcdopgkkieenjaaDoorW.PrintWords Go.Proofs.YtcdopgkkieenjaaDoorW.PrintLast Go.Proofs.YtcdopgkkieenjaaDoorW.PrintMore
set_option linter.unusedVariables false
set_option linter.unusedSimpArgs false

/-- A text cut at each c. -/
def cutAt (c : UInt8) : List UInt8 → List (List UInt8)
  | [] => [[]]
  | b :: l => if b = c then [] :: cutAt c l else match cutAt c l with
    | [] => [[b]]
    | p :: r => (b :: p) :: r
theorem cutAt_ne (c : UInt8) : ∀ l, cutAt c l ≠ []
  | [] => by simp [cutAt]
  | b :: l => by
    unfold cutAt
    split
    · simp
    · split <;> simp
theorem index_cons_eq (c : UInt8) (l : List UInt8) : Lib.index (c :: l) [c] = 0 := by simp [Lib.index]
theorem index_cons_ne (b c : UInt8) (l : List UInt8) (h : b ≠ c) : Lib.index (b :: l) [c] = if Lib.index l [c] = -1 then -1 else Lib.index l [c] + 1 := by
  rw [Lib.index]
  simp [Ne.symm h]
theorem index_one (c : UInt8) : ∀ l : List UInt8, Lib.index l [c] = Lib.indexByte l c
  | [] => by simp [Lib.index, Lib.indexByte]
  | b :: l => by
    by_cases h : b = c
    · subst h
      rw [index_cons_eq]
      simp [Lib.indexByte]
    · rw [index_cons_ne b c l h, index_one c l]
      simp [Lib.indexByte, h]
theorem splitK_cutAt (c : UInt8) : ∀ l : List UInt8, Lib.splitK [c] 0 (Lib.count l [c]) l = cutAt c l
  | [] => by
    rw [Lib.count_one]
    rfl
  | b :: l => by
    have ih := splitK_cutAt c l
    rw [Lib.count_one] at ih ⊢
    by_cases h : b = c
    · subst h
      rw [List.count_cons_self, Lib.splitK, index_cons_eq, if_neg (by decide)]
      simp [cutAt, ih]
    · rw [List.count_cons_of_ne h]
      have e : cutAt c (b :: l) = match cutAt c l with
        | [] => [[b]]
        | p :: r => (b :: p) :: r := by rw [cutAt, if_neg h]
      rw [e, ← ih]
      cases hk : List.count c l with
      | zero => rfl
      | succ k =>
        rw [Lib.splitK, Lib.splitK, index_cons_ne b c l h]
        by_cases hi : Lib.index l [c] = -1
        · simp [hi]
        · have hg := Lib.index_ge l [c]
          obtain ⟨i, hi2⟩ : ∃ i : Nat, Lib.index l [c] = i := ⟨(Lib.index l [c]).toNat, by omega⟩
          rw [hi2]
          have n1 : ((i : Int) = -1) = False := eq_false (by omega)
          have n2 : ((i : Int) + 1 = -1) = False := eq_false (by omega)
          have e1 : ((i : Int) + 1).toNat = i + 1 := by omega
          simp [e1, n1, n2]
theorem pieces_eq (s : ByteArray) (c : UInt8) : (Lib.splitB ⟨#[c]⟩ 0 (Lib.countB s ⟨#[c]⟩) s).map (·.data.toList) = cutAt c s.data.toList := by
  rw [Lib.splitB_data]
  exact splitK_cutAt c _
set_option maxHeartbeats 2000000 in
set_option maxRecDepth 100000 in
theorem split_one (s : ByteArray) (c : UInt8) (w : World) (hs : s.size < 4294967281) :
    Calls Tryd.prog 76 #[.string s, .string ⟨#[c]⟩] w fun e w' =>
      e = .returned (.slice (some ⟨w.heap.size, 0, none⟩) (Lib.splitB ⟨#[c]⟩ 0 (Lib.countB s ⟨#[c]⟩) s).length (Lib.splitB ⟨#[c]⟩ 0 (Lib.countB s ⟨#[c]⟩) s).length) ∧ w' = w.alloc (.cells ((Lib.splitB ⟨#[c]⟩ 0 (Lib.countB s ⟨#[c]⟩) s).map Value.string).toArray 9) := by
  have h1 : 1 ≤ (⟨#[c]⟩ : ByteArray).size := by simp [ByteArray.size]
  have hle := Lib.countB_le ⟨#[c]⟩ h1 s.size s (Nat.le_refl _)
  have hlen := Lib.splitB_all ⟨#[c]⟩ h1 0 _ s rfl
  have g := Any.strings_genSplit_core Tryd.lays221 (by kernel_rfl) s ⟨#[c]⟩ 0 (-1) (Lib.countB s ⟨#[c]⟩ + 1) w hs h1 (Nat.zero_le _)
    (fun x cs hx => (Any.strings_Index_one Tryd.lays143 x c _).mono fun e w' ⟨he, hw⟩ => ⟨by rw [he, ← index_one], hw⟩)
    ((Any.strings_Count_one Tryd.lays138 s c w).mono fun e w' ⟨he, hw⟩ => ⟨by rw [he]; show _ = Ending.returned (Value.int .i64 ((Lib.count s.data.toList [c] : Nat) : Int)); rw [Lib.count_one]; rfl, hw⟩)
    (by decide) (by decide) (by rw [if_pos (by decide)]; omega)
  rw [Nat.add_sub_cancel, hlen] at g
  have e2 : Lib.cellsOf (Lib.splitB ⟨#[c]⟩ 0 (Lib.countB s ⟨#[c]⟩) s) (Lib.countB s ⟨#[c]⟩ + 1) = ((Lib.splitB ⟨#[c]⟩ 0 (Lib.countB s ⟨#[c]⟩) s).map Value.string).toArray := by rw [← hlen]; exact Lib.cellsOf_full _
  rw [e2] at g
  rw [hlen]
  obtain ⟨N, hN⟩ : ∃ N, Lib.countB s ⟨#[c]⟩ + 1 = N := ⟨_, rfl⟩
  rw [hN] at g ⊢
  go_enter Tryd.func76, Tryd.ntmps76
  go_wp2_with (go_at_call 95; refine g.mono ?_; rintro e w' ⟨rfl, hw⟩; rw [hw])
  go_ret
  exact ⟨rfl, rfl⟩
/-- A text before and behind the first c. -/
def cutB (c : UInt8) (s : ByteArray) : ByteArray × ByteArray × Bool :=
  if Lib.indexByte s.data.toList c = -1 then (s, ⟨#[]⟩, false) else (s.extract 0 (Lib.indexByte s.data.toList c).toNat, s.extract ((Lib.indexByte s.data.toList c).toNat + 1) s.size, true)
set_option maxHeartbeats 2000000 in
set_option maxRecDepth 100000 in
theorem lite_cut_one (s : ByteArray) (c : UInt8) (w : World) (hs : s.size < 4294967281) :
    Calls Tryd.prog 96 #[.string s, .string ⟨#[c]⟩] w fun e w' => e = .returned (.tuple #[.string (cutB c s).1, .string (cutB c s).2.1, .bool (cutB c s).2.2]) ∧ Drawn0 w w' := by
  rcases Lib.indexB_cases s ⟨#[c]⟩ with hix | ⟨i, hix, hroom⟩
  · have hi : Lib.indexByte s.data.toList c = -1 := by rw [← index_one]; exact hix
    have e : cutB c s = (s, ⟨#[]⟩, false) := by unfold cutB; rw [if_pos hi]
    rw [e]
    go_enter Tryd.func96, Tryd.ntmps96
    go_wp2_with (go_at_call 104; refine (Tryd.stringslite_Index_one _ _ _).mono ?_; rintro e w' ⟨rfl, hw⟩; rw [hw, hi])
    go_ret3
    exact ⟨rfl, by repeat (first | exact Drawn0.refl _ | apply Drawn0.step)⟩
  · have hi : Lib.indexByte s.data.toList c = i := by rw [← index_one]; exact hix
    have e : cutB c s = (s.extract 0 i, s.extract (i + 1) s.size, true) := by
      unfold cutB
      rw [if_neg (by omega), hi]
      rfl
    have h1 : (⟨#[c]⟩ : ByteArray).size = 1 := by simp [ByteArray.size]
    rw [h1] at hroom
    rw [e]
    have c1 : (0 : Int) ≤ ↑i := by omega
    have c2 : (↑i : Int) ≤ ↑s.size := by omega
    have c3 : (0 : Int) ≤ ↑i + 1 := by omega
    have c4 : (↑i + 1 : Int) ≤ ↑s.size := by omega
    go_enter Tryd.func96, Tryd.ntmps96
    go_wp2_with (first | (go_at_call 104; refine (Tryd.stringslite_Index_one _ _ _).mono ?_; rintro e w' ⟨rfl, hw⟩; rw [hw, hi]) | go_quiet (fail))
    go_ret3
    exact ⟨rfl, by repeat (first | exact Drawn0.refl _ | apply Drawn0.step)⟩
set_option maxHeartbeats 2000000 in
set_option maxRecDepth 100000 in
theorem cut_one (s : ByteArray) (c : UInt8) (w : World) (hs : s.size < 4294967281) :
    Calls Tryd.prog 82 #[.string s, .string ⟨#[c]⟩] w fun e w' => e = .returned (.tuple #[.string (cutB c s).1, .string (cutB c s).2.1, .bool (cutB c s).2.2]) ∧ Drawn0 w w' := by
  go_enter Tryd.func82, Tryd.ntmps82
  go_wp2_with (go_at_call 96; refine (lite_cut_one s c _ hs).mono ?_; rintro e w' ⟨rfl, ⟨n, rfl⟩⟩)
  go_ret3
  exact ⟨rfl, by repeat (first | exact Drawn0.refl _ | exact ⟨_, rfl⟩ | apply Drawn0.step)⟩
end Go.Proofs.YtcdopgkkieenjaaDoor.V
end

-- VFVirgateref01Parse
section
-- PRINTED by print.py (a twelfth state) out of the translation. Not trusted: Lean checks it.
namespace Go.Proofs.YtcdopgkkieenjaaDoor.V
open Go.RowKit Go.Proofs.YtcdopgkkieenjaaDoorW.PrintWords Go.Proofs.YtcdopgkkieenjaaDoorW.PrintLast Go.Proofs.YtcdopgkkieenjaaDoorW.PrintMore
attribute [local go_sem] max2_int min2_int max_two min_two max_three min_three max_four min_four   -- for this text's walks alone
set_option linter.unusedVariables false
set_option linter.unusedSimpArgs false

/-! ### virgateref01_Parse: function 22 -/
mutual
def virgateref01_Parse.l0 : Nat → ByteArray → Int → Int → ByteArray → Int → Option (Int × Bool)
  | 0, _, _, _, _, _ => none
  | k + 1, x0, x4, x5, x6, x7 => if x7 ≤ (x0.size : Int) then (if x7 < (x0.size : Int) then (if 0 ≤ x7 then (virgateref01_Parse.j1 k x0 x4 x5 x6 x7 ((bt x0 x7) != 46)) else (none)) else (virgateref01_Parse.j1 k x0 x4 x5 x6 x7 false)) else (if x5 = 4 then (some ((x4) % 4294967296, true)) else (some (0, false)))
def virgateref01_Parse.j1 : Nat → ByteArray → Int → Int → ByteArray → Int → Bool → Option (Int × Bool)
  | 0, _, _, _, _, _, _ => none
  | k + 1, x0, x4, x5, x6, x7, x25 => if x25 = true then (if 0 ≤ x7 then (if x7 ≤ (wrap64 (x7 + 1)) then (if (wrap64 (x7 + 1)) ≤ (x0.size : Int) then (if x6.size + (x0.extract (x7 : Int).toNat ((wrap64 (x7 + 1)) : Int).toNat).size ≤ 9223372036854775807 then (virgateref01_Parse.l0 k x0 x4 x5 (x6 ++ (x0.extract (x7 : Int).toNat ((wrap64 (x7 + 1)) : Int).toNat)) (wrap64 (x7 + 1))) else (none)) else (none)) else (none)) else (none)) else ((virgateref01_Value.f k x6 255).bind fun bt22101 => (if bt22101.2 = true then (if (wrap64 (x5 + 1)) > 4 then (some (0, false)) else (virgateref01_Parse.l0 k x0 (wrap64 ((wrap64 (256 * x4)) + bt22101.1)) (wrap64 (x5 + 1)) (⟨#[]⟩ : ByteArray) (wrap64 (x7 + 1)))) else (some (0, false))))
end
def virgateref01_Parse.f (k : Nat) (a0 : ByteArray) : Option (Int × Bool) := virgateref01_Parse.l0 k a0 0 0 (⟨#[]⟩ : ByteArray) 0
theorem virgateref01_Parse.mono_l : ∀ k, (∀ y0 y1 y2 y3 y4, LeO (virgateref01_Parse.l0 k y0 y1 y2 y3 y4) (virgateref01_Parse.l0 (k + 1) y0 y1 y2 y3 y4)) ∧ (∀ y0 y1 y2 y3 y4 y5, LeO (virgateref01_Parse.j1 k y0 y1 y2 y3 y4 y5) (virgateref01_Parse.j1 (k + 1) y0 y1 y2 y3 y4 y5))
  | 0 => ⟨fun _ _ _ _ _ r h => by simp [virgateref01_Parse.l0] at h, fun _ _ _ _ _ _ r h => by simp [virgateref01_Parse.j1] at h⟩
  | k + 1 => by
    obtain ⟨ih0, ih1⟩ := virgateref01_Parse.mono_l k
    refine ⟨?_, ?_⟩
    · intro y0 y1 y2 y3 y4
      unfold virgateref01_Parse.l0
      repeat' first
      | (with_reducible exact ih0 _ _ _ _ _)
      | (with_reducible exact ih1 _ _ _ _ _ _)
      | (with_reducible exact virgateref01_Value.mono _ _ _)
      | (with_reducible exact LeO.refl _)
      | (with_reducible exact LeO.none _)
      | (with_reducible refine LeO.ite ?_ ?_)
      | (with_reducible refine LeO.bind ?_ (fun _ => ?_))
      | exact ih0 _ _ _ _ _
      | exact ih1 _ _ _ _ _ _
      | exact virgateref01_Value.mono _ _ _
      | exact LeO.none _
      | refine LeO.ite ?_ ?_
      | refine LeO.bind ?_ (fun _ => ?_)
    · intro y0 y1 y2 y3 y4 y5
      unfold virgateref01_Parse.j1
      repeat' first
      | (with_reducible exact ih0 _ _ _ _ _)
      | (with_reducible exact ih1 _ _ _ _ _ _)
      | (with_reducible exact virgateref01_Value.mono _ _ _)
      | (with_reducible exact LeO.refl _)
      | (with_reducible exact LeO.none _)
      | (with_reducible refine LeO.ite ?_ ?_)
      | (with_reducible refine LeO.bind ?_ (fun _ => ?_))
      | exact ih0 _ _ _ _ _
      | exact ih1 _ _ _ _ _ _
      | exact virgateref01_Value.mono _ _ _
      | exact LeO.none _
      | refine LeO.ite ?_ ?_
      | refine LeO.bind ?_ (fun _ => ?_)
theorem virgateref01_Parse.mono : ∀ a0 k, LeO (virgateref01_Parse.f k a0) (virgateref01_Parse.f (k + 1) a0) := by
  intro a0 k
  obtain ⟨ih0, ih1⟩ := virgateref01_Parse.mono_l k
  unfold virgateref01_Parse.f
  repeat' first
      | (with_reducible exact ih0 _ _ _ _ _)
      | (with_reducible exact ih1 _ _ _ _ _ _)
      | (with_reducible exact virgateref01_Value.mono _ _ _)
      | (with_reducible exact LeO.refl _)
      | (with_reducible exact LeO.none _)
      | (with_reducible refine LeO.ite ?_ ?_)
      | (with_reducible refine LeO.bind ?_ (fun _ => ?_))
      | exact ih0 _ _ _ _ _
      | exact ih1 _ _ _ _ _ _
      | exact virgateref01_Value.mono _ _ _
      | exact LeO.none _
      | refine LeO.ite ?_ ?_
      | refine LeO.bind ?_ (fun _ => ?_)
set_option maxHeartbeats 8000000 in
set_option maxRecDepth 100000 in
theorem virgateref01_Parse.calls (k : Nat) (a0 : ByteArray) (r1 : Int) (r2 : Bool) (w : World) (h : virgateref01_Parse.f k a0 = some (r1, r2)) :
    Calls Tryd.prog 22 #[.string a0] w fun e w' => e = .returned (.tuple #[.int .u32 r1, .bool r2]) ∧ Below w.heap.size w w' := by
  have HB := Aside0.mk (Below.refl w.heap.size w)
  have H : (virgateref01_Parse.l0 k a0 0 0 (⟨#[]⟩ : ByteArray) 0) = some (r1, r2) := h
  clear h
  have H' := Aside0.mk H
  clear H
  go_enter Tryd.func22, Tryd.ntmps22
  go_wp2
  go_loopg [4, 5, 6, 7] k (fun kq v4 v5 v6 v7 w' => ∃ (x4_1 : Int) (x5_1 : Int) (x6_1 : ByteArray) (x7_1 : Int), v4 = .int .i64 x4_1 ∧ v5 = .int .i64 x5_1 ∧ v6 = .string x6_1 ∧ v7 = .int .i64 x7_1 ∧ Aside0 (virgateref01_Parse.l0 kq a0 x4_1 x5_1 x6_1 x7_1 = some (r1, r2)) ∧ Aside0 (kq ≤ k) ∧ Aside0 (Below w.heap.size w w'))
  case atStart => exact ⟨(0), (0), ((⟨#[]⟩ : ByteArray)), (0), (by first | rfl | (simp; done) | (simp [*]; done)), (by first | rfl | (simp; done) | (simp [*]; done)), (by first | rfl | (simp; done) | (simp [*]; done)), (by first | rfl | (simp; done) | (simp [*]; done)), H', ⟨Nat.le_refl _⟩, ⟨by repeat (first | (with_reducible first | exact HB.out | apply below_alloc | apply pw_below_drewN | apply below_drew1) | exact HB.out)⟩⟩
  case round =>
    clear H'
    obtain ⟨x4_1, x5_1, x6_1, x7_1, rfl, rfl, rfl, rfl, HA, HK1, HB⟩ := hrel
    cases gk with
    | zero => exact absurd HA.out (by simp [virgateref01_Parse.l0])
    | succ k1 =>
      have H := HA.out
      clear HA
      simp only [virgateref01_Parse.l0] at H
      by_cases c2 : x7_1 ≤ (a0.size : Int)
      · rw [if_pos c2] at H
        have c2b0 : decide (x7_1 ≤ (a0.size : Int)) = true := decide_eq_true c2
        clear c2
        have HC3 := Aside0.mk H
        clear H
        go_upto_region 5 with (fail)
        go_cut [25] (fun v25 wc => ∃ (kq : Nat) (x25_2 : Bool), v25 = .bool x25_2 ∧ Aside0 (virgateref01_Parse.j1 kq a0 x4_1 x5_1 x6_1 x7_1 x25_2 = some (r1, r2)) ∧ Aside0 (kq ≤ k1) ∧ Aside0 (Below w.heap.size w wc))
        case first =>
          have H := HC3.out
          clear HC3
          by_cases c4 : x7_1 < (a0.size : Int)
          · rw [if_pos c4] at H
            have c4b0 : decide (x7_1 < (a0.size : Int)) = true := decide_eq_true c4
            clear c4
            (first | rw [c4b0] | (simp only [i64_w, i32_w]; rw [c4b0]) | skip)
            by_cases c5 : 0 ≤ x7_1
            · rw [if_pos c5] at H
              have c5b0 : decide (0 ≤ x7_1) = true := decide_eq_true c5
              clear c5
              have H' := Aside0.mk H
              clear H
              have p6 : 0 ≤ (x7_1 : Int) := of_decide_eq_true (by first | (with_reducible assumption) | assumption)
              have q6 : x7_1 < (a0.size : Int) := of_decide_eq_true (by first | (with_reducible assumption) | assumption)
              have hx6 := bt_at a0 x7_1
              replace p6 := eq_true p6
              replace q6 := eq_true q6
              go_wp2
              go_meet
              case rel => exact ⟨_, (((bt a0 x7_1) != 46)), (by first | rfl | (simp; done) | (simp [*]; done)), H', ⟨by have := HK1.out; first | omega | exact Nat.le_refl _⟩, ⟨by repeat (first | (with_reducible first | exact HB.out | apply below_alloc | apply pw_below_drewN | apply below_drew1) | exact HB.out)⟩⟩
            · rw [if_neg c5] at H
              exact absurd H (by simp)
          · rw [if_neg c4] at H
            have c4b0 : decide (x7_1 < (a0.size : Int)) = false := decide_eq_false c4
            clear c4
            (first | rw [c4b0] | (simp only [i64_w, i32_w]; rw [c4b0]) | skip)
            have H' := Aside0.mk H
            clear H
            go_wp2
            go_meet
            case rel => exact ⟨_, (false), (by first | rfl | (simp; done) | (simp [*]; done)), H', ⟨by have := HK1.out; first | omega | exact Nat.le_refl _⟩, ⟨by repeat (first | (with_reducible first | exact HB.out | apply below_alloc | apply pw_below_drewN | apply below_drew1) | exact HB.out)⟩⟩
        case rest =>
          clear HC3
          try clear c2
          try clear c2b0
          try clear p2
          try clear c4
          try clear c4b0
          try clear c5
          try clear c5b0
          try clear p6
          try clear q6
          try clear hx6
          try clear p6
          try clear q6
          obtain ⟨kq, x25_2, rfl, HA, HJ2, HB⟩ := hcut
          cases kq with
          | zero => exact absurd HA.out (by simp [virgateref01_Parse.j1])
          | succ kj2 =>
            have H := HA.out
            clear HA
            simp only [virgateref01_Parse.j1] at H
            by_cases c7 : x25_2 = true
            · subst c7
              have H1 : (if 0 ≤ x7_1 then (if x7_1 ≤ (wrap64 (x7_1 + 1)) then (if (wrap64 (x7_1 + 1)) ≤ (a0.size : Int) then (if x6_1.size + (a0.extract (x7_1 : Int).toNat ((wrap64 (x7_1 + 1)) : Int).toNat).size ≤ 9223372036854775807 then (virgateref01_Parse.l0 kj2 a0 x4_1 x5_1 (x6_1 ++ (a0.extract (x7_1 : Int).toNat ((wrap64 (x7_1 + 1)) : Int).toNat)) (wrap64 (x7_1 + 1))) else (none)) else (none)) else (none)) else (none)) = some (r1, r2) := by rw [if_pos rfl] at H; exact H
              clear H
              have H := H1
              clear H1
              by_cases c8 : 0 ≤ x7_1
              · rw [if_pos c8] at H
                have c8b0 := eq_true c8
                have c8b1 : decide (0 ≤ x7_1) = true := decide_eq_true c8
                clear c8
                by_cases c9 : x7_1 ≤ (wrap64 (x7_1 + 1))
                · rw [if_pos c9] at H
                  have c9b0 := eq_true c9
                  have c9b1 : decide (x7_1 ≤ (wrap64 (x7_1 + 1))) = true := decide_eq_true c9
                  by_cases c10 : (wrap64 (x7_1 + 1)) ≤ (a0.size : Int)
                  · rw [if_pos c10] at H
                    have c10b0 := eq_true c10
                    have c10b1 : decide ((wrap64 (x7_1 + 1)) ≤ (a0.size : Int)) = true := decide_eq_true c10
                    by_cases c11 : x6_1.size + (a0.extract (x7_1 : Int).toNat ((wrap64 (x7_1 + 1)) : Int).toNat).size ≤ 9223372036854775807
                    · rw [if_pos c11] at H
                      have c11b0 := eq_true c11
                      have c11b1 : decide (x6_1.size + (a0.extract (x7_1 : Int).toNat ((wrap64 (x7_1 + 1)) : Int).toNat).size ≤ 9223372036854775807) = true := decide_eq_true c11
                      try have c11b2 : (9223372036854775807 < x6_1.size + (a0.extract (x7_1 : Int).toNat ((wrap64 (x7_1 + 1)) : Int).toNat).size) = False := eq_false (Nat.not_lt.2 c11)
                      have H' := Aside0.mk H
                      clear H
                      go_wp2
                      go_roundg kj2
                      case measure => have := HK1.out; have := HJ2.out; omega
                      case rel => exact ⟨(x4_1), (x5_1), (x6_1 ++ (a0.extract (x7_1 : Int).toNat ((wrap64 (x7_1 + 1)) : Int).toNat)), (wrap64 (x7_1 + 1)), (by first | rfl | (simp; done) | (simp [*]; done)), (by first | rfl | (simp; done) | (simp [*]; done)), (by first | rfl | (simp; done) | (simp [*]; done)), (by first | rfl | (simp; done) | (simp [*]; done)), H', ⟨by have := HK1.out; have := HJ2.out; omega⟩, ⟨by repeat (first | (with_reducible first | exact HB.out | apply below_alloc | apply pw_below_drewN | apply below_drew1) | exact HB.out)⟩⟩
                    · rw [if_neg c11] at H
                      exact absurd H (by simp)
                  · rw [if_neg c10] at H
                    exact absurd H (by simp)
                · rw [if_neg c9] at H
                  exact absurd H (by simp)
              · rw [if_neg c8] at H
                exact absurd H (by simp)
            · replace c7 := Bool.eq_false_iff.mpr c7
              subst c7
              have H1 : ((virgateref01_Value.f kj2 x6_1 255).bind fun bt22101 => (if bt22101.2 = true then (if (wrap64 (x5_1 + 1)) > 4 then (some (0, false)) else (virgateref01_Parse.l0 kj2 a0 (wrap64 ((wrap64 (256 * x4_1)) + bt22101.1)) (wrap64 (x5_1 + 1)) (⟨#[]⟩ : ByteArray) (wrap64 (x7_1 + 1)))) else (some (0, false)))) = some (r1, r2) := by rw [if_neg (show ¬ (false = true) by decide)] at H; exact H
              clear H
              have H := H1
              clear H1
              replace H := Option.bind_eq_some_iff.mp H
              obtain ⟨⟨t22101, t22102⟩, A120, H⟩ := H
              replace H : (if t22102 = true then (if (wrap64 (x5_1 + 1)) > 4 then (some (0, false)) else (virgateref01_Parse.l0 kj2 a0 (wrap64 ((wrap64 (256 * x4_1)) + t22101)) (wrap64 (x5_1 + 1)) (⟨#[]⟩ : ByteArray) (wrap64 (x7_1 + 1)))) else (some (0, false))) = some (r1, r2) := H
              have A12 := Aside0.mk A120
              clear A120
              by_cases c13 : t22102 = true
              · subst c13
                have H1 : (if (wrap64 (x5_1 + 1)) > 4 then (some (0, false)) else (virgateref01_Parse.l0 kj2 a0 (wrap64 ((wrap64 (256 * x4_1)) + t22101)) (wrap64 (x5_1 + 1)) (⟨#[]⟩ : ByteArray) (wrap64 (x7_1 + 1)))) = some (r1, r2) := by rw [if_pos rfl] at H; exact H
                clear H
                have H := H1
                clear H1
                by_cases c14 : (wrap64 (x5_1 + 1)) > 4
                · rw [if_pos c14] at H
                  have c14b0 : decide (4 < (wrap64 (x5_1 + 1))) = true := decide_eq_true c14
                  clear c14
                  simp only [Option.some.injEq, Prod.mk.injEq] at H
                  obtain ⟨rfl, rfl⟩ := H
                  go_wp2_with (first | ((with_reducible refine gate_callee (f := 79) rfl ?_); refine goesL_ (some 35) rfl rfl Tryd.func79 (by kernel_rfl) rfl #[.string x6_1, .int .i64 255] rfl (by (try simp only [List.map_toArray, List.map_cons, List.map_nil]); first | done | rfl | (simp only [List.length_drop, List.length_take]; rfl)) ?_; (with_reducible refine (virgateref01_Value.calls kj2 x6_1 255 t22101 true _ A12.out).mono ?_); rintro e w15 ⟨rfl, hb⟩; refine ⟨_, rfl, ?_⟩; have n0_ := Aside0.mk (below_step (by repeat (first | (with_reducible first | exact HB.out | apply below_alloc | apply pw_below_drewN | apply below_drew1) | exact HB.out)) hb); clear HB; have HB := n0_; clear n0_; (try clear hb); (try clear hb2); (try clear hk); (try clear hi)))
                  go_ret2
                  exact ⟨by first | rfl | (simp [errW_none, errW_some] <;> rfl) | (simp [*, errW_none, errW_some] <;> rfl), by repeat (first | (with_reducible first | exact HB.out | apply below_alloc | apply pw_below_drewN | apply below_drew1) | exact HB.out)⟩
                · rw [if_neg c14] at H
                  have c14b0 : decide (4 < (wrap64 (x5_1 + 1))) = false := decide_eq_false c14
                  clear c14
                  have H' := Aside0.mk H
                  clear H
                  go_wp2_with (first | ((with_reducible refine gate_callee (f := 79) rfl ?_); refine goesL_ (some 35) rfl rfl Tryd.func79 (by kernel_rfl) rfl #[.string x6_1, .int .i64 255] rfl (by (try simp only [List.map_toArray, List.map_cons, List.map_nil]); first | done | rfl | (simp only [List.length_drop, List.length_take]; rfl)) ?_; (with_reducible refine (virgateref01_Value.calls kj2 x6_1 255 t22101 true _ A12.out).mono ?_); rintro e w16 ⟨rfl, hb⟩; refine ⟨_, rfl, ?_⟩; have n0_ := Aside0.mk (below_step (by repeat (first | (with_reducible first | exact HB.out | apply below_alloc | apply pw_below_drewN | apply below_drew1) | exact HB.out)) hb); clear HB; have HB := n0_; clear n0_; (try clear hb); (try clear hb2); (try clear hk); (try clear hi)))
                  go_roundg kj2
                  case measure => have := HK1.out; have := HJ2.out; omega
                  case rel => exact ⟨(wrap64 ((wrap64 (256 * x4_1)) + t22101)), (wrap64 (x5_1 + 1)), ((⟨#[]⟩ : ByteArray)), (wrap64 (x7_1 + 1)), (by first | rfl | (simp; done) | (simp [*]; done)), (by first | rfl | (simp; done) | (simp [*]; done)), (by first | rfl | (simp; done) | (simp [*]; done)), (by first | rfl | (simp; done) | (simp [*]; done)), H', ⟨by have := HK1.out; have := HJ2.out; omega⟩, ⟨by repeat (first | (with_reducible first | exact HB.out | apply below_alloc | apply pw_below_drewN | apply below_drew1) | exact HB.out)⟩⟩
              · replace c13 := Bool.eq_false_iff.mpr c13
                subst c13
                have H1 : (some (0, false)) = some (r1, r2) := by rw [if_neg (show ¬ (false = true) by decide)] at H; exact H
                clear H
                have H := H1
                clear H1
                simp only [Option.some.injEq, Prod.mk.injEq] at H
                obtain ⟨rfl, rfl⟩ := H
                go_wp2_with (first | ((with_reducible refine gate_callee (f := 79) rfl ?_); refine goesL_ (some 35) rfl rfl Tryd.func79 (by kernel_rfl) rfl #[.string x6_1, .int .i64 255] rfl (by (try simp only [List.map_toArray, List.map_cons, List.map_nil]); first | done | rfl | (simp only [List.length_drop, List.length_take]; rfl)) ?_; (with_reducible refine (virgateref01_Value.calls kj2 x6_1 255 t22101 false _ A12.out).mono ?_); rintro e w17 ⟨rfl, hb⟩; refine ⟨_, rfl, ?_⟩; have n0_ := Aside0.mk (below_step (by repeat (first | (with_reducible first | exact HB.out | apply below_alloc | apply pw_below_drewN | apply below_drew1) | exact HB.out)) hb); clear HB; have HB := n0_; clear n0_; (try clear hb); (try clear hb2); (try clear hk); (try clear hi)))
                go_ret2
                exact ⟨by first | rfl | (simp [errW_none, errW_some] <;> rfl) | (simp [*, errW_none, errW_some] <;> rfl), by repeat (first | (with_reducible first | exact HB.out | apply below_alloc | apply pw_below_drewN | apply below_drew1) | exact HB.out)⟩
      · rw [if_neg c2] at H
        have c2b0 : decide (x7_1 ≤ (a0.size : Int)) = false := decide_eq_false c2
        clear c2
        by_cases c18 : x5_1 = 4
        · rw [if_pos c18] at H
          have c18b0 : (x5_1 == 4) = true := beq_iff_eq.mpr c18
          have c18b1 : (x5_1 != 4) = false := bne_eq_false_iff_eq.mpr c18
          clear c18
          simp only [Option.some.injEq, Prod.mk.injEq] at H
          obtain ⟨rfl, rfl⟩ := H
          go_wp2
          go_ret2
          exact ⟨by first | rfl | (simp [errW_none, errW_some] <;> rfl) | (simp [*, errW_none, errW_some] <;> rfl), by repeat (first | (with_reducible first | exact HB.out | apply below_alloc | apply pw_below_drewN | apply below_drew1) | exact HB.out)⟩
        · rw [if_neg c18] at H
          have c18b0 : (x5_1 == 4) = false := beq_eq_false_iff_ne.mpr c18
          have c18b1 : (x5_1 != 4) = true := bne_iff_ne.mpr c18
          simp only [Option.some.injEq, Prod.mk.injEq] at H
          obtain ⟨rfl, rfl⟩ := H
          go_wp2
          go_ret2
          exact ⟨by first | rfl | (simp [errW_none, errW_some] <;> rfl) | (simp [*, errW_none, errW_some] <;> rfl), by repeat (first | (with_reducible first | exact HB.out | apply below_alloc | apply pw_below_drewN | apply below_drew1) | exact HB.out)⟩
end Go.Proofs.YtcdopgkkieenjaaDoor.V
end

-- IParseP
section
/- What text is an address: the plain law; the document's Parse. -/
namespace Go.Proofs.YtcdopgkkieenjaaDoor.V
open Go.RowKit Go.Proofs.YtcdopgkkieenjaaDoorW.PrintWords Go.Proofs.YtcdopgkkieenjaaDoorW.PrintLast Go.Proofs.YtcdopgkkieenjaaDoorW.PrintMore
set_option linter.unusedVariables false
set_option linter.unusedSimpArgs false

/-- Which address a text is. -/
def ipOfP : List (List UInt8) → Option Nat
  | [a, b, c, d] => (byteOf a).bind fun a => (byteOf b).bind fun b => (byteOf c).bind fun c => (byteOf d).bind fun d => some (((a * 256 + b) * 256 + c) * 256 + d)
  | _ => none
def ipOf (s : List UInt8) : Option Nat := ipOfP (cutAt 46 s)
end Go.Proofs.YtcdopgkkieenjaaDoor.V
end

-- IBytes
section
/- ip.Bytes and ip.Of by hand: four bytes of an address. -/
namespace Go.Proofs.YtcdopgkkieenjaaDoor.V
open Go.RowKit Go.Proofs.YtcdopgkkieenjaaDoorW.PrintWords Go.Proofs.YtcdopgkkieenjaaDoorW.PrintLast Go.Proofs.YtcdopgkkieenjaaDoorW.PrintMore
set_option linter.unusedVariables false
set_option linter.unusedSimpArgs false

/-- Byte i of an address. -/
def byteAt (a i : Nat) : Nat := a / 2 ^ (8 * (3 - i)) % 256
def bytesTo (a : Nat) (j : Nat) : List Value := (List.range 4).map fun i => .int .u8 (if i < j then (byteAt a i : Int) else 0)
def bytesOf (a : Nat) : List Int := [(byteAt a 0 : Int), (byteAt a 1 : Int), (byteAt a 2 : Int), (byteAt a 3 : Int)]
theorem bytesTo_set (a j : Nat) (hj : j < 4) : (bytesTo a j).set j (.int .u8 (byteAt a j : Int)) = bytesTo a (j + 1) := by
  match j, hj with
  | 0, _ => simp [bytesTo, List.range_succ_eq_map]
  | 1, _ => simp [bytesTo, List.range_succ_eq_map]
  | 2, _ => simp [bytesTo, List.range_succ_eq_map]
  | 3, _ => simp [bytesTo, List.range_succ_eq_map]
theorem bytesTo_all (a : Nat) : bytesTo a 4 = (bytesOf a).map (Value.int .u8) := by simp [bytesTo, bytesOf, List.range_succ_eq_map]
set_option maxHeartbeats 2000000 in
set_option maxRecDepth 100000 in
theorem bytes_any (a : Nat) (ha : a < 4294967296) (w : World) :
    Calls Tryd.prog 23 #[.int .u32 (a : Int)] w fun e w' => e = .returned (.agg ((bytesOf a).map (Value.int .u8)).toArray) ∧ Below w.heap.size w w' := by
  have HA := Aside0.mk ha
  clear ha
  go_enter Tryd.func23, Tryd.ntmps23
  go_wp2
  go_loopw [5] (fun i W => ∃ j : Nat, j ≤ 4 ∧ i = .int .i64 j ∧ Aside0 (Box W (w.heap.size + 1) (bytesTo a j) 32) ∧ Aside0 (Box W w.heap.size (bytesTo a 0) 32) ∧ Aside0 (Below w.heap.size w W)) (fun i _ => 4 - (intOf i).toNat)
  case atStart => exact ⟨0, by omega, rfl, ⟨by have := heap_alloc_new (w.alloc (.cells #[Value.int .u8 0, Value.int .u8 0, Value.int .u8 0, Value.int .u8 0] 32)) (.cells #[Value.int .u8 0, Value.int .u8 0, Value.int .u8 0, Value.int .u8 0] 32); simpa [Box, bytesTo, List.range_succ_eq_map] using this⟩, ⟨Box.alloc (show Box (w.alloc _) w.heap.size (bytesTo a 0) _ from heap_alloc_new w _) _⟩, ⟨by repeat (first | apply below_alloc | exact Below.refl _ _)⟩⟩
  case round =>
    obtain ⟨j, hj, rfl, H1, H0, HB⟩ := hrel
    obtain ⟨W, rfl⟩ : ∃ W : World, W = wr := ⟨_, rfl⟩
    by_cases hj2 : j < 4
    · have hjb : decide ((j : Int) < 4) = true := by simp; omega
      have hc := H1.out.cell j _ (show (bytesTo a j)[j]? = some (.int .u8 0) by
        simp [bytesTo, List.getElem?_map, List.getElem?_range hj2])
      have hf := H1.out.frozen j
      go_wp2
      have hv : (↑a / 2 ^ (8 * (3 - j)) % 256 : Int) = ((byteAt a j : Nat) : Int) := by simp [byteAt]
      rw [hv]
      exact ⟨⟨j + 1, by omega, by go_num, ⟨by rw [← bytesTo_set a j hj2]; exact H1.out.set j _⟩, ⟨H0.out.far (by simp) _⟩, ⟨HB.out.setCell (by simp) _⟩⟩, by simp [intOf]; omega⟩
    · have hjb : decide ((j : Int) < 4) = false := by simp; omega
      obtain rfl : j = 4 := by omega
      go_wp2_with (first | (refine step_load rfl 32 (.tmp 3) rfl (w.heap.size + 1) rfl _ _ _ H1.out Tryd.underlying32 rfl 4 (by kernel_rfl) (by simp [bytesTo]) ?_) | (refine step_store rfl 32 (.tmp 2) (.tmp 17) rfl w.heap.size (bytesTo a 4) rfl rfl _ _ H0.out 4 (by kernel_rfl) (by simp [bytesTo]) (by simp [bytesTo]) (by intro v hv; simp [bytesTo] at hv; obtain ⟨i, _, rfl⟩ := hv; rfl) ?_; intro W1 hb1 hg1))
      exact bodyPost_ret (results_cell_row rfl _ _ w.heap.size 32 _ (0, 0) _ rfl hb1 Tryd.underlying32 rfl (by kernel_rfl)) rfl ⟨by rw [bytesTo_all], HB.out.grown hg1 HB.out.size (by intro k hk; cases hk; omega)⟩
theorem or_byte (n b : Nat) (hn : n < 16777216) (hb : b < 256) : bits .or .u32 ((n : Int) * 256 % 4294967296) ((b : Int) % 4294967296) = ((n * 256 + b : Nat) : Int) := by
  rw [show (n : Int) * 256 % 4294967296 = ((n * 256 : Nat) : Int) by omega, show (b : Int) % 4294967296 = (b : Int) by omega, u32_or_nat _ _ (by omega) (by omega), nat_join 8 _ _ (by omega) (by omega)]
theorem or_zero (b : Nat) (hb : b < 256) : bits .or .u32 0 ((b : Int) % 4294967296) = (b : Int) := by
  have := or_byte 0 b (by omega) hb
  simpa using this
set_option maxHeartbeats 2000000 in
set_option maxRecDepth 100000 in
theorem of_any (b0 b1 b2 b3 : Nat) (h0 : b0 < 256) (h1 : b1 < 256) (h2 : b2 < 256) (h3 : b3 < 256) (w : World) :
    Calls Tryd.prog 25 #[.agg #[.int .u8 (b0 : Int), .int .u8 (b1 : Int), .int .u8 (b2 : Int), .int .u8 (b3 : Int)]] w fun e w' => e = .returned (.int .u32 ((((b0 * 256 + b1) * 256 + b2) * 256 + b3 : Nat) : Int)) ∧ Below w.heap.size w w' := by
  have HA := Aside0.mk (And.intro h0 (And.intro h1 (And.intro h2 h3)))
  clear h0 h1 h2 h3
  go_enter Tryd.func25, Tryd.ntmps25
  have hi := fun (w : World) (i : Nat) (h : i < 4) => run_index_arr (P := Tryd.prog) w 32 5 4 .u8 Tryd.underlying32 Tryd.underlying5 (fun _ => by kernel_rfl) [(b0 : Int), (b1 : Int), (b2 : Int), (b3 : Int)] rfl i h
  have hi0 : ∀ w, (Instr.index 32 (.agg #[.int .u8 (b0 : Int), .int .u8 (b1 : Int), .int .u8 (b2 : Int), .int .u8 (b3 : Int)]) (.int .i64 0)).run Tryd.prog w = .ok (.int .u8 (b0 : Int)) w := fun w => hi w 0 (by decide)
  have hi1 : ∀ w, (Instr.index 32 (.agg #[.int .u8 (b0 : Int), .int .u8 (b1 : Int), .int .u8 (b2 : Int), .int .u8 (b3 : Int)]) (.int .i64 1)).run Tryd.prog w = .ok (.int .u8 (b1 : Int)) w := fun w => hi w 1 (by decide)
  have hi2 : ∀ w, (Instr.index 32 (.agg #[.int .u8 (b0 : Int), .int .u8 (b1 : Int), .int .u8 (b2 : Int), .int .u8 (b3 : Int)]) (.int .i64 2)).run Tryd.prog w = .ok (.int .u8 (b2 : Int)) w := fun w => hi w 2 (by decide)
  have hi3 : ∀ w, (Instr.index 32 (.agg #[.int .u8 (b0 : Int), .int .u8 (b1 : Int), .int .u8 (b2 : Int), .int .u8 (b3 : Int)]) (.int .i64 3)).run Tryd.prog w = .ok (.int .u8 (b3 : Int)) w := fun w => hi w 3 (by decide)
  clear hi
  go_wp2
  go_rounds 5
  go_ret
  refine ⟨?_, below_alloc (Below.refl _ _) _⟩
  obtain ⟨h0, h1, h2, h3⟩ := HA.out
  rw [or_zero b0 h0, or_byte b0 b1 (by omega) h1, or_byte _ b2 (by omega) h2, or_byte _ b3 (by omega) h3]
  rfl
end Go.Proofs.YtcdopgkkieenjaaDoor.V
end

-- IPrint
section
/- ip.Print by hand: the four bytes' texts, joined by full stops. -/
namespace Go.Proofs.YtcdopgkkieenjaaDoor.V
open Go.RowKit Go.Proofs.YtcdopgkkieenjaaDoorW.PrintWords Go.Proofs.YtcdopgkkieenjaaDoorW.PrintLast Go.Proofs.YtcdopgkkieenjaaDoorW.PrintMore
set_option linter.unusedVariables false
set_option linter.unusedSimpArgs false

theorem join_R {base : Nat} {ok : Nat → Prop} {v : Value} (xs : List ByteArray) (sep : ByteArray) (w : World) (h : Kd.R Kd.string 9 w base ok v xs) (h0 : 0 < xs.length) (hN : xs.length ≤ 140737488355328)
    (hlen : (Lib.join (xs.map (·.data.toList)) sep.data.toList).length ≤ 140737488355328) :
    Calls Tryd.prog 75 #[v, .string sep] w fun e w' => e = .returned (.string ⟨(Lib.join (xs.map (·.data.toList)) sep.data.toList).toArray⟩) ∧ Below w.heap.size w w' := by
  obtain ⟨hl, hx⟩ := Kd.own_of_R h
  rcases hx with ⟨_, hn⟩ | ⟨g, cap, cur, rfl, hb, hg, hc, hm, hz, ht⟩
  · omega
  refine Tryd.strings_Join g 0 cap xs sep w (fun j x hj => ?_) (Array.getElem?_eq_some_iff.1 hg).1 hN hc hlen
  rw [cell_of_row w g (0 + j) _ _ (0, 0) hg, Nat.zero_add]
  have hj2 : j < xs.length := (List.getElem?_eq_some_iff.1 hj).1
  have e : (encs Value.string xs)[j]? = some (.string x) := by simp [encs, hj]
  rw [← ht, List.getElem?_take_of_lt (by omega)] at e
  simpa using e
theorem dig_any (n : Nat) (hn : n < 256) (w : World) : Calls Tryd.prog 74 #[.int .u8 (n : Int)] w fun e w' => e = .returned (.string (decB n)) ∧ Below w.heap.size w w' :=
  ip_digits.calls 5 _ _ w (by have := List.all_eq_true.1 dig_all n (List.mem_range.2 hn); simpa using this)
def textsOf (a : Nat) : List ByteArray := [decB (byteAt a 0), decB (byteAt a 1), decB (byteAt a 2), decB (byteAt a 3)]
/-- An address's text. -/
def ipText (a : Nat) : ByteArray := ⟨(Lib.join ((textsOf a).map (·.data.toList)) [46]).toArray⟩
theorem byteAt_lt (a i : Nat) : byteAt a i < 256 := Nat.mod_lt _ (by decide)
theorem textsOf_get (a j : Nat) (hj : j < 4) : (textsOf a)[j]? = some (decB (byteAt a j)) := by
  match j, hj with
  | 0, _ => rfl
  | 1, _ => rfl
  | 2, _ => rfl
  | 3, _ => rfl
theorem textsOf_take (a j : Nat) (hj : j < 4) : (textsOf a).take (j + 1) = (textsOf a).take j ++ [decB (byteAt a j)] := by
  rw [List.take_add_one, textsOf_get a j hj]
  rfl
theorem bytesOf_get (a j : Nat) (hj : j < 4) : (bytesOf a).getD j 0 = (byteAt a j : Int) := by
  match j, hj with
  | 0, _ => rfl
  | 1, _ => rfl
  | 2, _ => rfl
  | 3, _ => rfl
theorem ipText_length (a : Nat) : (Lib.join ((textsOf a).map (·.data.toList)) [46]).length ≤ 15 := by
  have h := Lib.join_length (decL (byteAt a 0)) [decL (byteAt a 1), decL (byteAt a 2), decL (byteAt a 3)] [46]
  have e : (textsOf a).map (·.data.toList) = [decL (byteAt a 0), decL (byteAt a 1), decL (byteAt a 2), decL (byteAt a 3)] := by simp [textsOf, decB]
  rw [e, h]
  have h0 := decL_length (byteAt a 0); have h1 := decL_length (byteAt a 1); have h2 := decL_length (byteAt a 2); have h3 := decL_length (byteAt a 3)
  simp [Lib.lens]
  omega
set_option maxHeartbeats 2000000 in
set_option maxRecDepth 100000 in
theorem ipPrint_any (a : Nat) (ha : a < 4294967296) (w : World) :
    Calls Tryd.prog 18 #[.int .u32 (a : Int)] w fun e w' => e = .returned (.string (ipText a)) ∧ Below w.heap.size w w' := by
  have HA := Aside0.mk ha
  clear ha
  go_enter Tryd.func18, Tryd.ntmps18
  go_wp2_with (go_at_call 23; refine (bytes_any a HA.out _).mono ?_; rintro e W0 ⟨rfl, hb0⟩)
  go_loopw [3, 8] (fun v i W => ∃ j : Nat, j ≤ 4 ∧ i = .int .i64 j ∧ Aside0 (Kd.R Kd.string 9 W w.heap.size (fun _ => True) v ((textsOf a).take j)) ∧ Aside0 (Below w.heap.size w W)) (fun _ i _ => 4 - (intOf i).toNat)
  case atStart => exact ⟨0, by omega, rfl, ⟨Kd.R_nil _ _ _ _ _⟩, ⟨hb0⟩⟩
  case round =>
    obtain ⟨j, hj, rfl, HO, HB⟩ := hrel
    obtain ⟨W, rfl⟩ : ∃ W : World, W = wr := ⟨_, rfl⟩
    by_cases hj2 : j < 4
    · have hjb : decide ((j : Int) < 4) = true := by simp; omega
      have hi : ∀ w, (Instr.index 32 (.agg ((bytesOf a).map (Value.int .u8)).toArray) (.int .i64 (j : Int))).run Tryd.prog w = .ok (.int .u8 (byteAt a j : Int)) w := fun w => by
        rw [← bytesOf_get a j hj2]
        exact run_index_arr (P := Tryd.prog) w 32 5 4 .u8 Tryd.underlying32 Tryd.underlying5 (fun _ => by kernel_rfl) (bytesOf a) rfl j hj2
      have HL := Aside0.mk (show ((textsOf a).take j).length ≤ 4 by simp [textsOf]; omega)
      have HF := Aside0.mk (textsOf_take a j hj2)
      go_wp2_with (first | (go_at_call 74; refine (dig_any _ (byteAt_lt a j) _).mono ?_; rintro e W1 ⟨rfl, hb1⟩; have HO1 := Aside0.mk (Kd.R_below HO.out hb1); have HB1 := Aside0.mk (HB.out.trans (hb1.mono HB.out.size)); clear hb1) | ((with_reducible refine gate_builtin (b := .append) (xs := #[.tmp 11, .tmp 14]) rfl ?_); at_builtin; refine Kd.R_append Kd.string (w0 := w) w.heap.size rfl (.tmp 11) (.tmp 14) 84 9 (.string ⟨#[]⟩) 16 rfl Tryd.underlying84 info9 rfl (by decide) (by omega) u3 ((textsOf a).take j) (decB (byteAt a j)) [.string (decB (byteAt a j))] (fun _ => True) (fun _ => False) rfl rfl ?aP (fun _ hk => hk.elim) ?aF ?aO ?aB ?aS ?aL ?_; (case aP => rfl); (case aB => exact HB1.out); (case aF => exact (fun _ _ => trivial)); (case aO => exact HO1.out); (case aS => exact HB1.out.size); (case aL => have := HL.out; omega); intro v1 w1 ho hb hg hat; rw [← HF.out] at ho; have HO2 := Aside0.mk ho; have HB3 := Aside0.mk hb; clear ho hb hg hat))
      exact ⟨⟨j + 1, by omega, by go_num, HO2, HB3⟩, by simp [intOf]; omega⟩
    · have hjb : decide ((j : Int) < 4) = false := by simp; omega
      obtain rfl : j = 4 := by omega
      have HJ := Aside0.mk (show Kd.R Kd.string 9 W w.heap.size (fun _ => True) u3 (textsOf a) from HO.out)
      go_wp2_with (go_at_call 75; refine (join_R (textsOf a) ⟨#[46]⟩ W HJ.out (by simp [textsOf]) (by simp [textsOf]) (Nat.le_trans (ipText_length a) (by omega))).mono ?_; rintro e W1 ⟨rfl, hb1⟩)
      go_ret
      exact ⟨rfl, HB.out.trans (hb1.mono HB.out.size)⟩
end Go.Proofs.YtcdopgkkieenjaaDoor.V
end

-- IParse
section
/- ip.Parse by hand. -/
namespace Go.Proofs.YtcdopgkkieenjaaDoor.V
open Go.RowKit Go.Proofs.YtcdopgkkieenjaaDoorW.PrintWords Go.Proofs.YtcdopgkkieenjaaDoorW.PrintLast Go.Proofs.YtcdopgkkieenjaaDoorW.PrintMore
set_option linter.unusedVariables false
set_option linter.unusedSimpArgs false

def arrTo (f : Nat → Nat) (j : Nat) : List Value := (List.range 4).map fun i => .int .u8 (if i < j then (f i : Int) else 0)
theorem arrTo_set (f : Nat → Nat) (j : Nat) (hj : j < 4) : (arrTo f j).set j (.int .u8 (f j : Int)) = arrTo f (j + 1) := by
  match j, hj with
  | 0, _ => simp [arrTo, List.range_succ_eq_map]
  | 1, _ => simp [arrTo, List.range_succ_eq_map]
  | 2, _ => simp [arrTo, List.range_succ_eq_map]
  | 3, _ => simp [arrTo, List.range_succ_eq_map]
theorem val_any (s : ByteArray) (w : World) : Calls Tryd.prog 77 #[.string s] w fun e w' => ∃ r : Int × Bool, valOk s r ∧ e = .returned (.tuple #[.int .u8 r.1, .bool r.2]) ∧ Below w.heap.size w w' := by
  obtain ⟨r, h1, h2⟩ := val_f s 12 (Nat.le_refl _)
  exact (ip_value.calls 12 s r.1 r.2 w h1).mono fun e w' ⟨h3, h4⟩ => ⟨r, h2, h3, h4⟩
theorem val_ok (s : ByteArray) (n : Nat) (h : byteOf s.data.toList = some n) (w : World) : Calls Tryd.prog 77 #[.string s] w fun e w' => e = .returned (.tuple #[.int .u8 (n : Int), .bool true]) ∧ Below w.heap.size w w' :=
  (val_any s w).mono fun e w' ⟨r, h1, h2, h3⟩ => ⟨by unfold valOk at h1; rw [h] at h1; rw [h2, h1], h3⟩
theorem val_no (s : ByteArray) (h : byteOf s.data.toList = none) (w : World) : Calls Tryd.prog 77 #[.string s] w fun e w' => ∃ x, e = .returned (.tuple #[.int .u8 x, .bool false]) ∧ Below w.heap.size w w' :=
  (val_any s w).mono fun e w' ⟨r, h1, h2, h3⟩ => ⟨r.1, by unfold valOk at h1; rw [h] at h1; rw [h2, h1], h3⟩
/-- Which address a text is, as ip.Parse says it. -/
def parseR (s : ByteArray) : Int × Int := match ipOf s.data.toList with
  | some v => ((v : Int), 0)
  | none => (0, 3)
/-- The pieces of a text. -/
def piecesB (s : ByteArray) : List ByteArray := Lib.splitB ⟨#[46]⟩ 0 (Lib.countB s ⟨#[46]⟩) s
theorem piecesB_data (s : ByteArray) : (piecesB s).map (·.data.toList) = cutAt 46 s.data.toList := pieces_eq s 46
def pieceVal (s : ByteArray) (i : Nat) : Nat := (byteOf ((piecesB s).getD i ⟨#[]⟩).data.toList).getD 0
set_option maxHeartbeats 2000000 in
set_option maxRecDepth 100000 in
theorem parse_any (s : ByteArray) (hs : s.size < 4294967281) (w : World) :
    Calls Tryd.prog 19 #[.string s] w fun e w' => e = .returned (.tuple #[.int .u32 (parseR s).1, .int .i64 (parseR s).2]) ∧ Below w.heap.size w w' := by
  obtain ⟨ps, hps⟩ : ∃ ps, piecesB s = ps := ⟨_, rfl⟩
  have hsp := split_one s 46 w hs
  rw [show Lib.splitB ⟨#[46]⟩ 0 (Lib.countB s ⟨#[46]⟩) s = ps from hps] at hsp
  by_cases h4 : ps.length = 4
  · have hlen := h4
    have hl4 : ((ps.length : Int) == 4) = true := by simp; omega
    have HR : Aside0 (∀ i (hi : i < 4), (piecesB s).getD i ⟨#[]⟩ = ps.getD i ⟨#[]⟩) := ⟨fun i hi => by rw [hps]⟩
    have HP := Aside0.mk hps
    clear hps
    go_enter Tryd.func19, Tryd.ntmps19
    go_wp2_with (go_at_call 76; refine hsp.mono ?_; rintro e w' ⟨rfl, rfl⟩)
    go_loopw [17] (fun i W => ∃ j : Nat, j ≤ 4 ∧ i = .int .i64 j ∧ Aside0 (Box W (w.heap.size + 1) (arrTo (pieceVal s) j) 32) ∧ Aside0 (Box W w.heap.size (ps.map Value.string) 9) ∧ Aside0 (∀ i, i < j → byteOf (ps.getD i ⟨#[]⟩).data.toList = some (pieceVal s i)) ∧ Aside0 (Below w.heap.size w W)) (fun i _ => 4 - (intOf i).toNat)
    case atStart => exact ⟨0, by omega, rfl, ⟨by have := heap_alloc_new (w.alloc (.cells (List.map Value.string ps).toArray 9)) (.cells #[Value.int .u8 0, Value.int .u8 0, Value.int .u8 0, Value.int .u8 0] 32); simpa [Box, arrTo, List.range_succ_eq_map] using this⟩, ⟨Box.alloc (show Box (w.alloc _) w.heap.size (ps.map Value.string) _ from heap_alloc_new w _) _⟩, ⟨fun i hi => by omega⟩, ⟨by repeat (first | apply below_alloc | exact Below.refl _ _)⟩⟩
    case round =>
      obtain ⟨j, hj, rfl, H1, H0, HV, HB⟩ := hrel
      obtain ⟨W, rfl⟩ : ∃ W : World, W = wr := ⟨_, rfl⟩
      by_cases hj2 : j < 4
      · have hjb : decide ((j : Int) < 4) = true := by simp; omega
        obtain ⟨p, hp⟩ : ∃ p, ps[j]? = some p := ⟨ps[j]'(by omega), List.getElem?_eq_getElem (by omega)⟩
        have hpc := H0.out.cell j (.string p) (by simp [hp])
        have hc := H1.out.cell j (.int .u8 0) (show (arrTo (pieceVal s) j)[j]? = some (.int .u8 0) by simp [arrTo, List.getElem?_map, List.getElem?_range hj2])
        have hf := H1.out.frozen j
        have HG := Aside0.mk (show ps.getD j ⟨#[]⟩ = p by simp [List.getD, hp])
        have HPV := Aside0.mk (show pieceVal s j = (byteOf p.data.toList).getD 0 by unfold pieceVal; rw [HR.out j hj2, HG.out])
        cases hbp : byteOf p.data.toList with
        | none =>
          have HE := Aside0.mk (show parseR s = (0, 3) by
            unfold parseR ipOf
            rw [← piecesB_data, HP.out]
            match ps, h4, j, hj2, hp with
            | [a, b, c, d], _, 0, _, hp => simp at hp; subst hp; simp [ipOfP, hbp]
            | [a, b, c, d], _, 1, _, hp => simp at hp; subst hp; simp [ipOfP, hbp]
            | [a, b, c, d], _, 2, _, hp => simp at hp; subst hp; simp [ipOfP, hbp]
            | [a, b, c, d], _, 3, _, hp => simp at hp; subst hp; simp [ipOfP, hbp])
          clear hc hf
          go_wp2_with (go_at_call 77; refine (val_no p hbp _).mono ?_; rintro e W1 ⟨x, rfl, hb1⟩)
          go_ret2
          exact ⟨by rw [HE.out]; rfl, HB.out.trans (hb1.mono HB.out.size)⟩
        | some n =>
          have HN : Aside0 (byteOf (ps.getD j ⟨#[]⟩).data.toList = some (pieceVal s j)) := ⟨by rw [HG.out, HPV.out, hbp]; rfl⟩
          have hbq : byteOf p.data.toList = some (pieceVal s j) := by rw [← HG.out]; exact HN.out
          clear hc hf
          go_wp2_with (go_at_call 77; refine (val_ok p _ hbq _).mono ?_; rintro e W1 ⟨rfl, hb1⟩; have H11 := Aside0.mk (H1.out.below hb1); have H01 := Aside0.mk (H0.out.below hb1); have HB1 := Aside0.mk (HB.out.trans (hb1.mono HB.out.size)); have hc1 := H11.out.cell j (.int .u8 0) (show (arrTo (pieceVal s) j)[j]? = some (.int .u8 0) by simp [arrTo, List.getElem?_map, List.getElem?_range hj2]); have hf1 := H11.out.frozen j; clear hb1)
          exact ⟨⟨j + 1, by omega, by go_num, ⟨by rw [← arrTo_set _ j hj2]; exact H11.out.set j _⟩, ⟨H01.out.far (by simp) _⟩, ⟨fun i hi => by
            by_cases h : i < j
            · exact HV.out i h
            · obtain rfl : i = j := by omega
              exact HN.out⟩, ⟨HB1.out.setCell (by simp) _⟩⟩, by simp [intOf]; omega⟩
      · have hjb : decide ((j : Int) < 4) = false := by simp; omega
        obtain rfl : j = 4 := by omega
        have HE : Aside0 (parseR s = (((((pieceVal s 0 * 256 + pieceVal s 1) * 256 + pieceVal s 2) * 256 + pieceVal s 3 : Nat) : Int), 0)) := ⟨by
          unfold parseR ipOf
          rw [← piecesB_data, HP.out]
          have v0 := HV.out 0 (by omega); have v1 := HV.out 1 (by omega); have v2 := HV.out 2 (by omega); have v3 := HV.out 3 (by omega)
          match ps, h4 with
          | [a, b, c, d], _ => simp at v0 v1 v2 v3; simp [ipOfP, v0, v1, v2, v3]⟩
        have hlt : ∀ i, i < 4 → pieceVal s i < 256 := fun i hi => (byteOf_some (HV.out i hi)).1
        go_wp2_with (first | (refine step_load rfl 32 (.tmp 5) rfl (w.heap.size + 1) rfl _ _ _ H1.out Tryd.underlying32 rfl 4 (by kernel_rfl) (by simp [arrTo]) ?_; rw [show (arrTo (pieceVal s) 4).toArray = #[.int .u8 (pieceVal s 0 : Int), .int .u8 (pieceVal s 1 : Int), .int .u8 (pieceVal s 2 : Int), .int .u8 (pieceVal s 3 : Int)] by simp [arrTo, List.range_succ_eq_map]]) | (go_at_call 25; refine (of_any _ _ _ _ (hlt 0 (by omega)) (hlt 1 (by omega)) (hlt 2 (by omega)) (hlt 3 (by omega)) _).mono ?_; rintro e W1 ⟨rfl, hb1⟩))
        go_ret2
        exact ⟨by rw [HE.out]; rfl, HB.out.trans (hb1.mono HB.out.size)⟩
  · have hl4 : ((ps.length : Int) == 4) = false := by simp; omega
    have HE := Aside0.mk (show parseR s = (0, 3) by
      unfold parseR ipOf
      rw [← piecesB_data, hps]
      match ps, h4 with
      | [], _ => rfl
      | [a], _ => rfl
      | [a, b], _ => rfl
      | [a, b, c], _ => rfl
      | a :: b :: c :: d :: e :: r, _ => rfl)
    go_enter Tryd.func19, Tryd.ntmps19
    go_wp2_with (go_at_call 76; refine hsp.mono ?_; rintro e w' ⟨rfl, rfl⟩)
    go_ret2
    exact ⟨by rw [HE.out]; rfl, below_alloc (Below.refl _ _) _⟩
end Go.Proofs.YtcdopgkkieenjaaDoor.V
end

-- IMan
section
/- ip.Print and ip.Parse in the print's own form. -/
namespace Go.Proofs.YtcdopgkkieenjaaDoor.V
open Go.RowKit Go.Proofs.YtcdopgkkieenjaaDoorW.PrintWords Go.Proofs.YtcdopgkkieenjaaDoorW.PrintLast Go.Proofs.YtcdopgkkieenjaaDoorW.PrintMore
set_option linter.unusedVariables false

def ip_Print.f (a0 : Int) : Option ByteArray := if 0 ≤ a0 ∧ a0 < 4294967296 then some (ipText a0.toNat) else none
theorem ip_Print.calls (a0 : Int) (r : ByteArray) (w : World) (h : ip_Print.f a0 = some r) :
    Calls Tryd.prog 18 #[.int .u32 a0] w fun e w' => e = .returned (.string r) ∧ Below w.heap.size w w' := by
  unfold ip_Print.f at h
  split at h
  · rename_i hr
    obtain ⟨n, rfl⟩ : ∃ n : Nat, a0 = n := ⟨a0.toNat, by omega⟩
    obtain rfl := Option.some.inj h
    exact ipPrint_any n (by omega) w
  · cases h
def ip_Parse.f (a0 : ByteArray) : Option (Int × Int) := if a0.size < 4294967281 then some (parseR a0) else none
theorem ip_Parse.calls (a0 : ByteArray) (r1 r2 : Int) (w : World) (h : ip_Parse.f a0 = some (r1, r2)) :
    Calls Tryd.prog 19 #[.string a0] w fun e w' => e = .returned (.tuple #[.int .u32 r1, .int .i64 r2]) ∧ Below w.heap.size w w' := by
  unfold ip_Parse.f at h
  split at h
  · rename_i hr
    have e := Option.some.inj h
    refine (parse_any a0 hr w).mono fun e' w' ⟨h1, h2⟩ => ⟨?_, h2⟩
    rw [h1, e]
  · cases h
end Go.Proofs.YtcdopgkkieenjaaDoor.V
end

-- VFVirgatelaw01Awake
section
-- PRINTED by print.py (a twelfth state) out of the translation. Not trusted: Lean checks it.
namespace Go.Proofs.YtcdopgkkieenjaaDoor.V
open Go.RowKit Go.Proofs.YtcdopgkkieenjaaDoorW.PrintWords Go.Proofs.YtcdopgkkieenjaaDoorW.PrintLast Go.Proofs.YtcdopgkkieenjaaDoorW.PrintMore
attribute [local go_sem] max2_int min2_int max_two min_two max_three min_three max_four min_four   -- for this text's walks alone
set_option linter.unusedVariables false
set_option linter.unusedSimpArgs false

/-! ### virgatelaw01_awake: function 21 -/
def virgatelaw01_awake.f  : Option (Bool) := (ip_Parse.f (⟨#[49, 48, 46, 48, 46, 48, 46, 49]⟩ : ByteArray)).bind fun bt21101 => (if bt21101.1 = 167772161 then (if bt21101.2 = 0 then ((ip_Print.f bt21101.1).bind fun t21103 => (some (t21103.toList == ([49, 48, 46, 48, 46, 48, 46, 49] : List UInt8)))) else (some false)) else (some false))
set_option maxHeartbeats 8000000 in
set_option maxRecDepth 100000 in
theorem virgatelaw01_awake.calls  (r : Bool) (w : World) (h : virgatelaw01_awake.f  = some r) :
    Calls Tryd.prog 21 #[] w fun e w' => e = .returned (.bool r) ∧ Below w.heap.size w w' := by
  have HB := Aside0.mk (Below.refl w.heap.size w)
  have H : ((ip_Parse.f (⟨#[49, 48, 46, 48, 46, 48, 46, 49]⟩ : ByteArray)).bind fun bt21101 => (if bt21101.1 = 167772161 then (if bt21101.2 = 0 then ((ip_Print.f bt21101.1).bind fun t21103 => (some (t21103.toList == ([49, 48, 46, 48, 46, 48, 46, 49] : List UInt8)))) else (some false)) else (some false))) = some r := h
  clear h
  replace H := Option.bind_eq_some_iff.mp H
  obtain ⟨⟨t21101, t21102⟩, A10, H⟩ := H
  replace H : (if t21101 = 167772161 then (if t21102 = 0 then ((ip_Print.f t21101).bind fun t21103 => (some (t21103.toList == ([49, 48, 46, 48, 46, 48, 46, 49] : List UInt8)))) else (some false)) else (some false)) = some r := H
  have A1 := Aside0.mk A10
  clear A10
  by_cases c2 : t21101 = 167772161
  · rw [if_pos c2] at H
    have c2b0 : (t21101 == 167772161) = true := beq_iff_eq.mpr c2
    have c2b1 : (t21101 != 167772161) = false := bne_eq_false_iff_eq.mpr c2
    clear c2
    by_cases c3 : t21102 = 0
    · rw [if_pos c3] at H
      have c3b0 : (t21102 == 0) = true := beq_iff_eq.mpr c3
      have c3b1 : (t21102 != 0) = false := bne_eq_false_iff_eq.mpr c3
      clear c3
      replace H := Option.bind_eq_some_iff.mp H
      obtain ⟨t21103, A40, H⟩ := H
      replace H : (some (t21103.toList == ([49, 48, 46, 48, 46, 48, 46, 49] : List UInt8))) = some r := H
      have A4 := Aside0.mk A40
      clear A40
      obtain rfl := Option.some.inj H
      go_enter Tryd.func21, Tryd.ntmps21
      go_wp2_with (first | ((with_reducible refine gate_callee (f := 19) rfl ?_); refine goesL_ (some 4) rfl rfl Tryd.func19 (by kernel_rfl) rfl #[.string (⟨#[49, 48, 46, 48, 46, 48, 46, 49]⟩ : ByteArray)] rfl (by (try simp only [List.map_toArray, List.map_cons, List.map_nil]); first | done | rfl | (simp only [List.length_drop, List.length_take]; rfl)) ?_; (with_reducible refine (ip_Parse.calls (⟨#[49, 48, 46, 48, 46, 48, 46, 49]⟩ : ByteArray) t21101 t21102 _ A1.out).mono ?_); rintro e w5 ⟨rfl, hb⟩; refine ⟨_, rfl, ?_⟩; have n0_ := Aside0.mk (below_step (by repeat (first | (with_reducible first | exact HB.out | apply below_alloc | apply pw_below_drewN | apply below_drew1) | exact HB.out)) hb); clear HB; have HB := n0_; clear n0_; (try clear hb); (try clear hb2); (try clear hk); (try clear hi)) | (go_at_call 18; (with_reducible refine (ip_Print.calls t21101 t21103 _ A4.out).mono ?_); rintro e w6 ⟨rfl, hb⟩; have n0_ := Aside0.mk (below_step (by repeat (first | (with_reducible first | exact HB.out | apply below_alloc | apply pw_below_drewN | apply below_drew1) | exact HB.out)) hb); clear HB; have HB := n0_; clear n0_; (try clear hb); (try clear hb2); (try clear hk); (try clear hi)))
      go_ret
      exact ⟨by first | rfl | (simp [errW_none, errW_some] <;> rfl) | (simp [*, errW_none, errW_some] <;> rfl), by repeat (first | (with_reducible first | exact HB.out | apply below_alloc | apply pw_below_drewN | apply below_drew1) | exact HB.out)⟩
    · rw [if_neg c3] at H
      have c3b0 : (t21102 == 0) = false := beq_eq_false_iff_ne.mpr c3
      have c3b1 : (t21102 != 0) = true := bne_iff_ne.mpr c3
      obtain rfl := Option.some.inj H
      go_enter Tryd.func21, Tryd.ntmps21
      go_wp2_with (first | ((with_reducible refine gate_callee (f := 19) rfl ?_); refine goesL_ (some 4) rfl rfl Tryd.func19 (by kernel_rfl) rfl #[.string (⟨#[49, 48, 46, 48, 46, 48, 46, 49]⟩ : ByteArray)] rfl (by (try simp only [List.map_toArray, List.map_cons, List.map_nil]); first | done | rfl | (simp only [List.length_drop, List.length_take]; rfl)) ?_; (with_reducible refine (ip_Parse.calls (⟨#[49, 48, 46, 48, 46, 48, 46, 49]⟩ : ByteArray) t21101 t21102 _ A1.out).mono ?_); rintro e w7 ⟨rfl, hb⟩; refine ⟨_, rfl, ?_⟩; have n0_ := Aside0.mk (below_step (by repeat (first | (with_reducible first | exact HB.out | apply below_alloc | apply pw_below_drewN | apply below_drew1) | exact HB.out)) hb); clear HB; have HB := n0_; clear n0_; (try clear hb); (try clear hb2); (try clear hk); (try clear hi)))
      go_ret
      exact ⟨by first | rfl | (simp [errW_none, errW_some] <;> rfl) | (simp [*, errW_none, errW_some] <;> rfl), by repeat (first | (with_reducible first | exact HB.out | apply below_alloc | apply pw_below_drewN | apply below_drew1) | exact HB.out)⟩
  · rw [if_neg c2] at H
    have c2b0 : (t21101 == 167772161) = false := beq_eq_false_iff_ne.mpr c2
    have c2b1 : (t21101 != 167772161) = true := bne_iff_ne.mpr c2
    obtain rfl := Option.some.inj H
    go_enter Tryd.func21, Tryd.ntmps21
    go_wp2_with (first | ((with_reducible refine gate_callee (f := 19) rfl ?_); refine goesL_ (some 4) rfl rfl Tryd.func19 (by kernel_rfl) rfl #[.string (⟨#[49, 48, 46, 48, 46, 48, 46, 49]⟩ : ByteArray)] rfl (by (try simp only [List.map_toArray, List.map_cons, List.map_nil]); first | done | rfl | (simp only [List.length_drop, List.length_take]; rfl)) ?_; (with_reducible refine (ip_Parse.calls (⟨#[49, 48, 46, 48, 46, 48, 46, 49]⟩ : ByteArray) t21101 t21102 _ A1.out).mono ?_); rintro e w8 ⟨rfl, hb⟩; refine ⟨_, rfl, ?_⟩; have n0_ := Aside0.mk (below_step (by repeat (first | (with_reducible first | exact HB.out | apply below_alloc | apply pw_below_drewN | apply below_drew1) | exact HB.out)) hb); clear HB; have HB := n0_; clear n0_; (try clear hb); (try clear hb2); (try clear hk); (try clear hi)))
    go_ret
    exact ⟨by first | rfl | (simp [errW_none, errW_some] <;> rfl) | (simp [*, errW_none, errW_some] <;> rfl), by repeat (first | (with_reducible first | exact HB.out | apply below_alloc | apply pw_below_drewN | apply below_drew1) | exact HB.out)⟩
end Go.Proofs.YtcdopgkkieenjaaDoor.V
end

-- VFVirgateref01Byte
section
-- PRINTED by print.py (a twelfth state) out of the translation. Not trusted: Lean checks it.
namespace Go.Proofs.YtcdopgkkieenjaaDoor.V
open Go.RowKit Go.Proofs.YtcdopgkkieenjaaDoorW.PrintWords Go.Proofs.YtcdopgkkieenjaaDoorW.PrintLast Go.Proofs.YtcdopgkkieenjaaDoorW.PrintMore
attribute [local go_sem] max2_int min2_int max_two min_two max_three min_three max_four min_four   -- for this text's walks alone
set_option linter.unusedVariables false
set_option linter.unusedSimpArgs false

/-! ### virgateref01_Byte: function 24 -/
def virgateref01_Byte.l0 : Nat → Int → Int → Option (Int)
  | 0, _, _ => none
  | k + 1, x5, x6 => if x6 < 3 then (virgateref01_Byte.l0 k (wrap64 (Int.tdiv x5 256)) (wrap64 (x6 + 1))) else (some (Int.tmod x5 256))
def virgateref01_Byte.f (k : Nat) (a0 : Int) (a1 : Int) : Option (Int) := virgateref01_Byte.l0 k (wrap64 (a0)) a1
theorem virgateref01_Byte.mono_l : ∀ k, (∀ y0 y1, LeO (virgateref01_Byte.l0 k y0 y1) (virgateref01_Byte.l0 (k + 1) y0 y1))
  | 0 => fun _ _ r h => by simp [virgateref01_Byte.l0] at h
  | k + 1 => by
    have ih0 := virgateref01_Byte.mono_l k
    · intro y0 y1
      unfold virgateref01_Byte.l0
      repeat' first
      | (with_reducible exact ih0 _ _)
      | (with_reducible exact LeO.refl _)
      | (with_reducible exact LeO.none _)
      | (with_reducible refine LeO.ite ?_ ?_)
      | (with_reducible refine LeO.bind ?_ (fun _ => ?_))
      | exact ih0 _ _
      | exact LeO.none _
      | refine LeO.ite ?_ ?_
      | refine LeO.bind ?_ (fun _ => ?_)
theorem virgateref01_Byte.mono : ∀ a0 a1 k, LeO (virgateref01_Byte.f k a0 a1) (virgateref01_Byte.f (k + 1) a0 a1) := by
  intro a0 a1 k
  have ih0 := virgateref01_Byte.mono_l k
  unfold virgateref01_Byte.f
  repeat' first
      | (with_reducible exact ih0 _ _)
      | (with_reducible exact LeO.refl _)
      | (with_reducible exact LeO.none _)
      | (with_reducible refine LeO.ite ?_ ?_)
      | (with_reducible refine LeO.bind ?_ (fun _ => ?_))
      | exact ih0 _ _
      | exact LeO.none _
      | refine LeO.ite ?_ ?_
      | refine LeO.bind ?_ (fun _ => ?_)
set_option maxHeartbeats 8000000 in
set_option maxRecDepth 100000 in
theorem virgateref01_Byte.calls (k : Nat) (a0 : Int) (a1 : Int) (r : Int) (w : World) (h : virgateref01_Byte.f k a0 a1 = some r) :
    Calls Tryd.prog 24 #[.int .u32 a0, .int .i64 a1] w fun e w' => e = .returned (.int .i64 r) ∧ Drawn0 w w' := by
  have H : (virgateref01_Byte.l0 k (wrap64 (a0)) a1) = some r := h
  clear h
  have H' := Aside0.mk H
  clear H
  go_enter Tryd.func24, Tryd.ntmps24
  go_wp2
  go_loopg [5, 6] k (fun kq v5 v6 w' => ∃ (x5_1 : Int) (x6_1 : Int), v5 = .int .i64 x5_1 ∧ v6 = .int .i64 x6_1 ∧ Aside0 (virgateref01_Byte.l0 kq x5_1 x6_1 = some r) ∧ Aside0 (kq ≤ k) ∧ Drawn0 w w')
  case atStart => exact ⟨(wrap64 (a0)), (a1), (by first | rfl | (simp; done) | (simp [*]; done)), (by first | rfl | (simp; done) | (simp [*]; done)), H', ⟨Nat.le_refl _⟩, by repeat (first | exact Drawn0.refl _ | apply Drawn0.step)⟩
  case round =>
    clear H'
    try clear c2
    try clear p2
    obtain ⟨x5_1, x6_1, rfl, rfl, HA, HK1, ⟨m1, rfl⟩⟩ := hrel
    cases gk with
    | zero => exact absurd HA.out (by simp [virgateref01_Byte.l0])
    | succ k1 =>
      have H := HA.out
      clear HA
      simp only [virgateref01_Byte.l0] at H
      by_cases c3 : x6_1 < 3
      · rw [if_pos c3] at H
        have c3b0 : decide (x6_1 < 3) = true := decide_eq_true c3
        clear c3
        have H' := Aside0.mk H
        clear H
        go_wp2
        go_roundg k1
        case measure => have := HK1.out; omega
        case rel => exact ⟨(wrap64 (Int.tdiv x5_1 256)), (wrap64 (x6_1 + 1)), (by first | rfl | (simp; done) | (simp [*]; done)), (by first | rfl | (simp; done) | (simp [*]; done)), H', ⟨by have := HK1.out; omega⟩, by repeat (first | exact Drawn0.refl _ | apply Drawn0.step)⟩
      · rw [if_neg c3] at H
        have c3b0 : decide (x6_1 < 3) = false := decide_eq_false c3
        clear c3
        obtain rfl := Option.some.inj H
        go_wp2
        go_ret
        exact ⟨by first | rfl | (simp; done) | (simp [*]; done), by repeat (first | exact Drawn0.refl _ | apply Drawn0.step)⟩
end Go.Proofs.YtcdopgkkieenjaaDoor.V
end

-- VFVirgateref01Print
section
-- PRINTED by print.py (a twelfth state) out of the translation. Not trusted: Lean checks it.
namespace Go.Proofs.YtcdopgkkieenjaaDoor.V
open Go.RowKit Go.Proofs.YtcdopgkkieenjaaDoorW.PrintWords Go.Proofs.YtcdopgkkieenjaaDoorW.PrintLast Go.Proofs.YtcdopgkkieenjaaDoorW.PrintMore
attribute [local go_sem] max2_int min2_int max_two min_two max_three min_three max_four min_four   -- for this text's walks alone
set_option linter.unusedVariables false
set_option linter.unusedSimpArgs false

/-! ### virgateref01_Print: function 20 -/
def virgateref01_Print.f (k : Nat) (a0 : Int) : Option (ByteArray) := (virgateref01_Byte.f k a0 0).bind fun t20101 => ((virgateref01_num.f k t20101).bind fun t20102 => (if t20102.size + 1 ≤ 9223372036854775807 then ((virgateref01_Byte.f k a0 1).bind fun t20103 => ((virgateref01_num.f k t20103).bind fun t20104 => (if (t20102 ++ (⟨#[46]⟩ : ByteArray)).size + t20104.size ≤ 9223372036854775807 then (if ((t20102 ++ (⟨#[46]⟩ : ByteArray)) ++ t20104).size + 1 ≤ 9223372036854775807 then ((virgateref01_Byte.f k a0 2).bind fun t20105 => ((virgateref01_num.f k t20105).bind fun t20106 => (if (((t20102 ++ (⟨#[46]⟩ : ByteArray)) ++ t20104) ++ (⟨#[46]⟩ : ByteArray)).size + t20106.size ≤ 9223372036854775807 then (if ((((t20102 ++ (⟨#[46]⟩ : ByteArray)) ++ t20104) ++ (⟨#[46]⟩ : ByteArray)) ++ t20106).size + 1 ≤ 9223372036854775807 then ((virgateref01_Byte.f k a0 3).bind fun t20107 => ((virgateref01_num.f k t20107).bind fun t20108 => (if (((((t20102 ++ (⟨#[46]⟩ : ByteArray)) ++ t20104) ++ (⟨#[46]⟩ : ByteArray)) ++ t20106) ++ (⟨#[46]⟩ : ByteArray)).size + t20108.size ≤ 9223372036854775807 then (some ((((((t20102 ++ (⟨#[46]⟩ : ByteArray)) ++ t20104) ++ (⟨#[46]⟩ : ByteArray)) ++ t20106) ++ (⟨#[46]⟩ : ByteArray)) ++ t20108)) else (none)))) else (none)) else (none)))) else (none)) else (none)))) else (none)))
theorem virgateref01_Print.mono : ∀ a0 k, LeO (virgateref01_Print.f k a0) (virgateref01_Print.f (k + 1) a0) := by
  intro a0 k
  unfold virgateref01_Print.f
  repeat' first
      | (with_reducible exact virgateref01_Byte.mono _ _ _)
      | (with_reducible exact virgateref01_num.mono _ _)
      | (with_reducible exact LeO.refl _)
      | (with_reducible exact LeO.none _)
      | (with_reducible refine LeO.ite ?_ ?_)
      | (with_reducible refine LeO.bind ?_ (fun _ => ?_))
      | exact virgateref01_Byte.mono _ _ _
      | exact virgateref01_num.mono _ _
      | exact LeO.none _
      | refine LeO.ite ?_ ?_
      | refine LeO.bind ?_ (fun _ => ?_)
set_option maxHeartbeats 8000000 in
set_option maxRecDepth 100000 in
theorem virgateref01_Print.calls (k : Nat) (a0 : Int) (r : ByteArray) (w : World) (h : virgateref01_Print.f k a0 = some r) :
    Calls Tryd.prog 20 #[.int .u32 a0] w fun e w' => e = .returned (.string r) ∧ Below w.heap.size w w' := by
  have HB := Aside0.mk (Below.refl w.heap.size w)
  have H : ((virgateref01_Byte.f k a0 0).bind fun t20101 => ((virgateref01_num.f k t20101).bind fun t20102 => (if t20102.size + 1 ≤ 9223372036854775807 then ((virgateref01_Byte.f k a0 1).bind fun t20103 => ((virgateref01_num.f k t20103).bind fun t20104 => (if (t20102 ++ (⟨#[46]⟩ : ByteArray)).size + t20104.size ≤ 9223372036854775807 then (if ((t20102 ++ (⟨#[46]⟩ : ByteArray)) ++ t20104).size + 1 ≤ 9223372036854775807 then ((virgateref01_Byte.f k a0 2).bind fun t20105 => ((virgateref01_num.f k t20105).bind fun t20106 => (if (((t20102 ++ (⟨#[46]⟩ : ByteArray)) ++ t20104) ++ (⟨#[46]⟩ : ByteArray)).size + t20106.size ≤ 9223372036854775807 then (if ((((t20102 ++ (⟨#[46]⟩ : ByteArray)) ++ t20104) ++ (⟨#[46]⟩ : ByteArray)) ++ t20106).size + 1 ≤ 9223372036854775807 then ((virgateref01_Byte.f k a0 3).bind fun t20107 => ((virgateref01_num.f k t20107).bind fun t20108 => (if (((((t20102 ++ (⟨#[46]⟩ : ByteArray)) ++ t20104) ++ (⟨#[46]⟩ : ByteArray)) ++ t20106) ++ (⟨#[46]⟩ : ByteArray)).size + t20108.size ≤ 9223372036854775807 then (some ((((((t20102 ++ (⟨#[46]⟩ : ByteArray)) ++ t20104) ++ (⟨#[46]⟩ : ByteArray)) ++ t20106) ++ (⟨#[46]⟩ : ByteArray)) ++ t20108)) else (none)))) else (none)) else (none)))) else (none)) else (none)))) else (none)))) = some r := h
  clear h
  replace H := Option.bind_eq_some_iff.mp H
  obtain ⟨t20101, A20, H⟩ := H
  replace H : ((virgateref01_num.f k t20101).bind fun t20102 => (if t20102.size + 1 ≤ 9223372036854775807 then ((virgateref01_Byte.f k a0 1).bind fun t20103 => ((virgateref01_num.f k t20103).bind fun t20104 => (if (t20102 ++ (⟨#[46]⟩ : ByteArray)).size + t20104.size ≤ 9223372036854775807 then (if ((t20102 ++ (⟨#[46]⟩ : ByteArray)) ++ t20104).size + 1 ≤ 9223372036854775807 then ((virgateref01_Byte.f k a0 2).bind fun t20105 => ((virgateref01_num.f k t20105).bind fun t20106 => (if (((t20102 ++ (⟨#[46]⟩ : ByteArray)) ++ t20104) ++ (⟨#[46]⟩ : ByteArray)).size + t20106.size ≤ 9223372036854775807 then (if ((((t20102 ++ (⟨#[46]⟩ : ByteArray)) ++ t20104) ++ (⟨#[46]⟩ : ByteArray)) ++ t20106).size + 1 ≤ 9223372036854775807 then ((virgateref01_Byte.f k a0 3).bind fun t20107 => ((virgateref01_num.f k t20107).bind fun t20108 => (if (((((t20102 ++ (⟨#[46]⟩ : ByteArray)) ++ t20104) ++ (⟨#[46]⟩ : ByteArray)) ++ t20106) ++ (⟨#[46]⟩ : ByteArray)).size + t20108.size ≤ 9223372036854775807 then (some ((((((t20102 ++ (⟨#[46]⟩ : ByteArray)) ++ t20104) ++ (⟨#[46]⟩ : ByteArray)) ++ t20106) ++ (⟨#[46]⟩ : ByteArray)) ++ t20108)) else (none)))) else (none)) else (none)))) else (none)) else (none)))) else (none))) = some r := H
  have A2 := Aside0.mk A20
  clear A20
  replace H := Option.bind_eq_some_iff.mp H
  obtain ⟨t20102, A30, H⟩ := H
  replace H : (if t20102.size + 1 ≤ 9223372036854775807 then ((virgateref01_Byte.f k a0 1).bind fun t20103 => ((virgateref01_num.f k t20103).bind fun t20104 => (if (t20102 ++ (⟨#[46]⟩ : ByteArray)).size + t20104.size ≤ 9223372036854775807 then (if ((t20102 ++ (⟨#[46]⟩ : ByteArray)) ++ t20104).size + 1 ≤ 9223372036854775807 then ((virgateref01_Byte.f k a0 2).bind fun t20105 => ((virgateref01_num.f k t20105).bind fun t20106 => (if (((t20102 ++ (⟨#[46]⟩ : ByteArray)) ++ t20104) ++ (⟨#[46]⟩ : ByteArray)).size + t20106.size ≤ 9223372036854775807 then (if ((((t20102 ++ (⟨#[46]⟩ : ByteArray)) ++ t20104) ++ (⟨#[46]⟩ : ByteArray)) ++ t20106).size + 1 ≤ 9223372036854775807 then ((virgateref01_Byte.f k a0 3).bind fun t20107 => ((virgateref01_num.f k t20107).bind fun t20108 => (if (((((t20102 ++ (⟨#[46]⟩ : ByteArray)) ++ t20104) ++ (⟨#[46]⟩ : ByteArray)) ++ t20106) ++ (⟨#[46]⟩ : ByteArray)).size + t20108.size ≤ 9223372036854775807 then (some ((((((t20102 ++ (⟨#[46]⟩ : ByteArray)) ++ t20104) ++ (⟨#[46]⟩ : ByteArray)) ++ t20106) ++ (⟨#[46]⟩ : ByteArray)) ++ t20108)) else (none)))) else (none)) else (none)))) else (none)) else (none)))) else (none)) = some r := H
  have A3 := Aside0.mk A30
  clear A30
  by_cases c4 : t20102.size + 1 ≤ 9223372036854775807
  · rw [if_pos c4] at H
    have c4b0 := eq_true c4
    have c4b1 : decide (t20102.size + 1 ≤ 9223372036854775807) = true := decide_eq_true c4
    try have c4b2 : (9223372036854775807 < t20102.size + 1) = False := eq_false (Nat.not_lt.2 c4)
    replace H := Option.bind_eq_some_iff.mp H
    obtain ⟨t20103, A50, H⟩ := H
    replace H : ((virgateref01_num.f k t20103).bind fun t20104 => (if (t20102 ++ (⟨#[46]⟩ : ByteArray)).size + t20104.size ≤ 9223372036854775807 then (if ((t20102 ++ (⟨#[46]⟩ : ByteArray)) ++ t20104).size + 1 ≤ 9223372036854775807 then ((virgateref01_Byte.f k a0 2).bind fun t20105 => ((virgateref01_num.f k t20105).bind fun t20106 => (if (((t20102 ++ (⟨#[46]⟩ : ByteArray)) ++ t20104) ++ (⟨#[46]⟩ : ByteArray)).size + t20106.size ≤ 9223372036854775807 then (if ((((t20102 ++ (⟨#[46]⟩ : ByteArray)) ++ t20104) ++ (⟨#[46]⟩ : ByteArray)) ++ t20106).size + 1 ≤ 9223372036854775807 then ((virgateref01_Byte.f k a0 3).bind fun t20107 => ((virgateref01_num.f k t20107).bind fun t20108 => (if (((((t20102 ++ (⟨#[46]⟩ : ByteArray)) ++ t20104) ++ (⟨#[46]⟩ : ByteArray)) ++ t20106) ++ (⟨#[46]⟩ : ByteArray)).size + t20108.size ≤ 9223372036854775807 then (some ((((((t20102 ++ (⟨#[46]⟩ : ByteArray)) ++ t20104) ++ (⟨#[46]⟩ : ByteArray)) ++ t20106) ++ (⟨#[46]⟩ : ByteArray)) ++ t20108)) else (none)))) else (none)) else (none)))) else (none)) else (none))) = some r := H
    have A5 := Aside0.mk A50
    clear A50
    replace H := Option.bind_eq_some_iff.mp H
    obtain ⟨t20104, A60, H⟩ := H
    replace H : (if (t20102 ++ (⟨#[46]⟩ : ByteArray)).size + t20104.size ≤ 9223372036854775807 then (if ((t20102 ++ (⟨#[46]⟩ : ByteArray)) ++ t20104).size + 1 ≤ 9223372036854775807 then ((virgateref01_Byte.f k a0 2).bind fun t20105 => ((virgateref01_num.f k t20105).bind fun t20106 => (if (((t20102 ++ (⟨#[46]⟩ : ByteArray)) ++ t20104) ++ (⟨#[46]⟩ : ByteArray)).size + t20106.size ≤ 9223372036854775807 then (if ((((t20102 ++ (⟨#[46]⟩ : ByteArray)) ++ t20104) ++ (⟨#[46]⟩ : ByteArray)) ++ t20106).size + 1 ≤ 9223372036854775807 then ((virgateref01_Byte.f k a0 3).bind fun t20107 => ((virgateref01_num.f k t20107).bind fun t20108 => (if (((((t20102 ++ (⟨#[46]⟩ : ByteArray)) ++ t20104) ++ (⟨#[46]⟩ : ByteArray)) ++ t20106) ++ (⟨#[46]⟩ : ByteArray)).size + t20108.size ≤ 9223372036854775807 then (some ((((((t20102 ++ (⟨#[46]⟩ : ByteArray)) ++ t20104) ++ (⟨#[46]⟩ : ByteArray)) ++ t20106) ++ (⟨#[46]⟩ : ByteArray)) ++ t20108)) else (none)))) else (none)) else (none)))) else (none)) else (none)) = some r := H
    have A6 := Aside0.mk A60
    clear A60
    by_cases c7 : (t20102 ++ (⟨#[46]⟩ : ByteArray)).size + t20104.size ≤ 9223372036854775807
    · rw [if_pos c7] at H
      have c7b0 := eq_true c7
      have c7b1 : decide ((t20102 ++ (⟨#[46]⟩ : ByteArray)).size + t20104.size ≤ 9223372036854775807) = true := decide_eq_true c7
      try have c7b2 : (9223372036854775807 < (t20102 ++ (⟨#[46]⟩ : ByteArray)).size + t20104.size) = False := eq_false (Nat.not_lt.2 c7)
      try have c7s1 : ¬ 9223372036854775807 < t20102.size + 1 + t20104.size := by have h_ := c7; simp only [ByteArray.size_append] at h_; exact Nat.not_lt.2 h_
      try have c7s2 := eq_false c7s1
      by_cases c8 : ((t20102 ++ (⟨#[46]⟩ : ByteArray)) ++ t20104).size + 1 ≤ 9223372036854775807
      · rw [if_pos c8] at H
        have c8b0 := eq_true c8
        have c8b1 : decide (((t20102 ++ (⟨#[46]⟩ : ByteArray)) ++ t20104).size + 1 ≤ 9223372036854775807) = true := decide_eq_true c8
        try have c8b2 : (9223372036854775807 < ((t20102 ++ (⟨#[46]⟩ : ByteArray)) ++ t20104).size + 1) = False := eq_false (Nat.not_lt.2 c8)
        try have c8s1 : ¬ 9223372036854775807 < t20102.size + 1 + t20104.size + 1 := by have h_ := c8; simp only [ByteArray.size_append] at h_; exact Nat.not_lt.2 h_
        try have c8s2 := eq_false c8s1
        replace H := Option.bind_eq_some_iff.mp H
        obtain ⟨t20105, A90, H⟩ := H
        replace H : ((virgateref01_num.f k t20105).bind fun t20106 => (if (((t20102 ++ (⟨#[46]⟩ : ByteArray)) ++ t20104) ++ (⟨#[46]⟩ : ByteArray)).size + t20106.size ≤ 9223372036854775807 then (if ((((t20102 ++ (⟨#[46]⟩ : ByteArray)) ++ t20104) ++ (⟨#[46]⟩ : ByteArray)) ++ t20106).size + 1 ≤ 9223372036854775807 then ((virgateref01_Byte.f k a0 3).bind fun t20107 => ((virgateref01_num.f k t20107).bind fun t20108 => (if (((((t20102 ++ (⟨#[46]⟩ : ByteArray)) ++ t20104) ++ (⟨#[46]⟩ : ByteArray)) ++ t20106) ++ (⟨#[46]⟩ : ByteArray)).size + t20108.size ≤ 9223372036854775807 then (some ((((((t20102 ++ (⟨#[46]⟩ : ByteArray)) ++ t20104) ++ (⟨#[46]⟩ : ByteArray)) ++ t20106) ++ (⟨#[46]⟩ : ByteArray)) ++ t20108)) else (none)))) else (none)) else (none))) = some r := H
        have A9 := Aside0.mk A90
        clear A90
        replace H := Option.bind_eq_some_iff.mp H
        obtain ⟨t20106, A100, H⟩ := H
        replace H : (if (((t20102 ++ (⟨#[46]⟩ : ByteArray)) ++ t20104) ++ (⟨#[46]⟩ : ByteArray)).size + t20106.size ≤ 9223372036854775807 then (if ((((t20102 ++ (⟨#[46]⟩ : ByteArray)) ++ t20104) ++ (⟨#[46]⟩ : ByteArray)) ++ t20106).size + 1 ≤ 9223372036854775807 then ((virgateref01_Byte.f k a0 3).bind fun t20107 => ((virgateref01_num.f k t20107).bind fun t20108 => (if (((((t20102 ++ (⟨#[46]⟩ : ByteArray)) ++ t20104) ++ (⟨#[46]⟩ : ByteArray)) ++ t20106) ++ (⟨#[46]⟩ : ByteArray)).size + t20108.size ≤ 9223372036854775807 then (some ((((((t20102 ++ (⟨#[46]⟩ : ByteArray)) ++ t20104) ++ (⟨#[46]⟩ : ByteArray)) ++ t20106) ++ (⟨#[46]⟩ : ByteArray)) ++ t20108)) else (none)))) else (none)) else (none)) = some r := H
        have A10 := Aside0.mk A100
        clear A100
        by_cases c11 : (((t20102 ++ (⟨#[46]⟩ : ByteArray)) ++ t20104) ++ (⟨#[46]⟩ : ByteArray)).size + t20106.size ≤ 9223372036854775807
        · rw [if_pos c11] at H
          have c11b0 := eq_true c11
          have c11b1 : decide ((((t20102 ++ (⟨#[46]⟩ : ByteArray)) ++ t20104) ++ (⟨#[46]⟩ : ByteArray)).size + t20106.size ≤ 9223372036854775807) = true := decide_eq_true c11
          try have c11b2 : (9223372036854775807 < (((t20102 ++ (⟨#[46]⟩ : ByteArray)) ++ t20104) ++ (⟨#[46]⟩ : ByteArray)).size + t20106.size) = False := eq_false (Nat.not_lt.2 c11)
          try have c11s1 : ¬ 9223372036854775807 < t20102.size + 1 + t20104.size + 1 + t20106.size := by have h_ := c11; simp only [ByteArray.size_append] at h_; exact Nat.not_lt.2 h_
          try have c11s2 := eq_false c11s1
          by_cases c12 : ((((t20102 ++ (⟨#[46]⟩ : ByteArray)) ++ t20104) ++ (⟨#[46]⟩ : ByteArray)) ++ t20106).size + 1 ≤ 9223372036854775807
          · rw [if_pos c12] at H
            have c12b0 := eq_true c12
            have c12b1 : decide (((((t20102 ++ (⟨#[46]⟩ : ByteArray)) ++ t20104) ++ (⟨#[46]⟩ : ByteArray)) ++ t20106).size + 1 ≤ 9223372036854775807) = true := decide_eq_true c12
            try have c12b2 : (9223372036854775807 < ((((t20102 ++ (⟨#[46]⟩ : ByteArray)) ++ t20104) ++ (⟨#[46]⟩ : ByteArray)) ++ t20106).size + 1) = False := eq_false (Nat.not_lt.2 c12)
            try have c12s1 : ¬ 9223372036854775807 < t20102.size + 1 + t20104.size + 1 + t20106.size + 1 := by have h_ := c12; simp only [ByteArray.size_append] at h_; exact Nat.not_lt.2 h_
            try have c12s2 := eq_false c12s1
            replace H := Option.bind_eq_some_iff.mp H
            obtain ⟨t20107, A130, H⟩ := H
            replace H : ((virgateref01_num.f k t20107).bind fun t20108 => (if (((((t20102 ++ (⟨#[46]⟩ : ByteArray)) ++ t20104) ++ (⟨#[46]⟩ : ByteArray)) ++ t20106) ++ (⟨#[46]⟩ : ByteArray)).size + t20108.size ≤ 9223372036854775807 then (some ((((((t20102 ++ (⟨#[46]⟩ : ByteArray)) ++ t20104) ++ (⟨#[46]⟩ : ByteArray)) ++ t20106) ++ (⟨#[46]⟩ : ByteArray)) ++ t20108)) else (none))) = some r := H
            have A13 := Aside0.mk A130
            clear A130
            replace H := Option.bind_eq_some_iff.mp H
            obtain ⟨t20108, A140, H⟩ := H
            replace H : (if (((((t20102 ++ (⟨#[46]⟩ : ByteArray)) ++ t20104) ++ (⟨#[46]⟩ : ByteArray)) ++ t20106) ++ (⟨#[46]⟩ : ByteArray)).size + t20108.size ≤ 9223372036854775807 then (some ((((((t20102 ++ (⟨#[46]⟩ : ByteArray)) ++ t20104) ++ (⟨#[46]⟩ : ByteArray)) ++ t20106) ++ (⟨#[46]⟩ : ByteArray)) ++ t20108)) else (none)) = some r := H
            have A14 := Aside0.mk A140
            clear A140
            by_cases c15 : (((((t20102 ++ (⟨#[46]⟩ : ByteArray)) ++ t20104) ++ (⟨#[46]⟩ : ByteArray)) ++ t20106) ++ (⟨#[46]⟩ : ByteArray)).size + t20108.size ≤ 9223372036854775807
            · rw [if_pos c15] at H
              have c15b0 := eq_true c15
              have c15b1 : decide ((((((t20102 ++ (⟨#[46]⟩ : ByteArray)) ++ t20104) ++ (⟨#[46]⟩ : ByteArray)) ++ t20106) ++ (⟨#[46]⟩ : ByteArray)).size + t20108.size ≤ 9223372036854775807) = true := decide_eq_true c15
              try have c15b2 : (9223372036854775807 < (((((t20102 ++ (⟨#[46]⟩ : ByteArray)) ++ t20104) ++ (⟨#[46]⟩ : ByteArray)) ++ t20106) ++ (⟨#[46]⟩ : ByteArray)).size + t20108.size) = False := eq_false (Nat.not_lt.2 c15)
              try have c15s1 : ¬ 9223372036854775807 < t20102.size + 1 + t20104.size + 1 + t20106.size + 1 + t20108.size := by have h_ := c15; simp only [ByteArray.size_append] at h_; exact Nat.not_lt.2 h_
              try have c15s2 := eq_false c15s1
              obtain rfl := Option.some.inj H
              go_enter Tryd.func20, Tryd.ntmps20
              go_wp2_with (first | ((with_reducible refine gate_callee (f := 24) rfl ?_); refine goesL_ (some 4) rfl rfl Tryd.func24 (by kernel_rfl) rfl #[.int .u32 a0, .int .i64 0] rfl (by (try simp only [List.map_toArray, List.map_cons, List.map_nil]); first | done | rfl | (simp only [List.length_drop, List.length_take]; rfl)) ?_; (with_reducible refine (virgateref01_Byte.calls k a0 0 t20101 _ A2.out).mono ?_); rintro e w' ⟨rfl, ⟨nd, rfl⟩⟩; refine ⟨_, rfl, ?_⟩) | ((with_reducible refine gate_callee (f := 78) rfl ?_); refine goesL_ (some 5) rfl rfl Tryd.func78 (by kernel_rfl) rfl #[.int .i64 t20101] rfl (by (try simp only [List.map_toArray, List.map_cons, List.map_nil]); first | done | rfl | (simp only [List.length_drop, List.length_take]; rfl)) ?_; (with_reducible refine (virgateref01_num.calls k t20101 t20102 _ A3.out).mono ?_); rintro e w16 ⟨rfl, hb⟩; refine ⟨_, rfl, ?_⟩; have n0_ := Aside0.mk (below_step (by repeat (first | (with_reducible first | exact HB.out | apply below_alloc | apply pw_below_drewN | apply below_drew1) | exact HB.out)) hb); clear HB; have HB := n0_; clear n0_; (try clear hb); (try clear hb2); (try clear hk); (try clear hi)) | ((with_reducible refine gate_callee (f := 24) rfl ?_); refine goesL_ (some 8) rfl rfl Tryd.func24 (by kernel_rfl) rfl #[.int .u32 a0, .int .i64 1] rfl (by (try simp only [List.map_toArray, List.map_cons, List.map_nil]); first | done | rfl | (simp only [List.length_drop, List.length_take]; rfl)) ?_; (with_reducible refine (virgateref01_Byte.calls k a0 1 t20103 _ A5.out).mono ?_); rintro e w' ⟨rfl, ⟨nd, rfl⟩⟩; refine ⟨_, rfl, ?_⟩) | ((with_reducible refine gate_callee (f := 78) rfl ?_); refine goesL_ (some 9) rfl rfl Tryd.func78 (by kernel_rfl) rfl #[.int .i64 t20103] rfl (by (try simp only [List.map_toArray, List.map_cons, List.map_nil]); first | done | rfl | (simp only [List.length_drop, List.length_take]; rfl)) ?_; (with_reducible refine (virgateref01_num.calls k t20103 t20104 _ A6.out).mono ?_); rintro e w17 ⟨rfl, hb⟩; refine ⟨_, rfl, ?_⟩; have n0_ := Aside0.mk (below_step (by repeat (first | (with_reducible first | exact HB.out | apply below_alloc | apply pw_below_drewN | apply below_drew1) | exact HB.out)) hb); clear HB; have HB := n0_; clear n0_; (try clear hb); (try clear hb2); (try clear hk); (try clear hi)) | ((with_reducible refine gate_callee (f := 24) rfl ?_); refine goesL_ (some 13) rfl rfl Tryd.func24 (by kernel_rfl) rfl #[.int .u32 a0, .int .i64 2] rfl (by (try simp only [List.map_toArray, List.map_cons, List.map_nil]); first | done | rfl | (simp only [List.length_drop, List.length_take]; rfl)) ?_; (with_reducible refine (virgateref01_Byte.calls k a0 2 t20105 _ A9.out).mono ?_); rintro e w' ⟨rfl, ⟨nd, rfl⟩⟩; refine ⟨_, rfl, ?_⟩) | ((with_reducible refine gate_callee (f := 78) rfl ?_); refine goesL_ (some 14) rfl rfl Tryd.func78 (by kernel_rfl) rfl #[.int .i64 t20105] rfl (by (try simp only [List.map_toArray, List.map_cons, List.map_nil]); first | done | rfl | (simp only [List.length_drop, List.length_take]; rfl)) ?_; (with_reducible refine (virgateref01_num.calls k t20105 t20106 _ A10.out).mono ?_); rintro e w18 ⟨rfl, hb⟩; refine ⟨_, rfl, ?_⟩; have n0_ := Aside0.mk (below_step (by repeat (first | (with_reducible first | exact HB.out | apply below_alloc | apply pw_below_drewN | apply below_drew1) | exact HB.out)) hb); clear HB; have HB := n0_; clear n0_; (try clear hb); (try clear hb2); (try clear hk); (try clear hi)) | ((with_reducible refine gate_callee (f := 24) rfl ?_); refine goesL_ (some 18) rfl rfl Tryd.func24 (by kernel_rfl) rfl #[.int .u32 a0, .int .i64 3] rfl (by (try simp only [List.map_toArray, List.map_cons, List.map_nil]); first | done | rfl | (simp only [List.length_drop, List.length_take]; rfl)) ?_; (with_reducible refine (virgateref01_Byte.calls k a0 3 t20107 _ A13.out).mono ?_); rintro e w' ⟨rfl, ⟨nd, rfl⟩⟩; refine ⟨_, rfl, ?_⟩) | ((with_reducible refine gate_callee (f := 78) rfl ?_); refine goesL_ (some 19) rfl rfl Tryd.func78 (by kernel_rfl) rfl #[.int .i64 t20107] rfl (by (try simp only [List.map_toArray, List.map_cons, List.map_nil]); first | done | rfl | (simp only [List.length_drop, List.length_take]; rfl)) ?_; (with_reducible refine (virgateref01_num.calls k t20107 t20108 _ A14.out).mono ?_); rintro e w19 ⟨rfl, hb⟩; refine ⟨_, rfl, ?_⟩; have n0_ := Aside0.mk (below_step (by repeat (first | (with_reducible first | exact HB.out | apply below_alloc | apply pw_below_drewN | apply below_drew1) | exact HB.out)) hb); clear HB; have HB := n0_; clear n0_; (try clear hb); (try clear hb2); (try clear hk); (try clear hi)))
              go_ret
              exact ⟨by first | rfl | (simp [errW_none, errW_some] <;> rfl) | (simp [*, errW_none, errW_some] <;> rfl), by repeat (first | (with_reducible first | exact HB.out | apply below_alloc | apply pw_below_drewN | apply below_drew1) | exact HB.out)⟩
            · rw [if_neg c15] at H
              exact absurd H (by simp)
          · rw [if_neg c12] at H
            exact absurd H (by simp)
        · rw [if_neg c11] at H
          exact absurd H (by simp)
      · rw [if_neg c8] at H
        exact absurd H (by simp)
    · rw [if_neg c7] at H
      exact absurd H (by simp)
  · rw [if_neg c4] at H
    exact absurd H (by simp)
end Go.Proofs.YtcdopgkkieenjaaDoor.V
end

-- I1C
section
/- Layer 1: what the other layers need of it. -/
namespace Go.Proofs.YtcdopgkkieenjaaDoor.V
open Go.RowKit Go.Proofs.YtcdopgkkieenjaaDoorW.PrintWords Go.Proofs.YtcdopgkkieenjaaDoorW.PrintLast Go.Proofs.YtcdopgkkieenjaaDoorW.PrintMore
set_option linter.unusedVariables false
set_option linter.unusedSimpArgs false
theorem cutAt_none (c : UInt8) : ∀ x : List UInt8, c ∉ x → cutAt c x = [x]
  | [], _ => rfl
  | b :: l, h => by
    have h1 : b ≠ c := fun e => h (by simp [e])
    rw [cutAt, if_neg h1, cutAt_none c l (fun e => h (by simp [e]))]
theorem cutAt_app (c : UInt8) (r : List UInt8) : ∀ x : List UInt8, c ∉ x → cutAt c (x ++ c :: r) = x :: cutAt c r
  | [], _ => by simp [cutAt]
  | b :: l, h => by
    have h1 : b ≠ c := fun e => h (by simp [e])
    rw [List.cons_append, cutAt, if_neg h1, cutAt_app c r l (fun e => h (by simp [e]))]
theorem decL_digits : ((List.range 256).all fun n => (decL n).all fun b => decide (48 ≤ b) && decide (b ≤ 57)) = true := by kernel_rfl
theorem decL_no (n : Nat) (h : n < 256) (c : UInt8) (hc : c < 48 ∨ 57 < c) : c ∉ decL n := by
  have h1 := List.all_eq_true.1 decL_digits n (List.mem_range.2 h)
  intro hm
  have h2 := List.all_eq_true.1 h1 c hm
  simp only [Bool.and_eq_true, decide_eq_true_eq] at h2
  rcases hc with hc | hc
  · exact absurd hc (by simpa using h2.1)
  · exact absurd hc (by simpa using h2.2)
/-- An address's text, as a list. -/
def ipL (a : Nat) : List UInt8 := decL (byteAt a 0) ++ 46 :: (decL (byteAt a 1) ++ 46 :: (decL (byteAt a 2) ++ 46 :: decL (byteAt a 3)))
theorem ipText_data (a : Nat) : (ipText a).data.toList = ipL a := by
  have e : (textsOf a).map (·.data.toList) = [decL (byteAt a 0), decL (byteAt a 1), decL (byteAt a 2), decL (byteAt a 3)] := by simp [textsOf, decB]
  unfold ipText ipL
  rw [e]
  simp [Lib.join, List.intercalate]
theorem byteAt_sum (a : Nat) (ha : a < 4294967296) : ((byteAt a 0 * 256 + byteAt a 1) * 256 + byteAt a 2) * 256 + byteAt a 3 = a := by
  unfold byteAt
  simp only [Nat.sub_zero, Nat.sub_self]
  omega
theorem ipOf_text (a : Nat) (ha : a < 4294967296) : ipOf (ipL a) = some a := by
  have hn := fun i => decL_no (byteAt a i) (byteAt_lt a i) 46 (.inl (by decide))
  unfold ipOf ipL
  rw [cutAt_app _ _ _ (hn 0), cutAt_app _ _ _ (hn 1), cutAt_app _ _ _ (hn 2), cutAt_none _ _ (hn 3)]
  simp only [ipOfP, byteOf_decL _ (byteAt_lt a _), Option.bind_some, byteAt_sum a ha]
theorem parseR_text (a : Nat) (ha : a < 4294967296) : parseR (ipText a) = ((a : Int), 0) := by
  unfold parseR
  rw [ipText_data, ipOf_text a ha]
theorem byte_l0 : ∀ (d k i x : Nat), i + d = 3 → d + 1 ≤ k → x < 4294967296 → virgateref01_Byte.l0 k (x : Int) (i : Int) = some ((x / 256 ^ d % 256 : Nat) : Int) := by
  intro d
  induction d with
  | zero =>
    intro k i x hi hk hx
    obtain ⟨k, rfl⟩ : ∃ m, k = m + 1 := ⟨k - 1, by omega⟩
    rw [virgateref01_Byte.l0, if_neg (by omega)]
    simp
    rfl
  | succ d ih =>
    intro k i x hi hk hx
    obtain ⟨k, rfl⟩ : ∃ m, k = m + 1 := ⟨k - 1, by omega⟩
    rw [virgateref01_Byte.l0, if_pos (by omega), show Int.tdiv (x : Int) 256 = ((x / 256 : Nat) : Int) from rfl, wrap64_id _ (by omega) (by omega), wrap64_id _ (by omega) (by omega)]
    have := ih k (i + 1) (x / 256) (by omega) (by omega) (by omega)
    rw [Nat.div_div_eq_div_mul, ← Nat.pow_succ'] at this
    exact this
theorem byte_f (a : Nat) (ha : a < 4294967296) (i : Nat) (hi : i ≤ 3) (k : Nat) (hk : 4 ≤ k) : virgateref01_Byte.f k (a : Int) (i : Int) = some ((byteAt a i : Nat) : Int) := by
  unfold virgateref01_Byte.f byteAt
  rw [wrap64_id _ (by omega) (by omega), byte_l0 (3 - i) k i a (by omega) (by omega) ha, Nat.pow_mul]
theorem decB_size (n : Nat) : (decB n).size ≤ 3 := by
  have := decL_length n
  rw [← decB_data, data_length] at this
  exact this
theorem lit1 (b : UInt8) : (⟨#[b]⟩ : ByteArray).size = 1 := rfl
theorem rprint_f (a : Nat) (ha : a < 4294967296) (k : Nat) (hk : 4 ≤ k) : virgateref01_Print.f k (a : Int) = some (ipText a) := by
  have b0 := byte_f a ha 0 (by omega) k hk; have b1 := byte_f a ha 1 (by omega) k hk; have b2 := byte_f a ha 2 (by omega) k hk; have b3 := byte_f a ha 3 (by omega) k hk
  have n0 := num_f _ (byteAt_lt a 0) k hk; have n1 := num_f _ (byteAt_lt a 1) k hk; have n2 := num_f _ (byteAt_lt a 2) k hk; have n3 := num_f _ (byteAt_lt a 3) k hk
  have s0 := decB_size (byteAt a 0); have s1 := decB_size (byteAt a 1); have s2 := decB_size (byteAt a 2); have s3 := decB_size (byteAt a 3)
  unfold virgateref01_Print.f
  have b0' : virgateref01_Byte.f k (a : Int) 0 = some ((byteAt a 0 : Nat) : Int) := b0
  have b1' : virgateref01_Byte.f k (a : Int) 1 = some ((byteAt a 1 : Nat) : Int) := b1
  have b2' : virgateref01_Byte.f k (a : Int) 2 = some ((byteAt a 2 : Nat) : Int) := b2
  have b3' : virgateref01_Byte.f k (a : Int) 3 = some ((byteAt a 3 : Nat) : Int) := b3
  rw [b0', Option.bind_some, n0, Option.bind_some, if_pos (by omega), b1', Option.bind_some, n1, Option.bind_some, if_pos (by simp only [ByteArray.size_append, lit1]; omega), if_pos (by simp only [ByteArray.size_append, lit1]; omega), b2', Option.bind_some, n2, Option.bind_some, if_pos (by simp only [ByteArray.size_append, lit1]; omega), if_pos (by simp only [ByteArray.size_append, lit1]; omega), b3', Option.bind_some, n3, Option.bind_some, if_pos (by simp only [ByteArray.size_append, lit1]; omega)]
  congr 1
  apply ByteArray.ext
  apply Array.ext'
  rw [ipText_data]
  simp [ipL, decB]
theorem wf_u32 {a : Int} (h : (Lit.int .u32 a).wf = true) : ∃ n : Nat, a = (n : Int) ∧ n < 4294967296 := by
  have : 0 ≤ a ∧ a ≤ 4294967295 := by simpa [Lit.wf, IntKind.min, IntKind.max, IntKind.signed, IntKind.bits] using h
  exact ⟨a.toNat, by omega, by omega⟩
end Go.Proofs.YtcdopgkkieenjaaDoor.V
end

-- VFCidrMask
section
-- PRINTED by print.py (a twelfth state) out of the translation. Not trusted: Lean checks it.
namespace Go.Proofs.YtcdopgkkieenjaaDoor.V
open Go.RowKit Go.Proofs.YtcdopgkkieenjaaDoorW.PrintWords Go.Proofs.YtcdopgkkieenjaaDoorW.PrintLast Go.Proofs.YtcdopgkkieenjaaDoorW.PrintMore
attribute [local go_sem] max2_int min2_int max_two min_two max_three min_three max_four min_four   -- for this text's walks alone
set_option linter.unusedVariables false
set_option linter.unusedSimpArgs false

/-! ### cidr_Mask: function 54 -/
def cidr_Mask.f (a0 : Int) : Option (Int) := some ((IntKind.u64.wrap (4294967296 - (IntKind.u64.wrap (2 ^ (32 - (mn (mx a0 0) 32)).toNat)))) % 4294967296)
set_option maxHeartbeats 8000000 in
set_option maxRecDepth 100000 in
theorem cidr_Mask.calls (a0 : Int) (r : Int) (w : World) (h : cidr_Mask.f a0 = some r) :
    Calls Tryd.prog 54 #[.int .i64 a0] w fun e w' => e = .returned (.int .u32 r) ∧ Below w.heap.size w w' := by
  have HB := Aside0.mk (Below.refl w.heap.size w)
  have H : (some ((IntKind.u64.wrap (4294967296 - (IntKind.u64.wrap (2 ^ (32 - (mn (mx a0 0) 32)).toNat)))) % 4294967296)) = some r := h
  clear h
  obtain ⟨ji2, hji2⟩ : ∃ j_ : Int, (mx a0 0) = j_ := ⟨_, rfl⟩
  replace H : (some ((IntKind.u64.wrap (4294967296 - (IntKind.u64.wrap (2 ^ (32 - (mn (ji2) 32)).toNat)))) % 4294967296)) = some r := by first | (rw [hji2] at H; exact H) | (simp only [hji2] at H ⊢; exact H)
  (try (have hji2l : 0 ≤ ji2 := by (rw [← hji2]; unfold mx; (repeat' split) <;> omega)))
  (try (have hji2m : 0 ≤ ji2 := by omega))
  have hji2_ : (if a0 < 0 then 0 else a0) = ji2 := hji2
  obtain ⟨ji3, hji3⟩ : ∃ j_ : Int, (mn (ji2) 32) = j_ := ⟨_, rfl⟩
  replace H : (some ((IntKind.u64.wrap (4294967296 - (IntKind.u64.wrap (2 ^ (32 - (ji3)).toNat)))) % 4294967296)) = some r := by first | (rw [hji3] at H; exact H) | (simp only [hji3] at H ⊢; exact H)
  have hji3_ : (if 32 < (ji2) then 32 else (ji2)) = ji3 := hji3
  obtain rfl := Option.some.inj H
  go_enter Tryd.func54, Tryd.ntmps54
  go_wp2
  go_ret
  exact ⟨by first | rfl | (simp [errW_none, errW_some] <;> rfl) | (simp only [← hji2, ← hji3]; first | rfl | (simp [errW_none, errW_some] <;> rfl)) | (simp [*, errW_none, errW_some] <;> rfl), by repeat (first | (with_reducible first | exact HB.out | apply below_alloc | apply pw_below_drewN | apply below_drew1) | exact HB.out)⟩
end Go.Proofs.YtcdopgkkieenjaaDoor.V
end

