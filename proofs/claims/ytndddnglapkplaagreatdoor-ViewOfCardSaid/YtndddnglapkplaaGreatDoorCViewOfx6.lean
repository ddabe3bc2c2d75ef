/- The law ViewOf for every input: texts of ours, put together (part 7 of 17). No further condition. -/
import Derived.Test.YtndddnglapkplaaGreatDoorCViewOfx2
import Derived.Test.YtndddnglapkplaaGreatDoorCViewOfx5
import Derived.Test.YtndddnglapkplaaGreatDoorCViewOfx3
import Derived.MapKept
import Derived.Lib.Strings
import Derived.Lib.SplitLaws
import Derived.Shelf.Strings.Builder1
import Derived.Shelf.Strings.Builder2
import Derived.Shelf.Strings.OnBuilder
import Derived.Shelf.Small.Wraps
import Derived.Shelf.Strings.BuilderF
import Derived.Shelf.Strings.BuilderK
import Derived.Shelf.Utf8.RuneCount
import Derived.Shelf.Strings.Builder2Cap
import Derived.Shelf.Strings.Search1
import Derived.Shelf.Strings.Search2
import Derived.Shelf.Strings.Search3
import Derived.Shelf.Strings.Cut
import Derived.Shelf.Strings.Count
import Derived.Shelf.LaysM
import Derived.Shelf.Strings.Shaped
import Derived.Shelf.Strings.Prefix
import Derived.Shelf.Strings.Split
import Derived.Shelf.Strings.Replace
import Derived.Shelf.Strings.SplitShaped
import Derived.Shelf.Unicode.Decode
import Derived.Shelf.Strings.RuneCount
import Derived.Shelf.Strings.Explode
import Derived.Shelf.Unicode.DecodeSlow
import Derived.Shelf.Unicode.DecodeAny
import Derived.Shelf.Strings.BuilderCap
import Derived.Test.YtndddnglapkplaaGreatDoorProg
import Derived.Outline
import Derived.LoopN
set_option linter.unusedVariables false
set_option linter.unusedSimpArgs false
set_option linter.unusedSectionVars false
open Go.RowKit Go.Proofs.YtndddnglapkplaaGreatDoorW.PrintWords Go.Proofs.YtndddnglapkplaaGreatDoorW.PrintLast Go.Proofs.YtndddnglapkplaaGreatDoorW.PrintMore Go.Proofs.YtndddnglapkplaaGreatDoor.Z
namespace Go.Proofs.YtndddnglapkplaaGreatDoor.V
section
section
variable {κ : Type} [DecidableEq κ]
def dx (k : κ) : List (κ × Value) → Nat → Option (Nat × Value)
 | [], _ => none
 | p :: l, i => if k = p.1 then some (i, p.2) else dx k l (i + 1)
def pW (l : List (κ × Value)) (k : κ) (v : Value) : List (κ × Value) := match dx k l 0 with | some (i, _) => l.modify i (fun p => (p.1, v)) | none => l ++ [(k, v)]
structure KeyK (κ : Type) [DecidableEq κ] (kt : TypeId) (enc : κ → Value) : Prop where
 chk : ∀ e k W, (Instr.checkKey e 10000 kt (enc k)).run Tryz.prog W = .ok () W
 fnd : ∀ (l : List (κ × Value)) (a : List MapEntry) k W, a.map (fun e => (e.key, e.val)) = l.map (fun p => (enc p.1, p.2)) → (Instr.findKey kt (enc k) a).run Tryz.prog W = .ok (dx k l 0) W
 stay : ∀ k, Instr.sameBits 10000 (enc k) (enc k) = true
def eR (enc : κ → Value) (W : World) (g : Nat) (l : List (κ × Value)) : Prop := ∃ (a : Array MapEntry) (c : Nat), W.heap[g]? = some (.map a c) ∧ a.toList.map (fun e => (e.key, e.val)) = l.map (fun p => (enc p.1, p.2))
variable {kt : TypeId} {enc : κ → Value} {W W1 : World} {g : Nat} {l : List (κ × Value)}
theorem eR.lt (h : eR enc W g l) : g < W.heap.size := by
 obtain ⟨a, c, h1, _⟩ := h
 exact (Array.getElem?_eq_some_iff.1 h1).1
theorem eR.kept (h : eR enc W g l) (hk : W1.heap[g]? = W.heap[g]?) : eR enc W1 g l := by
 obtain ⟨a, c, h1, h2⟩ := h
 exact ⟨a, c, hk.trans h1, h2⟩
theorem eR.below (h : eR enc W g l) (hb : Below W.heap.size W W1) : eR enc W1 g l := h.kept (hb.block g h.lt)
theorem eR.grown (h : eR enc W g l) {r : Option Nat} (hg : W.grownBy W1 r) (hr : some g ≠ r) : eR enc W1 g l := h.kept (hg.block g h.lt hr)
theorem eR.new (h : W.heap[g]? = some (.map #[] 0)) : eR enc W g [] := ⟨#[], 0, h, rfl⟩
theorem eR.ne_row (h : eR enc W g l) {k t : Nat} {cs : Array Value} (hc : W.heap[k]? = some (.cells cs t (0, 0))) : g ≠ k := by
 obtain ⟨a, c, h1, _⟩ := h
 rintro rfl
 rw [h1] at hc
 cases hc
theorem xl {k : κ} : ∀ {l : List (κ × Value)} {i j : Nat} {v : Value}, dx k l i = some (j, v) → i ≤ j ∧ l[j - i]? = some (k, v)
 | [], _, _, _, h => by cases h
 | p :: l, i, j, v, h => by
  unfold dx at h
  split at h
  ·next hk =>
   cases h
   exact ⟨Nat.le_refl _, by rw [Nat.sub_self, hk]; rfl⟩
  ·obtain ⟨h1, h2⟩ := xl h
   refine ⟨by omega, ?_⟩
   rw [show j - i = (j - (i + 1)) + 1 by omega]
   exact h2
theorem xm {k : κ} : ∀ {l : List (κ × Value)} {i : Nat}, (∀ p ∈ l, k ≠ p.1) → dx k l i = none
 | [], _, _ => rfl
 | p :: l, i, h => by
  unfold dx
  rw [if_neg (h p (List.mem_cons_self))]
  exact xm (fun q hq => h q (List.mem_cons_of_mem _ hq))
theorem Ds (hK : KeyK κ kt enc) {mt et : TypeId} (hm : Tryz.prog.underlying mt = some (.map kt et)) {z : Value} (hz : ∀ w, (zeroValue et).run Tryz.prog w = .ok z w) (h : eR enc W g l) (k : κ) (ok : Bool) :
  (Instr.lookup mt (.map (some g)) (enc k) ok).run Tryz.prog W = .ok (if ok then .tuple #[((dx k l 0).map Prod.snd).getD z, .bool (dx k l 0).isSome] else ((dx k l 0).map Prod.snd).getD z) W := by
 obtain ⟨a, c, h1, h2⟩ := h
 have hf := hK.fnd l a.toList k W h2
 unfold Instr.lookup
 simp only [Sem.run_bind, run_underlying hm, Result.andThen_ok, MapKept.run_getObj_map h1, hK.chk, Sem.run_pure, hf]
 cases hx : dx k l 0 with
 | none => cases ok <;> simp [hz]
 | some q => cases ok <;> simp
theorem qK (hK : KeyK κ kt enc) {mt et : TypeId} (hm : Tryz.prog.underlying mt = some (.map kt et)) (h : eR enc W g l) (k : κ) (v : Value) :
  ∃ W1, (Instr.mapUpdate mt (.map (some g)) (enc k) v).run Tryz.prog W = .ok () W1 ∧ eR enc W1 g (pW l k v) ∧ W.grownBy W1 (some g) := by
 have hlt := h.lt
 obtain ⟨a, c, h1, h2⟩ := h
 have hf := hK.fnd l a.toList k W h2
 have hgr : ∀ o : Obj, W.grownBy { W with heap := W.heap.setIfInBounds g o } (some g) := fun o => ⟨rfl, rfl, rfl, by simp, fun k _ hk => by
  show (W.heap.setIfInBounds g _)[k]? = _
  rw [Array.getElem?_setIfInBounds_ne (fun e => hk (by rw [e]))]⟩
 have hat : ∀ o : Obj, ({ W with heap := W.heap.setIfInBounds g o } : World).heap[g]? = some o := fun o => by simp [hlt]
 have hlen : a.size = l.length := by
  have := congrArg List.length h2
  simpa using this
 cases hx : dx k l 0 with
 | none =>
  refine ⟨_, ?_, ⟨_, _, hat (.map (a.push { key := enc k, val := v, born := c }) (c + 1)), ?_⟩, hgr _⟩
  ·unfold Instr.mapUpdate
   simp only [Sem.run_bind, run_underlying hm, Result.andThen_ok, MapKept.run_getObj_map h1, hK.chk, Sem.run_pure, hf, hx]
   exact MapKept.run_setObj_map _ h1
  ·unfold pW
   rw [hx]
   simp [h2]
 | some q =>
  obtain ⟨i, u⟩ := q
  obtain ⟨_, hi⟩ := xl hx
  rw [Nat.sub_zero] at hi
  have hil : i < l.length := (List.getElem?_eq_some_iff.1 hi).1
  have hia : i < a.size := by omega
  have hkey : a[i].key = enc k := by
   have := congrArg (fun x : List (Value × Value) => x[i]?) h2
   simp only [List.getElem?_map, hi, Array.getElem?_toList, Array.getElem?_eq_getElem hia, Option.map_some] at this
   exact congrArg Prod.fst (Option.some.inj this)
  refine ⟨_, ?_, ⟨_, _, hat (.map (a.modify i fun e => { e with key := enc k, val := v }) c), ?_⟩, hgr _⟩
  ·unfold Instr.mapUpdate
   simp only [Sem.run_bind, run_underlying hm, Result.andThen_ok, MapKept.run_getObj_map h1, hK.chk, Sem.run_pure, hf, hx, Array.getElem?_eq_getElem hia, Option.map_some, Option.getD_some, hkey, Instr.keyThatStays, hK.stay, if_true]
   exact MapKept.run_setObj_map _ h1
  ·unfold pW
   rw [hx]
   apply List.ext_getElem?
   intro j
   have hj := congrArg (fun x : List (Value × Value) => x[j]?) h2
   simp only [List.getElem?_map, Array.getElem?_toList] at hj
   simp only [List.getElem?_map, Array.getElem?_toList, Array.getElem?_modify, List.getElem?_modify]
   by_cases hij : i = j
   ·subst hij
    simp [hi, Array.getElem?_eq_getElem hia]
   ·simpa [hij] using hj
theorem eR.len_run (h : eR enc W g l) {mt et : TypeId} (hm : Tryz.prog.underlying mt = some (.map kt et)) (rt : TypeId) : (Builtin.len_ #[mt] rt #[.map (some g)]).run Tryz.prog W = .ok (.int .i64 (l.length : Nat)) W := by
 obtain ⟨a, c, h1, h2⟩ := h
 have hlen : a.size = l.length := by
  have := congrArg List.length h2
  simpa using this
 unfold Builtin.len_
 simp [Sem.run_bind, run_underlying hm, Result.andThen_ok, MapKept.run_getObj_map h1, Sem.run_pure, hlen, goInt]
theorem DK (d : TypeDesc) (hs : ∀ a b : κ, Instr.sameNow d (enc a) (enc b) = some (decide (a = b))) (k : κ) : ∀ (l : List (κ × Value)) (a : List MapEntry) (i : Nat), a.map (fun e => (e.key, e.val)) = l.map (fun p => (enc p.1, p.2)) → Instr.findNow d (enc k) a i = some (dx k l i)
 | [], a, i, h => by
  have : a = [] := by simpa using h
  subst this
  rfl
 | p :: l, [], i, h => by cases h
 | p :: l, e :: a, i, h => by
  simp only [List.map_cons, List.cons.injEq, Prod.mk.injEq] at h
  obtain ⟨⟨h1, h2⟩, h3⟩ := h
  unfold Instr.findNow dx
  rw [h1, hs]
  by_cases hk : k = p.1
  ·rw [decide_eq_true hk, if_pos hk, h2]
  ·rw [decide_eq_false hk, if_neg hk]
   exact DK d hs k l a (i + 1) h3
end
theorem ya : KeyK ByteArray 9 Value.string where
 chk := fun e k W => by kernel_rfl
 fnd := fun l a k W h => MapKept.run_findKey Tryz.underlying9 (DK .string (fun x y => by
  show some (x == y) = _
  congr 1
  rw [Bool.eq_iff_iff, MapKept.bytes_beq, decide_eq_true_iff]) k l a 0 h)
 stay := fun k => by
  show (k == k) = true
  exact (MapKept.bytes_beq k k).2 rfl
end
section
def sA (k : ByteArray × Int) : Value := .agg #[.string k.1, .int .u32 k.2]
theorem UM (d : Nat) (w : World) (x y : ByteArray × Int) : (Op.equalIn (d + 2) 96 (sA x) (sA y)).run Tryz.prog w = .ok (x.1.toList == y.1.toList && (x.2 == y.2)) w := by
 refine wE Tryz.underlying96 (by kernel_rfl) ?_
 refine qT (by rfl) (by go_simp; rfl) (by go_simp; rfl) (by go_simp) ?_
 exact qS (by rfl) (by go_simp; rfl) (by go_simp; rfl) (by go_simp)
theorem Nv (x y : ByteArray × Int) : (x.1.toList == y.1.toList && (x.2 == y.2)) = decide (x = y) := by
 obtain ⟨a, b⟩ := x
 obtain ⟨c, d⟩ := y
 rw [Bool.eq_iff_iff]
 simp only [Bool.and_eq_true, beq_iff_eq, decide_eq_true_eq, Prod.mk.injEq]
 have h : ∀ p q : ByteArray, p.toList = q.toList ↔ p = q := fun p q => by
  rw [ByteArray.toList_eq, ByteArray.toList_eq]
  exact ⟨fun h => by obtain ⟨⟨l⟩⟩ := p; obtain ⟨⟨l'⟩⟩ := q; simp_all, fun h => by rw [h]⟩
 rw [h]
theorem I2 (k : ByteArray × Int) (w : World) : ∀ (l : List ((ByteArray × Int) × Value)) (a : List MapEntry) (i : Nat), a.map (fun e => (e.key, e.val)) = l.map (fun p => (sA p.1, p.2)) → (Instr.findAsking 96 (sA k) a i).run Tryz.prog w = .ok (dx k l i) w
 | [], a, i, h => by
  have : a = [] := by simpa using h
  subst this
  rfl
 | p :: l, [], i, h => by cases h
 | p :: l, e :: a, i, h => by
  simp only [List.map_cons, List.cons.injEq, Prod.mk.injEq] at h
  obtain ⟨⟨h1, h2⟩, h3⟩ := h
  unfold Instr.findAsking dx Op.equal
  rw [h1, h2]
  simp only [Sem.run_bind, show Op.maxDepth = 9998 + 2 from rfl, UM, Result.andThen_ok, Nv]
  by_cases hk : k = p.1
  ·rw [decide_eq_true hk, if_pos hk]
   rfl
  ·rw [decide_eq_false hk, if_neg hk]
   exact I2 k w l a (i + 1) h3
theorem Qo : KeyK (ByteArray × Int) 96 sA where
 chk := fun e k W => by kernel_rfl
 fnd := fun l a k W h => by
  unfold Instr.findKey
  simp only [Sem.run_bind, run_underlying Tryz.underlying96, Result.andThen_ok]
  match l, a, h with
  | [], a, h =>
   have : a = [] := by simpa using h
   subst this
   rfl
  | p :: l, [], h => cases h
  | p :: l, e :: a, h =>
   have h1 := h
   simp only [List.map_cons, List.cons.injEq, Prod.mk.injEq] at h1
   rw [show ∀ fs, Instr.findNow (.struct fs) (sA k) (e :: a) 0 = none from fun fs => by
    unfold Instr.findNow
    rw [h1.1.1]
    rfl]
   exact I2 k W (p :: l) (e :: a) 0 h
 stay := fun k => by
  show ((2 == 2) && ((#[Value.string k.1, .int .u32 k.2].toList.zip #[Value.string k.1, .int .u32 k.2].toList).all fun (x, y) => Instr.sameBits 9999 x y)) = true
  simp [Instr.sameBits, MapKept.bytes_beq]
end
section
attribute [local go_sem] bq bn bI bH aW aV bp bj
def cq.l0 : Nat → Int → ByteArray → Bool → Option (ByteArray)
 | 0, _, _, _ => none
 | k + 1, x0, x3, x4 => if x4 = true then ((some (([(48 + (Int.tmod x0 10)) % 256] : List Int) : List Int)).bind fun mz => (if (strOfNums mz).size + x3.size ≤ 9223372036854775807 then (cq.l0 k ((Int.tdiv x0 10) % 256) ((strOfNums mz) ++ x3) (decide (((Int.tdiv x0 10) % 256) > 0))) else (none))) else (some x3)
def cq.f (k : Nat) (a0 : Int) : Option (ByteArray) := cq.l0 k a0 (⟨#[]⟩ : ByteArray) true
theorem cq.mono_l : ∀ k, (∀ y0 y1 y2, bQ (cq.l0 k y0 y1 y2) (cq.l0 (k + 1) y0 y1 y2))
 | 0 => fun _ _ _ r h => by simp [cq.l0] at h
 | k + 1 => by
  have iH := cq.mono_l k
  ·intro y0 y1 y2
   unfold cq.l0
   repeat' first
   | (with_reducible exact iH _ _ _)
   | (with_reducible exact bQ.refl _)
   | (with_reducible exact bQ.none _)
   | (with_reducible refine bQ.ite ?_ ?_)
   | (with_reducible refine bQ.bind ?_ (fun _ => ?_))
   | exact iH _ _ _
   | exact bQ.none _
   | refine bQ.ite ?_ ?_
   | refine bQ.bind ?_ (fun _ => ?_)
theorem cq.mono : ∀ a0 k, bQ (cq.f k a0) (cq.f (k + 1) a0) := by
 intro a0 k
 have iH := cq.mono_l k
 unfold cq.f
 repeat' first
   | (with_reducible exact iH _ _ _)
   | (with_reducible exact bQ.refl _)
   | (with_reducible exact bQ.none _)
   | (with_reducible refine bQ.ite ?_ ?_)
   | (with_reducible refine bQ.bind ?_ (fun _ => ?_))
   | exact iH _ _ _
   | exact bQ.none _
   | refine bQ.ite ?_ ?_
   | refine bQ.bind ?_ (fun _ => ?_)
set_option maxHeartbeats 8000000 in
set_option maxRecDepth 100000 in
theorem cq.calls (k : Nat) (a0 : Int) (r : ByteArray) (w : World) (h : cq.f k a0 = some r) :
  Calls Tryz.prog 145 #[.int .u8 a0] w fun e w' => e = .returned (.string r) ∧ Below w.heap.size w w' := by
 have HB := ak (Below.refl w.heap.size w)
 have H : (cq.l0 k a0 (⟨#[]⟩ : ByteArray) true) = some r := h
 clear h
 have H' := ak H; clear H
 go_enter Tryz.func145, Tryz.ntmps145
 go_wp2
 go_loopg [0, 3, 4] k (fun kq v0 v3 v4 w' => ∃ (iW : Int) (bK : ByteArray) (df : Bool), v0 = .int .u8 iW ∧ v3 = .string bK ∧ v4 = .bool df ∧ Aside0 (cq.l0 kq iW bK df = some r) ∧ Aside0 (kq ≤ k) ∧ Aside0 (Below w.heap.size w w'))
 case atStart => exact ⟨(a0), ((⟨#[]⟩ : ByteArray)), (true), rf, rf, rf, H', ⟨Nat.le_refl _⟩, ⟨bl⟩⟩
 case round =>
  clear H'
  obtain ⟨iW, bK, df, rfl, rfl, rfl, HA, ee, HB⟩ := hrel
  cases gk with
  | zero => exact absurd HA.out (by simp [cq.l0])
  | succ k1 =>
   have H := HA.out
   clear HA
   simp only [cq.l0] at H
   by_cases c2 : df = true
   ·subst c2
    replace H : ((some (([(48 + (Int.tmod iW 10)) % 256] : List Int) : List Int)).bind fun mz => (if (strOfNums mz).size + bK.size ≤ 9223372036854775807 then (cq.l0 k1 ((Int.tdiv iW 10) % 256) ((strOfNums mz) ++ bK) (decide (((Int.tdiv iW 10) % 256) > 0))) else (none))) = some r := by rw [if_pos rfl] at H; exact H
    obtain ⟨mz, tO⟩ : ∃ y_ : List Int, y_ = (([(48 + (Int.tmod iW 10)) % 256] : List Int)) := ⟨_, rfl⟩
    replace H : (if (strOfNums mz).size + bK.size ≤ 9223372036854775807 then (cq.l0 k1 ((Int.tdiv iW 10) % 256) ((strOfNums mz) ++ bK) (decide (((Int.tdiv iW 10) % 256) > 0))) else (none)) = some r := by first | (rw [tO]; with_reducible exact H) | (have gN := (Option.bind_some _ _).symm.trans H; rw [tO]; with_reducible exact gN) | (have gN := (Option.bind_some _ _).symm.trans H; with_reducible exact gN) | with_reducible exact H | (rw [tO]; exact H) | exact H
    have Gt := ak tO
    clear tO
    by_cases c3 : (strOfNums mz).size + bK.size ≤ 9223372036854775807
    ·rw [if_pos c3] at H
     have gq := eq_true c3
     have yE := decide_eq_true c3
     try have Kg := eq_false (Nat.not_lt.2 c3)
     have H' := ak H; clear H
     go_wp2_with (first | ((with_reducible refine af (N := 11) rfl ?_); refine Kd.R_lit (Kd.int .u8) _ 5 ?hg (N := 11) ?hd (xs := ([(48 + (Int.tmod iW 10)) % 256] : List Int)) (inner := [.int .u8 ((48 + (Int.tmod iW 10)) % 256)]) (ok := fun _ => True) (okp := fun _ => True) ?hr ?hp (fun _ hk => hk) trivial (Below.refl _ _) (Nat.le_refl _) (by simp) ?_; (case hd => rfl); (case hg => rfl); (case hr => first | (go_simp; done) | (go_simp; rfl)); (case hp => exact (bZ.one (show Kd.M (Kd.int .u8) _ _ _ ((48 + (Int.tmod iW 10)) % 256) [.int .u8 ((48 + (Int.tmod iW 10)) % 256)] from rfl) (bZ.none _ _))); intro ac4 w4 zG hb bO jI; clear bO jI; (first | rw [← Gt.out] at zG | (simp only [Int.reduceToNat] at zG; rw [← Gt.out] at zG)); have OZ := ak (Kd.R_lower zG (fj bl)); replace HB := bs hb; clear hb zG; have aT2 := di (P := Tryz.prog) Tryz.underlying61 Tryz.underlying5 Tryz.underlying9 (Kd.own_of_R OZ.out)))
     go_roundg k1
     case measure => have := ee.out; omega
     case rel => exact ⟨((Int.tdiv iW 10) % 256), ((strOfNums mz) ++ bK), (decide (((Int.tdiv iW 10) % 256) > 0)), rf, rf, rf, H', ⟨by have := ee.out; omega⟩, ⟨bl⟩⟩
    ·rw [if_neg c3] at H
     exact absurd H (by simp)
   ·replace c2 := Bool.eq_false_iff.mpr c2
    subst c2
    replace H : (some bK) = some r := by rw [if_neg (show ¬ (false = true) by decide)] at H; exact H
    obtain rfl := Option.some.inj H
    go_wp2
    go_ret
    exact ⟨rg, bl⟩
end
section
attribute [local go_sem] bq bn bI bH aW aV bp bj
mutual
def b7.j0 : Nat → ByteArray → Int → Bool → Option (Int × Bool)
 | 0, _, _, _ => none
 | k + 1, x0, x4, xT => if xT = true then (some (0, false)) else (b7.l0 k x0 x4 (x0.size : Int) 0)
def b7.l0 : Nat → ByteArray → Int → Int → Int → Option (Int × Bool)
 | 0, _, _, _, _ => none
 | k + 1, x0, x4, AF, Et => if Et < AF then (if 0 ≤ Et then (if Et < (x0.size : Int) then (if (bt x0 Et) < 48 then (some (0, false)) else (if (bt x0 Et) > 57 then (some (0, false)) else (b7.l0 k x0 (wrap64 ((wrap64 (10 * x4)) + (((bt x0 Et) - 48) % 256))) AF (wrap64 (Et + 1))))) else (none)) else (none)) else (if x4 < 256 then ((cq.f k ((x4) % 256)).bind fun yW => (some ((x4) % 256, (yW.toList == x0.toList)))) else (some ((x4) % 256, false)))
end
def b7.f (k : Nat) (a0 : ByteArray) : Option (Int × Bool) := if a0.toList = ([] : List UInt8) then (b7.j0 k a0 0 true) else (b7.j0 k a0 0 (decide ((a0.size : Int) > 3)))
theorem b7.mono_l : ∀ k, (∀ y0 y1 y2, bQ (b7.j0 k y0 y1 y2) (b7.j0 (k + 1) y0 y1 y2)) ∧ (∀ y0 y1 y2 y3, bQ (b7.l0 k y0 y1 y2 y3) (b7.l0 (k + 1) y0 y1 y2 y3))
 | 0 => ⟨fun _ _ _ r h => by simp [b7.j0] at h, fun _ _ _ _ r h => by simp [b7.l0] at h⟩
 | k + 1 => by
  obtain ⟨iH, tN⟩ := b7.mono_l k
  refine ⟨?_, ?_⟩
  ·intro y0 y1 y2
   unfold b7.j0
   repeat' first
   | (with_reducible exact iH _ _ _)
   | (with_reducible exact tN _ _ _ _)
   | (with_reducible exact cq.mono _ _)
   | (with_reducible exact bQ.refl _)
   | (with_reducible exact bQ.none _)
   | (with_reducible refine bQ.ite ?_ ?_)
   | (with_reducible refine bQ.bind ?_ (fun _ => ?_))
   | exact iH _ _ _
   | exact tN _ _ _ _
   | exact cq.mono _ _
   | exact bQ.none _
   | refine bQ.ite ?_ ?_
   | refine bQ.bind ?_ (fun _ => ?_)
  ·intro y0 y1 y2 y3
   unfold b7.l0
   repeat' first
   | (with_reducible exact iH _ _ _)
   | (with_reducible exact tN _ _ _ _)
   | (with_reducible exact cq.mono _ _)
   | (with_reducible exact bQ.refl _)
   | (with_reducible exact bQ.none _)
   | (with_reducible refine bQ.ite ?_ ?_)
   | (with_reducible refine bQ.bind ?_ (fun _ => ?_))
   | exact iH _ _ _
   | exact tN _ _ _ _
   | exact cq.mono _ _
   | exact bQ.none _
   | refine bQ.ite ?_ ?_
   | refine bQ.bind ?_ (fun _ => ?_)
theorem b7.mono : ∀ a0 k, bQ (b7.f k a0) (b7.f (k + 1) a0) := by
 intro a0 k
 obtain ⟨iH, tN⟩ := b7.mono_l k
 unfold b7.f
 repeat' first
   | (with_reducible exact iH _ _ _)
   | (with_reducible exact tN _ _ _ _)
   | (with_reducible exact cq.mono _ _)
   | (with_reducible exact bQ.refl _)
   | (with_reducible exact bQ.none _)
   | (with_reducible refine bQ.ite ?_ ?_)
   | (with_reducible refine bQ.bind ?_ (fun _ => ?_))
   | exact iH _ _ _
   | exact tN _ _ _ _
   | exact cq.mono _ _
   | exact bQ.none _
   | refine bQ.ite ?_ ?_
   | refine bQ.bind ?_ (fun _ => ?_)
set_option maxHeartbeats 8000000 in
set_option maxRecDepth 100000 in
theorem b7.calls (k : Nat) (a0 : ByteArray) (r1 : Int) (r2 : Bool) (w : World) (h : b7.f k a0 = some (r1, r2)) :
  Calls Tryz.prog 130 #[.string a0] w fun e w' => e = .returned (.tuple #[.int .u8 r1, .bool r2]) ∧ Below w.heap.size w w' := by
 have HB := ak (Below.refl w.heap.size w)
 have H : (if a0.toList = ([] : List UInt8) then (b7.j0 k a0 0 true) else (b7.j0 k a0 0 (decide ((a0.size : Int) > 3)))) = some (r1, r2) := h
 clear h
 have nV := ak H
 clear H
 go_enter Tryz.func130, Tryz.ntmps130
 go_upto_region 2 with (fail)
 go_cut [12] (fun v12 wc => ∃ (kq : Nat) (Ek : Bool), v12 = .bool Ek ∧ Aside0 (b7.j0 kq a0 0 Ek = some (r1, r2)) ∧ Aside0 (kq ≤ k) ∧ Aside0 (Below w.heap.size w wc))
 case first =>
  have H := nV.out
  clear nV
  by_cases c3 : a0.toList = ([] : List UInt8)
  ·rw [if_pos c3] at H
   have gq : (a0.toList == ([] : List UInt8)) = true := beq_iff_eq.mpr c3
   have yE : (a0.toList != ([] : List UInt8)) = false := bne_eq_false_iff_eq.mpr c3
   clear c3
   (first | rw [gq] | (simp only [gO, kj]; rw [gq]) | skip)
   have H' := ak H; clear H
   go_wp2
   go_meet
   case rel => exact ⟨_, (true), rf, H', ⟨by first | omega | exact Nat.le_refl _⟩, ⟨bl⟩⟩
  ·rw [if_neg c3] at H
   have gq : (a0.toList == ([] : List UInt8)) = false := beq_eq_false_iff_ne.mpr c3
   have yE : (a0.toList != ([] : List UInt8)) = true := bne_iff_ne.mpr c3
   (first | rw [gq] | (simp only [gO, kj]; rw [gq]) | skip)
   have H' := ak H; clear H
   go_wp2
   go_meet
   case rel => exact ⟨_, (decide ((a0.size : Int) > 3)), rf, H', ⟨by first | omega | exact Nat.le_refl _⟩, ⟨bl⟩⟩
 case rest =>
  clear nV
  obtain ⟨kq, Ek, rfl, HA, mS, HB⟩ := hcut
  cases kq with
  | zero => exact absurd HA.out (by simp [b7.j0])
  | succ tI =>
   have H := HA.out
   clear HA
   simp only [b7.j0] at H
   by_cases c4 : Ek = true
   ·subst c4
    replace H : (some (0, false)) = some (r1, r2) := by rw [if_pos rfl] at H; exact H
    simp only [Option.some.injEq, Prod.mk.injEq] at H
    obtain ⟨rfl, rfl⟩ := H
    go_wp2
    go_ret2
    exact ⟨rg, bl⟩
   ·replace c4 := Bool.eq_false_iff.mpr c4
    subst c4
    replace H : (b7.l0 tI a0 0 (a0.size : Int) 0) = some (r1, r2) := by rw [if_neg (show ¬ (false = true) by decide)] at H; exact H
    have H' := ak H; clear H
    go_wp2
    go_loopg [4, 15] tI (fun kq v4 v15 w' => ∃ (zX : Int) (fI : Int), v4 = .int .i64 zX ∧ v15 = .int .i64 fI ∧ Aside0 (b7.l0 kq a0 zX (a0.size : Int) fI = some (r1, r2)) ∧ Aside0 (kq ≤ tI) ∧ Aside0 (Below w.heap.size w w'))
    case atStart => exact ⟨(0), (0), rf, rf, H', ⟨Nat.le_refl _⟩, ⟨bl⟩⟩
    case round =>
     clear H'
     obtain ⟨zX, fI, rfl, rfl, HA, kO, HB⟩ := hrel
     cases gk with
     | zero => exact absurd HA.out (by simp [b7.l0])
     | succ k2 =>
      have H := HA.out
      clear HA
      simp only [b7.l0] at H
      by_cases c5 : fI < (a0.size : Int)
      ·rw [if_pos c5] at H
       have nF := decide_eq_true c5
       clear c5
       by_cases c6 : 0 ≤ fI
       ·rw [if_pos c6] at H
        have jd := decide_eq_true c6
        clear c6
        by_cases c7 : fI < (a0.size : Int)
        ·rw [if_pos c7] at H
         have qV := decide_eq_true c7
         clear c7
         by_cases c9 : (bt a0 fI) < 48
         ·rw [if_pos c9] at H
          have xq := decide_eq_true c9
          clear c9
          simp only [Option.some.injEq, Prod.mk.injEq] at H
          obtain ⟨rfl, rfl⟩ := H
          have p8 : 0 ≤ (fI : Int) := od
          have q8 : fI < (a0.size : Int) := od
          have Yj := fi a0 fI
          replace p8 := eq_true p8
          replace q8 := eq_true q8
          go_wp2
          go_ret2
          exact ⟨rg, bl⟩
         ·rw [if_neg c9] at H
          have xq := decide_eq_false c9
          clear c9
          by_cases iy : (bt a0 fI) > 57
          ·rw [if_pos iy] at H
           have vk := decide_eq_true iy
           clear iy
           simp only [Option.some.injEq, Prod.mk.injEq] at H
           obtain ⟨rfl, rfl⟩ := H
           have p8 : 0 ≤ (fI : Int) := od
           have q8 : fI < (a0.size : Int) := od
           have Yj := fi a0 fI
           replace p8 := eq_true p8
           replace q8 := eq_true q8
           have Dl : 0 ≤ (fI : Int) := od
           have Di : fI < (a0.size : Int) := od
           have TZ := fi a0 fI
           replace Dl := eq_true Dl
           replace Di := eq_true Di
           go_wp2
           go_ret2
           exact ⟨rg, bl⟩
          ·rw [if_neg iy] at H
           have vk := decide_eq_false iy
           clear iy
           have H' := ak H; clear H
           have p8 : 0 ≤ (fI : Int) := od
           have q8 : fI < (a0.size : Int) := od
           have Yj := fi a0 fI
           replace p8 := eq_true p8
           replace q8 := eq_true q8
           have Dl : 0 ≤ (fI : Int) := od
           have Di : fI < (a0.size : Int) := od
           have TZ := fi a0 fI
           replace Dl := eq_true Dl
           replace Di := eq_true Di
           have Ye : 0 ≤ (fI : Int) := od
           have Yc : fI < (a0.size : Int) := od
           have aQ6 := fi a0 fI
           replace Ye := eq_true Ye
           replace Yc := eq_true Yc
           go_wp2
           go_roundg k2
           case measure => have := mS.out; have := kO.out; omega
           case rel => exact ⟨(wrap64 ((wrap64 (10 * zX)) + (((bt a0 fI) - 48) % 256))), (wrap64 (fI + 1)), rf, rf, H', ⟨by have := mS.out; have := kO.out; omega⟩, ⟨bl⟩⟩
        ·rw [if_neg c7] at H
         exact absurd H (by simp)
       ·rw [if_neg c6] at H
        exact absurd H (by simp)
      ·rw [if_neg c5] at H
       have nF := decide_eq_false c5
       clear c5
       by_cases qw : zX < 256
       ·rw [if_pos qw] at H
        have Kj := decide_eq_true qw
        clear qw
        replace H := Option.bind_eq_some_iff.mp H
        obtain ⟨yW, Wo, H⟩ := H
        replace H : (some ((zX) % 256, (yW.toList == a0.toList))) = some (r1, r2) := H
        have yR := ak Wo
        clear Wo
        simp only [Option.some.injEq, Prod.mk.injEq] at H
        obtain ⟨rfl, rfl⟩ := H
        go_wp2_with (first | (go_at_call 145; (with_reducible refine (cq.calls k2 ((zX) % 256) yW _ yR.out).mono ?_); rintro e vG ⟨rfl, hb⟩; replace HB := bs hb; (try clear hb); (try clear aU); (try clear hk); (try clear hi)))
        go_ret2
        exact ⟨rg, bl⟩
       ·rw [if_neg qw] at H
        have Kj := decide_eq_false qw
        clear qw
        simp only [Option.some.injEq, Prod.mk.injEq] at H
        obtain ⟨rfl, rfl⟩ := H
        go_wp2
        go_ret2
        exact ⟨rg, bl⟩
end
section
attribute [local go_sem] bq bn bI bH aW aV bp bj
def bg.f : Nat → Int → Option (ByteArray)
 | 0, _ => none
 | k + 1, a0 => if a0 < 10 then (some (strOfNums (([(wrap64 (48 + a0)) % 256] : List Int)))) else ((bg.f k (wrap64 (Int.tdiv a0 10))).bind fun ku => ((bg.f k (Int.tmod a0 10)).bind fun jQ => (if ku.size + jQ.size ≤ 9223372036854775807 then (some (ku ++ jQ)) else (none))))
theorem bg.mono_l : ∀ k, (∀ y0, bQ (bg.f k y0) (bg.f (k + 1) y0))
 | 0 => fun _ r h => by simp [bg.f] at h
 | k + 1 => by
  have iH := bg.mono_l k
  ·intro y0
   unfold bg.f
   repeat' first
   | (with_reducible exact iH _)
   | (with_reducible exact bQ.refl _)
   | (with_reducible exact bQ.none _)
   | (with_reducible refine bQ.ite ?_ ?_)
   | (with_reducible refine bQ.bind ?_ (fun _ => ?_))
   | exact iH _
   | exact bQ.none _
   | refine bQ.ite ?_ ?_
   | refine bQ.bind ?_ (fun _ => ?_)
theorem bg.mono : ∀ a0 k, bQ (bg.f k a0) (bg.f (k + 1) a0) := by
 intro a0 k
 have iH := bg.mono_l k
 exact iH a0
set_option maxHeartbeats 8000000 in
set_option maxRecDepth 100000 in
theorem bg.calls (k : Nat) : ∀ (a0 : Int) (r : ByteArray) (w : World) (h : bg.f k a0 = some r),
  Calls Tryz.prog 104 #[.int .i64 a0] w fun e w' => e = .returned (.string r) ∧ Below w.heap.size w w' := by
 induction k using Nat.strongRecOn with
 | _ k ih =>
 intro a0 r w h
 cases k with
 | zero => exact absurd h (by simp [bg.f])
 | succ k =>
 simp only [bg.f] at h
 have HB := ak (Below.refl w.heap.size w)
 have H : (if a0 < 10 then (some (strOfNums (([(wrap64 (48 + a0)) % 256] : List Int)))) else ((bg.f k (wrap64 (Int.tdiv a0 10))).bind fun ku => ((bg.f k (Int.tmod a0 10)).bind fun jQ => (if ku.size + jQ.size ≤ 9223372036854775807 then (some (ku ++ jQ)) else (none))))) = some r := h
 clear h
 by_cases c2 : a0 < 10
 ·rw [if_pos c2] at H
  have ig := decide_eq_true c2
  clear c2
  obtain ⟨QJ, tQ⟩ : ∃ y_ : List Int, y_ = (([(wrap64 (48 + a0)) % 256] : List Int)) := ⟨_, rfl⟩
  replace H : (some (strOfNums QJ)) = some r := by first | (rw [tQ]; with_reducible exact H) | (have gN := (Option.bind_some _ _).symm.trans H; rw [tQ]; with_reducible exact gN) | (have gN := (Option.bind_some _ _).symm.trans H; with_reducible exact gN) | with_reducible exact H | (rw [tQ]; exact H) | exact H
  have Gv := ak tQ
  clear tQ
  obtain rfl := Option.some.inj H
  go_enter Tryz.func104, Tryz.ntmps104
  go_wp2_with (first | ((with_reducible refine af (N := 8) rfl ?_); refine Kd.R_lit (Kd.int .u8) _ 5 ?hg (N := 8) ?hd (xs := ([(wrap64 (48 + a0)) % 256] : List Int)) (inner := [.int .u8 ((wrap64 (48 + a0)) % 256)]) (ok := fun _ => True) (okp := fun _ => True) ?hr ?hp (fun _ hk => hk) trivial (Below.refl _ _) (Nat.le_refl _) (by simp) ?_; (case hd => rfl); (case hg => rfl); (case hr => first | (go_simp; done) | (go_simp; rfl)); (case hp => exact (bZ.one (show Kd.M (Kd.int .u8) _ _ _ ((wrap64 (48 + a0)) % 256) [.int .u8 ((wrap64 (48 + a0)) % 256)] from rfl) (bZ.none _ _))); intro ac6 w3 pq hb bO jI; clear bO jI; (first | rw [← Gv.out] at pq | (simp only [Int.reduceToNat] at pq; rw [← Gv.out] at pq)); have O1 := ak (Kd.R_lower pq (fj bl)); replace HB := bs hb; clear hb pq; have Uw := di (P := Tryz.prog) Tryz.underlying61 Tryz.underlying5 Tryz.underlying9 (Kd.own_of_R O1.out)))
  go_ret
  exact ⟨rg, bl⟩
 ·rw [if_neg c2] at H
  have ig := decide_eq_false c2
  clear c2
  replace H := Option.bind_eq_some_iff.mp H
  obtain ⟨ku, D3, H⟩ := H
  replace H : ((bg.f k (Int.tmod a0 10)).bind fun jQ => (if ku.size + jQ.size ≤ 9223372036854775807 then (some (ku ++ jQ)) else (none))) = some r := H
  have A6 := ak D3
  clear D3
  replace H := Option.bind_eq_some_iff.mp H
  obtain ⟨jQ, yP, H⟩ := H
  replace H : (if ku.size + jQ.size ≤ 9223372036854775807 then (some (ku ++ jQ)) else (none)) = some r := H
  have A7 := ak yP
  clear yP
  by_cases c8 : ku.size + jQ.size ≤ 9223372036854775807
  ·rw [if_pos c8] at H
   have qU := eq_true c8
   have CR := decide_eq_true c8
   try have aa3 := eq_false (Nat.not_lt.2 c8)
   obtain rfl := Option.some.inj H
   go_enter Tryz.func104, Tryz.ntmps104
   go_wp2_with (first | ((with_reducible refine au (f := 104) rfl ?_); refine gC (some 12) Tryz.func104 #[.int .i64 (wrap64 (Int.tdiv a0 10))] ?_; (with_reducible refine (ih k (by omega) (wrap64 (Int.tdiv a0 10)) ku _ A6.out).mono ?_); rintro e w9 ⟨rfl, hb⟩; refine ⟨_, rfl, ?_⟩; replace HB := bs hb; (try clear hb); (try clear aU); (try clear hk); (try clear hi)) | ((with_reducible refine au (f := 104) rfl ?_); refine gC (some 15) Tryz.func104 #[.int .i64 (Int.tmod a0 10)] ?_; (with_reducible refine (ih k (by omega) (Int.tmod a0 10) jQ _ A7.out).mono ?_); rintro e uB ⟨rfl, hb⟩; refine ⟨_, rfl, ?_⟩; replace HB := bs hb; (try clear hb); (try clear aU); (try clear hk); (try clear hi)))
   go_ret
   exact ⟨rg, bl⟩
  ·rw [if_neg c8] at H
   exact absurd H (by simp)
end
section
attribute [local go_sem] bq bn bI bH aW aV bp bj
def aA.l0 : Nat → ByteArray → Int → Int → Int → Option (Int × Bool)
 | 0, _, _, _, _ => none
 | k + 1, x0, x1, x6, x7 => if x7 < (x0.size : Int) then (if 0 ≤ x7 then (if (bt x0 x7) < 48 then (some (0, false)) else (if (bt x0 x7) > 57 then (some (0, false)) else (if x6 > x1 then (some (0, false)) else (aA.l0 k x0 x1 (wrap64 ((wrap64 ((wrap64 (10 * x6)) + (wrap64 (bt x0 x7)))) - 48)) (wrap64 (x7 + 1)))))) else (none)) else (if x0.toList = ([] : List UInt8) then (some (0, false)) else (if x6 > x1 then (some (0, false)) else ((bg.f k x6).bind fun n9 => (if n9.toList = x0.toList then (some (x6, true)) else (some (0, false))))))
def aA.f (k : Nat) (a0 : ByteArray) (a1 : Int) : Option (Int × Bool) := aA.l0 k a0 a1 0 0
theorem aA.mono_l : ∀ k, (∀ y0 y1 y2 y3, bQ (aA.l0 k y0 y1 y2 y3) (aA.l0 (k + 1) y0 y1 y2 y3))
 | 0 => fun _ _ _ _ r h => by simp [aA.l0] at h
 | k + 1 => by
  have iH := aA.mono_l k
  ·intro y0 y1 y2 y3
   unfold aA.l0
   repeat' first
   | (with_reducible exact iH _ _ _ _)
   | (with_reducible exact bg.mono _ _)
   | (with_reducible exact bQ.refl _)
   | (with_reducible exact bQ.none _)
   | (with_reducible refine bQ.ite ?_ ?_)
   | (with_reducible refine bQ.bind ?_ (fun _ => ?_))
   | exact iH _ _ _ _
   | exact bg.mono _ _
   | exact bQ.none _
   | refine bQ.ite ?_ ?_
   | refine bQ.bind ?_ (fun _ => ?_)
theorem aA.mono : ∀ a0 a1 k, bQ (aA.f k a0 a1) (aA.f (k + 1) a0 a1) := by
 intro a0 a1 k
 have iH := aA.mono_l k
 unfold aA.f
 repeat' first
   | (with_reducible exact iH _ _ _ _)
   | (with_reducible exact bg.mono _ _)
   | (with_reducible exact bQ.refl _)
   | (with_reducible exact bQ.none _)
   | (with_reducible refine bQ.ite ?_ ?_)
   | (with_reducible refine bQ.bind ?_ (fun _ => ?_))
   | exact iH _ _ _ _
   | exact bg.mono _ _
   | exact bQ.none _
   | refine bQ.ite ?_ ?_
   | refine bQ.bind ?_ (fun _ => ?_)
set_option maxHeartbeats 8000000 in
set_option maxRecDepth 100000 in
theorem aA.calls (k : Nat) (a0 : ByteArray) (a1 : Int) (r1 : Int) (r2 : Bool) (w : World) (h : aA.f k a0 a1 = some (r1, r2)) :
  Calls Tryz.prog 98 #[.string a0, .int .i64 a1] w fun e w' => e = .returned (.tuple #[.int .i64 r1, .bool r2]) ∧ Below w.heap.size w w' := by
 have HB := ak (Below.refl w.heap.size w)
 have H : (aA.l0 k a0 a1 0 0) = some (r1, r2) := h
 clear h
 have H' := ak H; clear H
 go_enter Tryz.func98, Tryz.ntmps98
 go_wp2
 go_loopg [6, 7] k (fun kq v6 v7 w' => ∃ (jt : Int) (aR : Int), v6 = .int .i64 jt ∧ v7 = .int .i64 aR ∧ Aside0 (aA.l0 kq a0 a1 jt aR = some (r1, r2)) ∧ Aside0 (kq ≤ k) ∧ Aside0 (Below w.heap.size w w'))
 case atStart => exact ⟨(0), (0), rf, rf, H', ⟨Nat.le_refl _⟩, ⟨bl⟩⟩
 case round =>
  clear H'
  obtain ⟨jt, aR, rfl, rfl, HA, ee, HB⟩ := hrel
  cases gk with
  | zero => exact absurd HA.out (by simp [aA.l0])
  | succ k1 =>
   have H := HA.out
   clear HA
   simp only [aA.l0] at H
   by_cases c3 : aR < (a0.size : Int)
   ·rw [if_pos c3] at H
    have gq := decide_eq_true c3
    clear c3
    by_cases c4 : 0 ≤ aR
    ·rw [if_pos c4] at H
     have eQ := decide_eq_true c4
     clear c4
     by_cases c6 : (bt a0 aR) < 48
     ·rw [if_pos c6] at H
      have jd := decide_eq_true c6
      clear c6
      simp only [Option.some.injEq, Prod.mk.injEq] at H
      obtain ⟨rfl, rfl⟩ := H
      have p5 : 0 ≤ (aR : Int) := od
      have q5 : aR < (a0.size : Int) := od
      have tT := fi a0 aR
      replace p5 := eq_true p5
      replace q5 := eq_true q5
      go_wp2
      go_ret2
      exact ⟨rg, bl⟩
     ·rw [if_neg c6] at H
      have jd := decide_eq_false c6
      clear c6
      by_cases c8 : (bt a0 aR) > 57
      ·rw [if_pos c8] at H
       have qU := decide_eq_true c8
       clear c8
       simp only [Option.some.injEq, Prod.mk.injEq] at H
       obtain ⟨rfl, rfl⟩ := H
       have p5 : 0 ≤ (aR : Int) := od
       have q5 : aR < (a0.size : Int) := od
       have tT := fi a0 aR
       replace p5 := eq_true p5
       replace q5 := eq_true q5
       have p7 : 0 ≤ (aR : Int) := od
       have q7 : aR < (a0.size : Int) := od
       have PI := fi a0 aR
       replace p7 := eq_true p7
       replace q7 := eq_true q7
       go_wp2
       go_ret2
       exact ⟨rg, bl⟩
      ·rw [if_neg c8] at H
       have qU := decide_eq_false c8
       clear c8
       by_cases c9 : jt > a1
       ·rw [if_pos c9] at H
        have xq := decide_eq_true c9
        clear c9
        simp only [Option.some.injEq, Prod.mk.injEq] at H
        obtain ⟨rfl, rfl⟩ := H
        have p5 : 0 ≤ (aR : Int) := od
        have q5 : aR < (a0.size : Int) := od
        have tT := fi a0 aR
        replace p5 := eq_true p5
        replace q5 := eq_true q5
        have p7 : 0 ≤ (aR : Int) := od
        have q7 : aR < (a0.size : Int) := od
        have PI := fi a0 aR
        replace p7 := eq_true p7
        replace q7 := eq_true q7
        go_wp2
        go_ret2
        exact ⟨rg, bl⟩
       ·rw [if_neg c9] at H
        have xq := decide_eq_false c9
        clear c9
        have H' := ak H; clear H
        have p5 : 0 ≤ (aR : Int) := od
        have q5 : aR < (a0.size : Int) := od
        have tT := fi a0 aR
        replace p5 := eq_true p5
        replace q5 := eq_true q5
        have p7 : 0 ≤ (aR : Int) := od
        have q7 : aR < (a0.size : Int) := od
        have PI := fi a0 aR
        replace p7 := eq_true p7
        replace q7 := eq_true q7
        have Dl : 0 ≤ (aR : Int) := od
        have Di : aR < (a0.size : Int) := od
        have TZ := fi a0 aR
        replace Dl := eq_true Dl
        replace Di := eq_true Di
        go_wp2
        go_roundg k1
        case measure => have := ee.out; omega
        case rel => exact ⟨(wrap64 ((wrap64 ((wrap64 (10 * jt)) + (wrap64 (bt a0 aR)))) - 48)), (wrap64 (aR + 1)), rf, rf, H', ⟨by have := ee.out; omega⟩, ⟨bl⟩⟩
    ·rw [if_neg c4] at H
     exact absurd H (by simp)
   ·rw [if_neg c3] at H
    have gq := decide_eq_false c3
    clear c3
    by_cases iy : a0.toList = ([] : List UInt8)
    ·rw [if_pos iy] at H
     have vk : (a0.toList == ([] : List UInt8)) = true := beq_iff_eq.mpr iy
     have BQ : (a0.toList != ([] : List UInt8)) = false := bne_eq_false_iff_eq.mpr iy
     clear iy
     simp only [Option.some.injEq, Prod.mk.injEq] at H
     obtain ⟨rfl, rfl⟩ := H
     go_wp2
     go_ret2
     exact ⟨rg, bl⟩
    ·rw [if_neg iy] at H
     have vk : (a0.toList == ([] : List UInt8)) = false := beq_eq_false_iff_ne.mpr iy
     have BQ : (a0.toList != ([] : List UInt8)) = true := bne_iff_ne.mpr iy
     by_cases dB : jt > a1
     ·rw [if_pos dB] at H
      have u9 := decide_eq_true dB
      clear dB
      simp only [Option.some.injEq, Prod.mk.injEq] at H
      obtain ⟨rfl, rfl⟩ := H
      go_wp2
      go_ret2
      exact ⟨rg, bl⟩
     ·rw [if_neg dB] at H
      have u9 := decide_eq_false dB
      clear dB
      replace H := Option.bind_eq_some_iff.mp H
      obtain ⟨n9, GY, H⟩ := H
      replace H : (if n9.toList = a0.toList then (some (jt, true)) else (some (0, false))) = some (r1, r2) := H
      have GZ := ak GY
      clear GY
      by_cases hG : n9.toList = a0.toList
      ·rw [if_pos hG] at H
       have zo : (n9.toList == a0.toList) = true := beq_iff_eq.mpr hG
       have XN : (n9.toList != a0.toList) = false := bne_eq_false_iff_eq.mpr hG
       clear hG
       simp only [Option.some.injEq, Prod.mk.injEq] at H
       obtain ⟨rfl, rfl⟩ := H
       go_wp2_with (first | (go_at_call 104; (with_reducible refine (bg.calls k1 jt n9 _ GZ.out).mono ?_); rintro e vG ⟨rfl, hb⟩; replace HB := bs hb; (try clear hb); (try clear aU); (try clear hk); (try clear hi)))
       go_ret2
       exact ⟨rg, bl⟩
      ·rw [if_neg hG] at H
       have zo : (n9.toList == a0.toList) = false := beq_eq_false_iff_ne.mpr hG
       have XN : (n9.toList != a0.toList) = true := bne_iff_ne.mpr hG
       simp only [Option.some.injEq, Prod.mk.injEq] at H
       obtain ⟨rfl, rfl⟩ := H
       go_wp2_with (first | (go_at_call 104; (with_reducible refine (bg.calls k1 jt n9 _ GZ.out).mono ?_); rintro e Pv ⟨rfl, hb⟩; replace HB := bs hb; (try clear hb); (try clear aU); (try clear hk); (try clear hi)))
       go_ret2
       exact ⟨rg, bl⟩
end
section
theorem up {α : Type} (F : Nat → Option α) (hm : ∀ k, bQ (F k) (F (k + 1))) {k k' : Nat} (h : k ≤ k') {r : α} (hr : F k = some r) : F k' = some r := by
 obtain ⟨d, rfl⟩ := Nat.le.dest h
 induction d with
 | zero => exact hr
 | succ n ih => exact hm _ _ (ih (by omega))
def fg (n : Nat) : List UInt8 := if n < 10 then [UInt8.ofNat (48 + n)] else if n < 100 then [UInt8.ofNat (48 + n / 10), UInt8.ofNat (48 + n % 10)] else [UInt8.ofNat (48 + n / 100), UInt8.ofNat (48 + n / 10 % 10), UInt8.ofNat (48 + n % 10)]
def fB (n : Nat) : ByteArray := ⟨(fg n).toArray⟩
theorem IL : ((List.range 256).all fun n => decide (cq.f 5 (n : Int) = some (fB n))) = true := by kernel_rfl
theorem Q4 : ((List.range 256).all fun n => decide (bg.f 4 (n : Int) = some (fB n))) = true := by kernel_rfl
theorem QN : ((List.range 256).all fun n => decide (b7.f 12 (fB n) = some ((n : Int), true))) = true := by kernel_rfl
theorem Nw : ((List.range 256).all fun n => decide (aA.f 12 (fB n) 255 = some ((n : Int), true))) = true := by kernel_rfl
end
section
def byteOf (w : List UInt8) : Option Nat := (List.range 256).find? fun n => fg n == w
theorem Ow : ((List.range 256).all fun n => byteOf (fg n) == some n) = true := by kernel_rfl
theorem oy (n : Nat) (h : n < 256) : byteOf (fg n) = some n := by
 have := List.all_eq_true.1 Ow n (List.mem_range.2 h)
 simpa using this
theorem ft {w : List UInt8} {n : Nat} (h : byteOf w = some n) : n < 256 ∧ w = fg n := by
 unfold byteOf at h
 have h1 := List.find?_some h
 have h2 := List.mem_of_find?_eq_some h
 exact ⟨List.mem_range.1 h2, (by simpa using h1 : fg n = w).symm⟩
theorem uZ (n : Nat) : (fB n).data.toList = fg n := by simp [fB]
theorem zj {s : ByteArray} {n : Nat} (h : s.data.toList = fg n) : s = fB n := by
 cases s with
 | mk d => simp [fB]; rw [← h]
theorem uP {s t : ByteArray} (h : s.toList = t.toList) : s.data.toList = t.data.toList := by rw [← Lib.toList_data, ← Lib.toList_data, h]
theorem ox (n : Nat) : (fg n).length ≤ 3 := by unfold fg; split <;> (try split) <;> simp
theorem Xn (n : Nat) (hn : n < 256) (k : Nat) (hk : 5 ≤ k) : cq.f k (n : Int) = some (fB n) :=
 up (fun k => cq.f k (n : Int)) (cq.mono _) hk (by have := List.all_eq_true.1 IL n (List.mem_range.2 hn); simpa using this)
theorem WJ (n : Nat) (hn : n < 256) (k : Nat) (hk : 4 ≤ k) : bg.f k (n : Int) = some (fB n) :=
 up (fun k => bg.f k (n : Int)) (bg.mono _) hk (by have := List.all_eq_true.1 Q4 n (List.mem_range.2 hn); simpa using this)
theorem Td (s : ByteArray) (hs : s.size ≤ 3) : ∀ (d k j : Nat) (v : Int), s.size - j ≤ d → d + 6 ≤ k → j ≤ s.size →
  ∃ r, b7.l0 k s v (s.size : Int) (j : Int) = some r ∧ (r.2 = true → ∃ n : Nat, n < 256 ∧ s.data.toList = fg n) := by
 intro d
 induction d with
 | zero =>
  intro k j v hd hk hj
  obtain ⟨k, rfl⟩ : ∃ m, k = m + 1 := ⟨k - 1, by omega⟩
  unfold b7.l0
  rw [if_neg (by omega)]
  by_cases hv : v < 256
  ·obtain ⟨n, hn⟩ : ∃ n : Nat, v % 256 = n := ⟨(v % 256).toNat, by omega⟩
   rw [if_pos hv, hn, Xn n (by omega) k (by omega)]
   refine ⟨_, rfl, fun h => ⟨n, by omega, ?_⟩⟩
   have e := uP (by simpa using h : (fB n).toList = s.toList)
   rw [← e, uZ]
  ·rw [if_neg hv]
   exact ⟨_, rfl, fun h => (by cases h)⟩
 | succ d ih =>
  intro k j v hd hk hj
  by_cases lO : j = s.size
  ·exact ih k j v (by omega) (by omega) hj
  obtain ⟨k, rfl⟩ : ∃ m, k = m + 1 := ⟨k - 1, by omega⟩
  unfold b7.l0
  rw [if_pos (by omega), if_pos (by omega), if_pos (by omega)]
  split
  ·exact ⟨_, rfl, fun h => (by cases h)⟩
  ·split
   ·exact ⟨_, rfl, fun h => (by cases h)⟩
   ·rw [bB ((j : Int) + 1) (by omega) (by omega)]
    exact ih k (j + 1) _ (by omega) (by omega) (by omega)
def yU (s : ByteArray) (r : Int × Bool) : Prop := match byteOf s.data.toList with
 | some n => r = ((n : Int), true)
 | none => r.2 = false
theorem Wq (s : ByteArray) (k : Nat) (hk : 12 ≤ k) : ∃ r, b7.f k s = some r ∧ yU s r := by
 cases hb : byteOf s.data.toList with
 | some n =>
  obtain ⟨h1, h2⟩ := ft hb
  have e := zj h2
  subst e
  refine ⟨((n : Int), true), up (fun k => b7.f k (fB n)) (b7.mono _) hk ?_, by unfold yU; rw [hb]⟩
  have := List.all_eq_true.1 QN n (List.mem_range.2 h1)
  simpa using this
 | none =>
  suffices h : ∃ r, b7.f k s = some r ∧ (r.2 = true → ∃ n : Nat, n < 256 ∧ s.data.toList = fg n) by
   obtain ⟨r, h1, h2⟩ := h
   refine ⟨r, h1, ?_⟩
   unfold yU
   rw [hb]
   cases hr : r.2 with
   | false => rfl
   | true =>
    obtain ⟨n, hn, e⟩ := h2 hr
    rw [e, oy n hn] at hb
    cases hb
  obtain ⟨k, rfl⟩ : ∃ m, k = m + 1 := ⟨k - 1, by omega⟩
  simp only [b7.f, b7.j0]
  split
  ·exact ⟨_, rfl, fun h => (by cases h)⟩
  ·by_cases h3 : s.size ≤ 3
   ·rw [if_neg (by simp; omega)]
    exact Td s h3 3 k 0 0 (by omega) (by omega) (by omega)
   ·rw [if_pos (by simp; omega)]
    exact ⟨_, rfl, fun h => (by cases h)⟩
theorem Hz (s : ByteArray) (hs : s.size < 4611686018427387904) (most : Int) (hm : most ≤ 255) : ∀ (d k j : Nat) (v : Int), s.size - j ≤ d → d + 6 ≤ k → j ≤ s.size → 0 ≤ v → v ≤ 3000 →
  ∃ r, aA.l0 k s most v (j : Int) = some r ∧ (r.2 = true → ∃ n : Nat, n < 256 ∧ (n : Int) ≤ most ∧ s.data.toList = fg n) ∧ (r.2 = false → r.1 = 0) := by
 intro d
 induction d with
 | zero =>
  intro k j v hd hk hj h0 h1
  obtain ⟨k, rfl⟩ : ∃ m, k = m + 1 := ⟨k - 1, by omega⟩
  unfold aA.l0
  rw [if_neg (by omega)]
  split
  ·exact ⟨_, rfl, fun h => by simp at h, fun _ => rfl⟩
  ·split
   ·exact ⟨_, rfl, fun h => by simp at h, fun _ => rfl⟩
   ·rename_i hv
    obtain ⟨n, rfl⟩ : ∃ n : Nat, v = n := ⟨v.toNat, by omega⟩
    rw [WJ n (by omega) k (by omega)]
    by_cases he : (fB n).toList = s.toList
    ·refine ⟨((n : Int), true), by simp [he], fun h => ⟨n, by omega, by omega, ?_⟩, fun h => (by cases h)⟩
     rw [← uP he, uZ]
    ·exact ⟨(0, false), by simp [he], fun h => (by cases h), fun _ => rfl⟩
 | succ d ih =>
  intro k j v hd hk hj h0 h1
  by_cases lO : j = s.size
  ·exact ih k j v (by omega) (by omega) hj h0 h1
  obtain ⟨k, rfl⟩ : ∃ m, k = m + 1 := ⟨k - 1, by omega⟩
  unfold aA.l0
  rw [if_pos (by omega), if_pos (by omega)]
  split
  ·exact ⟨_, rfl, fun h => by simp at h, fun _ => rfl⟩
  ·split
   ·exact ⟨_, rfl, fun h => by simp at h, fun _ => rfl⟩
   ·split
    ·exact ⟨_, rfl, fun h => by simp at h, fun _ => rfl⟩
    ·rename_i c1 c2 c3
     have hb := xu s j
     rw [bB (10 * v) (by omega) (by omega), bB (bt s j) (by omega) (by omega), bB (10 * v + bt s j) (by omega) (by omega), bB (10 * v + bt s j - 48) (by omega) (by omega), bB ((j : Int) + 1) (by omega) (by omega)]
     exact ih k (j + 1) _ (by omega) (by omega) (by omega) (by omega) (by omega)
theorem Tp (s : ByteArray) (hs : s.size < 4611686018427387904) (k : Nat) (hk : s.size + 12 ≤ k) : aA.f k s 255 = some (match byteOf s.data.toList with | some n => ((n : Int), true) | none => (0, false)) := by
 cases hb : byteOf s.data.toList with
 | some n =>
  obtain ⟨h1, h2⟩ := ft hb
  have e := zj h2
  subst e
  refine up (fun k => aA.f k (fB n) 255) (aA.mono _ _) (show 12 ≤ k by omega) ?_
  have := List.all_eq_true.1 Nw n (List.mem_range.2 h1)
  simpa using this
 | none =>
  obtain ⟨r, h1, h2, h3⟩ := Hz s hs 255 (by omega) s.size k 0 0 (by omega) (by omega) (by omega) (by omega) (by omega)
  unfold aA.f
  have e : r = (0, false) := by
   cases hr : r.2 with
   | false => rw [← h3 hr, ← hr]
   | true =>
    obtain ⟨n, hn, _, e⟩ := h2 hr
    rw [e, oy n hn] at hb
    cases hb
  rw [← e]
  exact h1
end
end Go.Proofs.YtndddnglapkplaaGreatDoor.V
section
namespace Go.Proofs
open Go.Shelf
def Tryz.lays169_ren : Go.Shelf.Ren := ⟨fun | 169 => 139 | n => n, fun | 70 => 203 | 9 => 9 | 0 => 0 | 72 => 205 | 37 => 61 | 127 => 219 | 3 => 3 | 5 => 5 | n => n, fun | n => n⟩
theorem Tryz.lays169 : Go.Proofs.Lays.n169 Tryz.prog Tryz.lays169_ren := {
 mixed := by kernel_rfl
 f169 := Tryz.func139.trans (congrArg some (by kernel_rfl))
 t0 := Tryz.underlying0
 a0 := Tryz.isAgg0
 z0 := Tryz.sizeOf0
 v0 := Tryz.zeroValue0
 t3 := Tryz.underlying3
 a3 := Tryz.isAgg3
 z3 := Tryz.sizeOf3
 v3 := Tryz.zeroValue3
 t9 := Tryz.underlying9
 a9 := Tryz.isAgg9
 z9 := Tryz.sizeOf9
 v9 := Tryz.zeroValue9
 t37 := Tryz.underlying61
 a37 := Tryz.isAgg61
 z37 := Tryz.sizeOf61
 v37 := Tryz.zeroValue61
 t70 := Tryz.underlying203
 a70 := Tryz.isAgg203
 z70 := Tryz.sizeOf203
 v70 := Tryz.zeroValue203
 t72 := Tryz.underlying205
 a72 := Tryz.isAgg205
 z72 := Tryz.sizeOf205
 v72 := Tryz.zeroValue205
 t127 := Tryz.underlying219
 a127 := Tryz.isAgg219
 z127 := Tryz.sizeOf219
 v127 := Tryz.zeroValue219 }
theorem Tryz.Builder_Extra_169 : Builder.Extra Tryz.prog Tryz.lays169_ren := {
 sizeBuilder := by kernel_rfl
 liesBuilder := by kernel_rfl
 t5 := Tryz.underlying5
 a5 := Tryz.isAgg5
 z5 := Tryz.sizeOf5
 v5 := Tryz.zeroValue5
 infoByte := by kernel_rfl
 cellsByte := by kernel_rfl
 sizeByte := by kernel_rfl
 neB5 := by decide }
open Go.RowKit in
theorem Tryz.Builder_String_any (B b : Nat) (l : List UInt8) (w : World) (h : Lib.IsBuilder 205 5 B b (Lib.byteCells l) w) (hBw : B ≤ w.heap.size) :
  Calls Tryz.prog 139 #[.pointer (some ⟨b, 0, none⟩)] w fun e w' => e = .returned (.string ⟨l.toArray⟩) ∧ Below B w w' := Any.Builder_String_any Tryz.lays169 Tryz.Builder_Extra_169 B b l w h hBw
def Tryz.lays165_ren : Go.Shelf.Ren := ⟨fun | 165 => 135 | 240 => 150 | 241 => 151 | 276 => 156 | 277 => 157 | n => n, fun | 70 => 203 | 3 => 3 | 0 => 0 | 4 => 4 | 9 => 9 | 20 => 20 | 72 => 205 | 37 => 61 | 164 => 223 | 5 => 5 | n => n, fun | n => n⟩
theorem Tryz.lays165 : Go.Proofs.Lays.n165 Tryz.prog Tryz.lays165_ren := {
 mixed := by kernel_rfl
 f165 := Tryz.func135.trans (congrArg some (by kernel_rfl))
 f240 := Tryz.func150.trans (congrArg some (by kernel_rfl))
 f241 := Tryz.func151.trans (congrArg some (by kernel_rfl))
 f276 := Tryz.func156.trans (congrArg some (by kernel_rfl))
 f277 := Tryz.func157.trans (congrArg some (by kernel_rfl))
 t0 := Tryz.underlying0
 a0 := Tryz.isAgg0
 z0 := Tryz.sizeOf0
 v0 := Tryz.zeroValue0
 t3 := Tryz.underlying3
 a3 := Tryz.isAgg3
 z3 := Tryz.sizeOf3
 v3 := Tryz.zeroValue3
 t4 := Tryz.underlying4
 a4 := Tryz.isAgg4
 z4 := Tryz.sizeOf4
 v4 := Tryz.zeroValue4
 t9 := Tryz.underlying9
 a9 := Tryz.isAgg9
 z9 := Tryz.sizeOf9
 v9 := Tryz.zeroValue9
 t20 := Tryz.underlying20
 a20 := Tryz.isAgg20
 z20 := Tryz.sizeOf20
 v20 := Tryz.zeroValue20
 t37 := Tryz.underlying61
 a37 := Tryz.isAgg61
 z37 := Tryz.sizeOf61
 v37 := Tryz.zeroValue61
 t70 := Tryz.underlying203
 a70 := Tryz.isAgg203
 z70 := Tryz.sizeOf203
 v70 := Tryz.zeroValue203
 t72 := Tryz.underlying205
 a72 := Tryz.isAgg205
 z72 := Tryz.sizeOf205
 v72 := Tryz.zeroValue205
 t164 := Tryz.underlying223
 a164 := Tryz.isAgg223
 z164 := Tryz.sizeOf223
 v164 := Tryz.zeroValue223 }
theorem Tryz.Builder_Extra_165 : Builder.Extra Tryz.prog Tryz.lays165_ren := {
 sizeBuilder := by kernel_rfl
 liesBuilder := by kernel_rfl
 t5 := Tryz.underlying5
 a5 := Tryz.isAgg5
 z5 := Tryz.sizeOf5
 v5 := Tryz.zeroValue5
 infoByte := by kernel_rfl
 cellsByte := by kernel_rfl
 sizeByte := by kernel_rfl
 neB5 := by decide }
open Go.RowKit in
theorem Tryz.Builder_Grow_fresh (B b n : Nat) (w : World) (hB : B ≤ b) (hbk : w.heap[b]? = some (.cells #[.pointer none, .slice none 0 0] 205 (0, 0))) (hBw : B ≤ w.heap.size) (hn : n ≤ 281474976710656) :
  Calls Tryz.prog 135 #[.pointer (some ⟨b, 0, none⟩), .int .i64 n] w fun e w' => e = .returned (.tuple #[]) ∧ (Lib.BuilderAt 205 5 B b (.pointer (some ⟨b, 0, none⟩)) [] w' ∧ Below B w w') := Any.Builder_Grow_fresh Tryz.lays165 Tryz.Builder_Extra_165 B b n w hB hbk hBw hn
def Tryz.lays156_ren : Go.Shelf.Ren := ⟨fun | 156 => 147 | 165 => 135 | 166 => 137 | 169 => 139 | 240 => 150 | 241 => 151 | 276 => 156 | 277 => 157 | n => n, fun | 31 => 197 | 9 => 9 | 3 => 3 | 4 => 4 | 0 => 0 | 20 => 20 | 72 => 205 | 76 => 209 | 70 => 203 | 37 => 61 | 75 => 208 | 127 => 219 | 164 => 223 | 5 => 5 | 80 => 152 | n => n, fun | n => n⟩
theorem Tryz.lays156 : Go.Proofs.Lays.n156 Tryz.prog Tryz.lays156_ren := {
 mixed := by kernel_rfl
 f156 := Tryz.func147.trans (congrArg some (by kernel_rfl))
 f165 := Tryz.func135.trans (congrArg some (by kernel_rfl))
 f166 := Tryz.func137.trans (congrArg some (by kernel_rfl))
 f169 := Tryz.func139.trans (congrArg some (by kernel_rfl))
 f240 := Tryz.func150.trans (congrArg some (by kernel_rfl))
 f241 := Tryz.func151.trans (congrArg some (by kernel_rfl))
 f276 := Tryz.func156.trans (congrArg some (by kernel_rfl))
 f277 := Tryz.func157.trans (congrArg some (by kernel_rfl))
 t0 := Tryz.underlying0
 a0 := Tryz.isAgg0
 z0 := Tryz.sizeOf0
 v0 := Tryz.zeroValue0
 t3 := Tryz.underlying3
 a3 := Tryz.isAgg3
 z3 := Tryz.sizeOf3
 v3 := Tryz.zeroValue3
 t4 := Tryz.underlying4
 a4 := Tryz.isAgg4
 z4 := Tryz.sizeOf4
 v4 := Tryz.zeroValue4
 t9 := Tryz.underlying9
 a9 := Tryz.isAgg9
 z9 := Tryz.sizeOf9
 v9 := Tryz.zeroValue9
 t20 := Tryz.underlying20
 a20 := Tryz.isAgg20
 z20 := Tryz.sizeOf20
 v20 := Tryz.zeroValue20
 t31 := Tryz.underlying197
 a31 := Tryz.isAgg197
 z31 := Tryz.sizeOf197
 v31 := Tryz.zeroValue197
 t37 := Tryz.underlying61
 a37 := Tryz.isAgg61
 z37 := Tryz.sizeOf61
 v37 := Tryz.zeroValue61
 t70 := Tryz.underlying203
 a70 := Tryz.isAgg203
 z70 := Tryz.sizeOf203
 v70 := Tryz.zeroValue203
 t72 := Tryz.underlying205
 a72 := Tryz.isAgg205
 z72 := Tryz.sizeOf205
 v72 := Tryz.zeroValue205
 t75 := Tryz.underlying208
 a75 := Tryz.isAgg208
 z75 := Tryz.sizeOf208
 v75 := Tryz.zeroValue208
 t76 := Tryz.underlying209
 a76 := Tryz.isAgg209
 z76 := Tryz.sizeOf209
 v76 := Tryz.zeroValue209
 t127 := Tryz.underlying219
 a127 := Tryz.isAgg219
 z127 := Tryz.sizeOf219
 v127 := Tryz.zeroValue219
 t164 := Tryz.underlying223
 a164 := Tryz.isAgg223
 z164 := Tryz.sizeOf223
 v164 := Tryz.zeroValue223 }
theorem Tryz.Builder_Extra_156 : Builder.Extra Tryz.prog Tryz.lays156_ren := {
 sizeBuilder := by kernel_rfl
 liesBuilder := by kernel_rfl
 t5 := Tryz.underlying5
 a5 := Tryz.isAgg5
 z5 := Tryz.sizeOf5
 v5 := Tryz.zeroValue5
 infoByte := by kernel_rfl
 cellsByte := by kernel_rfl
 sizeByte := by kernel_rfl
 neB5 := by decide }
open Go.RowKit in
theorem Tryz.strings_Join (bk o c : Nat) (xs : List ByteArray) (sep : ByteArray) (w : World) (hcells : ∀ (j : Nat) x, xs[j]? = some x → w.cell? ⟨bk, o + j, none⟩ = some (.string x)) (hbk : bk < w.heap.size) (hN : xs.length ≤ 140737488355328) (hcap : xs.length ≤ c) (hlen : (Lib.join (xs.map (·.data.toList)) sep.data.toList).length ≤ 140737488355328) :
  Calls Tryz.prog 147 #[.slice (some ⟨bk, o, none⟩) xs.length c, .string sep] w fun e w' => e = .returned (.string ⟨(Lib.join (xs.map (·.data.toList)) sep.data.toList).toArray⟩) ∧ Below w.heap.size w w' := Any.strings_Join Tryz.lays156 Tryz.Builder_Extra_156 bk o c xs sep w hcells hbk hN hcap hlen
def Tryz.lays210_ren : Go.Shelf.Ren := ⟨fun | 210 => 110 | 206 => 122 | n => n, fun | 9 => 9 | 4 => 4 | 3 => 3 | n => n, fun | n => n⟩
theorem Tryz.lays210 : Go.Proofs.Lays.n210 Tryz.prog Tryz.lays210_ren := {
 mixed := by kernel_rfl
 f206 := Tryz.func122.trans (congrArg some (by kernel_rfl))
 f210 := Tryz.func110.trans (congrArg some (by kernel_rfl))
 t3 := Tryz.underlying3
 a3 := Tryz.isAgg3
 z3 := Tryz.sizeOf3
 v3 := Tryz.zeroValue3
 t4 := Tryz.underlying4
 a4 := Tryz.isAgg4
 z4 := Tryz.sizeOf4
 v4 := Tryz.zeroValue4
 t9 := Tryz.underlying9
 a9 := Tryz.isAgg9
 z9 := Tryz.sizeOf9
 v9 := Tryz.zeroValue9 }
open Go.RowKit in
theorem Tryz.stringslite_CutPrefix (s p : ByteArray) (w : World) :
  Calls Tryz.prog 110 #[.string s, .string p] w fun e w' => e = .returned (.tuple #[.string ⟨(Lib.trimPrefix s.data.toList p.data.toList).toArray⟩, .bool (Lib.hasPrefix s.data.toList p.data.toList)]) ∧ w' = w := Any.stringslite_CutPrefix Tryz.lays210 s p w
def Tryz.lays103_ren : Go.Shelf.Ren := ⟨fun | 103 => 81 | 210 => 110 | 206 => 122 | n => n, fun | 9 => 9 | 4 => 4 | 24 => 104 | 3 => 3 | n => n, fun | n => n⟩
theorem Tryz.lays103 : Go.Proofs.Lays.n103 Tryz.prog Tryz.lays103_ren := {
 mixed := by kernel_rfl
 f103 := Tryz.func81.trans (congrArg some (by kernel_rfl))
 f206 := Tryz.func122.trans (congrArg some (by kernel_rfl))
 f210 := Tryz.func110.trans (congrArg some (by kernel_rfl))
 t3 := Tryz.underlying3
 a3 := Tryz.isAgg3
 z3 := Tryz.sizeOf3
 v3 := Tryz.zeroValue3
 t4 := Tryz.underlying4
 a4 := Tryz.isAgg4
 z4 := Tryz.sizeOf4
 v4 := Tryz.zeroValue4
 t9 := Tryz.underlying9
 a9 := Tryz.isAgg9
 z9 := Tryz.sizeOf9
 v9 := Tryz.zeroValue9
 t24 := Tryz.underlying104
 a24 := Tryz.isAgg104
 z24 := Tryz.sizeOf104
 v24 := Tryz.zeroValue104 }
open Go.RowKit in
theorem Tryz.strings_CutPrefix (s p : ByteArray) (w : World) :
  Calls Tryz.prog 81 #[.string s, .string p] w fun e w' => e = .returned (.tuple #[.string ⟨(Lib.trimPrefix s.data.toList p.data.toList).toArray⟩, .bool (Lib.hasPrefix s.data.toList p.data.toList)]) ∧ w' = w := Any.strings_CutPrefix Tryz.lays103 s p w
def Tryz.lays219_ren : Go.Shelf.Ren := ⟨fun | 219 => 126 | 217 => 140 | 225 => 141 | 224 => 142 | 267 => 143 | 266 => 153 | 314 => 154 | n => n, fun | 9 => 9 | 3 => 3 | 4 => 4 | 5 => 5 | 46 => 186 | 146 => 220 | 51 => 41 | n => n, fun | 1 => 0 | n => n⟩
theorem Tryz.lays219 : Go.Proofs.Lays.n219 Tryz.prog Tryz.lays219_ren := {
 mixed := by kernel_rfl
 f217 := Tryz.func140.trans (congrArg some (by kernel_rfl))
 f219 := Tryz.func126.trans (congrArg some (by kernel_rfl))
 f224 := Tryz.func142.trans (congrArg some (by kernel_rfl))
 f225 := Tryz.func141.trans (congrArg some (by kernel_rfl))
 f266 := Tryz.func153.trans (congrArg some (by kernel_rfl))
 f267 := Tryz.func143.trans (congrArg some (by kernel_rfl))
 f314 := Tryz.func154.trans (congrArg some (by kernel_rfl))
 t3 := Tryz.underlying3
 a3 := Tryz.isAgg3
 z3 := Tryz.sizeOf3
 v3 := Tryz.zeroValue3
 t4 := Tryz.underlying4
 a4 := Tryz.isAgg4
 z4 := Tryz.sizeOf4
 v4 := Tryz.zeroValue4
 t5 := Tryz.underlying5
 a5 := Tryz.isAgg5
 z5 := Tryz.sizeOf5
 v5 := Tryz.zeroValue5
 t9 := Tryz.underlying9
 a9 := Tryz.isAgg9
 z9 := Tryz.sizeOf9
 v9 := Tryz.zeroValue9
 t46 := Tryz.underlying186
 a46 := Tryz.isAgg186
 z46 := Tryz.sizeOf186
 v46 := Tryz.zeroValue186
 t51 := Tryz.underlying41
 a51 := Tryz.isAgg41
 z51 := Tryz.sizeOf41
 v51 := Tryz.zeroValue41
 t146 := Tryz.underlying220
 a146 := Tryz.isAgg220
 z146 := Tryz.sizeOf220
 v146 := Tryz.zeroValue220
 g1 := by kernel_rfl }
open Go.RowKit Go.Lib in
theorem Tryz.stringslite_Index_one (s : ByteArray) (c : UInt8) (w : World) :
  Calls Tryz.prog 126 #[.string s, .string ⟨#[c]⟩] w fun e w' => e = .returned (.int .i64 (Lib.indexByte s.data.toList c)) ∧ w' = w := Any.stringslite_Index_one Tryz.lays219 s c w
def Tryz.lays143_ren : Go.Shelf.Ren := ⟨fun | 143 => 136 | 219 => 126 | 217 => 140 | 225 => 141 | 224 => 142 | 267 => 143 | 266 => 153 | 314 => 154 | n => n, fun | 9 => 9 | 3 => 3 | 4 => 4 | 5 => 5 | 46 => 186 | 146 => 220 | 51 => 41 | n => n, fun | 1 => 0 | n => n⟩
theorem Tryz.lays143 : Go.Proofs.Lays.n143 Tryz.prog Tryz.lays143_ren := {
 mixed := by kernel_rfl
 f143 := Tryz.func136.trans (congrArg some (by kernel_rfl))
 f217 := Tryz.func140.trans (congrArg some (by kernel_rfl))
 f219 := Tryz.func126.trans (congrArg some (by kernel_rfl))
 f224 := Tryz.func142.trans (congrArg some (by kernel_rfl))
 f225 := Tryz.func141.trans (congrArg some (by kernel_rfl))
 f266 := Tryz.func153.trans (congrArg some (by kernel_rfl))
 f267 := Tryz.func143.trans (congrArg some (by kernel_rfl))
 f314 := Tryz.func154.trans (congrArg some (by kernel_rfl))
 t3 := Tryz.underlying3
 a3 := Tryz.isAgg3
 z3 := Tryz.sizeOf3
 v3 := Tryz.zeroValue3
 t4 := Tryz.underlying4
 a4 := Tryz.isAgg4
 z4 := Tryz.sizeOf4
 v4 := Tryz.zeroValue4
 t5 := Tryz.underlying5
 a5 := Tryz.isAgg5
 z5 := Tryz.sizeOf5
 v5 := Tryz.zeroValue5
 t9 := Tryz.underlying9
 a9 := Tryz.isAgg9
 z9 := Tryz.sizeOf9
 v9 := Tryz.zeroValue9
 t46 := Tryz.underlying186
 a46 := Tryz.isAgg186
 z46 := Tryz.sizeOf186
 v46 := Tryz.zeroValue186
 t51 := Tryz.underlying41
 a51 := Tryz.isAgg41
 z51 := Tryz.sizeOf41
 v51 := Tryz.zeroValue41
 t146 := Tryz.underlying220
 a146 := Tryz.isAgg220
 z146 := Tryz.sizeOf220
 v146 := Tryz.zeroValue220
 g1 := by kernel_rfl }
open Go.RowKit Go.Lib in
theorem Tryz.strings_Index_one (s : ByteArray) (c : UInt8) (w : World) :
  Calls Tryz.prog 136 #[.string s, .string ⟨#[c]⟩] w fun e w' => e = .returned (.int .i64 (Lib.indexByte s.data.toList c)) ∧ w' = w := Any.strings_Index_one Tryz.lays143 s c w
def Tryz.lays145_ren : Go.Shelf.Ren := ⟨fun | 145 => 91 | 220 => 115 | 219 => 126 | 217 => 140 | 225 => 141 | 224 => 142 | 267 => 143 | 266 => 153 | 314 => 154 | n => n, fun | 9 => 9 | 4 => 4 | 59 => 170 | 3 => 3 | 5 => 5 | 46 => 186 | 146 => 220 | 51 => 41 | n => n, fun | 1 => 0 | n => n⟩
theorem Tryz.lays145 : Go.Proofs.Lays.n145 Tryz.prog Tryz.lays145_ren := {
 mixed := by kernel_rfl
 f145 := Tryz.func91.trans (congrArg some (by kernel_rfl))
 f217 := Tryz.func140.trans (congrArg some (by kernel_rfl))
 f219 := Tryz.func126.trans (congrArg some (by kernel_rfl))
 f220 := Tryz.func115.trans (congrArg some (by kernel_rfl))
 f224 := Tryz.func142.trans (congrArg some (by kernel_rfl))
 f225 := Tryz.func141.trans (congrArg some (by kernel_rfl))
 f266 := Tryz.func153.trans (congrArg some (by kernel_rfl))
 f267 := Tryz.func143.trans (congrArg some (by kernel_rfl))
 f314 := Tryz.func154.trans (congrArg some (by kernel_rfl))
 t3 := Tryz.underlying3
 a3 := Tryz.isAgg3
 z3 := Tryz.sizeOf3
 v3 := Tryz.zeroValue3
 t4 := Tryz.underlying4
 a4 := Tryz.isAgg4
 z4 := Tryz.sizeOf4
 v4 := Tryz.zeroValue4
 t5 := Tryz.underlying5
 a5 := Tryz.isAgg5
 z5 := Tryz.sizeOf5
 v5 := Tryz.zeroValue5
 t9 := Tryz.underlying9
 a9 := Tryz.isAgg9
 z9 := Tryz.sizeOf9
 v9 := Tryz.zeroValue9
 t46 := Tryz.underlying186
 a46 := Tryz.isAgg186
 z46 := Tryz.sizeOf186
 v46 := Tryz.zeroValue186
 t51 := Tryz.underlying41
 a51 := Tryz.isAgg41
 z51 := Tryz.sizeOf41
 v51 := Tryz.zeroValue41
 t59 := Tryz.underlying170
 a59 := Tryz.isAgg170
 z59 := Tryz.sizeOf170
 v59 := Tryz.zeroValue170
 t146 := Tryz.underlying220
 a146 := Tryz.isAgg220
 z146 := Tryz.sizeOf220
 v146 := Tryz.zeroValue220
 g1 := by kernel_rfl }
open Go.RowKit Go.Lib in
theorem Tryz.strings_Cut (s sep : ByteArray) (m : Int) (w : World) (hs : s.size < 4294967281) (hm : w.cell? ⟨0, 0, none⟩ = some (.int .i64 m)) :
  Calls Tryz.prog 91 #[.string s, .string sep] w fun e w' => e = .returned (.tuple #[.string ⟨(Lib.cut s.data.toList sep.data.toList).1.toArray⟩, .string ⟨(Lib.cut s.data.toList sep.data.toList).2.1.toArray⟩, .bool (Lib.cut s.data.toList sep.data.toList).2.2]) ∧ ∃ n, w' = w.drewN n := Any.strings_Cut Tryz.lays145 s sep m w hs hm
def Tryz.lays138_ren : Go.Shelf.Ren := ⟨fun | 138 => 134 | 195 => 148 | 218 => 149 | 143 => 136 | 219 => 126 | 217 => 140 | 225 => 141 | 224 => 142 | 267 => 143 | 266 => 153 | 314 => 154 | n => n, fun | 9 => 9 | 3 => 3 | 4 => 4 | 5 => 5 | 0 => 0 | 46 => 186 | 146 => 220 | 51 => 41 | n => n, fun | 1 => 0 | n => n⟩
theorem Tryz.lays138 : Go.Proofs.Lays.n138 Tryz.prog Tryz.lays138_ren := {
 mixed := by kernel_rfl
 f138 := Tryz.func134.trans (congrArg some (by kernel_rfl))
 f143 := Tryz.func136.trans (congrArg some (by kernel_rfl))
 f195 := Tryz.func148.trans (congrArg some (by kernel_rfl))
 f217 := Tryz.func140.trans (congrArg some (by kernel_rfl))
 f218 := Tryz.func149.trans (congrArg some (by kernel_rfl))
 f219 := Tryz.func126.trans (congrArg some (by kernel_rfl))
 f224 := Tryz.func142.trans (congrArg some (by kernel_rfl))
 f225 := Tryz.func141.trans (congrArg some (by kernel_rfl))
 f266 := Tryz.func153.trans (congrArg some (by kernel_rfl))
 f267 := Tryz.func143.trans (congrArg some (by kernel_rfl))
 f314 := Tryz.func154.trans (congrArg some (by kernel_rfl))
 t0 := Tryz.underlying0
 a0 := Tryz.isAgg0
 z0 := Tryz.sizeOf0
 v0 := Tryz.zeroValue0
 t3 := Tryz.underlying3
 a3 := Tryz.isAgg3
 z3 := Tryz.sizeOf3
 v3 := Tryz.zeroValue3
 t4 := Tryz.underlying4
 a4 := Tryz.isAgg4
 z4 := Tryz.sizeOf4
 v4 := Tryz.zeroValue4
 t5 := Tryz.underlying5
 a5 := Tryz.isAgg5
 z5 := Tryz.sizeOf5
 v5 := Tryz.zeroValue5
 t9 := Tryz.underlying9
 a9 := Tryz.isAgg9
 z9 := Tryz.sizeOf9
 v9 := Tryz.zeroValue9
 t46 := Tryz.underlying186
 a46 := Tryz.isAgg186
 z46 := Tryz.sizeOf186
 v46 := Tryz.zeroValue186
 t51 := Tryz.underlying41
 a51 := Tryz.isAgg41
 z51 := Tryz.sizeOf41
 v51 := Tryz.zeroValue41
 t146 := Tryz.underlying220
 a146 := Tryz.isAgg220
 z146 := Tryz.sizeOf220
 v146 := Tryz.zeroValue220
 g1 := by kernel_rfl }
open Go.RowKit Go.Lib in
theorem Tryz.strings_Count_one (s : ByteArray) (c : UInt8) (w : World) :
  Calls Tryz.prog 134 #[.string s, .string ⟨#[c]⟩] w fun e w' => e = .returned (.int .i64 (Lib.countByte s.data.toList c)) ∧ w' = w := Any.strings_Count_one Tryz.lays138 s c w
def Tryz.lays206_ren : Go.Shelf.Ren := ⟨fun | 206 => 122 | n => n, fun | 9 => 9 | 4 => 4 | 3 => 3 | n => n, fun | n => n⟩
theorem Tryz.lays206 : Go.Proofs.Lays.n206 Tryz.prog Tryz.lays206_ren := {
 mixed := by kernel_rfl
 f206 := Tryz.func122.trans (congrArg some (by kernel_rfl))
 t3 := Tryz.underlying3
 a3 := Tryz.isAgg3
 z3 := Tryz.sizeOf3
 v3 := Tryz.zeroValue3
 t4 := Tryz.underlying4
 a4 := Tryz.isAgg4
 z4 := Tryz.sizeOf4
 v4 := Tryz.zeroValue4
 t9 := Tryz.underlying9
 a9 := Tryz.isAgg9
 z9 := Tryz.sizeOf9
 v9 := Tryz.zeroValue9 }
open Go.RowKit Go.Lib in
theorem Tryz.stringslite_HasPrefix (s p : ByteArray) (w : World) :
  Calls Tryz.prog 122 #[.string s, .string p] w fun e w' => e = .returned (.bool (Lib.hasPrefix s.data.toList p.data.toList)) ∧ w' = w := Any.stringslite_HasPrefix Tryz.lays206 s p w
def Tryz.lays221_ren : Go.Shelf.Ren := ⟨fun | 221 => 144 | 268 => 155 | 138 => 134 | 143 => 136 | 195 => 148 | 197 => 138 | 218 => 149 | 219 => 126 | 260 => 152 | 217 => 140 | 225 => 141 | 224 => 142 | 267 => 143 | 266 => 153 | 314 => 154 | n => n, fun | 9 => 9 | 3 => 3 | 31 => 197 | 4 => 4 | 0 => 0 | 105 => 211 | 21 => 21 | 5 => 5 | 46 => 186 | 119 => 225 | 139 => 228 | 138 => 227 | 146 => 220 | 51 => 41 | n => n, fun | 1 => 0 | 3 => 1 | 4 => 2 | n => n⟩
theorem Tryz.lays221 : Go.Proofs.Lays.n221 Tryz.prog Tryz.lays221_ren := {
 mixed := by kernel_rfl
 f138 := Tryz.func134.trans (congrArg some (by kernel_rfl))
 f143 := Tryz.func136.trans (congrArg some (by kernel_rfl))
 f195 := Tryz.func148.trans (congrArg some (by kernel_rfl))
 f197 := Tryz.func138.trans (congrArg some (by kernel_rfl))
 f217 := Tryz.func140.trans (congrArg some (by kernel_rfl))
 f218 := Tryz.func149.trans (congrArg some (by kernel_rfl))
 f219 := Tryz.func126.trans (congrArg some (by kernel_rfl))
 f221 := Tryz.func144.trans (congrArg some (by kernel_rfl))
 f224 := Tryz.func142.trans (congrArg some (by kernel_rfl))
 f225 := Tryz.func141.trans (congrArg some (by kernel_rfl))
 f260 := Tryz.func152.trans (congrArg some (by kernel_rfl))
 f266 := Tryz.func153.trans (congrArg some (by kernel_rfl))
 f267 := Tryz.func143.trans (congrArg some (by kernel_rfl))
 f268 := Tryz.func155.trans (congrArg some (by kernel_rfl))
 f314 := Tryz.func154.trans (congrArg some (by kernel_rfl))
 t0 := Tryz.underlying0
 a0 := Tryz.isAgg0
 z0 := Tryz.sizeOf0
 v0 := Tryz.zeroValue0
 t3 := Tryz.underlying3
 a3 := Tryz.isAgg3
 z3 := Tryz.sizeOf3
 v3 := Tryz.zeroValue3
 t4 := Tryz.underlying4
 a4 := Tryz.isAgg4
 z4 := Tryz.sizeOf4
 v4 := Tryz.zeroValue4
 t5 := Tryz.underlying5
 a5 := Tryz.isAgg5
 z5 := Tryz.sizeOf5
 v5 := Tryz.zeroValue5
 t9 := Tryz.underlying9
 a9 := Tryz.isAgg9
 z9 := Tryz.sizeOf9
 v9 := Tryz.zeroValue9
 t21 := Tryz.underlying21
 a21 := Tryz.isAgg21
 z21 := Tryz.sizeOf21
 v21 := Tryz.zeroValue21
 t31 := Tryz.underlying197
 a31 := Tryz.isAgg197
 z31 := Tryz.sizeOf197
 v31 := Tryz.zeroValue197
 t46 := Tryz.underlying186
 a46 := Tryz.isAgg186
 z46 := Tryz.sizeOf186
 v46 := Tryz.zeroValue186
 t51 := Tryz.underlying41
 a51 := Tryz.isAgg41
 z51 := Tryz.sizeOf41
 v51 := Tryz.zeroValue41
 t105 := Tryz.underlying211
 a105 := Tryz.isAgg211
 z105 := Tryz.sizeOf211
 v105 := Tryz.zeroValue211
 t119 := Tryz.underlying225
 a119 := Tryz.isAgg225
 z119 := Tryz.sizeOf225
 t138 := Tryz.underlying227
 a138 := Tryz.isAgg227
 z138 := Tryz.sizeOf227
 v138 := Tryz.zeroValue227
 t139 := Tryz.underlying228
 a139 := Tryz.isAgg228
 z139 := Tryz.sizeOf228
 v139 := Tryz.zeroValue228
 t146 := Tryz.underlying220
 a146 := Tryz.isAgg220
 z146 := Tryz.sizeOf220
 v146 := Tryz.zeroValue220
 g1 := by kernel_rfl
 g3 := by kernel_rfl
 g4 := by kernel_rfl }
def Tryz.lays154_ren : Go.Shelf.Ren := ⟨fun | 154 => 125 | 138 => 134 | 165 => 135 | 143 => 136 | 166 => 137 | 197 => 138 | 169 => 139 | 195 => 148 | 218 => 149 | 240 => 150 | 241 => 151 | 219 => 126 | 260 => 152 | 276 => 156 | 277 => 157 | 217 => 140 | 225 => 141 | 224 => 142 | 267 => 143 | 266 => 153 | 314 => 154 | n => n, fun | 9 => 9 | 3 => 3 | 4 => 4 | 72 => 205 | 0 => 0 | 76 => 209 | 105 => 211 | 21 => 21 | 5 => 5 | 70 => 203 | 20 => 20 | 37 => 61 | 75 => 208 | 127 => 219 | 164 => 223 | 46 => 186 | 119 => 225 | 139 => 228 | 138 => 227 | 146 => 220 | 51 => 41 | 80 => 152 | n => n, fun | 1 => 0 | 3 => 1 | 4 => 2 | n => n⟩
theorem Tryz.lays154 : Go.Proofs.Lays.n154 Tryz.prog Tryz.lays154_ren := {
 mixed := by kernel_rfl
 f138 := Tryz.func134.trans (congrArg some (by kernel_rfl))
 f143 := Tryz.func136.trans (congrArg some (by kernel_rfl))
 f154 := Tryz.func125.trans (congrArg some (by kernel_rfl))
 f165 := Tryz.func135.trans (congrArg some (by kernel_rfl))
 f166 := Tryz.func137.trans (congrArg some (by kernel_rfl))
 f169 := Tryz.func139.trans (congrArg some (by kernel_rfl))
 f195 := Tryz.func148.trans (congrArg some (by kernel_rfl))
 f197 := Tryz.func138.trans (congrArg some (by kernel_rfl))
 f217 := Tryz.func140.trans (congrArg some (by kernel_rfl))
 f218 := Tryz.func149.trans (congrArg some (by kernel_rfl))
 f219 := Tryz.func126.trans (congrArg some (by kernel_rfl))
 f224 := Tryz.func142.trans (congrArg some (by kernel_rfl))
 f225 := Tryz.func141.trans (congrArg some (by kernel_rfl))
 f240 := Tryz.func150.trans (congrArg some (by kernel_rfl))
 f241 := Tryz.func151.trans (congrArg some (by kernel_rfl))
 f260 := Tryz.func152.trans (congrArg some (by kernel_rfl))
 f266 := Tryz.func153.trans (congrArg some (by kernel_rfl))
 f267 := Tryz.func143.trans (congrArg some (by kernel_rfl))
 f276 := Tryz.func156.trans (congrArg some (by kernel_rfl))
 f277 := Tryz.func157.trans (congrArg some (by kernel_rfl))
 f314 := Tryz.func154.trans (congrArg some (by kernel_rfl))
 t0 := Tryz.underlying0
 a0 := Tryz.isAgg0
 z0 := Tryz.sizeOf0
 v0 := Tryz.zeroValue0
 t3 := Tryz.underlying3
 a3 := Tryz.isAgg3
 z3 := Tryz.sizeOf3
 v3 := Tryz.zeroValue3
 t4 := Tryz.underlying4
 a4 := Tryz.isAgg4
 z4 := Tryz.sizeOf4
 v4 := Tryz.zeroValue4
 t5 := Tryz.underlying5
 a5 := Tryz.isAgg5
 z5 := Tryz.sizeOf5
 v5 := Tryz.zeroValue5
 t9 := Tryz.underlying9
 a9 := Tryz.isAgg9
 z9 := Tryz.sizeOf9
 v9 := Tryz.zeroValue9
 t20 := Tryz.underlying20
 a20 := Tryz.isAgg20
 z20 := Tryz.sizeOf20
 v20 := Tryz.zeroValue20
 t21 := Tryz.underlying21
 a21 := Tryz.isAgg21
 z21 := Tryz.sizeOf21
 v21 := Tryz.zeroValue21
 t37 := Tryz.underlying61
 a37 := Tryz.isAgg61
 z37 := Tryz.sizeOf61
 v37 := Tryz.zeroValue61
 t46 := Tryz.underlying186
 a46 := Tryz.isAgg186
 z46 := Tryz.sizeOf186
 v46 := Tryz.zeroValue186
 t51 := Tryz.underlying41
 a51 := Tryz.isAgg41
 z51 := Tryz.sizeOf41
 v51 := Tryz.zeroValue41
 t70 := Tryz.underlying203
 a70 := Tryz.isAgg203
 z70 := Tryz.sizeOf203
 v70 := Tryz.zeroValue203
 t72 := Tryz.underlying205
 a72 := Tryz.isAgg205
 z72 := Tryz.sizeOf205
 v72 := Tryz.zeroValue205
 t75 := Tryz.underlying208
 a75 := Tryz.isAgg208
 z75 := Tryz.sizeOf208
 v75 := Tryz.zeroValue208
 t76 := Tryz.underlying209
 a76 := Tryz.isAgg209
 z76 := Tryz.sizeOf209
 v76 := Tryz.zeroValue209
 t105 := Tryz.underlying211
 a105 := Tryz.isAgg211
 z105 := Tryz.sizeOf211
 v105 := Tryz.zeroValue211
 t119 := Tryz.underlying225
 a119 := Tryz.isAgg225
 z119 := Tryz.sizeOf225
 t127 := Tryz.underlying219
 a127 := Tryz.isAgg219
 z127 := Tryz.sizeOf219
 v127 := Tryz.zeroValue219
 t138 := Tryz.underlying227
 a138 := Tryz.isAgg227
 z138 := Tryz.sizeOf227
 v138 := Tryz.zeroValue227
 t139 := Tryz.underlying228
 a139 := Tryz.isAgg228
 z139 := Tryz.sizeOf228
 v139 := Tryz.zeroValue228
 t146 := Tryz.underlying220
 a146 := Tryz.isAgg220
 z146 := Tryz.sizeOf220
 v146 := Tryz.zeroValue220
 t164 := Tryz.underlying223
 a164 := Tryz.isAgg223
 z164 := Tryz.sizeOf223
 v164 := Tryz.zeroValue223
 g1 := by kernel_rfl
 g3 := by kernel_rfl
 g4 := by kernel_rfl }
theorem Tryz.Builder_Extra_154 : Builder.Extra Tryz.prog Tryz.lays154_ren := {
 sizeBuilder := by kernel_rfl
 liesBuilder := by kernel_rfl
 t5 := Tryz.underlying5
 a5 := Tryz.isAgg5
 z5 := Tryz.sizeOf5
 v5 := Tryz.zeroValue5
 infoByte := by kernel_rfl
 cellsByte := by kernel_rfl
 sizeByte := by kernel_rfl
 neB5 := by decide }
open Go.RowKit Go.Lib in
theorem Tryz.strings_Replace (s old new : ByteArray) (n : Int) (m : Int) (w : World) (hs : s.size < 4294967281) (hm : w.cell? ⟨0, 0, none⟩ = some (.int .i64 m)) (h1 : 1 ≤ old.size) (hlen : s.size + Lib.countB s old * new.size ≤ 140737488355328) :
  Calls Tryz.prog 125 #[.string s, .string old, .string new, .int .i64 n] w fun e w' =>
   e = .returned (.string ⟨(Lib.replace s.data.toList old.data.toList new.data.toList n).toArray⟩) ∧ Below w.heap.size w w' := Any.strings_Replace Tryz.lays154 Tryz.Builder_Extra_154 s old new n m w hs hm h1 hlen
end Go.Proofs
end
namespace Go.Proofs.YtndddnglapkplaaGreatDoor.V
section
def cutAt (c : UInt8) : List UInt8 → List (List UInt8)
 | [] => [[]]
 | b :: l => if b = c then [] :: cutAt c l else match cutAt c l with
  | [] => [[b]]
  | p :: r => (b :: p) :: r
theorem xo (c : UInt8) : ∀ l, cutAt c l ≠ []
 | [] => by simp [cutAt]
 | b :: l => by
  unfold cutAt
  split
  ·simp
  ·split <;> simp
theorem xH (c : UInt8) (l : List UInt8) : Lib.index (c :: l) [c] = 0 := by simp [Lib.index]
theorem xG (b c : UInt8) (l : List UInt8) (h : b ≠ c) : Lib.index (b :: l) [c] = if Lib.index l [c] = -1 then -1 else Lib.index l [c] + 1 := by
 rw [Lib.index]
 simp [Ne.symm h]
theorem index_one (c : UInt8) : ∀ l : List UInt8, Lib.index l [c] = Lib.indexByte l c
 | [] => by simp [Lib.index, Lib.indexByte]
 | b :: l => by
  by_cases h : b = c
  ·subst h
   rw [xH]
   simp [Lib.indexByte]
  ·rw [xG b c l h, index_one c l]
   simp [Lib.indexByte, h]
theorem yb (c : UInt8) : ∀ l : List UInt8, Lib.splitK [c] 0 (Lib.count l [c]) l = cutAt c l
 | [] => by
  rw [Lib.count_one]
  rfl
 | b :: l => by
  have ih := yb c l
  rw [Lib.count_one] at ih ⊢
  by_cases h : b = c
  ·subst h
   rw [List.count_cons_self, Lib.splitK, xH, if_neg (by decide)]
   simp [cutAt, ih]
  ·rw [List.count_cons_of_ne h]
   have e : cutAt c (b :: l) = match cutAt c l with
    | [] => [[b]]
    | p :: r => (b :: p) :: r := by rw [cutAt, if_neg h]
   rw [e, ← ih]
   cases hk : List.count c l with
   | zero => rfl
   | succ k =>
    rw [Lib.splitK, Lib.splitK, xG b c l h]
    by_cases hi : Lib.index l [c] = -1
    ·simp [hi]
    ·have hg := Lib.index_ge l [c]
     obtain ⟨i, Ui⟩ : ∃ i : Nat, Lib.index l [c] = i := ⟨(Lib.index l [c]).toNat, by omega⟩
     rw [Ui]
     have n1 : ((i : Int) = -1) = False := eq_false (by omega)
     have n2 : ((i : Int) + 1 = -1) = False := eq_false (by omega)
     have e1 : ((i : Int) + 1).toNat = i + 1 := by omega
     simp [e1, n1, n2]
theorem pieces_eq (s : ByteArray) (c : UInt8) : (Lib.splitB ⟨#[c]⟩ 0 (Lib.countB s ⟨#[c]⟩) s).map (·.data.toList) = cutAt c s.data.toList := by
 rw [Lib.splitB_data]
 exact yb c _
set_option maxHeartbeats 2000000 in
set_option maxRecDepth 100000 in
theorem Le (s : ByteArray) (c : UInt8) (w : World) (hs : s.size < 4294967281) :
  Calls Tryz.prog 129 #[.string s, .string ⟨#[c]⟩] w fun e w' =>
   e = .returned (.slice (some ⟨w.heap.size, 0, none⟩) (Lib.splitB ⟨#[c]⟩ 0 (Lib.countB s ⟨#[c]⟩) s).length (Lib.splitB ⟨#[c]⟩ 0 (Lib.countB s ⟨#[c]⟩) s).length) ∧ w' = w.alloc (.cells ((Lib.splitB ⟨#[c]⟩ 0 (Lib.countB s ⟨#[c]⟩) s).map Value.string).toArray 9) := by
 have h1 : 1 ≤ (⟨#[c]⟩ : ByteArray).size := by simp [ByteArray.size]
 have hle := Lib.countB_le ⟨#[c]⟩ h1 s.size s (Nat.le_refl _)
 have hlen := Lib.splitB_all ⟨#[c]⟩ h1 0 _ s rfl
 have g := Any.strings_genSplit_core Tryz.lays221 (by kernel_rfl) s ⟨#[c]⟩ 0 (-1) (Lib.countB s ⟨#[c]⟩ + 1) w hs h1 (Nat.zero_le _)
  (fun x cs hx => (Any.strings_Index_one Tryz.lays143 x c _).mono fun e w' ⟨he, hw⟩ => ⟨by rw [he, ← index_one], hw⟩)
  ((Any.strings_Count_one Tryz.lays138 s c w).mono fun e w' ⟨he, hw⟩ => ⟨by rw [he]; show _ = Ending.returned (Value.int .i64 ((Lib.count s.data.toList [c] : Nat) : Int)); rw [Lib.count_one]; rfl, hw⟩)
  (by decide) (by decide) (by rw [if_pos (by decide)]; omega)
 rw [Nat.add_sub_cancel, hlen] at g
 have e2 : Lib.cellsOf (Lib.splitB ⟨#[c]⟩ 0 (Lib.countB s ⟨#[c]⟩) s) (Lib.countB s ⟨#[c]⟩ + 1) = ((Lib.splitB ⟨#[c]⟩ 0 (Lib.countB s ⟨#[c]⟩) s).map Value.string).toArray := by rw [← hlen]; exact Lib.cellsOf_full _
 rw [e2] at g
 rw [hlen]
 obtain ⟨N, hN⟩ : ∃ N, Lib.countB s ⟨#[c]⟩ + 1 = N := ⟨_, rfl⟩
 rw [hN] at g ⊢
 go_enter Tryz.func129, Tryz.ntmps129
 go_wp2_with (go_at_call 144; refine g.mono ?_; rintro e w' ⟨rfl, hw⟩; rw [hw])
 go_ret
 exact ⟨rfl, rfl⟩
def bY (c : UInt8) (s : ByteArray) : ByteArray × ByteArray × Bool :=
 if Lib.indexByte s.data.toList c = -1 then (s, ⟨#[]⟩, false) else (s.extract 0 (Lib.indexByte s.data.toList c).toNat, s.extract ((Lib.indexByte s.data.toList c).toNat + 1) s.size, true)
set_option maxHeartbeats 2000000 in
set_option maxRecDepth 100000 in
theorem Fc (s : ByteArray) (c : UInt8) (w : World) (hs : s.size < 4294967281) :
  Calls Tryz.prog 115 #[.string s, .string ⟨#[c]⟩] w fun e w' => e = .returned (.tuple #[.string (bY c s).1, .string (bY c s).2.1, .bool (bY c s).2.2]) ∧ Drawn0 w w' := by
 rcases Lib.indexB_cases s ⟨#[c]⟩ with hix | ⟨i, hix, hroom⟩
 ·have hi : Lib.indexByte s.data.toList c = -1 := by rw [← index_one]; exact hix
  have e : bY c s = (s, ⟨#[]⟩, false) := by unfold bY; rw [if_pos hi]
  rw [e]
  go_enter Tryz.func115, Tryz.ntmps115
  go_wp2_with (go_at_call 126; refine (Tryz.stringslite_Index_one _ _ _).mono ?_; rintro e w' ⟨rfl, hw⟩; rw [hw, hi])
  go_ret3
  exact ⟨rfl, by repeat (first | exact Drawn0.refl _ | apply Drawn0.step)⟩
 ·have hi : Lib.indexByte s.data.toList c = i := by rw [← index_one]; exact hix
  have e : bY c s = (s.extract 0 i, s.extract (i + 1) s.size, true) := by
   unfold bY
   rw [if_neg (by omega), hi]
   rfl
  have h1 : (⟨#[c]⟩ : ByteArray).size = 1 := by simp [ByteArray.size]
  rw [h1] at hroom
  rw [e]
  have c1 : (0 : Int) ≤ ↑i := by omega
  have c2 : (↑i : Int) ≤ ↑s.size := by omega
  have c3 : (0 : Int) ≤ ↑i + 1 := by omega
  have c4 : (↑i + 1 : Int) ≤ ↑s.size := by omega
  go_enter Tryz.func115, Tryz.ntmps115
  go_wp2_with (first | (go_at_call 126; refine (Tryz.stringslite_Index_one _ _ _).mono ?_; rintro e w' ⟨rfl, hw⟩; rw [hw, hi]) | go_quiet (fail))
  go_ret3
  exact ⟨rfl, by repeat (first | exact Drawn0.refl _ | apply Drawn0.step)⟩
set_option maxHeartbeats 2000000 in
set_option maxRecDepth 100000 in
theorem IM (s : ByteArray) (c : UInt8) (w : World) (hs : s.size < 4294967281) :
  Calls Tryz.prog 91 #[.string s, .string ⟨#[c]⟩] w fun e w' => e = .returned (.tuple #[.string (bY c s).1, .string (bY c s).2.1, .bool (bY c s).2.2]) ∧ Drawn0 w w' := by
 go_enter Tryz.func91, Tryz.ntmps91
 go_wp2_with (go_at_call 115; refine (Fc s c _ hs).mono ?_; rintro e w' ⟨rfl, ⟨n, rfl⟩⟩)
 go_ret3
 exact ⟨rfl, by repeat (first | exact Drawn0.refl _ | exact ⟨_, rfl⟩ | apply Drawn0.step)⟩
end
section
attribute [local go_sem] bq bn bI bH aW aV bp bj
mutual
def aK.l0 : Nat → ByteArray → Int → Int → ByteArray → Int → Option (Int × Bool)
 | 0, _, _, _, _, _ => none
 | k + 1, x0, x4, x5, x6, x7 => if x7 ≤ (x0.size : Int) then (if x7 < (x0.size : Int) then (if 0 ≤ x7 then (aK.j1 k x0 x4 x5 x6 x7 ((bt x0 x7) != 46)) else (none)) else (aK.j1 k x0 x4 x5 x6 x7 false)) else (if x5 = 4 then (some ((x4) % 4294967296, true)) else (some (0, false)))
def aK.j1 : Nat → ByteArray → Int → Int → ByteArray → Int → Bool → Option (Int × Bool)
 | 0, _, _, _, _, _, _ => none
 | k + 1, x0, x4, x5, x6, x7, x25 => if x25 = true then (if 0 ≤ x7 then (if x7 ≤ (wrap64 (x7 + 1)) then (if (wrap64 (x7 + 1)) ≤ (x0.size : Int) then (if x6.size + (x0.extract (x7 : Int).toNat ((wrap64 (x7 + 1)) : Int).toNat).size ≤ 9223372036854775807 then (aK.l0 k x0 x4 x5 (x6 ++ (x0.extract (x7 : Int).toNat ((wrap64 (x7 + 1)) : Int).toNat)) (wrap64 (x7 + 1))) else (none)) else (none)) else (none)) else (none)) else ((aA.f k x6 255).bind fun wH => (if wH.2 = true then (if (wrap64 (x5 + 1)) > 4 then (some (0, false)) else (aK.l0 k x0 (wrap64 ((wrap64 (256 * x4)) + wH.1)) (wrap64 (x5 + 1)) (⟨#[]⟩ : ByteArray) (wrap64 (x7 + 1)))) else (some (0, false))))
end
def aK.f (k : Nat) (a0 : ByteArray) : Option (Int × Bool) := aK.l0 k a0 0 0 (⟨#[]⟩ : ByteArray) 0
set_option maxHeartbeats 8000000 in
set_option maxRecDepth 100000 in
theorem aK.calls (k : Nat) (a0 : ByteArray) (r1 : Int) (r2 : Bool) (w : World) (h : aK.f k a0 = some (r1, r2)) :
  Calls Tryz.prog 97 #[.string a0] w fun e w' => e = .returned (.tuple #[.int .u32 r1, .bool r2]) ∧ Below w.heap.size w w' := by
 have HB := ak (Below.refl w.heap.size w)
 have H : (aK.l0 k a0 0 0 (⟨#[]⟩ : ByteArray) 0) = some (r1, r2) := h
 clear h
 have H' := ak H; clear H
 go_enter Tryz.func97, Tryz.ntmps97
 go_wp2
 go_loopg [4, 5, 6, 7] k (fun kq v4 v5 v6 v7 w' => ∃ (df : Int) (bW : Int) (jt : ByteArray) (aR : Int), v4 = .int .i64 df ∧ v5 = .int .i64 bW ∧ v6 = .string jt ∧ v7 = .int .i64 aR ∧ Aside0 (aK.l0 kq a0 df bW jt aR = some (r1, r2)) ∧ Aside0 (kq ≤ k) ∧ Aside0 (Below w.heap.size w w'))
 case atStart => exact ⟨(0), (0), ((⟨#[]⟩ : ByteArray)), (0), rf, rf, rf, rf, H', ⟨Nat.le_refl _⟩, ⟨bl⟩⟩
 case round =>
  clear H'
  obtain ⟨df, bW, jt, aR, rfl, rfl, rfl, rfl, HA, ee, HB⟩ := hrel
  cases gk with
  | zero => exact absurd HA.out (by simp [aK.l0])
  | succ k1 =>
   have H := HA.out
   clear HA
   simp only [aK.l0] at H
   by_cases c2 : aR ≤ (a0.size : Int)
   ·rw [if_pos c2] at H
    have ig := decide_eq_true c2
    clear c2
    have oG := ak H
    clear H
    go_upto_region 5 with (fail)
    go_cut [25] (fun v25 wc => ∃ (kq : Nat) (Ei : Bool), v25 = .bool Ei ∧ Aside0 (aK.j1 kq a0 df bW jt aR Ei = some (r1, r2)) ∧ Aside0 (kq ≤ k1) ∧ Aside0 (Below w.heap.size w wc))
    case first =>
     have H := oG.out
     clear oG
     by_cases c4 : aR < (a0.size : Int)
     ·rw [if_pos c4] at H
      have eQ := decide_eq_true c4
      clear c4
      (first | rw [eQ] | (simp only [gO, kj]; rw [eQ]) | skip)
      by_cases c5 : 0 ≤ aR
      ·rw [if_pos c5] at H
       have nF := decide_eq_true c5
       clear c5
       have H' := ak H; clear H
       have p6 : 0 ≤ (aR : Int) := od
       have q6 : aR < (a0.size : Int) := od
       have Mh := fi a0 aR
       replace p6 := eq_true p6
       replace q6 := eq_true q6
       go_wp2
       go_meet
       case rel => exact ⟨_, (((bt a0 aR) != 46)), rf, H', ⟨by have := ee.out; first | omega | exact Nat.le_refl _⟩, ⟨bl⟩⟩
      ·rw [if_neg c5] at H
       exact absurd H (by simp)
     ·rw [if_neg c4] at H
      have eQ := decide_eq_false c4
      clear c4
      (first | rw [eQ] | (simp only [gO, kj]; rw [eQ]) | skip)
      have H' := ak H; clear H
      go_wp2
      go_meet
      case rel => exact ⟨_, (false), rf, H', ⟨by have := ee.out; first | omega | exact Nat.le_refl _⟩, ⟨bl⟩⟩
    case rest =>
     clear oG
     obtain ⟨kq, Ei, rfl, HA, um, HB⟩ := hcut
     cases kq with
     | zero => exact absurd HA.out (by simp [aK.j1])
     | succ tH =>
      have H := HA.out
      clear HA
      simp only [aK.j1] at H
      by_cases c7 : Ei = true
      ·subst c7
       replace H : (if 0 ≤ aR then (if aR ≤ (wrap64 (aR + 1)) then (if (wrap64 (aR + 1)) ≤ (a0.size : Int) then (if jt.size + (a0.extract (aR : Int).toNat ((wrap64 (aR + 1)) : Int).toNat).size ≤ 9223372036854775807 then (aK.l0 tH a0 df bW (jt ++ (a0.extract (aR : Int).toNat ((wrap64 (aR + 1)) : Int).toNat)) (wrap64 (aR + 1))) else (none)) else (none)) else (none)) else (none)) = some (r1, r2) := by rw [if_pos rfl] at H; exact H
       by_cases c8 : 0 ≤ aR
       ·rw [if_pos c8] at H
        have qU := eq_true c8
        have CR := decide_eq_true c8
        clear c8
        by_cases c9 : aR ≤ (wrap64 (aR + 1))
        ·rw [if_pos c9] at H
         have xq := eq_true c9
         have aa2 := decide_eq_true c9
         by_cases c10 : (wrap64 (aR + 1)) ≤ (a0.size : Int)
         ·rw [if_pos c10] at H
          have zp := eq_true c10
          have Qn := decide_eq_true c10
          by_cases iy : jt.size + (a0.extract (aR : Int).toNat ((wrap64 (aR + 1)) : Int).toNat).size ≤ 9223372036854775807
          ·rw [if_pos iy] at H
           have vk := eq_true iy
           have BQ := decide_eq_true iy
           try have aP6 := eq_false (Nat.not_lt.2 iy)
           have H' := ak H; clear H
           go_wp2
           go_roundg tH
           case measure => have := ee.out; have := um.out; omega
           case rel => exact ⟨(df), (bW), (jt ++ (a0.extract (aR : Int).toNat ((wrap64 (aR + 1)) : Int).toNat)), (wrap64 (aR + 1)), rf, rf, rf, rf, H', ⟨by have := ee.out; have := um.out; omega⟩, ⟨bl⟩⟩
          ·rw [if_neg iy] at H
           exact absurd H (by simp)
         ·rw [if_neg c10] at H
          exact absurd H (by simp)
        ·rw [if_neg c9] at H
         exact absurd H (by simp)
       ·rw [if_neg c8] at H
        exact absurd H (by simp)
      ·replace c7 := Bool.eq_false_iff.mpr c7
       subst c7
       replace H : ((aA.f tH jt 255).bind fun wH => (if wH.2 = true then (if (wrap64 (bW + 1)) > 4 then (some (0, false)) else (aK.l0 tH a0 (wrap64 ((wrap64 (256 * df)) + wH.1)) (wrap64 (bW + 1)) (⟨#[]⟩ : ByteArray) (wrap64 (aR + 1)))) else (some (0, false)))) = some (r1, r2) := by rw [if_neg (show ¬ (false = true) by decide)] at H; exact H
       replace H := Option.bind_eq_some_iff.mp H
       obtain ⟨⟨vK, K2⟩, Wp, H⟩ := H
       replace H : (if K2 = true then (if (wrap64 (bW + 1)) > 4 then (some (0, false)) else (aK.l0 tH a0 (wrap64 ((wrap64 (256 * df)) + vK)) (wrap64 (bW + 1)) (⟨#[]⟩ : ByteArray) (wrap64 (aR + 1)))) else (some (0, false))) = some (r1, r2) := H
       have jE := ak Wp
       clear Wp
       by_cases qw : K2 = true
       ·subst qw
        replace H : (if (wrap64 (bW + 1)) > 4 then (some (0, false)) else (aK.l0 tH a0 (wrap64 ((wrap64 (256 * df)) + vK)) (wrap64 (bW + 1)) (⟨#[]⟩ : ByteArray) (wrap64 (aR + 1)))) = some (r1, r2) := by rw [if_pos rfl] at H; exact H
        by_cases hG : (wrap64 (bW + 1)) > 4
        ·rw [if_pos hG] at H
         have zo := decide_eq_true hG
         clear hG
         simp only [Option.some.injEq, Prod.mk.injEq] at H
         obtain ⟨rfl, rfl⟩ := H
         go_wp2_with (first | ((with_reducible refine au (f := 98) rfl ?_); refine gC (some 35) Tryz.func98 #[.string jt, .int .i64 255] ?_; (with_reducible refine (aA.calls tH jt 255 vK true _ jE.out).mono ?_); rintro e vG ⟨rfl, hb⟩; refine ⟨_, rfl, ?_⟩; replace HB := bs hb; (try clear hb); (try clear aU); (try clear hk); (try clear hi)))
         go_ret2
         exact ⟨rg, bl⟩
        ·rw [if_neg hG] at H
         have zo := decide_eq_false hG
         clear hG
         have H' := ak H; clear H
         go_wp2_with (first | ((with_reducible refine au (f := 98) rfl ?_); refine gC (some 35) Tryz.func98 #[.string jt, .int .i64 255] ?_; (with_reducible refine (aA.calls tH jt 255 vK true _ jE.out).mono ?_); rintro e Pv ⟨rfl, hb⟩; refine ⟨_, rfl, ?_⟩; replace HB := bs hb; (try clear hb); (try clear aU); (try clear hk); (try clear hi)))
         go_roundg tH
         case measure => have := ee.out; have := um.out; omega
         case rel => exact ⟨(wrap64 ((wrap64 (256 * df)) + vK)), (wrap64 (bW + 1)), ((⟨#[]⟩ : ByteArray)), (wrap64 (aR + 1)), rf, rf, rf, rf, H', ⟨by have := ee.out; have := um.out; omega⟩, ⟨bl⟩⟩
       ·replace qw := Bool.eq_false_iff.mpr qw
        subst qw
        replace H : (some (0, false)) = some (r1, r2) := by rw [if_neg (show ¬ (false = true) by decide)] at H; exact H
        simp only [Option.some.injEq, Prod.mk.injEq] at H
        obtain ⟨rfl, rfl⟩ := H
        go_wp2_with (first | ((with_reducible refine au (f := 98) rfl ?_); refine gC (some 35) Tryz.func98 #[.string jt, .int .i64 255] ?_; (with_reducible refine (aA.calls tH jt 255 vK false _ jE.out).mono ?_); rintro e xW ⟨rfl, hb⟩; refine ⟨_, rfl, ?_⟩; replace HB := bs hb; (try clear hb); (try clear aU); (try clear hk); (try clear hi)))
        go_ret2
        exact ⟨rg, bl⟩
   ·rw [if_neg c2] at H
    have ig := decide_eq_false c2
    clear c2
    by_cases ug : bW = 4
    ·rw [if_pos ug] at H
     have Ki : (bW == 4) = true := beq_iff_eq.mpr ug
     have Kh : (bW != 4) = false := bne_eq_false_iff_eq.mpr ug
     clear ug
     simp only [Option.some.injEq, Prod.mk.injEq] at H
     obtain ⟨rfl, rfl⟩ := H
     go_wp2
     go_ret2
     exact ⟨rg, bl⟩
    ·rw [if_neg ug] at H
     have Ki : (bW == 4) = false := beq_eq_false_iff_ne.mpr ug
     have Kh : (bW != 4) = true := bne_iff_ne.mpr ug
     simp only [Option.some.injEq, Prod.mk.injEq] at H
     obtain ⟨rfl, rfl⟩ := H
     go_wp2
     go_ret2
     exact ⟨rg, bl⟩
end
section
def kX : List (List UInt8) → Option Nat
 | [a, b, c, d] => (byteOf a).bind fun a => (byteOf b).bind fun b => (byteOf c).bind fun c => (byteOf d).bind fun d => some (((a * 256 + b) * 256 + c) * 256 + d)
 | _ => none
def nr (s : List UInt8) : Option Nat := kX (cutAt 46 s)
def ub : List (List UInt8) → Nat → Nat → Int × Bool
 | [], n, v => if n = 4 then ((v : Int) % 4294967296, true) else (0, false)
 | p :: ps, n, v => match byteOf p with
  | none => (0, false)
  | some x => if n + 1 > 4 then (0, false) else ub ps (n + 1) (256 * v + x)
theorem Sj (ps : List (List UInt8)) : ub ps 0 0 = match kX ps with | some v => ((v : Int), true) | none => (0, false) := by
 have lt : ∀ p x, byteOf p = some x → x < 256 := fun p x h => (ft h).1
 match ps with
 | [] => rfl
 | [a] => simp only [ub, kX]; cases byteOf a <;> rfl
 | [a, b] => simp only [ub, kX]; cases byteOf a <;> cases byteOf b <;> rfl
 | [a, b, c] => simp only [ub, kX]; cases byteOf a <;> cases byteOf b <;> cases byteOf c <;> rfl
 | [a, b, c, d] =>
  simp only [ub, kX]
  cases ha : byteOf a with
  | none => rfl
  | some a =>
   cases hb : byteOf b with
   | none => rfl
   | some b =>
    cases hc : byteOf c with
    | none => rfl
    | some c =>
     cases hd : byteOf d with
     | none => rfl
     | some d =>
      have := lt _ _ ha; have := lt _ _ hb; have := lt _ _ hc; have := lt _ _ hd
      simp
      omega
 | a :: b :: c :: d :: e :: r =>
  simp only [ub, kX]
  cases byteOf a <;> cases byteOf b <;> cases byteOf c <;> cases byteOf d <;> cases byteOf e <;> rfl
def mJ (cur : List UInt8) : List (List UInt8) → List (List UInt8)
 | [] => [cur]
 | p :: r => (cur ++ p) :: r
theorem Kv (cur : List UInt8) (b c : UInt8) (l : List UInt8) (h : b ≠ c) : mJ cur (cutAt c (b :: l)) = mJ (cur ++ [b]) (cutAt c l) := by
 rw [cutAt, if_neg h]
 cases hc : cutAt c l with
 | nil => exact absurd hc (xo c l)
 | cons p r => simp [mJ]
theorem Kw (cur : List UInt8) (c : UInt8) (l : List UInt8) : mJ cur (cutAt c (c :: l)) = cur :: cutAt c l := by
 rw [cutAt, if_pos rfl]
 simp [mJ]
theorem Hn (cur : List UInt8) (c : UInt8) : mJ cur (cutAt c []) = [cur] := by simp [mJ, cutAt]
theorem yJ (c : UInt8) (l : List UInt8) : mJ [] (cutAt c l) = cutAt c l := by
 cases hc : cutAt c l with
 | nil => exact absurd hc (xo c l)
 | cons p r => rfl
theorem I0 (s : ByteArray) (j : Nat) (hj : j < s.size) : ∃ b : UInt8, s.data.toList.drop j = b :: s.data.toList.drop (j + 1) ∧ bt s (j : Int) = (b.toNat : Int) ∧ (s.extract j (j + 1)).data.toList = [b] := by
 have hl := cG s
 refine ⟨s.data.toList[j]'(by omega), List.drop_eq_getElem_cons (by omega), ?_, ?_⟩
 ·simp [bt, hj]
  rfl
 ·rw [Lib.extract_data]
  rw [List.drop_eq_getElem_cons (by omega)]
  simp
theorem TC (n : Nat) (h : n ≤ 4) : 256 ^ n ≤ 4294967296 := by
 match n, h with
 | 0, _ => decide
 | 1, _ => decide
 | 2, _ => decide
 | 3, _ => decide
 | 4, _ => decide
theorem Dj (s : ByteArray) (hs : s.size < 1152921504606846976) (k i v n : Nat) (cur : ByteArray) (hc : cur.size ≤ s.size) (hk : s.size + 12 ≤ k) (hi : i ≤ s.size) (hn : n ≤ 4) (hv : v < 256 ^ n) :
  aK.j1 (k + 1) s (v : Int) (n : Int) cur (i : Int) false = match byteOf cur.data.toList with
   | none => some (0, false)
   | some x => if n + 1 > 4 then some (0, false) else aK.l0 k s ((256 * v + x : Nat) : Int) ((n + 1 : Nat) : Int) ⟨#[]⟩ ((i + 1 : Nat) : Int) := by
 have hp : v < 4294967296 := Nat.lt_of_lt_of_le hv (TC n hn)
 clear hv
 have W1 : Aside0 (wrap64 (256 * (v : Int)) = 256 * (v : Int)) := ⟨bB _ (by omega) (by omega)⟩
 have W3 : Aside0 (wrap64 ((n : Int) + 1) = (n : Int) + 1) := ⟨bB _ (by omega) (by omega)⟩
 have W4 : Aside0 (wrap64 ((i : Int) + 1) = (i : Int) + 1) := ⟨bB _ (by omega) (by omega)⟩
 have hr := Tp cur (by omega) k (by omega)
 have hlt : ∀ x, byteOf cur.data.toList = some x → x < 256 := fun x h => (ft h).1
 generalize byteOf cur.data.toList = o at hr hlt ⊢
 rw [aK.j1, if_neg (by decide), hr]
 clear hr
 cases o with
 | none => rfl
 | some x =>
  have hx := hlt x rfl
  clear hlt
  rw [Option.bind_some, if_pos rfl]
  show _ = if n + 1 > 4 then some (0, false) else aK.l0 k s ((256 * v + x : Nat) : Int) ((n + 1 : Nat) : Int) ⟨#[]⟩ ((i + 1 : Nat) : Int)
  have W2 : Aside0 (wrap64 (256 * (v : Int) + x) = 256 * (v : Int) + x) := ⟨bB _ (by omega) (by omega)⟩
  rw [W1.out, W2.out, W3.out, W4.out]
  by_cases h4 : n + 1 > 4
  ·rw [if_pos (by omega), if_pos h4]
  ·rw [if_neg (by omega), if_neg h4, show ((256 * v + x : Nat) : Int) = 256 * (v : Int) + x by omega, show ((n + 1 : Nat) : Int) = (n : Int) + 1 by omega, show ((i + 1 : Nat) : Int) = (i : Int) + 1 by omega]
theorem Ln (s : ByteArray) (hs : s.size < 1152921504606846976) : ∀ (d k i : Nat) (v n : Nat) (cur : ByteArray), s.size - i ≤ d → 2 * d + s.size + 20 ≤ k → i ≤ s.size → cur.size ≤ i → n ≤ 4 → v < 256 ^ n →
  aK.l0 k s (v : Int) (n : Int) cur (i : Int) = some (ub (mJ cur.data.toList (cutAt 46 (s.data.toList.drop i))) n v) := by
 intro d
 induction d with
 | zero =>
  intro k i v n cur hd hk hi hc hn hv
  obtain ⟨k, rfl⟩ : ∃ m, k = m + 3 := ⟨k - 3, by omega⟩
  obtain rfl : i = s.size := by omega
  have hdrop : s.data.toList.drop s.size = [] := by rw [List.drop_eq_nil_iff]; rw [cG]; omega
  rw [hdrop, Hn]
  rw [aK.l0, if_pos (by omega), if_neg (by omega), Dj s hs (k + 1) s.size v n cur (by omega) (by omega) (by omega) hn hv]
  simp only [ub]
  cases hb : byteOf cur.data.toList with
  | none => rfl
  | some x =>
   by_cases h4 : n + 1 > 4
   ·simp [h4]
   ·simp only [h4, if_false]
    rw [aK.l0, if_neg (by omega)]
    by_cases h5 : n + 1 = 4
    ·rw [if_pos h5, if_pos (by omega)]
    ·rw [if_neg h5, if_neg (by omega)]
 | succ d ih =>
  intro k i v n cur hd hk hi hc hn hv
  by_cases hie : i = s.size
  ·exact ih k i v n cur (by omega) (by omega) hi hc hn hv
  obtain ⟨k, rfl⟩ : ∃ m, k = m + 2 := ⟨k - 2, by omega⟩
  obtain ⟨b, h1, h2, h3⟩ := I0 s i (by omega)
  rw [h1, aK.l0, if_pos (by omega), if_pos (by omega), if_pos (by omega), h2]
  by_cases hb : b = 46
  ·subst hb
   rw [Kw, show ((((46 : UInt8).toNat : Int)) != 46) = false from rfl, Dj s hs k i v n cur (by omega) (by omega) (by omega) hn hv]
   simp only [ub]
   cases hq : byteOf cur.data.toList with
   | none => rfl
   | some x =>
    have hx := (ft hq).1
    by_cases h4 : n + 1 > 4
    ·simp [h4]
    ·simp only [h4, if_false]
     rw [ih k (i + 1) (256 * v + x) (n + 1) ⟨#[]⟩ (by omega) (by omega) (by omega) (by simp [ByteArray.size]) (by omega) (by rw [Nat.pow_succ]; omega)]
     have e := yJ 46 (List.drop (i + 1) s.data.toList)
     show some (ub (mJ [] (cutAt 46 (List.drop (i + 1) s.data.toList))) (n + 1) (256 * v + x)) = _
     rw [e]
  ·have hne : (((b.toNat : Int)) != 46) = true := by
    simp
    intro h
    exact hb (UInt8.toNat_inj.1 (by simpa using (by omega : b.toNat = 46)))
   rw [hne, Kv _ _ _ _ hb, aK.j1, if_pos rfl, bB ((i : Int) + 1) (by omega) (by omega), if_pos (by omega), if_pos (by omega), if_pos (by omega)]
   have e1 : ((i : Int) + 1).toNat = i + 1 := by omega
   rw [e1, Int.toNat_natCast]
   have hsz : (s.extract i (i + 1)).size = 1 := by simp; omega
   rw [if_pos (by omega)]
   have := ih k (i + 1) v n (cur ++ s.extract i (i + 1)) (by omega) (by omega) (by omega) (by rw [ByteArray.size_append]; omega) hn hv
   rw [show (cur ++ s.extract i (i + 1)).data.toList = cur.data.toList ++ [b] by rw [← h3]; simp] at this
   exact this
theorem Nz (s : ByteArray) (hs : s.size < 1152921504606846976) (k : Nat) (hk : 3 * s.size + 20 ≤ k) : aK.f k s = some (match nr s.data.toList with | some v => ((v : Int), true) | none => (0, false)) := by
 have h := Ln s hs s.size k 0 0 0 ⟨#[]⟩ (by omega) (by omega) (by omega) (by simp [ByteArray.size]) (by omega) (by omega)
 unfold aK.f nr
 rw [← Sj, ← yJ]
 exact h
end
section
def cy (a i : Nat) : Nat := a / 2 ^ (8 * (3 - i)) % 256
def fX (a : Nat) (j : Nat) : List Value := (List.range 4).map fun i => .int .u8 (if i < j then (cy a i : Int) else 0)
def pg (a : Nat) : List Int := [(cy a 0 : Int), (cy a 1 : Int), (cy a 2 : Int), (cy a 3 : Int)]
theorem Hl (a j : Nat) (hj : j < 4) : (fX a j).set j (.int .u8 (cy a j : Int)) = fX a (j + 1) := by
 match j, hj with
 | 0, _ => simp [fX, List.range_succ_eq_map]
 | 1, _ => simp [fX, List.range_succ_eq_map]
 | 2, _ => simp [fX, List.range_succ_eq_map]
 | 3, _ => simp [fX, List.range_succ_eq_map]
theorem Hm (a : Nat) : fX a 4 = (pg a).map (Value.int .u8) := by simp [fX, pg, List.range_succ_eq_map]
set_option maxHeartbeats 2000000 in
set_option maxRecDepth 100000 in
theorem Hg (a : Nat) (ha : a < 4294967296) (w : World) :
  Calls Tryz.prog 146 #[.int .u32 (a : Int)] w fun e w' => e = .returned (.agg ((pg a).map (Value.int .u8)).toArray) ∧ Below w.heap.size w w' := by
 have HA := ak ha
 clear ha
 go_enter Tryz.func146, Tryz.ntmps146
 go_wp2
 go_loopw [5] (fun i W => ∃ j : Nat, j ≤ 4 ∧ i = .int .i64 j ∧ Aside0 (bC W (w.heap.size + 1) (fX a j) 199) ∧ Aside0 (bC W w.heap.size (fX a 0) 199) ∧ Aside0 (Below w.heap.size w W)) (fun i _ => 4 - (intOf i).toNat)
 case atStart => exact ⟨0, by omega, rfl, ⟨by have := heap_alloc_new (w.alloc (.cells #[Value.int .u8 0, Value.int .u8 0, Value.int .u8 0, Value.int .u8 0] 199)) (.cells #[Value.int .u8 0, Value.int .u8 0, Value.int .u8 0, Value.int .u8 0] 199); simpa [bC, fX, List.range_succ_eq_map] using this⟩, ⟨bC.alloc (show bC (w.alloc _) w.heap.size (fX a 0) _ from heap_alloc_new w _) _⟩, ⟨by repeat (first | apply cO | exact Below.refl _ _)⟩⟩
 case round =>
  obtain ⟨j, hj, rfl, H1, H0, HB⟩ := hrel
  obtain ⟨W, rfl⟩ : ∃ W : World, W = wr := ⟨_, rfl⟩
  by_cases lO : j < 4
  ·have hjb : decide ((j : Int) < 4) = true := by simp; omega
   have hc := H1.out.cell j _ (show (fX a j)[j]? = some (.int .u8 0) by
    simp [fX, List.getElem?_map, List.getElem?_range lO])
   have hf := H1.out.frozen j
   go_wp2
   have hv : (↑a / 2 ^ (8 * (3 - j)) % 256 : Int) = ((cy a j : Nat) : Int) := by simp [cy]
   rw [hv]
   exact ⟨⟨j + 1, by omega, by go_num, ⟨by rw [← Hl a j lO]; exact H1.out.set j _⟩, ⟨H0.out.far (by simp) _⟩, ⟨HB.out.setCell (by simp) _⟩⟩, by simp [intOf]; omega⟩
  ·have hjb : decide ((j : Int) < 4) = false := by simp; omega
   obtain rfl : j = 4 := by omega
   go_wp2_with (first | (refine a7 rfl 199 (.tmp 3) rfl (w.heap.size + 1) rfl _ _ _ H1.out Tryz.underlying199 rfl 4 (by kernel_rfl) (by simp [fX]) ?_) | (refine ay rfl 199 (.tmp 2) (.tmp 17) rfl w.heap.size (fX a 4) rfl rfl _ _ H0.out 4 (by kernel_rfl) (by simp [fX]) (by simp [fX]) (by intro v hv; simp [fX] at hv; obtain ⟨i, _, rfl⟩ := hv; rfl) ?_; intro W1 aw cj))
   exact bodyPost_ret (results_cell_row rfl _ _ w.heap.size 199 _ (0, 0) _ rfl aw Tryz.underlying199 rfl (by kernel_rfl)) rfl ⟨by rw [Hm], HB.out.grown cj HB.out.size (by intro k hk; cases hk; omega)⟩
theorem yZ (n b : Nat) (hn : n < 16777216) (hb : b < 256) : bits .or .u32 ((n : Int) * 256 % 4294967296) ((b : Int) % 4294967296) = ((n * 256 + b : Nat) : Int) := by
 rw [show (n : Int) * 256 % 4294967296 = ((n * 256 : Nat) : Int) by omega, show (b : Int) % 4294967296 = (b : Int) by omega, u32_or_nat _ _ (by omega) (by omega), nat_join 8 _ _ (by omega) (by omega)]
theorem or_zero (b : Nat) (hb : b < 256) : bits .or .u32 0 ((b : Int) % 4294967296) = (b : Int) := by
 have := yZ 0 b (by omega) hb
 simpa using this
set_option maxHeartbeats 2000000 in
set_option maxRecDepth 100000 in
theorem TH (b0 b1 b2 b3 : Nat) (h0 : b0 < 256) (h1 : b1 < 256) (h2 : b2 < 256) (h3 : b3 < 256) (w : World) :
  Calls Tryz.prog 131 #[.agg #[.int .u8 (b0 : Int), .int .u8 (b1 : Int), .int .u8 (b2 : Int), .int .u8 (b3 : Int)]] w fun e w' => e = .returned (.int .u32 ((((b0 * 256 + b1) * 256 + b2) * 256 + b3 : Nat) : Int)) ∧ Below w.heap.size w w' := by
 have HA := ak (And.intro h0 (And.intro h1 (And.intro h2 h3)))
 clear h0 h1 h2 h3
 go_enter Tryz.func131, Tryz.ntmps131
 have hi := fun (w : World) (i : Nat) (h : i < 4) => ss (P := Tryz.prog) w 199 5 4 .u8 Tryz.underlying199 Tryz.underlying5 (fun _ => by kernel_rfl) [(b0 : Int), (b1 : Int), (b2 : Int), (b3 : Int)] rfl i h
 have kU : ∀ w, (Instr.index 199 (.agg #[.int .u8 (b0 : Int), .int .u8 (b1 : Int), .int .u8 (b2 : Int), .int .u8 (b3 : Int)]) (.int .i64 0)).run Tryz.prog w = .ok (.int .u8 (b0 : Int)) w := fun w => hi w 0 (by decide)
 have uU : ∀ w, (Instr.index 199 (.agg #[.int .u8 (b0 : Int), .int .u8 (b1 : Int), .int .u8 (b2 : Int), .int .u8 (b3 : Int)]) (.int .i64 1)).run Tryz.prog w = .ok (.int .u8 (b1 : Int)) w := fun w => hi w 1 (by decide)
 have Ui : ∀ w, (Instr.index 199 (.agg #[.int .u8 (b0 : Int), .int .u8 (b1 : Int), .int .u8 (b2 : Int), .int .u8 (b3 : Int)]) (.int .i64 2)).run Tryz.prog w = .ok (.int .u8 (b2 : Int)) w := fun w => hi w 2 (by decide)
 have hi3 : ∀ w, (Instr.index 199 (.agg #[.int .u8 (b0 : Int), .int .u8 (b1 : Int), .int .u8 (b2 : Int), .int .u8 (b3 : Int)]) (.int .i64 3)).run Tryz.prog w = .ok (.int .u8 (b3 : Int)) w := fun w => hi w 3 (by decide)
 clear hi
 go_wp2
 refine wp_loop_rounds 5 ?_; repeat any_goals (rw [rounds_succ]; go_wp2)
 go_ret
 refine ⟨?_, cO (Below.refl _ _) _⟩
 obtain ⟨h0, h1, h2, h3⟩ := HA.out
 rw [or_zero b0 h0, yZ b0 b1 (by omega) h1, yZ _ b2 (by omega) h2, yZ _ b3 (by omega) h3]
 rfl
end
section
theorem TS {base : Nat} {ok : Nat → Prop} {v : Value} (xs : List ByteArray) (sep : ByteArray) (w : World) (h : Kd.R Kd.string 9 w base ok v xs) (h0 : 0 < xs.length) (hN : xs.length ≤ 140737488355328)
  (hlen : (Lib.join (xs.map (·.data.toList)) sep.data.toList).length ≤ 140737488355328) :
  Calls Tryz.prog 147 #[v, .string sep] w fun e w' => e = .returned (.string ⟨(Lib.join (xs.map (·.data.toList)) sep.data.toList).toArray⟩) ∧ Below w.heap.size w w' := by
 obtain ⟨hl, hx⟩ := Kd.own_of_R h
 rcases hx with ⟨_, hn⟩ | ⟨g, cap, cur, rfl, hb, hg, hc, hm, hz, ht⟩
 ·omega
 refine Tryz.strings_Join g 0 cap xs sep w (fun j x hj => ?_) (Array.getElem?_eq_some_iff.1 hg).1 hN hc hlen
 rw [cell_of_row w g (0 + j) _ _ (0, 0) hg, Nat.zero_add]
 have lO : j < xs.length := (List.getElem?_eq_some_iff.1 hj).1
 have e : (gL Value.string xs)[j]? = some (.string x) := by simp [gL, hj]
 rw [← ht, List.getElem?_take_of_lt (by omega)] at e
 simpa using e
theorem So (n : Nat) (hn : n < 256) (w : World) : Calls Tryz.prog 145 #[.int .u8 (n : Int)] w fun e w' => e = .returned (.string (fB n)) ∧ Below w.heap.size w w' :=
 cq.calls 5 _ _ w (by have := List.all_eq_true.1 IL n (List.mem_range.2 hn); simpa using this)
def gW (a : Nat) : List ByteArray := [fB (cy a 0), fB (cy a 1), fB (cy a 2), fB (cy a 3)]
def ou (a : Nat) : ByteArray := ⟨(Lib.join ((gW a).map (·.data.toList)) [46]).toArray⟩
theorem vl (a i : Nat) : cy a i < 256 := Nat.mod_lt _ (by decide)
theorem G1 (a j : Nat) (hj : j < 4) : (gW a)[j]? = some (fB (cy a j)) := by
 match j, hj with
 | 0, _ => rfl
 | 1, _ => rfl
 | 2, _ => rfl
 | 3, _ => rfl
theorem Ey (a j : Nat) (hj : j < 4) : (gW a).take (j + 1) = (gW a).take j ++ [fB (cy a j)] := by
 rw [List.take_add_one, G1 a j hj]
 rfl
theorem Ed (a j : Nat) (hj : j < 4) : (pg a).getD j 0 = (cy a j : Int) := by
 match j, hj with
 | 0, _ => rfl
 | 1, _ => rfl
 | 2, _ => rfl
 | 3, _ => rfl
theorem xF (a : Nat) : (Lib.join ((gW a).map (·.data.toList)) [46]).length ≤ 15 := by
 have h := Lib.join_length (fg (cy a 0)) [fg (cy a 1), fg (cy a 2), fg (cy a 3)] [46]
 have e : (gW a).map (·.data.toList) = [fg (cy a 0), fg (cy a 1), fg (cy a 2), fg (cy a 3)] := by simp [gW, fB]
 rw [e, h]
 have h0 := ox (cy a 0); have h1 := ox (cy a 1); have h2 := ox (cy a 2); have h3 := ox (cy a 3)
 simp [Lib.lens]
 omega
set_option maxHeartbeats 2000000 in
set_option maxRecDepth 100000 in
theorem Hh (a : Nat) (ha : a < 4294967296) (w : World) :
  Calls Tryz.prog 132 #[.int .u32 (a : Int)] w fun e w' => e = .returned (.string (ou a)) ∧ Below w.heap.size w w' := by
 have HA := ak ha
 clear ha
 go_enter Tryz.func132, Tryz.ntmps132
 go_wp2_with (go_at_call 146; refine (Hg a HA.out _).mono ?_; rintro e W0 ⟨rfl, iI⟩)
 go_loopw [3, 8] (fun v i W => ∃ j : Nat, j ≤ 4 ∧ i = .int .i64 j ∧ Aside0 (Kd.R Kd.string 9 W w.heap.size (fun _ => True) v ((gW a).take j)) ∧ Aside0 (Below w.heap.size w W)) (fun _ i _ => 4 - (intOf i).toNat)
 case atStart => exact ⟨0, by omega, rfl, ⟨Kd.R_nil _ _ _ _ _⟩, ⟨iI⟩⟩
 case round =>
  obtain ⟨j, hj, rfl, HO, HB⟩ := hrel
  obtain ⟨W, rfl⟩ : ∃ W : World, W = wr := ⟨_, rfl⟩
  by_cases lO : j < 4
  ·have hjb : decide ((j : Int) < 4) = true := by simp; omega
   have hi : ∀ w, (Instr.index 199 (.agg ((pg a).map (Value.int .u8)).toArray) (.int .i64 (j : Int))).run Tryz.prog w = .ok (.int .u8 (cy a j : Int)) w := fun w => by
    rw [← Ed a j lO]
    exact ss (P := Tryz.prog) w 199 5 4 .u8 Tryz.underlying199 Tryz.underlying5 (fun _ => by kernel_rfl) (pg a) rfl j lO
   have HL := ak (show ((gW a).take j).length ≤ 4 by simp [gW]; omega)
   have HF := ak (Ey a j lO)
   go_wp2_with (first | (go_at_call 145; refine (So _ (vl a j) _).mono ?_; rintro e W1 ⟨rfl, aw⟩; have kg := ak (Kd.R_below HO.out aw); have bR := ak (HB.out.trans (aw.mono HB.out.size)); clear aw) | ((with_reducible refine cx (b := .append) (xs := #[.tmp 11, .tmp 14]) rfl ?_); at_builtin; refine Kd.R_append Kd.string (w0 := w) w.heap.size rfl (.tmp 11) (.tmp 14) 197 9 (.string ⟨#[]⟩) 16 rfl Tryz.underlying197 WM rfl (by decide) (by omega) u3 ((gW a).take j) (fB (cy a j)) [.string (fB (cy a j))] (fun _ => True) (fun _ => False) rfl rfl ?aP (fun _ hk => hk.elim) ?aF ?aO ?aB ?aS ?aL ?_; (case aP => rfl); (case aB => exact bR.out); (case aF => exact (fun _ _ => trivial)); (case aO => exact kg.out); (case aS => exact bR.out.size); (case aL => have := HL.out; omega); intro v1 w1 ho hb hg hat; rw [← HF.out] at ho; have sJ := ak ho; have ep := ak hb; clear ho hb hg hat))
   exact ⟨⟨j + 1, by omega, by go_num, sJ, ep⟩, by simp [intOf]; omega⟩
  ·have hjb : decide ((j : Int) < 4) = false := by simp; omega
   obtain rfl : j = 4 := by omega
   have HJ := ak (show Kd.R Kd.string 9 W w.heap.size (fun _ => True) u3 (gW a) from HO.out)
   go_wp2_with (go_at_call 147; refine (TS (gW a) ⟨#[46]⟩ W HJ.out (by simp [gW]) (by simp [gW]) (Nat.le_trans (xF a) (by omega))).mono ?_; rintro e W1 ⟨rfl, aw⟩)
   go_ret
   exact ⟨rfl, HB.out.trans (aw.mono HB.out.size)⟩
end
section
def lZ (f : Nat → Nat) (j : Nat) : List Value := (List.range 4).map fun i => .int .u8 (if i < j then (f i : Int) else 0)
theorem MY (f : Nat → Nat) (j : Nat) (hj : j < 4) : (lZ f j).set j (.int .u8 (f j : Int)) = lZ f (j + 1) := by
 match j, hj with
 | 0, _ => simp [lZ, List.range_succ_eq_map]
 | 1, _ => simp [lZ, List.range_succ_eq_map]
 | 2, _ => simp [lZ, List.range_succ_eq_map]
 | 3, _ => simp [lZ, List.range_succ_eq_map]
theorem Hs (s : ByteArray) (w : World) : Calls Tryz.prog 130 #[.string s] w fun e w' => ∃ r : Int × Bool, yU s r ∧ e = .returned (.tuple #[.int .u8 r.1, .bool r.2]) ∧ Below w.heap.size w w' := by
 obtain ⟨r, h1, h2⟩ := Wq s 12 (Nat.le_refl _)
 exact (b7.calls 12 s r.1 r.2 w h1).mono fun e w' ⟨h3, h4⟩ => ⟨r, h2, h3, h4⟩
theorem Tb (s : ByteArray) (n : Nat) (h : byteOf s.data.toList = some n) (w : World) : Calls Tryz.prog 130 #[.string s] w fun e w' => e = .returned (.tuple #[.int .u8 (n : Int), .bool true]) ∧ Below w.heap.size w w' :=
 (Hs s w).mono fun e w' ⟨r, h1, h2, h3⟩ => ⟨by unfold yU at h1; rw [h] at h1; rw [h2, h1], h3⟩
theorem Tc (s : ByteArray) (h : byteOf s.data.toList = none) (w : World) : Calls Tryz.prog 130 #[.string s] w fun e w' => ∃ x, e = .returned (.tuple #[.int .u8 x, .bool false]) ∧ Below w.heap.size w w' :=
 (Hs s w).mono fun e w' ⟨r, h1, h2, h3⟩ => ⟨r.1, by unfold yU at h1; rw [h] at h1; rw [h2, h1], h3⟩
def iu (s : ByteArray) : Int × Int := match nr s.data.toList with
 | some v => ((v : Int), 0)
 | none => (0, 3)
def yY (s : ByteArray) : List ByteArray := Lib.splitB ⟨#[46]⟩ 0 (Lib.countB s ⟨#[46]⟩) s
theorem tB (s : ByteArray) : (yY s).map (·.data.toList) = cutAt 46 s.data.toList := pieces_eq s 46
def fA (s : ByteArray) (i : Nat) : Nat := (byteOf ((yY s).getD i ⟨#[]⟩).data.toList).getD 0
set_option maxHeartbeats 2000000 in
set_option maxRecDepth 100000 in
theorem LG (s : ByteArray) (hs : s.size < 4294967281) (w : World) :
  Calls Tryz.prog 123 #[.string s] w fun e w' => e = .returned (.tuple #[.int .u32 (iu s).1, .int .i64 (iu s).2]) ∧ Below w.heap.size w w' := by
 obtain ⟨ps, hps⟩ : ∃ ps, yY s = ps := ⟨_, rfl⟩
 have hsp := Le s 46 w hs
 rw [show Lib.splitB ⟨#[46]⟩ 0 (Lib.countB s ⟨#[46]⟩) s = ps from hps] at hsp
 by_cases h4 : ps.length = 4
 ·have hlen := h4
  have Br : ((ps.length : Int) == 4) = true := by simp; omega
  have HR : Aside0 (∀ i (hi : i < 4), (yY s).getD i ⟨#[]⟩ = ps.getD i ⟨#[]⟩) := ⟨fun i hi => by rw [hps]⟩
  have HP := ak hps
  clear hps
  go_enter Tryz.func123, Tryz.ntmps123
  go_wp2_with (go_at_call 129; refine hsp.mono ?_; rintro e w' ⟨rfl, rfl⟩)
  go_loopw [17] (fun i W => ∃ j : Nat, j ≤ 4 ∧ i = .int .i64 j ∧ Aside0 (bC W (w.heap.size + 1) (lZ (fA s) j) 199) ∧ Aside0 (bC W w.heap.size (ps.map Value.string) 9) ∧ Aside0 (∀ i, i < j → byteOf (ps.getD i ⟨#[]⟩).data.toList = some (fA s i)) ∧ Aside0 (Below w.heap.size w W)) (fun i _ => 4 - (intOf i).toNat)
  case atStart => exact ⟨0, by omega, rfl, ⟨by have := heap_alloc_new (w.alloc (.cells (List.map Value.string ps).toArray 9)) (.cells #[Value.int .u8 0, Value.int .u8 0, Value.int .u8 0, Value.int .u8 0] 199); simpa [bC, lZ, List.range_succ_eq_map] using this⟩, ⟨bC.alloc (show bC (w.alloc _) w.heap.size (ps.map Value.string) _ from heap_alloc_new w _) _⟩, ⟨fun i hi => by omega⟩, ⟨by repeat (first | apply cO | exact Below.refl _ _)⟩⟩
  case round =>
   obtain ⟨j, hj, rfl, H1, H0, HV, HB⟩ := hrel
   obtain ⟨W, rfl⟩ : ∃ W : World, W = wr := ⟨_, rfl⟩
   by_cases lO : j < 4
   ·have hjb : decide ((j : Int) < 4) = true := by simp; omega
    obtain ⟨p, hp⟩ : ∃ p, ps[j]? = some p := ⟨ps[j]'(by omega), List.getElem?_eq_getElem (by omega)⟩
    have hpc := H0.out.cell j (.string p) (by simp [hp])
    have hc := H1.out.cell j (.int .u8 0) (show (lZ (fA s) j)[j]? = some (.int .u8 0) by simp [lZ, List.getElem?_map, List.getElem?_range lO])
    have hf := H1.out.frozen j
    have HG := ak (show ps.getD j ⟨#[]⟩ = p by simp [List.getD, hp])
    have HPV := ak (show fA s j = (byteOf p.data.toList).getD 0 by unfold fA; rw [HR.out j lO, HG.out])
    cases hbp : byteOf p.data.toList with
    | none =>
     have HE := ak (show iu s = (0, 3) by
      unfold iu nr
      rw [← tB, HP.out]
      match ps, h4, j, lO, hp with
      | [a, b, c, d], _, 0, _, hp => simp at hp; subst hp; simp [kX, hbp]
      | [a, b, c, d], _, 1, _, hp => simp at hp; subst hp; simp [kX, hbp]
      | [a, b, c, d], _, 2, _, hp => simp at hp; subst hp; simp [kX, hbp]
      | [a, b, c, d], _, 3, _, hp => simp at hp; subst hp; simp [kX, hbp])
     clear hc hf
     go_wp2_with (go_at_call 130; refine (Tc p hbp _).mono ?_; rintro e W1 ⟨x, rfl, aw⟩)
     go_ret2
     exact ⟨by rw [HE.out]; rfl, HB.out.trans (aw.mono HB.out.size)⟩
    | some n =>
     have HN : Aside0 (byteOf (ps.getD j ⟨#[]⟩).data.toList = some (fA s j)) := ⟨by rw [HG.out, HPV.out, hbp]; rfl⟩
     have hbq : byteOf p.data.toList = some (fA s j) := by rw [← HG.out]; exact HN.out
     clear hc hf
     go_wp2_with (go_at_call 130; refine (Tb p _ hbq _).mono ?_; rintro e W1 ⟨rfl, aw⟩; have Wg := ak (H1.out.below aw); have H01 := ak (H0.out.below aw); have bR := ak (HB.out.trans (aw.mono HB.out.size)); have iv := Wg.out.cell j (.int .u8 0) (show (lZ (fA s) j)[j]? = some (.int .u8 0) by simp [lZ, List.getElem?_map, List.getElem?_range lO]); have xJ := Wg.out.frozen j; clear aw)
     exact ⟨⟨j + 1, by omega, by go_num, ⟨by rw [← MY _ j lO]; exact Wg.out.set j _⟩, ⟨H01.out.far (by simp) _⟩, ⟨fun i hi => by
      by_cases h : i < j
      ·exact HV.out i h
      ·obtain rfl : i = j := by omega
       exact HN.out⟩, ⟨bR.out.setCell (by simp) _⟩⟩, by simp [intOf]; omega⟩
   ·have hjb : decide ((j : Int) < 4) = false := by simp; omega
    obtain rfl : j = 4 := by omega
    have HE : Aside0 (iu s = (((((fA s 0 * 256 + fA s 1) * 256 + fA s 2) * 256 + fA s 3 : Nat) : Int), 0)) := ⟨by
     unfold iu nr
     rw [← tB, HP.out]
     have v0 := HV.out 0 (by omega); have v1 := HV.out 1 (by omega); have v2 := HV.out 2 (by omega); have v3 := HV.out 3 (by omega)
     match ps, h4 with
     | [a, b, c, d], _ => simp at v0 v1 v2 v3; simp [kX, v0, v1, v2, v3]⟩
    have hlt : ∀ i, i < 4 → fA s i < 256 := fun i hi => (ft (HV.out i hi)).1
    go_wp2_with (first | (refine a7 rfl 199 (.tmp 5) rfl (w.heap.size + 1) rfl _ _ _ H1.out Tryz.underlying199 rfl 4 (by kernel_rfl) (by simp [lZ]) ?_; rw [show (lZ (fA s) 4).toArray = #[.int .u8 (fA s 0 : Int), .int .u8 (fA s 1 : Int), .int .u8 (fA s 2 : Int), .int .u8 (fA s 3 : Int)] by simp [lZ, List.range_succ_eq_map]]) | (go_at_call 131; refine (TH _ _ _ _ (hlt 0 (by omega)) (hlt 1 (by omega)) (hlt 2 (by omega)) (hlt 3 (by omega)) _).mono ?_; rintro e W1 ⟨rfl, aw⟩))
    go_ret2
    exact ⟨by rw [HE.out]; rfl, HB.out.trans (aw.mono HB.out.size)⟩
 ·have Br : ((ps.length : Int) == 4) = false := by simp; omega
  have HE := ak (show iu s = (0, 3) by
   unfold iu nr
   rw [← tB, hps]
   match ps, h4 with
   | [], _ => rfl
   | [a], _ => rfl
   | [a, b], _ => rfl
   | [a, b, c], _ => rfl
   | a :: b :: c :: d :: e :: r, _ => rfl)
  go_enter Tryz.func123, Tryz.ntmps123
  go_wp2_with (go_at_call 129; refine hsp.mono ?_; rintro e w' ⟨rfl, rfl⟩)
  go_ret2
  exact ⟨by rw [HE.out]; rfl, cO (Below.refl _ _) _⟩
end
section
def kQ.f (a0 : Int) : Option ByteArray := if 0 ≤ a0 ∧ a0 < 4294967296 then some (ou a0.toNat) else none
theorem kQ.calls (a0 : Int) (r : ByteArray) (w : World) (h : kQ.f a0 = some r) :
  Calls Tryz.prog 132 #[.int .u32 a0] w fun e w' => e = .returned (.string r) ∧ Below w.heap.size w w' := by
 unfold kQ.f at h
 split at h
 ·rename_i hr
  obtain ⟨n, rfl⟩ : ∃ n : Nat, a0 = n := ⟨a0.toNat, by omega⟩
  obtain rfl := Option.some.inj h
  exact Hh n (by omega) w
 ·cases h
end
section
theorem BJ (c : UInt8) : ∀ x : List UInt8, c ∉ x → cutAt c x = [x]
 | [], _ => rfl
 | b :: l, h => by
  have h1 : b ≠ c := fun e => h (by simp [e])
  rw [cutAt, if_neg h1, BJ c l (fun e => h (by simp [e]))]
theorem u6 (c : UInt8) (r : List UInt8) : ∀ x : List UInt8, c ∉ x → cutAt c (x ++ c :: r) = x :: cutAt c r
 | [], _ => by simp [cutAt]
 | b :: l, h => by
  have h1 : b ≠ c := fun e => h (by simp [e])
  rw [List.cons_append, cutAt, if_neg h1, u6 c r l (fun e => h (by simp [e]))]
theorem Hi : ((List.range 256).all fun n => (fg n).all fun b => decide (48 ≤ b) && decide (b ≤ 57)) = true := by kernel_rfl
theorem CP (n : Nat) (h : n < 256) (c : UInt8) (hc : c < 48 ∨ 57 < c) : c ∉ fg n := by
 have h1 := List.all_eq_true.1 Hi n (List.mem_range.2 h)
 intro hm
 have h2 := List.all_eq_true.1 h1 c hm
 simp only [Bool.and_eq_true, decide_eq_true_eq] at h2
 rcases hc with hc | hc
 ·exact absurd hc (by simpa using h2.1)
 ·exact absurd hc (by simpa using h2.2)
def qe (a : Nat) : List UInt8 := fg (cy a 0) ++ 46 :: (fg (cy a 1) ++ 46 :: (fg (cy a 2) ++ 46 :: fg (cy a 3)))
theorem ri (a : Nat) : (ou a).data.toList = qe a := by
 have e : (gW a).map (·.data.toList) = [fg (cy a 0), fg (cy a 1), fg (cy a 2), fg (cy a 3)] := by simp [gW, fB]
 unfold ou qe
 rw [e]
 simp [Lib.join, List.intercalate]
theorem Kl (a : Nat) (ha : a < 4294967296) : ((cy a 0 * 256 + cy a 1) * 256 + cy a 2) * 256 + cy a 3 = a := by
 unfold cy
 simp only [Nat.sub_zero, Nat.sub_self]
 omega
theorem Dw (a : Nat) (ha : a < 4294967296) : nr (qe a) = some a := by
 have hn := fun i => CP (cy a i) (vl a i) 46 (.inl (by decide))
 unfold nr qe
 rw [u6 _ _ _ (hn 0), u6 _ _ _ (hn 1), u6 _ _ _ (hn 2), BJ _ _ (hn 3)]
 simp only [kX, oy _ (vl a _), Option.bind_some, Kl a ha]
theorem Hc (a : Nat) (ha : a < 4294967296) : iu (ou a) = ((a : Int), 0) := by
 unfold iu
 rw [ri, Dw a ha]
theorem DO (n : Nat) : (fB n).size ≤ 3 := by
 have := ox n
 rw [← uZ, cG] at this
 exact this
theorem Fe (b : UInt8) : (⟨#[b]⟩ : ByteArray).size = 1 := rfl
end
section
attribute [local go_sem] bq bn bI bH aW aV bp bj
def dm.f (aI : Int) (ax : Int) : Option (Bool) := if ax ≥ 0 then (if ax ≤ 32 then ((gz.f ax).bind fun vM => (some ((Go.bits .andNot .u32 aI vM) == 0))) else (some false)) else (some false)
def dm.T1 : Bool × List (List Nat × List Nat) := (true, [([], []), ([0], [0]), ([1], [1]), ([2], [2]), ([3], [3]), ([4, 3], [3, 4]), ([5, 3], [3, 5]), ([3, 6], [3, 6]), ([7, 3], [7]), ([8], [8]), ([9, 8], [8, 9]), ([8], [8]), ([11, 8], [8, 11]), ([12, 8, 8], [8, 12]), ([10, 13, 8], [8, 10, 13]), ([14, 8], [8, 14]), ([8, 15], [8, 15]), ([16, 13, 0, 1, 2, 3, 4, 5, 6, 7, 8, 9, 10, 11, 12, 13, 14, 15, 16], [16])])
def dm.B1 : List Nat := [0, 1, 3, 7, 15, 31, 63, 127, 255, 511, 1023, 511, 2559, 6655, 16383, 32767, 65535, 131071]
theorem dm.tab1 : dA .any (opsOf Tryz.f75 1) = dm.T1 := by kernel_rfl
theorem dm.bits1 : dy dm.T1.2 dm.B1 = true := by kernel_rfl
set_option maxHeartbeats 8000000 in
set_option maxRecDepth 100000 in
theorem dm.calls (aI : Int) (ax : Int) (r : Bool) (w : World) (h : dm.f aI ax = some r) :
  Calls Tryz.prog 75 #[.agg #[.int .u32 aI, .int .i64 ax]] w fun e w' => e = .returned (.bool r) ∧ Below w.heap.size w w' := by
 have Aj := Tryz.underlying67
 have HB := ak (Below.refl w.heap.size w)
 have H : (if ax ≥ 0 then (if ax ≤ 32 then ((gz.f ax).bind fun vM => (some ((Go.bits .andNot .u32 aI vM) == 0))) else (some false)) else (some false)) = some r := h
 clear h
 by_cases c2 : ax ≥ 0
 ·rw [if_pos c2] at H
  have ig := decide_eq_true c2
  clear c2
  by_cases c3 : ax ≤ 32
  ·rw [if_pos c3] at H
   have gq := decide_eq_true c3
   clear c3
   replace H := Option.bind_eq_some_iff.mp H
   obtain ⟨vM, so, H⟩ := H
   replace H : (some ((Go.bits .andNot .u32 aI vM) == 0)) = some r := H
   have A4 := ak so
   clear so
   obtain rfl := Option.some.inj H
   go_enter Tryz.func75, Tryz.ntmps75
   try go_wp2_with (first | ((with_reducible refine af (N := 1) rfl ?_); refine bE (N := 1) (cs := #[.int .u32 aI, .int .i64 ax]) (t := 67) ?_; intro jl hg w5 hbox hb; have fu := ak (hbox); have Jj := ak (gl hg : w.heap.size ≤ jl); have Jp := ak (gl hg : w.heap.size ≤ jl); replace HB := bs hb; clear hb hbox hg))
   replace fu := ak (aj fu.out)
   replace HB := ak (gM HB.out)
   refine dV (n := 18) (S := fun w' => w'.cell? ⟨jl, 0, none⟩ = some (.int .u32 aI) ∧ w'.cell? ⟨jl, 1, none⟩ = some (.int .i64 ax)) (ds := []) #[false, false, false, false, false, false, false, false, false, false, false, false, false, false, false, false, false, false] (by kernel_rfl) rfl rfl ⟨(cD fu.out 0).trans rfl, (cD fu.out 1).trans rfl⟩ (fun hHeld => ?_); refine cz dm.tab1 dm.bits1 (fun aa bV => ?_)
   generalize w5.drew = w6 at fu HB hHeld ⊢
   refine pu 0 aa.out ?_
   refine tk 1 aa.out bV.out hHeld ?_ (hv := by rintro w' ⟨s0, s1⟩; go_simp; with_reducible rfl)
   refine pu 2 aa.out ?_
   refine pu 3 aa.out ?_
   refine pu 4 aa.out ?_
   refine tk 5 aa.out bV.out hHeld ?_ (hv := by rintro w' ⟨s0, s1⟩; go_simp; with_reducible rfl)
   refine pu 6 aa.out ?_
   refine pu 7 aa.out ?_
   refine pu 8 aa.out ?_
   refine pu 9 aa.out ?_
   refine pu 11 aa.out ?_
   refine tk 10 aa.out bV.out hHeld ?_ (hv := by rintro w' ⟨s0, s1⟩; go_simp; with_reducible rfl)
   refine tk 12 aa.out bV.out hHeld ?_ (hv := by rintro w' ⟨s0, s1⟩; go_simp; with_reducible rfl)
   refine on 13 aa.out (fun K hK => ?_)
   refine gs Tryz.func74 #[.int .i64 ax] (gz.calls ax vM _ A4.out) ?_
   rintro e w7 ⟨rfl, hb⟩
   refine ⟨_, rfl, ?_⟩
   replace fu := bm fu hb
   replace HB := bs hb
   (try clear hb)
   (try clear aU)
   (try clear hk)
   (try clear hi)
   refine kn hK ⟨(cD fu.out 0).trans rfl, (cD fu.out 1).trans rfl⟩ (fun hHeld => ?_)
   clear hK K
   refine pu 14 aa.out ?_
   refine pu 15 aa.out ?_
   refine pu 16 aa.out ?_
   refine pu 17 aa.out ?_
   refine dn aa.out ?_
   try go_wp2
   go_ret
   exact ⟨rg, bl⟩
  ·rw [if_neg c3] at H
   have gq := decide_eq_false c3
   clear c3
   obtain rfl := Option.some.inj H
   go_enter Tryz.func75, Tryz.ntmps75
   try go_wp2_with (first | ((with_reducible refine af (N := 1) rfl ?_); refine bE (N := 1) (cs := #[.int .u32 aI, .int .i64 ax]) (t := 67) ?_; intro jl hg w8 hbox hb; have fu := ak (hbox); have Jj := ak (gl hg : w.heap.size ≤ jl); have Jp := ak (gl hg : w.heap.size ≤ jl); replace HB := bs hb; clear hb hbox hg))
   replace fu := ak (aj fu.out)
   replace HB := ak (gM HB.out)
   refine dV (n := 18) (S := fun w' => w'.cell? ⟨jl, 0, none⟩ = some (.int .u32 aI) ∧ w'.cell? ⟨jl, 1, none⟩ = some (.int .i64 ax)) (ds := []) #[false, false, false, false, false, false, false, false, false, false, false, false, false, false, false, false, false, false] (by kernel_rfl) rfl rfl ⟨(cD fu.out 0).trans rfl, (cD fu.out 1).trans rfl⟩ (fun hHeld => ?_); refine cz dm.tab1 dm.bits1 (fun aa bV => ?_)
   generalize w8.drew = w9 at fu HB hHeld ⊢
   refine pu 0 aa.out ?_
   refine tk 1 aa.out bV.out hHeld ?_ (hv := by rintro w' ⟨s0, s1⟩; go_simp; with_reducible rfl)
   refine pu 2 aa.out ?_
   refine pu 3 aa.out ?_
   refine pu 4 aa.out ?_
   refine tk 5 aa.out bV.out hHeld ?_ (hv := by rintro w' ⟨s0, s1⟩; go_simp; with_reducible rfl)
   refine pu 6 aa.out ?_
   refine pu 7 aa.out ?_
   refine pu 8 aa.out ?_
   refine po 9 aa.out ?_
   refine po 10 aa.out ?_
   refine po 11 aa.out ?_
   refine po 12 aa.out ?_
   refine po 13 aa.out ?_
   refine po 14 aa.out ?_
   refine po 15 aa.out ?_
   refine pu 16 aa.out ?_
   refine pu 17 aa.out ?_
   refine dn aa.out ?_
   try go_wp2
   go_ret
   exact ⟨rg, bl⟩
 ·rw [if_neg c2] at H
  have ig := decide_eq_false c2
  clear c2
  obtain rfl := Option.some.inj H
  go_enter Tryz.func75, Tryz.ntmps75
  try go_wp2_with (first | ((with_reducible refine af (N := 1) rfl ?_); refine bE (N := 1) (cs := #[.int .u32 aI, .int .i64 ax]) (t := 67) ?_; intro jl hg uB hbox hb; have fu := ak (hbox); have Jj := ak (gl hg : w.heap.size ≤ jl); have Jp := ak (gl hg : w.heap.size ≤ jl); replace HB := bs hb; clear hb hbox hg))
  replace fu := ak (aj fu.out)
  replace HB := ak (gM HB.out)
  refine dV (n := 18) (S := fun w' => w'.cell? ⟨jl, 0, none⟩ = some (.int .u32 aI) ∧ w'.cell? ⟨jl, 1, none⟩ = some (.int .i64 ax)) (ds := []) #[false, false, false, false, false, false, false, false, false, false, false, false, false, false, false, false, false, false] (by kernel_rfl) rfl rfl ⟨(cD fu.out 0).trans rfl, (cD fu.out 1).trans rfl⟩ (fun hHeld => ?_); refine cz dm.tab1 dm.bits1 (fun aa bV => ?_)
  generalize uB.drew = Db at fu HB hHeld ⊢
  refine pu 0 aa.out ?_
  refine tk 1 aa.out bV.out hHeld ?_ (hv := by rintro w' ⟨s0, s1⟩; go_simp; with_reducible rfl)
  refine pu 2 aa.out ?_
  refine pu 3 aa.out ?_
  refine po 4 aa.out ?_
  refine po 5 aa.out ?_
  refine po 6 aa.out ?_
  refine pu 7 aa.out ?_
  refine pu 8 aa.out ?_
  refine po 9 aa.out ?_
  refine po 10 aa.out ?_
  refine po 11 aa.out ?_
  refine po 12 aa.out ?_
  refine po 13 aa.out ?_
  refine po 14 aa.out ?_
  refine po 15 aa.out ?_
  refine pu 16 aa.out ?_
  refine pu 17 aa.out ?_
  refine dn aa.out ?_
  try go_wp2
  go_ret
  exact ⟨rg, bl⟩
end
section
attribute [local go_sem] bq bn bI bH aW aV bp bj
def cC.l0 : Nat → Int → Int → Int → Option (Int)
 | 0, _, _, _ => none
 | k + 1, x0, x3, x4 => if x4 < x0 then (cC.l0 k x0 (wrap64 (2 * x3)) (wrap64 (x4 + 1))) else (some x3)
def cC.f (k : Nat) (a0 : Int) : Option (Int) := cC.l0 k a0 1 0
set_option maxHeartbeats 8000000 in
set_option maxRecDepth 100000 in
theorem cC.calls (k : Nat) (a0 : Int) (r : Int) (w : World) (h : cC.f k a0 = some r) :
  Calls Tryz.prog 80 #[.int .i64 a0] w fun e w' => e = .returned (.int .i64 r) ∧ Drawn0 w w' := by
 have H : (cC.l0 k a0 1 0) = some r := h
 clear h
 have H' := ak H; clear H
 go_enter Tryz.func80, Tryz.ntmps80
 go_wp2
 go_loopg [3, 4] k (fun kq v3 v4 w' => ∃ (bK : Int) (df : Int), v3 = .int .i64 bK ∧ v4 = .int .i64 df ∧ Aside0 (cC.l0 kq a0 bK df = some r) ∧ Aside0 (kq ≤ k) ∧ Drawn0 w w')
 case atStart => exact ⟨(1), (0), rf, rf, H', ⟨Nat.le_refl _⟩, dl⟩
 case round =>
  clear H'
  obtain ⟨bK, df, rfl, rfl, HA, ee, ⟨m1, rfl⟩⟩ := hrel
  cases gk with
  | zero => exact absurd HA.out (by simp [cC.l0])
  | succ k1 =>
   have H := HA.out
   clear HA
   simp only [cC.l0] at H
   by_cases c2 : df < a0
   ·rw [if_pos c2] at H
    have ig := decide_eq_true c2
    clear c2
    have H' := ak H; clear H
    go_wp2
    go_roundg k1
    case measure => have := ee.out; omega
    case rel => exact ⟨(wrap64 (2 * bK)), (wrap64 (df + 1)), rf, rf, H', ⟨by have := ee.out; omega⟩, dl⟩
   ·rw [if_neg c2] at H
    have ig := decide_eq_false c2
    clear c2
    obtain rfl := Option.some.inj H
    go_wp2
    go_ret
    exact ⟨rf, dl⟩
end
end Go.Proofs.YtndddnglapkplaaGreatDoor.V
