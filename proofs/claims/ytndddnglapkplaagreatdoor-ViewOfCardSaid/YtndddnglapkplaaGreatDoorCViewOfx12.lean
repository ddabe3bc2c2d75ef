/- The law ViewOf for every input: texts of ours, put together (part 13 of 17). No further condition. -/
import Derived.Test.YtndddnglapkplaaGreatDoorCViewOfx2
import Derived.Test.YtndddnglapkplaaGreatDoorCViewOfx5
import Derived.Test.YtndddnglapkplaaGreatDoorCViewOfx6
import Derived.Test.YtndddnglapkplaaGreatDoorCViewOfx10
import Derived.Test.YtndddnglapkplaaGreatDoorCViewOfx11
import Derived.WideMake
import Derived.Outline
import Derived.Test.YtndddnglapkplaaGreatDoorCViewOfx8
import Derived.Test.YtndddnglapkplaaGreatDoorCViewOfx9
import Derived.Test.YtndddnglapkplaaGreatDoorCViewOfw1
import Derived.Test.YtndddnglapkplaaGreatDoorCViewOfx3
import Derived.Test.YtndddnglapkplaaGreatDoorCViewOfx7
set_option linter.unusedVariables false
set_option linter.unusedSimpArgs false
set_option linter.unusedSectionVars false
open Go.RowKit Go.Proofs.YtndddnglapkplaaGreatDoorW.PrintWords Go.Proofs.YtndddnglapkplaaGreatDoorW.PrintLast Go.Proofs.YtndddnglapkplaaGreatDoorW.PrintMore Go.Proofs.YtndddnglapkplaaGreatDoor.Z
namespace Go.Proofs.YtndddnglapkplaaGreatDoor.V
section
structure Tch (base : Nat) (ok : Nat → Prop) (w w' : World) : Prop where
 os : w'.os = w.os
 tape : w'.tape = w.tape
 output : w'.output = w.output
 size : w.heap.size ≤ w'.heap.size
 block : ∀ k, k < w.heap.size → (k < base ∨ ¬ ok k) → w'.heap[k]? = w.heap[k]?
section
variable {base : Nat} {ok zy : Nat → Prop} {w w1 w2 : World}
theorem Tch.of_below (h : Below w.heap.size w w1) : Tch base ok w w1 := ⟨h.os, h.tape, h.output, h.size, fun k hk _ => h.block k hk⟩
theorem Tch.of_grown {r : Option Nat} (h : w.grownBy w1 r) (hr : ∀ k, r = some k → base ≤ k ∧ ok k) : Tch base ok w w1 := ⟨h.os, h.tape, h.output, h.size, fun k hk hn => h.block k hk (fun e => by
 have := hr k e.symm
 rcases hn with hn | hn
 ·omega
 ·exact hn this.2)⟩
theorem Tch.trans (h : Tch base ok w w1) (h2 : Tch base ok w1 w2) : Tch base ok w w2 := ⟨h2.os.trans h.os, h2.tape.trans h.tape, h2.output.trans h.output, Nat.le_trans h.size h2.size, fun k hk hn => (h2.block k (Nat.lt_of_lt_of_le hk h.size) hn).trans (h.block k hk hn)⟩
theorem Tch.toBelow (h : Tch base ok w w1) (hb : base ≤ w.heap.size) : Below base w w1 := ⟨h.os, h.tape, h.output, h.size, fun k hk => h.block k (by omega) (.inl hk)⟩
theorem bC.tch {g t : Nat} {cs : List Value} (h : bC w g cs t) (ht : Tch base ok w w1) (hn : ¬ ok g) : bC w1 g cs t := (ht.block g h.lt (.inr hn)).trans h
end
def DU (W : World) (v : Value) (l : List Cn) : Prop := ∃ A c, v = .agg #[.slice A l.length c] ∧ l.length ≤ c ∧ Kd.C sx W A l.length l
structure VS where
 pools : List S69
 bcs : List (List Value × Bk)
 affs : List ((ByteArray × Int) × Int)
 hcs : List (ByteArray × Value × List Cn)
 nodes : List (ByteArray × Bool)
def VS.am (V : VS) : List ((ByteArray × Int) × Value) := V.affs.map fun p => (p.1, .int .i64 p.2)
def VS.hm (V : VS) : List (ByteArray × Value) := V.hcs.map fun p => (p.1, p.2.1)
def VS.nm (V : VS) : List (ByteArray × Value) := V.nodes.map fun p => (p.1, .bool p.2)
def VS.inner (V : VS) (W : World) : Prop := (∀ p ∈ V.bcs, sm W (.agg p.1.toArray) p.2) ∧ (∀ p ∈ V.hcs, DU W p.2.1 p.2.2)
def VS.addPool (V : VS) (val : ByteArray) : VS := { V with pools := V.pools ++ [⟨⟨((az (r1 val).1 : Nat) : Int), ((az (q2 val).1 : Nat) : Int)⟩, decide (az (q3 val).1 = 1)⟩] }
def VS.addBlk (V : VS) (cs : List Value) (b : Bk) : VS := { V with bcs := V.bcs ++ [(cs, b)] }
structure VwC (W : World) (gv base : Nat) (ok : Nat → Prop) (V : VS) (vp vb : Value) (m1 m2 m3 : Nat) (fp : Nat → Prop) : Prop where
 box : bC W gv (sE vp vb (.map (some m1)) (.map (some m2)) (.map (some m3))) 30
 pr : Kd.R Bg 69 W base (fun k => ok k ∧ ¬ fp k) vp V.pools
 br : Kd.R (Kd.raw 68) 64 W base (fun k => ok k ∧ ¬ fp k) vb (V.bcs.map Prod.fst)
 am : eR sA W m1 V.am
 hm : eR Value.string W m2 V.hm
 nm : eR Value.string W m3 V.nm
 inn : dY V.inner W fp
 fb : ∀ k, fp k → k < W.heap.size ∧ base ≤ k ∧ ok k
 og : base ≤ gv ∧ ok gv ∧ ¬ fp gv
 o1 : base ≤ m1 ∧ ok m1 ∧ ¬ fp m1
 o2 : base ≤ m2 ∧ ok m2 ∧ ¬ fp m2
 o3 : base ≤ m3 ∧ ok m3 ∧ ¬ fp m3
 n12 : m1 ≠ m2
 n13 : m1 ≠ m3
 n23 : m2 ≠ m3
def Vw (W : World) (gv base : Nat) (ok : Nat → Prop) (V : VS) : Prop := ∃ vp vb m1 m2 m3 fp, VwC W gv base ok V vp vb m1 m2 m3 fp
section
variable {W W1 : World} {gv base : Nat} {ok zy : Nat → Prop} {V : VS} {vp vb : Value} {m1 m2 m3 : Nat} {fp : Nat → Prop}
theorem VwC.move (h : VwC W gv base ok V vp vb m1 m2 m3 fp) (hs : W.heap.size ≤ W1.heap.size) (hk : ∀ k, base ≤ k → ok k → k < W.heap.size → W1.heap[k]? = W.heap[k]?) (ho : ∀ k, base ≤ k → ok k → k < W.heap.size → zy k) : VwC W1 gv base zy V vp vb m1 m2 m3 fp where
 box := (hk gv h.og.1 h.og.2.1 h.box.lt).trans h.box
 pr := Kd.R_mono (Kd.R_move (Kd.R_bound h.pr) (fun k hk' => hk k hk'.2.1 hk'.1.1 hk'.2.2.1)) (fun k hk' => ⟨ho k hk'.2.1 hk'.1.1 hk'.2.2.1, hk'.1.2⟩)
 br := Kd.R_mono (Kd.R_move (Kd.R_bound h.br) (fun k hk' => hk k hk'.2.1 hk'.1.1 hk'.2.2.1)) (fun k hk' => ⟨ho k hk'.2.1 hk'.1.1 hk'.2.2.1, hk'.1.2⟩)
 am := h.am.kept (hk m1 h.o1.1 h.o1.2.1 h.am.lt)
 hm := h.hm.kept (hk m2 h.o2.1 h.o2.2.1 h.hm.lt)
 nm := h.nm.kept (hk m3 h.o3.1 h.o3.2.1 h.nm.lt)
 inn := dY.step h.inn (fun k hf hl => hk k (h.fb k hf).2.1 (h.fb k hf).2.2 hl)
 fb := fun k hf => ⟨Nat.lt_of_lt_of_le (h.fb k hf).1 hs, (h.fb k hf).2.1, ho k (h.fb k hf).2.1 (h.fb k hf).2.2 (h.fb k hf).1⟩
 og := ⟨h.og.1, ho gv h.og.1 h.og.2.1 h.box.lt, h.og.2.2⟩
 o1 := ⟨h.o1.1, ho m1 h.o1.1 h.o1.2.1 h.am.lt, h.o1.2.2⟩
 o2 := ⟨h.o2.1, ho m2 h.o2.1 h.o2.2.1 h.hm.lt, h.o2.2.2⟩
 o3 := ⟨h.o3.1, ho m3 h.o3.1 h.o3.2.1 h.nm.lt, h.o3.2.2⟩
 n12 := h.n12
 n13 := h.n13
 n23 := h.n23
theorem VwC.below (h : VwC W gv base ok V vp vb m1 m2 m3 fp) (hb : Below W.heap.size W W1) : VwC W1 gv base ok V vp vb m1 m2 m3 fp := h.move hb.size (fun k _ _ hl => hb.block k hl) (fun _ _ h _ => h)
theorem VwC.grown (h : VwC W gv base ok V vp vb m1 m2 m3 fp) {r : Option Nat} (hg : W.grownBy W1 r) (hr : ∀ k, r = some k → k < base ∨ ¬ ok k) : VwC W1 gv base ok V vp vb m1 m2 m3 fp := h.move hg.size (fun k hb ho hl => hg.block k hl (fun e => by
 rcases hr k e.symm with h1 | h1
 ·omega
 ·exact h1 ho)) (fun _ _ h _ => h)
theorem wa {α : Type} {d : Kd α} {e b1 g t : Nat} {o1 : Nat → Prop} {v : Value} {xs : List α} (h : d.R e W b1 o1 v xs) {cs : Array Value} (hb : W.heap[g]? = some (.cells cs t (0, 0))) (ht : e ≠ t) : some g ≠ v.ownBlock := Kd.R_ne h hb ht
theorem ky {α κ : Type} [DecidableEq κ] {enc : κ → Value} {l : List (κ × Value)} {d : Kd α} {e b1 g : Nat} {o1 : Nat → Prop} {v : Value} {xs : List α} (h : d.R e W b1 o1 v xs) (hm : eR enc W g l) : some g ≠ v.ownBlock := fun he => by
 obtain ⟨inner, ho⟩ := Kd.R_own h
 obtain ⟨cells, hc⟩ := uO ho g he.symm
 exact hm.ne_row hc rfl
theorem VwC.pool (h : VwC W gv base ok V vp vb m1 m2 m3 fp) {p : S69} {v1 : Value} (hg : W.grownBy W1 vp.ownBlock) (hr : Kd.R Bg 69 W1 base (fun k => ok k ∧ ¬ fp k) v1 (V.pools ++ [p])) :
  VwC (W1.setCell ⟨gv, 0, none⟩ v1) gv base ok { V with pools := V.pools ++ [p] } v1 vb m1 m2 m3 fp ∧ Tch base ok W (W1.setCell ⟨gv, 0, none⟩ v1) := by
 have hgv : some gv ≠ vp.ownBlock := wa h.pr h.box (by decide)
 have eD := h.box.grown hg hgv
 have hgS := b8 W1 gv 0 v1
 have hb : ∀ {α β : Type} {d : Kd β} {t : Nat} {o : Nat → Prop} {v : Value} {xs : List β}, d.R t W1 base o v xs → t ≠ 30 → (∀ q, q ∈ d.E → q ≠ 30) → d.R t (W1.setCell ⟨gv, 0, none⟩ v1) base o v xs := fun {_ _ _ _ _ _ _} hr h1 h2 => bS hr eD (fun q hq => by
  rcases List.mem_cons.1 hq with rfl | hq
  ·exact h1
  ·exact h2 q hq) hgS
 refine ⟨⟨eD.set 0 _, hb (α := Unit) hr (by decide) (by decide), hb (α := Unit) ?_ (by decide) (by decide), ?_, ?_, ?_, ?_, ?_, h.og, h.o1, h.o2, h.o3, h.n12, h.n13, h.n23⟩, ?_⟩
 ·have hbd := Kd.R_bound h.br
  refine Kd.R_mono (Kd.R_grown hbd hg (fun k hk e => ?_)) (fun k hk => hk.1)
  obtain ⟨q, hq, cells, hc⟩ := hk.2.2.2
  refine absurd e (Kd.R_ne h.pr hc (fun e2 => ?_))
  rw [← e2] at hq
  revert hq
  decide
 ·exact (h.am.grown hg (ky h.pr h.am)).grown hgS (fun e => (h.am.grown hg (ky h.pr h.am)).ne_row eD (Option.some.inj e))
 ·exact (h.hm.grown hg (ky h.pr h.hm)).grown hgS (fun e => (h.hm.grown hg (ky h.pr h.hm)).ne_row eD (Option.some.inj e))
 ·exact (h.nm.grown hg (ky h.pr h.nm)).grown hgS (fun e => (h.nm.grown hg (ky h.pr h.nm)).ne_row eD (Option.some.inj e))
 ·refine dY.step h.inn (fun k hf hl => ?_)
  rw [hgS.block k (by have := hg.size; omega) (fun e => h.og.2.2 (Option.some.inj e ▸ hf)), hg.block k hl (fun e => (h.pr.1 k e.symm).2 hf)]
 ·exact fun k hf => ⟨Nat.lt_of_lt_of_le (h.fb k hf).1 (Nat.le_trans hg.size hgS.size), (h.fb k hf).2⟩
 ·refine (Tch.of_grown hg (fun k hk => ⟨Kd.R_base h.pr k hk, (h.pr.1 k hk).1⟩)).trans (Tch.of_grown hgS (fun k hk => ?_))
  cases hk
  exact ⟨h.og.1, h.og.2.1⟩
theorem VwC.widen (h : VwC W gv base ok V vp vb m1 m2 m3 fp) (hb : Below W.heap.size W W1) (hf : ∀ k, W.heap.size ≤ k → ok k) (hw : base ≤ W.heap.size) : VwC W1 gv base ok V vp vb m1 m2 m3 (fun k => fp k ∨ (W.heap.size ≤ k ∧ k < W1.heap.size)) where
 box := h.box.below hb
 pr := Kd.R_mono (Kd.R_move (Kd.R_bound h.pr) (fun k hk => hb.block k hk.2.2.1)) (fun k hk => ⟨hk.1.1, fun e => by
  rcases e with e | e
  ·exact hk.1.2 e
  ·have := hk.2.2.1; omega⟩)
 br := Kd.R_mono (Kd.R_move (Kd.R_bound h.br) (fun k hk => hb.block k hk.2.2.1)) (fun k hk => ⟨hk.1.1, fun e => by
  rcases e with e | e
  ·exact hk.1.2 e
  ·have := hk.2.2.1; omega⟩)
 am := h.am.below hb
 hm := h.hm.below hb
 nm := h.nm.below hb
 inn := dY.mono (dY.step h.inn (fun k _ hl => hb.block k hl)) (fun _ hk => .inl hk)
 fb := fun k hk => by
  rcases hk with hk | hk
  ·exact ⟨Nat.lt_of_lt_of_le (h.fb k hk).1 hb.size, (h.fb k hk).2⟩
  ·exact ⟨hk.2, by omega, hf k hk.1⟩
 og := ⟨h.og.1, h.og.2.1, fun e => e.elim h.og.2.2 (fun e => by have := h.box.lt; omega)⟩
 o1 := ⟨h.o1.1, h.o1.2.1, fun e => e.elim h.o1.2.2 (fun e => by have := h.am.lt; omega)⟩
 o2 := ⟨h.o2.1, h.o2.2.1, fun e => e.elim h.o2.2.2 (fun e => by have := h.hm.lt; omega)⟩
 o3 := ⟨h.o3.1, h.o3.2.1, fun e => e.elim h.o3.2.2 (fun e => by have := h.nm.lt; omega)⟩
 n12 := h.n12
 n13 := h.n13
 n23 := h.n23
theorem VwC.blk (h : VwC W gv base ok V vp vb m1 m2 m3 fp) {cs : List Value} {b : Bk} (hn : dY (fun w => sm w (.agg cs.toArray) b) W fp) {v1 : Value} (hg : W.grownBy W1 vb.ownBlock) (hr : Kd.R (Kd.raw 68) 64 W1 base (fun k => ok k ∧ ¬ fp k) v1 (V.bcs.map Prod.fst ++ [cs])) :
  VwC (W1.setCell ⟨gv, 1, none⟩ v1) gv base ok { V with bcs := V.bcs ++ [(cs, b)] } vp v1 m1 m2 m3 fp ∧ Tch base ok W (W1.setCell ⟨gv, 1, none⟩ v1) := by
 have hgv : some gv ≠ vb.ownBlock := wa h.br h.box (by decide)
 have eD := h.box.grown hg hgv
 have hgS := b8 W1 gv 1 v1
 have hb : ∀ {α β : Type} {d : Kd β} {t : Nat} {o : Nat → Prop} {v : Value} {xs : List β}, d.R t W1 base o v xs → t ≠ 30 → (∀ q, q ∈ d.E → q ≠ 30) → d.R t (W1.setCell ⟨gv, 1, none⟩ v1) base o v xs := fun {_ _ _ _ _ _ _} hr h1 h2 => bS hr eD (fun q hq => by
  rcases List.mem_cons.1 hq with rfl | hq
  ·exact h1
  ·exact h2 q hq) hgS
 refine ⟨⟨eD.set 1 _, hb (α := Unit) ?_ (by decide) (by decide), by rw [List.map_append]; exact hb (α := Unit) hr (by decide) (by decide), ?_, ?_, ?_, ?_, ?_, h.og, h.o1, h.o2, h.o3, h.n12, h.n13, h.n23⟩, ?_⟩
 ·have hbd := Kd.R_bound h.pr
  refine Kd.R_mono (Kd.R_grown hbd hg (fun k hk e => ?_)) (fun k hk => hk.1)
  obtain ⟨q, hq, cells, hc⟩ := hk.2.2.2
  refine absurd e (Kd.R_ne h.br hc (fun e2 => ?_))
  rw [← e2] at hq
  revert hq
  decide
 ·exact (h.am.grown hg (ky h.br h.am)).grown hgS (fun e => (h.am.grown hg (ky h.br h.am)).ne_row eD (Option.some.inj e))
 ·exact (h.hm.grown hg (ky h.br h.hm)).grown hgS (fun e => (h.hm.grown hg (ky h.br h.hm)).ne_row eD (Option.some.inj e))
 ·exact (h.nm.grown hg (ky h.br h.nm)).grown hgS (fun e => (h.nm.grown hg (ky h.br h.nm)).ne_row eD (Option.some.inj e))
 ·have hst : ∀ k, fp k → k < W.heap.size → (W1.setCell ⟨gv, 1, none⟩ v1).heap[k]? = W.heap[k]? := fun k hf hl => by
   rw [hgS.block k (by have := hg.size; omega) (fun e => h.og.2.2 (Option.some.inj e ▸ hf)), hg.block k hl (fun e => (h.br.1 k e.symm).2 hf)]
  have h1 := dY.step h.inn hst
  have h2 := dY.step hn hst
  intro W' hW'
  refine ⟨fun p hp => ?_, (h1 W' hW').2⟩
  rcases List.mem_append.1 hp with hp | hp
  ·exact (h1 W' hW').1 p hp
  ·rw [List.mem_singleton] at hp
   subst hp
   exact h2 W' hW'
 ·exact fun k hf => ⟨Nat.lt_of_lt_of_le (h.fb k hf).1 (Nat.le_trans hg.size hgS.size), (h.fb k hf).2⟩
 ·refine (Tch.of_grown hg (fun k hk => ⟨Kd.R_base h.br k hk, (h.br.1 k hk).1⟩)).trans (Tch.of_grown hgS (fun k hk => ?_))
  cases hk
  exact ⟨h.og.1, h.og.2.1⟩
theorem VwC.maps (h : VwC W gv base ok V vp vb m1 m2 m3 fp) (V2 : VS) (hp : V2.pools = V.pools) (hb : V2.bcs = V.bcs) {m : Nat} (hm : m = m1 ∨ m = m2 ∨ m = m3) (hg : W.grownBy W1 (some m)) (h1 : eR sA W1 m1 V2.am) (h2 : eR Value.string W1 m2 V2.hm) (h3 : eR Value.string W1 m3 V2.nm) (hi : dY (fun w => ∀ p ∈ V2.hcs, DU w p.2.1 p.2.2) W fp) :
  VwC W1 gv base ok V2 vp vb m1 m2 m3 fp ∧ Tch base ok W W1 := by
 have hmo : base ≤ m ∧ ok m ∧ ¬ fp m := by
  rcases hm with rfl | rfl | rfl
  ·exact h.o1
  ·exact h.o2
  ·exact h.o3
 have hob : ∃ a c, W.heap[m]? = some (.map a c) := by
  rcases hm with rfl | rfl | rfl
  ·obtain ⟨a, c, e, _⟩ := h.am; exact ⟨a, c, e⟩
  ·obtain ⟨a, c, e, _⟩ := h.hm; exact ⟨a, c, e⟩
  ·obtain ⟨a, c, e, _⟩ := h.nm; exact ⟨a, c, e⟩
 obtain ⟨a, c, hmm⟩ := hob
 have hne : ∀ k cells q, W.heap[k]? = some (.cells cells q (0, 0)) → some k ≠ some m := fun k cells q hc e => by
  cases e
  rw [hmm] at hc
  cases hc
 have hst : ∀ k, fp k → k < W.heap.size → W1.heap[k]? = W.heap[k]? := fun k hf hl => hg.block k hl (fun e => by cases e; exact hmo.2.2 hf)
 have i1 := dY.step h.inn hst
 have i2 := dY.step hi hst
 exact ⟨⟨h.box.grown hg (hne _ _ _ h.box), by rw [hp]; exact Kd.R_mono (Kd.R_grown (Kd.R_bound h.pr) hg (fun k hk => by obtain ⟨q, hq, cells, hc⟩ := hk.2.2.2; exact hne _ _ _ hc)) (fun k hk => hk.1),
  by rw [hb]; exact Kd.R_mono (Kd.R_grown (Kd.R_bound h.br) hg (fun k hk => by obtain ⟨q, hq, cells, hc⟩ := hk.2.2.2; exact hne _ _ _ hc)) (fun k hk => hk.1), h1, h2, h3,
  fun W' hW' => ⟨by rw [hb]; exact (i1 W' hW').1, i2 W' hW'⟩, fun k hf => ⟨Nat.lt_of_lt_of_le (h.fb k hf).1 hg.size, (h.fb k hf).2⟩, h.og, h.o1, h.o2, h.o3, h.n12, h.n13, h.n23⟩,
  Tch.of_grown hg (fun k hk => by cases hk; exact ⟨hmo.1, hmo.2.1⟩)⟩
theorem zY {κ : Type} [DecidableEq κ] {l : List (κ × Value)} {k : κ} (h : ∀ p ∈ l, k ≠ p.1) (v : Value) : pW l k v = l ++ [(k, v)] := by
 unfold pW
 rw [xm h]
end
end
section
section
variable {P : Program} {ops : Array Oper} {rest : List Oper} {o : Oper} {a : Act} {w : World} {Q : Exit → Act → World → Prop}
theorem o0 (hgd : o.guard = none) {v : Value} {w1 : World} (hrun : (execOp a.eval o).run P w = .ok (.value v) w1) (h : wpList P ops Q rest (a.put o.dst v) w1) : wpList P ops Q (o :: rest) a w := by
 refine wpList_plain hgd fun K hK => ?_
 unfold Oper.wp
 rw [hrun]
 exact hK _ _ h
theorem Hx (hgd : o.guard = none) {w1 : World} (hrun : (execOp a.eval o).run P w = .ok .skip w1) (h : wpList P ops Q rest (a.put o.dst undef) w1) : wpList P ops Q (o :: rest) a w := by
 refine wpList_plain hgd fun K hK => ?_
 unfold Oper.wp
 rw [hrun]
 exact hK _ _ h
theorem mZ (hgd : o.guard = none) (ty : TypeId) (ho : o.op = .makeMap ty none)
  (h : ∀ g W1, w.heap.size ≤ g → W1.heap[g]? = some (.map #[] 0) → Below w.heap.size w W1 → wpList P ops Q rest (a.put o.dst (.map (some g))) W1) : wpList P ops Q (o :: rest) a w := by
 refine o0 hgd (v := .map (some w.heap.size)) (w1 := w.alloc (.map #[] 0)) ?_ (h _ _ (Nat.le_refl _) (heap_alloc_new w _) (cO (Below.refl _ _) _))
 unfold execOp
 simp only [ho, Option.map_none, Sem.run_bind, run_makeMap, Result.andThen_ok, Sem.run_pure]
theorem mE (hgd : o.guard = none) (ty : TypeId) (x y : Operand) (ho : o.op = .lookup ty x y false) (m k : Value) (hx : a.eval x = m) (hy : a.eval y = k) {v : Value} (hl : (Instr.lookup ty m k false).run P w = .ok v w)
  (h : wpList P ops Q rest (a.put o.dst v) w) : wpList P ops Q (o :: rest) a w := by
 refine o0 hgd (v := v) (w1 := w) ?_ h
 unfold execOp
 simp only [ho, hx, hy, Sem.run_bind, hl, Result.andThen_ok, Sem.run_pure]
theorem lg (hgd : o.guard = none) (ty : TypeId) (x y z : Operand) (ho : o.op = .mapUpdate ty x y z) (m k u : Value) (hx : a.eval x = m) (hy : a.eval y = k) (hz : a.eval z = u) {w1 : World} (hl : (Instr.mapUpdate ty m k u).run P w = .ok () w1)
  (h : wpList P ops Q rest (a.put o.dst undef) w1) : wpList P ops Q (o :: rest) a w := by
 refine Hx hgd (w1 := w1) ?_ h
 unfold execOp
 simp only [ho, hx, hy, hz, Sem.run_bind, hl, Result.andThen_ok, Sem.run_pure]
end
def vH.T5 : Bool × List (List Nat × List Nat) := (true, [([], []), ([], []), ([1], [1]), ([2], [2]), ([3], [3]), ([], []), ([5], [5]), ([4, 6], [4, 6]), ([0, 0, 1, 2, 3, 4, 5, 6, 7], [0]), ([8, 0, 1, 2, 3, 4, 5, 6, 7], [8]), ([9, 7, 7, 0, 1, 2, 3, 4, 5, 6, 7], [7, 9])])
def vH.B5 : List Nat := [0, 0, 2, 6, 14, 0, 32, 126, 255, 511, 1023]
theorem vH.tab5 : dA .any (opsOf Tryz.f29 5) = vH.T5 := by kernel_rfl
theorem vH.bits5 : dy vH.T5.2 vH.B5 = true := by kernel_rfl
end
section
def oD (is : Bool) (V1 V : VS) (w : World) (gv base : Nat) (ok : Nat → Prop) (e : Ending) (w' : World) : Prop := e = .returned (.bool is) ∧ Vw w' gv base ok (bif is then V1 else V) ∧ Tch base ok w w'
def oW.T5 : Bool × List (List Nat × List Nat) := (true, [([], []), ([], []), ([1], [1]), ([2], [2]), ([3], [3]), ([], []), ([5], [5]), ([4, 6], [4, 6]), ([0, 0, 1, 2, 3, 4, 5, 6, 7], [0]), ([8, 0, 1, 2, 3, 4, 5, 6, 7], [8]), ([9, 7, 7, 0, 1, 2, 3, 4, 5, 6, 7], [7, 9])])
def oW.B5 : List Nat := [0, 0, 2, 6, 14, 0, 32, 126, 255, 511, 1023]
theorem oW.tab5 : dA .any (opsOf Tryz.f29 5) = oW.T5 := by kernel_rfl
theorem oW.bits5 : dy oW.T5.2 oW.B5 = true := by kernel_rfl
set_option maxHeartbeats 8000000 in
set_option maxRecDepth 100000 in
theorem QK (key val : ByteArray) (hk : key.size ≤ 1000) (hv : val.size ≤ 1000000) (rev : Int) (gv base : Nat) (ok : Nat → Prop) (V : VS) (w : World) (h : Vw w gv base ok V) (hf : ∀ k, w.heap.size ≤ k → ok k) (hw : base ≤ w.heap.size) (hl : V.pools.length ≤ 1000) :
  Calls Tryz.prog 29 #[.pointer (some ⟨gv, 0, none⟩), tJ key val rev] w (oD (eT key val) (V.addPool val) V w gv base ok) := by
 obtain ⟨vp, vb, m1, m2, m3, fp, hc⟩ := h
 obtain ⟨x, hx⟩ : ∃ x, oP key = x := ⟨_, rfl⟩
 have hO := Zi key hk
 have hI : eT key val = (x.2.2 && (ez val && (((if ez val = true then ((az (r1 val).1 : Nat) : Int) else 0) == x.1) && ((if ez val = true then ((az (q2 val).1 : Nat) : Int) else 0) == x.2.1)))) := by unfold eT; rw [hx]
 rw [hx] at hO
 obtain ⟨x1, x2, bo⟩ := x
 dsimp only at hI
 have hR := EH val hv
 have hA : ez val = true → V.addPool val = { V with pools := V.pools ++ [⟨⟨(if ez val = true then ((az (r1 val).1 : Nat) : Int) else 0), (if ez val = true then ((az (q2 val).1 : Nat) : Int) else 0)⟩, (ez val && decide (az (q3 val).1 = 1))⟩] } := fun h => by rw [h, if_pos rfl, if_pos rfl]; rfl
 generalize (if ez val = true then ((az (r1 val).1 : Nat) : Int) else 0) = y1 at hR hI hA
 generalize (if ez val = true then ((az (q2 val).1 : Nat) : Int) else 0) = y2 at hR hI hA
 generalize (ez val && decide (az (q3 val).1 = 1)) = y3 at hR hA
 generalize eT key val = is at hI ⊢
 generalize ez val = pk at hR hI hA
 obtain ⟨er, hre⟩ : ∃ er : Int, er = (if pk = true then 0 else 3) := ⟨_, rfl⟩
 rw [← hre] at hR
 obtain ⟨be, hbe⟩ : ∃ be, (er != 0) = be := ⟨_, rfl⟩
 obtain rfl : pk = !be := by rw [← hbe, hre]; cases pk <;> rfl
 clear hre
 obtain ⟨e1, DH⟩ : ∃ b, (y1 == x1) = b := ⟨_, rfl⟩
 obtain ⟨e2, Uq⟩ : ∃ b, (y2 == x2) = b := ⟨_, rfl⟩
 rw [DH, Uq] at hI
 have hcs : (bo = true ∧ be = false ∧ e1 = true ∧ e2 = true ∧ is = true) ∨ (is = false ∧ (bo = false ∨ (bo = true ∧ be = true) ∨ (bo = true ∧ be = false ∧ e1 = false) ∨ (bo = true ∧ be = false ∧ e1 = true ∧ e2 = false))) := by
  rw [hI]
  cases bo <;> cases be <;> cases e1 <;> cases e2 <;> simp
 have HO := ak hO
 have HV := ak hc
 have HRR := ak hR
 have HA := ak hA
 have HF := ak hf
 have HW := ak hw
 have HL := ak hl
 clear hI hx hO hR hc hA hf hw hl
 unfold tJ
 rcases hcs with ⟨rfl, rfl, rfl, rfl, rfl⟩ | ⟨rfl, hcs⟩
 ·obtain ⟨Ap, cp, hvp⟩ := Kd.R_slice HV.out.pr
  have HNO := ak (fun k hk => ((Kd.R_bound HV.out.pr).1 k hk).2.2.1)
  obtain ⟨PS, hPS⟩ : ∃ PS, PS = V.pools ++ [⟨⟨y1, y2⟩, y3⟩] := ⟨_, rfl⟩
  have HPS := ak hPS
  clear hPS
  go_enter Tryz.func29, Tryz.ntmps29
  go_wp2_with (first
   | (refine cH rfl 58 (.tmp 1) rfl _ rfl ?_; intro g W1 hg hbx aw; have HB := ak aw; have HX := ak hbx; have en := hbx.cell 0 _ rfl; clear hg hbx aw)
   | (go_at_call 52; refine (lq.calls 4 key _ _ _ _ HO.out).mono ?_; rintro e W2 ⟨rfl, hb⟩; replace HX := ak (HX.out.below hb); replace HB := ak (HB.out.trans (hb.mono HB.out.size)); clear hb en)
   | (refine aE (some 5) rfl rfl 67 rfl [.int .u32 0, .int .i64 0] (fun _ => by kernel_rfl) ?_; intro g5 W3 dH j8 hb; have HY := ak j8; have mT := ak (Nat.le_trans HB.out.size dH); have HNE := ak (show g ≠ g5 by have := HX.out.lt; omega); replace HX := ak (HX.out.below hb); replace HB := ak (HB.out.trans (hb.mono HB.out.size)); clear hb j8 dH)
   | (refine ay rfl 67 (.tmp 5) (.tmp 13) rfl g5 [.int .u32 x1, .int .i64 x2] rfl rfl 67 _ HY.out 2 (by kernel_rfl) rfl rfl (by intro u hu; simp at hu; rcases hu with rfl | rfl <;> rfl) ?_; intro W4 Mg cQ; replace HX := ak (HX.out.grown cQ (fun e => HNE.out (Option.some.inj e))); replace HB := ak (HB.out.grown cQ HB.out.size (by intro k hk; cases hk; exact mT.out)); replace HY := ak Mg; have iv := HX.out.cell 1 _ rfl; clear Mg cQ)
   | (go_at_call 53; refine (HRR.out _).mono ?_; rintro e W5 ⟨rfl, hb⟩; replace HY := ak (HY.out.below hb); replace HB := ak (HB.out.trans (hb.mono HB.out.size)); clear hb iv)
   | (refine aE (some 7) rfl rfl 69 rfl uN (fun _ => by kernel_rfl) ?_; intro g7 W6 dq gK hb; have HZ := ak gK; have iP := ak (Nat.le_trans HB.out.size dq); have O3 := ak (show g5 ≠ g7 by have := HY.out.lt; omega); replace HY := ak (HY.out.below hb); replace HB := ak (HB.out.trans (hb.mono HB.out.size)); clear hb gK dq)
   | (refine ay rfl 69 (.tmp 7) (.tmp 19) rfl g7 [.int .u32 y1, .int .i64 y2, .bool y3] rfl rfl 69 _ HZ.out 3 (by kernel_rfl) rfl rfl (by intro u hu; simp at hu; rcases hu with rfl | rfl | rfl <;> rfl) ?_; intro W7 Mc dq; replace HY := ak (HY.out.grown dq (fun e => O3.out (Option.some.inj e))); replace HB := ak (HB.out.grown dq HB.out.size (by intro k hk; cases hk; exact iP.out)); replace HZ := ak Mc; clear Mc dq)
   | ((with_reducible refine af (N := 29) rfl ?_); refine bL (by rfl) ?_; refine kv rfl 67 (.tmp 28) rfl g7 0 rfl 69 _ [.int .u32 y1, .int .i64 y2] _ HZ.out (by intro j v hv; match j, hv with | 0, hv => exact hv | 1, hv => exact hv) Tryz.underlying67 rfl (by kernel_rfl) ?_)
   | ((with_reducible refine af (N := 30) rfl ?_); refine bL (by rfl) ?_; refine a7 rfl 67 (.tmp 5) rfl g5 rfl _ _ _ HY.out Tryz.underlying67 rfl 2 (by kernel_rfl) rfl ?_))
  have hbd : Below W7.heap.size W7 W7.drew := bu (Below.refl _ _)
  have qE := ak (bu HB.out)
  have lS := ak (HV.out.below qE.out)
  have xL := ak (HZ.out.below hbd)
  clear hbd HZ HB HV
  refine dV (n := 11) (S := fun w' => w'.cell? ⟨gv, 0, none⟩ = some vp ∧ bC w' g7 [.int .u32 y1, .int .i64 y2, .bool y3] 69) (ds := [10]) #[false, false, false, false, false, false, false, false, false, false, false] (by kernel_rfl) rfl rfl ⟨lS.out.box.cell 0 _ rfl, xL.out⟩ (fun hHeld => ?_); refine cz oW.tab5 oW.bits5 (fun aa bV => ?_)
  refine pu 0 aa.out ?_
  refine pu 1 aa.out ?_
  refine pu 2 aa.out ?_
  refine pu 3 aa.out ?_
  refine tk 4 aa.out bV.out hHeld ?_ (hv := by intro w' bx; obtain ⟨s0, s1⟩ := bx; rw [hvp] at s0; go_simp; with_reducible rfl)
  refine tk 5 aa.out bV.out hHeld ?_ (hv := by exact fun _ bx => iq 69 (.tmp 7) rfl g7 rfl _ _ _ bx.2 Tryz.underlying69 rfl (by kernel_rfl))
  refine on 6 aa.out (fun K hK => ?_)
  have zR := ak (xL.out.alloc (.cells [Value.int .u32 y1, .int .i64 y2, .bool y3].toArray 69))
  refine eJ (v := .slice (some ⟨W7.drew.heap.size, 0, none⟩) 1 1) (w1 := W7.drew.alloc (.cells [Value.int .u32 y1, .int .i64 y2, .bool y3].toArray 69)) (by rfl) ?_ ?_
  ·go_simp
   try rfl
  refine kn hK ⟨(lS.out.box.alloc _).cell 0 _ rfl, zR.out⟩ (fun hHeld => ?_)
  clear hK K
  refine on 7 aa.out (fun K hK => ?_)
  refine Kd.R_append_step Bg (w0 := W7.drew) base (by rfl) (.tmp 37) (.tmp 39) 24 69 (.agg #[.int .u32 0, .int .i64 0, .bool false]) 24 rfl Tryz.underlying24 TU rfl (by decide) (by omega) vp V.pools ⟨⟨y1, y2⟩, y3⟩ [.int .u32 y1, .int .i64 y2, .bool y3] (fun k => ok k ∧ ¬ fp k) (fun _ => False) hvp.symm rfl (Re _ _ _ _) (fun _ h => h.elim) (fun k hk => ⟨HF.out k (Nat.le_trans qE.out.size hk), fun e => by have := (lS.out.fb k e).1; omega⟩) lS.out.pr (Below.refl _ _) (lb HW qE) (by have := HL.out; omega) ?_
  intro v8 w8 gR fU dG lW
  have HQ := ak (lS.out.pool dG gR)
  have mu := ak (lS.out.box.grown dG (wa lS.out.pr lS.out.box (by decide)))
  have sj := ak (xL.out.grown dG (fun e => by have := HNO.out _ e.symm; have := iP.out; omega))
  rw [← HPS.out] at gR
  obtain ⟨A8, c8, rfl⟩ := Kd.R_slice gR
  clear gR fU dG lW
  refine kn hK ⟨mu.out.cell 0 _ rfl, sj.out⟩ (fun hHeld => ?_)
  clear hK K
  refine pu 8 aa.out ?_
  refine pu 9 aa.out ?_
  refine y8 (i := 10) (N := none) #[true, true, true, true, true, true, true, true, true, true, true] rfl rfl (rA aa.out (by kernel_rfl)) (by decide) (fun K hK => ?_)
  have xJ := mu.out.frozen 0; have iv := mu.out.cell 0 _ rfl
  refine uG (w1 := ?_) (by rfl) rfl ?_ ?_
  rotate_left
  ·go_simp
   rfl
  refine hK.out _ _ ?_
  clear hK K
  refine dn aa.out ?_
  go_wp2
  go_ret
  exact ⟨rfl, by rw [HA.out (by trivial)]; exact ⟨_, _, _, _, _, _, HQ.out.1⟩, (Tch.of_below qE.out).trans HQ.out.2⟩
 ·rcases hcs with rfl | ⟨rfl, rfl⟩ | ⟨rfl, rfl, rfl⟩ | ⟨rfl, rfl, rfl, rfl⟩
  all_goals
   go_enter Tryz.func29, Tryz.ntmps29
   go_wp2_with (first
    | (refine cH rfl 58 (.tmp 1) rfl _ rfl ?_; intro g W1 hg hbx aw; have HB := ak aw; have HX := ak hbx; have en := hbx.cell 0 _ rfl; clear hg hbx aw)
    | (go_at_call 52; refine (lq.calls 4 key _ _ _ _ HO.out).mono ?_; rintro e W2 ⟨rfl, hb⟩; replace HX := ak (HX.out.below hb); replace HB := ak (HB.out.trans (hb.mono HB.out.size)); clear hb en)
    | (refine aE (some 5) rfl rfl 67 rfl [.int .u32 0, .int .i64 0] (fun _ => by kernel_rfl) ?_; intro g5 W3 dH j8 hb; have HY := ak j8; have mT := ak (Nat.le_trans HB.out.size dH); have HNE := ak (show g ≠ g5 by have := HX.out.lt; omega); replace HX := ak (HX.out.below hb); replace HB := ak (HB.out.trans (hb.mono HB.out.size)); clear hb j8 dH)
    | (refine ay rfl 67 (.tmp 5) (.tmp 13) rfl g5 [.int .u32 x1, .int .i64 x2] rfl rfl 67 _ HY.out 2 (by kernel_rfl) rfl rfl (by intro u hu; simp at hu; rcases hu with rfl | rfl <;> rfl) ?_; intro W4 Mg cQ; replace HX := ak (HX.out.grown cQ (fun e => HNE.out (Option.some.inj e))); replace HB := ak (HB.out.grown cQ HB.out.size (by intro k hk; cases hk; exact mT.out)); replace HY := ak Mg; have iv := HX.out.cell 1 _ rfl; clear Mg cQ)
    | (go_at_call 53; refine (HRR.out _).mono ?_; rintro e W5 ⟨rfl, hb⟩; replace HY := ak (HY.out.below hb); replace HB := ak (HB.out.trans (hb.mono HB.out.size)); clear hb iv)
    | (refine aE (some 7) rfl rfl 69 rfl uN (fun _ => by kernel_rfl) ?_; intro g7 W6 dq gK hb; have HZ := ak gK; have iP := ak (Nat.le_trans HB.out.size dq); have O3 := ak (show g5 ≠ g7 by have := HY.out.lt; omega); replace HY := ak (HY.out.below hb); replace HB := ak (HB.out.trans (hb.mono HB.out.size)); clear hb gK dq)
    | (refine ay rfl 69 (.tmp 7) (.tmp 19) rfl g7 [.int .u32 y1, .int .i64 y2, .bool y3] rfl rfl 69 _ HZ.out 3 (by kernel_rfl) rfl rfl (by intro u hu; simp at hu; rcases hu with rfl | rfl | rfl <;> rfl) ?_; intro W7 Mc dq; replace HY := ak (HY.out.grown dq (fun e => O3.out (Option.some.inj e))); replace HB := ak (HB.out.grown dq HB.out.size (by intro k hk; cases hk; exact iP.out)); replace HZ := ak Mc; clear Mc dq)
    | ((with_reducible refine af (N := 29) rfl ?_); refine bL (by rfl) ?_; refine kv rfl 67 (.tmp 28) rfl g7 0 rfl 69 _ [.int .u32 y1, .int .i64 y2] _ HZ.out (by intro j v hv; match j, hv with | 0, hv => exact hv | 1, hv => exact hv) Tryz.underlying67 rfl (by kernel_rfl) ?_)
    | ((with_reducible refine af (N := 30) rfl ?_); refine bL (by rfl) ?_; refine a7 rfl 67 (.tmp 5) rfl g5 rfl _ _ _ HY.out Tryz.underlying67 rfl 2 (by kernel_rfl) rfl ?_))
   go_ret
   exact ⟨rfl, ⟨_, _, _, _, _, _, HV.out.below HB.out⟩, Tch.of_below HB.out⟩
def rp.T5 : Bool × List (List Nat × List Nat) := (true, [([], []), ([], []), ([1], [1]), ([2], [2]), ([3], [3]), ([], []), ([5], [5]), ([4, 6], [4, 6]), ([0, 0, 1, 2, 3, 4, 5, 6, 7], [0]), ([8, 0, 1, 2, 3, 4, 5, 6, 7], [8]), ([9, 7, 7, 0, 1, 2, 3, 4, 5, 6, 7], [7, 9])])
def rp.B5 : List Nat := [0, 0, 2, 6, 14, 0, 32, 126, 255, 511, 1023]
theorem rp.tab5 : dA .any (opsOf Tryz.f30 5) = rp.T5 := by kernel_rfl
theorem rp.bits5 : dy rp.T5.2 rp.B5 = true := by kernel_rfl
set_option maxHeartbeats 8000000 in
set_option maxRecDepth 100000 in
theorem Nl (key val : ByteArray) (hk : key.size ≤ 1000) (hv : val.size ≤ 1000000) (rev : Int) (gv base : Nat) (ok : Nat → Prop) (V : VS) (w : World) (h : Vw w gv base ok V) (hf : ∀ k, w.heap.size ≤ k → ok k) (hw : base ≤ w.heap.size) (hl : V.bcs.length ≤ 1000) :
  Calls Tryz.prog 30 #[.pointer (some ⟨gv, 0, none⟩), tJ key val rev] w (fun e w' => ∃ cs, oD (ie key val) (V.addBlk cs (cd val)) V w gv base ok e w') := by
 obtain ⟨vp, vb, m1, m2, m3, fp, hc⟩ := h
 obtain ⟨x, hx⟩ : ∃ x, oB key = x := ⟨_, rfl⟩
 have hO := Zk key hk
 have hI : ie key val = (x.2 && (cB val && ((if cB val = true then (cd val).addr else 0) == x.1))) := by unfold ie; rw [hx]
 rw [hx] at hO
 obtain ⟨x, bo⟩ := x
 dsimp only at hI
 obtain ⟨er, b0, hr, her, iI⟩ : ∃ (er : Int) (b0 : Bk), (∀ w, Calls Tryz.prog 55 #[.string val] w fun e w' => ∃ v, e = .returned (.tuple #[v, .int .i64 er]) ∧ dY (fun W => sm W v b0) w' (fun k => w.heap.size ≤ k) ∧ Below w.heap.size w w') ∧ er = (if cB val = true then 0 else 3) ∧ b0 = (if cB val = true then cd val else S4) := ⟨_, _, Lu val hv, rfl, rfl⟩
 obtain ⟨be, hbe⟩ : ∃ b, (er != 0) = b := ⟨_, rfl⟩
 obtain ⟨ba, hba⟩ : ∃ b, (b0.addr != x) = b := ⟨_, rfl⟩
 have ua : ie key val = (bo && (!be && !ba)) := by
  rw [hI, ← hbe, ← hba, her, iI]
  cases cB val with
  | true => simp [bne]
  | false => simp [bne]
 have HA := ak (show be = false → b0 = cd val by
  rw [← hbe, her, iI]
  cases cB val <;> simp)
 generalize ie key val = is at ua ⊢
 have hcs : (bo = true ∧ be = false ∧ ba = false ∧ is = true) ∨ (is = false ∧ (bo = false ∨ (bo = true ∧ be = true) ∨ (bo = true ∧ be = false ∧ ba = true))) := by
  rw [ua]
  cases bo <;> cases be <;> cases ba <;> simp
 have HO := ak hO
 have HV := ak hc
 have HR := ak hr
 have HF := ak hf
 have HW := ak hw
 have HL := ak hl
 clear hI ua hx hO hr hc hf hw hl her iI
 unfold tJ
 rcases hcs with ⟨rfl, rfl, rfl, rfl⟩ | ⟨rfl, hcs⟩
 ·obtain ⟨BS, hBS⟩ : ∃ BS, BS = V.bcs.map Prod.fst := ⟨_, rfl⟩
  obtain ⟨Ab, cb, hvb⟩ := Kd.R_slice HV.out.br
  rw [← hBS] at hvb
  have HBS := ak hBS
  clear hBS
  have HNO := ak (fun k hk => ((Kd.R_bound HV.out.br).1 k hk).2.2.1)
  have HLL := ak HL.out
  clear HL
  go_enter Tryz.func30, Tryz.ntmps30
  go_wp2_with (first
   | (refine cH rfl 58 (.tmp 1) rfl _ rfl ?_; intro g W1 hg hbx aw; have HB := ak aw; have HX := ak hbx; have en := hbx.cell 0 _ rfl; clear hg hbx aw)
   | (go_at_call 54; refine (kz.calls 4 key _ _ _ HO.out).mono ?_; rintro e W2 ⟨rfl, hb⟩; replace HX := ak (HX.out.below hb); replace HB := ak (HB.out.trans (hb.mono HB.out.size)); have iv := HX.out.cell 1 _ rfl; clear hb en)
   | (go_at_call 55; refine (HR.out _).mono ?_; rintro e W3 ⟨v0, rfl, Fu, hb⟩; obtain ⟨A, c, A', c', rfl, hbr⟩ := dY.now Fu; have HL := ak hbr.l64; have jq := ak ((HV.out.below HB.out).widen hb (fun k hk => HF.out k (Nat.le_trans HB.out.size hk)) (lb HW HB)); have zU := ak (dY.mono (dY.bound Fu) (fun k hk => Or.inr hk) (ok' := fun k => fp k ∨ (W2.heap.size ≤ k ∧ k < W3.heap.size))); replace HB := ak (HB.out.trans (hb.mono HB.out.size)); have Gy := ak HB.out.size; clear hb iv hbr Fu)
   | (refine aE (some 7) rfl rfl 64 rfl kW AB ?_; intro g7 W4 dq tX hb; have HZ := ak tX; have iP := ak (Nat.le_trans HB.out.size dq); have Az := ak dq; have uq := ak hb; replace HB := ak (HB.out.trans (hb.mono HB.out.size)); clear hb tX dq)
   | (refine ay rfl 64 (.tmp 7) (.tmp 19) rfl g7 (eY b0.addr b0.aff b0.slots (.slice A b0.free.length c) (.slice A' b0.attrs.length c')) rfl rfl 64 _ HZ.out 68 (by kernel_rfl) (iz _ _ _ _ _ HL.out) rfl (tg _ _ _ _ _ rfl rfl) ?_; intro W5 Md dH; have GR := ak (uq.out.grown dH uq.out.size (by intro k hk; cases hk; exact Az.out)); replace HB := ak (HB.out.grown dH HB.out.size (by intro k hk; cases hk; exact iP.out)); replace HZ := ak Md; have kT := HZ.out.cell 0 _ rfl; clear Md dH))
  have hbd : Below W5.heap.size W5 W5.drew := bu (Below.refl _ _)
  have GQ := ak (bu GR.out)
  have lS := ak (jq.out.below GQ.out)
  have QE := ak (dY.step zU.out (fun k _ hl => GQ.out.block k hl))
  have xL := ak (HZ.out.below hbd)
  have qE := ak (bu HB.out)
  clear hbd HV jq zU HZ HB kT
  obtain ⟨cs, hcs⟩ : ∃ cs, cs = eY b0.addr b0.aff b0.slots (.slice A b0.free.length c) (.slice A' b0.attrs.length c') := ⟨_, rfl⟩
  have HCL := ak (show cs.length = 68 by rw [hcs]; exact iz _ _ _ _ _ HL.out)
  have pN := ak (show ∀ u ∈ cs, u.oneCell' = true by rw [hcs]; exact tg _ _ _ _ _ rfl rfl)
  have HCA := ak (show V.addBlk cs (cd val) = { V with bcs := V.bcs ++ [(cs, b0)] } by rw [HA.out (by trivial)]; rfl)
  rw [← hcs] at xL QE
  obtain ⟨PS, hPS⟩ : ∃ PS, PS = BS ++ [cs] := ⟨_, rfl⟩
  have HPS := ak hPS
  have HPL := ak (show BS.length ≤ 1000 by rw [HBS.out]; have := HLL.out; simpa using this)
  clear hPS hcs
  refine dV (n := 11) (S := fun w' => w'.cell? ⟨gv, 1, none⟩ = some vb ∧ bC w' g7 cs 64) (ds := [10]) #[false, false, false, false, false, false, false, false, false, false, false] (by kernel_rfl) rfl rfl ⟨lS.out.box.cell 1 _ rfl, xL.out⟩ (fun hHeld => ?_); refine cz rp.tab5 rp.bits5 (fun aa bV => ?_)
  refine pu 0 aa.out ?_
  refine pu 1 aa.out ?_
  refine pu 2 aa.out ?_
  refine pu 3 aa.out ?_
  refine tk 4 aa.out bV.out hHeld ?_ (hv := by intro w' bx; obtain ⟨s0, s1⟩ := bx; rw [hvb] at s0; go_simp; with_reducible rfl)
  refine tk 5 aa.out bV.out hHeld ?_ (hv := by exact fun _ bx => iq 64 (.tmp 7) rfl g7 rfl _ _ _ bx.2 Tryz.underlying64 rfl (by rw [HCL.out]; kernel_rfl))
  refine on 6 aa.out (fun K hK => ?_)
  refine eJ (v := .slice (some ⟨W5.drew.heap.size, 0, none⟩) 1 1) (w1 := W5.drew.alloc (.cells cs.toArray 64)) (by rfl) (D8 (.tmp 38) rfl _ rfl HCL.out) ?_
  have zR := ak (xL.out.alloc (.cells cs.toArray 64))
  refine kn hK ⟨(lS.out.box.alloc _).cell 1 _ rfl, zR.out⟩ (fun hHeld => ?_)
  clear hK K
  refine on 7 aa.out (fun K hK => ?_)
  refine Kd.R_append_step (Kd.raw 68) (w0 := W5.drew) base (by rfl) (.tmp 37) (.tmp 39) 25 64 (.agg kW.toArray) 136 rfl Tryz.underlying25 Rk rfl (by decide) (by omega) vb BS cs cs (fun k => ok k ∧ ¬ (fp k ∨ (W2.heap.size ≤ k ∧ k < W3.heap.size))) (fun _ => False) hvb.symm rfl ⟨rfl, HCL.out, pN.out⟩ (fun _ h => h.elim) (fun k hk => ⟨HF.out k (Nat.le_trans qE.out.size hk), fun e => by have := (lS.out.fb k e).1; omega⟩) (HBS.out ▸ lS.out.br) (Below.refl _ _) (lb HW qE) (by have := HPL.out; omega) ?_
  intro v8 w8 gR fU dG lW
  have HQ := ak (lS.out.blk QE.out dG (HBS.out ▸ gR))
  have mu := ak (lS.out.box.grown dG (wa lS.out.br lS.out.box (by decide)))
  have sj := ak (xL.out.grown dG (fun e => by have := HNO.out _ e.symm; have := iP.out; omega))
  rw [← HPS.out] at gR
  obtain ⟨A8, c8, rfl⟩ := Kd.R_slice gR
  clear gR fU dG lW
  refine kn hK ⟨mu.out.cell 1 _ rfl, sj.out⟩ (fun hHeld => ?_)
  clear hK K
  refine pu 8 aa.out ?_
  refine pu 9 aa.out ?_
  refine y8 (i := 10) (N := none) #[true, true, true, true, true, true, true, true, true, true, true] rfl rfl (rA aa.out (by kernel_rfl)) (by decide) (fun K hK => ?_)
  have xJ := mu.out.frozen 1; have iv := mu.out.cell 1 _ rfl
  refine uG (w1 := ?_) (by rfl) rfl ?_ ?_
  rotate_left
  ·go_simp
   rfl
  refine hK.out _ _ ?_
  clear hK K
  refine dn aa.out ?_
  go_wp2
  go_ret
  exact ⟨cs, rfl, by rw [HCA.out]; exact ⟨_, _, _, _, _, _, HQ.out.1⟩, (Tch.of_below qE.out).trans HQ.out.2⟩
 ·rcases hcs with rfl | ⟨rfl, rfl⟩ | ⟨rfl, rfl, rfl⟩
  all_goals
   clear HL
   go_enter Tryz.func30, Tryz.ntmps30
   go_wp2_with (first
    | (refine cH rfl 58 (.tmp 1) rfl _ rfl ?_; intro g W1 hg hbx aw; have HB := ak aw; have HX := ak hbx; have en := hbx.cell 0 _ rfl; clear hg hbx aw)
    | (go_at_call 54; refine (kz.calls 4 key _ _ _ HO.out).mono ?_; rintro e W2 ⟨rfl, hb⟩; replace HX := ak (HX.out.below hb); replace HB := ak (HB.out.trans (hb.mono HB.out.size)); have iv := HX.out.cell 1 _ rfl; clear hb en)
    | (go_at_call 55; refine (HR.out _).mono ?_; rintro e W3 ⟨v0, rfl, Fu, hb⟩; obtain ⟨A, c, A', c', rfl, hbr⟩ := dY.now Fu; have HL := ak hbr.l64; have jq := ak ((HV.out.below HB.out).widen hb (fun k hk => HF.out k (Nat.le_trans HB.out.size hk)) (lb HW HB)); have zU := ak (dY.mono (dY.bound Fu) (fun k hk => Or.inr hk) (ok' := fun k => fp k ∨ (W2.heap.size ≤ k ∧ k < W3.heap.size))); replace HB := ak (HB.out.trans (hb.mono HB.out.size)); have Gy := ak HB.out.size; clear hb iv hbr Fu)
    | (refine aE (some 7) rfl rfl 64 rfl kW AB ?_; intro g7 W4 dq tX hb; have HZ := ak tX; have iP := ak (Nat.le_trans HB.out.size dq); have Az := ak dq; have uq := ak hb; replace HB := ak (HB.out.trans (hb.mono HB.out.size)); clear hb tX dq)
    | (refine ay rfl 64 (.tmp 7) (.tmp 19) rfl g7 (eY b0.addr b0.aff b0.slots (.slice A b0.free.length c) (.slice A' b0.attrs.length c')) rfl rfl 64 _ HZ.out 68 (by kernel_rfl) (iz _ _ _ _ _ HL.out) rfl (tg _ _ _ _ _ rfl rfl) ?_; intro W5 Md dH; have GR := ak (uq.out.grown dH uq.out.size (by intro k hk; cases hk; exact Az.out)); replace HB := ak (HB.out.grown dH HB.out.size (by intro k hk; cases hk; exact iP.out)); replace HZ := ak Md; have kT := HZ.out.cell 0 _ rfl; clear Md dH))
   go_ret
   exact ⟨[], rfl, ⟨_, _, _, _, _, _, HV.out.below HB.out⟩, Tch.of_below HB.out⟩
end
section
def VS.addAff (V : VS) (key val : ByteArray) : VS := { V with affs := V.affs ++ [(((oA key).1, (oA key).2.1), (l7 val).1)] }
def VS.addNode (V : VS) (key val : ByteArray) : VS := { V with nodes := V.nodes ++ [((oN iT key).1, (lV val).1)] }
def VS.addHnd (V : VS) (key : ByteArray) (u : Value) (l : List Cn) : VS := { V with hcs := V.hcs ++ [((oN fa key).1, u, l)] }
theorem JH {P : Program} {o : Oper} {a : Act} {w w1 : World} (ty : TypeId) (x y z : Operand) (ho : o.op = .mapUpdate ty x y z) (m k u : Value) (hx : a.eval x = m) (hy : a.eval y = k) (hz : a.eval z = u) (hl : (Instr.mapUpdate ty m k u).run P w = .ok () w1) : (execOp a.eval o).run P w = .ok .skip w1 := by
 unfold execOp
 simp only [ho, hx, hy, hz, Sem.run_bind, hl, Result.andThen_ok, Sem.run_pure]
theorem Iz {W : World} {base : Nat} {v : Value} {l : List Cn} (h : Kd.R sx 145 W base (fun _ => True) v l) : dY (fun w => DU w (.agg #[v]) l) W (fun k => base ≤ k) := fun W' hW' => by
 obtain ⟨A, c, rfl, hc, hC⟩ := Kd.R_reads (Kd.R_move (Kd.R_bound h) (fun k hk => hW' k hk.2.1 hk.2.2.1))
 exact ⟨A, c, rfl, hc, hC⟩
set_option maxHeartbeats 8000000 in
set_option maxRecDepth 100000 in
theorem Te (key val : ByteArray) (hk : key.size ≤ 1000) (rev : Int) (gv base : Nat) (ok : Nat → Prop) (V : VS) (w : World) (h : Vw w gv base ok V) (hf : ∀ k, w.heap.size ≤ k → ok k) (hw : base ≤ w.heap.size) (hn : gy key val = true → ∀ p ∈ V.affs, p.1 ≠ ((oA key).1, (oA key).2.1)) :
  Calls Tryz.prog 31 #[.pointer (some ⟨gv, 0, none⟩), tJ key val rev] w (oD (gy key val) (V.addAff key val) V w gv base ok) := by
 obtain ⟨vp, vb, m1, m2, m3, fp, hc⟩ := h
 obtain ⟨x, hx⟩ : ∃ x, oA key = x := ⟨_, rfl⟩
 obtain ⟨y, hy⟩ : ∃ y, l7 val = y := ⟨_, rfl⟩
 have hO := NP key hk
 have hR := Ve val
 have hI : gy key val = (x.2.2 && y.2 == 0) := by unfold gy; rw [hx, hy]
 have BD : V.addAff key val = { V with affs := V.affs ++ [((x.1, x.2.1), y.1)] } := by unfold VS.addAff; rw [hx, hy]
 rw [hx] at hO hn
 rw [hy] at hR
 clear hx hy
 obtain ⟨x1, x2, bo⟩ := x
 obtain ⟨r1, er⟩ := y
 dsimp only at hI hn BD
 obtain ⟨be, hbe⟩ : ∃ b, (er != 0) = b := ⟨_, rfl⟩
 have ua : gy key val = (bo && !be) := by rw [hI, ← hbe]; simp [bne]
 generalize gy key val = is at ua hn ⊢
 have hcs : (bo = true ∧ be = false ∧ is = true) ∨ (is = false ∧ (bo = false ∨ (bo = true ∧ be = true))) := by
  rw [ua]
  cases bo <;> cases be <;> simp
 have HO := ak hO
 have HV := ak hc
 have HR := ak hR
 have HN := ak hn
 clear hI ua hO hR hc hf hw hn
 unfold tJ
 rcases hcs with ⟨rfl, rfl, rfl⟩ | ⟨rfl, hcs⟩
 ·have HUP := ak (show pW V.am (x1, x2) (.int .i64 r1) = (V.addAff key val).am by
   rw [BD, zY]
   ·unfold VS.am
    rw [List.map_append]
    rfl
   ·intro p hp
    unfold VS.am at hp
    obtain ⟨q, hq, rfl⟩ := List.mem_map.1 hp
    exact fun e => HN.out (by trivial) q hq e.symm)
  go_enter Tryz.func31, Tryz.ntmps31
  go_wp2_with (first
   | (refine cH rfl 58 (.tmp 1) rfl _ rfl ?_; intro g W1 hg hbx aw; have HB := ak aw; have HX := ak hbx; have en := hbx.cell 0 _ rfl; clear hg hbx aw)
   | (go_at_call 56; refine (iU.calls 4 key _ _ _ _ HO.out).mono ?_; rintro e W2 ⟨rfl, hb⟩; replace HX := ak (HX.out.below hb); replace HB := ak (HB.out.trans (hb.mono HB.out.size)); have iv := HX.out.cell 1 _ rfl; clear hb en)
   | (go_at_call 57; refine (lh.calls val r1 er _ HR.out).mono ?_; rintro e W3 ⟨rfl, ⟨nd, rfl⟩⟩; have ep := ak (bh HB.out nd); have jq := ak (HV.out.below ep.out); have Ft := jq.out.box.cell 2 _ rfl; clear iv)
   | ((with_reducible refine af (N := 35) rfl ?_); refine dh rfl 96 #[(0, .tmp 33), (1, .tmp 34)] rfl [(0, .string x1), (1, .int .u32 x2)] (by simp only [List.map_toArray, List.map_cons, List.map_nil]; rfl) [.string x1, .int .u32 x2] (by kernel_rfl) ?_)
   | (at_mapUpdate; obtain ⟨vq, jb, nt, gJ⟩ := qK Qo Tryz.underlying26 jq.out.am (x1, x2) (.int .i64 r1); refine lg rfl 26 (.tmp 32) (.tmp 35) (.tmp 36) rfl (.map (some m1)) (sA (x1, x2)) (.int .i64 r1) rfl rfl rfl jb ?_; have HM := ak nt; have HG := ak gJ; clear jb nt gJ))
  go_ret
  have hq := jq.out.maps (V.addAff key val) rfl rfl (.inl rfl) HG.out ((by rw [← HUP.out]; exact HM.out)) (jq.out.hm.grown HG.out (fun e => jq.out.n12 (Option.some.inj e).symm)) (jq.out.nm.grown HG.out (fun e => jq.out.n13 (Option.some.inj e).symm)) (dY.imp jq.out.inn (fun W' h => h.2))
  exact ⟨rfl, ⟨_, _, _, _, _, _, hq.1⟩, (Tch.of_below ep.out).trans hq.2⟩
 ·rcases hcs with rfl | ⟨rfl, rfl⟩
  all_goals
   go_enter Tryz.func31, Tryz.ntmps31
   go_wp2_with (first
    | (refine cH rfl 58 (.tmp 1) rfl _ rfl ?_; intro g W1 hg hbx aw; have HB := ak aw; have HX := ak hbx; have en := hbx.cell 0 _ rfl; clear hg hbx aw)
    | (go_at_call 56; refine (iU.calls 4 key _ _ _ _ HO.out).mono ?_; rintro e W2 ⟨rfl, hb⟩; replace HX := ak (HX.out.below hb); replace HB := ak (HB.out.trans (hb.mono HB.out.size)); have iv := HX.out.cell 1 _ rfl; clear hb en)
    | (go_at_call 57; refine (lh.calls val r1 er _ HR.out).mono ?_; rintro e W3 ⟨rfl, ⟨nd, rfl⟩⟩; have ep := ak (bh HB.out nd); have jq := ak (HV.out.below ep.out); have Ft := jq.out.box.cell 2 _ rfl; clear iv))
   go_ret
   exact ⟨rfl, ⟨_, _, _, _, _, _, jq.out⟩, Tch.of_below ep.out⟩
set_option maxHeartbeats 8000000 in
set_option maxRecDepth 100000 in
theorem QM (key val : ByteArray) (hk : key.size ≤ 1000) (rev : Int) (gv base : Nat) (ok : Nat → Prop) (V : VS) (w : World) (h : Vw w gv base ok V) (hf : ∀ k, w.heap.size ≤ k → ok k) (hw : base ≤ w.heap.size) (hn : isNode key val = true → ∀ p ∈ V.nodes, p.1 ≠ (oN iT key).1) :
  Calls Tryz.prog 33 #[.pointer (some ⟨gv, 0, none⟩), tJ key val rev] w (oD (isNode key val) (V.addNode key val) V w gv base ok) := by
 obtain ⟨vp, vb, m1, m2, m3, fp, hc⟩ := h
 obtain ⟨x, hx⟩ : ∃ x, oN iT key = x := ⟨_, rfl⟩
 obtain ⟨y, hy⟩ : ∃ y, lV val = y := ⟨_, rfl⟩
 have hO := Q3 key
 have hR := Q5 val
 have hI : isNode key val = (x.2 && y.2 == 0) := by unfold isNode; rw [hx, hy]
 have BD : V.addNode key val = { V with nodes := V.nodes ++ [(x.1, y.1)] } := by unfold VS.addNode; rw [hx, hy]
 rw [hx] at hO hn
 rw [hy] at hR
 clear hx hy
 obtain ⟨x1, bo⟩ := x
 obtain ⟨r1, er⟩ := y
 dsimp only at hI hn BD
 obtain ⟨be, hbe⟩ : ∃ b, (er != 0) = b := ⟨_, rfl⟩
 have ua : isNode key val = (bo && !be) := by rw [hI, ← hbe]; simp [bne]
 generalize isNode key val = is at ua hn ⊢
 have hcs : (bo = true ∧ be = false ∧ is = true) ∨ (is = false ∧ (bo = false ∨ (bo = true ∧ be = true))) := by
  rw [ua]
  cases bo <;> cases be <;> simp
 have HO := ak hO
 have HV := ak hc
 have HR := ak hR
 have HN := ak hn
 clear hI ua hO hR hc hf hw hn
 unfold tJ
 rcases hcs with ⟨rfl, rfl, rfl⟩ | ⟨rfl, hcs⟩
 ·have HUP := ak (show pW V.nm x1 (.bool r1) = (V.addNode key val).nm by
   rw [BD, zY]
   ·unfold VS.nm
    rw [List.map_append]
    rfl
   ·intro p hp
    unfold VS.nm at hp
    obtain ⟨q, hq, rfl⟩ := List.mem_map.1 hp
    exact fun e => HN.out (by trivial) q hq e.symm)
  go_enter Tryz.func33, Tryz.ntmps33
  go_wp2_with (first
   | (refine cH rfl 58 (.tmp 1) rfl _ rfl ?_; intro g W1 hg hbx aw; have HB := ak aw; have HX := ak hbx; have en := hbx.cell 0 _ rfl; clear hg hbx aw)
   | (go_at_call 60; refine (lr.calls key _ _ _ HO.out).mono ?_; rintro e W2 ⟨rfl, hb⟩; replace HX := ak (HX.out.below hb); replace HB := ak (HB.out.trans (hb.mono HB.out.size)); have iv := HX.out.cell 1 _ rfl; clear hb en)
   | (go_at_call 61; refine (kx.calls val r1 er _ HR.out).mono ?_; rintro e W3 ⟨rfl, ⟨nd, rfl⟩⟩; have ep := ak (bh HB.out nd); have jq := ak (HV.out.below ep.out); have hv4 := jq.out.box.cell 4 _ rfl; clear iv)
   | (at_mapUpdate; obtain ⟨vq, jb, nt, gJ⟩ := qK ya Tryz.underlying28 jq.out.nm x1 (.bool r1); refine lg rfl 28 (.tmp 30) (.tmp 31) (.tmp 32) rfl (.map (some m3)) (.string x1) (.bool r1) rfl rfl rfl jb ?_; have HM := ak nt; have HG := ak gJ; clear jb nt gJ))
  go_ret
  have hq := jq.out.maps (V.addNode key val) rfl rfl (.inr (.inr rfl)) HG.out (jq.out.am.grown HG.out (fun e => jq.out.n13 (Option.some.inj e))) (jq.out.hm.grown HG.out (fun e => jq.out.n23 (Option.some.inj e))) ((by rw [← HUP.out]; exact HM.out)) (dY.imp jq.out.inn (fun W' h => h.2))
  exact ⟨rfl, ⟨_, _, _, _, _, _, hq.1⟩, (Tch.of_below ep.out).trans hq.2⟩
 ·rcases hcs with rfl | ⟨rfl, rfl⟩
  all_goals
   go_enter Tryz.func33, Tryz.ntmps33
   go_wp2_with (first
    | (refine cH rfl 58 (.tmp 1) rfl _ rfl ?_; intro g W1 hg hbx aw; have HB := ak aw; have HX := ak hbx; have en := hbx.cell 0 _ rfl; clear hg hbx aw)
    | (go_at_call 60; refine (lr.calls key _ _ _ HO.out).mono ?_; rintro e W2 ⟨rfl, hb⟩; replace HX := ak (HX.out.below hb); replace HB := ak (HB.out.trans (hb.mono HB.out.size)); have iv := HX.out.cell 1 _ rfl; clear hb en)
    | (go_at_call 61; refine (kx.calls val r1 er _ HR.out).mono ?_; rintro e W3 ⟨rfl, ⟨nd, rfl⟩⟩; have ep := ak (bh HB.out nd); have jq := ak (HV.out.below ep.out); have hv4 := jq.out.box.cell 4 _ rfl; clear iv))
   go_ret
   exact ⟨rfl, ⟨_, _, _, _, _, _, jq.out⟩, Tch.of_below ep.out⟩
def xY.T5 : Bool × List (List Nat × List Nat) := (true, [([], []), ([0], [0]), ([1], [1]), ([2], [2]), ([], []), ([], []), ([3, 4, 5, 0, 1, 2, 3, 4, 5], [3, 4, 5])])
def xY.B5 : List Nat := [0, 1, 3, 7, 0, 0, 63]
theorem xY.tab5 : dA .any (opsOf Tryz.f32 5) = xY.T5 := by kernel_rfl
theorem xY.bits5 : dy xY.T5.2 xY.B5 = true := by kernel_rfl
set_option maxHeartbeats 8000000 in
set_option maxRecDepth 100000 in
theorem KU (key val : ByteArray) (hk : key.size ≤ 1000) (hv : val.size ≤ 1000000) (rev : Int) (gv base : Nat) (ok : Nat → Prop) (V : VS) (w : World) (h : Vw w gv base ok V) (hf : ∀ k, w.heap.size ≤ k → ok k) (hw : base ≤ w.heap.size) (hn : ic key val = true → ∀ p ∈ V.hcs, p.1 ≠ (oN fa key).1) :
  Calls Tryz.prog 32 #[.pointer (some ⟨gv, 0, none⟩), tJ key val rev] w (fun e w' => ∃ u, oD (ic key val) (V.addHnd key u (rc val).1) V w gv base ok e w') := by
 obtain ⟨vp, vb, m1, m2, m3, fp, hc⟩ := h
 obtain ⟨x, hx⟩ : ∃ x, oN fa key = x := ⟨_, rfl⟩
 have hO := Zj key
 have hI : ic key val = (x.2 && eK val) := by unfold ic; rw [hx]
 have BD : ∀ u l, V.addHnd key u l = { V with hcs := V.hcs ++ [(x.1, u, l)] } := fun u l => by unfold VS.addHnd; rw [hx]
 rw [hx] at hO hn
 clear hx
 obtain ⟨x1, bo⟩ := x
 dsimp only at hI hn BD
 obtain ⟨er, L, hr, her, hL⟩ : ∃ (er : Int) (L : List Cn), (∀ w, Calls Tryz.prog 59 #[.string val] w fun e w' => ∃ v, e = .returned (.tuple #[.agg #[v], .int .i64 er]) ∧ Kd.R sx 145 w' w.heap.size (fun _ => True) v L ∧ Below w.heap.size w w') ∧ er = (if eK val = true then 0 else 3) ∧ L = (if eK val = true then (rc val).1 else []) := ⟨_, _, Mo val hv, rfl, rfl⟩
 obtain ⟨be, hbe⟩ : ∃ b, (er != 0) = b := ⟨_, rfl⟩
 have ua : ic key val = (bo && !be) := by
  rw [hI, ← hbe, her]
  cases eK val <;> simp [bne]
 have HA := ak (show be = false → L = (rc val).1 by
  rw [← hbe, her, hL]
  cases eK val <;> simp)
 generalize ic key val = is at ua hn ⊢
 have hcs : (bo = true ∧ be = false ∧ is = true) ∨ (is = false ∧ (bo = false ∨ (bo = true ∧ be = true))) := by
  rw [ua]
  cases bo <;> cases be <;> simp
 have HO := ak hO
 have HV := ak hc
 have HR := ak hr
 have HN := ak hn
 have HF := ak hf
 have HW := ak hw
 have Qt := ak BD
 clear hI ua hO hr hc hf hw hn BD her hL
 unfold tJ
 rcases hcs with ⟨rfl, rfl, rfl⟩ | ⟨rfl, hcs⟩
 ·go_enter Tryz.func32, Tryz.ntmps32
  go_wp2_with (first
   | (refine cH rfl 58 (.tmp 1) rfl _ rfl ?_; intro g W1 hg hbx aw; have HB := ak aw; have HX := ak hbx; have en := hbx.cell 0 _ rfl; clear hg hbx aw)
   | (go_at_call 58; refine (jT.calls key _ _ _ HO.out).mono ?_; rintro e W2 ⟨rfl, hb⟩; replace HX := ak (HX.out.below hb); replace HB := ak (HB.out.trans (hb.mono HB.out.size)); have iv := HX.out.cell 1 _ rfl; clear hb en)
   | (go_at_call 59; refine (HR.out _).mono ?_; rintro e W3 ⟨vh, rfl, hh, hb⟩; have jq := ak ((HV.out.below HB.out).widen hb (fun k hk => HF.out k (Nat.le_trans HB.out.size hk)) (lb HW HB)); have zU := ak (dY.mono (dY.bound (Iz hh)) (fun k hk => Or.inr hk) (ok' := fun k => fp k ∨ (W2.heap.size ≤ k ∧ k < W3.heap.size))); replace HB := ak (HB.out.trans (hb.mono HB.out.size)); obtain ⟨Ah, ch, rfl⟩ := Kd.R_slice hh; clear hb hh iv)
   | (refine aE (some 7) rfl rfl 99 rfl mh (fun _ => by kernel_rfl) ?_; intro g7 W4 dq tX hb; have HY := ak tX; have iP := ak (Nat.le_trans HB.out.size dq); have Az := ak dq; have uq := ak hb; replace HB := ak (HB.out.trans (hb.mono HB.out.size)); clear hb tX dq)
   | (refine ay rfl 99 (.tmp 7) (.tmp 19) rfl g7 _ rfl rfl 99 _ HY.out 1 (by kernel_rfl) rfl rfl (by intro u hu; simp at hu; subst hu; rfl) ?_; intro W5 Mf dH; have GR := ak (uq.out.grown dH uq.out.size (by intro k hk; cases hk; exact Az.out)); replace HB := ak (HB.out.grown dH HB.out.size (by intro k hk; cases hk; exact iP.out)); replace HY := ak Mf; clear Mf dH))
  have hbd : Below W5.heap.size W5 W5.drew := bu (Below.refl _ _)
  have GQ := ak (bu GR.out)
  have lS := ak (jq.out.below GQ.out)
  have QE := ak (dY.step zU.out (fun k _ hl => GQ.out.block k hl))
  have xL := ak (HY.out.below hbd)
  have qE := ak (bu HB.out)
  clear hbd HV jq zU HY HB
  have hup := qK ya Tryz.underlying27 lS.out.hm x1 (.agg #[.slice Ah L.length ch])
  obtain ⟨vq, jb, nt, gJ⟩ := hup
  have HRUN := ak jb
  have HM := ak nt
  have HG := ak gJ
  clear jb nt gJ
  refine dV (n := 7) (S := fun w' => w'.cell? ⟨gv, 3, none⟩ = some (.map (some m2)) ∧ bC w' g7 [.slice Ah L.length ch] 99) (ds := [6]) #[false, false, false, false, false, false, false] (by kernel_rfl) rfl rfl ⟨lS.out.box.cell 3 _ rfl, xL.out⟩ (fun hHeld => ?_); refine cz xY.tab5 xY.bits5 (fun aa bV => ?_)
  refine pu 0 aa.out ?_
  refine pu 1 aa.out ?_
  refine pu 2 aa.out ?_
  refine tk 3 aa.out bV.out hHeld ?_ (hv := by intro w' bx; obtain ⟨s0, s1⟩ := bx; go_simp; with_reducible rfl)
  refine pu 4 aa.out ?_
  refine tk 5 aa.out bV.out hHeld ?_ (hv := by exact fun _ bx => iq 99 (.tmp 7) rfl g7 rfl _ _ _ bx.2 Tryz.underlying99 rfl (by kernel_rfl))
  refine y8 (i := 6) (N := none) #[true, true, true, true, true, true, true] rfl rfl (rA aa.out (by kernel_rfl)) (by decide) (fun K hK => ?_)
  skip
  refine uG (w1 := vq) (by rfl) rfl (JH 27 (.tmp 30) (.tmp 31) (.tmp 32) rfl (.map (some m2)) (.string x1) (.agg #[.slice Ah L.length ch]) rfl rfl rfl HRUN.out) ?_
  refine hK.out _ _ ?_
  clear hK K
  refine dn aa.out ?_
  go_wp2
  go_ret
  have Zp : pW V.hm x1 (.agg #[.slice Ah L.length ch]) = (V.addHnd key (.agg #[.slice Ah L.length ch]) (rc val).1).hm := by
   rw [Qt.out, zY]
   ·unfold VS.hm
    rw [List.map_append]
    rfl
   ·intro p hp
    unfold VS.hm at hp
    obtain ⟨q, hq, rfl⟩ := List.mem_map.1 hp
    exact fun e => HN.out (by trivial) q hq e.symm
  have hq := lS.out.maps (V.addHnd key (.agg #[.slice Ah L.length ch]) (rc val).1) rfl rfl (.inr (.inl rfl)) HG.out (lS.out.am.grown HG.out (fun e => lS.out.n12 (Option.some.inj e))) (by rw [← Zp]; exact HM.out) (lS.out.nm.grown HG.out (fun e => lS.out.n23 (Option.some.inj e).symm)) (fun W' hW' => by
   rw [Qt.out, ← HA.out (by trivial)]
   intro p hp
   rcases List.mem_append.1 hp with hp | hp
   ·exact (lS.out.inn W' hW').2 p hp
   ·rw [List.mem_singleton] at hp
    subst hp
    exact QE.out W' hW')
  exact ⟨_, rfl, ⟨_, _, _, _, _, _, hq.1⟩, (Tch.of_below qE.out).trans hq.2⟩
 ·rcases hcs with rfl | ⟨rfl, rfl⟩
  all_goals
   go_enter Tryz.func32, Tryz.ntmps32
   go_wp2_with (first
    | (refine cH rfl 58 (.tmp 1) rfl _ rfl ?_; intro g W1 hg hbx aw; have HB := ak aw; have HX := ak hbx; have en := hbx.cell 0 _ rfl; clear hg hbx aw)
    | (go_at_call 58; refine (jT.calls key _ _ _ HO.out).mono ?_; rintro e W2 ⟨rfl, hb⟩; replace HX := ak (HX.out.below hb); replace HB := ak (HB.out.trans (hb.mono HB.out.size)); have iv := HX.out.cell 1 _ rfl; clear hb en)
    | (go_at_call 59; refine (HR.out _).mono ?_; rintro e W3 ⟨vh, rfl, hh, hb⟩; have jq := ak ((HV.out.below HB.out).widen hb (fun k hk => HF.out k (Nat.le_trans HB.out.size hk)) (lb HW HB)); have zU := ak (dY.mono (dY.bound (Iz hh)) (fun k hk => Or.inr hk) (ok' := fun k => fp k ∨ (W2.heap.size ≤ k ∧ k < W3.heap.size))); replace HB := ak (HB.out.trans (hb.mono HB.out.size)); obtain ⟨Ah, ch, rfl⟩ := Kd.R_slice hh; clear hb hh iv)
    | (refine aE (some 7) rfl rfl 99 rfl mh (fun _ => by kernel_rfl) ?_; intro g7 W4 dq tX hb; have HY := ak tX; have iP := ak (Nat.le_trans HB.out.size dq); have Az := ak dq; have uq := ak hb; replace HB := ak (HB.out.trans (hb.mono HB.out.size)); clear hb tX dq)
    | (refine ay rfl 99 (.tmp 7) (.tmp 19) rfl g7 _ rfl rfl 99 _ HY.out 1 (by kernel_rfl) rfl rfl (by intro u hu; simp at hu; subst hu; rfl) ?_; intro W5 Mf dH; have GR := ak (uq.out.grown dH uq.out.size (by intro k hk; cases hk; exact Az.out)); replace HB := ak (HB.out.grown dH HB.out.size (by intro k hk; cases hk; exact iP.out)); replace HY := ak Mf; clear Mf dH))
   go_ret
   exact ⟨.agg #[], rfl, ⟨_, _, _, _, _, _, HV.out.below HB.out⟩, Tch.of_below HB.out⟩
end
section
abbrev It := S58
def Rc.isNo : Rc → Bool
 | .no => true
 | _ => false
def gP (x : It) : Rc := dt x.f0 x.f1
def o8 (rs : List Rc) : List S69 := rs.filterMap fun r => match r with | .pool p => some p | _ => none
def oz (rs : List Rc) : List Bk := rs.filterMap fun r => match r with | .blk b => some b | _ => none
def oC (rs : List Rc) : List ((ByteArray × Int) × Int) := rs.filterMap fun r => match r with | .aff s a k => some ((s, a), k) | _ => none
def kJ (rs : List Rc) : List (ByteArray × List Cn) := rs.filterMap fun r => match r with | .hnd s l => some (s, l) | _ => none
def mF (rs : List Rc) : List (ByteArray × Bool) := rs.filterMap fun r => match r with | .node s g => some (s, g) | _ => none
structure VSof (V : VS) (rs : List Rc) : Prop where
 pools : V.pools = o8 rs
 blks : V.bcs.map Prod.snd = oz rs
 affs : V.affs = oC rs
 hnds : (V.hcs.map fun p => (p.1, p.2.2)) = kJ rs
 nodes : V.nodes = mF rs
def uI (l : List It) (j : Nat) : Bool := (l.take j).any fun y => decide (y.f0 = (ir l (j : Int)).f0)
def lX (l : List It) (j : Nat) : Bool := !uI l j && !(gP (ir l (j : Int))).isNo
def iE (l : List It) : Bool := (List.range l.length).all (lX l)
theorem VSof.nil : VSof ⟨[], [], [], [], []⟩ [] := ⟨rfl, rfl, rfl, rfl, rfl⟩
section
variable {V : VS} {rs : List Rc} {key val : ByteArray}
theorem VSof.lens (h : VSof V rs) : V.pools.length ≤ rs.length ∧ V.bcs.length ≤ rs.length := by
 have h1 := List.length_filterMap_le (fun r => match r with | .pool p => some p | _ => none) rs
 have h2 := List.length_filterMap_le (fun r => match r with | .blk b => some b | _ => none) rs
 have h3 := congrArg List.length h.blks
 rw [List.length_map] at h3
 rw [h.pools, h3]
 exact ⟨h1, h2⟩
theorem VSof.lock (h : VSof V rs) (e : gf key val = true) : VSof V (rs ++ [dt key val]) := by
 have hr : dt key val = .lock := by unfold dt; rw [if_pos e]
 rw [hr]
 exact ⟨by rw [h.pools]; simp [o8], by rw [h.blks]; simp [oz], by rw [h.affs]; simp [oC], by rw [h.hnds]; simp [kJ], by rw [h.nodes]; simp [mF]⟩
theorem VSof.pool (h : VSof V rs) (e0 : gf key val = false) (e : eT key val = true) : VSof (V.addPool val) (rs ++ [dt key val]) := by
 have hr : dt key val = .pool ⟨⟨(az (r1 val).1 : Nat), (az (q2 val).1 : Nat)⟩, decide (az (q3 val).1 = 1)⟩ := by unfold dt; rw [if_neg (by rw [e0]; decide), if_pos e]
 rw [hr]
 exact ⟨by show V.pools ++ _ = _; rw [h.pools]; simp [o8], by show V.bcs.map Prod.snd = _; rw [h.blks]; simp [oz], by show V.affs = _; rw [h.affs]; simp [oC], by show (V.hcs.map fun p => (p.1, p.2.2)) = _; rw [h.hnds]; simp [kJ], by show V.nodes = _; rw [h.nodes]; simp [mF]⟩
theorem VSof.blk (h : VSof V rs) (e0 : gf key val = false) (e1 : eT key val = false) (e : ie key val = true) (cs : List Value) : VSof (V.addBlk cs (cd val)) (rs ++ [dt key val]) := by
 have hr : dt key val = .blk (cd val) := by unfold dt; rw [if_neg (by rw [e0]; decide), if_neg (by rw [e1]; decide), if_pos e]
 rw [hr]
 exact ⟨by show V.pools = _; rw [h.pools]; simp [o8], by show (V.bcs ++ _).map Prod.snd = _; rw [List.map_append, h.blks]; simp [oz], by show V.affs = _; rw [h.affs]; simp [oC], by show (V.hcs.map fun p => (p.1, p.2.2)) = _; rw [h.hnds]; simp [kJ], by show V.nodes = _; rw [h.nodes]; simp [mF]⟩
theorem VSof.aff (h : VSof V rs) (e0 : gf key val = false) (e1 : eT key val = false) (e2 : ie key val = false) (e : gy key val = true) : VSof (V.addAff key val) (rs ++ [dt key val]) := by
 have hr : dt key val = .aff (oA key).1 (oA key).2.1 (l7 val).1 := by unfold dt; rw [if_neg (by rw [e0]; decide), if_neg (by rw [e1]; decide), if_neg (by rw [e2]; decide), if_pos e]
 rw [hr]
 exact ⟨by show V.pools = _; rw [h.pools]; simp [o8], by show V.bcs.map Prod.snd = _; rw [h.blks]; simp [oz], by show V.affs ++ _ = _; rw [h.affs]; simp [oC], by show (V.hcs.map fun p => (p.1, p.2.2)) = _; rw [h.hnds]; simp [kJ], by show V.nodes = _; rw [h.nodes]; simp [mF]⟩
theorem VSof.hnd (h : VSof V rs) (e0 : gf key val = false) (e1 : eT key val = false) (e2 : ie key val = false) (e3 : gy key val = false) (e : ic key val = true) (u : Value) : VSof (V.addHnd key u (rc val).1) (rs ++ [dt key val]) := by
 have hr : dt key val = .hnd (oN fa key).1 (rc val).1 := by unfold dt; rw [if_neg (by rw [e0]; decide), if_neg (by rw [e1]; decide), if_neg (by rw [e2]; decide), if_neg (by rw [e3]; decide), if_pos e]
 rw [hr]
 exact ⟨by show V.pools = _; rw [h.pools]; simp [o8], by show V.bcs.map Prod.snd = _; rw [h.blks]; simp [oz], by show V.affs = _; rw [h.affs]; simp [oC], by show ((V.hcs ++ _).map fun p => (p.1, p.2.2)) = _; rw [List.map_append, h.hnds]; simp [kJ], by show V.nodes = _; rw [h.nodes]; simp [mF]⟩
theorem VSof.node (h : VSof V rs) (e0 : gf key val = false) (e1 : eT key val = false) (e2 : ie key val = false) (e3 : gy key val = false) (e4 : ic key val = false) (e : isNode key val = true) : VSof (V.addNode key val) (rs ++ [dt key val]) := by
 have hr : dt key val = .node (oN iT key).1 (lV val).1 := by unfold dt; rw [if_neg (by rw [e0]; decide), if_neg (by rw [e1]; decide), if_neg (by rw [e2]; decide), if_neg (by rw [e3]; decide), if_neg (by rw [e4]; decide), if_pos e]
 rw [hr]
 exact ⟨by show V.pools = _; rw [h.pools]; simp [o8], by show V.bcs.map Prod.snd = _; rw [h.blks]; simp [oz], by show V.affs = _; rw [h.affs]; simp [oC], by show (V.hcs.map fun p => (p.1, p.2.2)) = _; rw [h.hnds]; simp [kJ], by show V.nodes ++ _ = _; rw [h.nodes]; simp [mF]⟩
theorem WH (key val : ByteArray) : (dt key val).isNo = !(gf key val || (eT key val || (ie key val || (gy key val || (ic key val || isNode key val))))) := by
 unfold dt
 cases gf key val with
 | true => rfl
 | false =>
  cases eT key val with
  | true => rfl
  | false =>
   cases ie key val with
   | true => rfl
   | false =>
    cases gy key val with
    | true => rfl
    | false =>
     cases ic key val with
     | true => rfl
     | false => cases isNode key val <;> rfl
theorem LQ (hs : key.size ≤ 1000) (h : (oA key).2.2 = true) : ∃ v : Nat, v < 4294967296 ∧ wD v = v ∧ (oA key).2.1 = (v : Int) ∧ bU (oA key).1 = true ∧ key = Ku (oA key).1 v := by
 rcases LP key hs 4 (by omega) with ⟨s, v, h1, h2, h3, h4, h5⟩ | h5
 ·rw [NP key hs] at h5
  have h6 := Option.some.inj h5
  exact ⟨v, h2, h3, by rw [h6], by rw [h6]; exact h1, by rw [h6]; exact h4⟩
 ·rw [NP key hs] at h5
  have h6 := Option.some.inj h5
  rw [h6] at h
  cases h
theorem Bb {p : ByteArray} (h : (oN p key).2 = true) : bU (oN p key).1 = true ∧ key = p ++ (oN p key).1 := by
 unfold oN at h ⊢
 cases hc : dk p key with
 | none => rw [hc] at h; cases h
 | some t =>
  rw [hc] at h
  dsimp only at h ⊢
  cases hr : bU t with
  | false => rw [hr] at h; cases h
  | true =>
   rw [if_pos rfl]
   exact ⟨hr, lL hc⟩
theorem Lx {s : ByteArray} {a k : Int} (h : dt key val = .aff s a k) : gy key val = true ∧ (oA key).1 = s ∧ (oA key).2.1 = a := by
 unfold dt at h
 repeat' split at h
 all_goals first
  | (cases h; done)
  | (cases h; next h4 => exact ⟨h4, rfl, rfl⟩)
theorem Lw {s : ByteArray} {l : List Cn} (h : dt key val = .hnd s l) : ic key val = true ∧ (oN fa key).1 = s := by
 unfold dt at h
 repeat' split at h
 all_goals first
  | (cases h; done)
  | (cases h; next h4 => exact ⟨h4, rfl⟩)
theorem Ie {s : ByteArray} {g : Bool} (h : dt key val = .node s g) : isNode key val = true ∧ (oN iT key).1 = s := by
 unfold dt at h
 repeat' split at h
 all_goals first
  | (cases h; done)
  | (cases h; next h4 => exact ⟨h4, rfl⟩)
theorem Ip (h : gy key val = true) : (oA key).2.2 = true := by
 unfold gy at h
 simp only [Bool.and_eq_true] at h
 exact h.1
theorem Io (h : ic key val = true) : (oN fa key).2 = true := by
 unfold ic at h
 simp only [Bool.and_eq_true] at h
 exact h.1
theorem Fj (h : isNode key val = true) : (oN iT key).2 = true := by
 unfold isNode at h
 simp only [Bool.and_eq_true] at h
 exact h.1
theorem Gl {l : List It} (hl : ∀ x ∈ l, x.f0.size ≤ 1000) (hk : key.size ≤ 1000) (hn : ∀ x ∈ l, x.f0 ≠ key) (h : gy key val = true) : ∀ p ∈ oC (l.map gP), p.1 ≠ ((oA key).1, (oA key).2.1) := fun p hp e => by
 obtain ⟨r, hr, hm⟩ := List.mem_filterMap.1 hp
 obtain ⟨x, hx, rfl⟩ := List.mem_map.1 hr
 split at hm
 ·next s a k hq =>
  cases hm
  obtain ⟨h1, h2, h3⟩ := Lx hq
  obtain ⟨v, _, _, e1, _, e2⟩ := LQ (hl x hx) (Ip h1)
  obtain ⟨v', _, _, e3, _, e4⟩ := LQ hk (Ip h)
  have e5 := congrArg Prod.fst e
  have e6 := congrArg Prod.snd e
  dsimp only at e5 e6
  refine hn x hx ?_
  rw [e2, e4, h2, e5]
  congr 1
  omega
 ·cases hm
theorem Fy {l : List It} (hn : ∀ x ∈ l, x.f0 ≠ key) (h : ic key val = true) : ∀ p ∈ kJ (l.map gP), p.1 ≠ (oN fa key).1 := fun p hp e => by
 obtain ⟨r, hr, hm⟩ := List.mem_filterMap.1 hp
 obtain ⟨x, hx, rfl⟩ := List.mem_map.1 hr
 split at hm
 ·next s k hq =>
  cases hm
  obtain ⟨h1, h2⟩ := Lw hq
  refine hn x hx ?_
  rw [(Bb (Io h1)).2, (Bb (Io h)).2, h2, ← e]
 ·cases hm
theorem Dp {l : List It} (hn : ∀ x ∈ l, x.f0 ≠ key) (h : isNode key val = true) : ∀ p ∈ mF (l.map gP), p.1 ≠ (oN iT key).1 := fun p hp e => by
 obtain ⟨r, hr, hm⟩ := List.mem_filterMap.1 hp
 obtain ⟨x, hx, rfl⟩ := List.mem_map.1 hr
 split at hm
 ·next s k hq =>
  cases hm
  obtain ⟨h1, h2⟩ := Ie hq
  refine hn x hx ?_
  rw [(Bb (Fj h1)).2, (Bb (Fj h)).2, h2, ← e]
 ·cases hm
end
theorem QQ (l : List It) (j : Nat) (hj : j < l.length) : l.take (j + 1) = l.take j ++ [ir l (j : Int)] := by
 rw [List.take_succ_eq_append_getElem hj]
 simp [ir, hj, List.getD]
theorem Hy {l : List It} {j : Nat} (h : uI l j = false) : ∀ x ∈ l.take j, x.f0 ≠ (ir l (j : Int)).f0 := by
 unfold uI at h
 rw [List.any_eq_false] at h
 intro x hx e
 exact h x hx (decide_eq_true e)
theorem CL {l : List It} {j : Nat} (hj : j < l.length) (h : lX l j = false) : iE l = false := by
 unfold iE
 rw [List.all_eq_false]
 exact ⟨j, List.mem_range.2 hj, by rw [h]; decide⟩
theorem Al {l : List It} (h : ∀ i, i < l.length → lX l i = true) : iE l = true := by
 unfold iE
 rw [List.all_eq_true]
 exact fun i hi => h i (List.mem_range.1 hi)
end
section
def yA.T4 : Bool × List (List Nat × List Nat) := (true, [([], []), ([0], [0]), ([1], [1]), ([2], [2]), ([3], [3]), ([4], [4]), ([5], [5]), ([], []), ([7], [7]), ([8], [8]), ([9], [9]), ([10], [10]), ([11], [11]), ([6, 12], [6, 12]), ([], []), ([13, 14], [13, 14]), ([15, 4, 0, 1, 2, 3, 4, 5, 6, 7, 8, 9, 10, 11, 12, 13, 14, 15], [15])])
def yA.B4 : List Nat := [0, 1, 3, 7, 15, 31, 63, 0, 128, 384, 896, 1920, 3968, 8191, 0, 32767, 65535]
theorem yA.tab4 : dA .any (opsOf Tryz.f39 4) = yA.T4 := by kernel_rfl
theorem yA.bits4 : dy yA.T4.2 yA.B4 = true := by kernel_rfl
set_option maxHeartbeats 8000000 in
set_option maxRecDepth 100000 in
theorem J8 (ai bi : Int) (l4 : List Int) (hf : av.f 20 (IntKind.u64.wrap ai) 4 = some l4) (hl : (strOfNums l4).size = 4) (o : Bool) (w : World) :
  Calls Tryz.prog 39 #[.agg #[.int .u32 ai, .int .i64 bi, .bool o]] w fun e w' => e = .returned (.string ((((⟨#[80]⟩ : ByteArray) ++ strOfNums l4) ++ strOfNums [bi % 256]) ++ (if o = true then ⟨#[1]⟩ else ⟨#[0]⟩))) ∧ Below w.heap.size w w' := by
 have HF := ak hf
 have aw : (strOfNums [bi % 256]).size = 1 := by rw [strOfNums_size]; rfl
 obtain ⟨sb, hsb⟩ : ∃ sb, sb = strOfNums [bi % 256] := ⟨_, rfl⟩
 have s1 : (9223372036854775807 < 1 + (strOfNums l4).size) = False := eq_false (by omega)
 have s2 : (9223372036854775807 < 1 + (strOfNums l4).size + (strOfNums [bi % 256]).size) = False := eq_false (by omega)
 have s3 : (9223372036854775807 < 1 + (strOfNums l4).size + (strOfNums [bi % 256]).size + 1) = False := eq_false (by omega)
 clear hf hl aw hsb sb
 cases o
 all_goals
  go_enter Tryz.func39, Tryz.ntmps39
  go_wp2_with (first
   | (refine cH rfl 45 (.tmp 0) rfl _ rfl ?_; intro g W1 hg hbx aw; have HX := ak hbx; have HB := ak aw; have ji := HX.out.cell 2 _ rfl; clear hg hbx aw))
  clear ji
  have qH := ak (HX.out.below (bu (Below.refl W1.heap.size W1)))
  replace HB := ak (HB.out.trans ((bu (Below.refl W1.heap.size W1)).mono HB.out.size))
  have HD := ak (Below.refl W1.drew.heap.size W1.drew)
  clear HX
  refine dV (n := 17) (S := fun w' => Below W1.drew.heap.size W1.drew w') (ds := []) #[false, false, false, false, false, false, false, false, false, false, false, false, false, false, false, false, false] (by kernel_rfl) rfl rfl (Below.refl _ _) (fun hHeld => ?_); refine cz yA.tab4 yA.bits4 (fun aa bV => ?_)
  refine pu 0 aa.out ?_
  refine pu 1 aa.out ?_
  refine tk 2 aa.out bV.out hHeld ?_ (hv := by intro w' bx; have x0 := (qH.out.below bx).cell 0 _ rfl; go_simp; with_reducible rfl)
  refine pu 3 aa.out ?_
  refine pu 7 aa.out ?_
  refine pu 8 aa.out ?_
  refine tk 9 aa.out bV.out hHeld ?_ (hv := by intro w' bx; have x0 := (qH.out.below bx).cell 1 _ rfl; go_simp; with_reducible rfl)
  refine pu 10 aa.out ?_
  refine pu 14 aa.out ?_
  refine JX (σ := Value × Value) 3 #[true, true, true, true, true, true, true, true, true, true, true, true, true, false, true, false, false] (fun s => [(10, s.1), (11, .string (strOfNums l4)), (12, .string ((⟨#[80]⟩ : ByteArray) ++ strOfNums l4)), (17, s.2), (18, .string (strOfNums [bi % 256]))]) (fun s w' => Aside0 (Below w.heap.size w w')) ?_ ?_
  rotate_left
  ·intro qt
   refine tw 4 11 aa.out (fun K hK => ?_) (fun K hK => ?_)
   ·skip
    refine gs Tryz.func63 #[.int .u64 (IntKind.u64.wrap ai), .int .i64 4] (av.calls 20 _ 4 l4 _ HF.out) ?_
    rintro e VV ⟨v10, rfl, rW, ao⟩
    refine ⟨_, rfl, ?_⟩
    have HA := ak (Kd.R_lower rW HB.out.size); (try replace HR := mv ao HR); replace HB := mv ao HB; replace HD := mv ao HD; clear rW ao
    refine kn hK HD.out (fun hHeld => ?_)
    clear hK K
    refine tw 5 11 aa.out (fun K hK => ?_) (fun K hK => ?_)
    ·skip
     have tW := di (P := Tryz.prog) Tryz.underlying61 Tryz.underlying5 Tryz.underlying9 (Kd.own_of_R HA.out)
     refine eJ (v := .string (strOfNums l4)) (w1 := VV) (by rfl) ?_ ?_
     ·go_simp
      try rfl
     refine kn hK HD.out (fun hHeld => ?_)
     clear hK K
     refine pu 6 aa.out ?_
     refine on 11 aa.out (fun K hK => ?_)
     refine Kd.R_lit_step (Kd.int .u8) _ 5 ?hg (N := 17) ?hd (xs := ([bi % 256] : List Int)) (inner := [.int .u8 (bi % 256)]) (ok := fun _ => True) (okp := fun _ => True) ?hr ?hp (fun _ hk => hk) trivial (Below.refl _ _) (Nat.le_refl _) (by simp) ?_
     (case hd => rfl)
     (case hg => rfl)
     (case hr => first | (go_simp; done) | (go_simp; rfl))
     (case hp => exact (bZ.one (show Kd.M (Kd.int .u8) _ _ _ (bi % 256) [.int .u8 (bi % 256)] from rfl) (bZ.none _ _)))
     intro Dc VV rW ao bO jI
     have HR := ak (Kd.R_lower rW HB.out.size)
     (try replace HA := mv ao HA)
     replace HB := mv ao HB
     replace HD := mv ao HD
     clear rW ao bO jI
     refine kn hK HD.out (fun hHeld => ?_)
     clear hK K
     refine on 12 aa.out (fun K hK => ?_)
     have tW := di (P := Tryz.prog) Tryz.underlying61 Tryz.underlying5 Tryz.underlying9 (Kd.own_of_R HR.out)
     refine eJ (v := .string (strOfNums [bi % 256])) (w1 := VV) (by rfl) ?_ ?_
     ·go_simp
      try rfl
     refine kn hK HD.out (fun hHeld => ?_)
     clear hK K
     exact nc (qt ⟨v10, Dc⟩ _ HB)
    ·skip
     refine Kd.R_lit_step (Kd.int .u8) _ 5 ?hg (N := 17) ?hd (xs := ([bi % 256] : List Int)) (inner := [.int .u8 (bi % 256)]) (ok := fun _ => True) (okp := fun _ => True) ?hr ?hp (fun _ hk => hk) trivial (Below.refl _ _) (Nat.le_refl _) (by simp) ?_
     (case hd => rfl)
     (case hg => rfl)
     (case hr => first | (go_simp; done) | (go_simp; rfl))
     (case hp => exact (bZ.one (show Kd.M (Kd.int .u8) _ _ _ (bi % 256) [.int .u8 (bi % 256)] from rfl) (bZ.none _ _)))
     intro Dc VV rW ao bO jI
     have HR := ak (Kd.R_lower rW HB.out.size)
     (try replace HA := mv ao HA)
     replace HB := mv ao HB
     replace HD := mv ao HD
     clear rW ao bO jI
     refine kn hK HD.out (fun hHeld => ?_)
     clear hK K
     refine tw 5 12 aa.out (fun K hK => ?_) (fun K hK => ?_)
     ·skip
      have tW := di (P := Tryz.prog) Tryz.underlying61 Tryz.underlying5 Tryz.underlying9 (Kd.own_of_R HA.out)
      refine eJ (v := .string (strOfNums l4)) (w1 := VV) (by rfl) ?_ ?_
      ·go_simp
       try rfl
      refine kn hK HD.out (fun hHeld => ?_)
      clear hK K
      refine pu 6 aa.out ?_
      refine on 12 aa.out (fun K hK => ?_)
      have tW := di (P := Tryz.prog) Tryz.underlying61 Tryz.underlying5 Tryz.underlying9 (Kd.own_of_R HR.out)
      refine eJ (v := .string (strOfNums [bi % 256])) (w1 := VV) (by rfl) ?_ ?_
      ·go_simp
       try rfl
      refine kn hK HD.out (fun hHeld => ?_)
      clear hK K
      exact nc (qt ⟨v10, Dc⟩ _ HB)
     ·skip
      have tW := di (P := Tryz.prog) Tryz.underlying61 Tryz.underlying5 Tryz.underlying9 (Kd.own_of_R HR.out)
      refine eJ (v := .string (strOfNums [bi % 256])) (w1 := VV) (by rfl) ?_ ?_
      ·go_simp
       try rfl
      refine kn hK HD.out (fun hHeld => ?_)
      clear hK K
      refine on 5 aa.out (fun K hK => ?_)
      have tW := di (P := Tryz.prog) Tryz.underlying61 Tryz.underlying5 Tryz.underlying9 (Kd.own_of_R HA.out)
      refine eJ (v := .string (strOfNums l4)) (w1 := VV) (by rfl) ?_ ?_
      ·go_simp
       try rfl
      refine kn hK HD.out (fun hHeld => ?_)
      clear hK K
      refine pu 6 aa.out ?_
      exact nc (qt ⟨v10, Dc⟩ _ HB)
   ·skip
    refine Kd.R_lit_step (Kd.int .u8) _ 5 ?hg (N := 17) ?hd (xs := ([bi % 256] : List Int)) (inner := [.int .u8 (bi % 256)]) (ok := fun _ => True) (okp := fun _ => True) ?hr ?hp (fun _ hk => hk) trivial (Below.refl _ _) (Nat.le_refl _) (by simp) ?_
    (case hd => rfl)
    (case hg => rfl)
    (case hr => first | (go_simp; done) | (go_simp; rfl))
    (case hp => exact (bZ.one (show Kd.M (Kd.int .u8) _ _ _ (bi % 256) [.int .u8 (bi % 256)] from rfl) (bZ.none _ _)))
    intro Dc VV rW ao bO jI
    have HR := ak (Kd.R_lower rW HB.out.size)
    (try replace HA := mv ao HA)
    replace HB := mv ao HB
    replace HD := mv ao HD
    clear rW ao bO jI
    refine kn hK HD.out (fun hHeld => ?_)
    clear hK K
    refine tw 4 12 aa.out (fun K hK => ?_) (fun K hK => ?_)
    ·skip
     refine gs Tryz.func63 #[.int .u64 (IntKind.u64.wrap ai), .int .i64 4] (av.calls 20 _ 4 l4 _ HF.out) ?_
     rintro e VV ⟨v10, rfl, rW, ao⟩
     refine ⟨_, rfl, ?_⟩
     have HA := ak (Kd.R_lower rW HB.out.size); (try replace HR := mv ao HR); replace HB := mv ao HB; replace HD := mv ao HD; clear rW ao
     refine kn hK HD.out (fun hHeld => ?_)
     clear hK K
     refine tw 5 12 aa.out (fun K hK => ?_) (fun K hK => ?_)
     ·skip
      have tW := di (P := Tryz.prog) Tryz.underlying61 Tryz.underlying5 Tryz.underlying9 (Kd.own_of_R HA.out)
      refine eJ (v := .string (strOfNums l4)) (w1 := VV) (by rfl) ?_ ?_
      ·go_simp
       try rfl
      refine kn hK HD.out (fun hHeld => ?_)
      clear hK K
      refine pu 6 aa.out ?_
      refine on 12 aa.out (fun K hK => ?_)
      have tW := di (P := Tryz.prog) Tryz.underlying61 Tryz.underlying5 Tryz.underlying9 (Kd.own_of_R HR.out)
      refine eJ (v := .string (strOfNums [bi % 256])) (w1 := VV) (by rfl) ?_ ?_
      ·go_simp
       try rfl
      refine kn hK HD.out (fun hHeld => ?_)
      clear hK K
      exact nc (qt ⟨v10, Dc⟩ _ HB)
     ·skip
      have tW := di (P := Tryz.prog) Tryz.underlying61 Tryz.underlying5 Tryz.underlying9 (Kd.own_of_R HR.out)
      refine eJ (v := .string (strOfNums [bi % 256])) (w1 := VV) (by rfl) ?_ ?_
      ·go_simp
       try rfl
      refine kn hK HD.out (fun hHeld => ?_)
      clear hK K
      refine on 5 aa.out (fun K hK => ?_)
      have tW := di (P := Tryz.prog) Tryz.underlying61 Tryz.underlying5 Tryz.underlying9 (Kd.own_of_R HA.out)
      refine eJ (v := .string (strOfNums l4)) (w1 := VV) (by rfl) ?_ ?_
      ·go_simp
       try rfl
      refine kn hK HD.out (fun hHeld => ?_)
      clear hK K
      refine pu 6 aa.out ?_
      exact nc (qt ⟨v10, Dc⟩ _ HB)
    ·skip
     have tW := di (P := Tryz.prog) Tryz.underlying61 Tryz.underlying5 Tryz.underlying9 (Kd.own_of_R HR.out)
     refine eJ (v := .string (strOfNums [bi % 256])) (w1 := VV) (by rfl) ?_ ?_
     ·go_simp
      try rfl
     refine kn hK HD.out (fun hHeld => ?_)
     clear hK K
     refine on 4 aa.out (fun K hK => ?_)
     refine gs Tryz.func63 #[.int .u64 (IntKind.u64.wrap ai), .int .i64 4] (av.calls 20 _ 4 l4 _ HF.out) ?_
     rintro e VV ⟨v10, rfl, rW, ao⟩
     refine ⟨_, rfl, ?_⟩
     have HA := ak (Kd.R_lower rW HB.out.size); (try replace HR := mv ao HR); replace HB := mv ao HB; replace HD := mv ao HD; clear rW ao
     refine kn hK HD.out (fun hHeld => ?_)
     clear hK K
     refine on 5 aa.out (fun K hK => ?_)
     have tW := di (P := Tryz.prog) Tryz.underlying61 Tryz.underlying5 Tryz.underlying9 (Kd.own_of_R HA.out)
     refine eJ (v := .string (strOfNums l4)) (w1 := VV) (by rfl) ?_ ?_
     ·go_simp
      try rfl
     refine kn hK HD.out (fun hHeld => ?_)
     clear hK K
     refine pu 6 aa.out ?_
     exact nc (qt ⟨v10, Dc⟩ _ HB)
  intro s w' hFF; clear HD HB; have HB := hFF
  refine nj ?_
  refine pu 13 aa.out ?_
  refine pu 15 aa.out ?_
  refine pu 16 aa.out ?_
  refine dn aa.out ?_
  go_wp2
  go_ret
  exact ⟨rfl, HB.out⟩
def Vn (d1 d2 : Int) (o : Bool) (x : ByteArray) : Prop := ∀ w : World, Calls Tryz.prog 39 #[.agg #[.int .u32 d1, .int .i64 d2, .bool o]] w fun e w' => e = .returned (.string x) ∧ Below w.heap.size w w'
end
section
attribute [local go_sem] bq bn bI bH aW aV bp bj
def fJ.f (k : Nat) (aI : Int) (ax : Int) (iL : Bool) : Option (Bool) := (cL.f k aI ax).bind fun vR => (if vR = true then (if ax ≥ 16 then (some (decide (ax ≤ 26))) else (some false)) else (some false))
set_option maxHeartbeats 8000000 in
set_option maxRecDepth 100000 in
theorem fJ.calls (k : Nat) (aI : Int) (ax : Int) (iL : Bool) (r : Bool) (w : World) (h : fJ.f k aI ax iL = some r) :
  Calls Tryz.prog 38 #[.agg #[.int .u32 aI, .int .i64 ax, .bool iL]] w fun e w' => e = .returned (.bool r) ∧ Below w.heap.size w w' := by
 have Zu := Tryz.underlying45
 have JZ := Tryz.underlying43
 have HB := ak (Below.refl w.heap.size w)
 have H : ((cL.f k aI ax).bind fun vR => (if vR = true then (if ax ≥ 16 then (some (decide (ax ≤ 26))) else (some false)) else (some false))) = some r := h
 clear h
 replace H := Option.bind_eq_some_iff.mp H
 obtain ⟨vR, eS, H⟩ := H
 replace H : (if vR = true then (if ax ≥ 16 then (some (decide (ax ≤ 26))) else (some false)) else (some false)) = some r := H
 have A2 := ak eS
 clear eS
 by_cases c3 : vR = true
 ·subst c3
  replace H : (if ax ≥ 16 then (some (decide (ax ≤ 26))) else (some false)) = some r := by rw [if_pos rfl] at H; exact H
  by_cases c4 : ax ≥ 16
  ·rw [if_pos c4] at H
   have eQ := decide_eq_true c4
   clear c4
   obtain rfl := Option.some.inj H
   go_enter Tryz.func38, Tryz.ntmps38
   go_wp2_with (first | ((with_reducible refine af (N := 1) rfl ?_); refine bE (N := 1) (cs := #[.int .u32 aI, .int .i64 ax, .bool iL]) (t := 45) ?_; intro pC hg w5 hbox hb; have cU := ak (hbox); have Jk := ak (gl hg : w.heap.size ≤ pC); have Jq := ak (gl hg : w.heap.size ≤ pC); replace HB := bs hb; clear hb hbox hg; have yu := cf cU 0; have yt := cf cU 1; have FI := cf cU 2; have yr := J cU.out 0; have yq := J cU.out 1; have FE := J cU.out 2) | ((with_reducible refine au (f := 49) rfl ?_); refine gC (some 5) Tryz.func49 #[.agg #[.int .u32 aI, .int .i64 ax]] ?_; (with_reducible refine (cL.calls k aI ax true _ A2.out).mono ?_); rintro e w7 ⟨rfl, hb⟩; refine ⟨_, rfl, ?_⟩; replace cU := bm cU hb; replace HB := bs hb; (try clear hb); (try clear aU); (try clear hk); (try clear hi); have qq := cf cU 0; have qp := cf cU 1; have FH := cf cU 2; have qo := J cU.out 0; have qn := J cU.out 1; have FD := J cU.out 2))
   go_ret
   exact ⟨rg, bl⟩
  ·rw [if_neg c4] at H
   have eQ := decide_eq_false c4
   clear c4
   obtain rfl := Option.some.inj H
   go_enter Tryz.func38, Tryz.ntmps38
   go_wp2_with (first | ((with_reducible refine af (N := 1) rfl ?_); refine bE (N := 1) (cs := #[.int .u32 aI, .int .i64 ax, .bool iL]) (t := 45) ?_; intro pC hg w9 hbox hb; have cU := ak (hbox); have Jk := ak (gl hg : w.heap.size ≤ pC); have Jq := ak (gl hg : w.heap.size ≤ pC); replace HB := bs hb; clear hb hbox hg; have tc := cf cU 0; have tb := cf cU 1; have CH := cf cU 2; have ta := J cU.out 0; have s9 := J cU.out 1; have Cw := J cU.out 2) | ((with_reducible refine au (f := 49) rfl ?_); refine gC (some 5) Tryz.func49 #[.agg #[.int .u32 aI, .int .i64 ax]] ?_; (with_reducible refine (cL.calls k aI ax true _ A2.out).mono ?_); rintro e Db ⟨rfl, hb⟩; refine ⟨_, rfl, ?_⟩; replace cU := bm cU hb; replace HB := bs hb; (try clear hb); (try clear aU); (try clear hk); (try clear hi); have CG := cf cU 0; have CF := cf cU 1; have Sf := cf cU 2; have Cv := J cU.out 0; have Cu := J cU.out 1; have RO := J cU.out 2))
   go_ret
   exact ⟨rg, bl⟩
 ·replace c3 := Bool.eq_false_iff.mpr c3
  subst c3
  replace H : (some false) = some r := by rw [if_neg (show ¬ (false = true) by decide)] at H; exact H
  obtain rfl := Option.some.inj H
  go_enter Tryz.func38, Tryz.ntmps38
  go_wp2_with (first | ((with_reducible refine af (N := 1) rfl ?_); refine bE (N := 1) (cs := #[.int .u32 aI, .int .i64 ax, .bool iL]) (t := 45) ?_; intro pC hg tj hbox hb; have cU := ak (hbox); have Jk := ak (gl hg : w.heap.size ≤ pC); have Jq := ak (gl hg : w.heap.size ≤ pC); replace HB := bs hb; clear hb hbox hg; have CE := cf cU 0; have CD := cf cU 1; have Sc := cf cU 2; have Ct := J cU.out 0; have Cs := J cU.out 1; have RL := J cU.out 2) | ((with_reducible refine au (f := 49) rfl ?_); refine gC (some 5) Tryz.func49 #[.agg #[.int .u32 aI, .int .i64 ax]] ?_; (with_reducible refine (cL.calls k aI ax false _ A2.out).mono ?_); rintro e vG ⟨rfl, hb⟩; refine ⟨_, rfl, ?_⟩; replace cU := bm cU hb; replace HB := bs hb; (try clear hb); (try clear aU); (try clear hk); (try clear hi)))
  go_ret
  exact ⟨rg, bl⟩
end
section
def qQ (a b : Nat) (o : Bool) : List Int := 80 :: (lR a ++ [(b : Int), if o = true then 1 else 0])
theorem JR (s : ByteArray) (h : nh s = true) : bytesOf s = ((az (r0 s).1 : Nat) : Int) :: (lR (az (r1 s).1) ++ [((az (q2 s).1 : Nat) : Int), ((az (q3 s).1 : Nat) : Int)]) := by
 unfold nh at h
 simp only [Bool.and_eq_true, Bool.not_eq_true', beq_iff_eq] at h
 obtain ⟨b2, n3, e3⟩ := dF (show (aC (q2 s).2.1 (q2 s).2.2 1).2.2 = false from h.1)
 obtain ⟨b1, n2, e2⟩ := dF (show (aC (r1 s).2.1 (r1 s).2.2 1).2.2 = false from b2)
 obtain ⟨b0, n1, e1⟩ := dF (show (aC (r0 s).2.1 (r0 s).2.2 4).2.2 = false from b1)
 obtain ⟨_, n0, e0⟩ := dF (show (aC (bytesOf s) false 1).2.2 = false from b0)
 have E0 : bytesOf s = (r0 s).1 ++ (r0 s).2.1 := e0
 have E1 : (r0 s).2.1 = (r1 s).1 ++ (r1 s).2.1 := e1
 have E2 : (r1 s).2.1 = (q2 s).1 ++ (q2 s).2.1 := e2
 have E3 : (q2 s).2.1 = (q3 s).1 := by
  have h3 : (q2 s).2.1 = (q3 s).1 ++ (q3 s).2.1 := e3
  rw [h3, List.eq_nil_of_length_eq_zero (show (q3 s).2.1.length = 0 by omega), List.append_nil]
 have F0 : (r0 s).1 = [((az (r0 s).1 : Nat) : Int)] := pe (b9 (kL s) false 1).1 n0
 have F1 : lR (az (r1 s).1) = (r1 s).1 := CT (b9 (pX s) _ 4).1 n1
 have F2 : (q2 s).1 = [((az (q2 s).1 : Nat) : Int)] := pe (b9 (uD s) _ 1).1 n2
 have F3 : (q3 s).1 = [((az (q3 s).1 : Nat) : Int)] := pe (b9 (Jx s) _ 1).1 n3
 rw [E0, E1, E2, E3, F1]
 conv => lhs; lhs; rw [F0]
 conv => lhs; rhs; rhs; rw [F2, F3]
 rfl
theorem Rn (a b : Nat) (hb : b < 256) (o : Bool) : dC (qQ a b o) := by
 intro x hx
 unfold qQ at hx
 rcases List.mem_cons.1 hx with rfl | hx
 ·omega
 ·rcases List.mem_append.1 hx with h | h
  ·exact Gi _ x h
  ·simp at h
   rcases h with rfl | rfl
   ·omega
   ·split <;> omega
theorem LD (a b : Nat) (ha : a < 4294967296) (hb : b < 256) (o : Bool) (s : ByteArray) (hs : bytesOf s = qQ a b o) : nh s = true ∧ (az (r0 s).1 = 80 ∧ (az (r1 s).1 = a ∧ (az (q2 s).1 = b ∧ az (q3 s).1 = if o = true then 1 else 0))) := by
 have hs' : bytesOf s = [80] ++ (lR a ++ ([(b : Int)] ++ ([if o = true then 1 else 0] ++ []))) := by rw [hs]; unfold qQ; simp
 have R0 : r0 s = ([80], lR a ++ ([(b : Int)] ++ ([if o = true then 1 else 0] ++ [])), false) := by
  unfold r0; rw [hs']; exact qx _ _ 1 rfl
 have R1 : r1 s = (lR a, [(b : Int)] ++ ([if o = true then 1 else 0] ++ []), false) := by
  unfold r1; rw [R0]; exact qx _ _ 4 rfl
 have R2 : q2 s = ([(b : Int)], [if o = true then 1 else 0] ++ [], false) := by
  unfold q2; rw [R1]; exact qx _ _ 1 rfl
 have R3 : q3 s = ([if o = true then 1 else 0], [], false) := by
  unfold q3; rw [R2]; exact qx _ _ 1 rfl
 refine ⟨by unfold nh; rw [R3]; rfl, by rw [R0]; rfl, by rw [R1]; exact OK a ha, by rw [R2]; simp [az], ?_⟩
 rw [R3]
 cases o <;> simp [az]
theorem Q0 (a b : Nat) (ha : a < 4294967296) (hb : b ≤ 26) (hm : jS a b = true) (o : Bool) (s : ByteArray) : (strOfNums (qQ a b o) = s) ↔ (ez s = true ∧ (az (r1 s).1 = a ∧ (az (q2 s).1 = b ∧ az (q3 s).1 = if o = true then 1 else 0))) := by
 constructor
 ·intro h
  have hs : bytesOf s = qQ a b o := by rw [← h, rj (Rn a b (by omega) o)]
  obtain ⟨h1, h2, h3, h4, h5⟩ := LD a b ha (by omega) o s hs
  refine ⟨?_, h3, h4, h5⟩
  unfold ez
  rw [h1, h2, h3, h4, h5, hm]
  cases o <;> rfl
 ·rintro ⟨h1, h2, h3, h4⟩
  unfold ez at h1
  simp only [Bool.and_eq_true, decide_eq_true_eq] at h1
  have hp := JR s h1.1
  rw [h1.2.1, h2, h3, h4] at hp
  have e : qQ a b o = bytesOf s := by
   rw [hp]
   unfold qQ
   cases o <;> rfl
  rw [e, vv]
theorem yB (a b : Nat) (ha : a < 4294967296) (o : Bool) (k : Nat) (hk : 33 ≤ k) : fJ.f k (a : Int) (b : Int) o = some (jS a b) := by
 unfold fJ.f jS
 rw [Lo a ha _ k hk, Option.bind_some]
 cases nX a b with
 | false => rfl
 | true =>
  rw [if_pos rfl, Bool.true_and]
  by_cases h : 16 ≤ b
  ·rw [if_pos (by omega), decide_eq_true h, Bool.true_and]
   congr 1
   rw [Bool.eq_iff_iff]
   simp
   omega
  ·rw [if_neg (by omega), decide_eq_false h]
   rfl
theorem J9 (a b : Nat) (ha : a < 4294967296) (hb : b < 256) (o : Bool) : Vn (a : Int) (b : Int) o (strOfNums (qQ a b o)) := fun w => by
 have hf : av.f 20 (IntKind.u64.wrap (a : Int)) 4 = some (lR a) := by rw [jY a (by omega)]; exact II a ha 20 (by omega)
 have e : strOfNums (qQ a b o) = (((⟨#[80]⟩ : ByteArray) ++ strOfNums (lR a)) ++ strOfNums [(b : Int) % 256]) ++ (if o = true then ⟨#[1]⟩ else ⟨#[0]⟩) := by
  rw [show (b : Int) % 256 = (b : Int) by omega]
  apply ByteArray.ext
  apply Array.ext'
  cases o <;> simp [qQ, strOfNums_data]
 rw [e]
 exact J8 _ _ _ hf (by rw [strOfNums_size]; rfl) o w
end
section
section
variable {g : Nat} {ok : Nat → Prop} {W : World}
theorem Xj (s : ByteArray) (h : Rq W g ok (r0 s).2.1 (r0 s).2.2) : Calls Tryz.prog 64 #[.pointer (some ⟨g, 0, none⟩), .int .i64 2] W fun e W' => e = .returned (.int .u64 (az (c1 s).1 : Nat)) ∧ Rq W' g ok (c1 s).2.1 (c1 s).2.2 ∧ W.grownBy W' (some g) := sf 2 (by omega) (by omega) (pX s) W h
theorem Xh {l : List Int} (hl : dC l) (h : Rq W g ok l false) : Calls Tryz.prog 64 #[.pointer (some ⟨g, 0, none⟩), .int .i64 4] W fun e W' => e = .returned (.int .u64 (az (gT l).1 : Nat)) ∧ Rq W' g ok (gT l).2.1 (gT l).2.2 ∧ W.grownBy W' (some g) := sf 4 (by omega) (by omega) hl W h
theorem Xi {l : List Int} (hl : dC l) (h : Rq W g ok (gT l).2.1 (gT l).2.2) : Calls Tryz.prog 64 #[.pointer (some ⟨g, 0, none⟩), .int .i64 2] W fun e W' => e = .returned (.int .u64 (az (iw l).1 : Nat)) ∧ Rq W' g ok (iw l).2.1 (iw l).2.2 ∧ W.grownBy W' (some g) := sf 2 (by omega) (by omega) (qL hl) W h
end
theorem OI (a b : Int) : Tryz.prog.built 144 [(0, .int .u32 a), (1, .int .i64 b)] = some [Value.int .u32 a, .int .i64 b].toArray := by kernel_rfl
def uu (s : ByteArray) (w : World) (e : Ending) (w' : World) : Prop := ∃ v, e = .returned (.tuple #[v, .bool (eK s)]) ∧ Kd.R ja 144 w' w.heap.size (fun _ => True) v (if eK s = true then (rc s).1.map ko else []) ∧ Below w.heap.size w w'
theorem wF {s : ByteArray} {w w' : World} {e : Ending} (he : e = .returned (.tuple #[.slice none 0 0, .bool false])) (h : eK s = false) (hb : Below w.heap.size w w') : uu s w e w' := by
 unfold uu
 subst he
 rw [h]
 exact ⟨_, rfl, Kd.R_nil _ _ _ _ _, hb⟩
theorem Ox {s : ByteArray} {w w' : World} {e : Ending} {bb : Nat} {v : Value} {M : List S144} (hen : e = .returned (.tuple #[v, .bool true])) (h : eK s = true) (hM : M = (rc s).1.map ko) (h1 : w.heap.size ≤ bb)
  (ha : Kd.R ja 144 w' bb (fun _ => True) v M) (hb : Below w.heap.size w w') : uu s w e w' := by
 unfold uu
 subst hen
 subst hM
 rw [h]
 exact ⟨_, rfl, Kd.R_lower ha h1, hb⟩
set_option maxHeartbeats 8000000 in
set_option maxRecDepth 100000 in
theorem Oy (s : ByteArray) (hs : s.size ≤ 1000000) (w : World) :
  Calls Tryz.prog 42 #[.string s] w (uu s w) := by
 have tV := we s
 have kk := E7 s
 have vr := ak (El s)
 have HIM := ak (Rp s)
 have HOK : Aside0 (eK s = (mI s && (decide (az (r0 s).1 = 72) && kI (rc s).1))) := ⟨rfl⟩
 have HDN : Aside0 (mI s = (!(rc s).2.2 && (((rc s).2.1.length : Int) == 0))) := ⟨rfl⟩
 have HRC : Aside0 (dI (az (c1 s).1) (c1 s).2.1 (c1 s).2.2 = rc s) := ⟨rfl⟩
 have HCO := ak (Pz s)
 have HCL := ak (Lv s)
 have H0 := ak (@Qc · · · s)
 have H1 := ak (@Xj · · · s)
 have HRB := ak (@Lm · · · s hs)
 generalize az (r0 s).1 = n0 at tV H0 HOK HIM
 generalize hp : c1 s = p at H1 HRC kk vr
 obtain ⟨Lp, lp, badp⟩ := p
 dsimp only at H1 HRC kk vr
 generalize az Lp = n1 at H1 HRC kk
 have kb := fun (w : World) => Lib.run_convert_string_bytes (P := Tryz.prog) w 9 61 5 s Tryz.underlying9 Tryz.underlying61 Tryz.underlying5
 clear hp
 go_enter Tryz.func42, Tryz.ntmps42
 go_wp2_with (first
  | ((with_reducible refine af (N := 11) rfl ?_); refine dh rfl 150 #[(0, .tmp 10)] rfl [(0, .slice (some ⟨w.heap.size, 0, none⟩) s.size (grownCap w s.size 0 5))] (by simp only [List.map_toArray, List.map_cons, List.map_nil]; rfl) [Value.slice (some ⟨w.heap.size, 0, none⟩) s.size (grownCap w s.size 0 5), .int .i64 0, .bool false] (Gf _ _ _) ?_)
  | (refine cH rfl 150 (.tmp 11) rfl _ rfl ?_; intro gr W2 hgr tY aU; have HBY := ak (Lib.bytesWorld_below w 5 s); have dW := ak (HBY.out.trans (aU.mono HBY.out.size)); have jr := ak (HRB.out _ _ _ aU hgr tY); have HGR := ak (show w.heap.size ≤ gr by rw [Lib.bytesWorld_size] at hgr; omega); have HGBR := ak (show w.heap.size < gr by rw [Lib.bytesWorld_size] at hgr; omega); generalize hbB : w.heap.size = gB at jr HGBR; clear hgr tY aU HBY HRB hbB kb)
  | (go_at_call 64; refine (H0.out _ _ _ jr.out).mono ?_; rintro e W3 ⟨rfl, fP, dd⟩; have kN := ak fP; have ep := ak (dW.out.grown dd dW.out.size (by intro k hk; cases hk; exact HGR.out)); clear fP dd jr dW)
  | (go_at_call 64; refine (H1.out _ _ _ kN.out).mono ?_; rintro e W4 ⟨rfl, yo, cQ⟩; have vu := ak yo; have iQ := ak (ep.out.grown cQ ep.out.size (by intro k hk; cases hk; exact HGR.out)); clear yo cQ kN ep))
 clear H0 H1
 obtain ⟨bb, hbb⟩ : ∃ bb, bb = gr + 1 := ⟨_, rfl⟩
 have GN := ak (show gB < bb by have := HGBR.out; omega)
 have KH := ak (show gr < bb by omega)
 have HWB := ak (show w.heap.size ≤ bb by have := HGR.out; omega)
 have HLE := ak (fun (W : World) (l : List Int) (bad : Bool) (h : Rq W gr (fun k => k = gB) l bad) => show bb ≤ W.heap.size by have := h.lt; omega)
 clear hbb
 go_loopw [4, 7, 8] (fun v i _ W => ∃ (k m : Nat) (l2 : List Int) (fC : Bool) (acc : List Cn), k + m = n1 ∧ acc.length ≤ k ∧ i = .int .i64 k ∧ Aside0 (Kd.R ja 144 W bb (fun _ => True) v (acc.map ko)) ∧ Aside0 (Rq W gr (fun k => k = gB) l2 fC) ∧ Aside0 (dC l2) ∧ Aside0 (Below w.heap.size w W) ∧ Aside0 (rc s = (acc ++ (dI m l2 fC).1, (dI m l2 fC).2))) (fun _ i _ _ => n1 - (intOf i).toNat)
 case atStart => exact ⟨0, n1, lp, badp, [], by omega, by simp, rfl, ⟨Kd.R_nil _ _ _ _ _⟩, vu, vr, iQ, ⟨by rw [HRC.out, List.nil_append]⟩⟩
 case round =>
  clear vu vr iQ HRC
  obtain ⟨k, m, l2, fC, acc, hkm, hacc, rfl, HA, HQ, HU, HB, HE⟩ := hrel
  obtain ⟨W, rfl⟩ : ∃ W : World, W = wr := ⟨_, rfl⟩
  by_cases hgo : 0 < m ∧ fC = false
  ·obtain ⟨hm, rfl⟩ := hgo
   obtain ⟨m, rfl⟩ : ∃ q, m = q + 1 := ⟨m - 1, by omega⟩
   have aw : decide ((k : Int) < (n1 : Int)) = true := by simp; omega
   have Uf : k < n1 := by omega
   have jc := HQ.out.c2
   have pM := ak (show rc s = (acc ++ (oU l2 :: (dI m (iw l2).2.1 (iw l2).2.2).1), (dI m (iw l2).2.1 (iw l2).2.2).2) from HE.out)
   have nU := ak (fun (W : World) (h : Rq W gr (fun k => k = gB) l2 false) => Xh HU.out h)
   have pL := ak (fun (W : World) (h : Rq W gr (fun k => k = gB) (gT l2).2.1 (gT l2).2.2) => Xi HU.out h)
   have nK := ak (yV HU.out)
   have Br : az (gT l2).1 < 4294967296 := Cf HU.out false
   have Bs : az (iw l2).1 < 65536 := y4 (qL HU.out) _
   have HAT : Aside0 (oU l2 = ⟨((az (gT l2).1 : Nat) : Int), ((az (iw l2).1 : Nat) : Int)⟩) := ⟨rfl⟩
   generalize oU l2 = U9 at pM HAT
   generalize iw l2 = q2 at pM pL nK HAT Bs
   generalize gT l2 = q0 at nU pL HAT Br
   obtain ⟨b0, l4, d4⟩ := q0
   obtain ⟨b1, l5, d5⟩ := q2
   dsimp only at nU pL nK HAT Br Bs
   generalize az b0 = x0 at nU HAT Br
   generalize az b1 = x1 at pL HAT Bs
   obtain rfl := HAT.out
   obtain ⟨M, hM⟩ : ∃ M : List S144, M = acc.map ko := ⟨_, rfl⟩
   obtain ⟨L, hL⟩ : ∃ L : List S144, L = M ++ [(⟨(x0 : Int), (x1 : Int)⟩ : S144)] := ⟨_, rfl⟩
   have HL := ak hL
   have HLM := ak (show L = (acc ++ [(⟨(x0 : Int), (x1 : Int)⟩ : Cn)]).map ko by rw [hL, hM, List.map_append]; rfl)
   have hml : M.length ≤ 65535 := by rw [hM, List.length_map]; omega
   rw [← hM] at HA
   have HKM := ak hkm
   clear HU HE hL hM hkm hm
   obtain ⟨Am, cm, rfl⟩ := Kd.R_slice HA.out
   go_wp2_with (first
    | (go_at_call 64; refine (nU.out _ HQ.out).mono ?_; rintro e W1 ⟨rfl, iN, cj⟩; have je := ak iN; have gj := ak (xw HA.out HQ.out (by decide) cj); have bR := ak (HB.out.grown cj HB.out.size (by intro k hk; cases hk; exact HGR.out)); clear iN cj HQ HA HB jc)
    | (go_at_call 64; refine (pL.out _ je.out).mono ?_; rintro e W2 ⟨rfl, iN, cj⟩; have jr := ak iN; have iJ := ak (xw gj.out je.out (by decide) cj); have dW := ak (bR.out.grown cj bR.out.size (by intro k hk; cases hk; exact HGR.out)); clear iN cj je gj bR)
    | ((with_reducible refine af (N := 38) rfl ?_); refine dh rfl 144 #[(0, .tmp 34), (1, .tmp 37)] rfl [(0, .int .u32 (x0 : Int)), (1, .int .i64 (x1 : Int))] (by simp only [List.map_toArray, List.map_cons, List.map_nil]; rfl) [Value.int .u32 (x0 : Int), .int .i64 (x1 : Int)] (OI _ _) ?_)
    | ((with_reducible refine cx (b := .append) (xs := #[.tmp 33, .tmp 39]) rfl ?_); at_builtin; refine Kd.R_append ja (w0 := W2) bb rfl (.tmp 33) (.tmp 39) 50 144 (.agg #[.int .u32 0, .int .i64 0]) 16 rfl Tryz.underlying50 Iq rfl (by decide) (by omega) _ M ⟨(x0 : Int), (x1 : Int)⟩ [.int .u32 (x0 : Int), .int .i64 (x1 : Int)] (fun _ => True) (fun _ => False) rfl rfl (Fh _ _ _ _) (fun _ hk => hk.elim) (fun _ _ => trivial) iJ.out (Below.refl _ _) (HLE.out _ _ _ jr.out) (by omega) ?_; intro v1 w1 fx aw cj j9; have kN := ak (AY jr.out iJ.out cj GN.out KH.out); rw [← HL.out] at fx; have ur := ak fx; have ep := ak (dW.out.trans (aw.mono HWB.out)); clear fx aw cj j9 jr iJ dW))
   go_roundw
   case rel => exact ⟨k + 1, m, l5, d5, acc ++ [⟨(x0 : Int), (x1 : Int)⟩], by have := HKM.out; omega, by rw [List.length_append, List.length_singleton]; omega, by go_num, ⟨by rw [← HLM.out]; exact ur.out⟩, kN, nK, ep, ⟨by rw [pM.out]; simp⟩⟩
   case measure => simp [intOf]; omega
  ·have hEx : rc s = (acc, l2, fC) ∧ (m = 0 ∨ (0 < m ∧ fC = true)) := by
    rcases Nat.eq_zero_or_pos m with rfl | hm
    ·exact ⟨by rw [HE.out]; simp [dI], .inl rfl⟩
    ·obtain ⟨m, rfl⟩ : ∃ q, m = q + 1 := ⟨m - 1, by omega⟩
     have hbad : fC = true := by
      cases fC with
      | true => rfl
      | false => exact absurd ⟨hm, rfl⟩ hgo
     subst hbad
     exact ⟨by rw [HE.out]; simp [dI], .inr ⟨hm, rfl⟩⟩
   obtain ⟨zH, hcase⟩ := hEx
   obtain ⟨M, hM⟩ : ∃ M : List S144, M = acc.map ko := ⟨_, rfl⟩
   have HMR := ak (show M = (rc s).1.map ko by rw [zH, hM])
   have hr := Oq HCO.out HCL.out
   have hput := Sm HCO.out HCL.out
   rw [← HMR.out] at hr hput
   obtain ⟨tx, htx⟩ : ∃ tx, strOfNums (Ch (rc s).1) = tx := ⟨_, rfl⟩
   rw [htx] at hput
   have HPT := ak hput
   have hdn := HDN.out
   rw [zH] at hdn
   dsimp only at hdn
   have hpi := HIM.out
   rw [htx] at hpi
   have hml : M.length ≤ 65535 := by rw [hM, List.length_map]; omega
   rw [← hM] at HA
   clear hM zH HE hgo htx hput
   obtain ⟨Am, cm, rfl⟩ := Kd.R_slice HA.out
   have jc := HQ.out.c2
   have hok := HOK.out
   generalize kI (rc s).1 = rt at hr hok
   have HRT := ak hr
   clear hr
   rcases hcase with rfl | ⟨hm, rfl⟩
   rotate_left
   have aw : decide ((k : Int) < (n1 : Int)) = true := by simp; omega
   have Uf : k < n1 := by omega
   clear hkm hm
   rotate_left
   obtain rfl : k = n1 := by omega
   have aw : decide ((k : Int) < (k : Int)) = false := by simp
   clear hkm
   rotate_left
   ·have HNO := ak (show eK s = false by rw [hok, hdn]; rfl)
    clear hok hdn hpi
    go_wp2
    go_ret2
    exact wF rfl HNO.out HB.out
   ·cases fC with
    | true =>
     have HNO := ak (show eK s = false by rw [hok, hdn]; rfl)
     clear hok hdn hpi
     go_wp2
     go_ret2
     exact wF rfl HNO.out HB.out
    | false =>
     by_cases Mt : l2.length = 0
     ·have hd : mI s = true := by rw [hdn, Mt]; rfl
      have hlf : (if false = true then (0 : Int) else (l2.length : Int)) = 0 := by rw [Mt]; rfl
      have hpi := hpi hd
      rw [hd, Bool.true_and] at hok
      clear hdn hd
      cases rt with
      | false =>
       have HNO := ak (show eK s = false by rw [hok, Bool.and_false])
       clear hpi hok
       go_wp2_with (first
        | (go_at_call 67; refine (lP _ HQ.out).mono ?_; rw [hlf]; rintro e W1 ⟨rfl, aw⟩; have gj := ak (Kd.R_below HA.out aw); have bR := ak (HB.out.trans (aw.mono HB.out.size)); clear aw HA HB HQ jc)
        | (go_at_call 70; refine (bX.calls 65537 Am cm M false _ (eI gj.out).1 (eI gj.out).2 HRT.out).mono ?_; rintro e W2 ⟨rfl, aU⟩; have dW := ak (bR.out.trans (aU.mono bR.out.size)); clear aU))
       go_ret2
       exact wF rfl HNO.out dW.out
      | true =>
       rw [Bool.and_true] at hok
       by_cases pz : n0 = 72
       ·have xy := ak (show eK s = true by rw [hok, pz]; rfl)
        have htx := hpi.2 pz
        subst htx
        have hne : (tx.toList == tx.toList) = true := beq_self_eq_true _
        have Od : (tx.toList != tx.toList) = false := by simp
        clear hpi pz hok
        go_wp2_with (first
         | (go_at_call 67; refine (lP _ HQ.out).mono ?_; rw [hlf]; rintro e W1 ⟨rfl, aw⟩; have gj := ak (Kd.R_below HA.out aw); have bR := ak (HB.out.trans (aw.mono HB.out.size)); clear aw HA HB HQ jc)
         | (go_at_call 70; refine (bX.calls 65537 Am cm M true _ (eI gj.out).1 (eI gj.out).2 HRT.out).mono ?_; rintro e W2 ⟨rfl, aU⟩; have iJ := ak (Kd.R_below gj.out aU); have dW := ak (bR.out.trans (aU.mono bR.out.size)); clear aU gj bR)
         | (go_at_call 71; refine (bw.calls 65600 Am cm M tx _ (eI iJ.out).1 (eI iJ.out).2 HPT.out).mono ?_; rintro e W3 ⟨rfl, fy⟩; have ur := ak (Kd.R_below iJ.out fy); have ep := ak (dW.out.trans (fy.mono dW.out.size)); clear fy iJ dW))
        go_ret2
        exact Ox rfl xy.out HMR.out HWB.out ur.out ep.out
       ·have HNO := ak (show eK s = false by rw [hok, decide_eq_false pz])
        have hns : tx ≠ s := fun e => pz (hpi.1 e)
        have hne : (tx.toList == s.toList) = false := by rw [beq_eq_false_iff_ne]; exact fun e => hns (sL e)
        have Od : (tx.toList != s.toList) = true := by rw [bne, hne]; rfl
        have Zw : ¬ (tx.toList = s.toList) := fun e => hns (sL e)
        clear hpi pz hns hok
        go_wp2_with (first
         | (go_at_call 67; refine (lP _ HQ.out).mono ?_; rw [hlf]; rintro e W1 ⟨rfl, aw⟩; have gj := ak (Kd.R_below HA.out aw); have bR := ak (HB.out.trans (aw.mono HB.out.size)); clear aw HA HB HQ jc)
         | (go_at_call 70; refine (bX.calls 65537 Am cm M true _ (eI gj.out).1 (eI gj.out).2 HRT.out).mono ?_; rintro e W2 ⟨rfl, aU⟩; have iJ := ak (Kd.R_below gj.out aU); have dW := ak (bR.out.trans (aU.mono bR.out.size)); clear aU gj bR)
         | (go_at_call 71; refine (bw.calls 65600 Am cm M tx _ (eI iJ.out).1 (eI iJ.out).2 HPT.out).mono ?_; rintro e W3 ⟨rfl, fy⟩; have ur := ak (Kd.R_below iJ.out fy); have ep := ak (dW.out.trans (fy.mono dW.out.size)); clear fy iJ dW))
        go_ret2
        exact wF rfl HNO.out ep.out
     ·have HNO := ak (show eK s = false by rw [hok, hdn, show (((l2.length : Nat) : Int) == 0) = false by rw [beq_eq_false_iff_ne]; omega]; rfl)
      have hlf : (if false = true then (0 : Int) else (l2.length : Int)) = (l2.length : Int) := rfl
      have iI : decide ((l2.length : Int) > 0) = true := by simp; omega
      have aU : decide ((0 : Int) < (l2.length : Int)) = true := by simp; omega
      have fy : decide (0 < l2.length) = true := by simp; omega
      clear hok hdn hpi
      go_wp2_with (first
       | (go_at_call 67; refine (lP _ HQ.out).mono ?_; rw [hlf]; rintro e W1 ⟨rfl, aw⟩; have bR := ak (HB.out.trans (aw.mono HB.out.size)); clear aw HA HB HQ jc))
      go_ret2
      exact wF rfl HNO.out bR.out
end
section
def eZ.f (a0 : ByteArray) : Option (Int × ByteArray × List Int × List Int × (List (S78)) × Bool) := if a0.size ≤ 1000000 then some (if cB a0 = true then (cd a0).addr else 0, if cB a0 = true then (cd a0).aff else ⟨#[]⟩, if cB a0 = true then (cd a0).slots else [], if cB a0 = true then (cd a0).free else [], if cB a0 = true then (cd a0).attrs.map vc else [], cB a0) else none
theorem eZ.calls (a0 : ByteArray) (r1 : Int) (r2 : ByteArray) (r3 : List Int) (r4 : List Int) (r5 : List (S78)) (r6 : Bool) (w : World) (h : eZ.f a0 = some (r1, r2, r3, r4, r5, r6)) :
  Calls Tryz.prog 40 #[.string a0] w fun e w' => ∃ KW Ht Pw : Value, e = .returned (.tuple #[.agg #[.int .u32 r1, .string r2, KW, Ht, Pw], .bool r6]) ∧ Kd.R (Kd.int .i64) 3 w' w.heap.size (fun k_ => some k_ ≠ (Ht : Value).ownBlock) KW r3 ∧ Kd.R (Kd.int .i64) 3 w' w.heap.size (fun k_ => some k_ ≠ (KW : Value).ownBlock) Ht r4 ∧ Kd.R iZ 78 w' w.heap.size (fun _ => True) Pw r5 ∧ Below w.heap.size w w' := by
 unfold eZ.f at h
 split at h
 ·rename_i hs
  have h := Option.some.inj h
  simp only [Prod.mk.injEq] at h
  obtain ⟨rfl, rfl, rfl, rfl, rfl, rfl⟩ := h
  refine (OA a0 hs w).mono ?_
  rintro e w' ⟨vs, vf, va, h1, ⟨h2, h3, h4⟩, h5⟩
  exact ⟨vs, vf, va, h1, h2, h3, h4, h5⟩
 ·cases h
def gA.f (a0 : ByteArray) : Option ((List (S144)) × Bool) := if a0.size ≤ 1000000 then some (if eK a0 = true then (rc a0).1.map ko else [], eK a0) else none
theorem gA.calls (a0 : ByteArray) (r1 : List (S144)) (r2 : Bool) (w : World) (h : gA.f a0 = some (r1, r2)) :
  Calls Tryz.prog 42 #[.string a0] w fun e w' => ∃ rq : Value, e = .returned (.tuple #[rq, .bool r2]) ∧ Kd.R ja 144 w' w.heap.size (fun _ => True) rq r1 ∧ Below w.heap.size w w' := by
 unfold gA.f at h
 split at h
 ·rename_i hs
  have h := Option.some.inj h
  simp only [Prod.mk.injEq] at h
  obtain ⟨rfl, rfl⟩ := h
  exact Oy a0 hs w
 ·cases h
end
section
def uh (t val : ByteArray) : Bool := (iV t).2.2 && (cB val && (((iV t).2.1 == 26) && ((iV t).1 == (if cB val = true then (cd val).addr else 0))))
def dJ : List Value := [.int .i64 0, .string ⟨#[]⟩, .int .u32 0, .int .u32 0, .int .i64 0, .bool false, .int .u32 0, .string ⟨#[]⟩, .slice none 0 0, .slice none 0 0, .slice none 0 0, .int .i64 0, .slice none 0 0, .bool false]
def xa (a : Int) (s : ByteArray) (vs vf va : Value) : List Value := [.int .i64 2, .string ⟨#[]⟩, .int .u32 0, .int .u32 0, .int .i64 0, .bool false, .int .u32 a, .string s, vs, vf, va, .int .i64 0, .slice none 0 0, .bool false]
theorem iK (w : World) : (zeroValue 52).run Tryz.prog w = .ok (.agg dJ.toArray) w := by kernel_rfl
theorem qW : ∀ a : Act, Tryz.prog.built 52 ((#[] : Array (Nat × Operand)).map fun (i, x) => (i, a.eval x)).toList = some dJ.toArray := fun _ => by kernel_rfl
theorem IZ (a : Int) (s : ByteArray) (A1 : Option Addr) (n1 c1 : Nat) (A2 : Option Addr) (n2 c2 : Nat) (A3 : Option Addr) (n3 c3 : Nat) : Tryz.prog.built 52 [(0, .int .i64 2), (4, .agg #[.int .u32 a, .string s, .slice A1 n1 c1, .slice A2 n2 c2, .slice A3 n3 c3])] = some (xa a s (.slice A1 n1 c1) (.slice A2 n2 c2) (.slice A3 n3 c3)).toArray := by kernel_rfl
def GV (t val : ByteArray) (w : World) (e : Ending) (w' : World) : Prop := ∃ cs : List Value, e = .returned (.agg cs.toArray) ∧ (if uh t val = true then ∃ vs vf va, cs = xa (cd val).addr (cd val).aff vs vf va ∧ Kd.R (Kd.int .i64) 3 w' w.heap.size (fun k_ => some k_ ≠ vf.ownBlock) vs (cd val).slots ∧ Kd.R (Kd.int .i64) 3 w' w.heap.size (fun k_ => some k_ ≠ vs.ownBlock) vf (cd val).free ∧ Kd.R iZ 78 w' w.heap.size (fun _ => True) va ((cd val).attrs.map vc) else cs = dJ) ∧ Below w.heap.size w w'
theorem Ot {t val : ByteArray} {w w' : World} {e : Ending} (he : e = .returned (.agg dJ.toArray)) (h : uh t val = false) (hb : Below w.heap.size w w') : GV t val w e w' := ⟨dJ, he, by rw [h]; rfl, hb⟩
theorem MD {t val : ByteArray} {w w' : World} {e : Ending} {a : Int} {s : ByteArray} {ls lf : List Int} {la : List S78} {vs vf va : Value} (he : e = .returned (.agg (xa a s vs vf va).toArray)) (h : uh t val = true) (hq : eZ.f val = some (a, s, ls, lf, la, true))
  (h1 : Kd.R (Kd.int .i64) 3 w' w.heap.size (fun k_ => some k_ ≠ vf.ownBlock) vs ls) (h2 : Kd.R (Kd.int .i64) 3 w' w.heap.size (fun k_ => some k_ ≠ vs.ownBlock) vf lf) (h3 : Kd.R iZ 78 w' w.heap.size (fun _ => True) va la) (hb : Below w.heap.size w w') : GV t val w e w' := by
 have hok : cB val = true := by
  unfold uh at h
  simp only [Bool.and_eq_true] at h
  exact h.2.1
 unfold eZ.f at hq
 split at hq
 ·have hq := Option.some.inj hq
  simp only [Prod.mk.injEq, hok, if_true, true_and, and_true] at hq
  obtain ⟨rfl, rfl, rfl, rfl, rfl⟩ := hq
  exact ⟨_, he, by rw [h]; exact ⟨_, _, _, rfl, h1, h2, h3⟩, hb⟩
 ·cases hq
set_option maxHeartbeats 8000000 in
set_option maxRecDepth 100000 in
theorem ME (t val : ByteArray) (ht : t.size ≤ 1000) (hv : val.size ≤ 1000000) (w : World) :
  Calls Tryz.prog 13 #[.string (iY ++ t), .string val] w (GV t val w) := by
 obtain ⟨key, hkey⟩ : ∃ key, key = iY ++ t := ⟨_, rfl⟩
 have DI : key.toList = iY.data.toList ++ t.data.toList := by rw [hkey, Lib.toList_data, eV]
 have hlock : (key.toList == ([108, 111, 99, 107] : List UInt8)) = false := by
  rw [beq_eq_false_iff_ne, DI]
  intro h
  have h1 : (98 : UInt8) = 108 := congrArg (fun l : List UInt8 => l.headD 0) h
  exact absurd h1 (by decide)
 have mR := ak (show aq.f key ⟨#[112, 111, 111, 108, 47]⟩ = some (⟨#[]⟩, false) from DP _ _ (fun u h => by
  have h2 := congrArg (fun b : ByteArray => b.data.toList) h
  rw [hkey] at h2
  simp only [eV] at h2
  have h3 : (98 : UInt8) = 112 := congrArg (fun l : List UInt8 => l.headD 0) h2
  exact absurd h3 (by decide)))
 have mw := ak (show aq.f key ⟨#[98, 108, 111, 99, 107, 47]⟩ = some (t, true) by rw [hkey]; exact BR _ _)
 rw [← hkey]
 clear DI hkey
 have hnf : dv.f t = some (iV t) := if_pos ht
 have hbf : ∃ a s ls lf la, eZ.f val = some (a, s, ls, lf, la, cB val) ∧ a = (if cB val = true then (cd val).addr else 0) := ⟨_, _, _, _, _, if_pos hv, rfl⟩
 obtain ⟨a, s, ls, lf, la, hbf, ha⟩ := hbf
 have HIS : Aside0 (uh t val = ((iV t).2.2 && (cB val && (((iV t).2.1 == 26) && ((iV t).1 == a))))) := ⟨by unfold uh; rw [ha]⟩
 clear ha
 generalize iV t = d at hnf HIS
 obtain ⟨d1, d2, d3⟩ := d
 dsimp only at HIS
 generalize cB val = rok at hbf HIS
 have HNF := ak hnf
 have HBF := ak hbf
 obtain ⟨Qa, ZO⟩ : ∃ b, (d2 == 26) = b := ⟨_, rfl⟩
 obtain ⟨ea, hea⟩ : ∃ b, (d1 == a) = b := ⟨_, rfl⟩
 have hcs : (d3 = true ∧ rok = true ∧ Qa = true ∧ ea = true ∧ uh t val = true) ∨ (uh t val = false ∧ (d3 = false ∨ (d3 = true ∧ rok = false) ∨ (d3 = true ∧ rok = true ∧ Qa = false) ∨ (d3 = true ∧ rok = true ∧ Qa = true ∧ ea = false))) := by
  rw [HIS.out, ZO, hea]
  cases d3 <;> cases rok <;> cases Qa <;> cases ea <;> simp
 clear HIS hnf hbf
 rcases hcs with ⟨rfl, rfl, rfl, rfl, hok⟩ | ⟨hno, hcs⟩
 ·have HOK := ak hok
  clear hok
  go_enter Tryz.func13, Tryz.ntmps13
  go_wp2_with (first
   | (refine aE (some 4) rfl rfl 52 rfl dJ iK ?_; intro g4 W1 cQ cP aw; have HX := ak cP; have HB := ak aw; have jf := ak cQ; clear cP aw cQ)
   | (go_at_call 36; refine (aq.calls key ⟨#[112, 111, 111, 108, 47]⟩ _ _ _ mR.out).mono ?_; rintro e W2 ⟨rfl, ao⟩; replace HX := mv ao HX; replace HB := mv ao HB; clear ao mR)
   | (go_at_call 36; refine (aq.calls key ⟨#[98, 108, 111, 99, 107, 47]⟩ _ _ _ mw.out).mono ?_; rintro e W2 ⟨rfl, ao⟩; replace HX := mv ao HX; replace HB := mv ao HB; clear ao)
   | (go_at_call 37; refine (dv.calls t d1 d2 _ _ HNF.out).mono ?_; rintro e W2 ⟨rfl, ao⟩; replace HX := mv ao HX; replace HB := mv ao HB; clear ao)
   | (refine aE (some 12) rfl rfl 43 rfl ye (fun _ => by kernel_rfl) ?_; intro g12 W3 xh j8 ao; have O7 := ak (show w.heap.size ≤ g12 by have := HB.out.size; omega); have nU := ak (show g4 ≠ g12 by have := HX.out.lt; omega); have HY := ak j8; replace HX := mv ao HX; replace HB := mv ao HB; clear ao j8 xh)
   | (refine ay rfl 43 (.tmp 12) (.tmp 69) rfl g12 [.int .u32 d1, .int .i64 d2] rfl rfl 43 _ HY.out 2 (by kernel_rfl) rfl rfl (by intro u hu; simp at hu; rcases hu with rfl | rfl <;> rfl) ?_; intro W4 ph bO; replace HY := ak ph; replace HX := gn HX nU bO; replace HB := gb HB O7 bO; clear ph bO)
   | (go_at_call 40; refine (eZ.calls val a s ls lf la _ _ HBF.out).mono ?_; rintro e W5 ⟨KW, Ht, Pw, rfl, Fv, FF, FN, ao⟩; obtain ⟨A2, c2, rfl⟩ := Kd.R_slice Fv; obtain ⟨A3, c3, rfl⟩ := Kd.R_slice FF; obtain ⟨A4, c4, rfl⟩ := Kd.R_slice FN; have HS := ak (Kd.R_lower Fv HB.out.size); have HF := ak (Kd.R_lower FF HB.out.size); have HA := ak (Kd.R_lower FN HB.out.size); replace HX := mv ao HX; replace HY := mv ao HY; replace HB := mv ao HB; clear ao Fv FF FN)
   | (refine aE (some 14) rfl rfl 49 rfl gw (fun _ => by kernel_rfl) ?_; intro g14 W6 xg gK ao; have O6 := ak (show w.heap.size ≤ g14 by have := HB.out.size; omega); have KB := ak (show g4 ≠ g14 by have := HX.out.lt; omega); have GF := ak (show g12 ≠ g14 by have := HY.out.lt; omega); have HZ := ak gK; replace HX := mv ao HX; replace HY := mv ao HY; replace HS := mv ao HS; replace HF := mv ao HF; replace HA := mv ao HA; replace HB := mv ao HB; clear ao gK xg)
   | (refine ay rfl 49 (.tmp 14) (.tmp 74) rfl g14 [.int .u32 a, .string s, .slice A2 ls.length c2, .slice A3 lf.length c3, .slice A4 la.length c4] rfl rfl 49 _ HZ.out 5 (by kernel_rfl) rfl rfl (by intro u hu; simp at hu; rcases hu with rfl | rfl | rfl | rfl | rfl <;> rfl) ?_; intro W7 yk bO; replace HX := gn HX KB bO; replace HY := gn HY GF bO; replace HS := gr HS HZ bO; replace HF := gr HF HZ bO; replace HA := gr HA HZ bO; replace HB := gb HB O6 bO; replace HZ := ak yk; have iv := HY.out.cell 1 _ rfl; have en := HY.out.cell 0 _ rfl; have kT := HZ.out.cell 0 _ rfl; clear yk bO)
   | ((with_reducible refine af (N := 92) rfl ?_); refine a7 rfl 49 (.tmp 14) rfl g14 rfl _ _ _ HZ.out Tryz.underlying49 rfl 5 (by kernel_rfl) rfl ?_)
   | ((with_reducible refine af (N := 93) rfl ?_); refine dh rfl 52 #[(0, .const (.int .i64 2)), (4, .tmp 92)] rfl [(0, .int .i64 2), (4, .agg #[.int .u32 a, .string s, .slice A2 ls.length c2, .slice A3 lf.length c3, .slice A4 la.length c4])] (by simp only [List.map_toArray, List.map_cons, List.map_nil]; rfl) (xa a s (.slice A2 ls.length c2) (.slice A3 lf.length c3) (.slice A4 la.length c4)) (IZ _ _ _ _ _ _ _ _ _ _ _) ?_)
   | (refine ay rfl 52 (.tmp 4) (.tmp 93) rfl g4 (xa a s (.slice A2 ls.length c2) (.slice A3 lf.length c3) (.slice A4 la.length c4)) rfl rfl 52 _ HX.out 14 (by kernel_rfl) rfl rfl (by intro u hu; simp [xa] at hu; rcases hu with rfl | rfl | rfl | rfl | rfl | rfl | rfl | rfl | rfl | rfl | rfl | rfl | rfl | rfl <;> rfl) ?_; intro W9 eP cI)
   | ((with_reducible refine af (N := 94) rfl ?_); refine dE rfl 52 #[] rfl dJ (qW _) ?_)
   | (refine ay rfl 52 (.tmp 4) (.tmp 94) rfl g4 dJ rfl rfl 52 _ HX.out 14 (by kernel_rfl) rfl rfl (by intro u hu; simp [dJ] at hu; rcases hu with rfl | rfl | rfl | rfl | rfl | rfl | rfl | rfl | rfl | rfl | rfl | rfl | rfl | rfl <;> rfl) ?_; intro W9 eP cI))
  exact bodyPost_ret (results_cell_row rfl _ _ g4 52 _ (0, 0) _ rfl eP Tryz.underlying52 rfl (by kernel_rfl)) rfl (MD rfl HOK.out HBF.out (bS HS.out HX.out (by decide) cI) (bS HF.out HX.out (by decide) cI) (bS HA.out HX.out (by decide) cI) (HB.out.grown cI HB.out.size (by intro k hk; cases hk; exact jf.out)))
 ·have HNO := ak hno
  clear hno
  rcases hcs with rfl | ⟨rfl, rfl⟩ | ⟨rfl, rfl, rfl⟩ | ⟨rfl, rfl, rfl, rfl⟩
  all_goals
   go_enter Tryz.func13, Tryz.ntmps13
   go_wp2_with (first
    | (refine aE (some 4) rfl rfl 52 rfl dJ iK ?_; intro g4 W1 cQ cP aw; have HX := ak cP; have HB := ak aw; have jf := ak cQ; clear cP aw cQ)
    | (go_at_call 36; refine (aq.calls key ⟨#[112, 111, 111, 108, 47]⟩ _ _ _ mR.out).mono ?_; rintro e W2 ⟨rfl, ao⟩; replace HX := mv ao HX; replace HB := mv ao HB; clear ao mR)
    | (go_at_call 36; refine (aq.calls key ⟨#[98, 108, 111, 99, 107, 47]⟩ _ _ _ mw.out).mono ?_; rintro e W2 ⟨rfl, ao⟩; replace HX := mv ao HX; replace HB := mv ao HB; clear ao)
    | (go_at_call 37; refine (dv.calls t d1 d2 _ _ HNF.out).mono ?_; rintro e W2 ⟨rfl, ao⟩; replace HX := mv ao HX; replace HB := mv ao HB; clear ao)
    | (refine aE (some 12) rfl rfl 43 rfl ye (fun _ => by kernel_rfl) ?_; intro g12 W3 xh j8 ao; have O7 := ak (show w.heap.size ≤ g12 by have := HB.out.size; omega); have nU := ak (show g4 ≠ g12 by have := HX.out.lt; omega); have HY := ak j8; replace HX := mv ao HX; replace HB := mv ao HB; clear ao j8 xh)
    | (refine ay rfl 43 (.tmp 12) (.tmp 69) rfl g12 [.int .u32 d1, .int .i64 d2] rfl rfl 43 _ HY.out 2 (by kernel_rfl) rfl rfl (by intro u hu; simp at hu; rcases hu with rfl | rfl <;> rfl) ?_; intro W4 ph bO; replace HY := ak ph; replace HX := gn HX nU bO; replace HB := gb HB O7 bO; clear ph bO)
    | (go_at_call 40; refine (eZ.calls val a s ls lf la _ _ HBF.out).mono ?_; rintro e W5 ⟨KW, Ht, Pw, rfl, Fv, FF, FN, ao⟩; obtain ⟨A2, c2, rfl⟩ := Kd.R_slice Fv; obtain ⟨A3, c3, rfl⟩ := Kd.R_slice FF; obtain ⟨A4, c4, rfl⟩ := Kd.R_slice FN; have HS := ak (Kd.R_lower Fv HB.out.size); have HF := ak (Kd.R_lower FF HB.out.size); have HA := ak (Kd.R_lower FN HB.out.size); replace HX := mv ao HX; replace HY := mv ao HY; replace HB := mv ao HB; clear ao Fv FF FN)
    | (refine aE (some 14) rfl rfl 49 rfl gw (fun _ => by kernel_rfl) ?_; intro g14 W6 xg gK ao; have O6 := ak (show w.heap.size ≤ g14 by have := HB.out.size; omega); have KB := ak (show g4 ≠ g14 by have := HX.out.lt; omega); have GF := ak (show g12 ≠ g14 by have := HY.out.lt; omega); have HZ := ak gK; replace HX := mv ao HX; replace HY := mv ao HY; replace HS := mv ao HS; replace HF := mv ao HF; replace HA := mv ao HA; replace HB := mv ao HB; clear ao gK xg)
    | (refine ay rfl 49 (.tmp 14) (.tmp 74) rfl g14 [.int .u32 a, .string s, .slice A2 ls.length c2, .slice A3 lf.length c3, .slice A4 la.length c4] rfl rfl 49 _ HZ.out 5 (by kernel_rfl) rfl rfl (by intro u hu; simp at hu; rcases hu with rfl | rfl | rfl | rfl | rfl <;> rfl) ?_; intro W7 yk bO; replace HX := gn HX KB bO; replace HY := gn HY GF bO; replace HS := gr HS HZ bO; replace HF := gr HF HZ bO; replace HA := gr HA HZ bO; replace HB := gb HB O6 bO; replace HZ := ak yk; have iv := HY.out.cell 1 _ rfl; have en := HY.out.cell 0 _ rfl; have kT := HZ.out.cell 0 _ rfl; clear yk bO)
    | ((with_reducible refine af (N := 92) rfl ?_); refine a7 rfl 49 (.tmp 14) rfl g14 rfl _ _ _ HZ.out Tryz.underlying49 rfl 5 (by kernel_rfl) rfl ?_)
    | ((with_reducible refine af (N := 93) rfl ?_); refine dh rfl 52 #[(0, .const (.int .i64 2)), (4, .tmp 92)] rfl [(0, .int .i64 2), (4, .agg #[.int .u32 a, .string s, .slice A2 ls.length c2, .slice A3 lf.length c3, .slice A4 la.length c4])] (by simp only [List.map_toArray, List.map_cons, List.map_nil]; rfl) (xa a s (.slice A2 ls.length c2) (.slice A3 lf.length c3) (.slice A4 la.length c4)) (IZ _ _ _ _ _ _ _ _ _ _ _) ?_)
    | (refine ay rfl 52 (.tmp 4) (.tmp 93) rfl g4 (xa a s (.slice A2 ls.length c2) (.slice A3 lf.length c3) (.slice A4 la.length c4)) rfl rfl 52 _ HX.out 14 (by kernel_rfl) rfl rfl (by intro u hu; simp [xa] at hu; rcases hu with rfl | rfl | rfl | rfl | rfl | rfl | rfl | rfl | rfl | rfl | rfl | rfl | rfl | rfl <;> rfl) ?_; intro W9 eP cI)
    | ((with_reducible refine af (N := 94) rfl ?_); refine dE rfl 52 #[] rfl dJ (qW _) ?_)
    | (refine ay rfl 52 (.tmp 4) (.tmp 94) rfl g4 dJ rfl rfl 52 _ HX.out 14 (by kernel_rfl) rfl rfl (by intro u hu; simp [dJ] at hu; rcases hu with rfl | rfl | rfl | rfl | rfl | rfl | rfl | rfl | rfl | rfl | rfl | rfl | rfl | rfl <;> rfl) ?_; intro W9 eP cI))
   exact bodyPost_ret (results_cell_row rfl _ _ g4 52 _ (0, 0) _ rfl eP Tryz.underlying52 rfl (by kernel_rfl)) rfl (Ot rfl HNO.out (HB.out.grown cI HB.out.size (by intro k hk; cases hk; exact jf.out)))
end
section
abbrev rk := S52
def j4 : Rc → rk
 | .no => xS
 | .lock => ⟨6, ⟨#[]⟩, 0, C9, z49, 0, [], false⟩
 | .pool p => ⟨1, ⟨#[]⟩, 0, ⟨⟨p.f0.f0, p.f0.f1⟩, p.f1⟩, z49, 0, [], false⟩
 | .blk b => ⟨2, ⟨#[]⟩, 0, C9, ⟨b.addr, b.aff, b.slots, b.free, b.attrs.map vc⟩, 0, [], false⟩
 | .aff s a k => ⟨3, s, a, C9, z49, k, [], false⟩
 | .hnd s l => ⟨4, s, 0, C9, z49, 0, l.map ko, false⟩
 | .node s g => ⟨5, s, 0, C9, z49, 0, [], g⟩
def oE (r : Rc) (w : World) (e : Ending) (w' : World) : Prop := ∃ cs : List Value, e = .returned (.agg cs.toArray) ∧ e7.M w' w.heap.size (fun _ => True) (j4 r) cs ∧ Below w.heap.size w w'
def nw (k : Int) (s : ByteArray) (a pa pb : Int) (po : Bool) (st : Int) (v : Value) (g : Bool) : List Value := [.int .i64 k, .string s, .int .u32 a, .int .u32 pa, .int .i64 pb, .bool po, .int .u32 0, .string ⟨#[]⟩, .slice none 0 0, .slice none 0 0, .slice none 0 0, .int .i64 st, v, .bool g]
theorem nu (k : Int) (s : ByteArray) (a pa pb : Int) (po : Bool) (st : Int) (A : Option Addr) (n c : Nat) (g : Bool) : ∀ u ∈ nw k s a pa pb po st (.slice A n c) g, u.oneCell' = true := by
 intro u hu
 simp [nw] at hu
 rcases hu with rfl | rfl | rfl | rfl | rfl | rfl | rfl | rfl | rfl | rfl | rfl | rfl | rfl | rfl <;> rfl
theorem o7 {r : Rc} {w w' : World} {e : Ending} {k : Int} {s : ByteArray} {a pa pb : Int} {po : Bool} {st : Int} {v : Value} {g : Bool} {l : List S144} (he : e = .returned (.agg (nw k s a pa pb po st v g).toArray)) (hr : j4 r = ⟨k, s, a, ⟨⟨pa, pb⟩, po⟩, z49, st, l, g⟩)
  (hv : Kd.R ja 144 w' w.heap.size (fun _ => True) v l) (hb : Below w.heap.size w w') : oE r w e w' :=
 ⟨_, he, by rw [hr]; exact za _ _ _ _ (Kd.R_nil _ _ _ _ _) (Kd.R_nil _ _ _ _ _) (Kd.R_nil _ _ _ _ _) hv, hb⟩
section
variable {key val t : ByteArray}
theorem wh {p : ByteArray} {c : UInt8} (h : dk p key = some t) (hp : p.data.toList.head? = some c) (hc : c ≠ 108) : (key.toList == ([108, 111, 99, 107] : List UInt8)) = false := by
 rw [beq_eq_false_iff_ne, lL h, Lib.toList_data, eV]
 intro e
 have := congrArg List.head? e
 rw [List.head?_append, hp] at this
 exact hc (by simpa using this)
theorem rE {p : ByteArray} {c : UInt8} (h : dk p key = some t) (hp : p.data.toList.head? = some c) (hc : c ≠ 108) : gf key val = false := by
 unfold gf
 rw [wh h hp hc]
 rfl
theorem rC (h : dk jh key = none) : eT key val = false := by unfold eT oP; rw [h]; rfl
theorem tL (h : dk iY key = none) : ie key val = false := by unfold ie oB; rw [h]; rfl
theorem tM (h : dk ni key = none) : gy key val = false := by unfold gy oA; rw [h]; rfl
theorem tK (h : dk fa key = none) : ic key val = false := by unfold ic oN; rw [h]; rfl
theorem rD (h : dk iT key = none) : isNode key val = false := by unfold isNode oN; rw [h]; rfl
theorem cV {α : Type} {b : Bool} (h : b = false) (x y : α) : (if b = true then x else y) = y := by rw [h]; rfl
theorem JP (h : dk jh key = some t) : dt key val = if eT key val = true then .pool ⟨⟨(az (r1 val).1 : Nat), (az (q2 val).1 : Nat)⟩, decide (az (q3 val).1 = 1)⟩ else .no := by
 unfold dt
 rw [cV (rE (c := 112) h rfl (by decide)), cV (tL (cE h (c := 112) (d := 98) rfl rfl (by decide))), cV (tM (cE h (c := 112) (d := 97) rfl rfl (by decide))), cV (tK (cE h (c := 112) (d := 104) rfl rfl (by decide))), cV (rD (cE h (c := 112) (d := 110) rfl rfl (by decide)))]
theorem Zg (h : dk iY key = some t) : dt key val = if ie key val = true then .blk (cd val) else .no := by
 unfold dt
 rw [cV (rE (c := 98) h rfl (by decide)), cV (rC (cE h (c := 98) (d := 112) rfl rfl (by decide))), cV (tM (cE h (c := 98) (d := 97) rfl rfl (by decide))), cV (tK (cE h (c := 98) (d := 104) rfl rfl (by decide))), cV (rD (cE h (c := 98) (d := 110) rfl rfl (by decide)))]
theorem Zh (h : dk ni key = some t) : dt key val = if gy key val = true then .aff (oA key).1 (oA key).2.1 (l7 val).1 else .no := by
 unfold dt
 rw [cV (rE (c := 97) h rfl (by decide)), cV (rC (cE h (c := 97) (d := 112) rfl rfl (by decide))), cV (tL (cE h (c := 97) (d := 98) rfl rfl (by decide))), cV (tK (cE h (c := 97) (d := 104) rfl rfl (by decide))), cV (rD (cE h (c := 97) (d := 110) rfl rfl (by decide)))]
theorem Zf (h : dk fa key = some t) : dt key val = if bU t = true ∧ eK val = true then .hnd t (rc val).1 else .no := by
 have hO : oN fa key = if bU t = true then (t, true) else (⟨#[]⟩, false) := by unfold oN; rw [h]
 unfold dt
 rw [cV (rE (c := 104) h rfl (by decide)), cV (rC (cE h (c := 104) (d := 112) rfl rfl (by decide))), cV (tL (cE h (c := 104) (d := 98) rfl rfl (by decide))), cV (tM (cE h (c := 104) (d := 97) rfl rfl (by decide))), cV (rD (cE h (c := 104) (d := 110) rfl rfl (by decide)))]
 unfold ic
 rw [hO]
 cases bU t <;> cases eK val <;> rfl
theorem Ze (h : dk iT key = some t) : dt key val = if bU t = true ∧ (lV val).2 = 0 then .node t (lV val).1 else .no := by
 have hO : oN iT key = if bU t = true then (t, true) else (⟨#[]⟩, false) := by unfold oN; rw [h]
 unfold dt
 rw [cV (rE (c := 110) h rfl (by decide)), cV (rC (cE h (c := 110) (d := 112) rfl rfl (by decide))), cV (tL (cE h (c := 110) (d := 98) rfl rfl (by decide))), cV (tM (cE h (c := 110) (d := 97) rfl rfl (by decide))), cV (tK (cE h (c := 110) (d := 104) rfl rfl (by decide)))]
 unfold isNode
 rw [hO]
 cases bU t with
 | false => rfl
 | true =>
  by_cases hn : (lV val).2 = 0
  ·simp [hn]
  ·simp [hn]
theorem QX (h1 : dk jh key = none) (h2 : dk iY key = none) (h3 : dk ni key = none) (h4 : dk fa key = none) (h5 : dk iT key = none) : dt key val = if gf key val = true then .lock else .no := by
 unfold dt
 rw [cV (rC h1), cV (tL h2), cV (tM h3), cV (tK h4), cV (rD h5)]
def tA (v n : Nat) (val : ByteArray) (o : Bool) : Bool := (strOfNums (qQ v n o)).toList == val.toList
theorem xC (p q : ByteArray) : p.toList = q.toList ↔ p = q := by
 rw [ByteArray.toList_eq, ByteArray.toList_eq]
 exact ⟨fun h => by obtain ⟨⟨l⟩⟩ := p; obtain ⟨⟨l'⟩⟩ := q; simp_all, fun h => by rw [h]⟩
theorem LC (h : dk jh key = some t) (hd : fZ t = none) : dt key val = .no := by
 rw [JP h, cV]
 unfold eT oP
 rw [h]
 simp only [hd]
 rfl
theorem NL {v n : Nat} (h : dk jh key = some t) (hd : fZ t = some (v, n)) (hm : jS v n = false) : dt key val = .no := by
 rw [JP h, cV]
 unfold eT oP
 rw [h]
 simp only [hd]
 cases hp : ez val with
 | false => split <;> rfl
 | true =>
  unfold ez at hp
  simp only [Bool.and_eq_true] at hp
  have hpm := hp.2.2.2
  split
  ·simp only [Bool.true_and, if_true]
   cases h1 : ((((az (r1 val).1 : Nat) : Int) == (v : Int)) && (((az (q2 val).1 : Nat) : Int) == (n : Int))) with
   | false => rfl
   | true =>
    simp only [Bool.and_eq_true, beq_iff_eq] at h1
    rw [show az (r1 val).1 = v by omega, show az (q2 val).1 = n by omega, hm] at hpm
    cases hpm
  ·rfl
theorem NM {v n : Nat} (h : dk jh key = some t) (hd : fZ t = some (v, n)) (hm : jS v n = true) : dt key val = if tA v n val false = true then .pool ⟨⟨(v : Int), (n : Int)⟩, false⟩ else if tA v n val true = true then .pool ⟨⟨(v : Int), (n : Int)⟩, true⟩ else .no := by
 obtain ⟨g1, g2, g3, g4⟩ := oo hd
 have hn : n ≤ 26 := by unfold jS at hm; simp only [Bool.and_eq_true, decide_eq_true_eq] at hm; exact hm.2.2
 have hI : eT key val = (ez val && (decide (az (r1 val).1 = v) && decide (az (q2 val).1 = n))) := by
  unfold eT oP
  rw [h]
  simp only [hd, if_pos hn, Bool.true_and]
  cases ez val with
  | false => rfl
  | true =>
   rw [if_pos rfl, if_pos rfl]
   congr 1
   congr 1
   ·rw [Bool.eq_iff_iff, beq_iff_eq, decide_eq_true_iff]; omega
   ·rw [Bool.eq_iff_iff, beq_iff_eq, decide_eq_true_iff]; omega
 have hP : ∀ o, tA v n val o = true ↔ (ez val = true ∧ (az (r1 val).1 = v ∧ (az (q2 val).1 = n ∧ az (q3 val).1 = if o = true then 1 else 0))) := fun o => by
  unfold tA
  rw [beq_iff_eq, xC]
  exact Q0 v n g1 hn hm o val
 rw [JP h, hI]
 by_cases h0 : tA v n val false = true
 ·obtain ⟨a1, a2, a3, a4⟩ := (hP false).1 h0
  rw [if_pos h0, a1, a2, a3, a4]
  simp
 ·rw [if_neg h0]
  by_cases h1 : tA v n val true = true
  ·obtain ⟨a1, a2, a3, a4⟩ := (hP true).1 h1
   rw [if_pos h1, a1, a2, a3, a4]
   simp
  ·rw [if_neg h1, if_neg]
   intro hh
   simp only [Bool.and_eq_true, decide_eq_true_eq] at hh
   obtain ⟨a1, a2, a3⟩ := hh
   have a4 : az (q3 val).1 ≤ 1 := by
    unfold ez at a1
    simp only [Bool.and_eq_true, decide_eq_true_eq] at a1
    exact a1.2.2.1
   by_cases hq : az (q3 val).1 = 0
   ·exact h0 ((hP false).2 ⟨a1, a2, a3, by rw [hq]; rfl⟩)
   ·exact h1 ((hP true).2 ⟨a1, a2, a3, by rw [if_pos rfl]; omega⟩)
theorem XQ (h : dk iY key = some t) : uh t val = ie key val := by
 unfold uh ie oB iV oL
 rw [h]
 cases hd : fZ t with
 | none => simp [hd]
 | some q =>
  obtain ⟨v, n⟩ := q
  by_cases hn : n = 26
  ·subst hn
   simp only [Option.bind_some, hd, if_true]
   cases cB val with
   | false => rfl
   | true =>
    simp only [if_true, Bool.true_and]
    rw [Bool.eq_iff_iff]
    simp only [Bool.and_eq_true, beq_iff_eq]
    exact ⟨fun h => h.2.symm, fun h => ⟨rfl, h.symm⟩⟩
  ·have : ((n : Int) == 26) = false := by rw [beq_eq_false_iff_ne]; omega
   simp [hd, hn, this]
end
theorem Tt (key t val : ByteArray) (h : dk iY key = some t) (hk : key.size ≤ 1000) (hv : val.size ≤ 1000000) (w : World) : Calls Tryz.prog 13 #[.string key, .string val] w (oE (dt key val) w) := by
 rw [Zg h, ← XQ h, lL h]
 refine (ME t val (Nat.le_trans (lM h) hk) hv w).mono ?_
 rintro e w' ⟨cs, he, hc, hb⟩
 refine ⟨cs, he, ?_, hb⟩
 cases hi : uh t val with
 | true =>
  rw [hi] at hc
  obtain ⟨vs, vf, va, rfl, h1, h2, h3⟩ := hc
  exact za _ _ _ (j4 (.blk (cd val))) (Kd.R_mono h1 (fun _ _ => trivial)) (Kd.R_mono h2 (fun _ _ => trivial)) h3 (Kd.R_nil _ _ _ _ _)
 | false =>
  rw [hi] at hc
  rw [show cs = dJ from hc]
  exact za _ _ _ (j4 .no) (Kd.R_nil _ _ _ _ _) (Kd.R_nil _ _ _ _ _) (Kd.R_nil _ _ _ _ _) (Kd.R_nil _ _ _ _ _)
end
end Go.Proofs.YtndddnglapkplaaGreatDoor.V
