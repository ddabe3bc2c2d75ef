/- The law BlockTells for every input: texts of ours, put together (part 10 of 16). No further condition. -/
import Derived.Test.YtemhalnhbgkbcaaCBlockTellsx2
import Derived.Test.YtemhalnhbgkbcaaCBlockTellsx6
import Derived.Test.YtemhalnhbgkbcaaCBlockTellsx7
import Derived.Test.YtemhalnhbgkbcaaCBlockTellsx8
import Derived.Outline
import Derived.Test.YtemhalnhbgkbcaaCBlockTellsx4
import Derived.Test.YtemhalnhbgkbcaaCBlockTellsx3
import Derived.Test.YtemhalnhbgkbcaaCBlockTellsw0
set_option linter.unusedVariables false
set_option linter.unusedSimpArgs false
open Go.RowKit Go.Proofs.YtemhalnhbgkbcaaW.PrintWords Go.Proofs.YtemhalnhbgkbcaaW.PrintLast Go.Proofs.YtemhalnhbgkbcaaW.PrintMore Go.Proofs.Ytemhalnhbgkbcaa.Z
section
namespace Go.Proofs.Ytemhalnhbgkbcaa.V
def pG (h n : ByteArray) (a : At) : Bool := (h.toList == (⟨#[]⟩ : ByteArray).toList || a.f0.toList == h.toList) && (n.toList == (⟨#[]⟩ : ByteArray).toList || a.f1.toList == n.toList)
theorem Fl {l : List UInt8} (e : (l == (⟨#[]⟩ : ByteArray).toList) = true) : (l == []) = true ∧ l.isEmpty = true ∧ (l = []) = True := by
 have h : l = [] := by simpa using e
 subst h
 exact ⟨rfl, rfl, eq_true rfl⟩
theorem zn {l : List UInt8} (e : (l == (⟨#[]⟩ : ByteArray).toList) = false) : (l == []) = false ∧ l.isEmpty = false ∧ (l = []) = False := by
 have h : l ≠ [] := by
  rintro rfl
  simp at e
 refine ⟨by simpa using h, by simpa using h, eq_false h⟩
theorem Fk {l m : List UInt8} (e : (l == m) = true) : (l = m) = True := eq_true (by simpa using e)
theorem LL {l m : List UInt8} (e : (l == m) = false) : (l = m) = False := eq_false (by simpa using e)
theorem La {h n : ByteArray} {x : At} (e : pG h n x = true) : ((h.toList == (⟨#[]⟩ : ByteArray).toList) = true ∧ (n.toList == (⟨#[]⟩ : ByteArray).toList) = true) ∨ ((h.toList == (⟨#[]⟩ : ByteArray).toList) = false ∧ (x.f0.toList == h.toList) = true ∧ (n.toList == (⟨#[]⟩ : ByteArray).toList) = true) ∨ ((h.toList == (⟨#[]⟩ : ByteArray).toList) = true ∧ (n.toList == (⟨#[]⟩ : ByteArray).toList) = false ∧ (x.f1.toList == n.toList) = true) ∨ ((h.toList == (⟨#[]⟩ : ByteArray).toList) = false ∧ (x.f0.toList == h.toList) = true ∧ (n.toList == (⟨#[]⟩ : ByteArray).toList) = false ∧ (x.f1.toList == n.toList) = true) := by
 unfold pG at e
 cases h1 : (h.toList == (⟨#[]⟩ : ByteArray).toList) <;> cases h2 : (x.f0.toList == h.toList) <;> cases h3 : (n.toList == (⟨#[]⟩ : ByteArray).toList) <;> cases h4 : (x.f1.toList == n.toList) <;> simp_all
theorem MJ {h n : ByteArray} {x : At} (e : pG h n x = false) : ((h.toList == (⟨#[]⟩ : ByteArray).toList) = false ∧ (x.f0.toList == h.toList) = false) ∨ ((h.toList == (⟨#[]⟩ : ByteArray).toList) = true ∧ (n.toList == (⟨#[]⟩ : ByteArray).toList) = false ∧ (x.f1.toList == n.toList) = false) ∨ ((h.toList == (⟨#[]⟩ : ByteArray).toList) = false ∧ (x.f0.toList == h.toList) = true ∧ (n.toList == (⟨#[]⟩ : ByteArray).toList) = false ∧ (x.f1.toList == n.toList) = false) := by
 unfold pG at e
 cases h1 : (h.toList == (⟨#[]⟩ : ByteArray).toList) <;> cases h2 : (x.f0.toList == h.toList) <;> cases h3 : (n.toList == (⟨#[]⟩ : ByteArray).toList) <;> cases h4 : (x.f1.toList == n.toList) <;> simp_all
theorem Lx {b : Bk} (hf : bV b.addr = b.addr) (k : Nat) (hk : k < 64) : gw b (b.addr + (k : Int)) = (b.slots.getD k 0 != 0) ∧ kb b (b.addr + (k : Int)) = if (b.slots.getD k 0 != 0) = true then eR b k else ⟨⟨#[]⟩, ⟨#[]⟩⟩ := by
 have e : b.addr + (k : Int) - b.addr = (k : Int) := by omega
 have h1 : bV (b.addr + (k : Int)) = b.addr := by unfold bV at hf ⊢; omega
 have h2 : gw b (b.addr + (k : Int)) = (b.slots.getD k 0 != 0) := by
  unfold gw
  rw [decide_eq_true h1, e, Int.toNat_natCast, Bool.true_and]
 refine ⟨h2, ?_⟩
 unfold kb
 rw [h2, e, Int.toNat_natCast]
set_option maxHeartbeats 16000000 in
set_option maxRecDepth 100000 in
theorem sZ (b : Bk) (hk : BkOk b) (hp : RightP b) (hl : b.slots.length = 64) (h n : ByteArray) (v : Value) (w : World) (hV : jd w v b) :
  Calls Try.prog 63 #[v, .string h, .string n] w fun e w' => ∃ vo, e = .returned vo ∧ Kd.R (Kd.int .u32) 46 w' w.heap.size (fun _ => True) vo (dk b (pG h n) 64) ∧ Below w.heap.size w w' := by
 obtain ⟨M, As, cs, Af, cf, Aa, ca, rfl, hr⟩ := hV
 have hml : M.length = b.attrs.length := by rw [hr.m, List.length_map]
 have xw := ak hr.m
 have HR := ak hr
 have HL := ak hl
 have HK := ak hk
 have HP := ak hp
 have HOF := ak (fun w h x h0 h1 => oe b hl hk.s8 hp.sa M As Af Aa cs cf ca w h x h0 h1)
 have ae := ak (Below.refl w.heap.size w)
 have zk : 0 ≤ b.addr := hk.a0
 have kM : b.addr + 64 ≤ 4294967296 := by
  have h1 := hp.first
  have h2 := hk.a1
  unfold bV at h1
  omega
 clear hr hl hml hp hk
 go_enter Try.func63, Try.ntmps63
 go_wp2_with (first
  | (refine aE rfl 62 (.tmp 0) rfl _ rfl ?_; intro gX W1 J aa I; have bQ := ge ae J; have ai := ak (ae.out.trans (I.mono ae.out.size)); have ah := ak (aa); clear J aa I ae))
 go_loopw [7, 8, 9, 10] (fun q i _ _ W => ∃ k : Nat, k ≤ 64 ∧ i = .int .i64 k ∧ Aside0 (aH W gX (da b.addr b.aff (.slice As b.slots.length cs) (.slice Af b.free.length cf) (.slice Aa M.length ca)) 62) ∧ Aside0 (Kd.R (Kd.int .u32) 46 W w.heap.size (fun _ => True) q (dk b (pG h n) k)) ∧ Aside0 (Below w.heap.size w W)) (fun _ i _ _ _ => 64 - (intOf i).toNat)
 case atStart => exact ⟨0, by omega, rfl, ah, ⟨Kd.R_nil _ _ _ _ _⟩, ai⟩
 case round =>
  clear ai ah
  obtain ⟨k, hk, rfl, aJ, bF, ae⟩ := hrel
  obtain ⟨W, rfl⟩ : ∃ W : World, W = wr := ⟨_, rfl⟩
  have hul := fD b (pG h n) k
  have ke := aJ.out.cell 0 _ rfl
  by_cases ni : k < 64
  ·have hkb : decide ((k : Int) < 64) = true := by simp; omega
   have hus := mG b (pG h n) k
   obtain ⟨oo, hoo⟩ : ∃ oo, oo = dk b (pG h n) k := ⟨_, rfl⟩
   rw [← hoo] at bF hus hul
   have HUL := ak (show oo.length ≤ 100 by omega)
   obtain ⟨Hj, C1⟩ := Lx HP.out.first k ni
   have hof := fun w h => HOF.out w h (b.addr + (k : Int)) (by omega) (by omega)
   rw [Hj, C1] at hof
   obtain ⟨Ao, co, rfl⟩ := Kd.R_slice bF.out
   obtain ⟨hb, hhb⟩ : ∃ hb, hb = (b.slots.getD k 0 != 0) := ⟨_, rfl⟩
   rw [← hhb] at hof hus
   cases hb with
   | false =>
    rw [if_neg (by decide)] at hof
    have HUS := ak (show dk b (pG h n) (k + 1) = oo by rw [hus]; simp)
    have tv := ak hof
    clear hus hof hhb hoo hul Hj C1
    go_wp2_with (first
     | ((with_reducible refine ax (N := 16) rfl ?_); refine az rfl 62 (.tmp 3) rfl gX rfl _ _ _ aJ.out Try.underlying62 rfl 5 (by kernel_rfl) rfl ?_)
     | (go_at_call 62; refine (tv.out _ (HR.out.below ae.out)).mono ?_; rintro e W1 ⟨rfl, I⟩; have ah := mv I aJ; have cr := mv I bF; have ai := ak (ae.out.trans (I.mono ae.out.size)); clear I aJ bF ae ke)
     | (refine aw (some 9) rfl rfl 76 rfl [.string ⟨#[]⟩, .string ⟨#[]⟩] (fun _ => by kernel_rfl) ?_; intro gV W2 J aa I; have df := ge ai J; have fx := ne ah J; have au := mv I ah; have cC := mv I cr; have av := mv I ai; have dc := ak (aa); clear J aa I ah cr ai)
     | (refine aN rfl 76 (.tmp 9) (.tmp 23) rfl gV [.string ⟨#[]⟩, .string ⟨#[]⟩] rfl rfl 76 _ dc.out 2 (by kernel_rfl) rfl rfl (g9 ⟨⟨#[]⟩, ⟨#[]⟩⟩) ?_; intro W3 aa J; have aA := gx au dc J; have eT := gr cC dc J; have aD := gb av df J; have mB := ak (aa); have mz := aa.cell 0 _ rfl; have lr := aa.cell 1 _ rfl; clear aa J au cC av dc))
    go_roundw
    case rel => exact ⟨k + 1, by omega, by go_num, aA, ⟨by rw [HUS.out]; exact eT.out⟩, aD⟩
    case measure => simp [intOf]; omega
   | true =>
    rw [if_pos rfl] at hof
    obtain ⟨x, hx⟩ : ∃ x, x = eR b k := ⟨_, rfl⟩
    rw [← hx] at hof hus
    rw [Bool.true_and] at hus
    have tv := ak hof
    cases hpp : pG h n x with
    | true =>
     have HUS := ak (show dk b (pG h n) (k + 1) = oo ++ [b.addr + (k : Int)] by rw [hus, hpp]; rfl)
     have hcs := La hpp
     clear hus hof hhb hoo hul Hj C1 hx hpp
     obtain ⟨o1, fw⟩ : ∃ o1, o1 = oo ++ [b.addr + (k : Int)] := ⟨_, rfl⟩
     rw [← fw] at HUS
     have kA := ak fw
     clear fw
     rcases hcs with ⟨p1, p2⟩ | ⟨p1, p0, p2⟩ | ⟨p1, p2, p3⟩ | ⟨p1, p0, p2, p3⟩
     ·obtain ⟨e1, f1, g1⟩ := Fl p1
      obtain ⟨e2, f2, g2⟩ := Fl p2
      go_wp2_with (first
       | ((with_reducible refine ax (N := 16) rfl ?_); refine az rfl 62 (.tmp 3) rfl gX rfl _ _ _ aJ.out Try.underlying62 rfl 5 (by kernel_rfl) rfl ?_)
       | (go_at_call 62; refine (tv.out _ (HR.out.below ae.out)).mono ?_; rintro e W1 ⟨rfl, I⟩; have ah := mv I aJ; have cr := mv I bF; have ai := ak (ae.out.trans (I.mono ae.out.size)); clear I aJ bF ae ke)
       | (refine aw (some 9) rfl rfl 76 rfl [.string ⟨#[]⟩, .string ⟨#[]⟩] (fun _ => by kernel_rfl) ?_; intro gV W2 J aa I; have df := ge ai J; have fx := ne ah J; have au := mv I ah; have cC := mv I cr; have av := mv I ai; have dc := ak (aa); clear J aa I ah cr ai)
       | (refine aN rfl 76 (.tmp 9) (.tmp 23) rfl gV [.string x.f0, .string x.f1] rfl rfl 76 _ dc.out 2 (by kernel_rfl) rfl rfl (g9 x) ?_; intro W3 aa J; have aA := gx au dc J; have eT := gr cC dc J; have aD := gb av df J; have mB := ak (aa); have mz := aa.cell 0 _ rfl; have lr := aa.cell 1 _ rfl; have lR := aA.out.cell 0 _ rfl; clear aa J au cC av dc)
       | ((with_reducible refine cz (b := .append) (xs := #[.tmp 46, .tmp 52]) rfl ?_); at_builtin; refine Kd.R_append (Kd.int .u32) (w0 := w) w.heap.size rfl (.tmp 46) (.tmp 52) 77 46 (.int .u32 0) 4 rfl Try.underlying77 iL rfl (by decide) (by omega) _ oo (b.addr + (k : Int)) [.int .u32 (b.addr + (k : Int))] (fun _ => True) (fun _ => False) rfl rfl rfl (fun _ hk => hk.elim) (fun _ _ => trivial) eT.out aD.out aD.out.size (by have := HUL.out; omega) ?_; intro v_ W4 aW I J fm; rw [← kA.out] at aW; have aV := ak (aA.out.grown J (aA.out.ne_row eT.out (by decide))); have l7 := ak (aW); have aY := ak (I); obtain ⟨AO, cO, rfl⟩ := Kd.R_slice aW; clear aW I J fm aA eT aD mz lr lR))
      go_roundw
      case rel => exact ⟨k + 1, by omega, by go_num, aV, ⟨by rw [HUS.out]; exact l7.out⟩, aY⟩
      case measure => simp [intOf]; omega
     ·obtain ⟨e1, f1, g1⟩ := zn p1
      have g0 := Fk p0
      obtain ⟨e2, f2, g2⟩ := Fl p2
      go_wp2_with (first
       | ((with_reducible refine ax (N := 16) rfl ?_); refine az rfl 62 (.tmp 3) rfl gX rfl _ _ _ aJ.out Try.underlying62 rfl 5 (by kernel_rfl) rfl ?_)
       | (go_at_call 62; refine (tv.out _ (HR.out.below ae.out)).mono ?_; rintro e W1 ⟨rfl, I⟩; have ah := mv I aJ; have cr := mv I bF; have ai := ak (ae.out.trans (I.mono ae.out.size)); clear I aJ bF ae ke)
       | (refine aw (some 9) rfl rfl 76 rfl [.string ⟨#[]⟩, .string ⟨#[]⟩] (fun _ => by kernel_rfl) ?_; intro gV W2 J aa I; have df := ge ai J; have fx := ne ah J; have au := mv I ah; have cC := mv I cr; have av := mv I ai; have dc := ak (aa); clear J aa I ah cr ai)
       | (refine aN rfl 76 (.tmp 9) (.tmp 23) rfl gV [.string x.f0, .string x.f1] rfl rfl 76 _ dc.out 2 (by kernel_rfl) rfl rfl (g9 x) ?_; intro W3 aa J; have aA := gx au dc J; have eT := gr cC dc J; have aD := gb av df J; have mB := ak (aa); have mz := aa.cell 0 _ rfl; have lr := aa.cell 1 _ rfl; have lR := aA.out.cell 0 _ rfl; clear aa J au cC av dc)
       | ((with_reducible refine cz (b := .append) (xs := #[.tmp 46, .tmp 52]) rfl ?_); at_builtin; refine Kd.R_append (Kd.int .u32) (w0 := w) w.heap.size rfl (.tmp 46) (.tmp 52) 77 46 (.int .u32 0) 4 rfl Try.underlying77 iL rfl (by decide) (by omega) _ oo (b.addr + (k : Int)) [.int .u32 (b.addr + (k : Int))] (fun _ => True) (fun _ => False) rfl rfl rfl (fun _ hk => hk.elim) (fun _ _ => trivial) eT.out aD.out aD.out.size (by have := HUL.out; omega) ?_; intro v_ W4 aW I J fm; rw [← kA.out] at aW; have aV := ak (aA.out.grown J (aA.out.ne_row eT.out (by decide))); have l7 := ak (aW); have aY := ak (I); obtain ⟨AO, cO, rfl⟩ := Kd.R_slice aW; clear aW I J fm aA eT aD mz lr lR))
      go_roundw
      case rel => exact ⟨k + 1, by omega, by go_num, aV, ⟨by rw [HUS.out]; exact l7.out⟩, aY⟩
      case measure => simp [intOf]; omega
     ·obtain ⟨e1, f1, g1⟩ := Fl p1
      obtain ⟨e2, f2, g2⟩ := zn p2
      have g3 := Fk p3
      go_wp2_with (first
       | ((with_reducible refine ax (N := 16) rfl ?_); refine az rfl 62 (.tmp 3) rfl gX rfl _ _ _ aJ.out Try.underlying62 rfl 5 (by kernel_rfl) rfl ?_)
       | (go_at_call 62; refine (tv.out _ (HR.out.below ae.out)).mono ?_; rintro e W1 ⟨rfl, I⟩; have ah := mv I aJ; have cr := mv I bF; have ai := ak (ae.out.trans (I.mono ae.out.size)); clear I aJ bF ae ke)
       | (refine aw (some 9) rfl rfl 76 rfl [.string ⟨#[]⟩, .string ⟨#[]⟩] (fun _ => by kernel_rfl) ?_; intro gV W2 J aa I; have df := ge ai J; have fx := ne ah J; have au := mv I ah; have cC := mv I cr; have av := mv I ai; have dc := ak (aa); clear J aa I ah cr ai)
       | (refine aN rfl 76 (.tmp 9) (.tmp 23) rfl gV [.string x.f0, .string x.f1] rfl rfl 76 _ dc.out 2 (by kernel_rfl) rfl rfl (g9 x) ?_; intro W3 aa J; have aA := gx au dc J; have eT := gr cC dc J; have aD := gb av df J; have mB := ak (aa); have mz := aa.cell 0 _ rfl; have lr := aa.cell 1 _ rfl; have lR := aA.out.cell 0 _ rfl; clear aa J au cC av dc)
       | ((with_reducible refine cz (b := .append) (xs := #[.tmp 46, .tmp 52]) rfl ?_); at_builtin; refine Kd.R_append (Kd.int .u32) (w0 := w) w.heap.size rfl (.tmp 46) (.tmp 52) 77 46 (.int .u32 0) 4 rfl Try.underlying77 iL rfl (by decide) (by omega) _ oo (b.addr + (k : Int)) [.int .u32 (b.addr + (k : Int))] (fun _ => True) (fun _ => False) rfl rfl rfl (fun _ hk => hk.elim) (fun _ _ => trivial) eT.out aD.out aD.out.size (by have := HUL.out; omega) ?_; intro v_ W4 aW I J fm; rw [← kA.out] at aW; have aV := ak (aA.out.grown J (aA.out.ne_row eT.out (by decide))); have l7 := ak (aW); have aY := ak (I); obtain ⟨AO, cO, rfl⟩ := Kd.R_slice aW; clear aW I J fm aA eT aD mz lr lR))
      go_roundw
      case rel => exact ⟨k + 1, by omega, by go_num, aV, ⟨by rw [HUS.out]; exact l7.out⟩, aY⟩
      case measure => simp [intOf]; omega
     ·obtain ⟨e1, f1, g1⟩ := zn p1
      have g0 := Fk p0
      obtain ⟨e2, f2, g2⟩ := zn p2
      have g3 := Fk p3
      go_wp2_with (first
       | ((with_reducible refine ax (N := 16) rfl ?_); refine az rfl 62 (.tmp 3) rfl gX rfl _ _ _ aJ.out Try.underlying62 rfl 5 (by kernel_rfl) rfl ?_)
       | (go_at_call 62; refine (tv.out _ (HR.out.below ae.out)).mono ?_; rintro e W1 ⟨rfl, I⟩; have ah := mv I aJ; have cr := mv I bF; have ai := ak (ae.out.trans (I.mono ae.out.size)); clear I aJ bF ae ke)
       | (refine aw (some 9) rfl rfl 76 rfl [.string ⟨#[]⟩, .string ⟨#[]⟩] (fun _ => by kernel_rfl) ?_; intro gV W2 J aa I; have df := ge ai J; have fx := ne ah J; have au := mv I ah; have cC := mv I cr; have av := mv I ai; have dc := ak (aa); clear J aa I ah cr ai)
       | (refine aN rfl 76 (.tmp 9) (.tmp 23) rfl gV [.string x.f0, .string x.f1] rfl rfl 76 _ dc.out 2 (by kernel_rfl) rfl rfl (g9 x) ?_; intro W3 aa J; have aA := gx au dc J; have eT := gr cC dc J; have aD := gb av df J; have mB := ak (aa); have mz := aa.cell 0 _ rfl; have lr := aa.cell 1 _ rfl; have lR := aA.out.cell 0 _ rfl; clear aa J au cC av dc)
       | ((with_reducible refine cz (b := .append) (xs := #[.tmp 46, .tmp 52]) rfl ?_); at_builtin; refine Kd.R_append (Kd.int .u32) (w0 := w) w.heap.size rfl (.tmp 46) (.tmp 52) 77 46 (.int .u32 0) 4 rfl Try.underlying77 iL rfl (by decide) (by omega) _ oo (b.addr + (k : Int)) [.int .u32 (b.addr + (k : Int))] (fun _ => True) (fun _ => False) rfl rfl rfl (fun _ hk => hk.elim) (fun _ _ => trivial) eT.out aD.out aD.out.size (by have := HUL.out; omega) ?_; intro v_ W4 aW I J fm; rw [← kA.out] at aW; have aV := ak (aA.out.grown J (aA.out.ne_row eT.out (by decide))); have l7 := ak (aW); have aY := ak (I); obtain ⟨AO, cO, rfl⟩ := Kd.R_slice aW; clear aW I J fm aA eT aD mz lr lR))
      go_roundw
      case rel => exact ⟨k + 1, by omega, by go_num, aV, ⟨by rw [HUS.out]; exact l7.out⟩, aY⟩
      case measure => simp [intOf]; omega
    | false =>
     have HUS := ak (show dk b (pG h n) (k + 1) = oo by rw [hus, hpp]; simp)
     have hcs := MJ hpp
     clear hus hof hhb hoo hul Hj C1 hx hpp
     rcases hcs with ⟨p1, p0⟩ | ⟨p1, p2, p3⟩ | ⟨p1, p0, p2, p3⟩
     ·obtain ⟨e1, f1, g1⟩ := zn p1
      have g0 := LL p0
      go_wp2_with (first
       | ((with_reducible refine ax (N := 16) rfl ?_); refine az rfl 62 (.tmp 3) rfl gX rfl _ _ _ aJ.out Try.underlying62 rfl 5 (by kernel_rfl) rfl ?_)
       | (go_at_call 62; refine (tv.out _ (HR.out.below ae.out)).mono ?_; rintro e W1 ⟨rfl, I⟩; have ah := mv I aJ; have cr := mv I bF; have ai := ak (ae.out.trans (I.mono ae.out.size)); clear I aJ bF ae ke)
       | (refine aw (some 9) rfl rfl 76 rfl [.string ⟨#[]⟩, .string ⟨#[]⟩] (fun _ => by kernel_rfl) ?_; intro gV W2 J aa I; have df := ge ai J; have fx := ne ah J; have au := mv I ah; have cC := mv I cr; have av := mv I ai; have dc := ak (aa); clear J aa I ah cr ai)
       | (refine aN rfl 76 (.tmp 9) (.tmp 23) rfl gV [.string x.f0, .string x.f1] rfl rfl 76 _ dc.out 2 (by kernel_rfl) rfl rfl (g9 x) ?_; intro W3 aa J; have aA := gx au dc J; have eT := gr cC dc J; have aD := gb av df J; have mB := ak (aa); have mz := aa.cell 0 _ rfl; have lr := aa.cell 1 _ rfl; clear aa J au cC av dc))
      go_roundw
      case rel => exact ⟨k + 1, by omega, by go_num, aA, ⟨by rw [HUS.out]; exact eT.out⟩, aD⟩
      case measure => simp [intOf]; omega
     ·obtain ⟨e1, f1, g1⟩ := Fl p1
      obtain ⟨e2, f2, g2⟩ := zn p2
      have g3 := LL p3
      go_wp2_with (first
       | ((with_reducible refine ax (N := 16) rfl ?_); refine az rfl 62 (.tmp 3) rfl gX rfl _ _ _ aJ.out Try.underlying62 rfl 5 (by kernel_rfl) rfl ?_)
       | (go_at_call 62; refine (tv.out _ (HR.out.below ae.out)).mono ?_; rintro e W1 ⟨rfl, I⟩; have ah := mv I aJ; have cr := mv I bF; have ai := ak (ae.out.trans (I.mono ae.out.size)); clear I aJ bF ae ke)
       | (refine aw (some 9) rfl rfl 76 rfl [.string ⟨#[]⟩, .string ⟨#[]⟩] (fun _ => by kernel_rfl) ?_; intro gV W2 J aa I; have df := ge ai J; have fx := ne ah J; have au := mv I ah; have cC := mv I cr; have av := mv I ai; have dc := ak (aa); clear J aa I ah cr ai)
       | (refine aN rfl 76 (.tmp 9) (.tmp 23) rfl gV [.string x.f0, .string x.f1] rfl rfl 76 _ dc.out 2 (by kernel_rfl) rfl rfl (g9 x) ?_; intro W3 aa J; have aA := gx au dc J; have eT := gr cC dc J; have aD := gb av df J; have mB := ak (aa); have mz := aa.cell 0 _ rfl; have lr := aa.cell 1 _ rfl; clear aa J au cC av dc))
      go_roundw
      case rel => exact ⟨k + 1, by omega, by go_num, aA, ⟨by rw [HUS.out]; exact eT.out⟩, aD⟩
      case measure => simp [intOf]; omega
     ·obtain ⟨e1, f1, g1⟩ := zn p1
      have g0 := Fk p0
      obtain ⟨e2, f2, g2⟩ := zn p2
      have g3 := LL p3
      go_wp2_with (first
       | ((with_reducible refine ax (N := 16) rfl ?_); refine az rfl 62 (.tmp 3) rfl gX rfl _ _ _ aJ.out Try.underlying62 rfl 5 (by kernel_rfl) rfl ?_)
       | (go_at_call 62; refine (tv.out _ (HR.out.below ae.out)).mono ?_; rintro e W1 ⟨rfl, I⟩; have ah := mv I aJ; have cr := mv I bF; have ai := ak (ae.out.trans (I.mono ae.out.size)); clear I aJ bF ae ke)
       | (refine aw (some 9) rfl rfl 76 rfl [.string ⟨#[]⟩, .string ⟨#[]⟩] (fun _ => by kernel_rfl) ?_; intro gV W2 J aa I; have df := ge ai J; have fx := ne ah J; have au := mv I ah; have cC := mv I cr; have av := mv I ai; have dc := ak (aa); clear J aa I ah cr ai)
       | (refine aN rfl 76 (.tmp 9) (.tmp 23) rfl gV [.string x.f0, .string x.f1] rfl rfl 76 _ dc.out 2 (by kernel_rfl) rfl rfl (g9 x) ?_; intro W3 aa J; have aA := gx au dc J; have eT := gr cC dc J; have aD := gb av df J; have mB := ak (aa); have mz := aa.cell 0 _ rfl; have lr := aa.cell 1 _ rfl; clear aa J au cC av dc))
      go_roundw
      case rel => exact ⟨k + 1, by omega, by go_num, aA, ⟨by rw [HUS.out]; exact eT.out⟩, aD⟩
      case measure => simp [intOf]; omega
  ·obtain rfl : k = 64 := by omega
   have hkb : decide (((64 : Nat) : Int) < 64) = false := by decide
   go_wp2_with fail
   go_ret
   exact ⟨_, rfl, bF.out, ae.out⟩
end Go.Proofs.Ytemhalnhbgkbcaa.V
end

section
namespace Go.Proofs.Ytemhalnhbgkbcaa.V
structure RG0 (b : Bk) : Prop where
 a0 : 0 ≤ b.addr
 a1 : b.addr < 4294967296
 first : bV b.addr = b.addr
 owner : fW b.aff = true
 na : b.attrs.length ≤ 64
 l64 : b.slots.length = 64
 s0 : ∀ s ∈ b.slots, 0 ≤ s ∧ s ≤ (b.attrs.length : Int)
 may : ∀ a ∈ b.attrs, eo a = true
 nd : b.attrs.Nodup
 f0 : ∀ f ∈ b.free, 0 ≤ f ∧ f < 64 ∧ b.slots.getD f.toNat 0 = 0
 fnd : b.free.Nodup
 zc : b.slots.countP (fun x => x == 0) = b.free.length
structure RG (b : Bk) : Prop extends RG0 b where
 used : ∀ k, k < b.attrs.length → dL b.slots k = true
theorem F0 (l : List Int) (k : Nat) (hk : k < 64) : (fT l).testBit k = dL l k := by
 have h1 : (fT l).testBit k = decide ((k : Int) ∈ l.map (fun s => s - 1)) := oE _ k hk
 rw [h1]
 unfold dL
 rw [Bool.eq_iff_iff, decide_eq_true_eq, List.any_eq_true, List.mem_map]
 constructor
 ·rintro ⟨s, hs, he⟩
  exact ⟨s, hs, by rw [beq_iff_eq]; omega⟩
 ·rintro ⟨s, hs, he⟩
  rw [beq_iff_eq] at he
  exact ⟨s, hs, by omega⟩
theorem CD (l : List Int) : (iq (fT l)).length = ((List.range 64).filter (dL l)).length := by
 unfold iq j6
 rw [List.length_map]
 congr 1
 apply List.filter_congr
 intro k hk
 exact F0 l k (List.mem_range.1 hk)
theorem JC {l : List Int} {n k : Nat} (h : ∀ s ∈ l, s ≤ (n : Int)) (hu : dL l k = true) : k < n := by
 unfold dL at hu
 rw [List.any_eq_true] at hu
 obtain ⟨s, hs, he⟩ := hu
 rw [beq_iff_eq] at he
 have := h s hs
 omega
theorem wH (p : Nat → Bool) (n m : Nat) (hnm : n ≤ m) (h : ∀ k, p k = true → k < n) : ((List.range m).filter p).length = ((List.range n).filter p).length := by
 obtain ⟨d, rfl⟩ := Nat.le.dest hnm
 clear hnm
 induction d with
 | zero => rfl
 | succ d ih =>
  rw [show n + (d + 1) = (n + d) + 1 from rfl, List.range_succ, List.filter_append, List.length_append, ih]
  have : p (n + d) = false := by
   cases e : p (n + d) with
   | false => rfl
   | true => have := h _ e; omega
  simp [this]
theorem filter_all {p : Nat → Bool} {n : Nat} : ((List.range n).filter p).length = n ↔ ∀ k, k < n → p k = true := by
 constructor
 ·intro h
  have h2 : ((List.range n).filter p).length = (List.range n).length := by rw [h, List.length_range]
  rw [List.length_filter_eq_length_iff] at h2
  exact fun k hk => h2 k (List.mem_range.2 hk)
 ·intro h
  have h2 : ((List.range n).filter p) = List.range n := List.filter_eq_self.2 (fun k hk => h k (List.mem_range.1 hk))
  rw [h2, List.length_range]
theorem z9 {b : Bk} (hn : b.attrs.length ≤ 64) (h : ∀ s ∈ b.slots, s ≤ (b.attrs.length : Int)) : (iq (fT b.slots)).length = b.attrs.length ↔ ∀ k, k < b.attrs.length → dL b.slots k = true := by
 rw [CD, wH _ b.attrs.length 64 hn (fun k hk => JC h hk), filter_all]
theorem AA (l : List At) : vL l ↔ l.Nodup := by
 unfold vL
 constructor
 ·intro h
  rw [List.nodup_iff_pairwise_ne, List.pairwise_iff_getElem]
  intro i j hi hj hij e
  have h1 := h j hj
  rw [List.any_eq_false] at h1
  refine h1 l[i] (List.mem_take_iff_getElem.2 ⟨i, by omega, rfl⟩) ?_
  rw [kI _ _ hj, ← e]
  exact lg _
 ·intro h j hj
  rw [List.any_eq_false]
  intro x hx hs
  rw [gP, kI _ _ hj] at hs
  obtain ⟨i, hi, he⟩ := List.mem_take_iff_getElem.1 hx
  rw [List.nodup_iff_pairwise_ne, List.pairwise_iff_getElem] at h
  exact h i j (by omega) hj (by omega) (by rw [he, hs])
theorem uV (l : List Int) (j : Nat) (h : j < l.length) : rd l (j : Int) = l[j] := by simp [rd, List.getD, h]
theorem RG.of {b : Bk} (hk : BkOk b) (hl : b.slots.length = 64) (h : dm b = true) : RG b := by
 have hp := iw h
 have hs : ∀ s ∈ b.slots, 0 ≤ s ∧ s ≤ (b.attrs.length : Int) := fun s hs => ⟨(hk.s8 s hs).1, hp.sa s hs⟩
 refine ⟨⟨hk.a0, hk.a1, hp.first, hp.owner, hp.na, hl, hs, ?_, (AA _).1 hp.nd, ?_, ?_, hp.zc⟩, (z9 hp.na hp.sa).1 hp.used⟩
 ·intro a ha
  obtain ⟨j, hj, rfl⟩ := List.mem_iff_getElem.1 ha
  have := hp.may j hj
  rwa [kI _ _ hj] at this
 ·intro f hf
  obtain ⟨j, hj, rfl⟩ := List.mem_iff_getElem.1 hf
  have := ov hp hk j hj
  rw [uV _ _ hj] at this
  exact ⟨this.1, this.2.1, this.2.2.2⟩
 ·rw [List.nodup_iff_pairwise_ne, List.pairwise_iff_getElem]
  intro i j hi hj hij e
  have := ov hp hk j hj
  rw [uV _ _ hj] at this
  exact this.2.2.1 (List.mem_take_iff_getElem.2 ⟨i, by omega, e⟩)
theorem RG0.ok {b : Bk} (h : RG0 b) : BkOk b := ⟨h.a0, h.a1, fun s hs => by have := h.s0 s hs; have := h.na; omega, fun f hf => by have := h.f0 f hf; omega⟩
theorem RG.right {b : Bk} (h : RG b) : dm b = true := by
 have hs : ∀ s ∈ b.slots, s ≤ (b.attrs.length : Int) := fun s hs => (h.s0 s hs).2
 unfold dm kk kt
 simp only [Bool.and_eq_true, decide_eq_true_eq, List.all_eq_true, beq_iff_eq, List.mem_range, Bool.not_eq_true']
 refine ⟨h.first, h.owner, h.na, ⟨hs, fun j hj => ⟨?_, (AA _).2 h.nd j hj⟩, (z9 h.na hs).2 h.used⟩, fun j hj => ?_, h.zc⟩
 ·rw [kI _ _ hj]
  exact h.may _ (List.getElem_mem hj)
 ·unfold jh
  rw [uV _ _ hj]
  have h1 := h.f0 _ (List.getElem_mem hj)
  simp only [Bool.or_eq_false_iff, decide_eq_false_iff_not, bne_eq_false_iff_eq]
  refine ⟨by omega, fun hm => ?_, h1.2.2⟩
  obtain ⟨i, hi, he⟩ := List.mem_take_iff_getElem.1 hm
  have hnd := h.fnd
  rw [List.nodup_iff_pairwise_ne, List.pairwise_iff_getElem] at hnd
  exact hnd i j (by omega) hj (by omega) he
theorem Eh {b : Bk} (h : RG0 b) (i : Nat) (hi : i < 64) (hz : b.slots.getD i 0 = 0) : (i : Int) ∈ b.free := by
 apply Classical.byContradiction
 intro hn
 have h1 : ((i : Int) :: b.free).Nodup := List.nodup_cons.2 ⟨hn, h.fnd⟩
 have h2 := h1.length_le_of_subset (l₂ := (((List.range 64).filter (fun k => b.slots.getD k 0 == 0)).map (fun k : Nat => (k : Int)))) (by
  intro x hx
  rw [List.mem_map]
  rcases List.mem_cons.1 hx with rfl | hx
  ·exact ⟨i, List.mem_filter.2 ⟨List.mem_range.2 hi, by rw [hz]; rfl⟩, rfl⟩
  ·have := h.f0 x hx
   exact ⟨x.toNat, List.mem_filter.2 ⟨List.mem_range.2 (by omega), by rw [this.2.2]; rfl⟩, by omega⟩)
 have h3 : ((List.range 64).filter (fun k => b.slots.getD k 0 == 0)).length = b.slots.countP (fun x => x == 0) := by
  have e : b.slots = (List.range 64).map (fun k => b.slots.getD k 0) := by
   apply List.ext_getElem
   ·simp [h.l64]
   ·intro k h1 h2
    simp [List.getD, h1]
  conv => rhs; rw [e]
  rw [List.countP_map, List.countP_eq_length_filter]
  rfl
 rw [List.length_cons, List.length_map, h3, h.zc] at h2
 omega
end Go.Proofs.Ytemhalnhbgkbcaa.V
end

section
namespace Go.Proofs.Ytemhalnhbgkbcaa.V
theorem getD_set_ne {l : List Int} {i j : Nat} (x : Int) (h : i ≠ j) : (l.set i x).getD j 0 = l.getD j 0 := by
 simp [List.getD, List.getElem?_set_ne h]
theorem CJ {l : List Int} {i : Nat} (x : Int) (h : i < l.length) : (l.set i x).getD i 0 = x := by
 simp [List.getD, h]
theorem getD_eq {l : List Int} {i : Nat} (h : i < l.length) : l.getD i 0 = l[i] := by simp [List.getD, h]
theorem countP_set {l : List Int} {i : Nat} (x : Int) (h : i < l.length) (h0 : l.getD i 0 = 0) (hx : x ≠ 0) : (l.set i x).countP (fun s => s == 0) + 1 = l.countP (fun s => s == 0) := by
 rw [getD_eq h] at h0
 rw [List.countP_set h]
 have h1 : 1 ≤ l.countP (fun s => s == 0) := by
  rw [Nat.one_le_iff_ne_zero, Ne, List.countP_eq_zero]
  intro hc
  exact hc _ (List.getElem_mem h) (by rw [h0]; rfl)
 rw [h0]
 have e1 : ((0 : Int) == 0) = true := rfl
 have e2 : (x == 0) = false := by simpa using hx
 rw [e1, e2]
 simp
 omega
theorem CK {l : List Int} {i : Nat} (h : i < l.length) (h0 : l.getD i 0 ≠ 0) : (l.set i 0).countP (fun s => s == 0) = l.countP (fun s => s == 0) + 1 := by
 rw [getD_eq h] at h0
 rw [List.countP_set h]
 have e1 : ((0 : Int) == 0) = true := rfl
 have e2 : (l[i] == 0) = false := by simpa using h0
 rw [e1, e2]
 simp
theorem z8 {l : List Int} {i k : Nat} (x : Int) (h : i < l.length) (h0 : l.getD i 0 = 0) (hu : dL l k = true) : dL (l.set i x) k = true := by
 rw [getD_eq h] at h0
 unfold dL at hu ⊢
 rw [List.any_eq_true] at hu ⊢
 obtain ⟨s, hs, he⟩ := hu
 refine ⟨s, ?_, he⟩
 obtain ⟨j, hj, rfl⟩ := List.mem_iff_getElem.1 hs
 have hne : i ≠ j := by
  rintro rfl
  rw [beq_iff_eq, h0] at he
  omega
 exact List.mem_iff_getElem.2 ⟨j, by simpa using hj, by rw [List.getElem_set_ne hne]⟩
theorem vU {l : List Int} (h : l.Nodup) {i : Int} (hi : i ∈ l) : (l.filter (fun x => x != i)).length + 1 = l.length := by
 induction l with
 | nil => cases hi
 | cons y l ih =>
  rw [List.nodup_cons] at h
  by_cases e : y = i
  ·subst e
   have : l.filter (fun x => x != y) = l := List.filter_eq_self.2 (fun x hx => by
    have : x ≠ y := fun e => h.1 (e ▸ hx)
    simpa using this)
   simp [this]
  ·rcases List.mem_cons.1 hi with e2 | hi
   ·exact absurd e2.symm e
   ·have := ih h.2 hi
    have e3 : (y != i) = true := by simpa using e
    simp only [List.filter_cons, e3, if_true, List.length_cons]
    omega
theorem RG.sum {b : Bk} (h : RG b) : b.attrs.length + b.free.length ≤ 64 := (iw h.right).sum_le h.ok h.l64
theorem Le {l : List At} {a : At} : (∃ i, i < l.length ∧ eF l a = i + 1 ∧ eh l a = l) ∨ (a ∉ l ∧ eF l a = l.length + 1 ∧ eh l a = l ++ [a]) := by
 unfold eF eh
 cases h : fO l a with
 | some i => exact Or.inl ⟨i, vS h, rfl, rfl⟩
 | none =>
  refine Or.inr ⟨fun hm => ?_, rfl, rfl⟩
  unfold fO at h
  rw [List.findIdx?_eq_none_iff] at h
  have := h a hm
  rw [lg] at this
  cases this
theorem RG.give {b : Bk} (h : RG b) (i : Nat) (hi : i < 64) (hz : b.slots.getD i 0 = 0) (a : At) (ha : eo a = true) : RG (fG b i a) := by
 have hil : i < b.slots.length := by rw [h.l64]; exact hi
 have hfr := Eh h.toRG0 i hi hz
 have hsum := h.sum
 have hfl : 1 ≤ b.free.length := List.length_pos_of_mem hfr
 have hfe := vU h.fnd hfr
 have Bc : ∀ f ∈ (fG b i a).free, 0 ≤ f ∧ f < 64 ∧ (fG b i a).slots.getD f.toNat 0 = 0 := by
  intro f hf
  obtain ⟨hf, hne⟩ := List.mem_filter.1 hf
  have h1 := h.f0 f hf
  have TL : f ≠ (i : Int) := by simpa using hne
  refine ⟨h1.1, h1.2.1, ?_⟩
  show (b.slots.set i _).getD f.toNat 0 = 0
  rw [getD_set_ne _ (by omega)]
  exact h1.2.2
 have hnz : ((eF b.attrs a : Nat) : Int) ≠ 0 := by have := CV b.attrs a; omega
 have hzc : (fG b i a).slots.countP (fun x => x == 0) = (fG b i a).free.length := by
  have := countP_set (x := ((eF b.attrs a : Nat) : Int)) hil hz hnz
  have zd := h.zc
  show (b.slots.set i _).countP _ = (b.free.filter _).length
  omega
 have hl : (fG b i a).slots.length = 64 := by show (b.slots.set i _).length = 64; rw [List.length_set]; exact h.l64
 rcases @Le b.attrs a with ⟨m, hm, hn, had⟩ | ⟨hnm, hn, had⟩
 ·have e : (fG b i a).attrs = b.attrs := had
  refine ⟨⟨h.a0, h.a1, h.first, h.owner, by rw [e]; exact h.na, hl, ?_, by rw [e]; exact h.may, by rw [e]; exact h.nd, Bc, h.fnd.filter _, hzc⟩, ?_⟩
  ·intro s hs
   rw [e]
   rcases List.mem_or_eq_of_mem_set hs with hs | rfl
   ·exact h.s0 s hs
   ·rw [hn]; omega
  ·intro k hk
   rw [e] at hk
   exact z8 _ hil hz (h.used k hk)
 ·have e : (fG b i a).attrs = b.attrs ++ [a] := had
  have el : (fG b i a).attrs.length = b.attrs.length + 1 := by rw [e]; simp
  refine ⟨⟨h.a0, h.a1, h.first, h.owner, by omega, hl, ?_, ?_, ?_, Bc, h.fnd.filter _, hzc⟩, ?_⟩
  ·intro s hs
   rw [el]
   rcases List.mem_or_eq_of_mem_set hs with hs | rfl
   ·have := h.s0 s hs; omega
   ·rw [hn]; omega
  ·rw [e]
   intro x hx
   rcases List.mem_append.1 hx with hx | hx
   ·exact h.may x hx
   ·rw [List.mem_singleton.1 hx]; exact ha
  ·rw [e, List.nodup_append]
   refine ⟨h.nd, by simp, ?_⟩
   intro x hx y hy e2
   rw [List.mem_singleton.1 hy] at e2
   exact hnm (e2 ▸ hx)
  ·intro k hk
   rw [el] at hk
   rcases Nat.lt_or_ge k b.attrs.length with h1 | h1
   ·exact z8 _ hil hz (h.used k h1)
   ·obtain rfl : k = b.attrs.length := by omega
    show dL (b.slots.set i ((eF b.attrs a : Nat) : Int)) _ = true
    unfold dL
    rw [List.any_eq_true]
    exact ⟨_, List.mem_set hil _, by rw [hn, beq_iff_eq]⟩
theorem RG.asg {b : Bk} (h : RG b) (a : At) (ha : eo a = true) : ∀ k, k ≤ b.free.length → RG (eV b k a) := by
 have hp := iw h.right
 intro k
 induction k with
 | zero => intro _; rw [GO]; exact h
 | succ k ih =>
  intro hk
  have h1 := ih (by omega)
  have h2 := ov hp h.ok k (by omega)
  have h3 := Cb b k a (by omega)
  rw [← Bm hp h.ok k (by omega) a]
  refine h1.give _ (by omega) ?_ a ha
  have h4 := h1.f0 (rd (eV b k a).free 0) (by
   have h5 := uV (eV b k a).free 0 h3.1
   have h6 : rd (eV b k a).free ((0 : Nat) : Int) = rd (eV b k a).free 0 := rfl
   rw [h6] at h5
   rw [h5]
   exact List.getElem_mem _)
  rw [h3.2] at h4
  exact h4.2.2
theorem RG.own {b : Bk} (h : RG b) (s : ByteArray) (hs : fW s = true) : RG (DL b s) :=
 ⟨⟨h.a0, h.a1, h.first, hs, h.na, h.l64, h.s0, h.may, h.nd, h.f0, h.fnd, h.zc⟩, h.used⟩
end Go.Proofs.Ytemhalnhbgkbcaa.V
end

section
namespace Go.Proofs.Ytemhalnhbgkbcaa.V
theorem RG0.relF {s : Bk × List Int} (h : RG0 s.1) (x : Int) : RG0 (relF s x).1 := by
 unfold V.relF
 split
 ·rename_i hh
  obtain ⟨h1, h2, h3, h4⟩ := uo hh
  obtain ⟨b, o⟩ := s
  simp only at h h1 h2 h3 h4 ⊢
  obtain ⟨j, hj⟩ : ∃ j : Nat, x - b.addr = (j : Int) := ⟨(x - b.addr).toNat, by omega⟩
  rw [hj] at h4 h2 ⊢
  rw [Int.toNat_natCast] at h4 ⊢
  have hjl : j < b.slots.length := by rw [h.l64]; omega
  have lP : b.slots.getD j 0 ≠ 0 := by simpa using h4
  have hnf : (j : Int) ∉ b.free := fun hm => lP (by have := (h.f0 _ hm).2.2; rwa [Int.toNat_natCast] at this)
  refine ⟨h.a0, h.a1, h.first, h.owner, h.na, by rw [List.length_set]; exact h.l64, ?_, h.may, h.nd, ?_, ?_, ?_⟩
  ·intro s hs
   rcases List.mem_or_eq_of_mem_set hs with hs | rfl
   ·exact h.s0 s hs
   ·omega
  ·intro f hf
   rcases List.mem_append.1 hf with hf | hf
   ·have h5 := h.f0 f hf
    refine ⟨h5.1, h5.2.1, ?_⟩
    have hne : j ≠ f.toNat := by
     rintro rfl
     exact lP h5.2.2
    rw [getD_set_ne _ hne]
    exact h5.2.2
   ·rw [List.mem_singleton.1 hf]
    refine ⟨by omega, by omega, ?_⟩
    rw [Int.toNat_natCast, CJ _ hjl]
  ·rw [List.nodup_append]
   refine ⟨h.fnd, by simp, ?_⟩
   intro y hy z hz e
   rw [List.mem_singleton.1 hz] at e
   exact hnf (e ▸ hy)
  ·rw [CK hjl lP, List.length_append, List.length_singleton, h.zc]
 ·exact h
theorem RG0.relL {b : Bk} (h : RG0 b) (l : List Int) : RG0 (relL b l).1 := by
 unfold V.relL
 suffices hh : ∀ s : Bk × List Int, RG0 s.1 → RG0 (l.foldl V.relF s).1 from hh (b, []) h
 induction l with
 | nil => exact fun s hs => hs
 | cons x l ih => exact fun s hs => ih _ (hs.relF x)
theorem pn (l : List Int) {j k : Nat} (h : j ≤ k) : ft l j ≤ ft l k := by
 obtain ⟨d, rfl⟩ := Nat.le.dest h
 clear h
 induction d with
 | zero => exact Nat.le_refl _
 | succ d ih => rw [show j + (d + 1) = (j + d) + 1 from rfl, jM]; omega
theorem F8 (l : List Int) : ∀ (n k : Nat), k < ft l n → ∃ j, j < n ∧ dL l j = true ∧ ft l j = k := by
 intro n
 induction n with
 | zero => intro k h; cases h
 | succ n ih =>
  intro k h
  rw [jM] at h
  rcases Nat.lt_or_ge k (ft l n) with h1 | h1
  ·obtain ⟨j, hj, h2⟩ := ih k h1
   exact ⟨j, by omega, h2⟩
  ·cases hu : dL l n with
   | true => rw [hu, if_pos rfl] at h; exact ⟨n, by omega, hu, by omega⟩
   | false => rw [hu, if_neg (by decide)] at h; omega
theorem AN (b : Bk) : (iQ b b.attrs.length).Sublist b.attrs := by
 have e : b.attrs = (List.range b.attrs.length).map (gF b.attrs) := by
  apply List.ext_getElem
  ·simp
  ·intro k h1 h2
   simp [kI _ _ h1]
 unfold iQ
 conv => rhs; rw [e]
 exact (List.filter_sublist).map _
theorem F7 {l : List Int} {s : Int} (h : s ∈ l) (h0 : 1 ≤ s) : 1 ≤ ft l s.toNat := by
 have h1 := pS l s h h0
 have h2 := jM l (s.toNat - 1)
 rw [h1, if_pos rfl, Nat.sub_add_cancel (by omega)] at h2
 omega
theorem RG0.cmp {b : Bk} (h : RG0 b) : RG (kB b) := by
 have hkl : (kB b).attrs.length = ft b.slots b.attrs.length := lN _ _
 have hz : ∀ s ∈ b.slots, ((ft b.slots s.toNat : Nat) : Int) = 0 ↔ s = 0 := by
  intro s hs
  constructor
  ·intro e
   rcases Int.lt_or_le 0 s with h1 | h1
   ·have := F7 hs h1; omega
   ·have := h.s0 s hs; omega
  ·rintro rfl
   rfl
 refine ⟨⟨h.a0, h.a1, h.first, h.owner, ?_, by show (b.slots.map _).length = 64; rw [List.length_map]; exact h.l64, ?_, ?_, ?_, ?_, h.fnd, ?_⟩, ?_⟩
 ·rw [hkl]; have := vP b.slots b.attrs.length; have := h.na; omega
 ·intro s hs
  obtain ⟨t, ht, rfl⟩ := List.mem_map.1 hs
  have h1 := h.s0 t ht
  have h2 := pn b.slots (show t.toNat ≤ b.attrs.length by omega)
  rw [hkl]
  omega
 ·exact fun a ha => h.may a ((AN b).subset ha)
 ·exact h.nd.sublist (AN b)
 ·intro f hf
  have h1 := h.f0 f hf
  refine ⟨h1.1, h1.2.1, ?_⟩
  have hfl : f.toNat < b.slots.length := by rw [h.l64]; omega
  show (b.slots.map _).getD f.toNat 0 = 0
  rw [getD_eq (by rw [List.length_map]; exact hfl), List.getElem_map, ← getD_eq hfl, h1.2.2]
  rfl
 ·show (b.slots.map _).countP _ = b.free.length
  rw [List.countP_map, ← h.zc]
  apply List.countP_congr
  intro s hs
  simp only [Function.comp, beq_iff_eq]
  exact hz s hs
 ·intro k hk
  rw [hkl] at hk
  obtain ⟨j, hj, hu, hr⟩ := F8 _ _ _ hk
  unfold dL at hu ⊢
  rw [List.any_eq_true] at hu ⊢
  obtain ⟨s, hs, he⟩ := hu
  rw [beq_iff_eq] at he
  refine ⟨_, List.mem_map.2 ⟨s, hs, rfl⟩, ?_⟩
  rw [beq_iff_eq, he, Int.toNat_natCast, jM, if_pos, hr]
  unfold dL
  rw [List.any_eq_true]
  exact ⟨s, hs, by rw [beq_iff_eq]; exact he⟩
theorem RG.rel {b : Bk} (h : RG b) (l : List Int) : RG (lC b l) := (h.toRG0.relL l).cmp
def Ah (l : List Int) (j : Nat) (s : Int) : Int := if s ≤ (j : Int) then s else (j : Int) + ((ft l s.toNat - ft l j : Nat) : Int)
def ix (b : Bk) (j : Nat) : Bk := ⟨b.addr, b.aff, b.slots.map (Ah b.slots j), b.free, b.attrs.take j ++ (iQ b b.attrs.length).drop (ft b.slots j)⟩
theorem Gj (b : Bk) (j d : Nat) : ∃ r, iQ b (j + d) = iQ b j ++ r := by
 induction d with
 | zero => exact ⟨[], by simp⟩
 | succ d ih =>
  obtain ⟨r, hr⟩ := ih
  exact ⟨_, by rw [show j + (d + 1) = (j + d) + 1 from rfl, pv, hr, List.append_assoc]⟩
theorem GA {b : Bk} (h : ∀ s ∈ b.slots, s ≤ (b.attrs.length : Int)) : ix b b.attrs.length = b := by
 obtain ⟨a, f, s, fr, at_⟩ := b
 unfold ix
 congr 1
 ·conv => rhs; rw [← List.map_id s]
  apply List.map_congr_left
  intro x hx
  unfold Ah
  rw [if_pos (h x hx)]
  rfl
 ·show at_.take at_.length ++ _ = at_
  rw [List.take_length, ← lN, List.drop_length, List.append_nil]
theorem Fg {b : Bk} (h : ∀ s ∈ b.slots, 0 ≤ s) : ix b 0 = kB b := by
 unfold ix kB
 congr 1
 apply List.map_congr_left
 intro x hx
 have h0 := h x hx
 unfold Ah
 split
 ·have : x = 0 := by omega
  subst this
  rfl
 ·rw [show ft b.slots 0 = 0 from rfl]
  simp
theorem G9 {l : List Int} {j : Nat} {s : Int} (hs : s ∈ l) : Ah l (j + 1) s = ((j + 1 : Nat) : Int) ↔ s = ((j + 1 : Nat) : Int) := by
 unfold Ah
 split
 ·exact Iff.rfl
 ·rename_i h1
  have h2 := pn l (show j + 1 ≤ s.toNat - 1 by omega)
  have h3 := pS l s hs (by omega)
  have h4 := jM l (s.toNat - 1)
  rw [h3, if_pos rfl, Nat.sub_add_cancel (by omega)] at h4
  constructor
  ·intro e; omega
  ·intro e; omega
theorem Fh (b : Bk) (j : Nat) : dL (ix b (j + 1)).slots j = dL b.slots j := by
 unfold dL
 rw [Bool.eq_iff_iff, List.any_eq_true, List.any_eq_true]
 constructor
 ·rintro ⟨s, hs, he⟩
  obtain ⟨t, ht, rfl⟩ := List.mem_map.1 hs
  rw [beq_iff_eq] at he
  exact ⟨t, ht, by rw [beq_iff_eq]; exact (G9 ht).1 he⟩
 ·rintro ⟨s, hs, he⟩
  rw [beq_iff_eq] at he
  exact ⟨_, List.mem_map.2 ⟨s, hs, rfl⟩, by rw [beq_iff_eq]; exact (G9 hs).2 he⟩
theorem Bx {b : Bk} {j : Nat} (hj : j < b.attrs.length) (hu : dL b.slots j = true) : (iQ b b.attrs.length).drop (ft b.slots j) = gF b.attrs j :: (iQ b b.attrs.length).drop (ft b.slots (j + 1)) := by
 obtain ⟨d, hd⟩ := Nat.le.dest (show j + 1 ≤ b.attrs.length from hj)
 obtain ⟨r, hr⟩ := Gj b (j + 1) d
 rw [hd] at hr
 rw [hr, pv, hu, if_pos rfl, jM, hu, if_pos rfl, List.append_assoc, ← lN b j, List.drop_left]
 rw [show (iQ b j).length + 1 = (iQ b j ++ [gF b.attrs j]).length by simp, ← List.append_assoc, List.drop_left]
 rfl
theorem Fi {b : Bk} (j : Nat) (hj : j < b.attrs.length) : (if dL (ix b (j + 1)).slots j = true then ix b (j + 1) else jY (ix b (j + 1)) j) = ix b j := by
 rw [Fh]
 cases hu : dL b.slots j with
 | true =>
  rw [if_pos rfl]
  unfold ix
  congr 1
  ·apply List.map_congr_left
   intro s hs
   unfold Ah
   have h1 := jM b.slots j
   rw [hu, if_pos rfl] at h1
   by_cases a1 : s ≤ (j : Int)
   ·rw [if_pos (by omega), if_pos a1]
   ·rw [if_neg a1]
    by_cases a2 : s ≤ ((j + 1 : Nat) : Int)
    ·rw [if_pos a2]
     have : s.toNat = j + 1 := by omega
     rw [this]
     omega
    ·rw [if_neg a2]
     have h2 := pn b.slots (show j + 1 ≤ s.toNat by omega)
     omega
  ·rw [Bx hj hu, uU _ _ hj]
   simp
 | false =>
  rw [if_neg (by decide)]
  have h1 : ft b.slots (j + 1) = ft b.slots j := by
   rw [jM, hu, if_neg (by decide)]
   rfl
  unfold ix jY
  simp only
  congr 1
  ·rw [List.map_map]
   apply List.map_congr_left
   intro s hs
   have hns : s ≠ ((j + 1 : Nat) : Int) := by
    rintro rfl
    have := pS b.slots _ hs (by omega)
    rw [Int.toNat_natCast, Nat.add_sub_cancel, hu] at this
    cases this
   simp only [Function.comp]
   unfold kR Ah
   rw [h1]
   by_cases a1 : s ≤ (j : Int)
   ·rw [if_pos a1, if_pos (show s ≤ ((j + 1 : Nat) : Int) by omega), if_neg (by omega)]
   ·rw [if_neg a1, if_neg (show ¬ s ≤ ((j + 1 : Nat) : Int) by omega)]
    have h2 := pn b.slots (show j + 1 ≤ s.toNat - 1 by omega)
    have h3 := pS b.slots s hs (by omega)
    have h4 := jM b.slots (s.toNat - 1)
    rw [h3, if_pos rfl, Nat.sub_add_cancel (by omega)] at h4
    rw [if_pos (by omega)]
    omega
  ·rw [h1]
   have e1 : (b.attrs.take (j + 1)).length = j + 1 := by rw [List.length_take]; omega
   rw [List.take_append_of_le_length (by omega), List.take_take, Nat.min_eq_left (by omega), show j + 1 = (b.attrs.take (j + 1)).length from e1.symm, e1, List.drop_append_of_le_length (by omega), List.drop_eq_nil_of_le (by omega), List.nil_append]
theorem Fm {b : Bk} : ∀ j, j ≤ b.attrs.length → oG j (ix b j) = ix b 0 := by
 intro j
 induction j with
 | zero => intro _; rfl
 | succ j ih =>
  intro h
  show oG j (if dL (ix b (j + 1)).slots j = true then ix b (j + 1) else jY (ix b (j + 1)) j) = _
  rw [Fi j (by omega)]
  exact ih (by omega)
theorem vV {b : Bk} (h : RG b) (l : List Int) : oG b.attrs.length (relL b l).1 = lC b l := by
 have h1 := h.toRG0.relL l
 have h2 := (wq b l).1
 unfold lC
 rw [← h2, ← Fg (fun s hs => (h1.s0 s hs).1), ← Fm (b := (relL b l).1) _ (Nat.le_refl _), GA (fun s hs => (h1.s0 s hs).2)]
end Go.Proofs.Ytemhalnhbgkbcaa.V
end

section
namespace Go.Proofs.Ytemhalnhbgkbcaa.V
theorem bA {P : Program} {ops : Array Oper} {Q : Exit → Act → World → Prop} {oi : Oper} {a : Act} {w : World} {K : Act → World → Prop} (hw : Region.wanted oi (yielded ops a.tmps) = true) (hN : oi.dst = none) (ty : TypeId) (x y : Operand) (ho : oi.op = .store ty x y)
  (g : Nat) (cs : List Value) (hx : a.eval x = .pointer (some ⟨g, 0, none⟩)) (hy : a.eval y = .agg cs.toArray)
  (t : Nat) (qI : List Value) (hb : aH w g qI t) (n : Nat) (hi : (P.info? ty).map (·.size) = some n) (hn : cs.length = n) (hold : qI.length = n) (h1 : ∀ v ∈ cs, v.oneCell' = true)
  (h : ∀ W1, aH W1 g cs t → w.grownBy W1 (some g) → K a W1) : if Region.wanted oi (yielded ops a.tmps) = true then Oper.wp P oi a w K Q else K (a.put none undef) w := by
 have hrun : (execOp a.eval oi).run P w = .ok .skip (w.setRow g cs.toArray) := by
  unfold execOp
  simp only [ho, hx, hy, Instr.storeAt, Instr.sureAddr, Sem.run_bind, Sem.run_pure, Result.andThen_ok, run_storeVar_row w g t ty qI.toArray cs.toArray hb (by rw [hi]; simp [hn]) (by simp; omega) (by rw [Array.all_eq_true_iff_forall_mem]; intro v hv; exact h1 v (by simpa using hv))]
 exact oA hw hN hrun (h _ (setRow_heap w g qI.toArray cs.toArray t (0, 0) hb) (tW w g _))
theorem dM {P : Program} {ops : Array Oper} {Q : Exit → Act → World → Prop} {oi : Oper} {a : Act} {w : World} {K : Act → World → Prop} (hw : Region.wanted oi (yielded ops a.tmps) = true) (ty : TypeId) (ho : oi.op = .alloc ty) (cs : List Value) (hz : ∀ w, (zeroValue ty).run P w = .ok (.agg cs.toArray) w)
  (h : ∀ g W1, w.heap.size ≤ g → aH W1 g cs ty → Below w.heap.size w W1 → K (a.put oi.dst (.pointer (some ⟨g, 0, none⟩))) W1) : if Region.wanted oi (yielded ops a.tmps) = true then Oper.wp P oi a w K Q else K (a.put oi.dst undef) w := by
 have := h w.heap.size (w.alloc (.cells cs.toArray ty)) (Nat.le_refl _) (heap_alloc_new w _) (al (Below.refl _ _) _)
 rw [if_pos hw]
 unfold Oper.wp execOp
 simp only [ho, Instr.alloc, newVar, newRow, newObj, Value.cells, Sem.run_bind, hz, Result.andThen_ok]
 exact this
end Go.Proofs.Ytemhalnhbgkbcaa.V
end

section
namespace Go.Proofs.Ytemhalnhbgkbcaa.V
set_option maxHeartbeats 16000000 in
set_option maxRecDepth 100000 in
theorem D5 (b : Bk) (hk : BkOk b) (x q : Int) (pb : Bool) (a : At) (hpl : ∀ (v : Value) (w : World), fS w v b → Calls Try.prog 92 #[v, .int .u32 x] w fun e w' => e = .returned (.tuple #[.int .i64 q, .bool pb]) ∧ Below w.heap.size w w') (hno : (dm b && (eo a && pb)) = false) (v : Value) (w : World) (h : fS w v b) :
  Calls Try.prog 51 #[v, .int .u32 x, ej a] w fun e w' => ∃ v', e = .returned (.tuple #[v', .int .i64 1]) ∧ ea w' w.heap.size v' jP ∧ Below w.heap.size w w' := by
 obtain ⟨A, c, A', c', rfl, hr⟩ := h
 have HL := ak hr.l64
 have HR := ak hr
 have HK := ak hk
 have ae := ak (Below.refl w.heap.size w)
 have HPL := ak hpl
 clear hr hk hpl
 cases hrt : dm b with
 | false =>
  have HRT := ak hrt
  clear hrt hno
  go_enter Try.func51, Try.ntmps51
  go_wp2_with (first
   | (refine aE rfl 57 (.tmp 0) rfl _ rfl ?_; intro gX W1 J aa I; have bQ := ge ae J; have ai := ak (ae.out.trans (I.mono ae.out.size)); have ah := ak (aa); clear J aa I ae)
   | (refine aE rfl 85 (.tmp 2) rfl _ rfl ?_; intro gA W2 J aa I; have ku := ge ai J; have eD := ne ah J; have av := mv I ai; have au := mv I ah; have cd := ak (aa); clear J aa I ai ah)
   | (refine aw (some 6) rfl rfl 57 rfl a9 bP ?_; intro gZ W3 J aa I; have bN := ge av J; have aG := ne au J; have gf := ne cd J; have aD := mv I av; have aA := mv I au; have dq := mv I cd; have bL := ak (aa); clear J aa I av au cd)
   | ((with_reducible refine ax (N := 11) rfl ?_); refine az rfl 57 (.tmp 3) rfl gX rfl _ _ _ aA.out Try.underlying57 rfl 68 (by kernel_rfl) (ag _ _ _ _ _ HL.out) ?_)
   | (go_at_call 92; refine (HPL.out _ _ ⟨A, c, A', c', rfl, HR.out.below aD.out⟩).mono ?_; rintro e W4 ⟨rfl, I⟩; have aY := mv I aD; have aV := mv I aA; have dI := mv I dq; have a8 := mv I bL; clear I aD aA dq bL)
   | ((with_reducible refine ax (N := 17) rfl ?_); obtain ⟨gI, J⟩ : ∃ g_, g_ = W4.heap.size := ⟨_, rfl⟩; rw [← J]; generalize bR : W4.alloc (.cells #[.int .i64 q] 3) = W5; have I : Below W4.heap.size W4 W5 := (by rw [← bR]; exact al (Below.refl _ _) _); have aa : aH W5 gI [.int .i64 q] 3 := (by rw [← bR, J]; exact heap_alloc_new W4 _); have fL : W4.heap.size ≤ gI := Nat.le_of_eq J.symm; have vx := ge aY fL; have l5 := ne aV fL; have tr := ne dI fL; have tj := ne a8 fL; have bf := mv I aY; have bb := mv I aV; have eJ := mv I dI; have bu := mv I a8; have jO := ak (aa); clear bR I aa fL J aY aV dI a8; refine az rfl 57 (.tmp 3) rfl gX rfl _ _ _ bb.out Try.underlying57 rfl 68 (by kernel_rfl) (ag _ _ _ _ _ HL.out) ?_)
   | (go_at_call 48; refine (dH b HK.out _ _ ⟨A, c, A', c', rfl, HR.out.below bf.out⟩).mono ?_; rintro e W6 ⟨rfl, I⟩; rw [HRT.out]; have bG := mv I bf; have bh := mv I bb; have fy := mv I eJ; have bS := mv I bu; have kL := mv I jO; clear I bf bb eJ bu jO)
   | (refine fq rfl 57 #[] rfl a9 la ?_)
   | (refine aN rfl 57 (.tmp 6) (.tmp 29) rfl gZ a9 rfl rfl 57 _ bS.out 68 (by kernel_rfl) rfl rfl iY ?_; intro W7 aa J; have dU := gb bG bN J; have dj := gn bh aG J; have kj := gx fy bS J; have dz := ak (aa); have kx := gx kL bS J; clear aa J bG bh fy bS kL))
  exact bodyPost_ret (eU rfl _ _ gZ 57 _ (0, 0) _ rfl dz.out Try.underlying57 rfl (by simp only [List.size_toArray]; exact cg _ rfl)) rfl ⟨_, rfl, mR _ _, dU.out⟩
 | true =>
  have HRT := ak hrt
  cases hm : eo a with
  | false =>
   have HMY := ak hm
   clear hrt hno hm
   go_enter Try.func51, Try.ntmps51
   go_wp2_with (first
    | (refine aE rfl 57 (.tmp 0) rfl _ rfl ?_; intro gX W1 J aa I; have bQ := ge ae J; have ai := ak (ae.out.trans (I.mono ae.out.size)); have ah := ak (aa); clear J aa I ae)
    | (refine aE rfl 85 (.tmp 2) rfl _ rfl ?_; intro gA W2 J aa I; have ku := ge ai J; have eD := ne ah J; have av := mv I ai; have au := mv I ah; have cd := ak (aa); clear J aa I ai ah)
    | (refine aw (some 6) rfl rfl 57 rfl a9 bP ?_; intro gZ W3 J aa I; have bN := ge av J; have aG := ne au J; have gf := ne cd J; have aD := mv I av; have aA := mv I au; have dq := mv I cd; have bL := ak (aa); clear J aa I av au cd)
    | ((with_reducible refine ax (N := 11) rfl ?_); refine az rfl 57 (.tmp 3) rfl gX rfl _ _ _ aA.out Try.underlying57 rfl 68 (by kernel_rfl) (ag _ _ _ _ _ HL.out) ?_)
    | (go_at_call 92; refine (HPL.out _ _ ⟨A, c, A', c', rfl, HR.out.below aD.out⟩).mono ?_; rintro e W4 ⟨rfl, I⟩; have aY := mv I aD; have aV := mv I aA; have dI := mv I dq; have a8 := mv I bL; clear I aD aA dq bL)
    | ((with_reducible refine ax (N := 17) rfl ?_); obtain ⟨gI, J⟩ : ∃ g_, g_ = W4.heap.size := ⟨_, rfl⟩; rw [← J]; generalize bR : W4.alloc (.cells #[.int .i64 q] 3) = W5; have I : Below W4.heap.size W4 W5 := (by rw [← bR]; exact al (Below.refl _ _) _); have aa : aH W5 gI [.int .i64 q] 3 := (by rw [← bR, J]; exact heap_alloc_new W4 _); have fL : W4.heap.size ≤ gI := Nat.le_of_eq J.symm; have vx := ge aY fL; have l5 := ne aV fL; have tr := ne dI fL; have tj := ne a8 fL; have bf := mv I aY; have bb := mv I aV; have eJ := mv I dI; have bu := mv I a8; have jO := ak (aa); clear bR I aa fL J aY aV dI a8; refine az rfl 57 (.tmp 3) rfl gX rfl _ _ _ bb.out Try.underlying57 rfl 68 (by kernel_rfl) (ag _ _ _ _ _ HL.out) ?_)
    | (go_at_call 48; refine (dH b HK.out _ _ ⟨A, c, A', c', rfl, HR.out.below bf.out⟩).mono ?_; rintro e W6 ⟨rfl, I⟩; rw [HRT.out]; have bG := mv I bf; have bh := mv I bb; have fy := mv I eJ; have bS := mv I bu; have kL := mv I jO; clear I bf bb eJ bu jO)
    | ((with_reducible refine ax (N := 21) rfl ?_); refine ff (by rfl) ?_; refine az rfl 85 (.tmp 5) rfl gA rfl _ _ _ fy.out Try.underlying85 rfl 2 (by kernel_rfl) rfl ?_)
    | (go_at_call 88; refine (jB a _).mono ?_; rintro e W7 ⟨rfl, I⟩; rw [HMY.out]; have dU := mv I bG; have dj := mv I bh; have kj := mv I fy; have dz := mv I bS; have kx := mv I kL; clear I bG bh fy bS kL)
    | (refine fq rfl 57 #[] rfl a9 la ?_)
    | (refine aN rfl 57 (.tmp 6) (.tmp 29) rfl gZ a9 rfl rfl 57 _ dz.out 68 (by kernel_rfl) rfl rfl iY ?_; intro W8 aa J; have gM := gb dU bN J; have gK := gn dj aG J; have Cl := gx kj dz J; have fH := ak (aa); have wb := gx kx dz J; clear aa J dU dj kj dz kx))
   exact bodyPost_ret (eU rfl _ _ gZ 57 _ (0, 0) _ rfl fH.out Try.underlying57 rfl (by simp only [List.size_toArray]; exact cg _ rfl)) rfl ⟨_, rfl, mR _ _, gM.out⟩
  | true =>
   have HMY := ak hm
   rw [hrt, hm] at hno
   obtain rfl : pb = false := by simpa using hno
   clear hrt hno hm
   go_enter Try.func51, Try.ntmps51
   go_wp2_with (first
    | (refine aE rfl 57 (.tmp 0) rfl _ rfl ?_; intro gX W1 J aa I; have bQ := ge ae J; have ai := ak (ae.out.trans (I.mono ae.out.size)); have ah := ak (aa); clear J aa I ae)
    | (refine aE rfl 85 (.tmp 2) rfl _ rfl ?_; intro gA W2 J aa I; have ku := ge ai J; have eD := ne ah J; have av := mv I ai; have au := mv I ah; have cd := ak (aa); clear J aa I ai ah)
    | (refine aw (some 6) rfl rfl 57 rfl a9 bP ?_; intro gZ W3 J aa I; have bN := ge av J; have aG := ne au J; have gf := ne cd J; have aD := mv I av; have aA := mv I au; have dq := mv I cd; have bL := ak (aa); clear J aa I av au cd)
    | ((with_reducible refine ax (N := 11) rfl ?_); refine az rfl 57 (.tmp 3) rfl gX rfl _ _ _ aA.out Try.underlying57 rfl 68 (by kernel_rfl) (ag _ _ _ _ _ HL.out) ?_)
    | (go_at_call 92; refine (HPL.out _ _ ⟨A, c, A', c', rfl, HR.out.below aD.out⟩).mono ?_; rintro e W4 ⟨rfl, I⟩; have aY := mv I aD; have aV := mv I aA; have dI := mv I dq; have a8 := mv I bL; clear I aD aA dq bL)
    | ((with_reducible refine ax (N := 17) rfl ?_); obtain ⟨gI, J⟩ : ∃ g_, g_ = W4.heap.size := ⟨_, rfl⟩; rw [← J]; generalize bR : W4.alloc (.cells #[.int .i64 q] 3) = W5; have I : Below W4.heap.size W4 W5 := (by rw [← bR]; exact al (Below.refl _ _) _); have aa : aH W5 gI [.int .i64 q] 3 := (by rw [← bR, J]; exact heap_alloc_new W4 _); have fL : W4.heap.size ≤ gI := Nat.le_of_eq J.symm; have vx := ge aY fL; have l5 := ne aV fL; have tr := ne dI fL; have tj := ne a8 fL; have bf := mv I aY; have bb := mv I aV; have eJ := mv I dI; have bu := mv I a8; have jO := ak (aa); clear bR I aa fL J aY aV dI a8; refine az rfl 57 (.tmp 3) rfl gX rfl _ _ _ bb.out Try.underlying57 rfl 68 (by kernel_rfl) (ag _ _ _ _ _ HL.out) ?_)
    | (go_at_call 48; refine (dH b HK.out _ _ ⟨A, c, A', c', rfl, HR.out.below bf.out⟩).mono ?_; rintro e W6 ⟨rfl, I⟩; rw [HRT.out]; have bG := mv I bf; have bh := mv I bb; have fy := mv I eJ; have bS := mv I bu; have kL := mv I jO; clear I bf bb eJ bu jO)
    | ((with_reducible refine ax (N := 21) rfl ?_); refine ff (by rfl) ?_; refine az rfl 85 (.tmp 5) rfl gA rfl _ _ _ fy.out Try.underlying85 rfl 2 (by kernel_rfl) rfl ?_)
    | (go_at_call 88; refine (jB a _).mono ?_; rintro e W7 ⟨rfl, I⟩; rw [HMY.out]; have dU := mv I bG; have dj := mv I bh; have kj := mv I fy; have dz := mv I bS; have kx := mv I kL; clear I bG bh fy bS kL)
    | (refine fq rfl 57 #[] rfl a9 la ?_)
    | (refine aN rfl 57 (.tmp 6) (.tmp 29) rfl gZ a9 rfl rfl 57 _ dz.out 68 (by kernel_rfl) rfl rfl iY ?_; intro W8 aa J; have gM := gb dU bN J; have gK := gn dj aG J; have Cl := gx kj dz J; have fH := ak (aa); have wb := gx kx dz J; clear aa J dU dj kj dz kx))
   exact bodyPost_ret (eU rfl _ _ gZ 57 _ (0, 0) _ rfl fH.out Try.underlying57 rfl (by simp only [List.size_toArray]; exact cg _ rfl)) rfl ⟨_, rfl, mR _ _, gM.out⟩
set_option maxHeartbeats 16000000 in
set_option maxRecDepth 100000 in
theorem yN (b : Bk) (hk : BkOk b) (x : Int) (j : Nat) (hj : j < 64) (a : At) (hpl : ∀ (v : Value) (w : World), fS w v b → Calls Try.prog 92 #[v, .int .u32 x] w fun e w' => e = .returned (.tuple #[.int .i64 (j : Int), .bool true]) ∧ Below w.heap.size w w') (hrt : dm b = true) (hm : eo a = true) (hne : (b.slots.getD j 0 != 0) = true) (v : Value) (w : World) (h : fS w v b) :
  Calls Try.prog 51 #[v, .int .u32 x, ej a] w fun e w' => ∃ v', e = .returned (.tuple #[v', .int .i64 11]) ∧ ea w' w.heap.size v' jP ∧ Below w.heap.size w w' := by
 obtain ⟨A, c, A', c', rfl, hr⟩ := h
 have HL := ak hr.l64
 have HR := ak hr
 have HK := ak hk
 have ae := ak (Below.refl w.heap.size w)
 have HPL := ak hpl
 have HRT := ak hrt
 have HMY := ak hm
 obtain ⟨m, hmm⟩ : ∃ m, b.slots.getD j 0 = m := ⟨_, rfl⟩
 have HM := ak hmm
 rw [hmm] at hne
 clear hr hk hpl hrt hm hmm
 go_enter Try.func51, Try.ntmps51
 go_wp2_with (first
  | (refine aE rfl 57 (.tmp 0) rfl _ rfl ?_; intro gX W1 J aa I; have bQ := ge ae J; have ai := ak (ae.out.trans (I.mono ae.out.size)); have ah := ak (aa); clear J aa I ae)
  | (refine aE rfl 85 (.tmp 2) rfl _ rfl ?_; intro gA W2 J aa I; have ku := ge ai J; have eD := ne ah J; have av := mv I ai; have au := mv I ah; have cd := ak (aa); clear J aa I ai ah)
  | (refine aw (some 6) rfl rfl 57 rfl a9 bP ?_; intro gZ W3 J aa I; have bN := ge av J; have aG := ne au J; have gf := ne cd J; have aD := mv I av; have aA := mv I au; have dq := mv I cd; have bL := ak (aa); clear J aa I av au cd)
  | ((with_reducible refine ax (N := 11) rfl ?_); refine az rfl 57 (.tmp 3) rfl gX rfl _ _ _ aA.out Try.underlying57 rfl 68 (by kernel_rfl) (ag _ _ _ _ _ HL.out) ?_)
  | (go_at_call 92; refine (HPL.out _ _ ⟨A, c, A', c', rfl, HR.out.below aD.out⟩).mono ?_; rintro e W4 ⟨rfl, I⟩; have aY := mv I aD; have aV := mv I aA; have dI := mv I dq; have a8 := mv I bL; clear I aD aA dq bL)
  | ((with_reducible refine ax (N := 17) rfl ?_); obtain ⟨gI, J⟩ : ∃ g_, g_ = W4.heap.size := ⟨_, rfl⟩; rw [← J]; generalize bR : W4.alloc (.cells #[.int .i64 (j : Int)] 3) = W5; have I : Below W4.heap.size W4 W5 := (by rw [← bR]; exact al (Below.refl _ _) _); have aa : aH W5 gI [.int .i64 (j : Int)] 3 := (by rw [← bR, J]; exact heap_alloc_new W4 _); have fL : W4.heap.size ≤ gI := Nat.le_of_eq J.symm; have vx := ge aY fL; have l5 := ne aV fL; have tr := ne dI fL; have tj := ne a8 fL; have bf := mv I aY; have bb := mv I aV; have eJ := mv I dI; have bu := mv I a8; have jO := ak (aa); clear bR I aa fL J aY aV dI a8; refine az rfl 57 (.tmp 3) rfl gX rfl _ _ _ bb.out Try.underlying57 rfl 68 (by kernel_rfl) (ag _ _ _ _ _ HL.out) ?_)
  | (go_at_call 48; refine (dH b HK.out _ _ ⟨A, c, A', c', rfl, HR.out.below bf.out⟩).mono ?_; rintro e W6 ⟨rfl, I⟩; rw [HRT.out]; have bG := mv I bf; have bh := mv I bb; have fy := mv I eJ; have bS := mv I bu; have kL := mv I jO; clear I bf bb eJ bu jO)
  | ((with_reducible refine ax (N := 21) rfl ?_); refine ff (by rfl) ?_; refine az rfl 85 (.tmp 5) rfl gA rfl _ _ _ fy.out Try.underlying85 rfl 2 (by kernel_rfl) rfl ?_)
  | (go_at_call 88; refine (jB a _).mono ?_; rintro e W7 ⟨rfl, I⟩; rw [HMY.out]; have dU := mv I bG; have dj := mv I bh; have kj := mv I fy; have dz := mv I bS; have kx := mv I kL; have Gu := kx.out.cell 0 _ rfl; have lR := (show W7.cell? ⟨gX, 2 + j, none⟩ = some (.int .u8 m) from by have h_ := dj.out.slot HL.out j hj; rwa [HM.out] at h_); clear I bG bh fy bS kL)
  | (refine fq rfl 57 #[] rfl a9 la ?_)
  | (refine aN rfl 57 (.tmp 6) (.tmp 36) rfl gZ a9 rfl rfl 57 _ dz.out 68 (by kernel_rfl) rfl rfl iY ?_; intro W8 aa J; have gM := gb dU bN J; have gK := gn dj aG J; have Cl := gx kj dz J; have fH := ak (aa); have wb := gx kx dz J; clear aa J dU dj kj dz kx Gu lR))
 exact bodyPost_ret (eU rfl _ _ gZ 57 _ (0, 0) _ rfl fH.out Try.underlying57 rfl (by simp only [List.size_toArray]; exact cg _ rfl)) rfl ⟨_, rfl, mR _ _, gM.out⟩
def o5.T7 : Bool × List (List Nat × List Nat) := (true, [([], []), ([], []), ([1], [1]), ([], []), ([3, 0, 0, 1, 2], [0, 3]), ([4, 2, 2, 0, 1, 2], [2, 4])])
def o5.B7 : List Nat := [0, 0, 2, 0, 15, 31]
theorem o5.tab7 : dC .any (opsOf Try.f51 7) = o5.T7 := by kernel_rfl
theorem o5.bits7 : cU o5.T7.2 o5.B7 = true := by kernel_rfl
set_option maxHeartbeats 16000000 in
set_option maxRecDepth 100000 in
theorem Ca (b : Bk) (hk : BkOk b) (x : Int) (j : Nat) (hj : j < 64) (a : At) (hpl : ∀ (v : Value) (w : World), fS w v b → Calls Try.prog 92 #[v, .int .u32 x] w fun e w' => e = .returned (.tuple #[.int .i64 (j : Int), .bool true]) ∧ Below w.heap.size w w') (hrt : dm b = true) (hm : eo a = true) (hz : b.slots.getD j 0 = 0) (v : Value) (w : World) (h : fS w v b) :
  Calls Try.prog 51 #[v, .int .u32 x, ej a] w fun e w' => ∃ v', e = .returned (.tuple #[v', .int .i64 0]) ∧ ea w' w.heap.size v' (fG b j a) ∧ Below w.heap.size w w' := by
 obtain ⟨A, c, A', c', rfl, hr⟩ := h
 have HL := ak hr.l64
 have HR := ak hr
 have HK := ak hk
 have ae := ak (Below.refl w.heap.size w)
 have HPL := ak hpl
 have hp := iw hrt
 have hsum := hp.sum_le hk HL.out
 have HRT := ak hrt
 have HMY := ak hm
 have HM := ak hz
 have HFL := ak (show b.free.length ≤ 64 by omega)
 have HAL := ak (show b.attrs.length ≤ 100 by omega)
 have HCP := ak (mc b (by omega) (by omega))
 clear hr hk hpl hrt hm hz hp hsum
 go_enter Try.func51, Try.ntmps51
 go_wp2_with (first
  | (refine aE rfl 57 (.tmp 0) rfl _ rfl ?_; intro gX W1 J aa I; have bQ := ge ae J; have ai := ak (ae.out.trans (I.mono ae.out.size)); have ah := ak (aa); clear J aa I ae)
  | (refine aE rfl 85 (.tmp 2) rfl _ rfl ?_; intro gA W2 J aa I; have ku := ge ai J; have eD := ne ah J; have av := mv I ai; have au := mv I ah; have cd := ak (aa); clear J aa I ai ah)
  | (refine aw (some 6) rfl rfl 57 rfl a9 bP ?_; intro gZ W3 J aa I; have bN := ge av J; have aG := ne au J; have gf := ne cd J; have aD := mv I av; have aA := mv I au; have dq := mv I cd; have bL := ak (aa); clear J aa I av au cd)
  | ((with_reducible refine ax (N := 11) rfl ?_); refine az rfl 57 (.tmp 3) rfl gX rfl _ _ _ aA.out Try.underlying57 rfl 68 (by kernel_rfl) (ag _ _ _ _ _ HL.out) ?_)
  | (go_at_call 92; refine (HPL.out _ _ ⟨A, c, A', c', rfl, HR.out.below aD.out⟩).mono ?_; rintro e W4 ⟨rfl, I⟩; have aY := mv I aD; have aV := mv I aA; have dI := mv I dq; have a8 := mv I bL; clear I aD aA dq bL)
  | ((with_reducible refine ax (N := 17) rfl ?_); obtain ⟨gI, J⟩ : ∃ g_, g_ = W4.heap.size := ⟨_, rfl⟩; rw [← J]; generalize bR : W4.alloc (.cells #[.int .i64 (j : Int)] 3) = W5; have I : Below W4.heap.size W4 W5 := (by rw [← bR]; exact al (Below.refl _ _) _); have aa : aH W5 gI [.int .i64 (j : Int)] 3 := (by rw [← bR, J]; exact heap_alloc_new W4 _); have fL : W4.heap.size ≤ gI := Nat.le_of_eq J.symm; have vx := ge aY fL; have l5 := ne aV fL; have tr := ne dI fL; have tj := ne a8 fL; have bf := mv I aY; have bb := mv I aV; have eJ := mv I dI; have bu := mv I a8; have jO := ak (aa); clear bR I aa fL J aY aV dI a8; refine az rfl 57 (.tmp 3) rfl gX rfl _ _ _ bb.out Try.underlying57 rfl 68 (by kernel_rfl) (ag _ _ _ _ _ HL.out) ?_)
  | (go_at_call 48; refine (dH b HK.out _ _ ⟨A, c, A', c', rfl, HR.out.below bf.out⟩).mono ?_; rintro e W6 ⟨rfl, I⟩; rw [HRT.out]; have bG := mv I bf; have bh := mv I bb; have fy := mv I eJ; have bS := mv I bu; have kL := mv I jO; clear I bf bb eJ bu jO)
  | ((with_reducible refine ax (N := 21) rfl ?_); refine ff (by rfl) ?_; refine az rfl 85 (.tmp 5) rfl gA rfl _ _ _ fy.out Try.underlying85 rfl 2 (by kernel_rfl) rfl ?_)
  | (go_at_call 88; refine (jB a _).mono ?_; rintro e W7 ⟨rfl, I⟩; rw [HMY.out]; have dU := mv I bG; have dj := mv I bh; have kj := mv I fy; have dz := mv I bS; have kx := mv I kL; have Gu := kx.out.cell 0 _ rfl; have lR := (show W7.cell? ⟨gX, 2 + j, none⟩ = some (.int .u8 0) from by have h_ := dj.out.slot HL.out j hj; rwa [HM.out] at h_); clear I bG bh fy bS kL)
  | ((with_reducible refine ax (N := 37) rfl ?_); refine az rfl 57 (.tmp 3) rfl gX rfl _ _ _ dj.out Try.underlying57 rfl 68 (by kernel_rfl) (ag _ _ _ _ _ HL.out) ?_)
  | (go_at_call 89; refine (HCP.out _ _ ⟨A, c, A', c', rfl, HR.out.below dU.out⟩).mono ?_; rintro e W8 ⟨v5, rfl, uj, I⟩; obtain ⟨um, vf, va, rfl, lQ, lV⟩ := uj; obtain ⟨Af, cf, rfl⟩ := Kd.R_slice lQ; obtain ⟨Aa, ca, rfl⟩ := Kd.R_slice lV; have HSZ := ak dU.out.size; have tt := ak (show gX < W7.heap.size from dj.out.lt); have nH := ak (show gA < W7.heap.size from kj.out.lt); have nG := ak (show gZ < W7.heap.size from dz.out.lt); have Hx := ak (show gI < W7.heap.size from kx.out.lt); have gM := mv I dU; have gK := mv I dj; have Cl := mv I kj; have fH := mv I dz; have wb := mv I kx; have kh := ak (lQ); have kg := ak (lV); have ly := ak (I.size); clear um lQ lV I dU dj kj dz kx Gu lR)
  | (refine aN rfl 57 (.tmp 3) (.tmp 38) rfl gX (aZ b.addr b.aff b.slots (.slice Af b.free.length cf) (.slice Aa b.attrs.length ca)) rfl rfl 57 _ gK.out 68 (by kernel_rfl) (ag _ _ _ _ _ HL.out) (ag _ _ _ _ _ HL.out) (b4 _ _ _ _ _ rfl rfl) ?_; intro W9 aa J; have ki := gb gM bQ J; have kf := ak (OC.stored HL.out gK.out aa kh.out kg.out J); have MD := gx Cl gK J; have j3 := gm fH aG J; have Ch := gx wb gK J; have m8 := gr kh gK J; have m7 := gr kg gK J; have kV := ak (Nat.le_trans ly.out J.size); clear aa J gM gK Cl fH wb kh kg ly))
 obtain ⟨b1, cy⟩ : ∃ b1, b1 = W7.heap.size := ⟨_, rfl⟩
 rw [← cy] at kf kV tt nH nG Hx HSZ
 have cn := ak (show w.heap.size ≤ b1 from HSZ.out)
 clear cy HSZ
 have aj : Below W9.heap.size W9 W9.drew := bo (Below.refl _ _)
 have mm := mv aj ki; have mh := mv aj kf; have Ed := mv aj MD; have mU := mv aj j3; have rJ := mv aj Ch; have nP := ak (Nat.le_trans kV.out aj.size)
 clear aj ki kf MD j3 Ch kV
 have pj : ((j : Int) < 64) = True := eq_true (by omega)
 refine cW (n := 6) (S := fun w' => w'.cell? ⟨gI, 0, none⟩ = some (.int .i64 (j : Int)) ∧ w'.cell? ⟨gA, 0, none⟩ = some (.string a.f0) ∧ w'.cell? ⟨gA, 1, none⟩ = some (.string a.f1)) (ds := [5]) #[false, false, false, false, false, false] (by kernel_rfl) rfl rfl ⟨rJ.out.cell 0 _ rfl, Ed.out.cell 0 _ rfl, Ed.out.cell 1 _ rfl⟩ (fun hHeld => ?_); refine bK o5.tab7 o5.bits7 (fun ab bj => ?_)
 refine tk 0 ab.out bj.out hHeld ?_ (hv := by intro w' aU; obtain ⟨s0, s1, s2⟩ := aU; go_simp; with_reducible rfl)
 refine tk 1 ab.out bj.out hHeld ?_ (hv := by intro w' aU; obtain ⟨s0, s1, s2⟩ := aU; go_simp; with_reducible rfl)
 refine pu 3 ab.out ?_
 refine on 2 ab.out (fun K hK => ?_)
 refine gs Try.func90 #[.pointer (some ⟨gX, 0, none⟩), .agg #[.string a.f0, .string a.f1]] (pq b HAL.out a gX b1 w.heap.size _ bQ.out cn.out nP.out mh.out) ?_
 rintro e V1 ⟨rfl, aW, I, cD⟩
 refine ⟨_, rfl, ?_⟩
 obtain ⟨MG, LZ, MF, LY, jc, _, _⟩ := mh.out.open; have rZ := ak (mm.out.trans I); have nJ := ak (aW); have zZ := ak (aH.added Ed.out (Ne.symm eD.out) nH.out cD); have rf := ak (aH.added mU.out (Ne.symm aG.out) nG.out cD); have pL := ak (aH.added rJ.out (Ne.symm l5.out) Hx.out cD); have ru := ak (Nat.le_trans nP.out cD.1); clear aW I cD
 refine kn hK ⟨pL.out.cell 0 _ rfl, zZ.out.cell 0 _ rfl, zZ.out.cell 1 _ rfl⟩ (fun hHeld => ?_)
 clear hK K
 refine pu 4 ab.out ?_
 refine pr (i := 5) (N := none) #[true, true, true, true, true, true] rfl rfl (lL ab.out (by kernel_rfl)) (by decide) (fun K hK => ?_)
 have mO := (show OC V1 b1 gX ⟨b.addr, b.aff, b.slots, b.free, eh b.attrs a⟩ from nJ.out).slotCell j hj; have lE := nJ.out.frozen (2 + j)
 refine oA (w1 := ?_) (by rfl) rfl ?_ ?_
 rotate_left
 ·go_simp
  rfl
 refine hK.out _ _ ?_
 clear hK K
 refine dn ab.out ?_
 clear mO lE hHeld
 obtain ⟨_, _, _, _, jc, _, _⟩ := nJ.out.open; generalize bR : V1.setCell ⟨gX, 2 + j, none⟩ (.int .u8 (eF b.attrs a : Nat)) = Hu; have J : V1.grownBy Hu (some gX) := (by rw [← bR]; exact bO _ _ _ _); have rY := gb rZ bQ J; have nI := ak (OC.slot nJ.out j hj (eF b.attrs a : Nat)); have TH := gm zZ eD J; have pD := gm rf aG J; have oL := gm pL l5 J; have pI := ak (Nat.le_trans ru.out J.size); rw [bR] at nI; clear bR J rZ nJ zZ rf pL ru jc
 obtain ⟨bm, hbm⟩ : ∃ bm : Bk, bm = ⟨b.addr, b.aff, b.slots.set j (eF b.attrs a : Nat), b.free, eh b.attrs a⟩ := ⟨_, rfl⟩
 have HGV := ak (show fG b j a = ⟨bm.addr, bm.aff, bm.slots, bm.free.filter (fQ (j : Int)), bm.attrs⟩ by rw [hbm]; rfl)
 have HFR := ak (show bm.free = b.free by rw [hbm])
 rw [← hbm] at nI
 clear hbm
 obtain ⟨A1, c1, A2, c2, hxx, mN, kM⟩ := nI.out.open
 have LC := hxx.cell 66 _ (fP _ _ _ _ _ nI.out.l64)
 have rI := ak nI.out.l64
 have HXX := ak hxx
 have jK := ak mN
 have j4 := ak kM
 clear hxx mN kM
 obtain ⟨fd, hfd⟩ : ∃ fd, fd = bm.free.filter (fQ (j : Int)) := ⟨_, rfl⟩
 have HFD := ak hfd
 clear hfd
 go_wp2_with (first
  | (go_at_call 93; refine (yH bm.free (by rw [HFR.out]; exact HK.out.f8) (by rw [HFR.out]; have := HFL.out; omega) A1 c1 (j : Int) gI b1 _ jK.out oL.out pI.out).mono ?_; rintro e V3 ⟨v3, rfl, aW, I, cD⟩; have yj := ak (rY.out.trans (I.mono cn.out)); have oK := ak (aH.keeps HXX.out cD (HXX.out.ne_row jK.out (by decide))); have wN := ak (aH.keeps pD.out cD (pD.out.ne_row jK.out (by decide))); have xD := ak (aH.keeps oL.out cD (oL.out.ne_row jK.out (by decide))); have xe := ak (Nat.le_trans pI.out cD.1); have xO := ak (aW); have xH := ak (Kd.R_keptrow j4.out jK.out (by decide) cD); rw [← HFD.out] at aW; obtain ⟨A3, c3, rfl⟩ := Kd.R_slice aW; have mO := oK.out.cell 66 _ (fP _ _ _ _ _ rI.out); have lE := oK.out.frozen 66; clear LC aW I cD rY HXX pD oL pI jK j4)
  | ((with_reducible refine ax (N := 49) rfl ?_); generalize bR : V3.setCell ⟨gX, 66, none⟩ (.slice A3 fd.length c3) = SL; have J : V3.grownBy SL (some gX) := (by rw [← bR]; exact bO _ _ _ _); have yi := gb yj bQ J; have rl := ak (oK.out.set 66 (.slice A3 fd.length c3)); have re := gm wN aG J; have xC := gx xD oK J; have xd := ak (Nat.le_trans xe.out J.size); have xN := gr xO oK J; have xG := gr xH oK J; rw [bR] at rl; clear bR J yj oK wN xD xe xO xH mO lE; rw [kS _ _ _ _ _ rI.out] at rl; refine az rfl 57 (.tmp 3) rfl gX rfl _ _ _ rl.out Try.underlying57 rfl 68 (by kernel_rfl) (ag _ _ _ _ _ rI.out) ?_)
  | (refine aN rfl 57 (.tmp 6) (.tmp 49) rfl gZ (aZ bm.addr bm.aff bm.slots (.slice A3 fd.length c3) (.slice A2 bm.attrs.length c2)) rfl rfl 57 _ re.out 68 (by kernel_rfl) (ag _ _ _ _ _ rI.out) rfl (b4 _ _ _ _ _ rfl rfl) ?_; intro UC aa J; have N3 := gb yi bN J; have TE := gn rl aG J; have NW := ak (aa); have TG := gx xC re J; have TF := ak (Nat.le_trans xd.out J.size); have N2 := gr xN re J; have N0 := gr xG re J; clear aa J yi rl re xC xd xN xG))
 refine bodyPost_ret (eU rfl _ _ gZ 57 _ (0, 0) _ rfl NW.out Try.underlying57 rfl (by simp only [List.size_toArray]; exact cg _ (ag _ _ _ _ _ rI.out))) rfl ⟨_, rfl, ?_, N3.out⟩
 have hff := N2.out
 rw [← HFD.out] at hff
 rw [HGV.out, ← HFD.out]
 exact ⟨rI.out, _, _, rfl, Kd.R_lower hff cn.out, Kd.R_lower N0.out cn.out⟩
def pa (b : Bk) (x : Int) (a : At) : Bool := dm b && (eo a && decide (bV x = b.addr))
def ox (b : Bk) (x : Int) : Bool := b.slots.getD (x - b.addr).toNat 0 != 0
def qA (b : Bk) (x : Int) (a : At) : Int := if pa b x a = true then (if ox b x = true then 11 else 0) else 1
def mY (b : Bk) (x : Int) (a : At) : Bk := if pa b x a = true then (if ox b x = true then jP else fG b (x - b.addr).toNat a) else jP
theorem nC (b : Bk) (hk : BkOk b) (x : Int) (h0 : 0 ≤ x) (h1 : x < 4294967296) (a : At) (v : Value) (w : World) (h : fS w v b) :
  Calls Try.prog 51 #[v, .int .u32 x, ej a] w fun e w' => ∃ v', e = .returned (.tuple #[v', .int .i64 (qA b x a)]) ∧ ea w' w.heap.size v' (mY b x a) ∧ Below w.heap.size w w' := by
 have hpl := fun v w h => tZ b hk x h0 h1 v w h
 cases ho : pa b x a with
 | false =>
  have e1 : qA b x a = 1 := by unfold qA; rw [ho]; rfl
  have e2 : mY b x a = jP := by unfold mY; rw [ho]; rfl
  rw [e1, e2]
  exact D5 b hk x _ _ a hpl ho v w h
 | true =>
  have ho' := ho
  unfold pa at ho'
  simp only [Bool.and_eq_true, decide_eq_true_eq] at ho'
  obtain ⟨hr, hm, hf⟩ := ho'
  have hj : (x - b.addr).toNat < 64 ∧ ((x - b.addr).toNat : Int) = x - b.addr := by
   unfold bV at hf
   omega
  rw [if_pos hf, decide_eq_true hf, ← hj.2] at hpl
  cases ht : ox b x with
  | true =>
   have e1 : qA b x a = 11 := by unfold qA; rw [ho, ht]; rfl
   have e2 : mY b x a = jP := by unfold mY; rw [ho, ht]; rfl
   rw [e1, e2]
   exact yN b hk x _ hj.1 a hpl hr hm ht v w h
  | false =>
   have e1 : qA b x a = 0 := by unfold qA; rw [ho, ht]; rfl
   have e2 : mY b x a = fG b (x - b.addr).toNat a := by unfold mY; rw [ho, ht]; rfl
   rw [e1, e2]
   exact Ca b hk x _ hj.1 a hpl hr hm (by unfold ox at ht; simpa using ht) v w h
end Go.Proofs.Ytemhalnhbgkbcaa.V
end

section
namespace Go.Proofs.Ytemhalnhbgkbcaa.V
theorem EM (f0 f1 : ByteArray) (h0 : f0.size ≤ 9223372036854775807) (h1 : f1.size ≤ 9223372036854775807) (k : Nat) (hk : 9223372036854775808 ≤ k) : jW.f k f0 f1 = some (eo ⟨f0, f1⟩) := by
 unfold jW.f eo
 rw [DJ f0 h0 k (by omega), Option.bind_some]
 cases hr : fp f0 with
 | true => rw [if_pos rfl, DJ f1 h1 k (by omega), Option.bind_some, Bool.true_and]
 | false => rw [if_neg (by decide), Bool.false_and]
theorem CA (s : ByteArray) (hs : s.size ≤ 9223372036854775807) (k : Nat) (hk : 9223372036854775808 ≤ k) : ja.f k s = some (fW s) := by
 unfold ja.f fW
 by_cases h0 : s.toList = []
 ·rw [if_pos h0]; simp [h0]
 ·rw [if_neg h0, DJ s hs k (by omega), Option.bind_some]; simp [h0]
section
variable (addr : Int) (aff : ByteArray) (sl fr : List Int) (M : List S76)
end
end Go.Proofs.Ytemhalnhbgkbcaa.V
end

section
namespace Go.Proofs.Ytemhalnhbgkbcaa.V
set_option maxHeartbeats 4000000 in
set_option maxRecDepth 100000 in
theorem oc (v : Value) (w : World) (h : fS w v jP) : Calls Try.prog 43 #[v] w fun e w' => e = .returned (.bool true) ∧ Below w.heap.size w w' := by
 have hzv := fun W => (mR W 0).toV
 have hsm := F3 jP (by decide) (by decide)
 have hl : jP.slots.length = 64 := rfl
 generalize jP = z at h hzv hsm hl
 obtain ⟨A, c, A', c', rfl, hr⟩ := h
 have HR := ak hr
 have HZV := ak hzv
 have HSM := ak hsm
 have HL := ak hl
 clear hzv hsm hl hr
 go_enter Try.func43, Try.ntmps43
 go_wp2_with (first
  | (refine aE rfl 57 (.tmp 0) rfl _ rfl ?_; intro g W1 hg hbx cy; have ij := ak hbx; have mu := ak (HR.out.below cy); have cn := ak cy; clear hbx cy hg)
  | (refine az rfl 57 (.tmp 1) rfl g rfl _ _ _ ij.out Try.underlying57 rfl 68 (by kernel_rfl) (ag _ _ _ _ _ HL.out) ?_)
  | (refine fq rfl 57 #[] rfl a9 la ?_)
  | (go_at_call 40; refine (HSM.out _ _ _ ⟨A, c, A', c', rfl, mu.out⟩ (HZV.out _)).mono ?_; rintro e W2 ⟨rfl, eL⟩; have jw := ak (cn.out.trans (eL.mono cn.out.size)); clear eL))
 go_ret
 exact ⟨rfl, jw.out⟩
end Go.Proofs.Ytemhalnhbgkbcaa.V
end

