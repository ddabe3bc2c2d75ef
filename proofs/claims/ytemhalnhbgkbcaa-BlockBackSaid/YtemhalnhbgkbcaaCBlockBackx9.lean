/- The law BlockBack for every input: texts of ours, put together (part 10 of 16). No further condition. -/
import Derived.Test.YtemhalnhbgkbcaaCBlockBackx2
import Derived.Test.YtemhalnhbgkbcaaCBlockBackx6
import Derived.Test.YtemhalnhbgkbcaaCBlockBackx7
import Derived.Test.YtemhalnhbgkbcaaCBlockBackx8
import Derived.Outline
import Derived.Test.YtemhalnhbgkbcaaCBlockBackx4
import Derived.Test.YtemhalnhbgkbcaaCBlockBackx3
import Derived.Test.YtemhalnhbgkbcaaCBlockBackw0
set_option linter.unusedVariables false
set_option linter.unusedSimpArgs false
open Go.RowKit Go.Proofs.YtemhalnhbgkbcaaW.PrintWords Go.Proofs.YtemhalnhbgkbcaaW.PrintLast Go.Proofs.YtemhalnhbgkbcaaW.PrintMore Go.Proofs.Ytemhalnhbgkbcaa.Z
section
namespace Go.Proofs.Ytemhalnhbgkbcaa.V
def pG (h n : ByteArray) (a : At) : Bool := (h.toList == (⟨#[]⟩ : ByteArray).toList || a.f0.toList == h.toList) && (n.toList == (⟨#[]⟩ : ByteArray).toList || a.f1.toList == n.toList)
theorem FY {l : List UInt8} (e : (l == (⟨#[]⟩ : ByteArray).toList) = true) : (l == []) = true ∧ l.isEmpty = true ∧ (l = []) = True := by
 have h : l = [] := by simpa using e
 subst h
 exact ⟨rfl, rfl, eq_true rfl⟩
theorem zF {l : List UInt8} (e : (l == (⟨#[]⟩ : ByteArray).toList) = false) : (l == []) = false ∧ l.isEmpty = false ∧ (l = []) = False := by
 have h : l ≠ [] := by
  rintro rfl
  simp at e
 refine ⟨by simpa using h, by simpa using h, eq_false h⟩
theorem FV {l m : List UInt8} (e : (l == m) = true) : (l = m) = True := eq_true (by simpa using e)
theorem Na {l m : List UInt8} (e : (l == m) = false) : (l = m) = False := eq_false (by simpa using e)
theorem MC {h n : ByteArray} {x : At} (e : pG h n x = true) : ((h.toList == (⟨#[]⟩ : ByteArray).toList) = true ∧ (n.toList == (⟨#[]⟩ : ByteArray).toList) = true) ∨ ((h.toList == (⟨#[]⟩ : ByteArray).toList) = false ∧ (x.f0.toList == h.toList) = true ∧ (n.toList == (⟨#[]⟩ : ByteArray).toList) = true) ∨ ((h.toList == (⟨#[]⟩ : ByteArray).toList) = true ∧ (n.toList == (⟨#[]⟩ : ByteArray).toList) = false ∧ (x.f1.toList == n.toList) = true) ∨ ((h.toList == (⟨#[]⟩ : ByteArray).toList) = false ∧ (x.f0.toList == h.toList) = true ∧ (n.toList == (⟨#[]⟩ : ByteArray).toList) = false ∧ (x.f1.toList == n.toList) = true) := by
 unfold pG at e
 cases h1 : (h.toList == (⟨#[]⟩ : ByteArray).toList) <;> cases h2 : (x.f0.toList == h.toList) <;> cases h3 : (n.toList == (⟨#[]⟩ : ByteArray).toList) <;> cases h4 : (x.f1.toList == n.toList) <;> simp_all
theorem N2 {h n : ByteArray} {x : At} (e : pG h n x = false) : ((h.toList == (⟨#[]⟩ : ByteArray).toList) = false ∧ (x.f0.toList == h.toList) = false) ∨ ((h.toList == (⟨#[]⟩ : ByteArray).toList) = true ∧ (n.toList == (⟨#[]⟩ : ByteArray).toList) = false ∧ (x.f1.toList == n.toList) = false) ∨ ((h.toList == (⟨#[]⟩ : ByteArray).toList) = false ∧ (x.f0.toList == h.toList) = true ∧ (n.toList == (⟨#[]⟩ : ByteArray).toList) = false ∧ (x.f1.toList == n.toList) = false) := by
 unfold pG at e
 cases h1 : (h.toList == (⟨#[]⟩ : ByteArray).toList) <;> cases h2 : (x.f0.toList == h.toList) <;> cases h3 : (n.toList == (⟨#[]⟩ : ByteArray).toList) <;> cases h4 : (x.f1.toList == n.toList) <;> simp_all
theorem MU {b : Bk} (hf : bN b.addr = b.addr) (k : Nat) (hk : k < 64) : fy b (b.addr + (k : Int)) = (b.slots.getD k 0 != 0) ∧ jd b (b.addr + (k : Int)) = if (b.slots.getD k 0 != 0) = true then j4 b k else ⟨⟨#[]⟩, ⟨#[]⟩⟩ := by
 have e : b.addr + (k : Int) - b.addr = (k : Int) := by omega
 have h1 : bN (b.addr + (k : Int)) = b.addr := by unfold bN at hf ⊢; omega
 have h2 : fy b (b.addr + (k : Int)) = (b.slots.getD k 0 != 0) := by
  unfold fy
  rw [decide_eq_true h1, e, Int.toNat_natCast, Bool.true_and]
 refine ⟨h2, ?_⟩
 unfold jd
 rw [h2, e, Int.toNat_natCast]
set_option maxHeartbeats 16000000 in
set_option maxRecDepth 100000 in
theorem wO (b : Bk) (hk : BkOk b) (hp : RightP b) (hl : b.slots.length = 64) (h n : ByteArray) (v : Value) (w : World) (hV : jZ w v b) :
  Calls Try.prog 63 #[v, .string h, .string n] w fun e w' => ∃ vo, e = .returned vo ∧ Kd.R (Kd.int .u32) 46 w' w.heap.size (fun _ => True) vo (dH b (pG h n) 64) ∧ Below w.heap.size w w' := by
 obtain ⟨M, As, cs, Af, cf, Aa, ca, rfl, hr⟩ := hV
 have hml : M.length = b.attrs.length := by rw [hr.m, List.length_map]
 have xP := ak hr.m
 have HR := ak hr
 have HL := ak hl
 have HK := ak hk
 have HP := ak hp
 have HOF := ak (fun w h x h0 h1 => pW b hl hk.s8 hp.sa M As Af Aa cs cf ca w h x h0 h1)
 have ae := ak (Below.refl w.heap.size w)
 have zC : 0 ≤ b.addr := hk.a0
 have kQ : b.addr + 64 ≤ 4294967296 := by
  have h1 := hp.first
  have h2 := hk.a1
  unfold bN at h1
  omega
 clear hr hl hml hp hk
 go_enter Try.func63, Try.ntmps63
 go_wp2_with (first
  | (refine aE rfl 62 (.tmp 0) rfl _ rfl ?_; intro gX W1 J aa I; have bS := ge ae J; have aj := ak (ae.out.trans (I.mono ae.out.size)); have ah := ak (aa); clear J aa I ae))
 go_loopw [7, 8, 9, 10] (fun q i _ _ W => ∃ k : Nat, k ≤ 64 ∧ i = .int .i64 k ∧ Aside0 (aH W gX (dt b.addr b.aff (.slice As b.slots.length cs) (.slice Af b.free.length cf) (.slice Aa M.length ca)) 62) ∧ Aside0 (Kd.R (Kd.int .u32) 46 W w.heap.size (fun _ => True) q (dH b (pG h n) k)) ∧ Aside0 (Below w.heap.size w W)) (fun _ i _ _ _ => 64 - (intOf i).toNat)
 case atStart => exact ⟨0, by omega, rfl, ah, ⟨Kd.R_nil _ _ _ _ _⟩, aj⟩
 case round =>
  clear aj ah
  obtain ⟨k, hk, rfl, aI, bx, ae⟩ := hrel
  obtain ⟨W, rfl⟩ : ∃ W : World, W = wr := ⟨_, rfl⟩
  have hul := gP b (pG h n) k
  have kK := aI.out.cell 0 _ rfl
  by_cases ou : k < 64
  ·have hkb : decide ((k : Int) < 64) = true := by simp; omega
   have hus := oM b (pG h n) k
   obtain ⟨oo, hoo⟩ : ∃ oo, oo = dH b (pG h n) k := ⟨_, rfl⟩
   rw [← hoo] at bx hus hul
   have HUL := ak (show oo.length ≤ 100 by omega)
   obtain ⟨Ip, Dp⟩ := MU HP.out.first k ou
   have hof := fun w h => HOF.out w h (b.addr + (k : Int)) (by omega) (by omega)
   rw [Ip, Dp] at hof
   obtain ⟨Ao, co, rfl⟩ := Kd.R_slice bx.out
   obtain ⟨hb, hhb⟩ : ∃ hb, hb = (b.slots.getD k 0 != 0) := ⟨_, rfl⟩
   rw [← hhb] at hof hus
   cases hb with
   | false =>
    rw [if_neg (by decide)] at hof
    have HUS := ak (show dH b (pG h n) (k + 1) = oo by rw [hus]; simp)
    have tL := ak hof
    clear hus hof hhb hoo hul Ip Dp
    go_wp2_with (first
     | ((with_reducible refine av (N := 16) rfl ?_); refine ay rfl 62 (.tmp 3) rfl gX rfl _ _ _ aI.out Try.underlying62 rfl 5 (by kernel_rfl) rfl ?_)
     | (go_at_call 62; refine (tL.out _ (HR.out.below ae.out)).mono ?_; rintro e W1 ⟨rfl, I⟩; have ah := mv I aI; have b7 := mv I bx; have aj := ak (ae.out.trans (I.mono ae.out.size)); clear I aI bx ae kK)
     | (refine ax (some 9) rfl rfl 76 rfl [.string ⟨#[]⟩, .string ⟨#[]⟩] (fun _ => by kernel_rfl) ?_; intro gV W2 J aa I; have cG := ge aj J; have ep := ne ah J; have au := mv I ah; have ct := mv I b7; have aw := mv I aj; have dF := ak (aa); clear J aa I ah b7 aj)
     | (refine aN rfl 76 (.tmp 9) (.tmp 23) rfl gV [.string ⟨#[]⟩, .string ⟨#[]⟩] rfl rfl 76 _ dF.out 2 (by kernel_rfl) rfl rfl (ia ⟨⟨#[]⟩, ⟨#[]⟩⟩) ?_; intro W3 aa J; have aA := gx au dF J; have eN := gr ct dF J; have aD := gb aw cG J; have l8 := ak (aa); have mJ := aa.cell 0 _ rfl; have lB := aa.cell 1 _ rfl; clear aa J au ct aw dF))
    go_roundw
    case rel => exact ⟨k + 1, by omega, by go_num, aA, ⟨by rw [HUS.out]; exact eN.out⟩, aD⟩
    case measure => simp [intOf]; omega
   | true =>
    rw [if_pos rfl] at hof
    obtain ⟨x, hx⟩ : ∃ x, x = j4 b k := ⟨_, rfl⟩
    rw [← hx] at hof hus
    rw [Bool.true_and] at hus
    have tL := ak hof
    cases hpp : pG h n x with
    | true =>
     have HUS := ak (show dH b (pG h n) (k + 1) = oo ++ [b.addr + (k : Int)] by rw [hus, hpp]; rfl)
     have hcs := MC hpp
     clear hus hof hhb hoo hul Ip Dp hx hpp
     obtain ⟨o1, fh⟩ : ∃ o1, o1 = oo ++ [b.addr + (k : Int)] := ⟨_, rfl⟩
     rw [← fh] at HUS
     have kk := ak fh
     clear fh
     rcases hcs with ⟨p1, p2⟩ | ⟨p1, p0, p2⟩ | ⟨p1, p2, p3⟩ | ⟨p1, p0, p2, p3⟩
     ·obtain ⟨e1, f1, g1⟩ := FY p1
      obtain ⟨e2, f2, g2⟩ := FY p2
      go_wp2_with (first
       | ((with_reducible refine av (N := 16) rfl ?_); refine ay rfl 62 (.tmp 3) rfl gX rfl _ _ _ aI.out Try.underlying62 rfl 5 (by kernel_rfl) rfl ?_)
       | (go_at_call 62; refine (tL.out _ (HR.out.below ae.out)).mono ?_; rintro e W1 ⟨rfl, I⟩; have ah := mv I aI; have b7 := mv I bx; have aj := ak (ae.out.trans (I.mono ae.out.size)); clear I aI bx ae kK)
       | (refine ax (some 9) rfl rfl 76 rfl [.string ⟨#[]⟩, .string ⟨#[]⟩] (fun _ => by kernel_rfl) ?_; intro gV W2 J aa I; have cG := ge aj J; have ep := ne ah J; have au := mv I ah; have ct := mv I b7; have aw := mv I aj; have dF := ak (aa); clear J aa I ah b7 aj)
       | (refine aN rfl 76 (.tmp 9) (.tmp 23) rfl gV [.string x.f0, .string x.f1] rfl rfl 76 _ dF.out 2 (by kernel_rfl) rfl rfl (ia x) ?_; intro W3 aa J; have aA := gx au dF J; have eN := gr ct dF J; have aD := gb aw cG J; have l8 := ak (aa); have mJ := aa.cell 0 _ rfl; have lB := aa.cell 1 _ rfl; have lU := aA.out.cell 0 _ rfl; clear aa J au ct aw dF)
       | ((with_reducible refine cC (b := .append) (xs := #[.tmp 46, .tmp 52]) rfl ?_); at_builtin; refine Kd.R_append (Kd.int .u32) (w0 := w) w.heap.size rfl (.tmp 46) (.tmp 52) 77 46 (.int .u32 0) 4 rfl Try.underlying77 iM rfl (by decide) (by omega) _ oo (b.addr + (k : Int)) [.int .u32 (b.addr + (k : Int))] (fun _ => True) (fun _ => False) rfl rfl rfl (fun _ hk => hk.elim) (fun _ _ => trivial) eN.out aD.out aD.out.size (by have := HUL.out; omega) ?_; intro v_ W4 aU I J fu; rw [← kk.out] at aU; have aV := ak (aA.out.grown J (aA.out.ne_row eN.out (by decide))); have kP := ak (aU); have aW := ak (I); obtain ⟨AO, cO, rfl⟩ := Kd.R_slice aU; clear aU I J fu aA eN aD mJ lB lU))
      go_roundw
      case rel => exact ⟨k + 1, by omega, by go_num, aV, ⟨by rw [HUS.out]; exact kP.out⟩, aW⟩
      case measure => simp [intOf]; omega
     ·obtain ⟨e1, f1, g1⟩ := zF p1
      have g0 := FV p0
      obtain ⟨e2, f2, g2⟩ := FY p2
      go_wp2_with (first
       | ((with_reducible refine av (N := 16) rfl ?_); refine ay rfl 62 (.tmp 3) rfl gX rfl _ _ _ aI.out Try.underlying62 rfl 5 (by kernel_rfl) rfl ?_)
       | (go_at_call 62; refine (tL.out _ (HR.out.below ae.out)).mono ?_; rintro e W1 ⟨rfl, I⟩; have ah := mv I aI; have b7 := mv I bx; have aj := ak (ae.out.trans (I.mono ae.out.size)); clear I aI bx ae kK)
       | (refine ax (some 9) rfl rfl 76 rfl [.string ⟨#[]⟩, .string ⟨#[]⟩] (fun _ => by kernel_rfl) ?_; intro gV W2 J aa I; have cG := ge aj J; have ep := ne ah J; have au := mv I ah; have ct := mv I b7; have aw := mv I aj; have dF := ak (aa); clear J aa I ah b7 aj)
       | (refine aN rfl 76 (.tmp 9) (.tmp 23) rfl gV [.string x.f0, .string x.f1] rfl rfl 76 _ dF.out 2 (by kernel_rfl) rfl rfl (ia x) ?_; intro W3 aa J; have aA := gx au dF J; have eN := gr ct dF J; have aD := gb aw cG J; have l8 := ak (aa); have mJ := aa.cell 0 _ rfl; have lB := aa.cell 1 _ rfl; have lU := aA.out.cell 0 _ rfl; clear aa J au ct aw dF)
       | ((with_reducible refine cC (b := .append) (xs := #[.tmp 46, .tmp 52]) rfl ?_); at_builtin; refine Kd.R_append (Kd.int .u32) (w0 := w) w.heap.size rfl (.tmp 46) (.tmp 52) 77 46 (.int .u32 0) 4 rfl Try.underlying77 iM rfl (by decide) (by omega) _ oo (b.addr + (k : Int)) [.int .u32 (b.addr + (k : Int))] (fun _ => True) (fun _ => False) rfl rfl rfl (fun _ hk => hk.elim) (fun _ _ => trivial) eN.out aD.out aD.out.size (by have := HUL.out; omega) ?_; intro v_ W4 aU I J fu; rw [← kk.out] at aU; have aV := ak (aA.out.grown J (aA.out.ne_row eN.out (by decide))); have kP := ak (aU); have aW := ak (I); obtain ⟨AO, cO, rfl⟩ := Kd.R_slice aU; clear aU I J fu aA eN aD mJ lB lU))
      go_roundw
      case rel => exact ⟨k + 1, by omega, by go_num, aV, ⟨by rw [HUS.out]; exact kP.out⟩, aW⟩
      case measure => simp [intOf]; omega
     ·obtain ⟨e1, f1, g1⟩ := FY p1
      obtain ⟨e2, f2, g2⟩ := zF p2
      have g3 := FV p3
      go_wp2_with (first
       | ((with_reducible refine av (N := 16) rfl ?_); refine ay rfl 62 (.tmp 3) rfl gX rfl _ _ _ aI.out Try.underlying62 rfl 5 (by kernel_rfl) rfl ?_)
       | (go_at_call 62; refine (tL.out _ (HR.out.below ae.out)).mono ?_; rintro e W1 ⟨rfl, I⟩; have ah := mv I aI; have b7 := mv I bx; have aj := ak (ae.out.trans (I.mono ae.out.size)); clear I aI bx ae kK)
       | (refine ax (some 9) rfl rfl 76 rfl [.string ⟨#[]⟩, .string ⟨#[]⟩] (fun _ => by kernel_rfl) ?_; intro gV W2 J aa I; have cG := ge aj J; have ep := ne ah J; have au := mv I ah; have ct := mv I b7; have aw := mv I aj; have dF := ak (aa); clear J aa I ah b7 aj)
       | (refine aN rfl 76 (.tmp 9) (.tmp 23) rfl gV [.string x.f0, .string x.f1] rfl rfl 76 _ dF.out 2 (by kernel_rfl) rfl rfl (ia x) ?_; intro W3 aa J; have aA := gx au dF J; have eN := gr ct dF J; have aD := gb aw cG J; have l8 := ak (aa); have mJ := aa.cell 0 _ rfl; have lB := aa.cell 1 _ rfl; have lU := aA.out.cell 0 _ rfl; clear aa J au ct aw dF)
       | ((with_reducible refine cC (b := .append) (xs := #[.tmp 46, .tmp 52]) rfl ?_); at_builtin; refine Kd.R_append (Kd.int .u32) (w0 := w) w.heap.size rfl (.tmp 46) (.tmp 52) 77 46 (.int .u32 0) 4 rfl Try.underlying77 iM rfl (by decide) (by omega) _ oo (b.addr + (k : Int)) [.int .u32 (b.addr + (k : Int))] (fun _ => True) (fun _ => False) rfl rfl rfl (fun _ hk => hk.elim) (fun _ _ => trivial) eN.out aD.out aD.out.size (by have := HUL.out; omega) ?_; intro v_ W4 aU I J fu; rw [← kk.out] at aU; have aV := ak (aA.out.grown J (aA.out.ne_row eN.out (by decide))); have kP := ak (aU); have aW := ak (I); obtain ⟨AO, cO, rfl⟩ := Kd.R_slice aU; clear aU I J fu aA eN aD mJ lB lU))
      go_roundw
      case rel => exact ⟨k + 1, by omega, by go_num, aV, ⟨by rw [HUS.out]; exact kP.out⟩, aW⟩
      case measure => simp [intOf]; omega
     ·obtain ⟨e1, f1, g1⟩ := zF p1
      have g0 := FV p0
      obtain ⟨e2, f2, g2⟩ := zF p2
      have g3 := FV p3
      go_wp2_with (first
       | ((with_reducible refine av (N := 16) rfl ?_); refine ay rfl 62 (.tmp 3) rfl gX rfl _ _ _ aI.out Try.underlying62 rfl 5 (by kernel_rfl) rfl ?_)
       | (go_at_call 62; refine (tL.out _ (HR.out.below ae.out)).mono ?_; rintro e W1 ⟨rfl, I⟩; have ah := mv I aI; have b7 := mv I bx; have aj := ak (ae.out.trans (I.mono ae.out.size)); clear I aI bx ae kK)
       | (refine ax (some 9) rfl rfl 76 rfl [.string ⟨#[]⟩, .string ⟨#[]⟩] (fun _ => by kernel_rfl) ?_; intro gV W2 J aa I; have cG := ge aj J; have ep := ne ah J; have au := mv I ah; have ct := mv I b7; have aw := mv I aj; have dF := ak (aa); clear J aa I ah b7 aj)
       | (refine aN rfl 76 (.tmp 9) (.tmp 23) rfl gV [.string x.f0, .string x.f1] rfl rfl 76 _ dF.out 2 (by kernel_rfl) rfl rfl (ia x) ?_; intro W3 aa J; have aA := gx au dF J; have eN := gr ct dF J; have aD := gb aw cG J; have l8 := ak (aa); have mJ := aa.cell 0 _ rfl; have lB := aa.cell 1 _ rfl; have lU := aA.out.cell 0 _ rfl; clear aa J au ct aw dF)
       | ((with_reducible refine cC (b := .append) (xs := #[.tmp 46, .tmp 52]) rfl ?_); at_builtin; refine Kd.R_append (Kd.int .u32) (w0 := w) w.heap.size rfl (.tmp 46) (.tmp 52) 77 46 (.int .u32 0) 4 rfl Try.underlying77 iM rfl (by decide) (by omega) _ oo (b.addr + (k : Int)) [.int .u32 (b.addr + (k : Int))] (fun _ => True) (fun _ => False) rfl rfl rfl (fun _ hk => hk.elim) (fun _ _ => trivial) eN.out aD.out aD.out.size (by have := HUL.out; omega) ?_; intro v_ W4 aU I J fu; rw [← kk.out] at aU; have aV := ak (aA.out.grown J (aA.out.ne_row eN.out (by decide))); have kP := ak (aU); have aW := ak (I); obtain ⟨AO, cO, rfl⟩ := Kd.R_slice aU; clear aU I J fu aA eN aD mJ lB lU))
      go_roundw
      case rel => exact ⟨k + 1, by omega, by go_num, aV, ⟨by rw [HUS.out]; exact kP.out⟩, aW⟩
      case measure => simp [intOf]; omega
    | false =>
     have HUS := ak (show dH b (pG h n) (k + 1) = oo by rw [hus, hpp]; simp)
     have hcs := N2 hpp
     clear hus hof hhb hoo hul Ip Dp hx hpp
     rcases hcs with ⟨p1, p0⟩ | ⟨p1, p2, p3⟩ | ⟨p1, p0, p2, p3⟩
     ·obtain ⟨e1, f1, g1⟩ := zF p1
      have g0 := Na p0
      go_wp2_with (first
       | ((with_reducible refine av (N := 16) rfl ?_); refine ay rfl 62 (.tmp 3) rfl gX rfl _ _ _ aI.out Try.underlying62 rfl 5 (by kernel_rfl) rfl ?_)
       | (go_at_call 62; refine (tL.out _ (HR.out.below ae.out)).mono ?_; rintro e W1 ⟨rfl, I⟩; have ah := mv I aI; have b7 := mv I bx; have aj := ak (ae.out.trans (I.mono ae.out.size)); clear I aI bx ae kK)
       | (refine ax (some 9) rfl rfl 76 rfl [.string ⟨#[]⟩, .string ⟨#[]⟩] (fun _ => by kernel_rfl) ?_; intro gV W2 J aa I; have cG := ge aj J; have ep := ne ah J; have au := mv I ah; have ct := mv I b7; have aw := mv I aj; have dF := ak (aa); clear J aa I ah b7 aj)
       | (refine aN rfl 76 (.tmp 9) (.tmp 23) rfl gV [.string x.f0, .string x.f1] rfl rfl 76 _ dF.out 2 (by kernel_rfl) rfl rfl (ia x) ?_; intro W3 aa J; have aA := gx au dF J; have eN := gr ct dF J; have aD := gb aw cG J; have l8 := ak (aa); have mJ := aa.cell 0 _ rfl; have lB := aa.cell 1 _ rfl; clear aa J au ct aw dF))
      go_roundw
      case rel => exact ⟨k + 1, by omega, by go_num, aA, ⟨by rw [HUS.out]; exact eN.out⟩, aD⟩
      case measure => simp [intOf]; omega
     ·obtain ⟨e1, f1, g1⟩ := FY p1
      obtain ⟨e2, f2, g2⟩ := zF p2
      have g3 := Na p3
      go_wp2_with (first
       | ((with_reducible refine av (N := 16) rfl ?_); refine ay rfl 62 (.tmp 3) rfl gX rfl _ _ _ aI.out Try.underlying62 rfl 5 (by kernel_rfl) rfl ?_)
       | (go_at_call 62; refine (tL.out _ (HR.out.below ae.out)).mono ?_; rintro e W1 ⟨rfl, I⟩; have ah := mv I aI; have b7 := mv I bx; have aj := ak (ae.out.trans (I.mono ae.out.size)); clear I aI bx ae kK)
       | (refine ax (some 9) rfl rfl 76 rfl [.string ⟨#[]⟩, .string ⟨#[]⟩] (fun _ => by kernel_rfl) ?_; intro gV W2 J aa I; have cG := ge aj J; have ep := ne ah J; have au := mv I ah; have ct := mv I b7; have aw := mv I aj; have dF := ak (aa); clear J aa I ah b7 aj)
       | (refine aN rfl 76 (.tmp 9) (.tmp 23) rfl gV [.string x.f0, .string x.f1] rfl rfl 76 _ dF.out 2 (by kernel_rfl) rfl rfl (ia x) ?_; intro W3 aa J; have aA := gx au dF J; have eN := gr ct dF J; have aD := gb aw cG J; have l8 := ak (aa); have mJ := aa.cell 0 _ rfl; have lB := aa.cell 1 _ rfl; clear aa J au ct aw dF))
      go_roundw
      case rel => exact ⟨k + 1, by omega, by go_num, aA, ⟨by rw [HUS.out]; exact eN.out⟩, aD⟩
      case measure => simp [intOf]; omega
     ·obtain ⟨e1, f1, g1⟩ := zF p1
      have g0 := FV p0
      obtain ⟨e2, f2, g2⟩ := zF p2
      have g3 := Na p3
      go_wp2_with (first
       | ((with_reducible refine av (N := 16) rfl ?_); refine ay rfl 62 (.tmp 3) rfl gX rfl _ _ _ aI.out Try.underlying62 rfl 5 (by kernel_rfl) rfl ?_)
       | (go_at_call 62; refine (tL.out _ (HR.out.below ae.out)).mono ?_; rintro e W1 ⟨rfl, I⟩; have ah := mv I aI; have b7 := mv I bx; have aj := ak (ae.out.trans (I.mono ae.out.size)); clear I aI bx ae kK)
       | (refine ax (some 9) rfl rfl 76 rfl [.string ⟨#[]⟩, .string ⟨#[]⟩] (fun _ => by kernel_rfl) ?_; intro gV W2 J aa I; have cG := ge aj J; have ep := ne ah J; have au := mv I ah; have ct := mv I b7; have aw := mv I aj; have dF := ak (aa); clear J aa I ah b7 aj)
       | (refine aN rfl 76 (.tmp 9) (.tmp 23) rfl gV [.string x.f0, .string x.f1] rfl rfl 76 _ dF.out 2 (by kernel_rfl) rfl rfl (ia x) ?_; intro W3 aa J; have aA := gx au dF J; have eN := gr ct dF J; have aD := gb aw cG J; have l8 := ak (aa); have mJ := aa.cell 0 _ rfl; have lB := aa.cell 1 _ rfl; clear aa J au ct aw dF))
      go_roundw
      case rel => exact ⟨k + 1, by omega, by go_num, aA, ⟨by rw [HUS.out]; exact eN.out⟩, aD⟩
      case measure => simp [intOf]; omega
  ·obtain rfl : k = 64 := by omega
   have hkb : decide (((64 : Nat) : Int) < 64) = false := by decide
   go_wp2_with fail
   go_ret
   exact ⟨_, rfl, bx.out, ae.out⟩
end Go.Proofs.Ytemhalnhbgkbcaa.V
end

section
namespace Go.Proofs.Ytemhalnhbgkbcaa.V
structure RG0 (b : Bk) : Prop where
 a0 : 0 ≤ b.addr
 a1 : b.addr < 4294967296
 first : bN b.addr = b.addr
 owner : fY b.aff = true
 na : b.attrs.length ≤ 64
 l64 : b.slots.length = 64
 s0 : ∀ s ∈ b.slots, 0 ≤ s ∧ s ≤ (b.attrs.length : Int)
 may : ∀ a ∈ b.attrs, eP a = true
 nd : b.attrs.Nodup
 f0 : ∀ f ∈ b.free, 0 ≤ f ∧ f < 64 ∧ b.slots.getD f.toNat 0 = 0
 fnd : b.free.Nodup
 zc : b.slots.countP (fun x => x == 0) = b.free.length
structure RG (b : Bk) : Prop extends RG0 b where
 used : ∀ k, k < b.attrs.length → dN b.slots k = true
theorem GC (l : List Int) (k : Nat) (hk : k < 64) : (fV l).testBit k = dN l k := by
 have h1 : (fV l).testBit k = decide ((k : Int) ∈ l.map (fun s => s - 1)) := oR _ k hk
 rw [h1]
 unfold dN
 rw [Bool.eq_iff_iff, decide_eq_true_eq, List.any_eq_true, List.mem_map]
 constructor
 ·rintro ⟨s, hs, he⟩
  exact ⟨s, hs, by rw [beq_iff_eq]; omega⟩
 ·rintro ⟨s, hs, he⟩
  rw [beq_iff_eq] at he
  exact ⟨s, hs, by omega⟩
theorem C2 (l : List Int) : (iv (fV l)).length = ((List.range 64).filter (dN l)).length := by
 unfold iv ke
 rw [List.length_map]
 congr 1
 apply List.filter_congr
 intro k hk
 exact GC l k (List.mem_range.1 hk)
theorem Df {l : List Int} {n k : Nat} (h : ∀ s ∈ l, s ≤ (n : Int)) (hu : dN l k = true) : k < n := by
 unfold dN at hu
 rw [List.any_eq_true] at hu
 obtain ⟨s, hs, he⟩ := hu
 rw [beq_iff_eq] at he
 have := h s hs
 omega
theorem xb (p : Nat → Bool) (n m : Nat) (hnm : n ≤ m) (h : ∀ k, p k = true → k < n) : ((List.range m).filter p).length = ((List.range n).filter p).length := by
 obtain ⟨d, rfl⟩ := Nat.le.dest hnm
 clear hnm
 induction d with
 | zero => rfl
 | succ d ih =>
  rw [show n + (d + 1) = (n + d) + 1 from rfl, List.range_succ, List.filter_append, List.length_append, ih]
  have : p (n + d) = false := by
   cases e : p (n + d) with
   | false => rfl
   | true => have := h _ e; omega
  simp [this]
theorem filter_all {p : Nat → Bool} {n : Nat} : ((List.range n).filter p).length = n ↔ ∀ k, k < n → p k = true := by
 constructor
 ·intro h
  have h2 : ((List.range n).filter p).length = (List.range n).length := by rw [h, List.length_range]
  rw [List.length_filter_eq_length_iff] at h2
  exact fun k hk => h2 k (List.mem_range.2 hk)
 ·intro h
  have h2 : ((List.range n).filter p) = List.range n := List.filter_eq_self.2 (fun k hk => h k (List.mem_range.1 hk))
  rw [h2, List.length_range]
theorem AH {b : Bk} (hn : b.attrs.length ≤ 64) (h : ∀ s ∈ b.slots, s ≤ (b.attrs.length : Int)) : (iv (fV b.slots)).length = b.attrs.length ↔ ∀ k, k < b.attrs.length → dN b.slots k = true := by
 rw [C2, xb _ b.attrs.length 64 hn (fun k hk => Df h hk), filter_all]
theorem Bc (l : List At) : wa l ↔ l.Nodup := by
 unfold wa
 constructor
 ·intro h
  rw [List.nodup_iff_pairwise_ne, List.pairwise_iff_getElem]
  intro i j hi hj hij e
  have h1 := h j hj
  rw [List.any_eq_false] at h1
  refine h1 l[i] (List.mem_take_iff_getElem.2 ⟨i, by omega, rfl⟩) ?_
  rw [ks _ _ hj, ← e]
  exact oN _
 ·intro h j hj
  rw [List.any_eq_false]
  intro x hx hs
  rw [kx, ks _ _ hj] at hs
  obtain ⟨i, hi, he⟩ := List.mem_take_iff_getElem.1 hx
  rw [List.nodup_iff_pairwise_ne, List.pairwise_iff_getElem] at h
  exact h i j (by omega) hj (by omega) (by rw [he, hs])
theorem sT (l : List Int) (j : Nat) (h : j < l.length) : rd l (j : Int) = l[j] := by simp [rd, List.getD, h]
theorem RG.of {b : Bk} (hk : BkOk b) (hl : b.slots.length = 64) (h : dy b = true) : RG b := by
 have hp := iA h
 have hs : ∀ s ∈ b.slots, 0 ≤ s ∧ s ≤ (b.attrs.length : Int) := fun s hs => ⟨(hk.s8 s hs).1, hp.sa s hs⟩
 refine ⟨⟨hk.a0, hk.a1, hp.first, hp.owner, hp.na, hl, hs, ?_, (Bc _).1 hp.nd, ?_, ?_, hp.zc⟩, (AH hp.na hp.sa).1 hp.used⟩
 ·intro a ha
  obtain ⟨j, hj, rfl⟩ := List.mem_iff_getElem.1 ha
  have := hp.may j hj
  rwa [ks _ _ hj] at this
 ·intro f hf
  obtain ⟨j, hj, rfl⟩ := List.mem_iff_getElem.1 hf
  have := m9 hp hk j hj
  rw [sT _ _ hj] at this
  exact ⟨this.1, this.2.1, this.2.2.2⟩
 ·rw [List.nodup_iff_pairwise_ne, List.pairwise_iff_getElem]
  intro i j hi hj hij e
  have := m9 hp hk j hj
  rw [sT _ _ hj] at this
  exact this.2.2.1 (List.mem_take_iff_getElem.2 ⟨i, by omega, e⟩)
theorem RG0.ok {b : Bk} (h : RG0 b) : BkOk b := ⟨h.a0, h.a1, fun s hs => by have := h.s0 s hs; have := h.na; omega, fun f hf => by have := h.f0 f hf; omega⟩
theorem RG.right {b : Bk} (h : RG b) : dy b = true := by
 have hs : ∀ s ∈ b.slots, s ≤ (b.attrs.length : Int) := fun s hs => (h.s0 s hs).2
 unfold dy kr kB
 simp only [Bool.and_eq_true, decide_eq_true_eq, List.all_eq_true, beq_iff_eq, List.mem_range, Bool.not_eq_true']
 refine ⟨h.first, h.owner, h.na, ⟨hs, fun j hj => ⟨?_, (Bc _).2 h.nd j hj⟩, (AH h.na hs).2 h.used⟩, fun j hj => ?_, h.zc⟩
 ·rw [ks _ _ hj]
  exact h.may _ (List.getElem_mem hj)
 ·unfold jl
  rw [sT _ _ hj]
  have h1 := h.f0 _ (List.getElem_mem hj)
  simp only [Bool.or_eq_false_iff, decide_eq_false_iff_not, bne_eq_false_iff_eq]
  refine ⟨by omega, fun hm => ?_, h1.2.2⟩
  obtain ⟨i, hi, he⟩ := List.mem_take_iff_getElem.1 hm
  have hnd := h.fnd
  rw [List.nodup_iff_pairwise_ne, List.pairwise_iff_getElem] at hnd
  exact hnd i j (by omega) hj (by omega) he
theorem EU {b : Bk} (h : RG0 b) (i : Nat) (hi : i < 64) (hz : b.slots.getD i 0 = 0) : (i : Int) ∈ b.free := by
 apply Classical.byContradiction
 intro hn
 have h1 : ((i : Int) :: b.free).Nodup := List.nodup_cons.2 ⟨hn, h.fnd⟩
 have h2 := h1.length_le_of_subset (l₂ := (((List.range 64).filter (fun k => b.slots.getD k 0 == 0)).map (fun k : Nat => (k : Int)))) (by
  intro x hx
  rw [List.mem_map]
  rcases List.mem_cons.1 hx with rfl | hx
  ·exact ⟨i, List.mem_filter.2 ⟨List.mem_range.2 hi, by rw [hz]; rfl⟩, rfl⟩
  ·have := h.f0 x hx
   exact ⟨x.toNat, List.mem_filter.2 ⟨List.mem_range.2 (by omega), by rw [this.2.2]; rfl⟩, by omega⟩)
 have h3 : ((List.range 64).filter (fun k => b.slots.getD k 0 == 0)).length = b.slots.countP (fun x => x == 0) := by
  have e : b.slots = (List.range 64).map (fun k => b.slots.getD k 0) := by
   apply List.ext_getElem
   ·simp [h.l64]
   ·intro k h1 h2
    simp [List.getD, h1]
  conv => rhs; rw [e]
  rw [List.countP_map, List.countP_eq_length_filter]
  rfl
 rw [List.length_cons, List.length_map, h3, h.zc] at h2
 omega
end Go.Proofs.Ytemhalnhbgkbcaa.V
end

section
namespace Go.Proofs.Ytemhalnhbgkbcaa.V
theorem getD_set_ne {l : List Int} {i j : Nat} (x : Int) (h : i ≠ j) : (l.set i x).getD j 0 = l.getD j 0 := by
 simp [List.getD, List.getElem?_set_ne h]
theorem vX {l : List Int} {i : Nat} (x : Int) (h : i < l.length) : (l.set i x).getD i 0 = x := by
 simp [List.getD, h]
theorem getD_eq {l : List Int} {i : Nat} (h : i < l.length) : l.getD i 0 = l[i] := by simp [List.getD, h]
theorem countP_set {l : List Int} {i : Nat} (x : Int) (h : i < l.length) (h0 : l.getD i 0 = 0) (hx : x ≠ 0) : (l.set i x).countP (fun s => s == 0) + 1 = l.countP (fun s => s == 0) := by
 rw [getD_eq h] at h0
 rw [List.countP_set h]
 have h1 : 1 ≤ l.countP (fun s => s == 0) := by
  rw [Nat.one_le_iff_ne_zero, Ne, List.countP_eq_zero]
  intro hc
  exact hc _ (List.getElem_mem h) (by rw [h0]; rfl)
 rw [h0]
 have e1 : ((0 : Int) == 0) = true := rfl
 have e2 : (x == 0) = false := by simpa using hx
 rw [e1, e2]
 simp
 omega
theorem C8 {l : List Int} {i : Nat} (h : i < l.length) (h0 : l.getD i 0 ≠ 0) : (l.set i 0).countP (fun s => s == 0) = l.countP (fun s => s == 0) + 1 := by
 rw [getD_eq h] at h0
 rw [List.countP_set h]
 have e1 : ((0 : Int) == 0) = true := rfl
 have e2 : (l[i] == 0) = false := by simpa using h0
 rw [e1, e2]
 simp
theorem AG {l : List Int} {i k : Nat} (x : Int) (h : i < l.length) (h0 : l.getD i 0 = 0) (hu : dN l k = true) : dN (l.set i x) k = true := by
 rw [getD_eq h] at h0
 unfold dN at hu ⊢
 rw [List.any_eq_true] at hu ⊢
 obtain ⟨s, hs, he⟩ := hu
 refine ⟨s, ?_, he⟩
 obtain ⟨j, hj, rfl⟩ := List.mem_iff_getElem.1 hs
 have hne : i ≠ j := by
  rintro rfl
  rw [beq_iff_eq, h0] at he
  omega
 exact List.mem_iff_getElem.2 ⟨j, by simpa using hj, by rw [List.getElem_set_ne hne]⟩
theorem wq {l : List Int} (h : l.Nodup) {i : Int} (hi : i ∈ l) : (l.filter (fun x => x != i)).length + 1 = l.length := by
 induction l with
 | nil => cases hi
 | cons y l ih =>
  rw [List.nodup_cons] at h
  by_cases e : y = i
  ·subst e
   have : l.filter (fun x => x != y) = l := List.filter_eq_self.2 (fun x hx => by
    have : x ≠ y := fun e => h.1 (e ▸ hx)
    simpa using this)
   simp [this]
  ·rcases List.mem_cons.1 hi with e2 | hi
   ·exact absurd e2.symm e
   ·have := ih h.2 hi
    have e3 : (y != i) = true := by simpa using e
    simp only [List.filter_cons, e3, if_true, List.length_cons]
    omega
theorem RG.sum {b : Bk} (h : RG b) : b.attrs.length + b.free.length ≤ 64 := (iA h.right).sum_le h.ok h.l64
theorem Fm {l : List At} {a : At} : (∃ i, i < l.length ∧ en l a = i + 1 ∧ ea l a = l) ∨ (a ∉ l ∧ en l a = l.length + 1 ∧ ea l a = l ++ [a]) := by
 unfold en ea
 cases h : fJ l a with
 | some i => exact Or.inl ⟨i, tt h, rfl, rfl⟩
 | none =>
  refine Or.inr ⟨fun hm => ?_, rfl, rfl⟩
  unfold fJ at h
  rw [List.findIdx?_eq_none_iff] at h
  have := h a hm
  rw [oN] at this
  cases this
theorem RG.give {b : Bk} (h : RG b) (i : Nat) (hi : i < 64) (hz : b.slots.getD i 0 = 0) (a : At) (ha : eP a = true) : RG (fH b i a) := by
 have hil : i < b.slots.length := by rw [h.l64]; exact hi
 have hfr := EU h.toRG0 i hi hz
 have hsum := h.sum
 have hfl : 1 ≤ b.free.length := List.length_pos_of_mem hfr
 have hfe := wq h.fnd hfr
 have BA : ∀ f ∈ (fH b i a).free, 0 ≤ f ∧ f < 64 ∧ (fH b i a).slots.getD f.toNat 0 = 0 := by
  intro f hf
  obtain ⟨hf, hne⟩ := List.mem_filter.1 hf
  have h1 := h.f0 f hf
  have US : f ≠ (i : Int) := by simpa using hne
  refine ⟨h1.1, h1.2.1, ?_⟩
  show (b.slots.set i _).getD f.toNat 0 = 0
  rw [getD_set_ne _ (by omega)]
  exact h1.2.2
 have hnz : ((en b.attrs a : Nat) : Int) ≠ 0 := by have := vx b.attrs a; omega
 have hzc : (fH b i a).slots.countP (fun x => x == 0) = (fH b i a).free.length := by
  have := countP_set (x := ((en b.attrs a : Nat) : Int)) hil hz hnz
  have zw := h.zc
  show (b.slots.set i _).countP _ = (b.free.filter _).length
  omega
 have hl : (fH b i a).slots.length = 64 := by show (b.slots.set i _).length = 64; rw [List.length_set]; exact h.l64
 rcases @Fm b.attrs a with ⟨m, hm, hn, had⟩ | ⟨hnm, hn, had⟩
 ·have e : (fH b i a).attrs = b.attrs := had
  refine ⟨⟨h.a0, h.a1, h.first, h.owner, by rw [e]; exact h.na, hl, ?_, by rw [e]; exact h.may, by rw [e]; exact h.nd, BA, h.fnd.filter _, hzc⟩, ?_⟩
  ·intro s hs
   rw [e]
   rcases List.mem_or_eq_of_mem_set hs with hs | rfl
   ·exact h.s0 s hs
   ·rw [hn]; omega
  ·intro k hk
   rw [e] at hk
   exact AG _ hil hz (h.used k hk)
 ·have e : (fH b i a).attrs = b.attrs ++ [a] := had
  have el : (fH b i a).attrs.length = b.attrs.length + 1 := by rw [e]; simp
  refine ⟨⟨h.a0, h.a1, h.first, h.owner, by omega, hl, ?_, ?_, ?_, BA, h.fnd.filter _, hzc⟩, ?_⟩
  ·intro s hs
   rw [el]
   rcases List.mem_or_eq_of_mem_set hs with hs | rfl
   ·have := h.s0 s hs; omega
   ·rw [hn]; omega
  ·rw [e]
   intro x hx
   rcases List.mem_append.1 hx with hx | hx
   ·exact h.may x hx
   ·rw [List.mem_singleton.1 hx]; exact ha
  ·rw [e, List.nodup_append]
   refine ⟨h.nd, by simp, ?_⟩
   intro x hx y hy e2
   rw [List.mem_singleton.1 hy] at e2
   exact hnm (e2 ▸ hx)
  ·intro k hk
   rw [el] at hk
   rcases Nat.lt_or_ge k b.attrs.length with h1 | h1
   ·exact AG _ hil hz (h.used k h1)
   ·obtain rfl : k = b.attrs.length := by omega
    show dN (b.slots.set i ((en b.attrs a : Nat) : Int)) _ = true
    unfold dN
    rw [List.any_eq_true]
    exact ⟨_, List.mem_set hil _, by rw [hn, beq_iff_eq]⟩
theorem RG.asg {b : Bk} (h : RG b) (a : At) (ha : eP a = true) : ∀ k, k ≤ b.free.length → RG (di b k a) := by
 have hp := iA h.right
 intro k
 induction k with
 | zero => intro _; rw [Hu]; exact h
 | succ k ih =>
  intro hk
  have h1 := ih (by omega)
  have h2 := m9 hp h.ok k (by omega)
  have h3 := Cu b k a (by omega)
  rw [← BH hp h.ok k (by omega) a]
  refine h1.give _ (by omega) ?_ a ha
  have h4 := h1.f0 (rd (di b k a).free 0) (by
   have h5 := sT (di b k a).free 0 h3.1
   have h6 : rd (di b k a).free ((0 : Nat) : Int) = rd (di b k a).free 0 := rfl
   rw [h6] at h5
   rw [h5]
   exact List.getElem_mem _)
  rw [h3.2] at h4
  exact h4.2.2
theorem RG.own {b : Bk} (h : RG b) (s : ByteArray) (hs : fY s = true) : RG (Eb b s) :=
 ⟨⟨h.a0, h.a1, h.first, hs, h.na, h.l64, h.s0, h.may, h.nd, h.f0, h.fnd, h.zc⟩, h.used⟩
end Go.Proofs.Ytemhalnhbgkbcaa.V
end

section
namespace Go.Proofs.Ytemhalnhbgkbcaa.V
theorem RG0.relF {s : Bk × List Int} (h : RG0 s.1) (x : Int) : RG0 (relF s x).1 := by
 unfold V.relF
 split
 ·rename_i hh
  obtain ⟨h1, h2, h3, h4⟩ := uH hh
  obtain ⟨b, o⟩ := s
  simp only at h h1 h2 h3 h4 ⊢
  obtain ⟨j, hj⟩ : ∃ j : Nat, x - b.addr = (j : Int) := ⟨(x - b.addr).toNat, by omega⟩
  rw [hj] at h4 h2 ⊢
  rw [Int.toNat_natCast] at h4 ⊢
  have hjl : j < b.slots.length := by rw [h.l64]; omega
  have lK : b.slots.getD j 0 ≠ 0 := by simpa using h4
  have hnf : (j : Int) ∉ b.free := fun hm => lK (by have := (h.f0 _ hm).2.2; rwa [Int.toNat_natCast] at this)
  refine ⟨h.a0, h.a1, h.first, h.owner, h.na, by rw [List.length_set]; exact h.l64, ?_, h.may, h.nd, ?_, ?_, ?_⟩
  ·intro s hs
   rcases List.mem_or_eq_of_mem_set hs with hs | rfl
   ·exact h.s0 s hs
   ·omega
  ·intro f hf
   rcases List.mem_append.1 hf with hf | hf
   ·have h5 := h.f0 f hf
    refine ⟨h5.1, h5.2.1, ?_⟩
    have hne : j ≠ f.toNat := by
     rintro rfl
     exact lK h5.2.2
    rw [getD_set_ne _ hne]
    exact h5.2.2
   ·rw [List.mem_singleton.1 hf]
    refine ⟨by omega, by omega, ?_⟩
    rw [Int.toNat_natCast, vX _ hjl]
  ·rw [List.nodup_append]
   refine ⟨h.fnd, by simp, ?_⟩
   intro y hy z hz e
   rw [List.mem_singleton.1 hz] at e
   exact hnf (e ▸ hy)
  ·rw [C8 hjl lK, List.length_append, List.length_singleton, h.zc]
 ·exact h
theorem RG0.relL {b : Bk} (h : RG0 b) (l : List Int) : RG0 (relL b l).1 := by
 unfold V.relL
 suffices hh : ∀ s : Bk × List Int, RG0 s.1 → RG0 (l.foldl V.relF s).1 from hh (b, []) h
 induction l with
 | nil => exact fun s hs => hs
 | cons x l ih => exact fun s hs => ih _ (hs.relF x)
theorem pJ (l : List Int) {j k : Nat} (h : j ≤ k) : fg l j ≤ fg l k := by
 obtain ⟨d, rfl⟩ := Nat.le.dest h
 clear h
 induction d with
 | zero => exact Nat.le_refl _
 | succ d ih => rw [show j + (d + 1) = (j + d) + 1 from rfl, jP]; omega
theorem GM (l : List Int) : ∀ (n k : Nat), k < fg l n → ∃ j, j < n ∧ dN l j = true ∧ fg l j = k := by
 intro n
 induction n with
 | zero => intro k h; cases h
 | succ n ih =>
  intro k h
  rw [jP] at h
  rcases Nat.lt_or_ge k (fg l n) with h1 | h1
  ·obtain ⟨j, hj, h2⟩ := ih k h1
   exact ⟨j, by omega, h2⟩
  ·cases hu : dN l n with
   | true => rw [hu, if_pos rfl] at h; exact ⟨n, by omega, hu, by omega⟩
   | false => rw [hu, if_neg (by decide)] at h; omega
theorem Bm (b : Bk) : (iw b b.attrs.length).Sublist b.attrs := by
 have e : b.attrs = (List.range b.attrs.length).map (gH b.attrs) := by
  apply List.ext_getElem
  ·simp
  ·intro k h1 h2
   simp [ks _ _ h1]
 unfold iw
 conv => rhs; rw [e]
 exact (List.filter_sublist).map _
theorem GK {l : List Int} {s : Int} (h : s ∈ l) (h0 : 1 ≤ s) : 1 ≤ fg l s.toNat := by
 have h1 := p8 l s h h0
 have h2 := jP l (s.toNat - 1)
 rw [h1, if_pos rfl, Nat.sub_add_cancel (by omega)] at h2
 omega
theorem RG0.cmp {b : Bk} (h : RG0 b) : RG (kC b) := by
 have hkl : (kC b).attrs.length = fg b.slots b.attrs.length := lQ _ _
 have hz : ∀ s ∈ b.slots, ((fg b.slots s.toNat : Nat) : Int) = 0 ↔ s = 0 := by
  intro s hs
  constructor
  ·intro e
   rcases Int.lt_or_le 0 s with h1 | h1
   ·have := GK hs h1; omega
   ·have := h.s0 s hs; omega
  ·rintro rfl
   rfl
 refine ⟨⟨h.a0, h.a1, h.first, h.owner, ?_, by show (b.slots.map _).length = 64; rw [List.length_map]; exact h.l64, ?_, ?_, ?_, ?_, h.fnd, ?_⟩, ?_⟩
 ·rw [hkl]; have := wh b.slots b.attrs.length; have := h.na; omega
 ·intro s hs
  obtain ⟨t, ht, rfl⟩ := List.mem_map.1 hs
  have h1 := h.s0 t ht
  have h2 := pJ b.slots (show t.toNat ≤ b.attrs.length by omega)
  rw [hkl]
  omega
 ·exact fun a ha => h.may a ((Bm b).subset ha)
 ·exact h.nd.sublist (Bm b)
 ·intro f hf
  have h1 := h.f0 f hf
  refine ⟨h1.1, h1.2.1, ?_⟩
  have hfl : f.toNat < b.slots.length := by rw [h.l64]; omega
  show (b.slots.map _).getD f.toNat 0 = 0
  rw [getD_eq (by rw [List.length_map]; exact hfl), List.getElem_map, ← getD_eq hfl, h1.2.2]
  rfl
 ·show (b.slots.map _).countP _ = b.free.length
  rw [List.countP_map, ← h.zc]
  apply List.countP_congr
  intro s hs
  simp only [Function.comp, beq_iff_eq]
  exact hz s hs
 ·intro k hk
  rw [hkl] at hk
  obtain ⟨j, hj, hu, hr⟩ := GM _ _ _ hk
  unfold dN at hu ⊢
  rw [List.any_eq_true] at hu ⊢
  obtain ⟨s, hs, he⟩ := hu
  rw [beq_iff_eq] at he
  refine ⟨_, List.mem_map.2 ⟨s, hs, rfl⟩, ?_⟩
  rw [beq_iff_eq, he, Int.toNat_natCast, jP, if_pos, hr]
  unfold dN
  rw [List.any_eq_true]
  exact ⟨s, hs, by rw [beq_iff_eq]; exact he⟩
theorem RG.rel {b : Bk} (h : RG b) (l : List Int) : RG (kz b l) := (h.toRG0.relL l).cmp
def AR (l : List Int) (j : Nat) (s : Int) : Int := if s ≤ (j : Int) then s else (j : Int) + ((fg l s.toNat - fg l j : Nat) : Int)
def iB (b : Bk) (j : Nat) : Bk := ⟨b.addr, b.aff, b.slots.map (AR b.slots j), b.free, b.attrs.take j ++ (iw b b.attrs.length).drop (fg b.slots j)⟩
theorem GZ (b : Bk) (j d : Nat) : ∃ r, iw b (j + d) = iw b j ++ r := by
 induction d with
 | zero => exact ⟨[], by simp⟩
 | succ d ih =>
  obtain ⟨r, hr⟩ := ih
  exact ⟨_, by rw [show j + (d + 1) = (j + d) + 1 from rfl, mg, hr, List.append_assoc]⟩
theorem Hg {b : Bk} (h : ∀ s ∈ b.slots, s ≤ (b.attrs.length : Int)) : iB b b.attrs.length = b := by
 obtain ⟨a, f, s, fr, at_⟩ := b
 unfold iB
 congr 1
 ·conv => rhs; rw [← List.map_id s]
  apply List.map_congr_left
  intro x hx
  unfold AR
  rw [if_pos (h x hx)]
  rfl
 ·show at_.take at_.length ++ _ = at_
  rw [List.take_length, ← lQ, List.drop_length, List.append_nil]
theorem FQ {b : Bk} (h : ∀ s ∈ b.slots, 0 ≤ s) : iB b 0 = kC b := by
 unfold iB kC
 congr 1
 apply List.map_congr_left
 intro x hx
 have h0 := h x hx
 unfold AR
 split
 ·have : x = 0 := by omega
  subst this
  rfl
 ·rw [show fg b.slots 0 = 0 from rfl]
  simp
theorem Ig {l : List Int} {j : Nat} {s : Int} (hs : s ∈ l) : AR l (j + 1) s = ((j + 1 : Nat) : Int) ↔ s = ((j + 1 : Nat) : Int) := by
 unfold AR
 split
 ·exact Iff.rfl
 ·rename_i h1
  have h2 := pJ l (show j + 1 ≤ s.toNat - 1 by omega)
  have h3 := p8 l s hs (by omega)
  have h4 := jP l (s.toNat - 1)
  rw [h3, if_pos rfl, Nat.sub_add_cancel (by omega)] at h4
  constructor
  ·intro e; omega
  ·intro e; omega
theorem FR (b : Bk) (j : Nat) : dN (iB b (j + 1)).slots j = dN b.slots j := by
 unfold dN
 rw [Bool.eq_iff_iff, List.any_eq_true, List.any_eq_true]
 constructor
 ·rintro ⟨s, hs, he⟩
  obtain ⟨t, ht, rfl⟩ := List.mem_map.1 hs
  rw [beq_iff_eq] at he
  exact ⟨t, ht, by rw [beq_iff_eq]; exact (Ig ht).1 he⟩
 ·rintro ⟨s, hs, he⟩
  rw [beq_iff_eq] at he
  exact ⟨_, List.mem_map.2 ⟨s, hs, rfl⟩, by rw [beq_iff_eq]; exact (Ig hs).2 he⟩
theorem BS {b : Bk} {j : Nat} (hj : j < b.attrs.length) (hu : dN b.slots j = true) : (iw b b.attrs.length).drop (fg b.slots j) = gH b.attrs j :: (iw b b.attrs.length).drop (fg b.slots (j + 1)) := by
 obtain ⟨d, hd⟩ := Nat.le.dest (show j + 1 ≤ b.attrs.length from hj)
 obtain ⟨r, hr⟩ := GZ b (j + 1) d
 rw [hd] at hr
 rw [hr, mg, hu, if_pos rfl, jP, hu, if_pos rfl, List.append_assoc, ← lQ b j, List.drop_left]
 rw [show (iw b j).length + 1 = (iw b j ++ [gH b.attrs j]).length by simp, ← List.append_assoc, List.drop_left]
 rfl
theorem FT {b : Bk} (j : Nat) (hj : j < b.attrs.length) : (if dN (iB b (j + 1)).slots j = true then iB b (j + 1) else j6 (iB b (j + 1)) j) = iB b j := by
 rw [FR]
 cases hu : dN b.slots j with
 | true =>
  rw [if_pos rfl]
  unfold iB
  congr 1
  ·apply List.map_congr_left
   intro s hs
   unfold AR
   have h1 := jP b.slots j
   rw [hu, if_pos rfl] at h1
   by_cases a1 : s ≤ (j : Int)
   ·rw [if_pos (by omega), if_pos a1]
   ·rw [if_neg a1]
    by_cases a2 : s ≤ ((j + 1 : Nat) : Int)
    ·rw [if_pos a2]
     have : s.toNat = j + 1 := by omega
     rw [this]
     omega
    ·rw [if_neg a2]
     have h2 := pJ b.slots (show j + 1 ≤ s.toNat by omega)
     omega
  ·rw [BS hj hu, sG _ _ hj]
   simp
 | false =>
  rw [if_neg (by decide)]
  have h1 : fg b.slots (j + 1) = fg b.slots j := by
   rw [jP, hu, if_neg (by decide)]
   rfl
  unfold iB j6
  simp only
  congr 1
  ·rw [List.map_map]
   apply List.map_congr_left
   intro s hs
   have hns : s ≠ ((j + 1 : Nat) : Int) := by
    rintro rfl
    have := p8 b.slots _ hs (by omega)
    rw [Int.toNat_natCast, Nat.add_sub_cancel, hu] at this
    cases this
   simp only [Function.comp]
   unfold kV AR
   rw [h1]
   by_cases a1 : s ≤ (j : Int)
   ·rw [if_pos a1, if_pos (show s ≤ ((j + 1 : Nat) : Int) by omega), if_neg (by omega)]
   ·rw [if_neg a1, if_neg (show ¬ s ≤ ((j + 1 : Nat) : Int) by omega)]
    have h2 := pJ b.slots (show j + 1 ≤ s.toNat - 1 by omega)
    have h3 := p8 b.slots s hs (by omega)
    have h4 := jP b.slots (s.toNat - 1)
    rw [h3, if_pos rfl, Nat.sub_add_cancel (by omega)] at h4
    rw [if_pos (by omega)]
    omega
  ·rw [h1]
   have e1 : (b.attrs.take (j + 1)).length = j + 1 := by rw [List.length_take]; omega
   rw [List.take_append_of_le_length (by omega), List.take_take, Nat.min_eq_left (by omega), show j + 1 = (b.attrs.take (j + 1)).length from e1.symm, e1, List.drop_append_of_le_length (by omega), List.drop_eq_nil_of_le (by omega), List.nil_append]
theorem FZ {b : Bk} : ∀ j, j ≤ b.attrs.length → oU j (iB b j) = iB b 0 := by
 intro j
 induction j with
 | zero => intro _; rfl
 | succ j ih =>
  intro h
  show oU j (if dN (iB b (j + 1)).slots j = true then iB b (j + 1) else j6 (iB b (j + 1)) j) = _
  rw [FT j (by omega)]
  exact ih (by omega)
theorem wu {b : Bk} (h : RG b) (l : List Int) : oU b.attrs.length (relL b l).1 = kz b l := by
 have h1 := h.toRG0.relL l
 have h2 := (wP b l).1
 unfold kz
 rw [← h2, ← FQ (fun s hs => (h1.s0 s hs).1), ← FZ (b := (relL b l).1) _ (Nat.le_refl _), Hg (fun s hs => (h1.s0 s hs).2)]
end Go.Proofs.Ytemhalnhbgkbcaa.V
end

section
namespace Go.Proofs.Ytemhalnhbgkbcaa.V
theorem bz {P : Program} {ops : Array Oper} {Q : Exit → Act → World → Prop} {oi : Oper} {a : Act} {w : World} {K : Act → World → Prop} (hw : Region.wanted oi (yielded ops a.tmps) = true) (hN : oi.dst = none) (ty : TypeId) (x y : Operand) (ho : oi.op = .store ty x y)
  (g : Nat) (cs : List Value) (hx : a.eval x = .pointer (some ⟨g, 0, none⟩)) (hy : a.eval y = .agg cs.toArray)
  (t : Nat) (qS : List Value) (hb : aH w g qS t) (n : Nat) (hi : (P.info? ty).map (·.size) = some n) (hn : cs.length = n) (hold : qS.length = n) (h1 : ∀ v ∈ cs, v.oneCell' = true)
  (h : ∀ W1, aH W1 g cs t → w.grownBy W1 (some g) → K a W1) : if Region.wanted oi (yielded ops a.tmps) = true then Oper.wp P oi a w K Q else K (a.put none undef) w := by
 have hrun : (execOp a.eval oi).run P w = .ok .skip (w.setRow g cs.toArray) := by
  unfold execOp
  simp only [ho, hx, hy, Instr.storeAt, Instr.sureAddr, Sem.run_bind, Sem.run_pure, Result.andThen_ok, run_storeVar_row w g t ty qS.toArray cs.toArray hb (by rw [hi]; simp [hn]) (by simp; omega) (by rw [Array.all_eq_true_iff_forall_mem]; intro v hv; exact h1 v (by simpa using hv))]
 exact pI hw hN hrun (h _ (setRow_heap w g qS.toArray cs.toArray t (0, 0) hb) (uq w g _))
theorem dz {P : Program} {ops : Array Oper} {Q : Exit → Act → World → Prop} {oi : Oper} {a : Act} {w : World} {K : Act → World → Prop} (hw : Region.wanted oi (yielded ops a.tmps) = true) (ty : TypeId) (ho : oi.op = .alloc ty) (cs : List Value) (hz : ∀ w, (zeroValue ty).run P w = .ok (.agg cs.toArray) w)
  (h : ∀ g W1, w.heap.size ≤ g → aH W1 g cs ty → Below w.heap.size w W1 → K (a.put oi.dst (.pointer (some ⟨g, 0, none⟩))) W1) : if Region.wanted oi (yielded ops a.tmps) = true then Oper.wp P oi a w K Q else K (a.put oi.dst undef) w := by
 have := h w.heap.size (w.alloc (.cells cs.toArray ty)) (Nat.le_refl _) (heap_alloc_new w _) (al (Below.refl _ _) _)
 rw [if_pos hw]
 unfold Oper.wp execOp
 simp only [ho, Instr.alloc, newVar, newRow, newObj, Value.cells, Sem.run_bind, hz, Result.andThen_ok]
 exact this
end Go.Proofs.Ytemhalnhbgkbcaa.V
end

section
namespace Go.Proofs.Ytemhalnhbgkbcaa.V
set_option maxHeartbeats 16000000 in
set_option maxRecDepth 100000 in
theorem Ew (b : Bk) (hk : BkOk b) (x q : Int) (pb : Bool) (a : At) (hpl : ∀ (v : Value) (w : World), gi w v b → Calls Try.prog 92 #[v, .int .u32 x] w fun e w' => e = .returned (.tuple #[.int .i64 q, .bool pb]) ∧ Below w.heap.size w w') (hno : (dy b && (eP a && pb)) = false) (v : Value) (w : World) (h : gi w v b) :
  Calls Try.prog 51 #[v, .int .u32 x, et a] w fun e w' => ∃ v', e = .returned (.tuple #[v', .int .i64 1]) ∧ ee w' w.heap.size v' jS ∧ Below w.heap.size w w' := by
 obtain ⟨A, c, A', c', rfl, hr⟩ := h
 have HL := ak hr.l64
 have HR := ak hr
 have HK := ak hk
 have ae := ak (Below.refl w.heap.size w)
 have HPL := ak hpl
 clear hr hk hpl
 cases hrt : dy b with
 | false =>
  have HRT := ak hrt
  clear hrt hno
  go_enter Try.func51, Try.ntmps51
  go_wp2_with (first
   | (refine aE rfl 57 (.tmp 0) rfl _ rfl ?_; intro gX W1 J aa I; have bS := ge ae J; have aj := ak (ae.out.trans (I.mono ae.out.size)); have ah := ak (aa); clear J aa I ae)
   | (refine aE rfl 85 (.tmp 2) rfl _ rfl ?_; intro gA W2 J aa I; have kj := ge aj J; have eJ := ne ah J; have aw := mv I aj; have au := mv I ah; have bU := ak (aa); clear J aa I aj ah)
   | (refine ax (some 6) rfl rfl 57 rfl a7 bJ ?_; intro gZ W3 J aa I; have bO := ge aw J; have aG := ne au J; have gh := ne bU J; have aD := mv I aw; have aA := mv I au; have cR := mv I bU; have bQ := ak (aa); clear J aa I aw au bU)
   | ((with_reducible refine av (N := 11) rfl ?_); refine ay rfl 57 (.tmp 3) rfl gX rfl _ _ _ aA.out Try.underlying57 rfl 68 (by kernel_rfl) (ag _ _ _ _ _ HL.out) ?_)
   | (go_at_call 92; refine (HPL.out _ _ ⟨A, c, A', c', rfl, HR.out.below aD.out⟩).mono ?_; rintro e W4 ⟨rfl, I⟩; have aW := mv I aD; have aV := mv I aA; have dd := mv I cR; have bb := mv I bQ; clear I aD aA cR bQ)
   | ((with_reducible refine av (N := 17) rfl ?_); obtain ⟨gI, J⟩ : ∃ g_, g_ = W4.heap.size := ⟨_, rfl⟩; rw [← J]; generalize bW : W4.alloc (.cells #[.int .i64 q] 3) = W5; have I : Below W4.heap.size W4 W5 := (by rw [← bW]; exact al (Below.refl _ _) _); have aa : aH W5 gI [.int .i64 q] 3 := (by rw [← bW, J]; exact heap_alloc_new W4 _); have fO : W4.heap.size ≤ gI := Nat.le_of_eq J.symm; have vJ := ge aW fO; have l7 := ne aV fO; have tH := ne dd fO; have tB := ne bb fO; have bf := mv I aW; have a9 := mv I aV; have eg := mv I dd; have bu := mv I bb; have il := ak (aa); clear bW I aa fO J aW aV dd bb; refine ay rfl 57 (.tmp 3) rfl gX rfl _ _ _ a9.out Try.underlying57 rfl 68 (by kernel_rfl) (ag _ _ _ _ _ HL.out) ?_)
   | (go_at_call 48; refine (dW b HK.out _ _ ⟨A, c, A', c', rfl, HR.out.below bf.out⟩).mono ?_; rintro e W6 ⟨rfl, I⟩; rw [HRT.out]; have bD := mv I bf; have bj := mv I a9; have e6 := mv I eg; have bT := mv I bu; have jK := mv I il; clear I bf a9 eg bu il)
   | (refine fw rfl 57 #[] rfl a7 lp ?_)
   | (refine aN rfl 57 (.tmp 6) (.tmp 29) rfl gZ a7 rfl rfl 57 _ bT.out 68 (by kernel_rfl) rfl rfl ja ?_; intro W7 aa J; have dR := gb bD bO J; have df := gn bj aG J; have iH := gx e6 bT J; have dI := ak (aa); have jR := gx jK bT J; clear aa J bD bj e6 bT jK))
  exact bodyPost_ret (e8 rfl _ _ gZ 57 _ (0, 0) _ rfl dI.out Try.underlying57 rfl (by simp only [List.size_toArray]; exact b9 _ rfl)) rfl ⟨_, rfl, m2 _ _, dR.out⟩
 | true =>
  have HRT := ak hrt
  cases hm : eP a with
  | false =>
   have HMY := ak hm
   clear hrt hno hm
   go_enter Try.func51, Try.ntmps51
   go_wp2_with (first
    | (refine aE rfl 57 (.tmp 0) rfl _ rfl ?_; intro gX W1 J aa I; have bS := ge ae J; have aj := ak (ae.out.trans (I.mono ae.out.size)); have ah := ak (aa); clear J aa I ae)
    | (refine aE rfl 85 (.tmp 2) rfl _ rfl ?_; intro gA W2 J aa I; have kj := ge aj J; have eJ := ne ah J; have aw := mv I aj; have au := mv I ah; have bU := ak (aa); clear J aa I aj ah)
    | (refine ax (some 6) rfl rfl 57 rfl a7 bJ ?_; intro gZ W3 J aa I; have bO := ge aw J; have aG := ne au J; have gh := ne bU J; have aD := mv I aw; have aA := mv I au; have cR := mv I bU; have bQ := ak (aa); clear J aa I aw au bU)
    | ((with_reducible refine av (N := 11) rfl ?_); refine ay rfl 57 (.tmp 3) rfl gX rfl _ _ _ aA.out Try.underlying57 rfl 68 (by kernel_rfl) (ag _ _ _ _ _ HL.out) ?_)
    | (go_at_call 92; refine (HPL.out _ _ ⟨A, c, A', c', rfl, HR.out.below aD.out⟩).mono ?_; rintro e W4 ⟨rfl, I⟩; have aW := mv I aD; have aV := mv I aA; have dd := mv I cR; have bb := mv I bQ; clear I aD aA cR bQ)
    | ((with_reducible refine av (N := 17) rfl ?_); obtain ⟨gI, J⟩ : ∃ g_, g_ = W4.heap.size := ⟨_, rfl⟩; rw [← J]; generalize bW : W4.alloc (.cells #[.int .i64 q] 3) = W5; have I : Below W4.heap.size W4 W5 := (by rw [← bW]; exact al (Below.refl _ _) _); have aa : aH W5 gI [.int .i64 q] 3 := (by rw [← bW, J]; exact heap_alloc_new W4 _); have fO : W4.heap.size ≤ gI := Nat.le_of_eq J.symm; have vJ := ge aW fO; have l7 := ne aV fO; have tH := ne dd fO; have tB := ne bb fO; have bf := mv I aW; have a9 := mv I aV; have eg := mv I dd; have bu := mv I bb; have il := ak (aa); clear bW I aa fO J aW aV dd bb; refine ay rfl 57 (.tmp 3) rfl gX rfl _ _ _ a9.out Try.underlying57 rfl 68 (by kernel_rfl) (ag _ _ _ _ _ HL.out) ?_)
    | (go_at_call 48; refine (dW b HK.out _ _ ⟨A, c, A', c', rfl, HR.out.below bf.out⟩).mono ?_; rintro e W6 ⟨rfl, I⟩; rw [HRT.out]; have bD := mv I bf; have bj := mv I a9; have e6 := mv I eg; have bT := mv I bu; have jK := mv I il; clear I bf a9 eg bu il)
    | ((with_reducible refine av (N := 21) rfl ?_); refine fo (by rfl) ?_; refine ay rfl 85 (.tmp 5) rfl gA rfl _ _ _ e6.out Try.underlying85 rfl 2 (by kernel_rfl) rfl ?_)
    | (go_at_call 88; refine (jF a _).mono ?_; rintro e W7 ⟨rfl, I⟩; rw [HMY.out]; have dR := mv I bD; have df := mv I bj; have iH := mv I e6; have dI := mv I bT; have jR := mv I jK; clear I bD bj e6 bT jK)
    | (refine fw rfl 57 #[] rfl a7 lp ?_)
    | (refine aN rfl 57 (.tmp 6) (.tmp 29) rfl gZ a7 rfl rfl 57 _ dI.out 68 (by kernel_rfl) rfl rfl ja ?_; intro W8 aa J; have gO := gb dR bO J; have gN := gn df aG J; have CK := gx iH dI J; have fI := ak (aa); have wF := gx jR dI J; clear aa J dR df iH dI jR))
   exact bodyPost_ret (e8 rfl _ _ gZ 57 _ (0, 0) _ rfl fI.out Try.underlying57 rfl (by simp only [List.size_toArray]; exact b9 _ rfl)) rfl ⟨_, rfl, m2 _ _, gO.out⟩
  | true =>
   have HMY := ak hm
   rw [hrt, hm] at hno
   obtain rfl : pb = false := by simpa using hno
   clear hrt hno hm
   go_enter Try.func51, Try.ntmps51
   go_wp2_with (first
    | (refine aE rfl 57 (.tmp 0) rfl _ rfl ?_; intro gX W1 J aa I; have bS := ge ae J; have aj := ak (ae.out.trans (I.mono ae.out.size)); have ah := ak (aa); clear J aa I ae)
    | (refine aE rfl 85 (.tmp 2) rfl _ rfl ?_; intro gA W2 J aa I; have kj := ge aj J; have eJ := ne ah J; have aw := mv I aj; have au := mv I ah; have bU := ak (aa); clear J aa I aj ah)
    | (refine ax (some 6) rfl rfl 57 rfl a7 bJ ?_; intro gZ W3 J aa I; have bO := ge aw J; have aG := ne au J; have gh := ne bU J; have aD := mv I aw; have aA := mv I au; have cR := mv I bU; have bQ := ak (aa); clear J aa I aw au bU)
    | ((with_reducible refine av (N := 11) rfl ?_); refine ay rfl 57 (.tmp 3) rfl gX rfl _ _ _ aA.out Try.underlying57 rfl 68 (by kernel_rfl) (ag _ _ _ _ _ HL.out) ?_)
    | (go_at_call 92; refine (HPL.out _ _ ⟨A, c, A', c', rfl, HR.out.below aD.out⟩).mono ?_; rintro e W4 ⟨rfl, I⟩; have aW := mv I aD; have aV := mv I aA; have dd := mv I cR; have bb := mv I bQ; clear I aD aA cR bQ)
    | ((with_reducible refine av (N := 17) rfl ?_); obtain ⟨gI, J⟩ : ∃ g_, g_ = W4.heap.size := ⟨_, rfl⟩; rw [← J]; generalize bW : W4.alloc (.cells #[.int .i64 q] 3) = W5; have I : Below W4.heap.size W4 W5 := (by rw [← bW]; exact al (Below.refl _ _) _); have aa : aH W5 gI [.int .i64 q] 3 := (by rw [← bW, J]; exact heap_alloc_new W4 _); have fO : W4.heap.size ≤ gI := Nat.le_of_eq J.symm; have vJ := ge aW fO; have l7 := ne aV fO; have tH := ne dd fO; have tB := ne bb fO; have bf := mv I aW; have a9 := mv I aV; have eg := mv I dd; have bu := mv I bb; have il := ak (aa); clear bW I aa fO J aW aV dd bb; refine ay rfl 57 (.tmp 3) rfl gX rfl _ _ _ a9.out Try.underlying57 rfl 68 (by kernel_rfl) (ag _ _ _ _ _ HL.out) ?_)
    | (go_at_call 48; refine (dW b HK.out _ _ ⟨A, c, A', c', rfl, HR.out.below bf.out⟩).mono ?_; rintro e W6 ⟨rfl, I⟩; rw [HRT.out]; have bD := mv I bf; have bj := mv I a9; have e6 := mv I eg; have bT := mv I bu; have jK := mv I il; clear I bf a9 eg bu il)
    | ((with_reducible refine av (N := 21) rfl ?_); refine fo (by rfl) ?_; refine ay rfl 85 (.tmp 5) rfl gA rfl _ _ _ e6.out Try.underlying85 rfl 2 (by kernel_rfl) rfl ?_)
    | (go_at_call 88; refine (jF a _).mono ?_; rintro e W7 ⟨rfl, I⟩; rw [HMY.out]; have dR := mv I bD; have df := mv I bj; have iH := mv I e6; have dI := mv I bT; have jR := mv I jK; clear I bD bj e6 bT jK)
    | (refine fw rfl 57 #[] rfl a7 lp ?_)
    | (refine aN rfl 57 (.tmp 6) (.tmp 29) rfl gZ a7 rfl rfl 57 _ dI.out 68 (by kernel_rfl) rfl rfl ja ?_; intro W8 aa J; have gO := gb dR bO J; have gN := gn df aG J; have CK := gx iH dI J; have fI := ak (aa); have wF := gx jR dI J; clear aa J dR df iH dI jR))
   exact bodyPost_ret (e8 rfl _ _ gZ 57 _ (0, 0) _ rfl fI.out Try.underlying57 rfl (by simp only [List.size_toArray]; exact b9 _ rfl)) rfl ⟨_, rfl, m2 _ _, gO.out⟩
set_option maxHeartbeats 16000000 in
set_option maxRecDepth 100000 in
theorem zd (b : Bk) (hk : BkOk b) (x : Int) (j : Nat) (hj : j < 64) (a : At) (hpl : ∀ (v : Value) (w : World), gi w v b → Calls Try.prog 92 #[v, .int .u32 x] w fun e w' => e = .returned (.tuple #[.int .i64 (j : Int), .bool true]) ∧ Below w.heap.size w w') (hrt : dy b = true) (hm : eP a = true) (hne : (b.slots.getD j 0 != 0) = true) (v : Value) (w : World) (h : gi w v b) :
  Calls Try.prog 51 #[v, .int .u32 x, et a] w fun e w' => ∃ v', e = .returned (.tuple #[v', .int .i64 11]) ∧ ee w' w.heap.size v' jS ∧ Below w.heap.size w w' := by
 obtain ⟨A, c, A', c', rfl, hr⟩ := h
 have HL := ak hr.l64
 have HR := ak hr
 have HK := ak hk
 have ae := ak (Below.refl w.heap.size w)
 have HPL := ak hpl
 have HRT := ak hrt
 have HMY := ak hm
 obtain ⟨m, hmm⟩ : ∃ m, b.slots.getD j 0 = m := ⟨_, rfl⟩
 have HM := ak hmm
 rw [hmm] at hne
 clear hr hk hpl hrt hm hmm
 go_enter Try.func51, Try.ntmps51
 go_wp2_with (first
  | (refine aE rfl 57 (.tmp 0) rfl _ rfl ?_; intro gX W1 J aa I; have bS := ge ae J; have aj := ak (ae.out.trans (I.mono ae.out.size)); have ah := ak (aa); clear J aa I ae)
  | (refine aE rfl 85 (.tmp 2) rfl _ rfl ?_; intro gA W2 J aa I; have kj := ge aj J; have eJ := ne ah J; have aw := mv I aj; have au := mv I ah; have bU := ak (aa); clear J aa I aj ah)
  | (refine ax (some 6) rfl rfl 57 rfl a7 bJ ?_; intro gZ W3 J aa I; have bO := ge aw J; have aG := ne au J; have gh := ne bU J; have aD := mv I aw; have aA := mv I au; have cR := mv I bU; have bQ := ak (aa); clear J aa I aw au bU)
  | ((with_reducible refine av (N := 11) rfl ?_); refine ay rfl 57 (.tmp 3) rfl gX rfl _ _ _ aA.out Try.underlying57 rfl 68 (by kernel_rfl) (ag _ _ _ _ _ HL.out) ?_)
  | (go_at_call 92; refine (HPL.out _ _ ⟨A, c, A', c', rfl, HR.out.below aD.out⟩).mono ?_; rintro e W4 ⟨rfl, I⟩; have aW := mv I aD; have aV := mv I aA; have dd := mv I cR; have bb := mv I bQ; clear I aD aA cR bQ)
  | ((with_reducible refine av (N := 17) rfl ?_); obtain ⟨gI, J⟩ : ∃ g_, g_ = W4.heap.size := ⟨_, rfl⟩; rw [← J]; generalize bW : W4.alloc (.cells #[.int .i64 (j : Int)] 3) = W5; have I : Below W4.heap.size W4 W5 := (by rw [← bW]; exact al (Below.refl _ _) _); have aa : aH W5 gI [.int .i64 (j : Int)] 3 := (by rw [← bW, J]; exact heap_alloc_new W4 _); have fO : W4.heap.size ≤ gI := Nat.le_of_eq J.symm; have vJ := ge aW fO; have l7 := ne aV fO; have tH := ne dd fO; have tB := ne bb fO; have bf := mv I aW; have a9 := mv I aV; have eg := mv I dd; have bu := mv I bb; have il := ak (aa); clear bW I aa fO J aW aV dd bb; refine ay rfl 57 (.tmp 3) rfl gX rfl _ _ _ a9.out Try.underlying57 rfl 68 (by kernel_rfl) (ag _ _ _ _ _ HL.out) ?_)
  | (go_at_call 48; refine (dW b HK.out _ _ ⟨A, c, A', c', rfl, HR.out.below bf.out⟩).mono ?_; rintro e W6 ⟨rfl, I⟩; rw [HRT.out]; have bD := mv I bf; have bj := mv I a9; have e6 := mv I eg; have bT := mv I bu; have jK := mv I il; clear I bf a9 eg bu il)
  | ((with_reducible refine av (N := 21) rfl ?_); refine fo (by rfl) ?_; refine ay rfl 85 (.tmp 5) rfl gA rfl _ _ _ e6.out Try.underlying85 rfl 2 (by kernel_rfl) rfl ?_)
  | (go_at_call 88; refine (jF a _).mono ?_; rintro e W7 ⟨rfl, I⟩; rw [HMY.out]; have dR := mv I bD; have df := mv I bj; have iH := mv I e6; have dI := mv I bT; have jR := mv I jK; have Ha := jR.out.cell 0 _ rfl; have lU := (show W7.cell? ⟨gX, 2 + j, none⟩ = some (.int .u8 m) from by have h_ := df.out.slot HL.out j hj; rwa [HM.out] at h_); clear I bD bj e6 bT jK)
  | (refine fw rfl 57 #[] rfl a7 lp ?_)
  | (refine aN rfl 57 (.tmp 6) (.tmp 36) rfl gZ a7 rfl rfl 57 _ dI.out 68 (by kernel_rfl) rfl rfl ja ?_; intro W8 aa J; have gO := gb dR bO J; have gN := gn df aG J; have CK := gx iH dI J; have fI := ak (aa); have wF := gx jR dI J; clear aa J dR df iH dI jR Ha lU))
 exact bodyPost_ret (e8 rfl _ _ gZ 57 _ (0, 0) _ rfl fI.out Try.underlying57 rfl (by simp only [List.size_toArray]; exact b9 _ rfl)) rfl ⟨_, rfl, m2 _ _, gO.out⟩
def pq.T7 : Bool × List (List Nat × List Nat) := (true, [([], []), ([], []), ([1], [1]), ([], []), ([3, 0, 0, 1, 2], [0, 3]), ([4, 2, 2, 0, 1, 2], [2, 4])])
def pq.B7 : List Nat := [0, 0, 2, 0, 15, 31]
theorem pq.tab7 : dP .any (opsOf Try.f51 7) = pq.T7 := by kernel_rfl
theorem pq.bits7 : dr pq.T7.2 pq.B7 = true := by kernel_rfl
set_option maxHeartbeats 16000000 in
set_option maxRecDepth 100000 in
theorem Ct (b : Bk) (hk : BkOk b) (x : Int) (j : Nat) (hj : j < 64) (a : At) (hpl : ∀ (v : Value) (w : World), gi w v b → Calls Try.prog 92 #[v, .int .u32 x] w fun e w' => e = .returned (.tuple #[.int .i64 (j : Int), .bool true]) ∧ Below w.heap.size w w') (hrt : dy b = true) (hm : eP a = true) (hz : b.slots.getD j 0 = 0) (v : Value) (w : World) (h : gi w v b) :
  Calls Try.prog 51 #[v, .int .u32 x, et a] w fun e w' => ∃ v', e = .returned (.tuple #[v', .int .i64 0]) ∧ ee w' w.heap.size v' (fH b j a) ∧ Below w.heap.size w w' := by
 obtain ⟨A, c, A', c', rfl, hr⟩ := h
 have HL := ak hr.l64
 have HR := ak hr
 have HK := ak hk
 have ae := ak (Below.refl w.heap.size w)
 have HPL := ak hpl
 have hp := iA hrt
 have hsum := hp.sum_le hk HL.out
 have HRT := ak hrt
 have HMY := ak hm
 have HM := ak hz
 have HFL := ak (show b.free.length ≤ 64 by omega)
 have HAL := ak (show b.attrs.length ≤ 100 by omega)
 have HCP := ak (ml b (by omega) (by omega))
 clear hr hk hpl hrt hm hz hp hsum
 go_enter Try.func51, Try.ntmps51
 go_wp2_with (first
  | (refine aE rfl 57 (.tmp 0) rfl _ rfl ?_; intro gX W1 J aa I; have bS := ge ae J; have aj := ak (ae.out.trans (I.mono ae.out.size)); have ah := ak (aa); clear J aa I ae)
  | (refine aE rfl 85 (.tmp 2) rfl _ rfl ?_; intro gA W2 J aa I; have kj := ge aj J; have eJ := ne ah J; have aw := mv I aj; have au := mv I ah; have bU := ak (aa); clear J aa I aj ah)
  | (refine ax (some 6) rfl rfl 57 rfl a7 bJ ?_; intro gZ W3 J aa I; have bO := ge aw J; have aG := ne au J; have gh := ne bU J; have aD := mv I aw; have aA := mv I au; have cR := mv I bU; have bQ := ak (aa); clear J aa I aw au bU)
  | ((with_reducible refine av (N := 11) rfl ?_); refine ay rfl 57 (.tmp 3) rfl gX rfl _ _ _ aA.out Try.underlying57 rfl 68 (by kernel_rfl) (ag _ _ _ _ _ HL.out) ?_)
  | (go_at_call 92; refine (HPL.out _ _ ⟨A, c, A', c', rfl, HR.out.below aD.out⟩).mono ?_; rintro e W4 ⟨rfl, I⟩; have aW := mv I aD; have aV := mv I aA; have dd := mv I cR; have bb := mv I bQ; clear I aD aA cR bQ)
  | ((with_reducible refine av (N := 17) rfl ?_); obtain ⟨gI, J⟩ : ∃ g_, g_ = W4.heap.size := ⟨_, rfl⟩; rw [← J]; generalize bW : W4.alloc (.cells #[.int .i64 (j : Int)] 3) = W5; have I : Below W4.heap.size W4 W5 := (by rw [← bW]; exact al (Below.refl _ _) _); have aa : aH W5 gI [.int .i64 (j : Int)] 3 := (by rw [← bW, J]; exact heap_alloc_new W4 _); have fO : W4.heap.size ≤ gI := Nat.le_of_eq J.symm; have vJ := ge aW fO; have l7 := ne aV fO; have tH := ne dd fO; have tB := ne bb fO; have bf := mv I aW; have a9 := mv I aV; have eg := mv I dd; have bu := mv I bb; have il := ak (aa); clear bW I aa fO J aW aV dd bb; refine ay rfl 57 (.tmp 3) rfl gX rfl _ _ _ a9.out Try.underlying57 rfl 68 (by kernel_rfl) (ag _ _ _ _ _ HL.out) ?_)
  | (go_at_call 48; refine (dW b HK.out _ _ ⟨A, c, A', c', rfl, HR.out.below bf.out⟩).mono ?_; rintro e W6 ⟨rfl, I⟩; rw [HRT.out]; have bD := mv I bf; have bj := mv I a9; have e6 := mv I eg; have bT := mv I bu; have jK := mv I il; clear I bf a9 eg bu il)
  | ((with_reducible refine av (N := 21) rfl ?_); refine fo (by rfl) ?_; refine ay rfl 85 (.tmp 5) rfl gA rfl _ _ _ e6.out Try.underlying85 rfl 2 (by kernel_rfl) rfl ?_)
  | (go_at_call 88; refine (jF a _).mono ?_; rintro e W7 ⟨rfl, I⟩; rw [HMY.out]; have dR := mv I bD; have df := mv I bj; have iH := mv I e6; have dI := mv I bT; have jR := mv I jK; have Ha := jR.out.cell 0 _ rfl; have lU := (show W7.cell? ⟨gX, 2 + j, none⟩ = some (.int .u8 0) from by have h_ := df.out.slot HL.out j hj; rwa [HM.out] at h_); clear I bD bj e6 bT jK)
  | ((with_reducible refine av (N := 37) rfl ?_); refine ay rfl 57 (.tmp 3) rfl gX rfl _ _ _ df.out Try.underlying57 rfl 68 (by kernel_rfl) (ag _ _ _ _ _ HL.out) ?_)
  | (go_at_call 89; refine (HCP.out _ _ ⟨A, c, A', c', rfl, HR.out.below dR.out⟩).mono ?_; rintro e W8 ⟨v5, rfl, uE, I⟩; obtain ⟨uG, vf, va, rfl, lT, lX⟩ := uE; obtain ⟨Af, cf, rfl⟩ := Kd.R_slice lT; obtain ⟨Aa, ca, rfl⟩ := Kd.R_slice lX; have HSZ := ak dR.out.size; have tI := ak (show gX < W7.heap.size from df.out.lt); have nQ := ak (show gA < W7.heap.size from iH.out.lt); have nP := ak (show gZ < W7.heap.size from dI.out.lt); have IE := ak (show gI < W7.heap.size from jR.out.lt); have gO := mv I dR; have gN := mv I df; have CK := mv I iH; have fI := mv I dI; have wF := mv I jR; have ko := ak (lT); have km := ak (lX); have lF := ak (I.size); clear uG lT lX I dR df iH dI jR Ha lU)
  | (refine aN rfl 57 (.tmp 3) (.tmp 38) rfl gX (aX b.addr b.aff b.slots (.slice Af b.free.length cf) (.slice Aa b.attrs.length ca)) rfl rfl 57 _ gN.out 68 (by kernel_rfl) (ag _ _ _ _ _ HL.out) (ag _ _ _ _ _ HL.out) (bZ _ _ _ _ _ rfl rfl) ?_; intro W9 aa J; have kp := gb gO bS J; have kl := ak (OC.stored HL.out gN.out aa ko.out km.out J); have NV := gx CK gN J; have j9 := gm fI aG J; have CD := gx wF gN J; have nu := gr ko gN J; have nt := gr km gN J; have k8 := ak (Nat.le_trans lF.out J.size); clear aa J gO gN CK fI wF ko km lF))
 obtain ⟨b1, cA⟩ : ∃ b1, b1 = W7.heap.size := ⟨_, rfl⟩
 rw [← cA] at kl k8 tI nQ nP IE HSZ
 have cn := ak (show w.heap.size ≤ b1 from HSZ.out)
 clear cA HSZ
 have ai : Below W9.heap.size W9 W9.drew := bp (Below.refl _ _)
 have mB := mv ai kp; have mw := mv ai kl; have EP := mv ai NV; have m5 := mv ai j9; have rU := mv ai CD; have nY := ak (Nat.le_trans k8.out ai.size)
 clear ai kp kl NV j9 CD k8
 have pj : ((j : Int) < 64) = True := eq_true (by omega)
 refine da (n := 6) (S := fun w' => w'.cell? ⟨gI, 0, none⟩ = some (.int .i64 (j : Int)) ∧ w'.cell? ⟨gA, 0, none⟩ = some (.string a.f0) ∧ w'.cell? ⟨gA, 1, none⟩ = some (.string a.f1)) (ds := [5]) #[false, false, false, false, false, false] (by kernel_rfl) rfl rfl ⟨rU.out.cell 0 _ rfl, EP.out.cell 0 _ rfl, EP.out.cell 1 _ rfl⟩ (fun hHeld => ?_); refine bK pq.tab7 pq.bits7 (fun ab bq => ?_)
 refine tk 0 ab.out bq.out hHeld ?_ (hv := by intro w' aY; obtain ⟨s0, s1, s2⟩ := aY; go_simp; with_reducible rfl)
 refine tk 1 ab.out bq.out hHeld ?_ (hv := by intro w' aY; obtain ⟨s0, s1, s2⟩ := aY; go_simp; with_reducible rfl)
 refine pu 3 ab.out ?_
 refine on 2 ab.out (fun K hK => ?_)
 refine gs Try.func90 #[.pointer (some ⟨gX, 0, none⟩), .agg #[.string a.f0, .string a.f1]] (pK b HAL.out a gX b1 w.heap.size _ bS.out cn.out nY.out mw.out) ?_
 rintro e V1 ⟨rfl, aU, I, bV⟩
 refine ⟨_, rfl, ?_⟩
 obtain ⟨NZ, Nq, NY, Np, jf, _, _⟩ := mw.out.open; have sk := ak (mB.out.trans I); have nS := ak (aU); have Ay := ak (aH.added EP.out (Ne.symm eJ.out) nQ.out bV); have rv := ak (aH.added m5.out (Ne.symm aG.out) nP.out bV); have pV := ak (aH.added rU.out (Ne.symm l7.out) IE.out bV); have rH := ak (Nat.le_trans nY.out bV.1); clear aU I bV
 refine kn hK ⟨pV.out.cell 0 _ rfl, Ay.out.cell 0 _ rfl, Ay.out.cell 1 _ rfl⟩ (fun hHeld => ?_)
 clear hK K
 refine pu 4 ab.out ?_
 refine ra (i := 5) (N := none) #[true, true, true, true, true, true] rfl rfl (mT ab.out (by kernel_rfl)) (by decide) (fun K hK => ?_)
 have mX := (show OC V1 b1 gX ⟨b.addr, b.aff, b.slots, b.free, ea b.attrs a⟩ from nS.out).slotCell j hj; have mU := nS.out.frozen (2 + j)
 refine pI (w1 := ?_) (by rfl) rfl ?_ ?_
 rotate_left
 ·go_simp
  rfl
 refine hK.out _ _ ?_
 clear hK K
 refine dn ab.out ?_
 clear mX mU hHeld
 obtain ⟨_, _, _, _, jf, _, _⟩ := nS.out.open; generalize bW : V1.setCell ⟨gX, 2 + j, none⟩ (.int .u8 (en b.attrs a : Nat)) = IB; have J : V1.grownBy IB (some gX) := (by rw [← bW]; exact bP _ _ _ _); have sj := gb sk bS J; have nR := ak (OC.slot nS.out j hj (en b.attrs a : Nat)); have UO := gm Ay eJ J; have pO := gm rv aG J; have oY := gm pV l7 J; have pS := ak (Nat.le_trans rH.out J.size); rw [bW] at nR; clear bW J sk nS Ay rv pV rH jf
 obtain ⟨bm, hbm⟩ : ∃ bm : Bk, bm = ⟨b.addr, b.aff, b.slots.set j (en b.attrs a : Nat), b.free, ea b.attrs a⟩ := ⟨_, rfl⟩
 have HGV := ak (show fH b j a = ⟨bm.addr, bm.aff, bm.slots, bm.free.filter (fS (j : Int)), bm.attrs⟩ by rw [hbm]; rfl)
 have HFR := ak (show bm.free = b.free by rw [hbm])
 rw [← hbm] at nR
 clear hbm
 obtain ⟨A1, c1, A2, c2, hxx, mW, kQ⟩ := nR.out.open
 have M3 := hxx.cell 66 _ (fR _ _ _ _ _ nR.out.l64)
 have rT := ak nR.out.l64
 have HXX := ak hxx
 have jN := ak mW
 have kb := ak kQ
 clear hxx mW kQ
 obtain ⟨fd, hfd⟩ : ∃ fd, fd = bm.free.filter (fS (j : Int)) := ⟨_, rfl⟩
 have HFD := ak hfd
 clear hfd
 go_wp2_with (first
  | (go_at_call 93; refine (y6 bm.free (by rw [HFR.out]; exact HK.out.f8) (by rw [HFR.out]; have := HFL.out; omega) A1 c1 (j : Int) gI b1 _ jN.out oY.out pS.out).mono ?_; rintro e V3 ⟨v3, rfl, aU, I, bV⟩; have yD := ak (sj.out.trans (I.mono cn.out)); have oX := ak (aH.keeps HXX.out bV (HXX.out.ne_row jN.out (by decide))); have xh := ak (aH.keeps pO.out bV (pO.out.ne_row jN.out (by decide))); have xW := ak (aH.keeps oY.out bV (oY.out.ne_row jN.out (by decide))); have xz := ak (Nat.le_trans pS.out bV.1); have yh := ak (aU); have ya := ak (Kd.R_keptrow kb.out jN.out (by decide) bV); rw [← HFD.out] at aU; obtain ⟨A3, c3, rfl⟩ := Kd.R_slice aU; have mX := oX.out.cell 66 _ (fR _ _ _ _ _ rT.out); have mU := oX.out.frozen 66; clear M3 aU I bV sj HXX pO oY pS jN kb)
  | ((with_reducible refine av (N := 49) rfl ?_); generalize bW : V3.setCell ⟨gX, 66, none⟩ (.slice A3 fd.length c3) = TL; have J : V3.grownBy TL (some gX) := (by rw [← bW]; exact bP _ _ _ _); have yC := gb yD bS J; have rC := ak (oX.out.set 66 (.slice A3 fd.length c3)); have ru := gm xh aG J; have xV := gx xW oX J; have xy := ak (Nat.le_trans xz.out J.size); have yg := gr yh oX J; have xZ := gr ya oX J; rw [bW] at rC; clear bW J yD oX xh xW xz yh ya mX mU; rw [kW _ _ _ _ _ rT.out] at rC; refine ay rfl 57 (.tmp 3) rfl gX rfl _ _ _ rC.out Try.underlying57 rfl 68 (by kernel_rfl) (ag _ _ _ _ _ rT.out) ?_)
  | (refine aN rfl 57 (.tmp 6) (.tmp 49) rfl gZ (aX bm.addr bm.aff bm.slots (.slice A3 fd.length c3) (.slice A2 bm.attrs.length c2)) rfl rfl 57 _ ru.out 68 (by kernel_rfl) (ag _ _ _ _ _ rT.out) rfl (bZ _ _ _ _ _ rfl rfl) ?_; intro VF aa J; have Pf := gb yC bO J; have UK := gn rC aG J; have Pc := ak (aa); have UM := gx xV ru J; have UL := ak (Nat.le_trans xy.out J.size); have Pe := gr yg ru J; have Pd := gr xZ ru J; clear aa J yC rC ru xV xy yg xZ))
 refine bodyPost_ret (e8 rfl _ _ gZ 57 _ (0, 0) _ rfl Pc.out Try.underlying57 rfl (by simp only [List.size_toArray]; exact b9 _ (ag _ _ _ _ _ rT.out))) rfl ⟨_, rfl, ?_, Pf.out⟩
 have hff := Pe.out
 rw [← HFD.out] at hff
 rw [HGV.out, ← HFD.out]
 exact ⟨rT.out, _, _, rfl, Kd.R_lower hff cn.out, Kd.R_lower Pd.out cn.out⟩
def pz (b : Bk) (x : Int) (a : At) : Bool := dy b && (eP a && decide (bN x = b.addr))
def oH (b : Bk) (x : Int) : Bool := b.slots.getD (x - b.addr).toNat 0 != 0
def qH (b : Bk) (x : Int) (a : At) : Int := if pz b x a = true then (if oH b x = true then 11 else 0) else 1
def nf (b : Bk) (x : Int) (a : At) : Bk := if pz b x a = true then (if oH b x = true then jS else fH b (x - b.addr).toNat a) else jS
theorem nM (b : Bk) (hk : BkOk b) (x : Int) (h0 : 0 ≤ x) (h1 : x < 4294967296) (a : At) (v : Value) (w : World) (h : gi w v b) :
  Calls Try.prog 51 #[v, .int .u32 x, et a] w fun e w' => ∃ v', e = .returned (.tuple #[v', .int .i64 (qH b x a)]) ∧ ee w' w.heap.size v' (nf b x a) ∧ Below w.heap.size w w' := by
 have hpl := fun v w h => uw b hk x h0 h1 v w h
 cases ho : pz b x a with
 | false =>
  have e1 : qH b x a = 1 := by unfold qH; rw [ho]; rfl
  have e2 : nf b x a = jS := by unfold nf; rw [ho]; rfl
  rw [e1, e2]
  exact Ew b hk x _ _ a hpl ho v w h
 | true =>
  have ho' := ho
  unfold pz at ho'
  simp only [Bool.and_eq_true, decide_eq_true_eq] at ho'
  obtain ⟨hr, hm, hf⟩ := ho'
  have hj : (x - b.addr).toNat < 64 ∧ ((x - b.addr).toNat : Int) = x - b.addr := by
   unfold bN at hf
   omega
  rw [if_pos hf, decide_eq_true hf, ← hj.2] at hpl
  cases ht : oH b x with
  | true =>
   have e1 : qH b x a = 11 := by unfold qH; rw [ho, ht]; rfl
   have e2 : nf b x a = jS := by unfold nf; rw [ho, ht]; rfl
   rw [e1, e2]
   exact zd b hk x _ hj.1 a hpl hr hm ht v w h
  | false =>
   have e1 : qH b x a = 0 := by unfold qH; rw [ho, ht]; rfl
   have e2 : nf b x a = fH b (x - b.addr).toNat a := by unfold nf; rw [ho, ht]; rfl
   rw [e1, e2]
   exact Ct b hk x _ hj.1 a hpl hr hm (by unfold oH at ht; simpa using ht) v w h
end Go.Proofs.Ytemhalnhbgkbcaa.V
end

section
namespace Go.Proofs.Ytemhalnhbgkbcaa.V
theorem Fq (f0 f1 : ByteArray) (h0 : f0.size ≤ 9223372036854775807) (h1 : f1.size ≤ 9223372036854775807) (k : Nat) (hk : 9223372036854775808 ≤ k) : j3.f k f0 f1 = some (eP ⟨f0, f1⟩) := by
 unfold j3.f eP
 rw [Ea f0 h0 k (by omega), Option.bind_some]
 cases hr : fM f0 with
 | true => rw [if_pos rfl, Ea f1 h1 k (by omega), Option.bind_some, Bool.true_and]
 | false => rw [if_neg (by decide), Bool.false_and]
theorem CZ (s : ByteArray) (hs : s.size ≤ 9223372036854775807) (k : Nat) (hk : 9223372036854775808 ≤ k) : jc.f k s = some (fY s) := by
 unfold jc.f fY
 by_cases h0 : s.toList = []
 ·rw [if_pos h0]; simp [h0]
 ·rw [if_neg h0, Ea s hs k (by omega), Option.bind_some]; simp [h0]
section
variable (addr : Int) (aff : ByteArray) (sl fr : List Int) (M : List S76)
end
end Go.Proofs.Ytemhalnhbgkbcaa.V
end

section
namespace Go.Proofs.Ytemhalnhbgkbcaa.V
set_option maxHeartbeats 4000000 in
set_option maxRecDepth 100000 in
theorem oy (v : Value) (w : World) (h : gi w v jS) : Calls Try.prog 43 #[v] w fun e w' => e = .returned (.bool true) ∧ Below w.heap.size w w' := by
 have hzv := fun W => (m2 W 0).toV
 have hsm := GG jS (by decide) (by decide)
 have hl : jS.slots.length = 64 := rfl
 generalize jS = z at h hzv hsm hl
 obtain ⟨A, c, A', c', rfl, hr⟩ := h
 have HR := ak hr
 have HZV := ak hzv
 have HSM := ak hsm
 have HL := ak hl
 clear hzv hsm hl hr
 go_enter Try.func43, Try.ntmps43
 go_wp2_with (first
  | (refine aE rfl 57 (.tmp 0) rfl _ rfl ?_; intro g W1 hg hbx cA; have im := ak hbx; have mG := ak (HR.out.below cA); have cn := ak cA; clear hbx cA hg)
  | (refine ay rfl 57 (.tmp 1) rfl g rfl _ _ _ im.out Try.underlying57 rfl 68 (by kernel_rfl) (ag _ _ _ _ _ HL.out) ?_)
  | (refine fw rfl 57 #[] rfl a7 lp ?_)
  | (go_at_call 40; refine (HSM.out _ _ _ ⟨A, c, A', c', rfl, mG.out⟩ (HZV.out _)).mono ?_; rintro e W2 ⟨rfl, eU⟩; have jz := ak (cn.out.trans (eU.mono cn.out.size)); clear eU))
 go_ret
 exact ⟨rfl, jz.out⟩
end Go.Proofs.Ytemhalnhbgkbcaa.V
end

