/- The law ViewOf for every input: texts of ours, put together (part 8 of 17). No further condition. -/
import Derived.Test.YtndddnglapkplaaGreatDoorCViewOfx2
import Derived.Test.YtndddnglapkplaaGreatDoorCViewOfx5
import Derived.Test.YtndddnglapkplaaGreatDoorCViewOfx3
import Derived.Test.YtndddnglapkplaaGreatDoorCViewOfx6
set_option linter.unusedVariables false
set_option linter.unusedSimpArgs false
set_option linter.unusedSectionVars false
open Go.RowKit Go.Proofs.YtndddnglapkplaaGreatDoorW.PrintWords Go.Proofs.YtndddnglapkplaaGreatDoorW.PrintLast Go.Proofs.YtndddnglapkplaaGreatDoorW.PrintMore Go.Proofs.YtndddnglapkplaaGreatDoor.Z
namespace Go.Proofs.YtndddnglapkplaaGreatDoor.V
section
attribute [local go_sem] bq bn bI bH aW aV bp bj
def cL.f (k : Nat) (aI : Int) (ax : Int) : Option (Bool) := if ax ≥ 0 then (if ax ≤ 32 then ((cC.f k (wrap64 (32 - ax))).bind fun kG => (if kG = 0 then (none) else (some ((Int.tmod (wrap64 (aI)) kG) == 0)))) else (some false)) else (some false)
set_option maxHeartbeats 8000000 in
set_option maxRecDepth 100000 in
theorem cL.calls (k : Nat) (aI : Int) (ax : Int) (r : Bool) (w : World) (h : cL.f k aI ax = some r) :
  Calls Tryz.prog 49 #[.agg #[.int .u32 aI, .int .i64 ax]] w fun e w' => e = .returned (.bool r) ∧ Below w.heap.size w w' := by
 have JZ := Tryz.underlying43
 have HB := ak (Below.refl w.heap.size w)
 have H : (if ax ≥ 0 then (if ax ≤ 32 then ((cC.f k (wrap64 (32 - ax))).bind fun kG => (if kG = 0 then (none) else (some ((Int.tmod (wrap64 (aI)) kG) == 0)))) else (some false)) else (some false)) = some r := h
 clear h
 by_cases c2 : ax ≥ 0
 ·rw [if_pos c2] at H
  have ig := decide_eq_true c2
  clear c2
  by_cases c3 : ax ≤ 32
  ·rw [if_pos c3] at H
   have gq := decide_eq_true c3
   clear c3
   replace H := Option.bind_eq_some_iff.mp H
   obtain ⟨kG, so, H⟩ := H
   replace H : (if kG = 0 then (none) else (some ((Int.tmod (wrap64 (aI)) kG) == 0))) = some r := H
   have A4 := ak so
   clear so
   by_cases c5 : kG = 0
   ·rw [if_pos c5] at H
    exact absurd H (by simp)
   ·rw [if_neg c5] at H
    have nF : (kG == 0) = false := beq_eq_false_iff_ne.mpr c5
    have xt : (kG != 0) = true := bne_iff_ne.mpr c5
    obtain rfl := Option.some.inj H
    go_enter Tryz.func49, Tryz.ntmps49
    go_wp2_with (first | ((with_reducible refine af (N := 1) rfl ?_); refine bE (N := 1) (cs := #[.int .u32 aI, .int .i64 ax]) (t := 43) ?_; intro eo hg w6 hbox hb; have cw := ak (hbox); have pP := ak (gl hg : w.heap.size ≤ eo); have pQ := ak (gl hg : w.heap.size ≤ eo); replace HB := bs hb; clear hb hbox hg; have BA := cf cw 0; have Bz := cf cw 1; have Bw := J cw.out 0; have Bv := J cw.out 1) | (go_at_call 80; (with_reducible refine (cC.calls k (wrap64 (32 - ax)) kG _ A4.out).mono ?_); rintro e w' ⟨rfl, ⟨nd, rfl⟩⟩; (try first | exact ⟨rfl, _, World.drewN_drewN _ _ _⟩ | exact ⟨rfl, _, Eq.trans (World.drewN_drewN _ _ _) (congrArg (World.drewN _) (Nat.add_assoc _ _ _))⟩)))
    repeat (go_quiet (first | ((with_reducible refine af (N := 1) rfl ?_); refine bE (N := 1) (cs := #[.int .u32 aI, .int .i64 ax]) (t := 43) ?_; intro eo hg w6 hbox hb; have cw := ak (hbox); have pP := ak (gl hg : w.heap.size ≤ eo); have pQ := ak (gl hg : w.heap.size ≤ eo); replace HB := bs hb; clear hb hbox hg; have BA := cf cw 0; have Bz := cf cw 1; have Bw := J cw.out 0; have Bv := J cw.out 1) | (go_at_call 80; (with_reducible refine (cC.calls k (wrap64 (32 - ax)) kG _ A4.out).mono ?_); rintro e w' ⟨rfl, ⟨nd, rfl⟩⟩; (try first | exact ⟨rfl, _, World.drewN_drewN _ _ _⟩ | exact ⟨rfl, _, Eq.trans (World.drewN_drewN _ _ _) (congrArg (World.drewN _) (Nat.add_assoc _ _ _))⟩))); try go_wp2_with (first | ((with_reducible refine af (N := 1) rfl ?_); refine bE (N := 1) (cs := #[.int .u32 aI, .int .i64 ax]) (t := 43) ?_; intro eo hg w6 hbox hb; have cw := ak (hbox); have pP := ak (gl hg : w.heap.size ≤ eo); have pQ := ak (gl hg : w.heap.size ≤ eo); replace HB := bs hb; clear hb hbox hg; have BA := cf cw 0; have Bz := cf cw 1; have Bw := J cw.out 0; have Bv := J cw.out 1) | (go_at_call 80; (with_reducible refine (cC.calls k (wrap64 (32 - ax)) kG _ A4.out).mono ?_); rintro e w' ⟨rfl, ⟨nd, rfl⟩⟩; (try first | exact ⟨rfl, _, World.drewN_drewN _ _ _⟩ | exact ⟨rfl, _, Eq.trans (World.drewN_drewN _ _ _) (congrArg (World.drewN _) (Nat.add_assoc _ _ _))⟩))))
    go_ret
    exact ⟨rg, bl⟩
  ·rw [if_neg c3] at H
   have gq := decide_eq_false c3
   clear c3
   obtain rfl := Option.some.inj H
   go_enter Tryz.func49, Tryz.ntmps49
   go_wp2_with (first | ((with_reducible refine af (N := 1) rfl ?_); refine bE (N := 1) (cs := #[.int .u32 aI, .int .i64 ax]) (t := 43) ?_; intro eo hg w8 hbox hb; have cw := ak (hbox); have pP := ak (gl hg : w.heap.size ≤ eo); have pQ := ak (gl hg : w.heap.size ≤ eo); replace HB := bs hb; clear hb hbox hg; have By := cf cw 0; have Bx := cf cw 1; have Bu := J cw.out 0; have Bt := J cw.out 1))
   repeat (go_quiet (first | ((with_reducible refine af (N := 1) rfl ?_); refine bE (N := 1) (cs := #[.int .u32 aI, .int .i64 ax]) (t := 43) ?_; intro eo hg w8 hbox hb; have cw := ak (hbox); have pP := ak (gl hg : w.heap.size ≤ eo); have pQ := ak (gl hg : w.heap.size ≤ eo); replace HB := bs hb; clear hb hbox hg; have By := cf cw 0; have Bx := cf cw 1; have Bu := J cw.out 0; have Bt := J cw.out 1)); try go_wp2_with (first | ((with_reducible refine af (N := 1) rfl ?_); refine bE (N := 1) (cs := #[.int .u32 aI, .int .i64 ax]) (t := 43) ?_; intro eo hg w8 hbox hb; have cw := ak (hbox); have pP := ak (gl hg : w.heap.size ≤ eo); have pQ := ak (gl hg : w.heap.size ≤ eo); replace HB := bs hb; clear hb hbox hg; have By := cf cw 0; have Bx := cf cw 1; have Bu := J cw.out 0; have Bt := J cw.out 1)))
   go_ret
   exact ⟨rg, bl⟩
 ·rw [if_neg c2] at H
  have ig := decide_eq_false c2
  clear c2
  obtain rfl := Option.some.inj H
  go_enter Tryz.func49, Tryz.ntmps49
  go_wp2_with (first | ((with_reducible refine af (N := 1) rfl ?_); refine bE (N := 1) (cs := #[.int .u32 aI, .int .i64 ax]) (t := 43) ?_; intro eo hg uB hbox hb; have cw := ak (hbox); have pP := ak (gl hg : w.heap.size ≤ eo); have pQ := ak (gl hg : w.heap.size ≤ eo); replace HB := bs hb; clear hb hbox hg; have py := cf cw 0; have px := cf cw 1; have pw := J cw.out 0; have pt := J cw.out 1))
  repeat (go_quiet (first | ((with_reducible refine af (N := 1) rfl ?_); refine bE (N := 1) (cs := #[.int .u32 aI, .int .i64 ax]) (t := 43) ?_; intro eo hg uB hbox hb; have cw := ak (hbox); have pP := ak (gl hg : w.heap.size ≤ eo); have pQ := ak (gl hg : w.heap.size ≤ eo); replace HB := bs hb; clear hb hbox hg; have py := cf cw 0; have px := cf cw 1; have pw := J cw.out 0; have pt := J cw.out 1)); try go_wp2_with (first | ((with_reducible refine af (N := 1) rfl ?_); refine bE (N := 1) (cs := #[.int .u32 aI, .int .i64 ax]) (t := 43) ?_; intro eo hg uB hbox hb; have cw := ak (hbox); have pP := ak (gl hg : w.heap.size ≤ eo); have pQ := ak (gl hg : w.heap.size ≤ eo); replace HB := bs hb; clear hb hbox hg; have py := cf cw 0; have px := cf cw 1; have pw := J cw.out 0; have pt := J cw.out 1)))
  go_ret
  exact ⟨rg, bl⟩
end
section
def sz (b : Nat) : Nat := 2 ^ (32 - b)
theorem AV (b : Nat) : 0 < sz b := Nat.two_pow_pos _
theorem JA (b : Nat) : sz b ≤ 4294967296 := by
 have : (2 : Nat) ^ (32 - b) ≤ 2 ^ 32 := Nat.pow_le_pow_right (by omega) (by omega)
 simpa [sz] using this
def cl (b : Int) : Nat := (if b < 0 then 0 else if 32 < b then 32 else b).toNat
theorem Xs (b : Int) : cl b ≤ 32 := by unfold cl; split <;> (try split) <;> omega
theorem U2 (b : Nat) (h : b ≤ 32) : cl (b : Int) = b := by unfold cl; rw [if_neg (by omega), if_neg (by omega)]; rfl
theorem TL (b : Int) : gz.f b = some ((4294967296 - sz (cl b) : Nat) : Int) := by
 have h1 := AV (cl b); have h2 := JA (cl b)
 have e : (mn (mx b 0) 32) = (cl b : Int) := by
  unfold mn mx cl
  split <;> split <;> (try split) <;> (try split) <;> omega
 unfold gz.f
 rw [e, show ((32 : Int) - (cl b : Int)).toNat = 32 - cl b by have := Xs b; omega]
 have e2 : (2 : Int) ^ (32 - cl b) = (sz (cl b) : Int) := by unfold sz; simp
 rw [e2, wrap_u64 (sz (cl b) : Int) (by omega) (by omega), wrap_u64 _ (by omega) (by omega)]
 congr 1
 omega
theorem Sx (a b : Nat) (hb : b ≤ 32) : a &&& (4294967295 - (4294967296 - sz b)) = a % sz b := by
 have h1 := AV b; have h2 := JA b
 rw [show 4294967295 - (4294967296 - sz b) = 2 ^ (32 - b) - 1 by unfold sz at *; omega, Nat.and_two_pow_sub_one_eq_mod]
 rfl
def nX (a : Nat) (b : Int) : Bool := decide (0 ≤ b) && decide (b ≤ 32) && decide (a % sz b.toNat = 0)
theorem PC (a : Nat) (ha : a < 4294967296) (b : Int) : dm.f (a : Int) b = some (nX a b) := by
 unfold dm.f nX
 by_cases h1 : b ≥ 0
 ·by_cases h2 : b ≤ 32
  ·obtain ⟨n, rfl⟩ : ∃ n : Nat, b = n := ⟨b.toNat, by omega⟩
   have hc := U2 n (by omega)
   have g1 := AV n; have g2 := JA n
   rw [if_pos h1, if_pos h2, TL, Option.bind_some, hc, u32_andNot_nat a _ ha (by omega), Sx a n (by omega)]
   simp [show (0 : Int) ≤ (n : Int) by omega, h2]
   rw [Bool.eq_iff_iff]
   simp
   omega
  ·rw [if_pos h1, if_neg h2]; simp [h2]
 ·rw [if_neg h1]
  have : ¬ (0 ≤ b) := h1
  simp [this]
theorem TD : ∀ (d k i : Nat) (n : Nat), i + d = n → n ≤ 32 → d + 1 ≤ k → cC.l0 k (n : Int) ((2 ^ i : Nat) : Int) (i : Int) = some ((2 ^ n : Nat) : Int) := by
 intro d
 induction d with
 | zero =>
  intro k i n hi hn hk
  obtain ⟨k, rfl⟩ : ∃ m, k = m + 1 := ⟨k - 1, by omega⟩
  obtain rfl : i = n := by omega
  rw [cC.l0, if_neg (by omega)]
 | succ d ih =>
  intro k i n hi hn hk
  obtain ⟨k, rfl⟩ : ∃ m, k = m + 1 := ⟨k - 1, by omega⟩
  have h2 : (2 : Nat) ^ i ≤ 2 ^ 32 := Nat.pow_le_pow_right (by omega) (by omega)
  have h3 : (2 : Nat) ^ 32 = 4294967296 := by decide
  have := ih k (i + 1) n (by omega) hn (by omega)
  rw [Nat.pow_succ, Nat.mul_comm] at this
  rw [h3] at h2
  clear h3
  generalize 2 ^ i = p at h2 this ⊢
  rw [cC.l0, if_pos (by omega), bB ((i : Int) + 1) (by omega) (by omega), bB (2 * (p : Int)) (by omega) (by omega)]
  exact this
theorem WI (n : Nat) (hn : n ≤ 32) (k : Nat) (hk : n + 1 ≤ k) : cC.f k (n : Int) = some ((2 ^ n : Nat) : Int) := TD n k 0 n (by omega) hn hk
theorem Lo (a : Nat) (ha : a < 4294967296) (b : Int) (k : Nat) (hk : 33 ≤ k) : cL.f k (a : Int) b = some (nX a b) := by
 unfold cL.f nX
 by_cases h1 : b ≥ 0
 ·by_cases h2 : b ≤ 32
  ·obtain ⟨n, rfl⟩ : ∃ n : Nat, b = n := ⟨b.toNat, by omega⟩
   have g1 := AV n
   rw [if_pos h1, if_pos h2, bB _ (by omega) (by omega), show (32 : Int) - (n : Int) = ((32 - n : Nat) : Int) by omega, WI (32 - n) (by omega) k (by omega), Option.bind_some]
   have e : (2 : Nat) ^ (32 - n) = sz n := rfl
   rw [e, if_neg (by omega), bB (a : Int) (by omega) (by omega), show Int.tmod (a : Int) (sz n : Int) = ((a % sz n : Nat) : Int) from rfl]
   congr 1
   rw [Bool.eq_iff_iff]
   simp only [beq_iff_eq, Bool.and_eq_true, decide_eq_true_eq, Int.toNat_natCast]
   omega
  ·rw [if_pos h1, if_neg h2]; simp [h2]
 ·rw [if_neg h1]
  have : ¬ (0 ≤ b) := h1
  simp [this]
end
section
attribute [local go_sem] bq bn bI bH aW aV bp bj
def ck.f : Nat → Int → Option (ByteArray)
 | 0, _ => none
 | k + 1, a0 => if a0 < 10 then (some (strOfNums (([(wrap64 (48 + a0)) % 256] : List Int)))) else ((ck.f k (wrap64 (Int.tdiv a0 10))).bind fun ks => ((ck.f k (Int.tmod a0 10)).bind fun jP => (if ks.size + jP.size ≤ 9223372036854775807 then (some (ks ++ jP)) else (none))))
theorem ck.mono_l : ∀ k, (∀ y0, bQ (ck.f k y0) (ck.f (k + 1) y0))
 | 0 => fun _ r h => by simp [ck.f] at h
 | k + 1 => by
  have iH := ck.mono_l k
  ·intro y0
   unfold ck.f
   repeat' first
   | (with_reducible exact iH _)
   | (with_reducible exact bQ.refl _)
   | (with_reducible exact bQ.none _)
   | (with_reducible refine bQ.ite ?_ ?_)
   | (with_reducible refine bQ.bind ?_ (fun _ => ?_))
   | exact iH _
   | exact bQ.none _
   | refine bQ.ite ?_ ?_
   | refine bQ.bind ?_ (fun _ => ?_)
theorem ck.mono : ∀ a0 k, bQ (ck.f k a0) (ck.f (k + 1) a0) := by
 intro a0 k
 have iH := ck.mono_l k
 exact iH a0
set_option maxHeartbeats 8000000 in
set_option maxRecDepth 100000 in
theorem ck.calls (k : Nat) : ∀ (a0 : Int) (r : ByteArray) (w : World) (h : ck.f k a0 = some r),
  Calls Tryz.prog 133 #[.int .i64 a0] w fun e w' => e = .returned (.string r) ∧ Below w.heap.size w w' := by
 induction k using Nat.strongRecOn with
 | _ k ih =>
 intro a0 r w h
 cases k with
 | zero => exact absurd h (by simp [ck.f])
 | succ k =>
 simp only [ck.f] at h
 have HB := ak (Below.refl w.heap.size w)
 have H : (if a0 < 10 then (some (strOfNums (([(wrap64 (48 + a0)) % 256] : List Int)))) else ((ck.f k (wrap64 (Int.tdiv a0 10))).bind fun ks => ((ck.f k (Int.tmod a0 10)).bind fun jP => (if ks.size + jP.size ≤ 9223372036854775807 then (some (ks ++ jP)) else (none))))) = some r := h
 clear h
 by_cases c2 : a0 < 10
 ·rw [if_pos c2] at H
  have ig := decide_eq_true c2
  clear c2
  obtain ⟨QI, tP⟩ : ∃ y_ : List Int, y_ = (([(wrap64 (48 + a0)) % 256] : List Int)) := ⟨_, rfl⟩
  replace H : (some (strOfNums QI)) = some r := by first | (rw [tP]; with_reducible exact H) | (have gN := (Option.bind_some _ _).symm.trans H; rw [tP]; with_reducible exact gN) | (have gN := (Option.bind_some _ _).symm.trans H; with_reducible exact gN) | with_reducible exact H | (rw [tP]; exact H) | exact H
  have Gu := ak tP
  clear tP
  obtain rfl := Option.some.inj H
  go_enter Tryz.func133, Tryz.ntmps133
  go_wp2_with (first | ((with_reducible refine af (N := 8) rfl ?_); refine Kd.R_lit (Kd.int .u8) _ 5 ?hg (N := 8) ?hd (xs := ([(wrap64 (48 + a0)) % 256] : List Int)) (inner := [.int .u8 ((wrap64 (48 + a0)) % 256)]) (ok := fun _ => True) (okp := fun _ => True) ?hr ?hp (fun _ hk => hk) trivial (Below.refl _ _) (Nat.le_refl _) (by simp) ?_; (case hd => rfl); (case hg => rfl); (case hr => first | (go_simp; done) | (go_simp; rfl)); (case hp => exact (bZ.one (show Kd.M (Kd.int .u8) _ _ _ ((wrap64 (48 + a0)) % 256) [.int .u8 ((wrap64 (48 + a0)) % 256)] from rfl) (bZ.none _ _))); intro ac5 w3 pq hb bO jI; clear bO jI; (first | rw [← Gu.out] at pq | (simp only [Int.reduceToNat] at pq; rw [← Gu.out] at pq)); have O0 := ak (Kd.R_lower pq (fj bl)); replace HB := bs hb; clear hb pq; have Uw := di (P := Tryz.prog) Tryz.underlying61 Tryz.underlying5 Tryz.underlying9 (Kd.own_of_R O0.out)))
  go_ret
  exact ⟨rg, bl⟩
 ·rw [if_neg c2] at H
  have ig := decide_eq_false c2
  clear c2
  replace H := Option.bind_eq_some_iff.mp H
  obtain ⟨ks, D3, H⟩ := H
  replace H : ((ck.f k (Int.tmod a0 10)).bind fun jP => (if ks.size + jP.size ≤ 9223372036854775807 then (some (ks ++ jP)) else (none))) = some r := H
  have A6 := ak D3
  clear D3
  replace H := Option.bind_eq_some_iff.mp H
  obtain ⟨jP, yP, H⟩ := H
  replace H : (if ks.size + jP.size ≤ 9223372036854775807 then (some (ks ++ jP)) else (none)) = some r := H
  have A7 := ak yP
  clear yP
  by_cases c8 : ks.size + jP.size ≤ 9223372036854775807
  ·rw [if_pos c8] at H
   have qU := eq_true c8
   have CR := decide_eq_true c8
   try have aa3 := eq_false (Nat.not_lt.2 c8)
   obtain rfl := Option.some.inj H
   go_enter Tryz.func133, Tryz.ntmps133
   go_wp2_with (first | ((with_reducible refine au (f := 133) rfl ?_); refine gC (some 12) Tryz.func133 #[.int .i64 (wrap64 (Int.tdiv a0 10))] ?_; (with_reducible refine (ih k (by omega) (wrap64 (Int.tdiv a0 10)) ks _ A6.out).mono ?_); rintro e w9 ⟨rfl, hb⟩; refine ⟨_, rfl, ?_⟩; replace HB := bs hb; (try clear hb); (try clear aU); (try clear hk); (try clear hi)) | ((with_reducible refine au (f := 133) rfl ?_); refine gC (some 15) Tryz.func133 #[.int .i64 (Int.tmod a0 10)] ?_; (with_reducible refine (ih k (by omega) (Int.tmod a0 10) jP _ A7.out).mono ?_); rintro e uB ⟨rfl, hb⟩; refine ⟨_, rfl, ?_⟩; replace HB := bs hb; (try clear hb); (try clear aU); (try clear hk); (try clear hi)))
   go_ret
   exact ⟨rg, bl⟩
  ·rw [if_neg c8] at H
   exact absurd H (by simp)
end
section
attribute [local go_sem] bq bn bI bH aW aV bp bj
def ej.f (k : Nat) (aI : Int) (ax : Int) : Option (ByteArray) := (dm.f aI ax).bind fun sQ => (if sQ = true then ((kQ.f aI).bind fun eF => (if eF.size + 1 ≤ 9223372036854775807 then ((ck.f k ax).bind fun fG => (if (eF ++ (⟨#[47]⟩ : ByteArray)).size + fG.size ≤ 9223372036854775807 then (some ((eF ++ (⟨#[47]⟩ : ByteArray)) ++ fG)) else (none))) else (none))) else (some (⟨#[]⟩ : ByteArray)))
def ej.T3 : Bool × List (List Nat × List Nat) := (true, [([], []), ([0], [0]), ([1], [1]), ([2], [2]), ([], []), ([4], [4]), ([5, 2], [5]), ([3, 6], [3, 6]), ([7, 6, 0, 1, 2, 3, 4, 5, 6, 7], [7])])
def ej.B3 : List Nat := [0, 1, 3, 7, 0, 16, 55, 127, 255]
theorem ej.tab3 : dA .any (opsOf Tryz.f124 3) = ej.T3 := by kernel_rfl
theorem ej.bits3 : dy ej.T3.2 ej.B3 = true := by kernel_rfl
set_option maxHeartbeats 8000000 in
set_option maxRecDepth 100000 in
theorem ej.calls (k : Nat) (aI : Int) (ax : Int) (r : ByteArray) (w : World) (h : ej.f k aI ax = some r) :
  Calls Tryz.prog 124 #[.agg #[.int .u32 aI, .int .i64 ax]] w fun e w' => e = .returned (.string r) ∧ Below w.heap.size w w' := by
 have Aj := Tryz.underlying67
 have HB := ak (Below.refl w.heap.size w)
 have H : ((dm.f aI ax).bind fun sQ => (if sQ = true then ((kQ.f aI).bind fun eF => (if eF.size + 1 ≤ 9223372036854775807 then ((ck.f k ax).bind fun fG => (if (eF ++ (⟨#[47]⟩ : ByteArray)).size + fG.size ≤ 9223372036854775807 then (some ((eF ++ (⟨#[47]⟩ : ByteArray)) ++ fG)) else (none))) else (none))) else (some (⟨#[]⟩ : ByteArray)))) = some r := h
 clear h
 replace H := Option.bind_eq_some_iff.mp H
 obtain ⟨sQ, eS, H⟩ := H
 replace H : (if sQ = true then ((kQ.f aI).bind fun eF => (if eF.size + 1 ≤ 9223372036854775807 then ((ck.f k ax).bind fun fG => (if (eF ++ (⟨#[47]⟩ : ByteArray)).size + fG.size ≤ 9223372036854775807 then (some ((eF ++ (⟨#[47]⟩ : ByteArray)) ++ fG)) else (none))) else (none))) else (some (⟨#[]⟩ : ByteArray))) = some r := H
 have A2 := ak eS
 clear eS
 by_cases c3 : sQ = true
 ·subst c3
  replace H : ((kQ.f aI).bind fun eF => (if eF.size + 1 ≤ 9223372036854775807 then ((ck.f k ax).bind fun fG => (if (eF ++ (⟨#[47]⟩ : ByteArray)).size + fG.size ≤ 9223372036854775807 then (some ((eF ++ (⟨#[47]⟩ : ByteArray)) ++ fG)) else (none))) else (none))) = some r := by rw [if_pos rfl] at H; exact H
  replace H := Option.bind_eq_some_iff.mp H
  obtain ⟨eF, so, H⟩ := H
  replace H : (if eF.size + 1 ≤ 9223372036854775807 then ((ck.f k ax).bind fun fG => (if (eF ++ (⟨#[47]⟩ : ByteArray)).size + fG.size ≤ 9223372036854775807 then (some ((eF ++ (⟨#[47]⟩ : ByteArray)) ++ fG)) else (none))) else (none)) = some r := H
  have A4 := ak so
  clear so
  by_cases c5 : eF.size + 1 ≤ 9223372036854775807
  ·rw [if_pos c5] at H
   have nF := eq_true c5
   have xt := decide_eq_true c5
   try have aT9 := eq_false (Nat.not_lt.2 c5)
   replace H := Option.bind_eq_some_iff.mp H
   obtain ⟨fG, D3, H⟩ := H
   replace H : (if (eF ++ (⟨#[47]⟩ : ByteArray)).size + fG.size ≤ 9223372036854775807 then (some ((eF ++ (⟨#[47]⟩ : ByteArray)) ++ fG)) else (none)) = some r := H
   have A6 := ak D3
   clear D3
   by_cases c7 : (eF ++ (⟨#[47]⟩ : ByteArray)).size + fG.size ≤ 9223372036854775807
   ·rw [if_pos c7] at H
    have qV := eq_true c7
    have Av := decide_eq_true c7
    try have aT8 := eq_false (Nat.not_lt.2 c7)
    try have aa4 : ¬ 9223372036854775807 < eF.size + 1 + fG.size := by have h_ := c7; simp only [ByteArray.size_append] at h_; exact Nat.not_lt.2 h_
    try have aT7 := eq_false aa4
    obtain rfl := Option.some.inj H
    go_enter Tryz.func124, Tryz.ntmps124
    try go_wp2_with (first | ((with_reducible refine af (N := 1) rfl ?_); refine bE (N := 1) (cs := #[.int .u32 aI, .int .i64 ax]) (t := 67) ?_; intro oT hg w8 hbox hb; have dM := ak (hbox); have Pg := ak (gl hg : w.heap.size ≤ oT); have Pk := ak (gl hg : w.heap.size ≤ oT); replace HB := bs hb; clear hb hbox hg; have By := cf dM 0; have Bx := cf dM 1; have Bu := J dM.out 0; have Bt := J dM.out 1) | ((with_reducible refine au (f := 75) rfl ?_); refine gC (some 4) Tryz.func75 #[.agg #[.int .u32 aI, .int .i64 ax]] ?_; (with_reducible refine (dm.calls aI ax true _ A2.out).mono ?_); rintro e uB ⟨rfl, hb⟩; refine ⟨_, rfl, ?_⟩; replace dM := bm dM hb; replace HB := bs hb; (try clear hb); (try clear aU); (try clear hk); (try clear hi)))
    replace dM := ak (aj dM.out)
    replace HB := ak (gM HB.out)
    refine dV (n := 9) (S := fun w' => w'.cell? ⟨oT, 0, none⟩ = some (.int .u32 aI) ∧ w'.cell? ⟨oT, 1, none⟩ = some (.int .i64 ax)) (ds := []) #[false, false, false, false, false, false, false, false, false] (by kernel_rfl) rfl rfl ⟨(cD dM.out 0).trans rfl, (cD dM.out 1).trans rfl⟩ (fun hHeld => ?_); refine cz ej.tab3 ej.bits3 (fun aa bV => ?_)
    generalize uB.drew = Db at dM HB hHeld ⊢
    refine pu 0 aa.out ?_
    refine pu 4 aa.out ?_
    refine tk 1 aa.out bV.out hHeld ?_ (hv := by rintro w' ⟨s0, s1⟩; go_simp; with_reducible rfl)
    refine tk 5 aa.out bV.out hHeld ?_ (hv := by rintro w' ⟨s0, s1⟩; go_simp; with_reducible rfl)
    refine on 2 aa.out (fun K hK => ?_)
    refine gs Tryz.func132 #[.int .u32 aI] (kQ.calls aI eF _ A4.out) ?_
    rintro e KR ⟨rfl, hb⟩
    refine ⟨_, rfl, ?_⟩
    replace dM := bm dM hb
    replace HB := bs hb
    (try clear hb)
    (try clear aU)
    (try clear hk)
    (try clear hi)
    refine kn hK ⟨(cD dM.out 0).trans rfl, (cD dM.out 1).trans rfl⟩ (fun hHeld => ?_)
    clear hK K
    refine pu 3 aa.out ?_
    refine on 6 aa.out (fun K hK => ?_)
    refine gs Tryz.func133 #[.int .i64 ax] (ck.calls k ax fG _ A6.out) ?_
    rintro e tj ⟨rfl, hb⟩
    refine ⟨_, rfl, ?_⟩
    replace dM := bm dM hb
    replace HB := bs hb
    (try clear hb)
    (try clear aU)
    (try clear hk)
    (try clear hi)
    refine kn hK ⟨(cD dM.out 0).trans rfl, (cD dM.out 1).trans rfl⟩ (fun hHeld => ?_)
    clear hK K
    refine pu 7 aa.out ?_
    refine pu 8 aa.out ?_
    refine dn aa.out ?_
    try go_wp2
    go_ret
    exact ⟨rg, bl⟩
   ·rw [if_neg c7] at H
    exact absurd H (by simp)
  ·rw [if_neg c5] at H
   exact absurd H (by simp)
 ·replace c3 := Bool.eq_false_iff.mpr c3
  subst c3
  replace H : (some (⟨#[]⟩ : ByteArray)) = some r := by rw [if_neg (show ¬ (false = true) by decide)] at H; exact H
  obtain rfl := Option.some.inj H
  go_enter Tryz.func124, Tryz.ntmps124
  go_wp2_with (first | ((with_reducible refine af (N := 1) rfl ?_); refine bE (N := 1) (cs := #[.int .u32 aI, .int .i64 ax]) (t := 67) ?_; intro oT hg X5 hbox hb; have dM := ak (hbox); have Pg := ak (gl hg : w.heap.size ≤ oT); have Pk := ak (gl hg : w.heap.size ≤ oT); replace HB := bs hb; clear hb hbox hg; have Sb := cf dM 0; have Sa := cf dM 1; have RJ := J dM.out 0; have RI := J dM.out 1) | ((with_reducible refine au (f := 75) rfl ?_); refine gC (some 4) Tryz.func75 #[.agg #[.int .u32 aI, .int .i64 ax]] ?_; (with_reducible refine (dm.calls aI ax false _ A2.out).mono ?_); rintro e Pv ⟨rfl, hb⟩; refine ⟨_, rfl, ?_⟩; replace dM := bm dM hb; replace HB := bs hb; (try clear hb); (try clear aU); (try clear hk); (try clear hi)))
  go_ret
  exact ⟨rg, bl⟩
end
section
theorem OE : ((List.range 33).all fun n => decide (ck.f 4 (n : Int) = some (fB n))) = true := by kernel_rfl
theorem U3 (n : Nat) (hn : n < 33) (k : Nat) (hk : 4 ≤ k) : ck.f k (n : Int) = some (fB n) :=
 up (fun k => ck.f k (n : Int)) (ck.mono _) hk (by have := List.all_eq_true.1 OE n (List.mem_range.2 hn); simpa using this)
def gD (a : Nat) (b : Int) : ByteArray := if nX a b = true then ou a ++ (⟨#[47]⟩ : ByteArray) ++ fB b.toNat else ⟨#[]⟩
theorem zC (a : Nat) : (ou a).size ≤ 15 := by
 have := xF a
 unfold ou
 simpa [ByteArray.size] using this
theorem Ik {a : Nat} {b : Int} (h : nX a b = true) : ∃ n : Nat, b = n ∧ n ≤ 32 ∧ a % sz n = 0 := by
 simp only [nX, Bool.and_eq_true, decide_eq_true_eq] at h
 exact ⟨b.toNat, by omega, by omega, h.2⟩
theorem Ih (a : Nat) (ha : a < 4294967296) (b : Int) (k : Nat) (hk : 4 ≤ k) : ej.f k (a : Int) b = some (gD a b) := by
 unfold ej.f gD
 rw [PC a ha, Option.bind_some]
 cases hm : nX a b with
 | false => rfl
 | true =>
  obtain ⟨n, rfl, hn, hd⟩ := Ik hm
  have hp : kQ.f (a : Int) = some (ou a) := by unfold kQ.f; rw [if_pos (by omega)]; rfl
  have h1 := zC a; have h2 := DO n
  rw [if_pos rfl, hp, Option.bind_some, if_pos (by omega), U3 n (by omega) k hk, Option.bind_some, if_pos (by rw [ByteArray.size_append, Fe]; omega)]
  rfl
def mM (b : ByteArray) : Nat → Int
 | 0 => 0
 | j + 1 => 10 * mM b j + bt b (j : Int) - 48
def mQ (s : ByteArray) : Int × Int × Int :=
 if (bY 47 s).2.2 = true ∧ (iu (bY 47 s).1).2 = 0 ∧ 1 ≤ (bY 47 s).2.1.size ∧ (bY 47 s).2.1.size ≤ 2 ∧ gD (iu (bY 47 s).1).1.toNat (mM (bY 47 s).2.1 (bY 47 s).2.1.size) = s
 then ((iu (bY 47 s).1).1, mM (bY 47 s).2.1 (bY 47 s).2.1.size, 0) else (0, 0, 3)
end
section
theorem yj (c : UInt8) (y : List UInt8) : ∀ x : List UInt8, c ∉ x → Lib.indexByte (x ++ c :: y) c = (x.length : Int)
 | [], _ => by simp [Lib.indexByte]
 | b :: x, h => by
  have h1 : ¬ b = c := fun e => h (by simp [e])
  have ih := yj c y x (fun e => h (by simp [e]))
  rw [List.cons_append, Lib.indexByte, ih]
  have n1 : ¬ ((x.length : Int) = -1) := by omega
  simp [h1, n1]
theorem vz (c : UInt8) : ∀ (l : List UInt8) (i : Nat), Lib.indexByte l c = (i : Int) → l = l.take i ++ c :: l.drop (i + 1) ∧ c ∉ l.take i ∧ i < l.length
 | [], i, h => by simp [Lib.indexByte] at h
 | b :: l, i, h => by
  rw [Lib.indexByte] at h
  by_cases hb : b = c
  ·subst hb
   simp at h
   obtain rfl : i = 0 := by omega
   simp
  ·have hb' : (b == c) = false := by simpa using hb
   rw [hb'] at h
   simp only [Bool.false_eq_true, if_false] at h
   by_cases hm : Lib.indexByte l c = -1
   ·simp [hm] at h
   ·have hg := Lib.indexByte_ge l c
    have hm' : (Lib.indexByte l c == -1) = false := by simpa using hm
    rw [hm'] at h
    simp only [Bool.false_eq_true, if_false] at h
    obtain ⟨j, rfl⟩ : ∃ j, i = j + 1 := ⟨i - 1, by omega⟩
    obtain ⟨h1, h2, h3⟩ := vz c l j (by omega)
    refine ⟨by rw [List.take_succ_cons, List.drop_succ_cons, List.cons_append, ← h1], ?_, by simp; omega⟩
    rw [List.take_succ_cons]
    intro hc
    rcases List.mem_cons.1 hc with h | h
    ·exact hb h.symm
    ·exact h2 h
theorem xn (c : UInt8) (s : ByteArray) (h : (bY c s).2.2 = true) : s.data.toList = (bY c s).1.data.toList ++ c :: (bY c s).2.1.data.toList ∧ c ∉ (bY c s).1.data.toList := by
 unfold bY at h ⊢
 by_cases hm : Lib.indexByte s.data.toList c = -1
 ·rw [if_pos hm] at h; cases h
 ·rw [if_neg hm]
  have hg := Lib.indexByte_ge s.data.toList c
  obtain ⟨i, hi⟩ : ∃ i : Nat, Lib.indexByte s.data.toList c = i := ⟨(Lib.indexByte s.data.toList c).toNat, by omega⟩
  obtain ⟨h1, h2, h3⟩ := vz c _ i hi
  rw [hi]
  simp only [Int.toNat_natCast, Lib.extract_from_zero, Lib.extract_to_end]
  exact ⟨h1, h2⟩
theorem wG (c : UInt8) (s : ByteArray) (x y : List UInt8) (h : s.data.toList = x ++ c :: y) (hx : c ∉ x) : (bY c s).1.data.toList = x ∧ (bY c s).2.1.data.toList = y ∧ (bY c s).2.2 = true := by
 have hi := yj c y x hx
 rw [← h] at hi
 unfold bY
 rw [if_neg (by omega), hi]
 simp only [Int.toNat_natCast, Lib.extract_from_zero, Lib.extract_to_end, h]
 refine ⟨by simp, ?_, trivial⟩
 rw [List.drop_append]
 simp
theorem BK (c : UInt8) : ∀ l : List UInt8, [c].intercalate (cutAt c l) = l
 | [] => rfl
 | b :: l => by
  have ih := BK c l
  unfold cutAt
  by_cases h : b = c
  ·subst h
   rw [if_pos rfl]
   cases hc : cutAt b l with
   | nil => exact absurd hc (xo b l)
   | cons p r =>
    rw [hc] at ih
    simp [List.intercalate] at ih ⊢
    exact ih
  ·rw [if_neg h]
   cases hc : cutAt c l with
   | nil => exact absurd hc (xo c l)
   | cons p r =>
    rw [hc] at ih
    cases r with
    | nil => simp [List.intercalate] at ih ⊢; exact ih
    | cons q r => simp [List.intercalate] at ih ⊢; exact ih
theorem MS (a b c d : Nat) (ha : a < 256) (hb : b < 256) (hc : c < 256) (hd : d < 256) :
  cy (((a * 256 + b) * 256 + c) * 256 + d) 0 = a ∧ cy (((a * 256 + b) * 256 + c) * 256 + d) 1 = b ∧ cy (((a * 256 + b) * 256 + c) * 256 + d) 2 = c ∧ cy (((a * 256 + b) * 256 + c) * 256 + d) 3 = d := by
 unfold cy
 simp only [Nat.sub_zero, Nat.sub_self]
 omega
theorem Ag {l : List UInt8} {v : Nat} (h : nr l = some v) : l = qe v ∧ v < 4294967296 := by
 unfold nr at h
 have hj := BK 46 l
 generalize cutAt 46 l = ps at h hj
 match ps, h with
 | [p, q, r, t], h =>
  simp only [kX] at h
  obtain ⟨x, hx, h2⟩ := Option.bind_eq_some_iff.1 h
  obtain ⟨y, hy, h3⟩ := Option.bind_eq_some_iff.1 h2
  obtain ⟨z, hz, h4⟩ := Option.bind_eq_some_iff.1 h3
  obtain ⟨u, hu, h5⟩ := Option.bind_eq_some_iff.1 h4
  have hv := Option.some.inj h5
  clear h h2 h3 h4 h5
  obtain ⟨x1, rfl⟩ := ft hx
  obtain ⟨y1, rfl⟩ := ft hy
  obtain ⟨z1, rfl⟩ := ft hz
  obtain ⟨u1, rfl⟩ := ft hu
  have hb := MS x y z u x1 y1 z1 u1
  rw [hv] at hb
  refine ⟨?_, by omega⟩
  rw [← hj]
  unfold qe
  rw [hb.1, hb.2.1, hb.2.2.1, hb.2.2.2]
  simp [List.intercalate]
theorem Bi (v : Nat) (c : UInt8) (hc : c < 46 ∨ 57 < c ∨ c = 47) : c ∉ qe v := by
 have hn := fun i => CP (cy v i) (vl v i) c (by
  rcases hc with h | h | h
  ·exact .inl (by simp only [UInt8.lt_iff_toNat_lt] at h ⊢; have : (46 : UInt8).toNat = 46 := rfl; have : (48 : UInt8).toNat = 48 := rfl; omega)
  ·exact .inr h
  ·subst h; exact .inl (by decide))
 have UG : c ≠ 46 := by
  rintro rfl
  rcases hc with h | h | h
  ·exact absurd h (by decide)
  ·exact absurd h (by decide)
  ·exact absurd h (by decide)
 unfold qe
 simp only [List.mem_append, List.mem_cons, not_or]
 exact ⟨hn 0, UG, hn 1, UG, hn 2, UG, hn 3⟩
def oR (s : ByteArray) : Option (Nat × Nat) := if (bY 47 s).2.2 = true then (nr (bY 47 s).1.data.toList).bind fun v => (byteOf (bY 47 s).2.1.data.toList).bind fun n => if n ≤ 32 ∧ v % sz n = 0 then some (v, n) else none else none
theorem E9 {v n : Nat} (hn : n ≤ 32) (hd : v % sz n = 0) : nX v (n : Int) = true := by
 simp [nX, hd]
 omega
theorem ln {v n : Nat} (hn : n ≤ 32) (hd : v % sz n = 0) : (gD v (n : Int)).data.toList = qe v ++ 47 :: fg n := by
 unfold gD
 rw [if_pos (E9 hn hd), Int.toNat_natCast]
 simp [ri, uZ]
theorem NS : ((List.range 33).all fun n => decide (mM (fB n) (fB n).size = (n : Int)) && decide (1 ≤ (fB n).size) && decide ((fB n).size ≤ 2)) = true := by kernel_rfl
theorem fh {s t : ByteArray} (h : s.data.toList = t.data.toList) : s = t := ByteArray.ext (Array.ext' h)
theorem tG {s : ByteArray} {v n : Nat} (h : oR s = some (v, n)) : v < 4294967296 ∧ n ≤ 32 ∧ v % sz n = 0 ∧ s = gD v (n : Int) ∧ (bY 47 s).2.2 = true ∧ (bY 47 s).1 = ou v ∧ (bY 47 s).2.1 = fB n := by
 unfold oR at h
 by_cases hc : (bY 47 s).2.2 = true
 ·rw [if_pos hc] at h
  obtain ⟨v', hv, h⟩ := Option.bind_eq_some_iff.1 h
  obtain ⟨n', hn, h⟩ := Option.bind_eq_some_iff.1 h
  split at h
  ·rename_i hg
   have e := Option.some.inj h
   obtain ⟨rfl, rfl⟩ := Prod.mk.inj e
   obtain ⟨g1, g2⟩ := Ag hv
   obtain ⟨g3, g4⟩ := ft hn
   obtain ⟨g5, g6⟩ := xn 47 s hc
   refine ⟨g2, hg.1, hg.2, fh ?_, hc, fh ?_, zj g4⟩
   ·rw [ln hg.1 hg.2, g5, g1, g4]
   ·rw [g1, ri]
  ·cases h
 ·rw [if_neg hc] at h; cases h
theorem Dq {v n : Nat} (hv : v < 4294967296) (hn : n ≤ 32) (hd : v % sz n = 0) : oR (gD v (n : Int)) = some (v, n) := by
 obtain ⟨h1, h2, h3⟩ := wG 47 (gD v (n : Int)) (qe v) (fg n) (ln hn hd) (Bi v 47 (.inr (.inr rfl)))
 unfold oR
 rw [if_pos h3, h1, h2, Dw v hv, Option.bind_some, oy n (by omega), Option.bind_some, if_pos ⟨hn, hd⟩]
theorem OD (s : ByteArray) : mQ s = match oR s with | some (v, n) => ((v : Int), (n : Int), 0) | none => (0, 0, 3) := by
 cases h : oR s with
 | some q =>
  obtain ⟨v, n⟩ := q
  obtain ⟨h1, h2, h3, h4, h5, h6, h7⟩ := tG h
  have hall := List.all_eq_true.1 NS n (List.mem_range.2 (by omega))
  simp only [Bool.and_eq_true, decide_eq_true_eq] at hall
  unfold mQ
  rw [h5, h6, h7, Hc v h1, hall.1.1, Int.toNat_natCast, if_pos ⟨rfl, rfl, hall.1.2, hall.2, h4.symm⟩]
 | none =>
  unfold mQ
  rw [if_neg]
  rintro ⟨h1, h2, h3, h4, h5⟩
  have hp : ∃ v : Nat, nr (bY 47 s).1.data.toList = some v ∧ (iu (bY 47 s).1).1 = (v : Int) := by
   unfold iu at h2 ⊢
   cases hi : nr (bY 47 s).1.data.toList with
   | some v => exact ⟨v, rfl, rfl⟩
   | none => rw [hi] at h2; simp at h2
  obtain ⟨v, hv, e⟩ := hp
  rw [e, Int.toNat_natCast] at h5
  obtain ⟨g1, g2⟩ := Ag hv
  cases hm : nX v (mM (bY 47 s).2.1 (bY 47 s).2.1.size) with
  | false =>
   unfold gD at h5
   rw [hm] at h5
   obtain ⟨g5, _⟩ := xn 47 s h1
   rw [← h5] at g5
   simp at g5
  | true =>
   obtain ⟨m, lv, Fz, hm3⟩ := Ik hm
   rw [lv] at h5
   have := Dq g2 Fz hm3
   rw [h5, h] at this
   cases this
theorem JG : ((List.range 33).all fun n => decide (aA.f 12 (fB n) 32 = some ((n : Int), true))) = true := by kernel_rfl
theorem Nx (s : ByteArray) (hs : s.size < 4611686018427387904) (k : Nat) (hk : s.size + 12 ≤ k) : aA.f k s 32 = some (match byteOf s.data.toList with | some n => if n ≤ 32 then ((n : Int), true) else (0, false) | none => (0, false)) := by
 have hno : (∀ n, byteOf s.data.toList = some n → 32 < n) → aA.f k s 32 = some (0, false) := by
  intro hno
  obtain ⟨r, h1, h2, h3⟩ := Hz s hs 32 (by omega) s.size k 0 0 (by omega) (by omega) (by omega) (by omega) (by omega)
  unfold aA.f
  have e : r = (0, false) := by
   cases hr : r.2 with
   | false => rw [← h3 hr, ← hr]
   | true =>
    obtain ⟨n, hn, tU, e⟩ := h2 hr
    have := hno n (by rw [e, oy n hn])
    omega
  rw [← e]
  exact h1
 cases hb : byteOf s.data.toList with
 | some n =>
  obtain ⟨h1, h2⟩ := ft hb
  by_cases hn : n ≤ 32
  ·have e := zj h2
   subst e
   simp only [hn, if_true]
   refine up (fun k => aA.f k (fB n) 32) (aA.mono _ _) (show 12 ≤ k by omega) ?_
   have := List.all_eq_true.1 JG n (List.mem_range.2 (by omega))
   simpa using this
  ·simp only [hn, if_false]
   exact hno (fun m hm => by rw [hb] at hm; cases hm; omega)
 | none => exact hno (fun m hm => by rw [hb] at hm; cases hm)
end
section
def zl (v n : Nat) : List UInt8 := qe v ++ 45 :: fg n
def jm (v n : Nat) : ByteArray := ⟨(zl v n).toArray⟩
theorem nP (v n : Nat) : (jm v n).data.toList = zl v n := by simp [jm]
theorem N8 (v : Nat) : (45 : UInt8) ∉ qe v := Bi v 45 (.inl (by decide))
theorem OB (v n : Nat) : (bY 45 (jm v n)).1.data.toList = qe v ∧ (bY 45 (jm v n)).2.1.data.toList = fg n ∧ (bY 45 (jm v n)).2.2 = true :=
 wG 45 (jm v n) (qe v) (fg n) (nP v n) (N8 v)
def fZ (s : ByteArray) : Option (Nat × Nat) := (oR ((bY 45 s).1 ++ (⟨#[47]⟩ : ByteArray) ++ (bY 45 s).2.1)).bind fun q => if jm q.1 q.2 = s then some q else none
theorem oo {s : ByteArray} {v n : Nat} (h : fZ s = some (v, n)) : v < 4294967296 ∧ n ≤ 32 ∧ v % sz n = 0 ∧ s = jm v n := by
 unfold fZ at h
 obtain ⟨q, h1, h2⟩ := Option.bind_eq_some_iff.1 h
 split at h2
 ·rename_i he
  obtain rfl := Option.some.inj h2
  obtain ⟨g1, g2, g3, _⟩ := tG h1
  exact ⟨g1, g2, g3, he.symm⟩
 ·cases h2
theorem LO {v n : Nat} (hv : v < 4294967296) (hn : n ≤ 32) (hd : v % sz n = 0) : fZ (jm v n) = some (v, n) := by
 obtain ⟨h1, h2, h3⟩ := OB v n
 have e : (bY 45 (jm v n)).1 ++ (⟨#[47]⟩ : ByteArray) ++ (bY 45 (jm v n)).2.1 = gD v (n : Int) := by
  apply fh
  rw [ln hn hd]
  simp [h1, h2]
 unfold fZ
 rw [e, Dq hv hn hd, Option.bind_some, if_pos rfl]
theorem KY {v n : Nat} (hn : n ≤ 32) (hd : v % sz n = 0) : Lib.indexByte (gD v (n : Int)).data.toList 47 = ((qe v).length : Int) ∧
  (gD v (n : Int)).data.toList.take (qe v).length ++ 45 :: (gD v (n : Int)).data.toList.drop ((qe v).length + 1) = zl v n := by
 rw [ln hn hd]
 refine ⟨yj 47 (fg n) (qe v) (Bi v 47 (.inr (.inr rfl))), ?_⟩
 unfold zl
 rw [List.take_left]
 congr 2
 rw [List.drop_append]
 simp
end
section
def F6 (s : ByteArray) (i : Nat) : ByteArray := ⟨(s.data.toList.take i ++ 45 :: s.data.toList.drop (i + 1)).toArray⟩
set_option maxHeartbeats 4000000 in
set_option maxRecDepth 100000 in
theorem Ha (s : ByteArray) (i : Nat) (hs : s.size < 1000000) (hi : Lib.indexByte s.data.toList 47 = i) (w : World) :
  Calls Tryz.prog 125 #[.string s, .string ⟨#[47]⟩, .string ⟨#[45]⟩, .int .i64 1] w fun e w' => e = .returned (.string (F6 s i)) ∧ Below w.heap.size w w' := by
 obtain ⟨hsp, hno, hil⟩ := vz 47 s.data.toList i hi
 rw [cG] at hil
 obtain ⟨n, hn, kk⟩ : ∃ n : Nat, Lib.countByte s.data.toList 47 = n ∧ 1 ≤ n := by
  refine ⟨_, rfl, ?_⟩
  show 1 ≤ List.count 47 s.data.toList
  rw [hsp]
  simp
  omega
 have hcz : ((n : Int) == 0) = false := beq_eq_false_iff_ne.2 (by omega)
 have hcl : decide ((n : Int) < 1) = false := by simp; omega
 have c1 : (0 : Int) ≤ (i : Int) := by omega
 have c2 : (i : Int) ≤ (s.size : Int) := by omega
 have c3 : (0 : Int) ≤ (i : Int) + 1 := by omega
 have c4 : (i : Int) + 1 ≤ (s.size : Int) := by omega
 have HI := ak hi
 have HN := ak hn
 have HX := ak hsp
 have HL := ak hil
 clear hi hn hsp hno
 go_enter Tryz.func125, Tryz.ntmps125
 go_wp2_with (first | (go_at_call 134; refine (Tryz.strings_Count_one s 47 _).mono ?_; rintro e w' ⟨rfl, hw⟩; rw [hw, HN.out]))
 refine (Any.Builder_Grow_fresh { Tryz.lays154 with } Tryz.Builder_Extra_154 w.heap.size w.heap.size _ _ (Nat.le_refl _) (heap_alloc_new w _) (by simp) (by omega)).mono ?_
 rintro e w1 ⟨rfl, iI, aw⟩
 have H1 := ak (Or.inr iI : Lib.IsBuilder 205 5 w.heap.size w.heap.size (Lib.byteCells []) w1)
 have Hb1 := ak (((Below.refl w.heap.size w).alloc (Nat.le_refl _) _).trans aw)
 clear iI aw
 go_wp2_with fail
 go_loopg [11, 53] 1 (fun g s11 s53 wx => ∃ (i0 start : Nat) (acc : List UInt8), s53 = .int .i64 i0 ∧ s11 = .int .i64 start ∧ i0 + g = 1 ∧ start ≤ s.size ∧ acc.length + (s.size - start) ≤ 140737488355328 ∧ Aside0 (Lib.IsBuilder 205 5 w.heap.size w.heap.size (Lib.byteCells acc) wx) ∧ Aside0 (Below w.heap.size w wx) ∧ Aside0 ((i0 = 0 ∧ start = 0 ∧ acc = []) ∨ (i0 = 1 ∧ start = i + 1 ∧ acc = s.data.toList.take i ++ [45])))
 case atStart => exact ⟨0, 0, [], rfl, rfl, by omega, Nat.zero_le _, by simp; omega, H1, Hb1, ⟨.inl ⟨rfl, rfl, rfl⟩⟩⟩
 case round =>
  obtain ⟨i0, start, acc, rfl, rfl, hig, hst, hal, HB, HW, HR⟩ := hrel
  have hBw : w.heap.size ≤ wr.heap.size := HW.out.size
  have b1 : (0 : Int) ≤ (start : Int) := by omega
  have b2 : (start : Int) ≤ (s.size : Int) := by omega
  cases gk with
  | zero =>
   have hiK : ¬ ((i0 : Int) < 1) := by omega
   have HA := ak (show acc ++ s.data.toList.drop start = s.data.toList.take i ++ 45 :: s.data.toList.drop (i + 1) by
    rcases HR.out with ⟨h, _, _⟩ | ⟨_, h1, h2⟩
    ·omega
    ·rw [h1, h2]; simp)
   go_wp2_with fail
   refine (Any.Builder_WriteString { Tryz.lays154 with } Tryz.Builder_Extra_154 w.heap.size w.heap.size _ _ wr HB.out (by rw [Lib.byteCells_length, ByteArray.size_extract]; omega) hBw).mono ?_
   rintro e w3 ⟨rfl, h3, fy⟩
   rw [Lib.strCells_eq, Lib.extract_to_end, ← Lib.byteCells_append] at h3
   rw [HA.out] at h3
   have H3 := ak (Or.inr h3 : Lib.IsBuilder 205 5 w.heap.size w.heap.size _ w3)
   have Qr := ak (HW.out.trans fy)
   have Om : w.heap.size ≤ w3.heap.size := Qr.out.size
   clear h3 fy
   go_wp2_with fail
   refine (Any.Builder_String_any { Tryz.lays154 with } Tryz.Builder_Extra_154 w.heap.size w.heap.size _ w3 H3.out Om).mono ?_
   rintro e w5 ⟨rfl, FM⟩
   have Hb5 := ak (Qr.out.trans FM)
   clear FM
   go_wp2
   go_ret
   exact ⟨rfl, Hb5.out⟩
  | succ g =>
   have hiK : (i0 : Int) < 1 := by omega
   have HE := ak (show i0 = 0 ∧ start = 0 ∧ acc = [] by
    rcases HR.out with h | ⟨h, _, _⟩
    ·exact h
    ·omega)
   have HJ := ak (show Lib.indexByte (s.extract start s.size).data.toList 47 = i by rw [Lib.extract_to_end, HE.out.2.1, List.drop_zero]; exact HI.out)
   have b3 : (start : Int) ≤ (start : Int) + (i : Int) := by omega
   have b4 : (start : Int) + (i : Int) ≤ (s.size : Int) := by have := HE.out.2.1; omega
   have HZ := ak (show acc.length = 0 by rw [HE.out.2.2]; rfl)
   go_wp2_with (first | (go_at_call 136; refine (Tryz.strings_Index_one _ 47 _).mono ?_; rintro e w' ⟨rfl, hw⟩; rw [hw, HJ.out]))
   refine (Any.Builder_WriteString { Tryz.lays154 with } Tryz.Builder_Extra_154 w.heap.size w.heap.size _ (s.extract start (start + i)) wr HB.out (by rw [Lib.byteCells_length, ByteArray.size_extract]; have := HE.out.2.1; have := HZ.out; omega) hBw).mono ?_
   rintro e w3 ⟨rfl, h3, fy⟩
   have Om : w.heap.size ≤ w3.heap.size := Nat.le_trans hBw fy.size
   have H3 := ak h3
   have Qr := ak fy
   clear h3 fy
   go_wp2_with fail
   refine (Any.Builder_WriteString { Tryz.lays154 with } Tryz.Builder_Extra_154 w.heap.size w.heap.size _ ⟨#[45]⟩ w3 (Or.inr H3.out) (by rw [List.length_append, Lib.byteCells_length, Lib.strCells_length, ByteArray.size_extract, show (⟨#[45]⟩ : ByteArray).size = 1 from rfl]; have := HE.out.2.1; have := HZ.out; omega) Om).mono ?_
   rintro e w4 ⟨rfl, h4, km⟩
   rw [Lib.strCells_eq, Lib.strCells_eq, Lib.extract_data, Nat.add_sub_cancel_left, ← Lib.byteCells_append, ← Lib.byteCells_append] at h4
   rw [show acc ++ (s.data.toList.drop start).take i ++ (⟨#[45]⟩ : ByteArray).data.toList = s.data.toList.take i ++ [45] by rw [HE.out.2.1, HE.out.2.2]; simp] at h4
   have H4 := ak (Or.inr h4 : Lib.IsBuilder 205 5 w.heap.size w.heap.size _ w4)
   have Hb4 := ak ((HW.out.trans Qr.out).trans km)
   clear h4 km
   go_wp2
   go_roundg g
   case measure => omega
   case rel => exact ⟨i0 + 1, start + i + 1, _, by first | rfl | (simp; unfold wrap64; omega), by first | rfl | simp | (simp; unfold wrap64; omega), by omega, by have := HE.out.2.1; omega, by have := HE.out.2.1; simp; omega, H4, Hb4, ⟨.inr ⟨by have := HE.out.1; omega, by have := HE.out.2.1; omega, rfl⟩⟩⟩
def strings_Replace.f (a0 a1 a2 : ByteArray) (a3 : Int) : Option ByteArray := if a0.size < 1000000 ∧ a1 = ⟨#[47]⟩ ∧ a2 = ⟨#[45]⟩ ∧ a3 = 1 ∧ 0 ≤ Lib.indexByte a0.data.toList 47 then some (F6 a0 (Lib.indexByte a0.data.toList 47).toNat) else none
theorem strings_Replace.calls (a0 a1 a2 : ByteArray) (a3 : Int) (r : ByteArray) (w : World) (h : strings_Replace.f a0 a1 a2 a3 = some r) :
  Calls Tryz.prog 125 #[.string a0, .string a1, .string a2, .int .i64 a3] w fun e w' => e = .returned (.string r) ∧ Below w.heap.size w w' := by
 unfold strings_Replace.f at h
 split at h
 ·rename_i hg
  obtain ⟨g1, rfl, rfl, rfl, g5⟩ := hg
  obtain rfl := Option.some.inj h
  exact Ha a0 _ g1 (by omega) w
 ·cases h
def strings_Cut.f (a0 a1 : ByteArray) : Option (ByteArray × ByteArray × Bool) := if a0.size < 4294967281 then match a1.data.toList with | [c] => some (bY c a0) | _ => none else none
theorem strings_Cut.calls (a0 a1 r1 r2 : ByteArray) (r3 : Bool) (w : World) (h : strings_Cut.f a0 a1 = some (r1, r2, r3)) :
  Calls Tryz.prog 91 #[.string a0, .string a1] w fun e w' => e = .returned (.tuple #[.string r1, .string r2, .bool r3]) ∧ Below w.heap.size w w' := by
 unfold strings_Cut.f at h
 split at h
 ·rename_i hz
  split at h
  ·rename_i c hc
   have e := Option.some.inj h
   have ha : a1 = ⟨#[c]⟩ := fh (by rw [hc])
   subst ha
   refine (IM a0 c w hz).mono fun e' w' ⟨h1, ⟨m, h2⟩⟩ => ⟨?_, ?_⟩
   ·rw [h1, e]
   ·rw [h2]; exact bh (Below.refl _ _) _
  ·cases h
 ·cases h
end
section
theorem N7 {ps : List (List UInt8)} {v : Nat} (h : kX ps = some v) : v < 4294967296 := by
 have lt : ∀ p x, byteOf p = some x → x < 256 := fun p x h => (ft h).1
 match ps, h with
 | [a, b, c, d], h =>
  simp only [kX] at h
  obtain ⟨x, hx, h⟩ := Option.bind_eq_some_iff.1 h
  obtain ⟨y, hy, h⟩ := Option.bind_eq_some_iff.1 h
  obtain ⟨z, hz, h⟩ := Option.bind_eq_some_iff.1 h
  obtain ⟨u, hu, h⟩ := Option.bind_eq_some_iff.1 h
  have := lt _ _ hx; have := lt _ _ hy; have := lt _ _ hz; have := lt _ _ hu
  have := Option.some.inj h
  omega
theorem ET (s : ByteArray) : (∃ v : Nat, v < 4294967296 ∧ nr s.data.toList = some v ∧ iu s = ((v : Int), 0)) ∨ (nr s.data.toList = none ∧ iu s = (0, 3)) := by
 unfold iu
 cases h : nr s.data.toList with
 | some v => exact .inl ⟨v, N7 h, rfl, rfl⟩
 | none => exact .inr ⟨rfl, rfl⟩
theorem pE (c : UInt8) (s : ByteArray) : (bY c s).1.size ≤ s.size ∧ (bY c s).2.1.size ≤ s.size := by
 unfold bY
 split
 ·exact ⟨Nat.le_refl _, Nat.zero_le _⟩
 ·simp only [ByteArray.size_extract]
  omega
def lQ.T9 : Bool × List (List Nat × List Nat) := (true, [([], []), ([0], [0]), ([1], [1]), ([], []), ([], []), ([3, 4], [3, 4]), ([5], [5]), ([2, 6], [2, 6]), ([7], [7]), ([0, 1, 2, 3, 4, 5, 6, 7, 8], []), ([9, 8, 0, 1, 2, 3, 4, 5, 6, 7, 8], [8, 9])])
def lQ.B9 : List Nat := [0, 1, 3, 0, 0, 24, 56, 127, 255, 511, 1023]
theorem lQ.tab9 : dA .any (opsOf Tryz.f111 9) = lQ.T9 := by kernel_rfl
theorem lQ.bits9 : dy lQ.T9.2 lQ.B9 = true := by kernel_rfl
set_option maxHeartbeats 4000000 in
set_option maxRecDepth 100000 in
theorem Ke (s : ByteArray) (hs : s.size < 4294967281) (w : World) :
  Calls Tryz.prog 111 #[.string s] w fun e w' => e = .returned (.tuple #[.agg #[.int .u32 (mQ s).1, .int .i64 (mQ s).2.1], .int .i64 (mQ s).2.2]) ∧ Below w.heap.size w w' := by
 have hcut := fun w => IM s 47 w hs
 have hsz := pE 47 s
 have hR : mQ s = mQ s := rfl
 conv at hR => rhs; unfold mQ
 generalize bY 47 s = q at hcut hsz hR
 obtain ⟨a, b, ok⟩ := q
 have hpar := fun w => LG a (by simp at hsz; omega) w
 have hpc := ET a
 generalize iu a = pr at hpar hpc hR
 obtain ⟨ad, er⟩ := pr
 simp only at hcut hpar hR
 by_cases hgood : ok = true ∧ er = 0 ∧ 1 ≤ b.size ∧ b.size ≤ 2
 ·obtain ⟨rfl, rfl, aw, aU⟩ := hgood
  obtain ⟨v, hv, rfl⟩ : ∃ v : Nat, v < 4294967296 ∧ ad = v := by
   rcases hpc with ⟨v, hv, _, e⟩ | ⟨_, e⟩
   ·exact ⟨v, hv, by simpa using (Prod.mk.inj e).1⟩
   ·simp at e
  have HP := ak (Ih v hv (mM b b.size) 8 (by omega))
  have HV := ak hv
  have iI : (b.toList == ([] : List UInt8)) = false := by
   rw [Lib.toList_data]
   cases hd : b.data.toList with
   | nil => have := cG b; rw [hd] at this; simp at this; omega
   | cons x l => rfl
  have Z6 : decide ((b.size : Int) > 2) = false := by simp; omega
  go_enter Tryz.func111, Tryz.ntmps111
  go_wp2_with (first
   | (refine aE (some 2) rfl rfl 67 rfl [.int .u32 0, .int .i64 0] (fun _ => by kernel_rfl) ?_; intro g2 W2 dz dW oS)
   | (refine aE (some 9) rfl rfl 67 rfl [.int .u32 0, .int .i64 0] (fun _ => by kernel_rfl) ?_; intro g9 W5 cI qE J6)
   | (refine ay rfl 67 (.tmp 9) (.tmp 39) rfl g9 [.int .u32 (v : Int), .int .i64 0] rfl rfl _ _ qE 2 (by kernel_rfl) rfl rfl (by intro x hx; simp at hx; rcases hx with rfl | rfl <;> rfl) ?_; intro W6 nM jD)
   | (go_at_call 91; refine (hcut _).mono ?_; rintro e W3 ⟨rfl, ⟨nd, rfl⟩⟩)
   | (go_at_call 123; refine (hpar _).mono ?_; rintro e W4 ⟨rfl, km⟩))
  have Zy := dW.lt
  have hne : g2 ≠ g9 := by have := km.size; have : W2.heap.size ≤ W4.heap.size := km.size; omega
  have Wd := ak ((((dW.drewN nd).below km).below J6).grown jD (by intro h; cases h; exact hne rfl))
  have T7 : w.heap.size ≤ W4.heap.size := Nat.le_trans oS.size km.size
  have HBB := ak ((dj (dj (bh oS nd) km) J6).grown jD (Nat.le_trans T7 J6.size) (by intro k hk; cases hk; omega))
  have H9 := ak nM
  have G9 := ak (show w.heap.size ≤ g9 by omega)
  have G2 := ak dz
  have NE := ak hne
  have HR := ak hR
  have HZ := ak (And.intro aw aU)
  clear Zy hne T7 dW oS km J6 jD nM qE cI dz hR hcut hpar hpc aw aU
  go_loopw [42] (fun i W => ∃ j : Nat, j ≤ b.size ∧ i = .int .i64 j ∧ Aside0 (bC W g9 [.int .u32 (v : Int), .int .i64 (mM b j)] 67) ∧ Aside0 (bC W g2 [.int .u32 0, .int .i64 0] 67) ∧ Aside0 (Below w.heap.size w W)) (fun i _ => b.size - (intOf i).toNat)
  case atStart => exact ⟨0, by omega, rfl, H9, Wd, HBB⟩
  case round =>
   clear H9 Wd HBB
   obtain ⟨j, hj, rfl, H9, H2, HBB⟩ := hrel
   obtain ⟨W, rfl⟩ : ∃ W : World, W = wr := ⟨_, rfl⟩
   by_cases lO : j < b.size
   ·have hjb : decide ((j : Int) < (b.size : Int)) = true := by simp; omega
    have hx := fi b (j : Int)
    have hy := xu b (j : Int)
    have hn : -48 ≤ mM b j ∧ mM b j ≤ 207 := by
     have h2 := HZ.out.2
     have iM := xu b ((0 : Nat) : Int)
     match j, lO with
     | 0, _ => simp [mM]
     | 1, _ => simp only [mM]; omega
     | j + 2, h => omega
    have HS := ak (show mM b (j + 1) = 10 * mM b j + bt b (j : Int) - 48 from rfl)
    have HC := ak (And.intro (H9.out.cell 1 _ rfl) (H9.out.frozen 1))
    obtain ⟨x, hxe⟩ : ∃ x, mM b j = x := ⟨_, rfl⟩
    obtain ⟨y, hye⟩ : ∃ y, bt b (j : Int) = y := ⟨_, rfl⟩
    rw [hxe] at hn HC H9 HS
    rw [hye] at hx hy HS
    have HW := ak (show wrap64 (wrap64 (wrap64 (10 * x) + wrap64 ((b[j]'(lO)).toNat : Int)) - 48) = 10 * x + y - 48 by
     rw [show ((b[j]'(lO)).toNat : Int) = y from hx lO, bB y (by omega) (by omega), bB (10 * x) (by omega) (by omega), bB (10 * x + y) (by omega) (by omega), bB (10 * x + y - 48) (by omega) (by omega)])
    go_wp2
    refine dV (n := 11) (S := fun w' => w'.cell? ⟨g9, 1, none⟩ = some (.int .i64 x) ∧ w'.frozen? ⟨g9, 1, none⟩ = false) (ds := [10]) #[false, false, false, false, false, false, false, false, false, false, false] (by kernel_rfl) rfl rfl HC.out (fun hHeld => ?_); refine cz lQ.tab9 lQ.bits9 (fun aa bV => ?_)
    refine pu 0 aa.out ?_
    refine tk 1 aa.out bV.out hHeld ?_ (hv := by intro w' bx; obtain ⟨s0, s1⟩ := bx; go_simp; with_reducible rfl)
    refine pu 2 aa.out ?_
    refine pu 3 aa.out ?_
    refine pu 4 aa.out ?_
    refine pu 5 aa.out ?_
    refine pu 6 aa.out ?_
    refine pu 7 aa.out ?_
    refine pu 8 aa.out ?_
    refine pu 9 aa.out ?_
    refine y8 (i := 10) (N := none) #[true, true, true, true, true, true, true, true, true, true, true] rfl rfl (rA aa.out (by kernel_rfl)) (by decide) (fun K hK => ?_)
    obtain ⟨s0_, s1_⟩ := hHeld
    refine uG (w1 := ?_) (by rfl) rfl ?_ ?_
    rotate_left
    ·go_simp
     rfl
    refine hK.out _ _ ?_
    clear hK K
    refine dn aa.out ?_
    rw [HW.out]
    go_wp2
    refine ⟨⟨j + 1, by omega, by go_num, ⟨?_⟩, ⟨(H2.out.far (by simpa using NE.out) _)⟩, ⟨gM (HBB.out.setCell (by simpa using G9.out) _)⟩⟩, by simp [intOf]; omega⟩
    rw [HS.out]
    exact H9.out.set 1 _
   ·have hjb : decide ((j : Int) < (b.size : Int)) = false := by simp; omega
    obtain rfl : j = b.size := by omega
    have hlz := HZ.out
    by_cases hq : gD v (mM b b.size) = s
    ·have HE := ak (show mQ s = ((v : Int), mM b b.size, 0) by rw [HR.out]; simp [hq, hlz.1, hlz.2])
     have hqb : ((gD v (mM b b.size)).toList == s.toList) = true := by rw [hq]; simp
     go_wp2_with (first
      | (refine a7 rfl _ (.tmp 9) rfl g9 rfl _ _ _ H9.out Tryz.underlying67 rfl 2 (by kernel_rfl) rfl ?_)
      | (go_at_call 124; refine (ej.calls 8 _ _ _ _ HP.out).mono ?_; rintro e W7 ⟨rfl, ov⟩; have Y7 := ak (H9.out.below ov); have Wf := ak (H2.out.below ov); have mU := ak (dj HBB.out ov); clear ov)
      | (refine a7 rfl _ (.tmp 9) rfl g9 rfl _ _ _ Y7.out Tryz.underlying67 rfl 2 (by kernel_rfl) rfl ?_)
      | (refine ay rfl 67 (.tmp 2) (.tmp 61) rfl g2 _ rfl rfl _ _ Wf.out 2 (by kernel_rfl) rfl rfl (by intro x hx; simp at hx; rcases hx with rfl | rfl <;> rfl) ?_; intro W8 jN dG))
     exact bodyPost_ret (bT rfl _ _ g2 67 _ (0, 0) _ rfl jN Tryz.underlying67 rfl (by kernel_rfl)) rfl ⟨by rw [HE.out]; rfl, mU.out.grown dG mU.out.size (by intro k hk; cases hk; exact G2.out)⟩
    ·have HE := ak (show mQ s = (0, 0, 3) by rw [HR.out]; simp [hq])
     have hqb : ((gD v (mM b b.size)).toList == s.toList) = false := by
      simp only [beq_eq_false_iff_ne, ne_eq]
      intro h
      exact hq (fh (uP h))
     go_wp2_with (first
      | (refine a7 rfl _ (.tmp 9) rfl g9 rfl _ _ _ H9.out Tryz.underlying67 rfl 2 (by kernel_rfl) rfl ?_)
      | (go_at_call 124; refine (ej.calls 8 _ _ _ _ HP.out).mono ?_; rintro e W7 ⟨rfl, ov⟩; have Y7 := ak (H9.out.below ov); have Wf := ak (H2.out.below ov); have mU := ak (dj HBB.out ov); clear ov)
      | (refine ay rfl 67 (.tmp 2) (.tmp 60) rfl g2 [.int .u32 0, .int .i64 0] rfl rfl _ _ Wf.out 2 (by kernel_rfl) rfl rfl (by intro x hx; simp at hx; rcases hx with rfl | rfl <;> rfl) ?_; intro W8 jN dG))
     exact bodyPost_ret (bT rfl _ _ g2 67 _ (0, 0) _ rfl jN Tryz.underlying67 rfl (by kernel_rfl)) rfl ⟨by rw [HE.out]; rfl, mU.out.grown dG mU.out.size (by intro k hk; cases hk; exact G2.out)⟩
 ·have HE := ak (show mQ s = (0, 0, 3) by rw [hR, if_neg (by rintro ⟨h1, h2, h3, h4, _⟩; exact hgood ⟨h1, h2, h3, h4⟩)])
  clear hR
  cases ok with
  | false =>
   go_enter Tryz.func111, Tryz.ntmps111
   go_wp2_with (first
    | (refine aE (some 2) rfl rfl 67 rfl [.int .u32 0, .int .i64 0] (fun _ => by kernel_rfl) ?_; intro g2 W2 dz dW oS)
    | (go_at_call 91; refine (hcut _).mono ?_; rintro e W3 ⟨rfl, ⟨nd, rfl⟩⟩)
    | (go_at_call 123; refine (hpar _).mono ?_; rintro e W4 ⟨rfl, km⟩)
    | (refine ay rfl 67 (.tmp 2) (.tmp 37) rfl g2 [.int .u32 0, .int .i64 0] rfl rfl _ _ ((dW.drewN nd).below km) 2 (by kernel_rfl) rfl rfl (by intro x hx; simp at hx; rcases hx with rfl | rfl <;> rfl) ?_; intro W8 jN dG))
   exact bodyPost_ret (bT rfl _ _ g2 67 _ (0, 0) _ rfl jN Tryz.underlying67 rfl (by kernel_rfl)) rfl ⟨by rw [HE.out]; rfl, (dj (bh oS nd) km).grown dG (Nat.le_trans oS.size km.size) (by intro k hk; cases hk; exact dz)⟩
  | true =>
   rcases hpc with ⟨v, hv, _, e⟩ | ⟨_, e⟩
   ·obtain ⟨rfl, rfl⟩ := Prod.mk.inj e
    by_cases h0 : b.size = 0
    ·have iI : (b.toList == ([] : List UInt8)) = true := by
      rw [Lib.toList_data]
      cases hd : b.data.toList with
      | nil => rfl
      | cons x l => have := cG b; rw [hd] at this; simp at this; omega
     go_enter Tryz.func111, Tryz.ntmps111
     go_wp2_with (first
      | (refine aE (some 2) rfl rfl 67 rfl [.int .u32 0, .int .i64 0] (fun _ => by kernel_rfl) ?_; intro g2 W2 dz dW oS)
      | (go_at_call 91; refine (hcut _).mono ?_; rintro e W3 ⟨rfl, ⟨nd, rfl⟩⟩)
      | (go_at_call 123; refine (hpar _).mono ?_; rintro e W4 ⟨rfl, km⟩)
      | (refine ay rfl 67 (.tmp 2) (.tmp 37) rfl g2 [.int .u32 0, .int .i64 0] rfl rfl _ _ ((dW.drewN nd).below km) 2 (by kernel_rfl) rfl rfl (by intro x hx; simp at hx; rcases hx with rfl | rfl <;> rfl) ?_; intro W8 jN dG))
     exact bodyPost_ret (bT rfl _ _ g2 67 _ (0, 0) _ rfl jN Tryz.underlying67 rfl (by kernel_rfl)) rfl ⟨by rw [HE.out]; rfl, (dj (bh oS nd) km).grown dG (Nat.le_trans oS.size km.size) (by intro k hk; cases hk; exact dz)⟩
    ·have iI : (b.toList == ([] : List UInt8)) = false := by
      rw [Lib.toList_data]
      cases hd : b.data.toList with
      | nil => have := cG b; rw [hd] at this; simp at this; omega
      | cons x l => rfl
     have Z6 : decide ((b.size : Int) > 2) = true := by
      simp
      by_cases h3 : b.size ≤ 2
      ·exact absurd ⟨rfl, rfl, by omega, h3⟩ hgood
      ·omega
     go_enter Tryz.func111, Tryz.ntmps111
     go_wp2_with (first
      | (refine aE (some 2) rfl rfl 67 rfl [.int .u32 0, .int .i64 0] (fun _ => by kernel_rfl) ?_; intro g2 W2 dz dW oS)
      | (go_at_call 91; refine (hcut _).mono ?_; rintro e W3 ⟨rfl, ⟨nd, rfl⟩⟩)
      | (go_at_call 123; refine (hpar _).mono ?_; rintro e W4 ⟨rfl, km⟩)
      | (refine ay rfl 67 (.tmp 2) (.tmp 37) rfl g2 [.int .u32 0, .int .i64 0] rfl rfl _ _ ((dW.drewN nd).below km) 2 (by kernel_rfl) rfl rfl (by intro x hx; simp at hx; rcases hx with rfl | rfl <;> rfl) ?_; intro W8 jN dG))
     exact bodyPost_ret (bT rfl _ _ g2 67 _ (0, 0) _ rfl jN Tryz.underlying67 rfl (by kernel_rfl)) rfl ⟨by rw [HE.out]; rfl, (dj (bh oS nd) km).grown dG (Nat.le_trans oS.size km.size) (by intro k hk; cases hk; exact dz)⟩
   ·obtain ⟨rfl, rfl⟩ := Prod.mk.inj e
    go_enter Tryz.func111, Tryz.ntmps111
    go_wp2_with (first
     | (refine aE (some 2) rfl rfl 67 rfl [.int .u32 0, .int .i64 0] (fun _ => by kernel_rfl) ?_; intro g2 W2 dz dW oS)
     | (go_at_call 91; refine (hcut _).mono ?_; rintro e W3 ⟨rfl, ⟨nd, rfl⟩⟩)
     | (go_at_call 123; refine (hpar _).mono ?_; rintro e W4 ⟨rfl, km⟩)
     | (refine ay rfl 67 (.tmp 2) (.tmp 37) rfl g2 [.int .u32 0, .int .i64 0] rfl rfl _ _ ((dW.drewN nd).below km) 2 (by kernel_rfl) rfl rfl (by intro x hx; simp at hx; rcases hx with rfl | rfl <;> rfl) ?_; intro W8 jN dG))
    exact bodyPost_ret (bT rfl _ _ g2 67 _ (0, 0) _ rfl jN Tryz.underlying67 rfl (by kernel_rfl)) rfl ⟨by rw [HE.out]; rfl, (dj (bh oS nd) km).grown dG (Nat.le_trans oS.size km.size) (by intro k hk; cases hk; exact dz)⟩
end
section
def ix.f (a0 : ByteArray) : Option (Int × Int × Int) := if a0.size < 4294967281 then some (mQ a0) else none
theorem ix.calls (a0 : ByteArray) (r1 r2 r3 : Int) (w : World) (h : ix.f a0 = some (r1, r2, r3)) :
  Calls Tryz.prog 111 #[.string a0] w fun e w' => e = .returned (.tuple #[.agg #[.int .u32 r1, .int .i64 r2], .int .i64 r3]) ∧ Below w.heap.size w w' := by
 unfold ix.f at h
 split at h
 ·rename_i hr
  have e := Option.some.inj h
  refine (Ke a0 hr w).mono fun e' w' ⟨h1, h2⟩ => ⟨?_, h2⟩
  rw [h1, e]
 ·cases h
end
section
attribute [local go_sem] bq bn bI bH aW aV bp bj
def oO.f (aI : Int) (ax : Int) : Option (Int) := (dm.f aI ax).bind fun vP => (if vP = true then (if 0 ≤ (wrap64 (32 - ax)) then (some (shl .i64 1 (wrap64 (32 - ax)))) else (none)) else (some 0))
set_option maxHeartbeats 8000000 in
set_option maxRecDepth 100000 in
theorem oO.calls (aI : Int) (ax : Int) (r : Int) (w : World) (h : oO.f aI ax = some r) :
  Calls Tryz.prog 51 #[.agg #[.int .u32 aI, .int .i64 ax]] w fun e w' => e = .returned (.int .i64 r) ∧ Below w.heap.size w w' := by
 have Aj := Tryz.underlying67
 have HB := ak (Below.refl w.heap.size w)
 have H : ((dm.f aI ax).bind fun vP => (if vP = true then (if 0 ≤ (wrap64 (32 - ax)) then (some (shl .i64 1 (wrap64 (32 - ax)))) else (none)) else (some 0))) = some r := h
 clear h
 replace H := Option.bind_eq_some_iff.mp H
 obtain ⟨vP, eS, H⟩ := H
 replace H : (if vP = true then (if 0 ≤ (wrap64 (32 - ax)) then (some (shl .i64 1 (wrap64 (32 - ax)))) else (none)) else (some 0)) = some r := H
 have A2 := ak eS
 clear eS
 by_cases c3 : vP = true
 ·subst c3
  replace H : (if 0 ≤ (wrap64 (32 - ax)) then (some (shl .i64 1 (wrap64 (32 - ax)))) else (none)) = some r := by rw [if_pos rfl] at H; exact H
  obtain ⟨uR, FA⟩ : ∃ j_ : Int, (wrap64 (32 - ax)) = j_ := ⟨_, rfl⟩
  replace H : (if 0 ≤ (uR) then (some (shl .i64 1 (uR))) else (none)) = some r := by first | (rw [FA] at H; exact H) | (simp only [FA] at H ⊢; exact H)
  (try rw [FA] at A2)
  have aL2 : (IntKind.i64.wrap (32 - ax)) = uR := (gO _).trans FA
  by_cases c5 : 0 ≤ (uR)
  ·rw [if_pos c5] at H
   have nF := eq_true c5
   have xt := decide_eq_true c5
   clear c5
   obtain ⟨yi, qR⟩ : ∃ j_ : Int, (shl .i64 1 (uR)) = j_ := ⟨_, rfl⟩
   replace H : (some yi) = some r := by first | (rw [qR] at H; exact H) | (simp only [qR] at H ⊢; exact H)
   (try rw [qR] at A2)
   have J4 : (IntKind.i64.wrap (1 * 2 ^ min (uR).toNat 64)) = yi := qR
   have J3 : (uR) ≤ 64 → (IntKind.i64.wrap (1 * 2 ^ (uR).toNat)) = yi := Dd qR
   have aL1 : (IntKind.i64.wrap (2 ^ min (uR).toNat 64)) = yi := by have h_ := J4; rw [Int.one_mul] at h_; exact h_
   have aL0 : (uR) ≤ 64 → (IntKind.i64.wrap (2 ^ (uR).toNat)) = yi := fun Oe => by have h_ := J3 Oe; rw [Int.one_mul] at h_; exact h_
   have aK8 : (wrap64 (1 * 2 ^ min (uR).toNat 64)) = yi := (gO _).symm.trans J4
   have aK9 : (uR) ≤ 64 → (wrap64 (1 * 2 ^ (uR).toNat)) = yi := fun h_ => (gO _).symm.trans (J3 h_)
   obtain rfl := Option.some.inj H
   go_enter Tryz.func51, Tryz.ntmps51
   go_wp2_with (first | ((with_reducible refine af (N := 1) rfl ?_); refine bE (N := 1) (cs := #[.int .u32 aI, .int .i64 ax]) (t := 67) ?_; intro wz hg w7 hbox hb; have ib := ak (hbox); have SS := ak (gl hg : w.heap.size ≤ wz); have SX := ak (gl hg : w.heap.size ≤ wz); replace HB := bs hb; clear hb hbox hg; have qq := cf ib 0; have qp := cf ib 1; have qo := J ib.out 0; have qn := J ib.out 1) | ((with_reducible refine au (f := 75) rfl ?_); refine gC (some 4) Tryz.func75 #[.agg #[.int .u32 aI, .int .i64 ax]] ?_; (with_reducible refine (dm.calls aI ax true _ A2.out).mono ?_); rintro e w9 ⟨rfl, hb⟩; refine ⟨_, rfl, ?_⟩; replace ib := bm ib hb; replace HB := bs hb; (try clear hb); (try clear aU); (try clear hk); (try clear hi); have tc := cf ib 0; have tb := cf ib 1; have ta := J ib.out 0; have s9 := J ib.out 1))
   go_ret
   exact ⟨by first | rfl | (simp [db, da] <;> rfl) | (simp only [← FA, ← qR]; first | rfl | (simp [db, da] <;> rfl)) | (simp [*, db, da] <;> rfl), bl⟩
  ·rw [if_neg c5] at H
   exact absurd H (by simp)
 ·replace c3 := Bool.eq_false_iff.mpr c3
  subst c3
  replace H : (some 0) = some r := by rw [if_neg (show ¬ (false = true) by decide)] at H; exact H
  obtain rfl := Option.some.inj H
  go_enter Tryz.func51, Tryz.ntmps51
  go_wp2_with (first | ((with_reducible refine af (N := 1) rfl ?_); refine bE (N := 1) (cs := #[.int .u32 aI, .int .i64 ax]) (t := 67) ?_; intro wz hg Db hbox hb; have ib := ak (hbox); have SS := ak (gl hg : w.heap.size ≤ wz); have SX := ak (gl hg : w.heap.size ≤ wz); replace HB := bs hb; clear hb hbox hg; have CG := cf ib 0; have CF := cf ib 1; have Cv := J ib.out 0; have Cu := J ib.out 1) | ((with_reducible refine au (f := 75) rfl ?_); refine gC (some 4) Tryz.func75 #[.agg #[.int .u32 aI, .int .i64 ax]] ?_; (with_reducible refine (dm.calls aI ax false _ A2.out).mono ?_); rintro e tj ⟨rfl, hb⟩; refine ⟨_, rfl, ?_⟩; replace ib := bm ib hb; replace HB := bs hb; (try clear hb); (try clear aU); (try clear hk); (try clear hi)))
  go_ret
  exact ⟨rg, bl⟩
end
section
attribute [local go_sem] bq bn bI bH aW aV bp bj
def stringslite_HasPrefix.f (a0 : ByteArray) (a1 : ByteArray) : Option (Bool) := if (a0.size : Int) ≥ (a1.size : Int) then (if 0 ≤ (a1.size : Int) then (if (a1.size : Int) ≤ (a0.size : Int) then (some ((a0.extract 0 ((a1.size : Int) : Int).toNat).toList == a1.toList)) else (none)) else (none)) else (some false)
set_option maxHeartbeats 8000000 in
set_option maxRecDepth 100000 in
theorem stringslite_HasPrefix.calls (a0 : ByteArray) (a1 : ByteArray) (r : Bool) (w : World) (h : stringslite_HasPrefix.f a0 a1 = some r) :
  Calls Tryz.prog 122 #[.string a0, .string a1] w fun e w' => e = .returned (.bool r) ∧ Drawn0 w w' := by
 have H : (if (a0.size : Int) ≥ (a1.size : Int) then (if 0 ≤ (a1.size : Int) then (if (a1.size : Int) ≤ (a0.size : Int) then (some ((a0.extract 0 ((a1.size : Int) : Int).toNat).toList == a1.toList)) else (none)) else (none)) else (some false)) = some r := h
 clear h
 by_cases c3 : (a0.size : Int) ≥ (a1.size : Int)
 ·rw [if_pos c3] at H
  have gq := decide_eq_true c3
  have yE : decide (a1.size ≤ a0.size) = true := decide_eq_true (Int.ofNat_le.mp c3)
  clear c3
  by_cases c4 : 0 ≤ (a1.size : Int)
  ·rw [if_pos c4] at H
   have eQ := eq_true c4
   have Aw := decide_eq_true c4
   clear c4
   by_cases c5 : (a1.size : Int) ≤ (a0.size : Int)
   ·rw [if_pos c5] at H
    have nF := eq_true c5
    have xt := decide_eq_true c5
    clear c5
    obtain rfl := Option.some.inj H
    go_enter Tryz.func122, Tryz.ntmps122
    go_wp2
    go_ret
    exact ⟨rf, dl⟩
   ·rw [if_neg c5] at H
    exact absurd H (by simp)
  ·rw [if_neg c4] at H
   exact absurd H (by simp)
 ·rw [if_neg c3] at H
  have gq := decide_eq_false c3
  have yE : decide (a1.size ≤ a0.size) = false := decide_eq_false (fun h => c3 (Int.ofNat_le.mpr h))
  clear c3
  obtain rfl := Option.some.inj H
  go_enter Tryz.func122, Tryz.ntmps122
  go_wp2
  go_ret
  exact ⟨rf, dl⟩
end
section
attribute [local go_sem] bq bn bI bH aW aV bp bj
def stringslite_CutPrefix.f (a0 : ByteArray) (a1 : ByteArray) : Option (ByteArray × Bool) := (stringslite_HasPrefix.f a0 a1).bind fun sW => (if sW = true then (if 0 ≤ (a1.size : Int) then (if (a1.size : Int) ≤ (a0.size : Int) then (some (a0.extract ((a1.size : Int) : Int).toNat a0.size, true)) else (none)) else (none)) else (some (a0, false)))
set_option maxHeartbeats 8000000 in
set_option maxRecDepth 100000 in
theorem stringslite_CutPrefix.calls (a0 : ByteArray) (a1 : ByteArray) (r1 : ByteArray) (r2 : Bool) (w : World) (h : stringslite_CutPrefix.f a0 a1 = some (r1, r2)) :
  Calls Tryz.prog 110 #[.string a0, .string a1] w fun e w' => e = .returned (.tuple #[.string r1, .bool r2]) ∧ Drawn0 w w' := by
 have H : ((stringslite_HasPrefix.f a0 a1).bind fun sW => (if sW = true then (if 0 ≤ (a1.size : Int) then (if (a1.size : Int) ≤ (a0.size : Int) then (some (a0.extract ((a1.size : Int) : Int).toNat a0.size, true)) else (none)) else (none)) else (some (a0, false)))) = some (r1, r2) := h
 clear h
 replace H := Option.bind_eq_some_iff.mp H
 obtain ⟨sW, jO, H⟩ := H
 replace H : (if sW = true then (if 0 ≤ (a1.size : Int) then (if (a1.size : Int) ≤ (a0.size : Int) then (some (a0.extract ((a1.size : Int) : Int).toNat a0.size, true)) else (none)) else (none)) else (some (a0, false))) = some (r1, r2) := H
 have A3 := ak jO
 clear jO
 by_cases c4 : sW = true
 ·subst c4
  replace H : (if 0 ≤ (a1.size : Int) then (if (a1.size : Int) ≤ (a0.size : Int) then (some (a0.extract ((a1.size : Int) : Int).toNat a0.size, true)) else (none)) else (none)) = some (r1, r2) := by rw [if_pos rfl] at H; exact H
  by_cases c5 : 0 ≤ (a1.size : Int)
  ·rw [if_pos c5] at H
   have nF := eq_true c5
   have xt := decide_eq_true c5
   clear c5
   by_cases c6 : (a1.size : Int) ≤ (a0.size : Int)
   ·rw [if_pos c6] at H
    have jd := eq_true c6
    have xr := decide_eq_true c6
    clear c6
    simp only [Option.some.injEq, Prod.mk.injEq] at H
    obtain ⟨rfl, rfl⟩ := H
    go_enter Tryz.func110, Tryz.ntmps110
    go_wp2_with (first | ((with_reducible refine au (f := 122) rfl ?_); refine gC (some 8) Tryz.func122 #[.string a0, .string a1] ?_; (with_reducible refine (stringslite_HasPrefix.calls a0 a1 true _ A3.out).mono ?_); rintro e w' ⟨rfl, ⟨nd, rfl⟩⟩; refine ⟨_, rfl, ?_⟩))
    go_ret2
    exact ⟨rf, dl⟩
   ·rw [if_neg c6] at H
    exact absurd H (by simp)
  ·rw [if_neg c5] at H
   exact absurd H (by simp)
 ·replace c4 := Bool.eq_false_iff.mpr c4
  subst c4
  replace H : (some (a0, false)) = some (r1, r2) := by rw [if_neg (show ¬ (false = true) by decide)] at H; exact H
  simp only [Option.some.injEq, Prod.mk.injEq] at H
  obtain ⟨rfl, rfl⟩ := H
  go_enter Tryz.func110, Tryz.ntmps110
  go_wp2_with (first | ((with_reducible refine au (f := 122) rfl ?_); refine gC (some 8) Tryz.func122 #[.string a0, .string a1] ?_; (with_reducible refine (stringslite_HasPrefix.calls a0 a1 false _ A3.out).mono ?_); rintro e w' ⟨rfl, ⟨nd, rfl⟩⟩; refine ⟨_, rfl, ?_⟩))
  go_ret2
  exact ⟨rf, dl⟩
end
section
attribute [local go_sem] bq bn bI bH aW aV bp bj
def strings_CutPrefix.f (a0 : ByteArray) (a1 : ByteArray) : Option (ByteArray × Bool) := (stringslite_CutPrefix.f a0 a1).bind fun wI => (some (wI.1, wI.2))
set_option maxHeartbeats 8000000 in
set_option maxRecDepth 100000 in
theorem strings_CutPrefix.calls (a0 : ByteArray) (a1 : ByteArray) (r1 : ByteArray) (r2 : Bool) (w : World) (h : strings_CutPrefix.f a0 a1 = some (r1, r2)) :
  Calls Tryz.prog 81 #[.string a0, .string a1] w fun e w' => e = .returned (.tuple #[.string r1, .bool r2]) ∧ Drawn0 w w' := by
 have H : ((stringslite_CutPrefix.f a0 a1).bind fun wI => (some (wI.1, wI.2))) = some (r1, r2) := h
 clear h
 replace H := Option.bind_eq_some_iff.mp H
 obtain ⟨⟨K6, K5⟩, jO, H⟩ := H
 replace H : (some (K6, K5)) = some (r1, r2) := H
 have A3 := ak jO
 clear jO
 simp only [Option.some.injEq, Prod.mk.injEq] at H
 obtain ⟨rfl, rfl⟩ := H
 go_enter Tryz.func81, Tryz.ntmps81
 go_wp2_with (first | ((with_reducible refine au (f := 110) rfl ?_); refine gC (some 8) Tryz.func110 #[.string a0, .string a1] ?_; (with_reducible refine (stringslite_CutPrefix.calls a0 a1 K6 K5 _ A3.out).mono ?_); rintro e w' ⟨rfl, ⟨nd, rfl⟩⟩; refine ⟨_, rfl, ?_⟩))
 go_ret2
 exact ⟨rf, dl⟩
end
section
attribute [local go_sem] bq bn bI bH aW aV bp bj
def jL.f (k : Nat) (aI : Int) (ax : Int) : Option (ByteArray) := (ej.f k aI ax).bind fun oZ => ((strings_Replace.f oZ (⟨#[47]⟩ : ByteArray) (⟨#[45]⟩ : ByteArray) 1).bind fun oY => (some oY))
set_option maxHeartbeats 8000000 in
set_option maxRecDepth 100000 in
theorem jL.calls (k : Nat) (aI : Int) (ax : Int) (r : ByteArray) (w : World) (h : jL.f k aI ax = some r) :
  Calls Tryz.prog 112 #[.agg #[.int .u32 aI, .int .i64 ax]] w fun e w' => e = .returned (.string r) ∧ Below w.heap.size w w' := by
 have Aj := Tryz.underlying67
 have HB := ak (Below.refl w.heap.size w)
 have H : ((ej.f k aI ax).bind fun oZ => ((strings_Replace.f oZ (⟨#[47]⟩ : ByteArray) (⟨#[45]⟩ : ByteArray) 1).bind fun oY => (some oY))) = some r := h
 clear h
 replace H := Option.bind_eq_some_iff.mp H
 obtain ⟨oZ, eS, H⟩ := H
 replace H : ((strings_Replace.f oZ (⟨#[47]⟩ : ByteArray) (⟨#[45]⟩ : ByteArray) 1).bind fun oY => (some oY)) = some r := H
 have A2 := ak eS
 clear eS
 replace H := Option.bind_eq_some_iff.mp H
 obtain ⟨oY, jO, H⟩ := H
 replace H : (some oY) = some r := H
 have A3 := ak jO
 clear jO
 obtain rfl := Option.some.inj H
 go_enter Tryz.func112, Tryz.ntmps112
 go_wp2_with (first | ((with_reducible refine af (N := 1) rfl ?_); refine bE (N := 1) (cs := #[.int .u32 aI, .int .i64 ax]) (t := 67) ?_; intro FT hg w4 hbox hb; have nN := ak (hbox); have ac1 := ak (gl hg : w.heap.size ≤ FT); have ac2 := ak (gl hg : w.heap.size ≤ FT); replace HB := bs hb; clear hb hbox hg; have Uv := cf nN 0; have Uu := cf nN 1; have Uo := J nN.out 0; have Un := J nN.out 1) | ((with_reducible refine au (f := 124) rfl ?_); refine gC (some 4) Tryz.func124 #[.agg #[.int .u32 aI, .int .i64 ax]] ?_; (with_reducible refine (ej.calls k aI ax oZ _ A2.out).mono ?_); rintro e w6 ⟨rfl, hb⟩; refine ⟨_, rfl, ?_⟩; replace nN := bm nN hb; replace HB := bs hb; (try clear hb); (try clear aU); (try clear hk); (try clear hi)) | ((with_reducible refine au (f := 125) rfl ?_); refine gC (some 5) Tryz.func125 #[.string oZ, .string (⟨#[47]⟩ : ByteArray), .string (⟨#[45]⟩ : ByteArray), .int .i64 1] ?_; (with_reducible refine (strings_Replace.calls oZ (⟨#[47]⟩ : ByteArray) (⟨#[45]⟩ : ByteArray) 1 oY _ A3.out).mono ?_); rintro e w7 ⟨rfl, hb⟩; refine ⟨_, rfl, ?_⟩; replace nN := bm nN hb; replace HB := bs hb; (try clear hb); (try clear aU); (try clear hk); (try clear hi)))
 go_ret
 exact ⟨rg, bl⟩
end
section
attribute [local go_sem] bq bn bI bH aW aV bp bj
def ey.f (k : Nat) (a0 : ByteArray) : Option (Int × Int × Bool) := (strings_Cut.f a0 (⟨#[45]⟩ : ByteArray)).bind fun lC => (if lC.1.size + 1 ≤ 9223372036854775807 then (if (lC.1 ++ (⟨#[47]⟩ : ByteArray)).size + lC.2.1.size ≤ 9223372036854775807 then ((ix.f ((lC.1 ++ (⟨#[47]⟩ : ByteArray)) ++ lC.2.1)).bind fun hH => (if hH.2.2 = 0 then ((jL.f k hH.1 hH.2.1).bind fun jy => (if jy.toList = a0.toList then (some (hH.1, hH.2.1, true)) else (some (0, 0, false)))) else (some (0, 0, false)))) else (none)) else (none))
set_option maxHeartbeats 8000000 in
set_option maxRecDepth 100000 in
theorem ey.calls (k : Nat) (a0 : ByteArray) (r1 : Int) (r2 : Int) (r3 : Bool) (w : World) (h : ey.f k a0 = some (r1, r2, r3)) :
  Calls Tryz.prog 82 #[.string a0] w fun e w' => e = .returned (.tuple #[.agg #[.int .u32 r1, .int .i64 r2], .bool r3]) ∧ Below w.heap.size w w' := by
 have Aj := Tryz.underlying67
 have HB := ak (Below.refl w.heap.size w)
 have H : ((strings_Cut.f a0 (⟨#[45]⟩ : ByteArray)).bind fun lC => (if lC.1.size + 1 ≤ 9223372036854775807 then (if (lC.1 ++ (⟨#[47]⟩ : ByteArray)).size + lC.2.1.size ≤ 9223372036854775807 then ((ix.f ((lC.1 ++ (⟨#[47]⟩ : ByteArray)) ++ lC.2.1)).bind fun hH => (if hH.2.2 = 0 then ((jL.f k hH.1 hH.2.1).bind fun jy => (if jy.toList = a0.toList then (some (hH.1, hH.2.1, true)) else (some (0, 0, false)))) else (some (0, 0, false)))) else (none)) else (none))) = some (r1, r2, r3) := h
 clear h
 replace H := Option.bind_eq_some_iff.mp H
 obtain ⟨⟨j3, k7, Ez⟩, eS, H⟩ := H
 replace H : (if j3.size + 1 ≤ 9223372036854775807 then (if (j3 ++ (⟨#[47]⟩ : ByteArray)).size + k7.size ≤ 9223372036854775807 then ((ix.f ((j3 ++ (⟨#[47]⟩ : ByteArray)) ++ k7)).bind fun hH => (if hH.2.2 = 0 then ((jL.f k hH.1 hH.2.1).bind fun jy => (if jy.toList = a0.toList then (some (hH.1, hH.2.1, true)) else (some (0, 0, false)))) else (some (0, 0, false)))) else (none)) else (none)) = some (r1, r2, r3) := H
 have A2 := ak eS
 clear eS
 by_cases c3 : j3.size + 1 ≤ 9223372036854775807
 ·rw [if_pos c3] at H
  have gq := eq_true c3
  have yE := decide_eq_true c3
  try have Kg := eq_false (Nat.not_lt.2 c3)
  by_cases c4 : (j3 ++ (⟨#[47]⟩ : ByteArray)).size + k7.size ≤ 9223372036854775807
  ·rw [if_pos c4] at H
   have eQ := eq_true c4
   have Aw := decide_eq_true c4
   try have aU1 := eq_false (Nat.not_lt.2 c4)
   try have aa5 : ¬ 9223372036854775807 < j3.size + 1 + k7.size := by have h_ := c4; simp only [ByteArray.size_append] at h_; exact Nat.not_lt.2 h_
   try have aU0 := eq_false aa5
   replace H := Option.bind_eq_some_iff.mp H
   obtain ⟨⟨kE, mX, pY⟩, yQ, H⟩ := H
   replace H : (if pY = 0 then ((jL.f k kE mX).bind fun jy => (if jy.toList = a0.toList then (some (kE, mX, true)) else (some (0, 0, false)))) else (some (0, 0, false))) = some (r1, r2, r3) := H
   have A5 := ak yQ
   clear yQ
   by_cases c6 : pY = 0
   ·rw [if_pos c6] at H
    have jd : (pY == 0) = true := beq_iff_eq.mpr c6
    have xr : (pY != 0) = false := bne_eq_false_iff_eq.mpr c6
    clear c6
    replace H := Option.bind_eq_some_iff.mp H
    obtain ⟨jy, yP, H⟩ := H
    replace H : (if jy.toList = a0.toList then (some (kE, mX, true)) else (some (0, 0, false))) = some (r1, r2, r3) := H
    have A7 := ak yP
    clear yP
    by_cases c8 : jy.toList = a0.toList
    ·rw [if_pos c8] at H
     have qU : (jy.toList == a0.toList) = true := beq_iff_eq.mpr c8
     have CR : (jy.toList != a0.toList) = false := bne_eq_false_iff_eq.mpr c8
     clear c8
     simp only [Option.some.injEq, Prod.mk.injEq] at H
     obtain ⟨rfl, rfl, rfl⟩ := H
     go_enter Tryz.func82, Tryz.ntmps82
     go_wp2_with (first | ((with_reducible refine af (N := 2) rfl ?_); refine bE (N := 2) (cs := #[.int .u32 0, .int .i64 0]) (t := 67) ?_; intro jU hg w9 hbox hb; have cr := ak (hbox); have Ji := ak (gl hg : w.heap.size ≤ jU); have Jo := ak (gl hg : w.heap.size ≤ jU); replace HB := bs hb; clear hb hbox hg) | ((with_reducible refine au (f := 91) rfl ?_); refine gC (some 11) Tryz.func91 #[.string a0, .string (⟨#[45]⟩ : ByteArray)] ?_; (with_reducible refine (strings_Cut.calls a0 (⟨#[45]⟩ : ByteArray) j3 k7 Ez _ A2.out).mono ?_); rintro e uB ⟨rfl, hb⟩; refine ⟨_, rfl, ?_⟩; replace cr := bm cr hb; replace HB := bs hb; (try clear hb); (try clear aU); (try clear hk); (try clear hi)) | ((with_reducible refine au (f := 111) rfl ?_); refine gC (some 20) Tryz.func111 #[.string ((j3 ++ (⟨#[47]⟩ : ByteArray)) ++ k7)] ?_; (with_reducible refine (ix.calls ((j3 ++ (⟨#[47]⟩ : ByteArray)) ++ k7) kE mX pY _ A5.out).mono ?_); rintro e Db ⟨rfl, hb⟩; refine ⟨_, rfl, ?_⟩; replace cr := bm cr hb; replace HB := bs hb; (try clear hb); (try clear aU); (try clear hk); (try clear hi)) | ((with_reducible refine af (N := 7) rfl ?_); refine bE (N := 7) (cs := #[.int .u32 0, .int .i64 0]) (t := 67) ?_; intro mG hg KR hbox hb; have fe := ak (hbox); have Jh := ak (gl hg : w.heap.size ≤ mG); have Jn := ak (gl hg : w.heap.size ≤ mG); replace HB := bs hb; have fm := ak (nl cr hg); have mo := ak (ng cr hg); replace cr := bm cr hb; clear hb hbox hg; have aK5 := mo.out; have aI4 := fm.out; have CE := cf fe 0; have CD := cf fe 1; have Ct := J fe.out 0; have Cs := J fe.out 1) | (go_at_call 112; (with_reducible refine (jL.calls k kE mX jy _ A7.out).mono ?_); rintro e vG ⟨rfl, hb⟩; replace cr := ak (hJ (g := jU) (o := .cells #[.int .u32 0, .int .i64 0] 67 (0, 0)) (by (with_reducible repeat (first | refine ag ?_ _ | refine aj ?_ | refine ah ?_ _)); refine dr ?_ fm.out _; (with_reducible repeat (first | refine ag ?_ _ | refine aj ?_ | refine ah ?_ _)); refine dr ?_ fm.out _; (with_reducible repeat (first | refine ag ?_ _ | refine aj ?_ | refine ah ?_ _)); exact cr.out) hb); replace fe := ak (hJ (g := mG) (o := .cells #[.int .u32 kE, .int .i64 mX] 67 (0, 0)) (by (with_reducible repeat (first | refine ag ?_ _ | refine aj ?_ | refine ah ?_ _)); refine aM (cs := #[.int .u32 kE, .int .i64 0]) ?_ 1 _ rfl; (with_reducible repeat (first | refine ag ?_ _ | refine aj ?_ | refine ah ?_ _)); refine aM (cs := #[.int .u32 0, .int .i64 0]) ?_ 0 _ rfl; (with_reducible repeat (first | refine ag ?_ _ | refine aj ?_ | refine ah ?_ _)); exact fe.out) hb); replace HB := bs hb; (try clear hb); (try clear aU); (try clear hk); (try clear hi); have az0 := cf fe 0; have ay9 := cf fe 1; have ao5 := J fe.out 0; have ao4 := J fe.out 1; have R9 := cf cr 0; have R8 := cf cr 1; have RH := J cr.out 0; have RG := J cr.out 1))
     refine bodyPost_ret (bT rfl _ _ jU 67 #[.int .u32 kE, .int .i64 mX] (0, 0) _ rfl (by (with_reducible repeat (first | refine ag ?_ _ | refine aj ?_ | refine ah ?_ _)); refine aM (cs := #[.int .u32 kE, .int .i64 0]) ?_ 1 _ rfl; (with_reducible repeat (first | refine ag ?_ _ | refine aj ?_ | refine ah ?_ _)); refine aM (cs := #[.int .u32 0, .int .i64 0]) ?_ 0 _ rfl; (with_reducible repeat (first | refine ag ?_ _ | refine aj ?_ | refine ah ?_ _)); exact cr.out) Tryz.underlying67 rfl (by kernel_rfl)) rfl ?_
     exact ⟨rg, bl⟩
    ·rw [if_neg c8] at H
     have qU : (jy.toList == a0.toList) = false := beq_eq_false_iff_ne.mpr c8
     have CR : (jy.toList != a0.toList) = true := bne_iff_ne.mpr c8
     simp only [Option.some.injEq, Prod.mk.injEq] at H
     obtain ⟨rfl, rfl, rfl⟩ := H
     go_enter Tryz.func82, Tryz.ntmps82
     go_wp2_with (first | ((with_reducible refine af (N := 2) rfl ?_); refine bE (N := 2) (cs := #[.int .u32 0, .int .i64 0]) (t := 67) ?_; intro jU hg Pu hbox hb; have cr := ak (hbox); have Ji := ak (gl hg : w.heap.size ≤ jU); have Jo := ak (gl hg : w.heap.size ≤ jU); replace HB := bs hb; clear hb hbox hg) | ((with_reducible refine au (f := 91) rfl ?_); refine gC (some 11) Tryz.func91 #[.string a0, .string (⟨#[45]⟩ : ByteArray)] ?_; (with_reducible refine (strings_Cut.calls a0 (⟨#[45]⟩ : ByteArray) j3 k7 Ez _ A2.out).mono ?_); rintro e rn ⟨rfl, hb⟩; refine ⟨_, rfl, ?_⟩; replace cr := bm cr hb; replace HB := bs hb; (try clear hb); (try clear aU); (try clear hk); (try clear hi)) | ((with_reducible refine au (f := 111) rfl ?_); refine gC (some 20) Tryz.func111 #[.string ((j3 ++ (⟨#[47]⟩ : ByteArray)) ++ k7)] ?_; (with_reducible refine (ix.calls ((j3 ++ (⟨#[47]⟩ : ByteArray)) ++ k7) kE mX pY _ A5.out).mono ?_); rintro e X4 ⟨rfl, hb⟩; refine ⟨_, rfl, ?_⟩; replace cr := bm cr hb; replace HB := bs hb; (try clear hb); (try clear aU); (try clear hk); (try clear hi)) | ((with_reducible refine af (N := 7) rfl ?_); refine bE (N := 7) (cs := #[.int .u32 0, .int .i64 0]) (t := 67) ?_; intro mG hg xV hbox hb; have fe := ak (hbox); have Jh := ak (gl hg : w.heap.size ≤ mG); have Jn := ak (gl hg : w.heap.size ≤ mG); replace HB := bs hb; have fm := ak (nl cr hg); have mo := ak (ng cr hg); replace cr := bm cr hb; clear hb hbox hg; have WU := mo.out; have WR := fm.out; have R7 := cf fe 0; have R6 := cf fe 1; have RF := J fe.out 0; have RE := J fe.out 1) | (go_at_call 112; (with_reducible refine (jL.calls k kE mX jy _ A7.out).mono ?_); rintro e w24 ⟨rfl, hb⟩; replace cr := ak (hJ (g := jU) (o := .cells #[.int .u32 0, .int .i64 0] 67 (0, 0)) (by (with_reducible repeat (first | refine ag ?_ _ | refine aj ?_ | refine ah ?_ _)); refine dr ?_ fm.out _; (with_reducible repeat (first | refine ag ?_ _ | refine aj ?_ | refine ah ?_ _)); refine dr ?_ fm.out _; (with_reducible repeat (first | refine ag ?_ _ | refine aj ?_ | refine ah ?_ _)); exact cr.out) hb); replace fe := ak (hJ (g := mG) (o := .cells #[.int .u32 kE, .int .i64 mX] 67 (0, 0)) (by (with_reducible repeat (first | refine ag ?_ _ | refine aj ?_ | refine ah ?_ _)); refine aM (cs := #[.int .u32 kE, .int .i64 0]) ?_ 1 _ rfl; (with_reducible repeat (first | refine ag ?_ _ | refine aj ?_ | refine ah ?_ _)); refine aM (cs := #[.int .u32 0, .int .i64 0]) ?_ 0 _ rfl; (with_reducible repeat (first | refine ag ?_ _ | refine aj ?_ | refine ah ?_ _)); exact fe.out) hb); replace HB := bs hb; (try clear hb); (try clear aU); (try clear hk); (try clear hi); have Iy := cf cr 0; have Ix := cf cr 1; have Iw := J cr.out 0; have Iv := J cr.out 1))
     refine bodyPost_ret (bT rfl _ _ jU 67 #[.int .u32 0, .int .i64 0] (0, 0) _ rfl (by (with_reducible repeat (first | refine ag ?_ _ | refine aj ?_ | refine ah ?_ _)); refine aM (cs := #[.int .u32 0, .int .i64 0]) ?_ 1 _ rfl; (with_reducible repeat (first | refine ag ?_ _ | refine aj ?_ | refine ah ?_ _)); refine aM (cs := #[.int .u32 0, .int .i64 0]) ?_ 0 _ rfl; (with_reducible repeat (first | refine ag ?_ _ | refine aj ?_ | refine ah ?_ _)); exact cr.out) Tryz.underlying67 rfl (by kernel_rfl)) rfl ?_
     exact ⟨rg, bl⟩
   ·rw [if_neg c6] at H
    have jd : (pY == 0) = false := beq_eq_false_iff_ne.mpr c6
    have xr : (pY != 0) = true := bne_iff_ne.mpr c6
    simp only [Option.some.injEq, Prod.mk.injEq] at H
    obtain ⟨rfl, rfl, rfl⟩ := H
    go_enter Tryz.func82, Tryz.ntmps82
    go_wp2_with (first | ((with_reducible refine af (N := 2) rfl ?_); refine bE (N := 2) (cs := #[.int .u32 0, .int .i64 0]) (t := 67) ?_; intro jU hg S7 hbox hb; have cr := ak (hbox); have Ji := ak (gl hg : w.heap.size ≤ jU); have Jo := ak (gl hg : w.heap.size ≤ jU); replace HB := bs hb; clear hb hbox hg) | ((with_reducible refine au (f := 91) rfl ?_); refine gC (some 11) Tryz.func91 #[.string a0, .string (⟨#[45]⟩ : ByteArray)] ?_; (with_reducible refine (strings_Cut.calls a0 (⟨#[45]⟩ : ByteArray) j3 k7 Ez _ A2.out).mono ?_); rintro e X3 ⟨rfl, hb⟩; refine ⟨_, rfl, ?_⟩; replace cr := bm cr hb; replace HB := bs hb; (try clear hb); (try clear aU); (try clear hk); (try clear hi)) | ((with_reducible refine au (f := 111) rfl ?_); refine gC (some 20) Tryz.func111 #[.string ((j3 ++ (⟨#[47]⟩ : ByteArray)) ++ k7)] ?_; (with_reducible refine (ix.calls ((j3 ++ (⟨#[47]⟩ : ByteArray)) ++ k7) kE mX pY _ A5.out).mono ?_); rintro e w28 ⟨rfl, hb⟩; refine ⟨_, rfl, ?_⟩; replace cr := bm cr hb; replace HB := bs hb; (try clear hb); (try clear aU); (try clear hk); (try clear hi)) | ((with_reducible refine af (N := 7) rfl ?_); refine bE (N := 7) (cs := #[.int .u32 0, .int .i64 0]) (t := 67) ?_; intro mG hg X2 hbox hb; have fe := ak (hbox); have Jh := ak (gl hg : w.heap.size ≤ mG); have Jn := ak (gl hg : w.heap.size ≤ mG); replace HB := bs hb; have fm := ak (nl cr hg); have mo := ak (ng cr hg); replace cr := bm cr hb; clear hb hbox hg; have aJ7 := mo.out; have aH6 := fm.out; have ay1 := cf fe 0; have ay0 := cf fe 1; have an6 := J fe.out 0; have an5 := J fe.out 1; have RX := cf cr 0; have RW := cf cr 1; have Rz := J cr.out 0; have Ry := J cr.out 1))
    refine bodyPost_ret (bT rfl _ _ jU 67 #[.int .u32 0, .int .i64 0] (0, 0) _ rfl (by (with_reducible repeat (first | refine ag ?_ _ | refine aj ?_ | refine ah ?_ _)); refine aM (cs := #[.int .u32 0, .int .i64 0]) ?_ 1 _ rfl; (with_reducible repeat (first | refine ag ?_ _ | refine aj ?_ | refine ah ?_ _)); refine aM (cs := #[.int .u32 0, .int .i64 0]) ?_ 0 _ rfl; (with_reducible repeat (first | refine ag ?_ _ | refine aj ?_ | refine ah ?_ _)); refine dr ?_ fm.out _; (with_reducible repeat (first | refine ag ?_ _ | refine aj ?_ | refine ah ?_ _)); refine dr ?_ fm.out _; (with_reducible repeat (first | refine ag ?_ _ | refine aj ?_ | refine ah ?_ _)); exact cr.out) Tryz.underlying67 rfl (by kernel_rfl)) rfl ?_
    exact ⟨rg, bl⟩
  ·rw [if_neg c4] at H
   exact absurd H (by simp)
 ·rw [if_neg c3] at H
  exact absurd H (by simp)
end
section
attribute [local go_sem] bq bn bI bH aW aV bp bj
def dp.f (k : Nat) (a0 : ByteArray) : Option (Int × Bool) := (ey.f k a0).bind fun qY => (if qY.2.2 = true then (if qY.2.1 = 26 then (some (qY.1, true)) else (some (0, false))) else (some (0, false)))
set_option maxHeartbeats 8000000 in
set_option maxRecDepth 100000 in
theorem dp.calls (k : Nat) (a0 : ByteArray) (r1 : Int) (r2 : Bool) (w : World) (h : dp.f k a0 = some (r1, r2)) :
  Calls Tryz.prog 87 #[.string a0] w fun e w' => e = .returned (.tuple #[.int .u32 r1, .bool r2]) ∧ Below w.heap.size w w' := by
 have Aj := Tryz.underlying67
 have HB := ak (Below.refl w.heap.size w)
 have H : ((ey.f k a0).bind fun qY => (if qY.2.2 = true then (if qY.2.1 = 26 then (some (qY.1, true)) else (some (0, false))) else (some (0, false)))) = some (r1, r2) := h
 clear h
 replace H := Option.bind_eq_some_iff.mp H
 obtain ⟨⟨xZ, oc, K4⟩, eS, H⟩ := H
 replace H : (if K4 = true then (if oc = 26 then (some (xZ, true)) else (some (0, false))) else (some (0, false))) = some (r1, r2) := H
 have A2 := ak eS
 clear eS
 by_cases c3 : K4 = true
 ·subst c3
  replace H : (if oc = 26 then (some (xZ, true)) else (some (0, false))) = some (r1, r2) := by rw [if_pos rfl] at H; exact H
  by_cases c4 : oc = 26
  ·rw [if_pos c4] at H
   have eQ : (oc == 26) = true := beq_iff_eq.mpr c4
   have Aw : (oc != 26) = false := bne_eq_false_iff_eq.mpr c4
   clear c4
   simp only [Option.some.injEq, Prod.mk.injEq] at H
   obtain ⟨rfl, rfl⟩ := H
   go_enter Tryz.func87, Tryz.ntmps87
   go_wp2_with (first | ((with_reducible refine au (f := 82) rfl ?_); refine gC (some 8) Tryz.func82 #[.string a0] ?_; (with_reducible refine (ey.calls k a0 xZ oc true _ A2.out).mono ?_); rintro e w5 ⟨rfl, hb⟩; refine ⟨_, rfl, ?_⟩; replace HB := bs hb; (try clear hb); (try clear aU); (try clear hk); (try clear hi)) | ((with_reducible refine af (N := 4) rfl ?_); refine bE (N := 4) (cs := #[.int .u32 0, .int .i64 0]) (t := 67) ?_; intro pA hg w6 hbox hb; have js := ak (hbox); have Jf := ak (gl hg : w.heap.size ≤ pA); have Jl := ak (gl hg : w.heap.size ≤ pA); replace HB := bs hb; clear hb hbox hg; have BA := cf js 0; have Bz := cf js 1; have Bw := J js.out 0; have Bv := J js.out 1))
   go_ret2
   exact ⟨rg, bl⟩
  ·rw [if_neg c4] at H
   have eQ : (oc == 26) = false := beq_eq_false_iff_ne.mpr c4
   have Aw : (oc != 26) = true := bne_iff_ne.mpr c4
   simp only [Option.some.injEq, Prod.mk.injEq] at H
   obtain ⟨rfl, rfl⟩ := H
   go_enter Tryz.func87, Tryz.ntmps87
   go_wp2_with (first | ((with_reducible refine au (f := 82) rfl ?_); refine gC (some 8) Tryz.func82 #[.string a0] ?_; (with_reducible refine (ey.calls k a0 xZ oc true _ A2.out).mono ?_); rintro e w8 ⟨rfl, hb⟩; refine ⟨_, rfl, ?_⟩; replace HB := bs hb; (try clear hb); (try clear aU); (try clear hk); (try clear hi)) | ((with_reducible refine af (N := 4) rfl ?_); refine bE (N := 4) (cs := #[.int .u32 0, .int .i64 0]) (t := 67) ?_; intro pA hg w9 hbox hb; have js := ak (hbox); have Jf := ak (gl hg : w.heap.size ≤ pA); have Jl := ak (gl hg : w.heap.size ≤ pA); replace HB := bs hb; clear hb hbox hg; have tc := cf js 0; have tb := cf js 1; have ta := J js.out 0; have s9 := J js.out 1))
   go_ret2
   exact ⟨rg, bl⟩
 ·replace c3 := Bool.eq_false_iff.mpr c3
  subst c3
  replace H : (some (0, false)) = some (r1, r2) := by rw [if_neg (show ¬ (false = true) by decide)] at H; exact H
  simp only [Option.some.injEq, Prod.mk.injEq] at H
  obtain ⟨rfl, rfl⟩ := H
  go_enter Tryz.func87, Tryz.ntmps87
  go_wp2_with (first | ((with_reducible refine au (f := 82) rfl ?_); refine gC (some 8) Tryz.func82 #[.string a0] ?_; (with_reducible refine (ey.calls k a0 xZ oc false _ A2.out).mono ?_); rintro e Db ⟨rfl, hb⟩; refine ⟨_, rfl, ?_⟩; replace HB := bs hb; (try clear hb); (try clear aU); (try clear hk); (try clear hi)) | ((with_reducible refine af (N := 4) rfl ?_); refine bE (N := 4) (cs := #[.int .u32 0, .int .i64 0]) (t := 67) ?_; intro pA hg KR hbox hb; have js := ak (hbox); have Jf := ak (gl hg : w.heap.size ≤ pA); have Jl := ak (gl hg : w.heap.size ≤ pA); replace HB := bs hb; clear hb hbox hg; have Se := cf js 0; have Sd := cf js 1; have RN := J js.out 0; have RM := J js.out 1))
  go_ret2
  exact ⟨rg, bl⟩
end
section
attribute [local go_sem] bq bn bI bH aW aV bp bj
def lq.f (k : Nat) (a0 : ByteArray) : Option (Int × Int × Bool) := (strings_CutPrefix.f a0 (⟨#[112, 111, 111, 108, 47]⟩ : ByteArray)).bind fun wO => ((ey.f k wO.1).bind fun jn => (if wO.2 = true then (if jn.2.2 = true then (if jn.2.1 > 26 then (some (0, 0, false)) else (some (jn.1, jn.2.1, true))) else (some (0, 0, false))) else (some (0, 0, false))))
set_option maxHeartbeats 8000000 in
set_option maxRecDepth 100000 in
theorem lq.calls (k : Nat) (a0 : ByteArray) (r1 : Int) (r2 : Int) (r3 : Bool) (w : World) (h : lq.f k a0 = some (r1, r2, r3)) :
  Calls Tryz.prog 52 #[.string a0] w fun e w' => e = .returned (.tuple #[.agg #[.int .u32 r1, .int .i64 r2], .bool r3]) ∧ Below w.heap.size w w' := by
 have Aj := Tryz.underlying67
 have HB := ak (Below.refl w.heap.size w)
 have H : ((strings_CutPrefix.f a0 (⟨#[112, 111, 111, 108, 47]⟩ : ByteArray)).bind fun wO => ((ey.f k wO.1).bind fun jn => (if wO.2 = true then (if jn.2.2 = true then (if jn.2.1 > 26 then (some (0, 0, false)) else (some (jn.1, jn.2.1, true))) else (some (0, 0, false))) else (some (0, 0, false))))) = some (r1, r2, r3) := h
 clear h
 replace H := Option.bind_eq_some_iff.mp H
 obtain ⟨⟨ld, EB⟩, eS, H⟩ := H
 replace H : ((ey.f k ld).bind fun jn => (if EB = true then (if jn.2.2 = true then (if jn.2.1 > 26 then (some (0, 0, false)) else (some (jn.1, jn.2.1, true))) else (some (0, 0, false))) else (some (0, 0, false)))) = some (r1, r2, r3) := H
 have A2 := ak eS
 clear eS
 replace H := Option.bind_eq_some_iff.mp H
 obtain ⟨⟨qb, me, AT⟩, jO, H⟩ := H
 replace H : (if EB = true then (if AT = true then (if me > 26 then (some (0, 0, false)) else (some (qb, me, true))) else (some (0, 0, false))) else (some (0, 0, false))) = some (r1, r2, r3) := H
 have A3 := ak jO
 clear jO
 by_cases c4 : EB = true
 ·subst c4
  replace H : (if AT = true then (if me > 26 then (some (0, 0, false)) else (some (qb, me, true))) else (some (0, 0, false))) = some (r1, r2, r3) := by rw [if_pos rfl] at H; exact H
  by_cases c5 : AT = true
  ·subst c5
   replace H : (if me > 26 then (some (0, 0, false)) else (some (qb, me, true))) = some (r1, r2, r3) := by rw [if_pos rfl] at H; exact H
   by_cases c6 : me > 26
   ·rw [if_pos c6] at H
    have jd := decide_eq_true c6
    clear c6
    simp only [Option.some.injEq, Prod.mk.injEq] at H
    obtain ⟨rfl, rfl, rfl⟩ := H
    go_enter Tryz.func52, Tryz.ntmps52
    go_wp2_with (first | ((with_reducible refine af (N := 2) rfl ?_); refine bE (N := 2) (cs := #[.int .u32 0, .int .i64 0]) (t := 67) ?_; intro fW hg w7 hbox hb; have bJ := ak (hbox); have C4 := ak (gl hg : w.heap.size ≤ fW); have C7 := ak (gl hg : w.heap.size ≤ fW); replace HB := bs hb; clear hb hbox hg) | ((with_reducible refine au (f := 81) rfl ?_); refine gC (some 10) Tryz.func81 #[.string a0, .string (⟨#[112, 111, 111, 108, 47]⟩ : ByteArray)] ?_; (with_reducible refine (strings_CutPrefix.calls a0 (⟨#[112, 111, 111, 108, 47]⟩ : ByteArray) ld true _ A2.out).mono ?_); rintro e w' ⟨rfl, ⟨nd, rfl⟩⟩; refine ⟨_, rfl, ?_⟩; (try (rw [qu w7]; generalize pj : World.drewN w7 _ = w7; have ot : Aside0 (w7.heap[fW]? = some (.cells #[.int .u32 0, .int .i64 0] 67 (0, 0))) := ⟨by rw [← pj]; exact (bk bJ)⟩; have oq : Aside0 (Below w.heap.size w w7) := ⟨by rw [← pj]; exact bl⟩; clear bJ HB pj; have bJ := ot; have HB := oq; clear ot oq))) | ((with_reducible refine au (f := 82) rfl ?_); refine gC (some 15) Tryz.func82 #[.string ld] ?_; (with_reducible refine (ey.calls k ld qb me true _ A3.out).mono ?_); rintro e w8 ⟨rfl, hb⟩; refine ⟨_, rfl, ?_⟩; replace bJ := bm bJ hb; replace HB := bs hb; (try clear hb); (try clear aU); (try clear hk); (try clear hi)) | ((with_reducible refine af (N := 6) rfl ?_); refine bE (N := 6) (cs := #[.int .u32 0, .int .i64 0]) (t := 67) ?_; intro lz hg w9 hbox hb; have fY := ak (hbox); have C0 := ak (gl hg : w.heap.size ≤ lz); have C6 := ak (gl hg : w.heap.size ≤ lz); replace HB := bs hb; have dS := ak (nl bJ hg); have jx := ak (ng bJ hg); replace bJ := bm bJ hb; clear hb hbox hg; have aK6 := jx.out; have aI5 := dS.out; have py := cf fY 0; have px := cf fY 1; have pw := J fY.out 0; have pt := J fY.out 1; have CG := cf bJ 0; have CF := cf bJ 1; have Cv := J bJ.out 0; have Cu := J bJ.out 1))
    refine bodyPost_ret (bT rfl _ _ fW 67 #[.int .u32 0, .int .i64 0] (0, 0) _ rfl (by (with_reducible repeat (first | refine ag ?_ _ | refine aj ?_ | refine ah ?_ _)); refine aM (cs := #[.int .u32 0, .int .i64 0]) ?_ 1 _ rfl; (with_reducible repeat (first | refine ag ?_ _ | refine aj ?_ | refine ah ?_ _)); refine aM (cs := #[.int .u32 0, .int .i64 0]) ?_ 0 _ rfl; (with_reducible repeat (first | refine ag ?_ _ | refine aj ?_ | refine ah ?_ _)); refine dr ?_ dS.out _; (with_reducible repeat (first | refine ag ?_ _ | refine aj ?_ | refine ah ?_ _)); refine dr ?_ dS.out _; (with_reducible repeat (first | refine ag ?_ _ | refine aj ?_ | refine ah ?_ _)); exact bJ.out) Tryz.underlying67 rfl (by kernel_rfl)) rfl ?_
    exact ⟨rg, bl⟩
   ·rw [if_neg c6] at H
    have jd := decide_eq_false c6
    clear c6
    simp only [Option.some.injEq, Prod.mk.injEq] at H
    obtain ⟨rfl, rfl, rfl⟩ := H
    go_enter Tryz.func52, Tryz.ntmps52
    go_wp2_with (first | ((with_reducible refine af (N := 2) rfl ?_); refine bE (N := 2) (cs := #[.int .u32 0, .int .i64 0]) (t := 67) ?_; intro fW hg tj hbox hb; have bJ := ak (hbox); have C4 := ak (gl hg : w.heap.size ≤ fW); have C7 := ak (gl hg : w.heap.size ≤ fW); replace HB := bs hb; clear hb hbox hg) | ((with_reducible refine au (f := 81) rfl ?_); refine gC (some 10) Tryz.func81 #[.string a0, .string (⟨#[112, 111, 111, 108, 47]⟩ : ByteArray)] ?_; (with_reducible refine (strings_CutPrefix.calls a0 (⟨#[112, 111, 111, 108, 47]⟩ : ByteArray) ld true _ A2.out).mono ?_); rintro e w' ⟨rfl, ⟨nd, rfl⟩⟩; refine ⟨_, rfl, ?_⟩; (try (rw [qu tj]; generalize pj : World.drewN tj _ = tj; have ot : Aside0 (tj.heap[fW]? = some (.cells #[.int .u32 0, .int .i64 0] 67 (0, 0))) := ⟨by rw [← pj]; exact (bk bJ)⟩; have oq : Aside0 (Below w.heap.size w tj) := ⟨by rw [← pj]; exact bl⟩; clear bJ HB pj; have bJ := ot; have HB := oq; clear ot oq))) | ((with_reducible refine au (f := 82) rfl ?_); refine gC (some 15) Tryz.func82 #[.string ld] ?_; (with_reducible refine (ey.calls k ld qb me true _ A3.out).mono ?_); rintro e X5 ⟨rfl, hb⟩; refine ⟨_, rfl, ?_⟩; replace bJ := bm bJ hb; replace HB := bs hb; (try clear hb); (try clear aU); (try clear hk); (try clear hi)) | ((with_reducible refine af (N := 6) rfl ?_); refine bE (N := 6) (cs := #[.int .u32 0, .int .i64 0]) (t := 67) ?_; intro lz hg vG hbox hb; have fY := ak (hbox); have C0 := ak (gl hg : w.heap.size ≤ lz); have C6 := ak (gl hg : w.heap.size ≤ lz); replace HB := bs hb; have dS := ak (nl bJ hg); have jx := ak (ng bJ hg); replace bJ := bm bJ hb; clear hb hbox hg; have aK3 := jx.out; have aI2 := dS.out; have R9 := cf fY 0; have R8 := cf fY 1; have RH := J fY.out 0; have RG := J fY.out 1; have CC := cf bJ 0; have CB := cf bJ 1; have Cr := J bJ.out 0; have Cq := J bJ.out 1))
    refine bodyPost_ret (bT rfl _ _ fW 67 #[.int .u32 qb, .int .i64 me] (0, 0) _ rfl (by (with_reducible repeat (first | refine ag ?_ _ | refine aj ?_ | refine ah ?_ _)); refine aM (cs := #[.int .u32 qb, .int .i64 0]) ?_ 1 _ rfl; (with_reducible repeat (first | refine ag ?_ _ | refine aj ?_ | refine ah ?_ _)); refine aM (cs := #[.int .u32 0, .int .i64 0]) ?_ 0 _ rfl; (with_reducible repeat (first | refine ag ?_ _ | refine aj ?_ | refine ah ?_ _)); refine dr ?_ dS.out _; (with_reducible repeat (first | refine ag ?_ _ | refine aj ?_ | refine ah ?_ _)); refine dr ?_ dS.out _; (with_reducible repeat (first | refine ag ?_ _ | refine aj ?_ | refine ah ?_ _)); exact bJ.out) Tryz.underlying67 rfl (by kernel_rfl)) rfl ?_
    exact ⟨rg, bl⟩
  ·replace c5 := Bool.eq_false_iff.mpr c5
   subst c5
   replace H : (some (0, 0, false)) = some (r1, r2, r3) := by rw [if_neg (show ¬ (false = true) by decide)] at H; exact H
   simp only [Option.some.injEq, Prod.mk.injEq] at H
   obtain ⟨rfl, rfl, rfl⟩ := H
   go_enter Tryz.func52, Tryz.ntmps52
   go_wp2_with (first | ((with_reducible refine af (N := 2) rfl ?_); refine bE (N := 2) (cs := #[.int .u32 0, .int .i64 0]) (t := 67) ?_; intro fW hg rn hbox hb; have bJ := ak (hbox); have C4 := ak (gl hg : w.heap.size ≤ fW); have C7 := ak (gl hg : w.heap.size ≤ fW); replace HB := bs hb; clear hb hbox hg) | ((with_reducible refine au (f := 81) rfl ?_); refine gC (some 10) Tryz.func81 #[.string a0, .string (⟨#[112, 111, 111, 108, 47]⟩ : ByteArray)] ?_; (with_reducible refine (strings_CutPrefix.calls a0 (⟨#[112, 111, 111, 108, 47]⟩ : ByteArray) ld true _ A2.out).mono ?_); rintro e w' ⟨rfl, ⟨nd, rfl⟩⟩; refine ⟨_, rfl, ?_⟩; (try (rw [qu rn]; generalize pj : World.drewN rn _ = rn; have ot : Aside0 (rn.heap[fW]? = some (.cells #[.int .u32 0, .int .i64 0] 67 (0, 0))) := ⟨by rw [← pj]; exact (bk bJ)⟩; have oq : Aside0 (Below w.heap.size w rn) := ⟨by rw [← pj]; exact bl⟩; clear bJ HB pj; have bJ := ot; have HB := oq; clear ot oq))) | ((with_reducible refine au (f := 82) rfl ?_); refine gC (some 15) Tryz.func82 #[.string ld] ?_; (with_reducible refine (ey.calls k ld qb me false _ A3.out).mono ?_); rintro e X4 ⟨rfl, hb⟩; refine ⟨_, rfl, ?_⟩; replace bJ := bm bJ hb; replace HB := bs hb; (try clear hb); (try clear aU); (try clear hk); (try clear hi)) | ((with_reducible refine af (N := 6) rfl ?_); refine bE (N := 6) (cs := #[.int .u32 0, .int .i64 0]) (t := 67) ?_; intro lz hg xV hbox hb; have fY := ak (hbox); have C0 := ak (gl hg : w.heap.size ≤ lz); have C6 := ak (gl hg : w.heap.size ≤ lz); replace HB := bs hb; have dS := ak (nl bJ hg); have jx := ak (ng bJ hg); replace bJ := bm bJ hb; clear hb hbox hg; have WU := jx.out; have WR := dS.out; have R7 := cf fY 0; have R6 := cf fY 1; have RF := J fY.out 0; have RE := J fY.out 1; have zf := cf bJ 0; have ze := cf bJ 1; have zd := J bJ.out 0; have zb := J bJ.out 1))
   refine bodyPost_ret (bT rfl _ _ fW 67 #[.int .u32 0, .int .i64 0] (0, 0) _ rfl (by (with_reducible repeat (first | refine ag ?_ _ | refine aj ?_ | refine ah ?_ _)); refine aM (cs := #[.int .u32 0, .int .i64 0]) ?_ 1 _ rfl; (with_reducible repeat (first | refine ag ?_ _ | refine aj ?_ | refine ah ?_ _)); refine aM (cs := #[.int .u32 0, .int .i64 0]) ?_ 0 _ rfl; (with_reducible repeat (first | refine ag ?_ _ | refine aj ?_ | refine ah ?_ _)); refine dr ?_ dS.out _; (with_reducible repeat (first | refine ag ?_ _ | refine aj ?_ | refine ah ?_ _)); refine dr ?_ dS.out _; (with_reducible repeat (first | refine ag ?_ _ | refine aj ?_ | refine ah ?_ _)); exact bJ.out) Tryz.underlying67 rfl (by kernel_rfl)) rfl ?_
   exact ⟨rg, bl⟩
 ·replace c4 := Bool.eq_false_iff.mpr c4
  subst c4
  replace H : (some (0, 0, false)) = some (r1, r2, r3) := by rw [if_neg (show ¬ (false = true) by decide)] at H; exact H
  simp only [Option.some.injEq, Prod.mk.injEq] at H
  obtain ⟨rfl, rfl, rfl⟩ := H
  go_enter Tryz.func52, Tryz.ntmps52
  go_wp2_with (first | ((with_reducible refine af (N := 2) rfl ?_); refine bE (N := 2) (cs := #[.int .u32 0, .int .i64 0]) (t := 67) ?_; intro fW hg KQ hbox hb; have bJ := ak (hbox); have C4 := ak (gl hg : w.heap.size ≤ fW); have C7 := ak (gl hg : w.heap.size ≤ fW); replace HB := bs hb; clear hb hbox hg) | ((with_reducible refine au (f := 81) rfl ?_); refine gC (some 10) Tryz.func81 #[.string a0, .string (⟨#[112, 111, 111, 108, 47]⟩ : ByteArray)] ?_; (with_reducible refine (strings_CutPrefix.calls a0 (⟨#[112, 111, 111, 108, 47]⟩ : ByteArray) ld false _ A2.out).mono ?_); rintro e w' ⟨rfl, ⟨nd, rfl⟩⟩; refine ⟨_, rfl, ?_⟩; (try (rw [qu KQ]; generalize pj : World.drewN KQ _ = KQ; have ot : Aside0 (KQ.heap[fW]? = some (.cells #[.int .u32 0, .int .i64 0] 67 (0, 0))) := ⟨by rw [← pj]; exact (bk bJ)⟩; have oq : Aside0 (Below w.heap.size w KQ) := ⟨by rw [← pj]; exact bl⟩; clear bJ HB pj; have bJ := ot; have HB := oq; clear ot oq))) | ((with_reducible refine au (f := 82) rfl ?_); refine gC (some 15) Tryz.func82 #[.string ld] ?_; (with_reducible refine (ey.calls k ld qb me AT _ A3.out).mono ?_); rintro e S7 ⟨rfl, hb⟩; refine ⟨_, rfl, ?_⟩; replace bJ := bm bJ hb; replace HB := bs hb; (try clear hb); (try clear aU); (try clear hk); (try clear hi)) | ((with_reducible refine af (N := 6) rfl ?_); refine bE (N := 6) (cs := #[.int .u32 0, .int .i64 0]) (t := 67) ?_; intro lz hg X3 hbox hb; have fY := ak (hbox); have C0 := ak (gl hg : w.heap.size ≤ lz); have C6 := ak (gl hg : w.heap.size ≤ lz); replace HB := bs hb; have dS := ak (nl bJ hg); have jx := ak (ng bJ hg); replace bJ := bm bJ hb; clear hb hbox hg; have WT := jx.out; have WQ := dS.out; have R5 := cf fY 0; have R4 := cf fY 1; have RD := J fY.out 0; have RC := J fY.out 1; have RZ := cf bJ 0; have RY := cf bJ 1; have RB := J bJ.out 0; have RA := J bJ.out 1))
  refine bodyPost_ret (bT rfl _ _ fW 67 #[.int .u32 0, .int .i64 0] (0, 0) _ rfl (by (with_reducible repeat (first | refine ag ?_ _ | refine aj ?_ | refine ah ?_ _)); refine aM (cs := #[.int .u32 0, .int .i64 0]) ?_ 1 _ rfl; (with_reducible repeat (first | refine ag ?_ _ | refine aj ?_ | refine ah ?_ _)); refine aM (cs := #[.int .u32 0, .int .i64 0]) ?_ 0 _ rfl; (with_reducible repeat (first | refine ag ?_ _ | refine aj ?_ | refine ah ?_ _)); refine dr ?_ dS.out _; (with_reducible repeat (first | refine ag ?_ _ | refine aj ?_ | refine ah ?_ _)); refine dr ?_ dS.out _; (with_reducible repeat (first | refine ag ?_ _ | refine aj ?_ | refine ah ?_ _)); exact bJ.out) Tryz.underlying67 rfl (by kernel_rfl)) rfl ?_
  exact ⟨rg, bl⟩
end
section
attribute [local go_sem] bq bn bI bH aW aV bp bj
def gI.f (a0 : ByteArray) (a1 : ByteArray) : Option (ByteArray × Bool) := (strings_CutPrefix.f a0 a1).bind fun qX => (if qX.2 = true then ((bP.f qX.1).bind fun oa => (if oa = true then (some (qX.1, true)) else (some ((⟨#[]⟩ : ByteArray), false)))) else (some ((⟨#[]⟩ : ByteArray), false)))
set_option maxHeartbeats 8000000 in
set_option maxRecDepth 100000 in
theorem gI.calls (a0 : ByteArray) (a1 : ByteArray) (r1 : ByteArray) (r2 : Bool) (w : World) (h : gI.f a0 a1 = some (r1, r2)) :
  Calls Tryz.prog 94 #[.string a0, .string a1] w fun e w' => e = .returned (.tuple #[.string r1, .bool r2]) ∧ Below w.heap.size w w' := by
 have HB := ak (Below.refl w.heap.size w)
 have H : ((strings_CutPrefix.f a0 a1).bind fun qX => (if qX.2 = true then ((bP.f qX.1).bind fun oa => (if oa = true then (some (qX.1, true)) else (some ((⟨#[]⟩ : ByteArray), false)))) else (some ((⟨#[]⟩ : ByteArray), false)))) = some (r1, r2) := h
 clear h
 replace H := Option.bind_eq_some_iff.mp H
 obtain ⟨⟨mW, K3⟩, jO, H⟩ := H
 replace H : (if K3 = true then ((bP.f mW).bind fun oa => (if oa = true then (some (mW, true)) else (some ((⟨#[]⟩ : ByteArray), false)))) else (some ((⟨#[]⟩ : ByteArray), false))) = some (r1, r2) := H
 have A3 := ak jO
 clear jO
 by_cases c4 : K3 = true
 ·subst c4
  replace H : ((bP.f mW).bind fun oa => (if oa = true then (some (mW, true)) else (some ((⟨#[]⟩ : ByteArray), false)))) = some (r1, r2) := by rw [if_pos rfl] at H; exact H
  replace H := Option.bind_eq_some_iff.mp H
  obtain ⟨oa, yQ, H⟩ := H
  replace H : (if oa = true then (some (mW, true)) else (some ((⟨#[]⟩ : ByteArray), false))) = some (r1, r2) := H
  have A5 := ak yQ
  clear yQ
  by_cases c6 : oa = true
  ·subst c6
   replace H : (some (mW, true)) = some (r1, r2) := by rw [if_pos rfl] at H; exact H
   simp only [Option.some.injEq, Prod.mk.injEq] at H
   obtain ⟨rfl, rfl⟩ := H
   go_enter Tryz.func94, Tryz.ntmps94
   go_wp2_with (first | ((with_reducible refine au (f := 81) rfl ?_); refine gC (some 11) Tryz.func81 #[.string a0, .string a1] ?_; (with_reducible refine (strings_CutPrefix.calls a0 a1 mW true _ A3.out).mono ?_); rintro e w' ⟨rfl, ⟨nd, rfl⟩⟩; refine ⟨_, rfl, ?_⟩) | (go_at_call 92; (with_reducible refine (bP.calls mW true _ A5.out).mono ?_); rintro e w7 ⟨rfl, hb⟩; replace HB := bs hb; (try clear hb); (try clear aU); (try clear hk); (try clear hi)))
   go_ret2
   exact ⟨rg, bl⟩
  ·replace c6 := Bool.eq_false_iff.mpr c6
   subst c6
   replace H : (some ((⟨#[]⟩ : ByteArray), false)) = some (r1, r2) := by rw [if_neg (show ¬ (false = true) by decide)] at H; exact H
   simp only [Option.some.injEq, Prod.mk.injEq] at H
   obtain ⟨rfl, rfl⟩ := H
   go_enter Tryz.func94, Tryz.ntmps94
   go_wp2_with (first | ((with_reducible refine au (f := 81) rfl ?_); refine gC (some 11) Tryz.func81 #[.string a0, .string a1] ?_; (with_reducible refine (strings_CutPrefix.calls a0 a1 mW true _ A3.out).mono ?_); rintro e w' ⟨rfl, ⟨nd, rfl⟩⟩; refine ⟨_, rfl, ?_⟩) | (go_at_call 92; (with_reducible refine (bP.calls mW false _ A5.out).mono ?_); rintro e w8 ⟨rfl, hb⟩; replace HB := bs hb; (try clear hb); (try clear aU); (try clear hk); (try clear hi)))
   go_ret2
   exact ⟨rg, bl⟩
 ·replace c4 := Bool.eq_false_iff.mpr c4
  subst c4
  replace H : (some ((⟨#[]⟩ : ByteArray), false)) = some (r1, r2) := by rw [if_neg (show ¬ (false = true) by decide)] at H; exact H
  simp only [Option.some.injEq, Prod.mk.injEq] at H
  obtain ⟨rfl, rfl⟩ := H
  go_enter Tryz.func94, Tryz.ntmps94
  go_wp2_with (first | ((with_reducible refine au (f := 81) rfl ?_); refine gC (some 11) Tryz.func81 #[.string a0, .string a1] ?_; (with_reducible refine (strings_CutPrefix.calls a0 a1 mW false _ A3.out).mono ?_); rintro e w' ⟨rfl, ⟨nd, rfl⟩⟩; refine ⟨_, rfl, ?_⟩))
  go_ret2
  exact ⟨rg, bl⟩
end
section
attribute [local go_sem] bq bn bI bH aW aV bp bj
def iU.f (k : Nat) (a0 : ByteArray) : Option (ByteArray × Int × Bool) := (strings_CutPrefix.f a0 (⟨#[97, 102, 102, 47]⟩ : ByteArray)).bind fun wM => ((strings_Cut.f wM.1 (⟨#[47]⟩ : ByteArray)).bind fun lF => ((dp.f k lF.2.1).bind fun lE => (if wM.2 = true then (if lE.2 = true then ((bP.f lF.1).bind fun jA => (if jA = true then (some (lF.1, lE.1, true)) else (some ((⟨#[]⟩ : ByteArray), 0, false)))) else (some ((⟨#[]⟩ : ByteArray), 0, false))) else (some ((⟨#[]⟩ : ByteArray), 0, false)))))
set_option maxHeartbeats 8000000 in
set_option maxRecDepth 100000 in
theorem iU.calls (k : Nat) (a0 : ByteArray) (r1 : ByteArray) (r2 : Int) (r3 : Bool) (w : World) (h : iU.f k a0 = some (r1, r2, r3)) :
  Calls Tryz.prog 56 #[.string a0] w fun e w' => e = .returned (.tuple #[.string r1, .int .u32 r2, .bool r3]) ∧ Below w.heap.size w w' := by
 have HB := ak (Below.refl w.heap.size w)
 have H : ((strings_CutPrefix.f a0 (⟨#[97, 102, 102, 47]⟩ : ByteArray)).bind fun wM => ((strings_Cut.f wM.1 (⟨#[47]⟩ : ByteArray)).bind fun lF => ((dp.f k lF.2.1).bind fun lE => (if wM.2 = true then (if lE.2 = true then ((bP.f lF.1).bind fun jA => (if jA = true then (some (lF.1, lE.1, true)) else (some ((⟨#[]⟩ : ByteArray), 0, false)))) else (some ((⟨#[]⟩ : ByteArray), 0, false))) else (some ((⟨#[]⟩ : ByteArray), 0, false)))))) = some (r1, r2, r3) := h
 clear h
 replace H := Option.bind_eq_some_iff.mp H
 obtain ⟨⟨k9, AR⟩, eS, H⟩ := H
 replace H : ((strings_Cut.f k9 (⟨#[47]⟩ : ByteArray)).bind fun lF => ((dp.f k lF.2.1).bind fun lE => (if AR = true then (if lE.2 = true then ((bP.f lF.1).bind fun jA => (if jA = true then (some (lF.1, lE.1, true)) else (some ((⟨#[]⟩ : ByteArray), 0, false)))) else (some ((⟨#[]⟩ : ByteArray), 0, false))) else (some ((⟨#[]⟩ : ByteArray), 0, false))))) = some (r1, r2, r3) := H
 have A2 := ak eS
 clear eS
 replace H := Option.bind_eq_some_iff.mp H
 obtain ⟨⟨jB, k8, AQ⟩, jO, H⟩ := H
 replace H : ((dp.f k k8).bind fun lE => (if AR = true then (if lE.2 = true then ((bP.f jB).bind fun jA => (if jA = true then (some (jB, lE.1, true)) else (some ((⟨#[]⟩ : ByteArray), 0, false)))) else (some ((⟨#[]⟩ : ByteArray), 0, false))) else (some ((⟨#[]⟩ : ByteArray), 0, false)))) = some (r1, r2, r3) := H
 have A3 := ak jO
 clear jO
 replace H := Option.bind_eq_some_iff.mp H
 obtain ⟨⟨qa, AP⟩, so, H⟩ := H
 replace H : (if AR = true then (if AP = true then ((bP.f jB).bind fun jA => (if jA = true then (some (jB, qa, true)) else (some ((⟨#[]⟩ : ByteArray), 0, false)))) else (some ((⟨#[]⟩ : ByteArray), 0, false))) else (some ((⟨#[]⟩ : ByteArray), 0, false))) = some (r1, r2, r3) := H
 have A4 := ak so
 clear so
 by_cases c5 : AR = true
 ·subst c5
  replace H : (if AP = true then ((bP.f jB).bind fun jA => (if jA = true then (some (jB, qa, true)) else (some ((⟨#[]⟩ : ByteArray), 0, false)))) else (some ((⟨#[]⟩ : ByteArray), 0, false))) = some (r1, r2, r3) := by rw [if_pos rfl] at H; exact H
  by_cases c6 : AP = true
  ·subst c6
   replace H : ((bP.f jB).bind fun jA => (if jA = true then (some (jB, qa, true)) else (some ((⟨#[]⟩ : ByteArray), 0, false)))) = some (r1, r2, r3) := by rw [if_pos rfl] at H; exact H
   replace H := Option.bind_eq_some_iff.mp H
   obtain ⟨jA, yP, H⟩ := H
   replace H : (if jA = true then (some (jB, qa, true)) else (some ((⟨#[]⟩ : ByteArray), 0, false))) = some (r1, r2, r3) := H
   have A7 := ak yP
   clear yP
   by_cases c8 : jA = true
   ·subst c8
    replace H : (some (jB, qa, true)) = some (r1, r2, r3) := by rw [if_pos rfl] at H; exact H
    simp only [Option.some.injEq, Prod.mk.injEq] at H
    obtain ⟨rfl, rfl, rfl⟩ := H
    go_enter Tryz.func56, Tryz.ntmps56
    go_wp2_with (first | ((with_reducible refine au (f := 81) rfl ?_); refine gC (some 14) Tryz.func81 #[.string a0, .string (⟨#[97, 102, 102, 47]⟩ : ByteArray)] ?_; (with_reducible refine (strings_CutPrefix.calls a0 (⟨#[97, 102, 102, 47]⟩ : ByteArray) k9 true _ A2.out).mono ?_); rintro e w' ⟨rfl, ⟨nd, rfl⟩⟩; refine ⟨_, rfl, ?_⟩) | ((with_reducible refine au (f := 91) rfl ?_); refine gC (some 19) Tryz.func91 #[.string k9, .string (⟨#[47]⟩ : ByteArray)] ?_; (with_reducible refine (strings_Cut.calls k9 (⟨#[47]⟩ : ByteArray) jB k8 AQ _ A3.out).mono ?_); rintro e w9 ⟨rfl, hb⟩; refine ⟨_, rfl, ?_⟩; replace HB := bs hb; (try clear hb); (try clear aU); (try clear hk); (try clear hi)) | ((with_reducible refine au (f := 87) rfl ?_); refine gC (some 25) Tryz.func87 #[.string k8] ?_; (with_reducible refine (dp.calls k k8 qa true _ A4.out).mono ?_); rintro e uB ⟨rfl, hb⟩; refine ⟨_, rfl, ?_⟩; replace HB := bs hb; (try clear hb); (try clear aU); (try clear hk); (try clear hi)) | (go_at_call 92; (with_reducible refine (bP.calls jB true _ A7.out).mono ?_); rintro e Db ⟨rfl, hb⟩; replace HB := bs hb; (try clear hb); (try clear aU); (try clear hk); (try clear hi)))
    go_ret3
    exact ⟨rg, bl⟩
   ·replace c8 := Bool.eq_false_iff.mpr c8
    subst c8
    replace H : (some ((⟨#[]⟩ : ByteArray), 0, false)) = some (r1, r2, r3) := by rw [if_neg (show ¬ (false = true) by decide)] at H; exact H
    simp only [Option.some.injEq, Prod.mk.injEq] at H
    obtain ⟨rfl, rfl, rfl⟩ := H
    go_enter Tryz.func56, Tryz.ntmps56
    go_wp2_with (first | ((with_reducible refine au (f := 81) rfl ?_); refine gC (some 14) Tryz.func81 #[.string a0, .string (⟨#[97, 102, 102, 47]⟩ : ByteArray)] ?_; (with_reducible refine (strings_CutPrefix.calls a0 (⟨#[97, 102, 102, 47]⟩ : ByteArray) k9 true _ A2.out).mono ?_); rintro e w' ⟨rfl, ⟨nd, rfl⟩⟩; refine ⟨_, rfl, ?_⟩) | ((with_reducible refine au (f := 91) rfl ?_); refine gC (some 19) Tryz.func91 #[.string k9, .string (⟨#[47]⟩ : ByteArray)] ?_; (with_reducible refine (strings_Cut.calls k9 (⟨#[47]⟩ : ByteArray) jB k8 AQ _ A3.out).mono ?_); rintro e KR ⟨rfl, hb⟩; refine ⟨_, rfl, ?_⟩; replace HB := bs hb; (try clear hb); (try clear aU); (try clear hk); (try clear hi)) | ((with_reducible refine au (f := 87) rfl ?_); refine gC (some 25) Tryz.func87 #[.string k8] ?_; (with_reducible refine (dp.calls k k8 qa true _ A4.out).mono ?_); rintro e tj ⟨rfl, hb⟩; refine ⟨_, rfl, ?_⟩; replace HB := bs hb; (try clear hb); (try clear aU); (try clear hk); (try clear hi)) | (go_at_call 92; (with_reducible refine (bP.calls jB false _ A7.out).mono ?_); rintro e X5 ⟨rfl, hb⟩; replace HB := bs hb; (try clear hb); (try clear aU); (try clear hk); (try clear hi)))
    go_ret3
    exact ⟨rg, bl⟩
  ·replace c6 := Bool.eq_false_iff.mpr c6
   subst c6
   replace H : (some ((⟨#[]⟩ : ByteArray), 0, false)) = some (r1, r2, r3) := by rw [if_neg (show ¬ (false = true) by decide)] at H; exact H
   simp only [Option.some.injEq, Prod.mk.injEq] at H
   obtain ⟨rfl, rfl, rfl⟩ := H
   go_enter Tryz.func56, Tryz.ntmps56
   go_wp2_with (first | ((with_reducible refine au (f := 81) rfl ?_); refine gC (some 14) Tryz.func81 #[.string a0, .string (⟨#[97, 102, 102, 47]⟩ : ByteArray)] ?_; (with_reducible refine (strings_CutPrefix.calls a0 (⟨#[97, 102, 102, 47]⟩ : ByteArray) k9 true _ A2.out).mono ?_); rintro e w' ⟨rfl, ⟨nd, rfl⟩⟩; refine ⟨_, rfl, ?_⟩) | ((with_reducible refine au (f := 91) rfl ?_); refine gC (some 19) Tryz.func91 #[.string k9, .string (⟨#[47]⟩ : ByteArray)] ?_; (with_reducible refine (strings_Cut.calls k9 (⟨#[47]⟩ : ByteArray) jB k8 AQ _ A3.out).mono ?_); rintro e vG ⟨rfl, hb⟩; refine ⟨_, rfl, ?_⟩; replace HB := bs hb; (try clear hb); (try clear aU); (try clear hk); (try clear hi)) | ((with_reducible refine au (f := 87) rfl ?_); refine gC (some 25) Tryz.func87 #[.string k8] ?_; (with_reducible refine (dp.calls k k8 qa false _ A4.out).mono ?_); rintro e Pv ⟨rfl, hb⟩; refine ⟨_, rfl, ?_⟩; replace HB := bs hb; (try clear hb); (try clear aU); (try clear hk); (try clear hi)))
   go_ret3
   exact ⟨rg, bl⟩
 ·replace c5 := Bool.eq_false_iff.mpr c5
  subst c5
  replace H : (some ((⟨#[]⟩ : ByteArray), 0, false)) = some (r1, r2, r3) := by rw [if_neg (show ¬ (false = true) by decide)] at H; exact H
  simp only [Option.some.injEq, Prod.mk.injEq] at H
  obtain ⟨rfl, rfl, rfl⟩ := H
  go_enter Tryz.func56, Tryz.ntmps56
  go_wp2_with (first | ((with_reducible refine au (f := 81) rfl ?_); refine gC (some 14) Tryz.func81 #[.string a0, .string (⟨#[97, 102, 102, 47]⟩ : ByteArray)] ?_; (with_reducible refine (strings_CutPrefix.calls a0 (⟨#[97, 102, 102, 47]⟩ : ByteArray) k9 false _ A2.out).mono ?_); rintro e w' ⟨rfl, ⟨nd, rfl⟩⟩; refine ⟨_, rfl, ?_⟩) | ((with_reducible refine au (f := 91) rfl ?_); refine gC (some 19) Tryz.func91 #[.string k9, .string (⟨#[47]⟩ : ByteArray)] ?_; (with_reducible refine (strings_Cut.calls k9 (⟨#[47]⟩ : ByteArray) jB k8 AQ _ A3.out).mono ?_); rintro e xW ⟨rfl, hb⟩; refine ⟨_, rfl, ?_⟩; replace HB := bs hb; (try clear hb); (try clear aU); (try clear hk); (try clear hi)) | ((with_reducible refine au (f := 87) rfl ?_); refine gC (some 25) Tryz.func87 #[.string k8] ?_; (with_reducible refine (dp.calls k k8 qa AP _ A4.out).mono ?_); rintro e Pu ⟨rfl, hb⟩; refine ⟨_, rfl, ?_⟩; replace HB := bs hb; (try clear hb); (try clear aU); (try clear hk); (try clear hi)))
  go_ret3
  exact ⟨rg, bl⟩
end
section
theorem pre_true (s p : ByteArray) (t : List UInt8) (h : s.data.toList = p.data.toList ++ t) : ∃ q, strings_CutPrefix.f s p = some (q, true) ∧ q.data.toList = t := by
 have h1 := cG s; have h2 := cG p
 have hs : s.size = p.size + t.length := by rw [← h1, ← h2, h, List.length_append]
 have e : (s.extract 0 p.size).toList = p.toList := by
  rw [Lib.toList_data, Lib.toList_data, Lib.extract_from_zero, h, ← h2]
  simp
 refine ⟨s.extract p.size s.size, ?_, ?_⟩
 ·unfold strings_CutPrefix.f stringslite_CutPrefix.f stringslite_HasPrefix.f
  rw [if_pos (by omega), if_pos (by omega), if_pos (by omega), Option.bind_some, Int.toNat_natCast, e]
  rw [if_pos (by simp), if_pos (by omega), if_pos (by omega)]
  rfl
 ·rw [Lib.extract_to_end, h, ← h2]
  simp
theorem Ii (s p : ByteArray) : (∃ q, strings_CutPrefix.f s p = some (q, true) ∧ s.data.toList = p.data.toList ++ q.data.toList) ∨ (strings_CutPrefix.f s p = some (s, false)) := by
 by_cases h : p.data.toList <+: s.data.toList
 ·obtain ⟨t, ht⟩ := h
  obtain ⟨q, h1, h2⟩ := pre_true s p t ht.symm
  exact .inl ⟨q, h1, by rw [h2, ht]⟩
 ·refine .inr ?_
  unfold strings_CutPrefix.f stringslite_CutPrefix.f stringslite_HasPrefix.f
  by_cases hs : (s.size : Int) ≥ (p.size : Int)
  ·have e : ((s.extract 0 p.size).toList == p.toList) = false := by
    rw [beq_eq_false_iff_ne, Lib.toList_data, Lib.toList_data, Lib.extract_from_zero]
    intro he
    exact h (he ▸ List.take_prefix _ _)
   rw [if_pos hs, if_pos (by omega), if_pos (by omega), Option.bind_some, Int.toNat_natCast, e, if_neg (by decide)]
   rfl
  ·rw [if_neg hs, Option.bind_some, if_neg (by decide)]
   rfl
theorem WK (v n : Nat) (hv : v < 4294967296) (hn : n ≤ 32) (hd : v % sz n = 0) (k : Nat) (hk : 4 ≤ k) : jL.f k (v : Int) (n : Int) = some (jm v n) := by
 obtain ⟨h1, h2⟩ := KY hn hd
 have hz := ln hn hd
 have hsz : (gD v (n : Int)).size < 1000000 := by
  have := DO n; have := zC v
  unfold gD
  rw [if_pos (E9 hn hd), ByteArray.size_append, ByteArray.size_append, Fe, Int.toNat_natCast]
  omega
 unfold jL.f strings_Replace.f
 rw [Ih v hv _ k hk, Option.bind_some, if_pos ⟨hsz, rfl, rfl, rfl, by omega⟩, Option.bind_some, h1, Int.toNat_natCast]
 congr 1
 unfold F6 jm
 rw [h2]
theorem Ce (s : ByteArray) (hs : s.size ≤ 1000) (k : Nat) (hk : 4 ≤ k) : ey.f k s = some (match fZ s with | some (v, n) => ((v : Int), (n : Int), true) | none => (0, 0, false)) := by
 have hc := pE 45 s
 have hcut : strings_Cut.f s (⟨#[45]⟩ : ByteArray) = some (bY 45 s) := by
  unfold strings_Cut.f
  rw [if_pos (by omega)]
 unfold ey.f fZ
 rw [hcut, Option.bind_some, if_pos (by omega), if_pos (by rw [ByteArray.size_append, Fe]; omega)]
 have hp : ix.f ((bY 45 s).1 ++ (⟨#[47]⟩ : ByteArray) ++ (bY 45 s).2.1) = some (mQ ((bY 45 s).1 ++ (⟨#[47]⟩ : ByteArray) ++ (bY 45 s).2.1)) := by
  unfold ix.f
  rw [if_pos (by rw [ByteArray.size_append, ByteArray.size_append, Fe]; omega)]
 rw [hp, Option.bind_some, OD]
 cases hq : oR ((bY 45 s).1 ++ (⟨#[47]⟩ : ByteArray) ++ (bY 45 s).2.1) with
 | none => rfl
 | some q =>
  obtain ⟨v, n⟩ := q
  obtain ⟨g1, g2, g3, _⟩ := tG hq
  rw [if_pos rfl, WK v n g1 g2 g3 k hk, Option.bind_some, Option.bind_some]
  by_cases he : jm v n = s
  ·rw [if_pos (by rw [he]), if_pos he]
  ·rw [if_neg (fun h => he (fh (uP h))), if_neg he]
theorem Zd : sz 26 = 64 := by decide
def wD (a : Nat) : Nat := a - a % 64
def oL (s : ByteArray) : Option Nat := (fZ s).bind fun q => if q.2 = 26 then some q.1 else none
theorem JU {s : ByteArray} {v : Nat} (h : oL s = some v) : v < 4294967296 ∧ v % sz 26 = 0 ∧ s = jm v 26 ∧ wD v = v := by
 unfold oL at h
 obtain ⟨⟨u, n⟩, h1, h2⟩ := Option.bind_eq_some_iff.1 h
 split at h2
 ·rename_i hn
  obtain rfl : n = 26 := hn
  obtain rfl : u = v := Option.some.inj h2
  obtain ⟨g1, g2, g3, g4⟩ := oo h1
  refine ⟨g1, g3, g4, ?_⟩
  rw [Zd] at g3
  unfold wD
  omega
 ·cases h2
theorem pd (s : ByteArray) (hs : s.size ≤ 1000) (k : Nat) (hk : 4 ≤ k) : dp.f k s = some (match oL s with | some v => ((v : Int), true) | none => (0, false)) := by
 unfold dp.f oL
 rw [Ce s hs k hk, Option.bind_some]
 cases fZ s with
 | none => rfl
 | some q =>
  obtain ⟨v, n⟩ := q
  rw [if_pos rfl, Option.bind_some]
  by_cases h : n = 26
  ·subst h
   rfl
  ·have hn : ¬ ((n : Int) = 26) := by omega
   simp [h, hn]
end
end Go.Proofs.YtndddnglapkplaaGreatDoor.V
