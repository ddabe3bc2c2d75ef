/- The law ViewOf for every input: texts of ours, put together (part 5 of 17). No further condition. -/
import Derived.Test.YtndddnglapkplaaGreatDoorCViewOfx2
import Derived.Test.YtndddnglapkplaaGreatDoorCViewOfx3
import Derived.Outline
import Derived.WalkSpells
set_option linter.unusedVariables false
set_option linter.unusedSimpArgs false
set_option linter.unusedSectionVars false
open Go.RowKit Go.Proofs.YtndddnglapkplaaGreatDoorW.PrintWords Go.Proofs.YtndddnglapkplaaGreatDoorW.PrintLast Go.Proofs.YtndddnglapkplaaGreatDoorW.PrintMore Go.Proofs.YtndddnglapkplaaGreatDoor.Z
namespace Go.Proofs.YtndddnglapkplaaGreatDoor.V
section
structure BkOk (b : Bk) : Prop where
 a0 : 0 ≤ b.addr
 a1 : b.addr < 4294967296
 s8 : dC b.slots
 f8 : dC b.free
def se (a : Int) : Int := a - a % 64
theorem OM (n : Nat) : n &&& 4294967232 = n % 4294967296 - n % 64 := by
 have h1 : n &&& 4294967232 = (n % 4294967296) &&& 4294967232 := by
  apply Nat.eq_of_testBit_eq
  intro i
  rw [Nat.testBit_and, Nat.testBit_and, show (4294967296 : Nat) = 2 ^ 32 from rfl, Nat.testBit_mod_two_pow]
  by_cases h : i < 32
  ·simp [h]
  ·have : (4294967232 : Nat).testBit i = false := Nat.testBit_lt_two_pow (Nat.lt_of_lt_of_le (show (4294967232 : Nat) < 2 ^ 32 by decide) (Nat.pow_le_pow_right (by omega) (by omega)))
   rw [this]
   simp
 have h2 : (n % 4294967296) &&& 4294967232 = (n % 4294967296) / 64 * 64 := by
  apply Nat.eq_of_testBit_eq
  intro i
  rw [Nat.testBit_and, show (64 : Nat) = 2 ^ 6 from rfl, Nat.testBit_mul_two_pow, Nat.testBit_div_two_pow]
  rw [show (4294967232 : Nat) = 67108863 * 2 ^ 6 from rfl, Nat.testBit_mul_two_pow, show (67108863 : Nat) = 2 ^ 26 - 1 from rfl, Nat.testBit_two_pow_sub_one]
  by_cases h6 : 6 ≤ i
  ·by_cases h32 : i < 32
   ·have e : 6 + (i - 6) = i := by omega
    simp [h6, show i - 6 < 26 by omega, e]
   ·have : (n % 4294967296).testBit i = false := Nat.testBit_lt_two_pow (Nat.lt_of_lt_of_le (Nat.mod_lt _ (by decide)) (Nat.pow_le_pow_right (n := 2) (by omega) (show 32 ≤ i by omega)))
    simp [this, h6, show ¬ (i - 6 < 26) by omega]
  ·simp [h6]
 rw [h1, h2]
 omega
theorem ID (a : Int) (h0 : 0 ≤ a) (h1 : a < 4294967296) : il.f a = some (se a) := by
 obtain ⟨n, rfl⟩ : ∃ n : Nat, a = (n : Int) := ⟨a.toNat, by omega⟩
 unfold il.f se
 rw [show gz.f 26 = some ((4294967232 : Nat) : Int) from rfl, Option.bind_some]
 congr 1
 rw [u32_and_nat n 4294967232 (by omega) (by omega), OM]
 omega
def mg (s : ByteArray) : Bool := decide (s.toList = []) || bU s
theorem Q1 (s : ByteArray) : jM.f s = some (mg s) := by
 unfold jM.f bP.f mg
 by_cases h : s.toList = []
 ·rw [if_pos h]; simp [h]
 ·rw [if_neg h]; simp [h]
def fl (b : Bk) : Bool := (se b.addr == b.addr) && (mg b.aff && (decide (b.attrs.length ≤ 64) && (lH b && lA b)))
def iB.T1 : Bool × List (List Nat × List Nat) := (true, [([], []), ([0], [0]), ([1], [1]), ([], []), ([3], [3]), ([2, 4], [2, 4]), ([5, 2], [5]), ([6], [6]), ([7, 6], [6, 7]), ([8, 6, 6], [6, 8]), ([6, 9], [6, 9]), ([10, 9], [10]), ([11], [11]), ([12, 11], [11, 12]), ([13, 11], [11, 13]), ([14, 11], [11, 14]), ([11, 15], [11, 15]), ([16, 11], [16]), ([17], [17]), ([18, 17, 17], [17, 18]), ([17, 19], [17, 19]), ([20, 19], [20]), ([21], [21]), ([22, 21, 21], [21, 22]), ([21, 23], [21, 23]), ([24, 23, 0, 1, 2, 3, 4, 5, 6, 7, 8, 9, 10, 11, 12, 13, 14, 15, 16, 17, 18, 19, 20, 21, 22, 23, 24], [24])])
def iB.B1 : List Nat := [0, 1, 3, 0, 8, 31, 63, 127, 255, 511, 1023, 2047, 4095, 8191, 16383, 32767, 65535, 131071, 262143, 524287, 1048575, 2097151, 4194303, 8388607, 16777215, 33554431]
theorem iB.tab1 : dA .any (opsOf Tryz.f76 1) = iB.T1 := by kernel_rfl
theorem iB.bits1 : dy iB.T1.2 iB.B1 = true := by kernel_rfl
set_option maxHeartbeats 8000000 in
set_option maxRecDepth 100000 in
theorem AZ (b : Bk) (hk : BkOk b) (v : Value) (w : World) (h : sm w v b) :
  Calls Tryz.prog 76 #[v] w fun e w' => e = .returned (.bool (fl b)) ∧ Below w.heap.size w w' := by
 obtain ⟨A, c, A', c', rfl, hr⟩ := h
 have HL := ak hr.l64
 have HR := ak hr
 have HS := ak hk.s8
 have HF := ak hk.f8
 have wV := ak (ID b.addr hk.a0 hk.a1)
 have xO := ak (Q1 b.aff)
 have HLL := ak (show (Tryz.prog.info? 64).map (·.size) = some (eY b.addr b.aff b.slots (.slice A b.free.length c) (.slice A' b.attrs.length c')).length by rw [iz _ _ _ _ _ hr.l64]; kernel_rfl)
 clear hr hk
 go_enter Tryz.func76, Tryz.ntmps76
 go_wp2_with (refine cH rfl 64 (.tmp 0) rfl _ rfl ?_; intro g W1 hg hbx aw; have HX := ak (show bC W1.drew g _ _ from hbx); have HB := ak (bu aw); have ke := ak ((HR.out.below aw).below (bu (Below.refl W1.heap.size W1))); have HZ := ak (Below.refl W1.drew.heap.size W1.drew); clear hbx aw hg HR)
 cases h1 : (se b.addr == b.addr) with
 | false =>
  have HV := ak (show fl b = false by unfold fl; rw [h1]; rfl)
  refine dV (n := 26) (S := fun w' => bC w' g (eY b.addr b.aff b.slots (.slice A b.free.length c) (.slice A' b.attrs.length c')) 64) (ds := []) #[false, false, false, false, false, false, false, false, false, false, false, false, false, false, false, false, false, false, false, false, false, false, false, false, false, false] (by kernel_rfl) rfl rfl HX.out (fun hHeld => ?_); refine cz iB.tab1 iB.bits1 (fun aa bV => ?_)
  refine pu 0 aa.out ?_
  refine tk 1 aa.out bV.out hHeld ?_ (hv := by intro w' bx; have s0 := bx.cell 0 _ rfl; go_simp; with_reducible rfl)
  refine pu 3 aa.out ?_
  refine tk 4 aa.out bV.out hHeld ?_ (hv := by intro w' bx; have s0 := bx.cell 0 _ rfl; go_simp; with_reducible rfl)
  refine on 2 aa.out (fun K hK => ?_)
  refine gs Tryz.func106 #[.int .u32 b.addr] (il.calls _ _ _ wV.out) ?_
  rintro e V2 ⟨rfl, hb⟩
  refine ⟨_, rfl, ?_⟩
  have HXn := hHeld.below hb; have HZn := ak (dj HZ.out hb); clear HZ; have HZ := HZn; clear HZn hb
  refine kn hK HXn (fun hHeld => ?_)
  clear hK K
  refine pu 5 aa.out ?_
  refine pu 6 aa.out ?_
  refine po 7 aa.out ?_
  refine po 8 aa.out ?_
  refine po 9 aa.out ?_
  refine pu 10 aa.out ?_
  refine pu 11 aa.out ?_
  refine po 12 aa.out ?_
  refine po 13 aa.out ?_
  refine po 14 aa.out ?_
  refine po 15 aa.out ?_
  refine pu 16 aa.out ?_
  refine pu 17 aa.out ?_
  refine po 18 aa.out ?_
  refine po 19 aa.out ?_
  refine pu 20 aa.out ?_
  refine pu 21 aa.out ?_
  refine po 22 aa.out ?_
  refine po 23 aa.out ?_
  refine pu 24 aa.out ?_
  refine pu 25 aa.out ?_
  refine dn aa.out ?_
  try go_wp2
  go_ret
  refine ⟨?_, HB.out.trans (HZ.out.mono HB.out.size)⟩
  rw [HV.out]; rfl
 | true =>
  cases h2 : mg b.aff with
  | false =>
   have HV := ak (show fl b = false by unfold fl; rw [h1, h2]; rfl)
   rw [h2] at xO
   refine dV (n := 26) (S := fun w' => bC w' g (eY b.addr b.aff b.slots (.slice A b.free.length c) (.slice A' b.attrs.length c')) 64) (ds := []) #[false, false, false, false, false, false, false, false, false, false, false, false, false, false, false, false, false, false, false, false, false, false, false, false, false, false] (by kernel_rfl) rfl rfl HX.out (fun hHeld => ?_); refine cz iB.tab1 iB.bits1 (fun aa bV => ?_)
   refine pu 0 aa.out ?_
   refine tk 1 aa.out bV.out hHeld ?_ (hv := by intro w' bx; have s0 := bx.cell 0 _ rfl; go_simp; with_reducible rfl)
   refine pu 3 aa.out ?_
   refine tk 4 aa.out bV.out hHeld ?_ (hv := by intro w' bx; have s0 := bx.cell 0 _ rfl; go_simp; with_reducible rfl)
   refine on 2 aa.out (fun K hK => ?_)
   refine gs Tryz.func106 #[.int .u32 b.addr] (il.calls _ _ _ wV.out) ?_
   rintro e V2 ⟨rfl, hb⟩
   refine ⟨_, rfl, ?_⟩
   have HXn := hHeld.below hb; have HZn := ak (dj HZ.out hb); clear HZ; have HZ := HZn; clear HZn hb
   refine kn hK HXn (fun hHeld => ?_)
   clear hK K
   refine pu 5 aa.out ?_
   refine pu 6 aa.out ?_
   refine pu 7 aa.out ?_
   refine tk 8 aa.out bV.out hHeld ?_ (hv := by intro w' bx; have s0 := bx.cell 1 _ rfl; go_simp; with_reducible rfl)
   refine on 9 aa.out (fun K hK => ?_)
   refine gs Tryz.func107 #[.string b.aff] (jM.calls _ _ _ xO.out) ?_
   rintro e V9 ⟨rfl, hb⟩
   refine ⟨_, rfl, ?_⟩
   have HXn := hHeld.below hb; have HZn := ak (dj HZ.out hb); clear HZ; have HZ := HZn; clear HZn hb
   refine kn hK HXn (fun hHeld => ?_)
   clear hK K
   refine pu 10 aa.out ?_
   refine pu 11 aa.out ?_
   refine po 12 aa.out ?_
   refine po 13 aa.out ?_
   refine po 14 aa.out ?_
   refine po 15 aa.out ?_
   refine pu 16 aa.out ?_
   refine pu 17 aa.out ?_
   refine po 18 aa.out ?_
   refine po 19 aa.out ?_
   refine pu 20 aa.out ?_
   refine pu 21 aa.out ?_
   refine po 22 aa.out ?_
   refine po 23 aa.out ?_
   refine pu 24 aa.out ?_
   refine pu 25 aa.out ?_
   refine dn aa.out ?_
   try go_wp2
   go_ret
   refine ⟨?_, HB.out.trans (HZ.out.mono HB.out.size)⟩
   rw [HV.out]; rfl
  | true =>
   rw [h2] at xO
   by_cases h3 : b.attrs.length ≤ 64
   ·have h3b : decide ((b.attrs.length : Int) ≤ 64) = true := by simp; omega
    have HN := ak h3
    cases h4 : lH b with
    | false =>
     have HV := ak (show fl b = false by unfold fl; rw [h1, h2, h4]; simp)
     have pO := ak h4
     refine dV (n := 26) (S := fun w' => bC w' g (eY b.addr b.aff b.slots (.slice A b.free.length c) (.slice A' b.attrs.length c')) 64) (ds := []) #[false, false, false, false, false, false, false, false, false, false, false, false, false, false, false, false, false, false, false, false, false, false, false, false, false, false] (by kernel_rfl) rfl rfl HX.out (fun hHeld => ?_); refine cz iB.tab1 iB.bits1 (fun aa bV => ?_)
     refine pu 0 aa.out ?_
     refine tk 1 aa.out bV.out hHeld ?_ (hv := by intro w' bx; have s0 := bx.cell 0 _ rfl; go_simp; with_reducible rfl)
     refine pu 3 aa.out ?_
     refine tk 4 aa.out bV.out hHeld ?_ (hv := by intro w' bx; have s0 := bx.cell 0 _ rfl; go_simp; with_reducible rfl)
     refine on 2 aa.out (fun K hK => ?_)
     refine gs Tryz.func106 #[.int .u32 b.addr] (il.calls _ _ _ wV.out) ?_
     rintro e V2 ⟨rfl, hb⟩
     refine ⟨_, rfl, ?_⟩
     have HXn := hHeld.below hb; have HZn := ak (dj HZ.out hb); clear HZ; have HZ := HZn; clear HZn hb
     refine kn hK HXn (fun hHeld => ?_)
     clear hK K
     refine pu 5 aa.out ?_
     refine pu 6 aa.out ?_
     refine pu 7 aa.out ?_
     refine tk 8 aa.out bV.out hHeld ?_ (hv := by intro w' bx; have s0 := bx.cell 1 _ rfl; go_simp; with_reducible rfl)
     refine on 9 aa.out (fun K hK => ?_)
     refine gs Tryz.func107 #[.string b.aff] (jM.calls _ _ _ xO.out) ?_
     rintro e V9 ⟨rfl, hb⟩
     refine ⟨_, rfl, ?_⟩
     have HXn := hHeld.below hb; have HZn := ak (dj HZ.out hb); clear HZ; have HZ := HZn; clear HZn hb
     refine kn hK HXn (fun hHeld => ?_)
     clear hK K
     refine pu 10 aa.out ?_
     refine pu 11 aa.out ?_
     refine pu 12 aa.out ?_
     refine tk 13 aa.out bV.out hHeld ?_ (hv := by intro w' bx; have s0 := bx.cell 67 _ (si _ _ _ _ _ HL.out); go_simp; with_reducible rfl)
     refine pu 14 aa.out ?_
     refine pu 15 aa.out ?_
     refine pu 16 aa.out ?_
     refine pu 17 aa.out ?_
     refine tk 18 aa.out bV.out hHeld ?_ (hv := by exact fun _ bx => iq 64 (.tmp 1) rfl g rfl _ _ _ bx Tryz.underlying64 rfl HLL.out)
     refine on 19 aa.out (fun K hK => ?_)
     refine gs Tryz.func108 #[.agg (eY b.addr b.aff b.slots (.slice A b.free.length c) (.slice A' b.attrs.length c')).toArray] (DR b HS.out HN.out _ _ ⟨A, c, A', c', rfl, ke.out.below HZ.out⟩) ?_
     rintro e V19 ⟨rfl, hb⟩
     refine ⟨_, rfl, ?_⟩
     have HXn := hHeld.below hb; rw [pO.out]; have HZn := ak (dj HZ.out hb); clear HZ; have HZ := HZn; clear HZn hb
     refine kn hK HXn (fun hHeld => ?_)
     clear hK K
     refine pu 20 aa.out ?_
     refine pu 21 aa.out ?_
     refine po 22 aa.out ?_
     refine po 23 aa.out ?_
     refine pu 24 aa.out ?_
     refine pu 25 aa.out ?_
     refine dn aa.out ?_
     try go_wp2
     go_ret
     refine ⟨?_, HB.out.trans (HZ.out.mono HB.out.size)⟩
     rw [HV.out]; rfl
    | true =>
     have HV := ak (show fl b = lA b by unfold fl; rw [h1, h2, h4, decide_eq_true h3]; rfl)
     have pO := ak h4
     refine dV (n := 26) (S := fun w' => bC w' g (eY b.addr b.aff b.slots (.slice A b.free.length c) (.slice A' b.attrs.length c')) 64) (ds := []) #[false, false, false, false, false, false, false, false, false, false, false, false, false, false, false, false, false, false, false, false, false, false, false, false, false, false] (by kernel_rfl) rfl rfl HX.out (fun hHeld => ?_); refine cz iB.tab1 iB.bits1 (fun aa bV => ?_)
     refine pu 0 aa.out ?_
     refine tk 1 aa.out bV.out hHeld ?_ (hv := by intro w' bx; have s0 := bx.cell 0 _ rfl; go_simp; with_reducible rfl)
     refine pu 3 aa.out ?_
     refine tk 4 aa.out bV.out hHeld ?_ (hv := by intro w' bx; have s0 := bx.cell 0 _ rfl; go_simp; with_reducible rfl)
     refine on 2 aa.out (fun K hK => ?_)
     refine gs Tryz.func106 #[.int .u32 b.addr] (il.calls _ _ _ wV.out) ?_
     rintro e V2 ⟨rfl, hb⟩
     refine ⟨_, rfl, ?_⟩
     have HXn := hHeld.below hb; have HZn := ak (dj HZ.out hb); clear HZ; have HZ := HZn; clear HZn hb
     refine kn hK HXn (fun hHeld => ?_)
     clear hK K
     refine pu 5 aa.out ?_
     refine pu 6 aa.out ?_
     refine pu 7 aa.out ?_
     refine tk 8 aa.out bV.out hHeld ?_ (hv := by intro w' bx; have s0 := bx.cell 1 _ rfl; go_simp; with_reducible rfl)
     refine on 9 aa.out (fun K hK => ?_)
     refine gs Tryz.func107 #[.string b.aff] (jM.calls _ _ _ xO.out) ?_
     rintro e V9 ⟨rfl, hb⟩
     refine ⟨_, rfl, ?_⟩
     have HXn := hHeld.below hb; have HZn := ak (dj HZ.out hb); clear HZ; have HZ := HZn; clear HZn hb
     refine kn hK HXn (fun hHeld => ?_)
     clear hK K
     refine pu 10 aa.out ?_
     refine pu 11 aa.out ?_
     refine pu 12 aa.out ?_
     refine tk 13 aa.out bV.out hHeld ?_ (hv := by intro w' bx; have s0 := bx.cell 67 _ (si _ _ _ _ _ HL.out); go_simp; with_reducible rfl)
     refine pu 14 aa.out ?_
     refine pu 15 aa.out ?_
     refine pu 16 aa.out ?_
     refine pu 17 aa.out ?_
     refine tk 18 aa.out bV.out hHeld ?_ (hv := by exact fun _ bx => iq 64 (.tmp 1) rfl g rfl _ _ _ bx Tryz.underlying64 rfl HLL.out)
     refine on 19 aa.out (fun K hK => ?_)
     refine gs Tryz.func108 #[.agg (eY b.addr b.aff b.slots (.slice A b.free.length c) (.slice A' b.attrs.length c')).toArray] (DR b HS.out HN.out _ _ ⟨A, c, A', c', rfl, ke.out.below HZ.out⟩) ?_
     rintro e V19 ⟨rfl, hb⟩
     refine ⟨_, rfl, ?_⟩
     have HXn := hHeld.below hb; rw [pO.out]; have HZn := ak (dj HZ.out hb); clear HZ; have HZ := HZn; clear HZn hb
     refine kn hK HXn (fun hHeld => ?_)
     clear hK K
     refine pu 20 aa.out ?_
     refine pu 21 aa.out ?_
     refine tk 22 aa.out bV.out hHeld ?_ (hv := by exact fun _ bx => iq 64 (.tmp 1) rfl g rfl _ _ _ bx Tryz.underlying64 rfl HLL.out)
     refine on 23 aa.out (fun K hK => ?_)
     refine gs Tryz.func109 #[.agg (eY b.addr b.aff b.slots (.slice A b.free.length c) (.slice A' b.attrs.length c')).toArray] (Oo b HF.out HS.out _ _ ⟨A, c, A', c', rfl, ke.out.below HZ.out⟩) ?_
     rintro e V23 ⟨rfl, hb⟩
     refine ⟨_, rfl, ?_⟩
     have HXn := hHeld.below hb; have HZn := ak (dj HZ.out hb); clear HZ; have HZ := HZn; clear HZn hb
     refine kn hK HXn (fun hHeld => ?_)
     clear hK K
     refine pu 24 aa.out ?_
     refine pu 25 aa.out ?_
     refine dn aa.out ?_
     try go_wp2
     go_ret
     refine ⟨?_, HB.out.trans (HZ.out.mono HB.out.size)⟩
     rw [HV.out]; rfl
   ·have h3b : decide ((b.attrs.length : Int) ≤ 64) = false := by simp; omega
    have HV := ak (show fl b = false by unfold fl; rw [h1, h2, decide_eq_false h3]; rfl)
    refine dV (n := 26) (S := fun w' => bC w' g (eY b.addr b.aff b.slots (.slice A b.free.length c) (.slice A' b.attrs.length c')) 64) (ds := []) #[false, false, false, false, false, false, false, false, false, false, false, false, false, false, false, false, false, false, false, false, false, false, false, false, false, false] (by kernel_rfl) rfl rfl HX.out (fun hHeld => ?_); refine cz iB.tab1 iB.bits1 (fun aa bV => ?_)
    refine pu 0 aa.out ?_
    refine tk 1 aa.out bV.out hHeld ?_ (hv := by intro w' bx; have s0 := bx.cell 0 _ rfl; go_simp; with_reducible rfl)
    refine pu 3 aa.out ?_
    refine tk 4 aa.out bV.out hHeld ?_ (hv := by intro w' bx; have s0 := bx.cell 0 _ rfl; go_simp; with_reducible rfl)
    refine on 2 aa.out (fun K hK => ?_)
    refine gs Tryz.func106 #[.int .u32 b.addr] (il.calls _ _ _ wV.out) ?_
    rintro e V2 ⟨rfl, hb⟩
    refine ⟨_, rfl, ?_⟩
    have HXn := hHeld.below hb; have HZn := ak (dj HZ.out hb); clear HZ; have HZ := HZn; clear HZn hb
    refine kn hK HXn (fun hHeld => ?_)
    clear hK K
    refine pu 5 aa.out ?_
    refine pu 6 aa.out ?_
    refine pu 7 aa.out ?_
    refine tk 8 aa.out bV.out hHeld ?_ (hv := by intro w' bx; have s0 := bx.cell 1 _ rfl; go_simp; with_reducible rfl)
    refine on 9 aa.out (fun K hK => ?_)
    refine gs Tryz.func107 #[.string b.aff] (jM.calls _ _ _ xO.out) ?_
    rintro e V9 ⟨rfl, hb⟩
    refine ⟨_, rfl, ?_⟩
    have HXn := hHeld.below hb; have HZn := ak (dj HZ.out hb); clear HZ; have HZ := HZn; clear HZn hb
    refine kn hK HXn (fun hHeld => ?_)
    clear hK K
    refine pu 10 aa.out ?_
    refine pu 11 aa.out ?_
    refine pu 12 aa.out ?_
    refine tk 13 aa.out bV.out hHeld ?_ (hv := by intro w' bx; have s0 := bx.cell 67 _ (si _ _ _ _ _ HL.out); go_simp; with_reducible rfl)
    refine pu 14 aa.out ?_
    refine pu 15 aa.out ?_
    refine pu 16 aa.out ?_
    refine pu 17 aa.out ?_
    refine po 18 aa.out ?_
    refine po 19 aa.out ?_
    refine pu 20 aa.out ?_
    refine pu 21 aa.out ?_
    refine po 22 aa.out ?_
    refine po 23 aa.out ?_
    refine pu 24 aa.out ?_
    refine pu 25 aa.out ?_
    refine dn aa.out ?_
    try go_wp2
    go_ret
    refine ⟨?_, HB.out.trans (HZ.out.mono HB.out.size)⟩
    rw [HV.out]; rfl
end
section
theorem kA : (Tryz.prog.info? 5).map (fun i => (i.zero, i.size, i.bytes)) = some (some (.int .u8 0), 1, 1) := by kernel_rfl
theorem Rl : (Tryz.prog.info? 81).map (fun i => (i.zero, i.size, i.bytes)) = some (some (.agg #[.string ⟨#[]⟩, .string ⟨#[]⟩]), 2, 32) := by kernel_rfl
theorem KM {α : Type} {d : Kd α} {w : World} {xs : List α} (h : Kd.C d w none xs.length xs) : xs = [] := by
 rcases Nat.eq_zero_or_pos xs.length with h0 | h0
 ·exact List.eq_nil_of_length_eq_zero h0
 ·obtain ⟨ad, he, _⟩ := h.2.2 h0
  cases he
set_option maxHeartbeats 2000000 in
set_option maxRecDepth 100000 in
theorem Sr (xs : List Int) (A : Option Addr) (c : Nat) (w : World) (hr : Kd.C (Kd.int .u8) w A xs.length xs) (hc : xs.length ≤ c) (hl : xs.length ≤ 4294967296) :
  Calls Tryz.prog 113 #[.slice A xs.length c] w fun e w' => ∃ v, e = .returned v ∧ Kd.R (Kd.int .u8) 5 w' w.heap.size (fun _ => True) v xs ∧ Below w.heap.size w w' := by
 have q48 : ∀ (w : World) (a : Option Addr) (n c n' c' : Nat), (binOp .eql 61 (.slice a n c) (.slice none n' c')).run Tryz.prog w = .ok (.bool a.isNone) w := fun w a n c n' c' => Lib.run_eql_slice_nil w _ _ a n c n' c' Tryz.underlying61
 cases A with
 | none =>
  obtain rfl := KM hr
  clear hr
  go_enter Tryz.func113, Tryz.ntmps113
  go_wp2
  go_ret
  exact ⟨_, rfl, Kd.R_nil _ _ _ _ _, Below.refl _ _⟩
 | some ad =>
  have HR := ak hr
  have HL := ak hl
  clear hr hl
  go_enter Tryz.func113, Tryz.ntmps113
  go_wp2_with (first
   | ((with_reducible refine af (N := 5) rfl ?_); refine Kd.R_lit (Kd.int .u8) w.heap.size 5 (w0 := w) ?hg (N := 5) ?hd (xs := ([] : List Int)) (inner := []) (ok := fun _ => True) (okp := fun _ => True) ?hr ?hp (fun _ hk => hk) trivial (Below.refl _ _) (Nat.le_refl _) (by simp) ?_; (case hd => rfl); (case hg => rfl); (case hr => first | (go_simp; done) | (go_simp; rfl)); (case hp => exact (bZ.none _ _)); intro v1 w1 fx aw cj kk; have kg := ak fx; have bR := ak aw; clear fx aw cj kk)
   | ((with_reducible refine cx (b := .append) (xs := #[.tmp 5, .tmp 6]) rfl ?_); at_builtin; refine Kd.R_append_rows (Kd.int .u8) (w0 := w) w.heap.size rfl (.tmp 5) (.tmp 6) 61 5 (.int .u8 0) 1 rfl Tryz.underlying61 kA rfl (by decide) (by omega) _ [] xs (some ad) xs.length c (fun _ => True) (fun _ => False) rfl rfl kg.out (Kd.C_below HR.out bR.out) (fun x cs h => h) (fun _ h => h.elim) (fun _ _ => trivial) bR.out bR.out.size (by have := HL.out; simp; omega) ?_; intro v2 w2 ho2 aU dz aT5))
  go_ret
  exact ⟨_, rfl, ho2, aU⟩
end
section
theorem bS {α : Type} {d : Kd α} {e : Nat} {W W1 : World} {base g t : Nat} {ok : Nat → Prop} {v : Value} {xs : List α} {cs : List Value} (h : Kd.R d e W base ok v xs) (hb : bC W g cs t) (ht : ∀ q, q ∈ e :: d.E → q ≠ t) (hg : W.grownBy W1 (some g)) : Kd.R d e W1 base ok v xs :=
 Kd.R_mono (Kd.R_grown (Kd.R_types h hb ht) hg (fun k hk he => hk.2 (Option.some.inj he))) (fun _ hk => hk.1)
def D2 (W : World) (base : Nat) (v : Value) (b : Bk) : Prop := b.slots.length = 64 ∧ ∃ vf va, v = .agg (eY b.addr b.aff b.slots vf va).toArray ∧ Kd.R (Kd.int .u8) 5 W base (fun _ => True) vf b.free ∧ Kd.R Bf 81 W base (fun _ => True) va b.attrs
theorem D2.toV {W : World} {base : Nat} {v : Value} {b : Bk} (h : D2 W base v b) : sm W v b := by
 obtain ⟨hl, vf, va, rfl, hf, ha⟩ := h
 obtain ⟨A, c, rfl, h1, h2⟩ := Kd.R_reads hf
 obtain ⟨A', c', rfl, h3, h4⟩ := Kd.R_reads ha
 exact ⟨A, c, A', c', rfl, hl, h2, h1, h4, h3⟩
theorem D2.below {W W1 : World} {base : Nat} {v : Value} {b : Bk} (h : D2 W base v b) (hb : Below W.heap.size W W1) : D2 W1 base v b := by
 obtain ⟨hl, vf, va, rfl, hf, ha⟩ := h
 exact ⟨hl, vf, va, rfl, Kd.R_below hf hb, Kd.R_below ha hb⟩
def S4 : Bk := ⟨0, ⟨#[]⟩, List.replicate 64 0, [], []⟩
def kW : List Value := eY 0 ⟨#[]⟩ (List.replicate 64 0) (.slice none 0 0) (.slice none 0 0)
theorem AB (w : World) : (zeroValue 64).run Tryz.prog w = .ok (.agg kW.toArray) w := by kernel_rfl
theorem Js (W : World) (base : Nat) : D2 W base (.agg kW.toArray) S4 := ⟨rfl, _, _, rfl, Kd.R_nil _ _ _ _ _, Kd.R_nil _ _ _ _ _⟩
theorem AX (l : List Value) (h : l.length = 68) : (Tryz.prog.info? 64).map (·.size) = some l.length := by rw [h]; kernel_rfl
end
end Go.Proofs.YtndddnglapkplaaGreatDoor.V
