/- The law ImageRead for every input: texts of ours, put together (part 9 of 10). No further condition. -/
import Derived.Test.YtemhalnhbgkbcaaCImageReadx5
import Derived.Test.YtemhalnhbgkbcaaCImageReadx6
import Derived.Test.YtemhalnhbgkbcaaCImageReadx7
import Derived.Test.YtemhalnhbgkbcaaCImageReadw0
import Derived.Outline
import Derived.Test.YtemhalnhbgkbcaaCImageReadx4
import Derived.ChangeSame
import Derived.WideShapes
import Derived.OpenShut
import Derived.Deep.SlicePairs
-- BImgRead
section
/- ImageRead: the walk, over two plain laws. -/
namespace Go.Proofs.Ytemhalnhbgkbcaa.V
open Go.RowKit Go.Proofs.YtemhalnhbgkbcaaW.PrintWords Go.Proofs.YtemhalnhbgkbcaaW.PrintLast Go.Proofs.YtemhalnhbgkbcaaW.PrintMore
set_option linter.unusedVariables false
set_option linter.unusedSimpArgs false

/-- The document's Right of a block. -/
def RefRight (b : Bk) (r : Bool) : Prop := ∃ k, virgateref15_Right.f k b.addr b.aff b.slots b.free (b.attrs.map vc) = some r
theorem BkV.R {W : World} {b : Bk} {A A' : Option Addr} {c c' : Nat} (h : BkR W b A c A' c') : BkV W (.agg (bkL b.addr b.aff b.slots (.slice A b.free.length c) (.slice A' b.attrs.length c')).toArray) b := ⟨A, c, A', c', rfl, h⟩
theorem plain_m (b : Bk) (hk : BkOk b) (hfl : b.free.length ≤ 1000) (hal : b.attrs.length ≤ 1000) (M : List S76) (hM : M = b.attrs.map vc) (v : Value) (w : World) (h : BkV w v b) :
    Calls Try.prog 36 #[v] w fun e w' => ∃ As cs Af cf Aa ca, e = .returned (.agg #[.int .u32 b.addr, .string b.aff, .slice As b.slots.length cs, .slice Af b.free.length cf, .slice Aa M.length ca]) ∧ (Kd.C (Kd.int .i64) w' As b.slots.length b.slots ∧ b.slots.length ≤ cs) ∧ (Kd.C (Kd.int .i64) w' Af b.free.length b.free ∧ b.free.length ≤ cf) ∧ (Kd.C k76 w' Aa M.length M ∧ M.length ≤ ca) ∧ Below w.heap.size w w' := by
  refine (plain_any b hk hfl hal v w h).mono ?_
  rintro e w' ⟨vs, vf, va, rfl, h1, h2, h3, hb⟩
  rw [← hM] at h3
  obtain ⟨As, cs, rfl, l1, c1⟩ := Kd.R_reads h1
  obtain ⟨Af, cf, rfl, l2, c2⟩ := Kd.R_reads h2
  obtain ⟨Aa, ca, rfl, l3, c3⟩ := Kd.R_reads h3
  exact ⟨As, cs, Af, cf, Aa, ca, rfl, ⟨c1, l1⟩, ⟨c2, l2⟩, ⟨c3, l3⟩, hb⟩
theorem refright_m (b : Bk) (r : Bool) (h : RefRight b r) (M : List S76) (hM : M = b.attrs.map vc) (As Af Aa : Option Addr) (cs cf ca : Nat) (w : World)
    (h1 : Kd.C (Kd.int .i64) w As b.slots.length b.slots ∧ b.slots.length ≤ cs) (h2 : Kd.C (Kd.int .i64) w Af b.free.length b.free ∧ b.free.length ≤ cf) (h3 : Kd.C k76 w Aa M.length M ∧ M.length ≤ ca) :
    Calls Try.prog 35 #[.agg #[.int .u32 b.addr, .string b.aff, .slice As b.slots.length cs, .slice Af b.free.length cf, .slice Aa M.length ca]] w fun e w' => e = .returned (.bool r) ∧ Below w.heap.size w w' := by
  obtain ⟨k, hk⟩ := h
  subst hM
  exact virgateref15_Right.calls k _ _ As cs _ Af cf _ Aa ca _ r w h1.1 h1.2 h2.1 h2.2 h3.1 h3.2 hk
theorem rput_m (b : Bk) (hk : BkOk b) (hp : RightP b) (hsl : b.slots.length = 64) (t : ByteArray) (ht : strOfNums (imgOf b) = t) (M : List S76) (hM : M = b.attrs.map vc) (As Af Aa : Option Addr) (cs cf ca : Nat) (w : World)
    (h1 : Kd.C (Kd.int .i64) w As b.slots.length b.slots ∧ b.slots.length ≤ cs) (h2 : Kd.C (Kd.int .i64) w Af b.free.length b.free ∧ b.free.length ≤ cf) (h3 : Kd.C k76 w Aa M.length M ∧ M.length ≤ ca) :
    Calls Try.prog 39 #[.agg #[.int .u32 b.addr, .string b.aff, .slice As b.slots.length cs, .slice Af b.free.length cf, .slice Aa M.length ca]] w fun e w' => e = .returned (.string t) ∧ Below w.heap.size w w' := by
  subst hM
  rw [← ht]
  exact rput_any b hk hp hsl As Af Aa cs cf ca w h1.1 h2.1 h3.1
set_option maxHeartbeats 4000000 in
set_option maxRecDepth 100000 in
theorem imageRead_big_no (s0 s : ByteArray) (HS : s0.size > 600 ∧ s = s0.extract 0 600) (hs : s.size ≤ 600) (hno : readOk s = false) (w : World) : Calls Try.prog 9 #[.string s0] w fun e w' => e = .returned (.bool true) ∧ Below w.heap.size w w' := by
    have hrd := fun w => read_any s (by omega) w
    rw [hno] at hrd
    simp only [Bool.false_eq_true, if_false] at hrd
    have hzv := fun W => (zbk_O W 0).toV
    have hsm := same_any zbk (by decide) (by decide)
    have hl : zbk.slots.length = 64 := rfl
    generalize zbk = z at hrd hzv hsm hl
    have HRD := Aside0.mk hrd
    have HZV := Aside0.mk hzv
    have HSM := Aside0.mk hsm
    have HL := Aside0.mk hl
    clear hrd hzv hsm hl hno
    obtain ⟨hb0, rfl⟩ := HS
    have hbig : decide (600 < (s0.size : Int)) = true := by simp; omega
    have hbig2 : (s0.size : Int) > 600 := by omega
    go_enter Try.func9, Try.ntmps9
    go_wp2_with (first
      | (go_at_call 38; refine (HRD.out _).mono ?_; rintro e W1 ⟨v, rfl, hv, hb⟩; obtain ⟨A, c, A', c', rfl, hr⟩ := hv; have HR1 := Aside0.mk hr; have HB1 := Aside0.mk hb; clear hr hb)
      | (refine step_allocN (some 3) rfl rfl 57 rfl zeroL zero57 ?_; intro g W2 hg hx2 hb2; have HX2 := Aside0.mk hx2; have HB12 := Aside0.mk hb2; have HG := Aside0.mk hg; clear hx2 hb2 hg)
      | (refine step_store rfl 57 (.tmp 3) (.tmp 13) rfl g (bkL z.addr z.aff z.slots (.slice A z.free.length c) (.slice A' z.attrs.length c')) rfl rfl 57 _ HX2.out 68 (by kernel_rfl) (bkL_length _ _ _ _ _ HL.out) rfl (bkL_one _ _ _ _ _ rfl rfl) ?_; intro W3 hx3 hg3; have HX3 := Aside0.mk hx3; have hb13 : Below W1.heap.size W1 W3 := HB12.out.grown hg3 HB12.out.size (by intro k hk; cases hk; exact HG.out); have HR3 := Aside0.mk (HR1.out.below hb13); have HB3 := Aside0.mk (HB1.out.trans (hb13.mono HB1.out.size)); clear hx3 hg3 hb13)
      | ((with_reducible refine gate_dst (N := 20) rfl ?_); refine gate_guard (by rfl) ?_; refine step_load rfl 57 (.tmp 3) rfl g rfl _ _ _ HX3.out Try.underlying57 rfl 68 (by kernel_rfl) (bkL_length _ _ _ _ _ HL.out) ?_)
      | ((with_reducible refine gate_dst (N := 21) rfl ?_); refine gate_guard (by rfl) ?_; refine step_build rfl 57 #[] rfl zeroL built0 ?_)
      | (go_at_call 40; refine (HSM.out _ _ _ (BkV.R HR3.out) (HZV.out _)).mono ?_; rintro e W4 ⟨rfl, hb4⟩; have HB4 := Aside0.mk (HB3.out.trans (hb4.mono HB3.out.size)); clear hb4)
      | (go_at_call 34; refine (awake16_any _).mono ?_; rintro e W5 ⟨rfl, hb5⟩; have HB5 := Aside0.mk (HB4.out.trans (hb5.mono HB4.out.size)); clear hb5))
    go_ret
    exact ⟨rfl, HB5.out⟩
set_option maxHeartbeats 4000000 in
set_option maxRecDepth 100000 in
theorem imageRead_big_yes (s0 s : ByteArray) (HS : s0.size > 600 ∧ s = s0.extract 0 600) (hs : s.size ≤ 600) (hok : readOk s = true) (hrr : RefRight (readBk s) true) (hput : strOfNums (imgOf (readBk s)) = s) (w : World) : Calls Try.prog 9 #[.string s0] w fun e w' => e = .returned (.bool true) ∧ Below w.heap.size w w' := by
    have hrd := fun w => read_any s (by omega) w
    rw [hok] at hrd
    simp only [if_true] at hrd
    have hrt : rightB (readBk s) = true := by
      unfold readOk at hok
      simp only [Bool.and_eq_true] at hok
      exact hok.2.2
    have hp := right_p hrt
    have hl : (readBk s).slots.length = 64 := copyL_len (by simp) (r4_len s)
    obtain ⟨M, hM⟩ : ∃ M, M = (readBk s).attrs.map vc := ⟨_, rfl⟩
    have hfl := hp.free_len hl
    have hal := hp.na
    have HPL := Aside0.mk (plain_m (readBk s) (readBk_ok s) (by omega) (by omega) M hM)
    have HRR := Aside0.mk (refright_m (readBk s) true hrr M hM)
    have HPT := Aside0.mk (rput_m (readBk s) (readBk_ok s) hp hl s hput M hM)
    generalize readBk s = b at hrd hl HPL HRR HPT
    have HRD := Aside0.mk hrd
    have HL := Aside0.mk hl
    clear hrd hl hp hrt hok hrr hput hM hfl hal
    obtain ⟨hb0, rfl⟩ := HS
    have hbig : decide (600 < (s0.size : Int)) = true := by simp; omega
    have hbig2 : (s0.size : Int) > 600 := by omega
    go_enter Try.func9, Try.ntmps9
    go_wp2_with (first
      | (go_at_call 38; refine (HRD.out _).mono ?_; rintro e W1 ⟨v, rfl, hv, hb⟩; obtain ⟨A, c, A', c', rfl, hr⟩ := hv; have HR1 := Aside0.mk hr; have HB1 := Aside0.mk hb; clear hr hb)
      | (refine step_allocN (some 3) rfl rfl 57 rfl zeroL zero57 ?_; intro g W2 hg hx2 hb2; have HX2 := Aside0.mk hx2; have HB12 := Aside0.mk hb2; have HG := Aside0.mk hg; clear hx2 hb2 hg)
      | (refine step_store rfl 57 (.tmp 3) (.tmp 13) rfl g (bkL b.addr b.aff b.slots (.slice A b.free.length c) (.slice A' b.attrs.length c')) rfl rfl 57 _ HX2.out 68 (by kernel_rfl) (bkL_length _ _ _ _ _ HL.out) rfl (bkL_one _ _ _ _ _ rfl rfl) ?_; intro W3 hx3 hg3; have HX3 := Aside0.mk hx3; have hb13 : Below W1.heap.size W1 W3 := HB12.out.grown hg3 HB12.out.size (by intro k hk; cases hk; exact HG.out); have HR3 := Aside0.mk (HR1.out.below hb13); have HB3 := Aside0.mk (HB1.out.trans (hb13.mono HB1.out.size)); clear hx3 hg3 hb13)
      | (refine step_load rfl 57 (.tmp 3) rfl g rfl _ _ _ HX3.out Try.underlying57 rfl 68 (by kernel_rfl) (bkL_length _ _ _ _ _ HL.out) ?_)
      | (go_at_call 36; refine (HPL.out _ _ (BkV.R HR3.out)).mono ?_; rintro e W4 ⟨As, cs, Af, cf, Aa, ca, rfl, p1, p2, p3, hb4⟩; have HX4 := Aside0.mk (HX3.out.below hb4); have HR4 := Aside0.mk (HR3.out.below hb4); have HB4 := Aside0.mk (HB3.out.trans (hb4.mono HB3.out.size)); have P1 := Aside0.mk p1; have P2 := Aside0.mk p2; have P3 := Aside0.mk p3; clear hb4 p1 p2 p3 HX3 HR3 HB3)
      | (go_at_call 35; refine (HRR.out As Af Aa cs cf ca _ P1.out P2.out P3.out).mono ?_; rintro e W5 ⟨rfl, hb5⟩; have HX5 := Aside0.mk (HX4.out.below hb5); have HR5 := Aside0.mk (HR4.out.below hb5); have HB5 := Aside0.mk (HB4.out.trans (hb5.mono HB4.out.size)); clear hb5 P1 P2 P3 HX4 HR4 HB4)
      | ((with_reducible refine gate_dst (N := 31) rfl ?_); refine gate_guard (by rfl) ?_; refine step_load rfl 57 (.tmp 3) rfl g rfl _ _ _ HX5.out Try.underlying57 rfl 68 (by kernel_rfl) (bkL_length _ _ _ _ _ HL.out) ?_)
      | (go_at_call 36; refine (HPL.out _ _ (BkV.R HR5.out)).mono ?_; rintro e W6 ⟨Bs, ds, Bf, df, Ba, da, rfl, p1, p2, p3, hb6⟩; have HB6 := Aside0.mk (HB5.out.trans (hb6.mono HB5.out.size)); have Q1 := Aside0.mk p1; have Q2 := Aside0.mk p2; have Q3 := Aside0.mk p3; clear hb6 p1 p2 p3)
      | (go_at_call 39; refine (HPT.out Bs Bf Ba ds df da _ Q1.out Q2.out Q3.out).mono ?_; rintro e W7 ⟨rfl, hb7⟩; have HB7 := Aside0.mk (HB6.out.trans (hb7.mono HB6.out.size)); clear hb7)
      | (go_at_call 34; refine (awake16_any _).mono ?_; rintro e W8 ⟨rfl, hb8⟩; have HB8 := Aside0.mk (HB7.out.trans (hb8.mono HB7.out.size)); clear hb8))
    go_ret
    exact ⟨rfl, HB8.out⟩
set_option maxHeartbeats 4000000 in
set_option maxRecDepth 100000 in
theorem imageRead_small_no (s0 s : ByteArray) (HS : s0.size ≤ 600 ∧ s0 = s) (hs : s.size ≤ 600) (hno : readOk s = false) (w : World) : Calls Try.prog 9 #[.string s0] w fun e w' => e = .returned (.bool true) ∧ Below w.heap.size w w' := by
    have hrd := fun w => read_any s (by omega) w
    rw [hno] at hrd
    simp only [Bool.false_eq_true, if_false] at hrd
    have hzv := fun W => (zbk_O W 0).toV
    have hsm := same_any zbk (by decide) (by decide)
    have hl : zbk.slots.length = 64 := rfl
    generalize zbk = z at hrd hzv hsm hl
    have HRD := Aside0.mk hrd
    have HZV := Aside0.mk hzv
    have HSM := Aside0.mk hsm
    have HL := Aside0.mk hl
    clear hrd hzv hsm hl hno
    obtain ⟨hb0, rfl⟩ := HS
    have hbig : decide (600 < (s0.size : Int)) = false := by simp; omega
    have hbig2 : ¬ ((s0.size : Int) > 600) := by omega
    go_enter Try.func9, Try.ntmps9
    go_wp2_with (first
      | (go_at_call 38; refine (HRD.out _).mono ?_; rintro e W1 ⟨v, rfl, hv, hb⟩; obtain ⟨A, c, A', c', rfl, hr⟩ := hv; have HR1 := Aside0.mk hr; have HB1 := Aside0.mk hb; clear hr hb)
      | (refine step_allocN (some 3) rfl rfl 57 rfl zeroL zero57 ?_; intro g W2 hg hx2 hb2; have HX2 := Aside0.mk hx2; have HB12 := Aside0.mk hb2; have HG := Aside0.mk hg; clear hx2 hb2 hg)
      | (refine step_store rfl 57 (.tmp 3) (.tmp 13) rfl g (bkL z.addr z.aff z.slots (.slice A z.free.length c) (.slice A' z.attrs.length c')) rfl rfl 57 _ HX2.out 68 (by kernel_rfl) (bkL_length _ _ _ _ _ HL.out) rfl (bkL_one _ _ _ _ _ rfl rfl) ?_; intro W3 hx3 hg3; have HX3 := Aside0.mk hx3; have hb13 : Below W1.heap.size W1 W3 := HB12.out.grown hg3 HB12.out.size (by intro k hk; cases hk; exact HG.out); have HR3 := Aside0.mk (HR1.out.below hb13); have HB3 := Aside0.mk (HB1.out.trans (hb13.mono HB1.out.size)); clear hx3 hg3 hb13)
      | ((with_reducible refine gate_dst (N := 20) rfl ?_); refine gate_guard (by rfl) ?_; refine step_load rfl 57 (.tmp 3) rfl g rfl _ _ _ HX3.out Try.underlying57 rfl 68 (by kernel_rfl) (bkL_length _ _ _ _ _ HL.out) ?_)
      | ((with_reducible refine gate_dst (N := 21) rfl ?_); refine gate_guard (by rfl) ?_; refine step_build rfl 57 #[] rfl zeroL built0 ?_)
      | (go_at_call 40; refine (HSM.out _ _ _ (BkV.R HR3.out) (HZV.out _)).mono ?_; rintro e W4 ⟨rfl, hb4⟩; have HB4 := Aside0.mk (HB3.out.trans (hb4.mono HB3.out.size)); clear hb4)
      | (go_at_call 34; refine (awake16_any _).mono ?_; rintro e W5 ⟨rfl, hb5⟩; have HB5 := Aside0.mk (HB4.out.trans (hb5.mono HB4.out.size)); clear hb5))
    go_ret
    exact ⟨rfl, HB5.out⟩
set_option maxHeartbeats 4000000 in
set_option maxRecDepth 100000 in
theorem imageRead_small_yes (s0 s : ByteArray) (HS : s0.size ≤ 600 ∧ s0 = s) (hs : s.size ≤ 600) (hok : readOk s = true) (hrr : RefRight (readBk s) true) (hput : strOfNums (imgOf (readBk s)) = s) (w : World) : Calls Try.prog 9 #[.string s0] w fun e w' => e = .returned (.bool true) ∧ Below w.heap.size w w' := by
    have hrd := fun w => read_any s (by omega) w
    rw [hok] at hrd
    simp only [if_true] at hrd
    have hrt : rightB (readBk s) = true := by
      unfold readOk at hok
      simp only [Bool.and_eq_true] at hok
      exact hok.2.2
    have hp := right_p hrt
    have hl : (readBk s).slots.length = 64 := copyL_len (by simp) (r4_len s)
    obtain ⟨M, hM⟩ : ∃ M, M = (readBk s).attrs.map vc := ⟨_, rfl⟩
    have hfl := hp.free_len hl
    have hal := hp.na
    have HPL := Aside0.mk (plain_m (readBk s) (readBk_ok s) (by omega) (by omega) M hM)
    have HRR := Aside0.mk (refright_m (readBk s) true hrr M hM)
    have HPT := Aside0.mk (rput_m (readBk s) (readBk_ok s) hp hl s hput M hM)
    generalize readBk s = b at hrd hl HPL HRR HPT
    have HRD := Aside0.mk hrd
    have HL := Aside0.mk hl
    clear hrd hl hp hrt hok hrr hput hM hfl hal
    obtain ⟨hb0, rfl⟩ := HS
    have hbig : decide (600 < (s0.size : Int)) = false := by simp; omega
    have hbig2 : ¬ ((s0.size : Int) > 600) := by omega
    go_enter Try.func9, Try.ntmps9
    go_wp2_with (first
      | (go_at_call 38; refine (HRD.out _).mono ?_; rintro e W1 ⟨v, rfl, hv, hb⟩; obtain ⟨A, c, A', c', rfl, hr⟩ := hv; have HR1 := Aside0.mk hr; have HB1 := Aside0.mk hb; clear hr hb)
      | (refine step_allocN (some 3) rfl rfl 57 rfl zeroL zero57 ?_; intro g W2 hg hx2 hb2; have HX2 := Aside0.mk hx2; have HB12 := Aside0.mk hb2; have HG := Aside0.mk hg; clear hx2 hb2 hg)
      | (refine step_store rfl 57 (.tmp 3) (.tmp 13) rfl g (bkL b.addr b.aff b.slots (.slice A b.free.length c) (.slice A' b.attrs.length c')) rfl rfl 57 _ HX2.out 68 (by kernel_rfl) (bkL_length _ _ _ _ _ HL.out) rfl (bkL_one _ _ _ _ _ rfl rfl) ?_; intro W3 hx3 hg3; have HX3 := Aside0.mk hx3; have hb13 : Below W1.heap.size W1 W3 := HB12.out.grown hg3 HB12.out.size (by intro k hk; cases hk; exact HG.out); have HR3 := Aside0.mk (HR1.out.below hb13); have HB3 := Aside0.mk (HB1.out.trans (hb13.mono HB1.out.size)); clear hx3 hg3 hb13)
      | (refine step_load rfl 57 (.tmp 3) rfl g rfl _ _ _ HX3.out Try.underlying57 rfl 68 (by kernel_rfl) (bkL_length _ _ _ _ _ HL.out) ?_)
      | (go_at_call 36; refine (HPL.out _ _ (BkV.R HR3.out)).mono ?_; rintro e W4 ⟨As, cs, Af, cf, Aa, ca, rfl, p1, p2, p3, hb4⟩; have HX4 := Aside0.mk (HX3.out.below hb4); have HR4 := Aside0.mk (HR3.out.below hb4); have HB4 := Aside0.mk (HB3.out.trans (hb4.mono HB3.out.size)); have P1 := Aside0.mk p1; have P2 := Aside0.mk p2; have P3 := Aside0.mk p3; clear hb4 p1 p2 p3 HX3 HR3 HB3)
      | (go_at_call 35; refine (HRR.out As Af Aa cs cf ca _ P1.out P2.out P3.out).mono ?_; rintro e W5 ⟨rfl, hb5⟩; have HX5 := Aside0.mk (HX4.out.below hb5); have HR5 := Aside0.mk (HR4.out.below hb5); have HB5 := Aside0.mk (HB4.out.trans (hb5.mono HB4.out.size)); clear hb5 P1 P2 P3 HX4 HR4 HB4)
      | ((with_reducible refine gate_dst (N := 31) rfl ?_); refine gate_guard (by rfl) ?_; refine step_load rfl 57 (.tmp 3) rfl g rfl _ _ _ HX5.out Try.underlying57 rfl 68 (by kernel_rfl) (bkL_length _ _ _ _ _ HL.out) ?_)
      | (go_at_call 36; refine (HPL.out _ _ (BkV.R HR5.out)).mono ?_; rintro e W6 ⟨Bs, ds, Bf, df, Ba, da, rfl, p1, p2, p3, hb6⟩; have HB6 := Aside0.mk (HB5.out.trans (hb6.mono HB5.out.size)); have Q1 := Aside0.mk p1; have Q2 := Aside0.mk p2; have Q3 := Aside0.mk p3; clear hb6 p1 p2 p3)
      | (go_at_call 39; refine (HPT.out Bs Bf Ba ds df da _ Q1.out Q2.out Q3.out).mono ?_; rintro e W7 ⟨rfl, hb7⟩; have HB7 := Aside0.mk (HB6.out.trans (hb7.mono HB6.out.size)); clear hb7)
      | (go_at_call 34; refine (awake16_any _).mono ?_; rintro e W8 ⟨rfl, hb8⟩; have HB8 := Aside0.mk (HB7.out.trans (hb8.mono HB7.out.size)); clear hb8))
    go_ret
    exact ⟨rfl, HB8.out⟩
end Go.Proofs.Ytemhalnhbgkbcaa.V
end

-- BRightRef
section
/- The document's Right of a block that the program takes for right. -/
namespace Go.Proofs.Ytemhalnhbgkbcaa.V
open Go.RowKit Go.Proofs.YtemhalnhbgkbcaaW.PrintWords Go.Proofs.YtemhalnhbgkbcaaW.PrintLast Go.Proofs.YtemhalnhbgkbcaaW.PrintMore
set_option linter.unusedVariables false
set_option linter.unusedSimpArgs false

theorem rd_get (l : List Int) (i : Nat) (h : i < l.length) : rd l (i : Int) = l[i] := by simp [rd, List.getD, h]
theorem count_f (l : List Int) (hl : l.length ≤ 1000) (x : Int) (k : Nat) (hk : l.length < k) : virgateref15_count.f k l x = some ((l.count x : Nat) : Int) := by
  have key : ∀ (d k i c : Nat), i + d = l.length → d < k → c ≤ i → virgateref15_count.l0 k x (c : Int) l (l.length : Int) (i : Int) = some ((c + (l.drop i).count x : Nat) : Int) := by
    intro d
    induction d with
    | zero =>
      intro k i c hi hk hc
      obtain ⟨k, rfl⟩ : ∃ m, k = m + 1 := ⟨k - 1, by omega⟩
      rw [virgateref15_count.l0, if_neg (by omega), List.drop_of_length_le (by omega)]
      simp
    | succ d ih =>
      intro k i c hi hk hc
      obtain ⟨k, rfl⟩ : ∃ m, k = m + 1 := ⟨k - 1, by omega⟩
      have hil : i < l.length := by omega
      rw [virgateref15_count.l0, if_pos (by omega), if_pos (by omega), if_pos (by omega), rd_get l i hil, wrap64_id ((i : Int) + 1) (by omega) (by omega), wrap64_id ((c : Int) + 1) (by omega) (by omega), List.drop_eq_getElem_cons hil, List.count_cons]
      by_cases h : l[i] = x
      · rw [if_pos h, show (c : Int) + 1 = ((c + 1 : Nat) : Int) by omega, show (i : Int) + 1 = ((i + 1 : Nat) : Int) by omega, ih k (i + 1) (c + 1) (by omega) (by omega) (by omega)]
        simp [h]
        omega
      · rw [if_neg h, show (i : Int) + 1 = ((i + 1 : Nat) : Int) by omega, ih k (i + 1) c (by omega) (by omega) (by omega)]
        simp [h]
  unfold virgateref15_count.f
  rw [show (0 : Int) = ((0 : Nat) : Int) from rfl, key l.length k 0 0 (by omega) hk (by omega)]
  simp
theorem may15_f (a : At) (h : mayAt a = true) (k : Nat) (hk : 65 ≤ k) : virgateref15_May.f k a.f0 a.f1 = some true := by
  unfold mayAt at h
  rw [Bool.and_eq_true] at h
  have h0 := rightName_size h.1
  have h1 := rightName_size h.2
  unfold virgateref15_May.f
  rw [r12_f a.f0 (by omega) k (by omega), Option.bind_some, if_pos h.1, r12_f a.f1 (by omega) k (by omega), Option.bind_some, h.2]
theorem owner15_f (s : ByteArray) (h : ownerB s = true) (k : Nat) (hk : 65 ≤ k) : virgateref15_Owner.f k s = some true := by
  unfold virgateref15_Owner.f
  by_cases h0 : s.toList = []
  · rw [if_pos h0]
  · unfold ownerB at h
    simp only [h0, decide_false, Bool.false_or] at h
    have h1 := rightName_size h
    rw [if_neg h0, r12_f s (by omega) k (by omega), Option.bind_some, h]
section
variable (addr : Int) (aff : ByteArray) (sl fr : List Int) (M : List S76)
theorem right_l3 (hf : ∀ x ∈ fr, 0 ≤ x ∧ x ≤ 63) (hl : fr.length ≤ 1000) : ∀ (d k i : Nat), i + d = fr.length → d < k → virgateref15_Right.l3 k fr (fr.length : Int) (i : Int) = some true := by
  intro d
  induction d with
  | zero =>
    intro k i hi hk
    obtain ⟨k, rfl⟩ : ∃ m, k = m + 1 := ⟨k - 1, by omega⟩
    rw [virgateref15_Right.l3, if_neg (by omega)]
  | succ d ih =>
    intro k i hi hk
    obtain ⟨k, rfl⟩ : ∃ m, k = m + 1 := ⟨k - 1, by omega⟩
    have hil : i < fr.length := by omega
    have hx := hf _ (List.getElem_mem hil)
    rw [virgateref15_Right.l3, if_pos (by omega), if_pos (by omega), if_pos (by omega), rd_get fr i hil, if_neg (by omega), if_neg (by omega), wrap64_id ((i : Int) + 1) (by omega) (by omega), show (i : Int) + 1 = ((i + 1 : Nat) : Int) by omega]
    exact ih k (i + 1) (by omega) (by omega)
theorem right_l2 (hf : ∀ x ∈ fr, 0 ≤ x ∧ x ≤ 63) (hl : fr.length ≤ 1000) (hsl : sl.length ≤ 1000) (hs : ∀ x ∈ sl, 0 ≤ x ∧ x ≤ (M.length : Int))
    (hc : ∀ (i : Nat) (h : i < sl.length), fr.count (i : Int) = if sl[i] = 0 then 1 else 0) : ∀ (d k i : Nat), i + d = sl.length → 2 * d + fr.length + 10 < k → virgateref15_Right.l2 k sl (sl.length : Int) (i : Int) addr aff sl fr M = some true := by
  intro d
  induction d with
  | zero =>
    intro k i hi hk
    obtain ⟨k, rfl⟩ : ∃ m, k = m + 1 := ⟨k - 1, by omega⟩
    rw [virgateref15_Right.l2, if_neg (by omega)]
    exact right_l3 fr hf hl fr.length k 0 (by omega) (by omega)
  | succ d ih =>
    intro k i hi hk
    obtain ⟨k, rfl⟩ : ∃ m, k = m + 2 := ⟨k - 2, by omega⟩
    have hil : i < sl.length := by omega
    have hx := hs _ (List.getElem_mem hil)
    have hci := hc i hil
    rw [virgateref15_Right.l2, if_pos (by omega), if_pos (by omega), if_pos (by omega), rd_get sl i hil, if_neg (by omega), virgateref15_Right.j5, if_neg (by rw [decide_eq_true_eq]; omega), count_f fr hl _ k (by omega), wrap64_id ((i : Int) + 1) (by omega) (by omega), show (i : Int) + 1 = ((i + 1 : Nat) : Int) by omega, hci]
    have e := ih k (i + 1) (by omega) (by omega)
    by_cases h0 : sl[i] = 0
    · rw [if_pos h0, if_pos h0, Option.bind_some, if_pos (by rfl)]
      exact e
    · rw [if_neg h0, if_neg h0, Option.bind_some, if_pos (by rfl)]
      exact e
theorem right_l1 (i : Nat) (hi : i ≤ M.length) (hM : M.length ≤ 64) (f0 f1 : ByteArray) (hn : ∀ a ∈ M.take i, (a.f0.toList == f0.toList && a.f1.toList == f1.toList) = false) : ∀ (d k q : Nat), q + d = i →
    virgateref15_Right.l1 (k + d + 1) M (M.length : Int) (i : Int) (M.take i) ((M.take i).length : Int) (q : Int) addr aff sl fr M f0 f1 = virgateref15_Right.l0 k M (M.length : Int) ((i + 1 : Nat) : Int) addr aff sl fr M := by
  have hlen : (M.take i).length = i := by rw [List.length_take]; omega
  intro d
  induction d with
  | zero =>
    intro k q hq
    rw [virgateref15_Right.l1, if_neg (by omega), wrap64_id ((i : Int) + 1) (by omega) (by omega), show (i : Int) + 1 = ((i + 1 : Nat) : Int) by omega]
  | succ d ih =>
    intro k q hq
    have hqi : q < (M.take i).length := by omega
    have hx := hn _ (List.getElem_mem hqi)
    have e : rd_T76 (M.take i) (q : Int) = (M.take i)[q] := by
      unfold rd_T76
      rw [Int.toNat_natCast, List.getD, List.getElem?_eq_getElem hqi]
      rfl
    rw [show k + (d + 1) + 1 = (k + d + 1) + 1 by omega, virgateref15_Right.l1, if_pos (by omega), if_pos (by omega), if_pos (by omega), e, hx, if_neg (by decide), wrap64_id ((q : Int) + 1) (by omega) (by omega), show (q : Int) + 1 = ((q + 1 : Nat) : Int) by omega]
    exact ih k (q + 1) (by omega)
theorem right_l0 (hf : ∀ x ∈ fr, 0 ≤ x ∧ x ≤ 63) (hl : fr.length ≤ 100) (hsl : sl.length ≤ 100) (hs : ∀ x ∈ sl, 0 ≤ x ∧ x ≤ (M.length : Int))
    (hc : ∀ (i : Nat) (h : i < sl.length), fr.count (i : Int) = if sl[i] = 0 then 1 else 0) (hM : M.length ≤ 64)
    (hm : ∀ (i : Nat) (h : i < M.length), mayAt ⟨M[i].f0, M[i].f1⟩ = true) (hu : ∀ i, i < M.length → sl.count ((i + 1 : Nat) : Int) ≠ 0)
    (hn : ∀ (i : Nat) (h : i < M.length), ∀ a ∈ M.take i, (a.f0.toList == M[i].f0.toList && a.f1.toList == M[i].f1.toList) = false) : ∀ (d k i : Nat), i + d = M.length → 70 * d + 500 < k → virgateref15_Right.l0 k M (M.length : Int) (i : Int) addr aff sl fr M = some true := by
  intro d
  induction d with
  | zero =>
    intro k i hi hk
    obtain ⟨k, rfl⟩ : ∃ m, k = m + 1 := ⟨k - 1, by omega⟩
    rw [virgateref15_Right.l0, if_neg (by omega)]
    exact right_l2 addr aff sl fr M hf (by omega) (by omega) hs hc sl.length k 0 (by omega) (by omega)
  | succ d ih =>
    intro k i hi hk
    have hil : i < M.length := by omega
    obtain ⟨k, rfl⟩ : ∃ m, k = (m + i + 1) + 2 := ⟨k - i - 3, by omega⟩
    have e : rd_T76 M (i : Int) = M[i] := by simp [rd_T76, List.getD, hil]
    have hmay := may15_f ⟨M[i].f0, M[i].f1⟩ (hm i hil) (k + i + 1 + 1) (by omega)
    have hcz : (((sl.count ((i + 1 : Nat) : Int) : Nat) : Int) == 0) = false := by
      rw [beq_eq_false_iff_ne]
      have := hu i hil
      omega
    rw [virgateref15_Right.l0, if_pos (by omega), if_pos (by omega), if_pos (by omega), e, hmay, Option.bind_some, if_pos rfl, wrap64_id ((i : Int) + 1) (by omega) (by omega), show (i : Int) + 1 = ((i + 1 : Nat) : Int) by omega, count_f sl (by omega) _ _ (by omega), Option.bind_some, hcz, virgateref15_Right.j2, if_neg (by decide), if_pos (by omega), if_pos (by omega), Option.bind_some, Int.toNat_natCast]
    have e1 := right_l1 addr aff sl fr M i (by omega) hM M[i].f0 M[i].f1 (hn i hil) i k 0 (by omega)
    rw [show ((0 : Nat) : Int) = 0 from rfl] at e1
    rw [e1]
    exact ih k (i + 1) (by omega) (by omega)
end
theorem mem_of_count {l : List Int} {x : Int} (h : x ∈ l) : l.count x ≠ 0 := by
  have := List.count_pos_iff.2 h
  omega
theorem ref_right {b : Bk} (hk : BkOk b) (hp : RightP b) (hl : b.slots.length = 64) : RefRight b true := by
  have hfl := hp.free_len hl
  have hal := hp.na
  have hfree : ∀ (j : Nat) (h : j < b.free.length), (0 ≤ b.free[j] ∧ b.free[j] < 64) ∧ b.free[j] ∉ b.free.take j ∧ b.slots.getD (b.free[j]).toNat 0 = 0 := by
    intro j h
    have hb := hp.fr j h
    unfold freeBad at hb
    rw [rd_get b.free j h] at hb
    simp only [Bool.or_eq_false_iff, decide_eq_false_iff_not, bne_eq_false_iff_eq] at hb
    have := hk.f8 _ (List.getElem_mem h)
    exact ⟨⟨by omega, by omega⟩, hb.2.1, hb.2.2⟩
  have hnd : b.free.Nodup := by
    rw [List.Nodup, List.pairwise_iff_getElem]
    intro i j hi hj hij e
    exact (hfree j hj).2.1 (by rw [← e, List.mem_take_iff_getElem]; exact ⟨i, by omega, rfl⟩)
  have hf63 : ∀ x ∈ b.free, 0 ≤ x ∧ x ≤ 63 := by
    intro x hx
    obtain ⟨j, hj, rfl⟩ := List.getElem_of_mem hx
    have := (hfree j hj).1
    omega
  have hcount : ∀ (i : Nat) (h : i < b.slots.length), b.free.count (i : Int) = if b.slots[i] = 0 then 1 else 0 := by
    intro i h
    have h01 : b.free.count (i : Int) ≤ 1 := List.nodup_iff_count.1 hnd _
    by_cases h0 : b.slots[i] = 0
    · rw [if_pos h0]
      by_cases hm : (i : Int) ∈ b.free
      · have := mem_of_count hm
        omega
      · exfalso
        have hz : (((List.range b.slots.length).filter (fun j => b.slots.getD j 0 == 0)).map (fun j : Nat => (j : Int))).length = b.free.length := by
          rw [List.length_map, ← hp.zc, ← List.countP_eq_length_filter]
          have e : b.slots = (List.range b.slots.length).map (fun j => b.slots.getD j 0) := by
            apply List.ext_getElem
            · simp
            · intro q h1 h2
              simp [List.getD, h1]
          conv => rhs; rw [e]
          rw [List.countP_map]
          rfl
        have h2 : ((i : Int) :: b.free).length ≤ (((List.range b.slots.length).filter (fun j => b.slots.getD j 0 == 0)).map (fun j : Nat => (j : Int))).length := by
          refine nodup_le _ _ (List.nodup_cons.2 ⟨hm, hnd⟩) (fun x hx => ?_)
          rcases List.mem_cons.1 hx with rfl | hx
          · exact List.mem_map.2 ⟨i, List.mem_filter.2 ⟨List.mem_range.2 h, by simp [List.getD, h, h0]⟩, rfl⟩
          · obtain ⟨j, hj, rfl⟩ := List.getElem_of_mem hx
            have hq := hfree j hj
            exact List.mem_map.2 ⟨(b.free[j]).toNat, List.mem_filter.2 ⟨List.mem_range.2 (by omega), by rw [hq.2.2]; rfl⟩, by omega⟩
        rw [hz, List.length_cons] at h2
        omega
    · rw [if_neg h0]
      refine List.count_eq_zero.2 (fun hm => h0 ?_)
      obtain ⟨j, hj, e⟩ := List.getElem_of_mem hm
      have hq := (hfree j hj).2.2
      rw [e, Int.toNat_natCast] at hq
      simpa [List.getD, h] using hq
  have hused : ∀ i, i < b.attrs.length → b.slots.count ((i + 1 : Nat) : Int) ≠ 0 := by
    intro i hi
    by_cases hm : ((i + 1 : Nat) : Int) ∈ b.slots
    · exact mem_of_count hm
    · exfalso
      have h2 : ((i : Int) :: listOf (usedN b.slots)).length ≤ ((List.range b.attrs.length).map (fun j : Nat => (j : Int))).length := by
        refine nodup_le _ _ (List.nodup_cons.2 ⟨fun hx => hm ?_, listN_nodup _ 64⟩) (fun x hx => ?_)
        · obtain ⟨q, hq, h64, ht⟩ := mem_listN_nat _ _ _ hx
          unfold usedN at ht
          rw [ofN_testBit _ q h64, decide_eq_true_eq, List.mem_map] at ht
          obtain ⟨s, hs, he⟩ := ht
          have : s = ((i + 1 : Nat) : Int) := by omega
          exact this ▸ hs
        · rcases List.mem_cons.1 hx with rfl | hx
          · exact List.mem_map.2 ⟨i, List.mem_range.2 hi, rfl⟩
          · obtain ⟨q, rfl, h64, ht⟩ := mem_listN_nat _ _ _ hx
            unfold usedN at ht
            rw [ofN_testBit _ q h64, decide_eq_true_eq, List.mem_map] at ht
            obtain ⟨s, hs, he⟩ := ht
            have := hp.sa s hs
            exact List.mem_map.2 ⟨q, List.mem_range.2 (by omega), rfl⟩
      rw [List.length_cons, hp.used, List.length_map, List.length_range] at h2
      omega
  have hML : (b.attrs.map vc).length = b.attrs.length := List.length_map ..
  have hat : ∀ (i : Nat) (h : i < b.attrs.length), atN b.attrs i = b.attrs[i] := by
    intro i h
    simp [atN, rd_T85, List.getD, h]
  refine ⟨6000, ?_⟩
  have h0 := hp.first
  unfold firstI at h0
  have hmod : Int.tmod b.addr 64 = 0 := by
    rw [Int.tmod_eq_emod_of_nonneg hk.a0]
    omega
  unfold virgateref15_Right.f
  rw [if_pos hmod, owner15_f b.aff hp.owner 6000 (by omega), Option.bind_some, if_pos rfl, if_neg (by rw [hML]; omega), hl, show (((64 : Nat) : Int) != 64) = false from rfl, virgateref15_Right.j0, if_neg (by decide)]
  refine right_l0 b.addr b.aff b.slots b.free (b.attrs.map vc) hf63 (by omega) (by omega) (fun x hx => ⟨(hk.s8 x hx).1, by rw [hML]; exact hp.sa x hx⟩) hcount (by omega) ?_ ?_ ?_ b.attrs.length 5999 0 (by omega) (by omega)
  · intro i h
    have h' : i < b.attrs.length := by omega
    have := hp.may i h'
    rw [hat i h'] at this
    simpa [vc] using this
  · intro i h
    exact hused i (by omega)
  · intro i h a ha
    have h' : i < b.attrs.length := by omega
    have h3 := hp.nd i h'
    rw [hat i h', List.any_eq_false] at h3
    rw [← List.map_take] at ha
    obtain ⟨c, hc, rfl⟩ := List.mem_map.1 ha
    have h4 := h3 c hc
    rw [Bool.eq_false_iff]
    intro he
    apply h4
    unfold sameAt
    simp only [List.getElem_map, vc, Bool.and_eq_true, beq_iff_eq] at he ⊢
    exact ⟨he.1.symm, he.2.symm⟩
end Go.Proofs.Ytemhalnhbgkbcaa.V
end

-- BReadLaw
section
/- Bytes that are read as a block are that block's. -/
namespace Go.Proofs.Ytemhalnhbgkbcaa.V
open Go.RowKit Go.Proofs.YtemhalnhbgkbcaaW.PrintWords Go.Proofs.YtemhalnhbgkbcaaW.PrintLast Go.Proofs.YtemhalnhbgkbcaaW.PrintMore
set_option linter.unusedVariables false
set_option linter.unusedSimpArgs false

theorem bytesOf_str {l : List Int} (h : U8s l) : bytesOf (strOfNums l) = l := by
  unfold bytesOf
  rw [strOfNums_data, List.map_map]
  conv => rhs; rw [← List.map_id l]
  apply List.map_congr_left
  intro x hx
  have := h x hx
  simp only [Function.comp, id]
  rw [show (UInt8.ofNat x.toNat).toNat = x.toNat % 256 from rfl]
  omega
theorem str_bytesOf (s : ByteArray) : strOfNums (bytesOf s) = s := by
  apply ByteArray.ext
  apply Array.ext'
  rw [strOfNums_data]
  unfold bytesOf
  rw [List.map_map]
  conv => rhs; rw [← List.map_id s.data.toList]
  apply List.map_congr_left
  intro b _
  simp
theorem textB_str {l : List Int} (h : U8s l) : textB (strOfNums l) = (l.length : Int) :: l := by
  unfold textB
  rw [strOfNums_size, bytesOf_str h]
theorem bytesP_good {l : List Int} {bad : Bool} {n : Int} (h : (bytesP l bad n).2.2 = false) : bad = false ∧ (((bytesP l bad n).1.length : Int) = n ∧ l = (bytesP l bad n).1 ++ (bytesP l bad n).2.1) := by
  unfold bytesP at h ⊢
  split
  · rename_i hc
    obtain ⟨h1, h2, h3⟩ := hc
    refine ⟨h1, ?_, (List.take_append_drop _ _).symm⟩
    show ((l.take n.toNat).length : Int) = n
    rw [List.length_take]
    omega
  · rename_i hc
    rw [if_neg hc] at h
    cases h
theorem num_one {l : List Int} (h : U8s l) (hl : (l.length : Int) = 1) : l = [((numP l : Nat) : Int)] := by
  match l, hl with
  | [x], _ =>
    have := h x (by simp)
    have e : ((x.toNat : Nat) : Int) = x := by omega
    simp [numP, e]
  | [], hl => simp at hl
  | _ :: _ :: _, hl => simp at hl; omega
theorem be4_num {l : List Int} (h : U8s l) (hl : (l.length : Int) = 4) : be4 (numP l) = l := by
  match l, hl with
  | [a, b, c, d], _ =>
    have ha := h a (by simp)
    have hb := h b (by simp)
    have hc := h c (by simp)
    have hd := h d (by simp)
    obtain ⟨a, rfl⟩ : ∃ n : Nat, a = n := ⟨a.toNat, by omega⟩
    obtain ⟨b, rfl⟩ : ∃ n : Nat, b = n := ⟨b.toNat, by omega⟩
    obtain ⟨c, rfl⟩ : ∃ n : Nat, c = n := ⟨c.toNat, by omega⟩
    obtain ⟨d, rfl⟩ : ∃ n : Nat, d = n := ⟨d.toNat, by omega⟩
    have e : numP [(a : Int), b, c, d] = ((a * 256 + b) * 256 + c) * 256 + d := by simp [numP]
    rw [e]
    unfold be4
    congr 1
    · omega
    · congr 1
      · omega
      · congr 1
        · omega
        · congr 1
          omega
  | [], hl => simp at hl
  | [_], hl => simp at hl
  | [_, _], hl => simp at hl
  | [_, _, _], hl => simp at hl
  | _ :: _ :: _ :: _ :: _ :: _, hl => simp at hl; omega
theorem textP_good {l : List Int} (hu : U8s l) {bad : Bool} (h : (textP l bad).2.2 = false) : bad = false ∧ l = textB (strOfNums (textP l bad).1) ++ (textP l bad).2.1 := by
  have hu1 := (bytesP_u8 hu bad 1).1
  have hu2 := (bytesP_u8 hu bad 1).2
  have hu3 : U8s (textP l bad).1 := (bytesP_u8 hu2 _ _).1
  rw [textB_str hu3]
  have h1 := bytesP_good (show (bytesP (bytesP l bad 1).2.1 ((bytesP l bad 1).2.2 || decide (64 < numP (bytesP l bad 1).1)) (numP (bytesP l bad 1).1 : Nat)).2.2 = false from h)
  obtain ⟨h2, h3, h4⟩ := h1
  rw [Bool.or_eq_false_iff] at h2
  obtain ⟨h5, h6, h7⟩ := bytesP_good h2.1
  have e := num_one hu1 h6
  refine ⟨h5, ?_⟩
  have h3' : ((textP l bad).1.length : Int) = ((numP (bytesP l bad 1).1 : Nat) : Int) := h3
  have h4' : (bytesP l bad 1).2.1 = (textP l bad).1 ++ (textP l bad).2.1 := h4
  rw [h3', List.cons_append, ← h4']
  conv => lhs; rw [h7]
  conv => lhs; lhs; rw [e]
  rfl
theorem attrsP_good : ∀ (n : Nat) (l : List Int) (bad : Bool), U8s l → (attrsP n l bad).2.2 = false → bad = false ∧ ((attrsP n l bad).1.length = n ∧ l = (attrsP n l bad).1.flatMap attB ++ (attrsP n l bad).2.1)
  | 0, l, bad, hu, h => ⟨h, rfl, by simp [attrsP]⟩
  | n + 1, l, bad, hu, h => by
    unfold attrsP at h ⊢
    cases bad with
    | true => simp at h
    | false =>
      simp only [Bool.false_eq_true, if_false] at h ⊢
      have hu1 := textP_u8 hu false
      have hu2 : U8s (text2P l).2.1 := textP_u8 hu1 _
      obtain ⟨h1, h2, h3⟩ := attrsP_good n _ _ hu2 h
      obtain ⟨h4, h5⟩ := textP_good hu1 (show (textP (textP l false).2.1 (textP l false).2.2).2.2 = false from h1)
      obtain ⟨h6, h7⟩ := textP_good hu h4
      refine ⟨trivial, by rw [List.length_cons, h2], ?_⟩
      rw [List.flatMap_cons, List.append_assoc, ← h3]
      have e : attB (attr1 l) = textB (strOfNums (textP l false).1) ++ textB (strOfNums (text2P l).1) := rfl
      rw [e, List.append_assoc]
      have h5' : (textP l false).2.1 = textB (strOfNums (text2P l).1) ++ (text2P l).2.1 := h5
      rw [← h5']
      exact h7
theorem read_img (s : ByteArray) (h : readOk s = true) : imgOf (readBk s) = bytesOf s := by
  unfold readOk readDone at h
  simp only [Bool.and_eq_true, Bool.not_eq_true', decide_eq_true_eq, beq_iff_eq] at h
  obtain ⟨⟨h6b, h6l⟩, h0, _⟩ := h
  have h6e : (r6 s).2.1 = [] := List.eq_nil_of_length_eq_zero (by omega)
  obtain ⟨b5, n6, e6⟩ := bytesP_good (show (bytesP (r5 s).2.1 (r5 s).2.2 (numP (r5 s).1 : Nat)).2.2 = false from h6b)
  obtain ⟨b4, n5, e5⟩ := bytesP_good (show (bytesP (r4 s).2.1 (r4 s).2.2 1).2.2 = false from b5)
  obtain ⟨b3, n4, e4⟩ := bytesP_good (show (bytesP (r3 s).2.1 (r3 s).2.2 64).2.2 = false from b4)
  have u3 := (bytesP_u8 (u8_r2 s) (r2 s).2.2 1).2
  obtain ⟨b3', n3, e3⟩ := attrsP_good _ _ _ u3 (show (attrsP (numP (bytesP (r2 s).2.1 (r2 s).2.2 1).1) (bytesP (r2 s).2.1 (r2 s).2.2 1).2.1 (bytesP (r2 s).2.1 (r2 s).2.2 1).2.2).2.2 = false from b3)
  obtain ⟨b2, n3', e3'⟩ := bytesP_good b3'
  obtain ⟨b1, e2⟩ := textP_good (u8_r1 s) (show (textP (r1 s).2.1 (r1 s).2.2).2.2 = false from b2)
  obtain ⟨b0, n1, e1⟩ := bytesP_good (show (bytesP (r0 s).2.1 (r0 s).2.2 4).2.2 = false from b1)
  obtain ⟨_, n0, e0⟩ := bytesP_good (show (bytesP (bytesOf s) false 1).2.2 = false from b0)
  have E0 : bytesOf s = (r0 s).1 ++ (r0 s).2.1 := e0
  have E1 : (r0 s).2.1 = (r1 s).1 ++ (r1 s).2.1 := e1
  have E2 : (r1 s).2.1 = textB (strOfNums (r2 s).1) ++ (r2 s).2.1 := e2
  have E3' : (r2 s).2.1 = (bytesP (r2 s).2.1 (r2 s).2.2 1).1 ++ (bytesP (r2 s).2.1 (r2 s).2.2 1).2.1 := e3'
  have E3 : (bytesP (r2 s).2.1 (r2 s).2.2 1).2.1 = (r3 s).1.flatMap attB ++ (r3 s).2.1 := e3
  have E4 : (r3 s).2.1 = (r4 s).1 ++ (r4 s).2.1 := e4
  have E5 : (r4 s).2.1 = (r5 s).1 ++ (r5 s).2.1 := e5
  have E6 : (r5 s).2.1 = (r6 s).1 := by
    have : (r5 s).2.1 = (r6 s).1 ++ (r6 s).2.1 := e6
    rw [this, h6e, List.append_nil]
  have F0 : (r0 s).1 = [66] := by
    have := num_one (bytesP_u8 (bytesOf_u8 s) false 1).1 n0
    have h0' : numP (bytesP (bytesOf s) false 1).1 = 66 := h0
    rw [h0'] at this
    exact this
  have F1 : be4 (numP (r1 s).1) = (r1 s).1 := be4_num (bytesP_u8 (u8_r0 s) _ 4).1 n1
  have F3 : (bytesP (r2 s).2.1 (r2 s).2.2 1).1 = [((r3 s).1.length : Int)] := by
    have e := num_one (bytesP_u8 (u8_r2 s) (r2 s).2.2 1).1 n3'
    have e2 : (r3 s).1.length = numP (bytesP (r2 s).2.1 (r2 s).2.2 1).1 := n3
    rw [e2]
    exact e
  have F5 : (r5 s).1 = [((r6 s).1.length : Int)] := by
    have e := num_one (bytesP_u8 (u8_r4 s) (r4 s).2.2 1).1 n5
    have e2 : ((r6 s).1.length : Int) = ((numP (r5 s).1 : Nat) : Int) := n6
    rw [e2]
    exact e
  have F4 : copyL (List.replicate 64 0) (r4 s).1 = (r4 s).1 := by
    have e : ((r4 s).1.length : Int) = 64 := n4
    unfold copyL
    rw [List.drop_of_length_le (by simp; omega), List.append_nil]
  have I : imgOf (readBk s) = (66 :: (be4 (numP (r1 s).1) ++ textB (strOfNums (r2 s).1) ++ [((r3 s).1.length : Int)] ++ ((r3 s).1.take (r3 s).1.length).flatMap attB)) ++ copyL (List.replicate 64 0) (r4 s).1 ++ [((r6 s).1.length : Int)] ++ (r6 s).1 := rfl
  rw [I, List.take_of_length_le (Nat.le_refl _), F1, F4, E0, F0, E1, E2, E3', F3, E3, E4, E5, F5, E6]
  simp
theorem imageRead_walk (s : ByteArray) (w : World) (h : s.size ≤ 140737488351232) : Calls Try.prog 9 #[.string s] w fun e w' => e = .returned (.bool true) ∧ Below w.heap.size w w' := by
  have key : ∀ t : ByteArray, readOk t = true → RefRight (readBk t) true ∧ strOfNums (imgOf (readBk t)) = t := by
    intro t ht
    have hrt : rightB (readBk t) = true := by
      unfold readOk at ht
      simp only [Bool.and_eq_true] at ht
      exact ht.2.2
    exact ⟨ref_right (readBk_ok t) (right_p hrt) (copyL_len (by simp) (r4_len t)), by rw [read_img t ht, str_bytesOf]⟩
  by_cases hb : s.size > 600
  · have hz : (s.extract 0 600).size ≤ 600 := by rw [ByteArray.size_extract]; omega
    cases hok : readOk (s.extract 0 600) with
    | true => exact imageRead_big_yes s _ ⟨hb, rfl⟩ hz hok (key _ hok).1 (key _ hok).2 w
    | false => exact imageRead_big_no s _ ⟨hb, rfl⟩ hz hok w
  · cases hok : readOk s with
    | true => exact imageRead_small_yes s _ ⟨by omega, rfl⟩ (by omega) hok (key _ hok).1 (key _ hok).2 w
    | false => exact imageRead_small_no s _ ⟨by omega, rfl⟩ (by omega) hok w
end Go.Proofs.Ytemhalnhbgkbcaa.V
end

