/- The runs of a set, as plain lists: both programs' ways. -/
import Derived.Test.YtemhalnhbgkbcaaHBits
namespace Go.Proofs.Ytemhalnhbgkbcaa.V
open Go.RowKit Go.Proofs.YtemhalnhbgkbcaaW.PrintWords Go.Proofs.YtemhalnhbgkbcaaW.PrintLast Go.Proofs.YtemhalnhbgkbcaaW.PrintMore

def runStep (o : List (Int × Int)) (i : Int) : List (Int × Int) :=
  match o.getLast? with
  | some x => if x.2 = i then o.dropLast ++ [(x.1, i + 1)] else o ++ [(i, i + 1)]
  | none => o ++ [(i, i + 1)]
def runsF (s n : Nat) : List (Int × Int) := (listN s n).foldl runStep []
def runsOf (s : Nat) : List (Int × Int) := runsF s 64
theorem runsF_succ (s n : Nat) : runsF s (n + 1) = if s.testBit n then runStep (runsF s n) n else runsF s n := by
  unfold runsF
  rw [listN_succ]
  by_cases h : s.testBit n = true
  · rw [if_pos h, if_pos h, List.foldl_append]; rfl
  · rw [if_neg h, if_neg h]
theorem runStep_nil (i : Int) : runStep [] i = [(i, i + 1)] := rfl
theorem runStep_same (o : List (Int × Int)) (a i : Int) : runStep (o ++ [(a, i)]) i = o ++ [(a, i + 1)] := by
  unfold runStep
  simp
theorem runStep_other (o : List (Int × Int)) (x : Int × Int) (i : Int) (h : o.getLast? = some x) (hn : x.2 ≠ i) : runStep o i = o ++ [(i, i + 1)] := by
  unfold runStep
  rw [h]
  simp [hn]
theorem runStep_last (o : List (Int × Int)) (i : Int) : ∃ a, (runStep o i).getLast? = some (a, i + 1) := by
  unfold runStep
  split
  · rename_i x _
    split
    · exact ⟨x.1, by simp⟩
    · exact ⟨i, by simp⟩
  · exact ⟨i, by simp⟩
theorem runsF_last (s n : Nat) : ∀ x, (runsF s n).getLast? = some x → x.2 ≤ n := by
  induction n with
  | zero => intro x h; simp [runsF, listN] at h
  | succ n ih =>
    intro x h
    rw [runsF_succ] at h
    split at h
    · obtain ⟨a, ha⟩ := runStep_last (runsF s n) n
      rw [ha] at h
      injection h with h
      rw [← h]
      simp
    · have := ih x h
      omega
/-- A run's begin: nothing ends there. -/
theorem runsF_begin (s n : Nat) (hb : n = 0 ∨ s.testBit (n - 1) = false) : ∀ x, (runsF s n).getLast? = some x → x.2 ≠ n := by
  intro x h
  rcases hb with rfl | hb
  · simp [runsF, listN] at h
  · by_cases h0 : n = 0
    · subst h0; simp [runsF, listN] at h
    · obtain ⟨m, rfl⟩ : ∃ m, n = m + 1 := ⟨n - 1, by omega⟩
      rw [runsF_succ, if_neg (by simpa using hb)] at h
      have := runsF_last s m x h
      omega
theorem runsF_run (s i : Nat) (hb : i = 0 ∨ s.testBit (i - 1) = false) : ∀ d, (∀ j, i ≤ j → j ≤ i + d → s.testBit j = true) → runsF s (i + d + 1) = runsF s i ++ [((i : Int), ((i + d + 1 : Nat) : Int))] := by
  intro d
  induction d with
  | zero =>
    intro h
    rw [Nat.add_zero, runsF_succ, if_pos (h i (by omega) (by omega))]
    cases hl : (runsF s i).getLast? with
    | none =>
      have : runsF s i = [] := by simpa using hl
      rw [this]
      rfl
    | some x => rw [runStep_other _ x _ hl (runsF_begin s i hb x hl)]; rfl
  | succ d ih =>
    intro h
    have ih' := ih (fun j h1 h2 => h j h1 (by omega))
    rw [show i + (d + 1) = i + d + 1 by omega, runsF_succ, if_pos (h _ (by omega) (by omega)), ih', runStep_same]
    rfl
theorem runsF_length (s n : Nat) : (runsF s n).length ≤ n := by
  induction n with
  | zero => simp [runsF, listN]
  | succ n ih =>
    rw [runsF_succ]
    split
    · unfold runStep
      split
      · split
        · rw [List.length_append, List.length_dropLast]; simp only [List.length_cons, List.length_nil]; omega
        · rw [List.length_append]; simp only [List.length_cons, List.length_nil]; omega
      · rw [List.length_append]; simp only [List.length_cons, List.length_nil]; omega
    · omega
theorem foldl_runStep_length (l : List Int) : ∀ o, (l.foldl runStep o).length ≤ o.length + l.length := by
  induction l with
  | nil => simp
  | cons x l ih =>
    intro o
    rw [List.foldl_cons]
    have h1 := ih (runStep o x)
    have h2 : (runStep o x).length ≤ o.length + 1 := by
      unfold runStep
      split
      · split
        · first | (simp; done) | (simp; omega)
        · first | (simp; done) | (simp; omega)
      · first | (simp; done) | (simp; omega)
    simp
    omega
end Go.Proofs.Ytemhalnhbgkbcaa.V
