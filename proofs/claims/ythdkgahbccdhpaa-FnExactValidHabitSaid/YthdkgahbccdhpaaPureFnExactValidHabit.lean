/- For every habit the program's ValidHabit answers as the reference's; no condition. -/
import Derived.Test.YthdkgahbccdhpaaP21
import Derived.Laws.BitsLemmas
namespace Go.Proofs.Ythdkgahbccdhpaa.PureFnExactValidHabit
open Go.RowKit Go.Proofs.Ythdkgahbccdhpaa.P Go.Proofs.YthdkgahbccdhpaaW.PrintWords Go.Proofs.YthdkgahbccdhpaaW.PrintLast
set_option linter.unusedSimpArgs false
set_option linter.unusedVariables false

theorem rounds_of (B : Nat) {α : Type} {F : Nat → Option α} {v : α} (h : ∀ k, B ≤ k → F k = some v) : ∃ k, F k = some v := ⟨B, h B (Nat.le_refl _)⟩

def letter (c : Int) : Bool := decide (97 ≤ c ∧ c ≤ 122)
theorem l04Letter_eq (c : Int) : spec_l04Letter.f c = some (letter c) := by
  unfold spec_l04Letter.f letter
  by_cases h : 97 ≤ c
  · rw [if_pos (by omega)]; simp [h]
  · rw [if_neg (by omega)]; simp [h]
theorem isLetter_eq (c : Int) : impl_isLetter.f c = some (letter c) := by
  unfold impl_isLetter.f letter
  by_cases h : 97 ≤ c
  · rw [if_pos (by omega)]; simp [h]
  · rw [if_neg (by omega)]; simp [h]
def habitOk (t a b : Int) : Bool :=
  if t = 0 ∨ t = 3 then decide (a = 0) && decide (b = 0) else if t = 1 then letter a && letter b && decide (a ≠ b) else if t = 2 ∨ t = 4 then letter a && decide (b = 0) else false
theorem l04Habit_eq (t a b : Int) (k : Nat) (hk : 0 < k) : spec_l04Habit.f k t a b = some (habitOk t a b) := by
  obtain ⟨k, rfl⟩ : ∃ m, k = m + 1 := ⟨k - 1, by omega⟩
  unfold spec_l04Habit.f habitOk
  simp only [spec_l04Habit.j0, l04Letter_eq, Option.bind_some]
  by_cases h0 : t = 0
  · subst h0
    by_cases ha : a = 0 <;> simp [ha] <;> rfl
  · by_cases h3 : t = 3
    · subst h3
      by_cases ha : a = 0 <;> simp [ha] <;> rfl
    · by_cases h1 : t = 1
      · subst h1
        by_cases la : letter a = true <;> by_cases lb : letter b = true <;> simp [la, lb] <;> rfl
      · by_cases h2 : t = 2
        · subst h2
          by_cases la : letter a = true <;> simp [la] <;> rfl
        · by_cases h4 : t = 4
          · subst h4
            by_cases la : letter a = true <;> simp [la] <;> rfl
          · simp [h0, h1, h2, h3, h4]
theorem validHabit_eq (t a b : Int) : impl_ValidHabit.f t a b = some (habitOk t a b) := by
  unfold impl_ValidHabit.f habitOk
  simp only [isLetter_eq, Option.bind_some]
  by_cases h0 : t = 0
  · subst h0
    by_cases ha : a = 0 <;> simp [ha] <;> rfl
  · by_cases h3 : t = 3
    · subst h3
      by_cases ha : a = 0 <;> simp [ha] <;> rfl
    · by_cases h1 : t = 1
      · subst h1
        by_cases la : letter a = true <;> by_cases lb : letter b = true <;> simp [la, lb] <;> rfl
      · by_cases h2 : t = 2
        · subst h2
          by_cases la : letter a = true <;> simp [la] <;> rfl
        · by_cases h4 : t = 4
          · subst h4
            by_cases la : letter a = true <;> simp [la] <;> rfl
          · simp [h0, h1, h2, h3, h4]

theorem main : laws_FnExactValidHabit.Pure := by
  intro t a b _ _ _
  refine rounds_of 1 fun k hk => ?_
  unfold laws_FnExactValidHabit.f spec_ValidHabit.f laws_toHabit.f
  simp only [Option.bind_some]
  rw [l04Habit_eq t a b k (by omega), validHabit_eq]
  simp

end Go.Proofs.Ythdkgahbccdhpaa.PureFnExactValidHabit
namespace Go.Proofs.Ythdkgahbccdhpaa.Pure
theorem FnExactValidHabit : Go.Proofs.Ythdkgahbccdhpaa.P.laws_FnExactValidHabit.Pure := Go.Proofs.Ythdkgahbccdhpaa.PureFnExactValidHabit.main
end Go.Proofs.Ythdkgahbccdhpaa.Pure
