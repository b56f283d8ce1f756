/- For every habit the program's HabitText returns the reference's text; no condition. -/
import Derived.Test.YtelgmojnndbgmaaP20
import Derived.Laws.BitsLemmas
namespace Go.Proofs.Ytelgmojnndbgmaa.PureFnExactHabitText
open Go.RowKit Go.Proofs.Ytelgmojnndbgmaa.P Go.Proofs.YtelgmojnndbgmaaW.PrintWords Go.Proofs.YtelgmojnndbgmaaW.PrintLast
set_option linter.unusedSimpArgs false
set_option linter.unusedVariables false

theorem rounds_of (B : Nat) {α : Type} {F : Nat → Option α} {v : α} (h : ∀ k, B ≤ k → F k = some v) : ∃ k, F k = some v := ⟨B, h B (Nat.le_refl _)⟩

def letter (c : Int) : Bool := decide (97 ≤ c ∧ c ≤ 122)
theorem l04Letter_eq (c : Int) : spec_l04Letter.f c = some (letter c) := by
  unfold spec_l04Letter.f letter
  by_cases h : 97 ≤ c
  · rw [if_pos (by omega)]; simp [h]
  · rw [if_neg (by omega)]; simp [h]
theorem isLetter_eq (c : Int) : impl_isLetter.f c = some (letter c) := by
  unfold impl_isLetter.f letter
  by_cases h : 97 ≤ c
  · rw [if_pos (by omega)]; simp [h]
  · rw [if_neg (by omega)]; simp [h]
def habitOk (t a b : Int) : Bool :=
  if t = 0 ∨ t = 3 then decide (a = 0) && decide (b = 0) else if t = 1 then letter a && letter b && decide (a ≠ b) else if t = 2 ∨ t = 4 then letter a && decide (b = 0) else false
theorem l04Habit_eq (t a b : Int) (k : Nat) (hk : 0 < k) : spec_l04Habit.f k t a b = some (habitOk t a b) := by
  obtain ⟨k, rfl⟩ : ∃ m, k = m + 1 := ⟨k - 1, by omega⟩
  unfold spec_l04Habit.f habitOk
  simp only [spec_l04Habit.j0, l04Letter_eq, Option.bind_some]
  by_cases h0 : t = 0
  · subst h0
    by_cases ha : a = 0 <;> simp [ha] <;> rfl
  · by_cases h3 : t = 3
    · subst h3
      by_cases ha : a = 0 <;> simp [ha] <;> rfl
    · by_cases h1 : t = 1
      · subst h1
        by_cases la : letter a = true <;> by_cases lb : letter b = true <;> simp [la, lb] <;> rfl
      · by_cases h2 : t = 2
        · subst h2
          by_cases la : letter a = true <;> simp [la] <;> rfl
        · by_cases h4 : t = 4
          · subst h4
            by_cases la : letter a = true <;> simp [la] <;> rfl
          · simp [h0, h1, h2, h3, h4]
theorem validHabit_eq (t a b : Int) : impl_ValidHabit.f t a b = some (habitOk t a b) := by
  unfold impl_ValidHabit.f habitOk
  simp only [isLetter_eq, Option.bind_some]
  by_cases h0 : t = 0
  · subst h0
    by_cases ha : a = 0 <;> simp [ha] <;> rfl
  · by_cases h3 : t = 3
    · subst h3
      by_cases ha : a = 0 <;> simp [ha] <;> rfl
    · by_cases h1 : t = 1
      · subst h1
        by_cases la : letter a = true <;> by_cases lb : letter b = true <;> simp [la, lb] <;> rfl
      · by_cases h2 : t = 2
        · subst h2
          by_cases la : letter a = true <;> simp [la] <;> rfl
        · by_cases h4 : t = 4
          · subst h4
            by_cases la : letter a = true <;> simp [la] <;> rfl
          · simp [h0, h1, h2, h3, h4]

theorem cat_assoc (a b c : ByteArray) : a ++ b ++ c = a ++ (b ++ c) := ByteArray.append_assoc
theorem specText_eq (t a b : Int) (h : habitOk t a b = true) : spec_l04Text.f t a b = some (Go.Proofs.Ytelgmojnndbgmaa.H.putB (Go.Proofs.Ytelgmojnndbgmaa.H.putB (Go.Proofs.Ytelgmojnndbgmaa.H.kindName t) a) b) ∧ 0 ≤ t ∧ t < 5 := by
  have s1 : ∀ x : Int, (strOfNums [x]).size = 1 := fun _ => rfl
  have e1 : (⟨#[115, 119, 97, 112, 32]⟩ : ByteArray) = ⟨#[115, 119, 97, 112]⟩ ++ ⟨#[32]⟩ := rfl
  have e2 : (⟨#[100, 114, 111, 112, 32]⟩ : ByteArray) = ⟨#[100, 114, 111, 112]⟩ ++ ⟨#[32]⟩ := rfl
  have e4 : (⟨#[116, 117, 114, 110, 32]⟩ : ByteArray) = ⟨#[116, 117, 114, 110]⟩ ++ ⟨#[32]⟩ := rfl
  have hl : ∀ x, letter x = true → x ≠ 0 := by
    intro x hx e
    subst e
    exact absurd hx (by decide)
  unfold habitOk at h
  unfold spec_l04Text.f Go.Proofs.Ytelgmojnndbgmaa.H.putB Go.Proofs.Ytelgmojnndbgmaa.H.kindName
  simp only [Option.bind_some, s1]
  by_cases h0 : t = 0
  · subst h0
    simp only [true_or, if_true, Bool.and_eq_true, decide_eq_true_eq] at h
    simp [h.1, h.2]
  · by_cases h3 : t = 3
    · subst h3
      simp only [or_true, if_true, Bool.and_eq_true, decide_eq_true_eq] at h
      simp [h.1, h.2]
    · rw [if_neg (by omega)] at h
      by_cases h1 : t = 1
      · subst h1
        rw [if_pos rfl, Bool.and_eq_true, Bool.and_eq_true] at h
        have ha := hl a h.1.1
        have hb := hl b h.1.2
        refine ⟨?_, by decide, by decide⟩
        rw [if_pos rfl, if_pos (by decide), if_pos (by decide), if_pos (by decide), if_neg hb, if_neg ha, if_neg (by decide), if_pos rfl, e1]
        simp only [cat_assoc]
      · rw [if_neg h1] at h
        by_cases h2 : t = 2
        · subst h2
          rw [if_pos (by decide), Bool.and_eq_true, decide_eq_true_eq] at h
          have ha := hl a h.1
          refine ⟨?_, by decide, by decide⟩
          rw [if_neg (by decide), if_pos rfl, if_pos (by decide), if_pos h.2, if_neg ha, if_neg (by decide), if_neg (by decide), if_pos rfl, e2]
          simp only [cat_assoc]
        · by_cases h4 : t = 4
          · subst h4
            rw [if_pos (by decide), Bool.and_eq_true, decide_eq_true_eq] at h
            have ha := hl a h.1
            refine ⟨?_, by decide, by decide⟩
            rw [if_neg (by decide), if_neg (by decide), if_neg (by decide), if_pos rfl, if_pos (by decide), if_pos h.2, if_neg ha, if_neg (by decide), if_neg (by decide), if_neg (by decide), if_neg (by decide), e4]
            simp only [cat_assoc]
          · rw [if_neg (by omega)] at h
            exact absurd h (by decide)
theorem main : laws_FnExactHabitText.Pure := by
  intro t a b _ _ _
  refine rounds_of 1 fun k hk => ?_
  unfold laws_FnExactHabitText.f spec_HabitText.f laws_toHabit.f impl_HabitText.f
  simp only [Option.bind_some]
  rw [l04Habit_eq t a b k (by omega), validHabit_eq, Option.bind_some, Option.bind_some]
  by_cases h : habitOk t a b = true
  · obtain ⟨e, h0, h5⟩ := specText_eq t a b h
    rw [if_pos h, if_pos h, if_pos h0, if_pos h5, e]
    simp only [Option.bind_some, if_true]
  · rw [if_neg h, if_neg h]
    simp only [Option.bind_some, if_true]

end Go.Proofs.Ytelgmojnndbgmaa.PureFnExactHabitText
namespace Go.Proofs.Ytelgmojnndbgmaa.Pure
theorem FnExactHabitText : Go.Proofs.Ytelgmojnndbgmaa.P.laws_FnExactHabitText.Pure := Go.Proofs.Ytelgmojnndbgmaa.PureFnExactHabitText.main
end Go.Proofs.Ytelgmojnndbgmaa.Pure
