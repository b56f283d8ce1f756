/- For every two texts the program's UnlikeBy returns the reference's number and code; no condition. -/
import Derived.Test.YthdkgahbccdhpaaP20
import Derived.Laws.BitsLemmas
namespace Go.Proofs.Ythdkgahbccdhpaa.PureFnExactUnlikeBy
open Go.RowKit Go.Proofs.Ythdkgahbccdhpaa.P Go.Proofs.YthdkgahbccdhpaaW.PrintWords Go.Proofs.YthdkgahbccdhpaaW.PrintLast
set_option linter.unusedSimpArgs false
set_option linter.unusedVariables false

theorem wrap64_id (x : Int) (h0 : -9223372036854775808 ≤ x) (h1 : x ≤ 9223372036854775807) : wrap64 x = x := by unfold wrap64; omega
theorem wrap_nat (n : Nat) (h : n < 4611686018427387904) : wrap64 ((n : Int) + 1) = ((n + 1 : Nat) : Int) := by
  rw [wrap64_id _ (by omega) (by omega)]; omega
theorem rounds_of (B : Nat) {α : Type} {F : Nat → Option α} {v : α} (h : ∀ k, B ≤ k → F k = some v) : ∃ k, F k = some v := ⟨B, h B (Nat.le_refl _)⟩

def letter (c : Int) : Bool := decide (97 ≤ c ∧ c ≤ 122)
theorem l04Letter_eq (c : Int) : spec_l04Letter.f c = some (letter c) := by
  unfold spec_l04Letter.f letter
  by_cases h : 97 ≤ c
  · rw [if_pos (by omega)]; simp [h]
  · rw [if_neg (by omega)]; simp [h]
theorem isLetter_eq (c : Int) : impl_isLetter.f c = some (letter c) := by
  unfold impl_isLetter.f letter
  by_cases h : 97 ≤ c
  · rw [if_pos (by omega)]; simp [h]
  · rw [if_neg (by omega)]; simp [h]
theorem in_eq (a b c : Int) : spec_l00In.f a b c = some (decide (b ≤ a ∧ a ≤ c)) := by
  unfold spec_l00In.f
  by_cases h : b ≤ a
  · rw [if_pos (by omega)]; simp [h]
  · rw [if_neg (by omega)]; simp [h]
theorem within_eq (a b c : Int) : impl_within.f a b c = some (decide (b ≤ a ∧ a ≤ c)) := by
  unfold impl_within.f
  by_cases h : b ≤ a
  · rw [if_pos (by omega)]; simp [h]
  · rw [if_neg (by omega)]; simp [h]
def lettersFrom (s : ByteArray) : Nat → Nat → Bool
  | 0, _ => true
  | d + 1, i => letter (bt s (i : Int)) && lettersFrom s d (i + 1)
def wordOk (s : ByteArray) : Bool := lettersFrom s s.size 0 && decide (1 ≤ (s.size : Int) ∧ (s.size : Int) ≤ 12)
theorem l04Word_l0 (s : ByteArray) (hs : s.size ≤ 4611686018427387900) : ∀ (d i k : Nat), i + d = s.size → d < k → spec_l04Word.l0 k s (i : Int) = some (lettersFrom s d i && decide (1 ≤ (s.size : Int) ∧ (s.size : Int) ≤ 12)) := by
  intro d
  induction d with
  | zero =>
    intro i k hi hk
    obtain ⟨k, rfl⟩ : ∃ m, k = m + 1 := ⟨k - 1, by omega⟩
    simp only [spec_l04Word.l0]
    rw [if_neg (by omega), in_eq]
    simp [lettersFrom]
  | succ d ih =>
    intro i k hi hk
    obtain ⟨k, rfl⟩ : ∃ m, k = m + 1 := ⟨k - 1, by omega⟩
    simp only [spec_l04Word.l0]
    rw [if_pos (by omega), if_pos (by omega), l04Letter_eq, Option.bind_some, wrap_nat i (by omega), ih (i + 1) k (by omega) (by omega)]
    by_cases h : letter (bt s (i : Int)) = true <;> simp [lettersFrom, h]
theorem l04Word_eq (s : ByteArray) (hs : s.size ≤ 4611686018427387900) (k : Nat) (hk : s.size < k) : spec_l04Word.f k s = some (wordOk s) := by
  unfold spec_l04Word.f wordOk
  exact l04Word_l0 s hs s.size 0 k (by omega) hk
theorem isWord_l0 (s : ByteArray) (hs : s.size ≤ 4611686018427387900) : ∀ (d i k : Nat), i + d = s.size → d < k → impl_IsWord.l0 k s (s.size : Int) (i : Int) = some (lettersFrom s d i && decide (1 ≤ (s.size : Int) ∧ (s.size : Int) ≤ 12)) := by
  intro d
  induction d with
  | zero =>
    intro i k hi hk
    obtain ⟨k, rfl⟩ : ∃ m, k = m + 1 := ⟨k - 1, by omega⟩
    simp only [impl_IsWord.l0]
    rw [if_neg (by omega), within_eq]
    simp [lettersFrom]
  | succ d ih =>
    intro i k hi hk
    obtain ⟨k, rfl⟩ : ∃ m, k = m + 1 := ⟨k - 1, by omega⟩
    simp only [impl_IsWord.l0]
    rw [if_pos (by omega), if_pos (by omega), if_pos (by omega), isLetter_eq, Option.bind_some, wrap_nat i (by omega), ih (i + 1) k (by omega) (by omega)]
    by_cases h : letter (bt s (i : Int)) = true <;> simp [lettersFrom, h]
theorem isWord_eq (s : ByteArray) (hs : s.size ≤ 4611686018427387900) (k : Nat) (hk : s.size < k) : impl_IsWord.f k s = some (wordOk s) := by
  unfold impl_IsWord.f wordOk
  exact isWord_l0 s hs s.size 0 k (by omega) hk
def unlF (a b : ByteArray) : Nat → Nat → Int → Int
  | 0, _, n => n
  | d + 1, i, n => unlF a b d (i + 1) (if bt a (i : Int) = bt b (i : Int) then n else wrap64 (n + 1))
def unl (a b : ByteArray) : Int := unlF a b a.size 0 0
theorem l04Unlike_l0 (a b : ByteArray) (hs : a.size ≤ 4611686018427387900) (hb : a.size ≤ b.size) : ∀ (d i k : Nat) (n : Int), i + d = a.size → d < k → spec_l04Unlike.l0 k a b n (i : Int) = some (unlF a b d i n) := by
  intro d
  induction d with
  | zero =>
    intro i k n hi hk
    obtain ⟨k, rfl⟩ : ∃ m, k = m + 1 := ⟨k - 1, by omega⟩
    simp only [spec_l04Unlike.l0]
    rw [if_neg (by omega)]
    rfl
  | succ d ih =>
    intro i k n hi hk
    obtain ⟨k, rfl⟩ : ∃ m, k = m + 1 := ⟨k - 1, by omega⟩
    simp only [spec_l04Unlike.l0, unlF]
    rw [if_pos (by omega), if_pos (by omega), if_pos (by omega), wrap_nat i (by omega)]
    by_cases h : bt a (i : Int) = bt b (i : Int)
    · rw [if_pos h, if_pos h, ih (i + 1) k _ (by omega) (by omega)]
    · rw [if_neg h, if_neg h, ih (i + 1) k _ (by omega) (by omega)]
theorem l04Unlike_eq (a b : ByteArray) (hs : a.size ≤ 4611686018427387900) (hb : a.size ≤ b.size) (k : Nat) (hk : a.size < k) : spec_l04Unlike.f k a b = some (unl a b) := by
  unfold spec_l04Unlike.f unl
  exact l04Unlike_l0 a b hs hb a.size 0 k 0 (by omega) hk
theorem unlike_l0 (a b : ByteArray) (hs : a.size ≤ 4611686018427387900) (hb : a.size ≤ b.size) : ∀ (d i k : Nat) (n : Int), i + d = a.size → d < k → impl_unlike.l0 k a b n (a.size : Int) (i : Int) = some (unlF a b d i n) := by
  intro d
  induction d with
  | zero =>
    intro i k n hi hk
    obtain ⟨k, rfl⟩ : ∃ m, k = m + 1 := ⟨k - 1, by omega⟩
    simp only [impl_unlike.l0]
    rw [if_neg (by omega)]
    rfl
  | succ d ih =>
    intro i k n hi hk
    obtain ⟨k, rfl⟩ : ∃ m, k = m + 1 := ⟨k - 1, by omega⟩
    simp only [impl_unlike.l0, unlF]
    rw [if_pos (by omega), if_pos (by omega), if_pos (by omega), if_pos (by omega), wrap_nat i (by omega)]
    by_cases h : bt a (i : Int) = bt b (i : Int)
    · rw [if_pos h, if_pos h, ih (i + 1) k _ (by omega) (by omega)]
    · rw [if_neg h, if_neg h, ih (i + 1) k _ (by omega) (by omega)]
theorem unlike_eq (a b : ByteArray) (hs : a.size ≤ 4611686018427387900) (hb : a.size ≤ b.size) (k : Nat) (hk : a.size < k) : impl_unlike.f k a b = some (unl a b) := by
  unfold impl_unlike.f unl
  exact unlike_l0 a b hs hb a.size 0 k 0 (by omega) hk

theorem main : laws_FnExactUnlikeBy.Pure := by
  intro a b ha hb
  refine rounds_of (a.size + b.size + 3) fun k hk => ?_
  unfold laws_FnExactUnlikeBy.f
  have hM : ∃ v : Int × Int, spec_UnlikeBy.f k a b = some v ∧ impl_UnlikeBy.f k a b = some v := by
    unfold spec_UnlikeBy.f impl_UnlikeBy.f
    rw [l04Word_eq a (by omega) k (by omega), l04Word_eq b (by omega) k (by omega), isWord_eq a (by omega) k (by omega), isWord_eq b (by omega) k (by omega)]
    simp only [Option.bind_some]
    obtain ⟨k, rfl⟩ : ∃ m, k = m + 1 := ⟨k - 1, by omega⟩
    simp only [spec_UnlikeBy.j0, impl_UnlikeBy.j0]
    by_cases h : a.size = b.size
    · rw [l04Unlike_eq a b (by omega) (by omega) k (by omega), unlike_eq a b (by omega) (by omega) k (by omega)]
      simp only [Option.bind_some]
      refine ⟨if wordOk a = true ∧ wordOk b = true then (unl a b, 0) else (0, 1), ?_, ?_⟩
      all_goals by_cases wa : wordOk a = true <;> by_cases wb : wordOk b = true <;> simp [wa, wb, h]
    · have h' : ¬ (a.size : Int) = (b.size : Int) := by omega
      refine ⟨if wordOk a = true ∧ wordOk b = true then (0, 4) else (0, 1), ?_, ?_⟩
      all_goals by_cases wa : wordOk a = true <;> by_cases wb : wordOk b = true <;> simp [wa, wb, h']
  obtain ⟨v, e1, e2⟩ := hM
  rw [e1, e2]
  by_cases h1 : (a.size : Int) > 1048576 <;> by_cases h2 : (b.size : Int) > 1048576 <;> simp [h1, h2]

end Go.Proofs.Ythdkgahbccdhpaa.PureFnExactUnlikeBy
namespace Go.Proofs.Ythdkgahbccdhpaa.Pure
theorem FnExactUnlikeBy : Go.Proofs.Ythdkgahbccdhpaa.P.laws_FnExactUnlikeBy.Pure := Go.Proofs.Ythdkgahbccdhpaa.PureFnExactUnlikeBy.main
end Go.Proofs.Ythdkgahbccdhpaa.Pure
