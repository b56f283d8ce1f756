/- For all codes and more: a vote of words of which all but less than half are the same is this one; unlike words are counted; words that are taken are far enough apart; no condition. -/
import Derived.Test.YtkdloidojmccgaaP15
import Derived.Laws.BitsLemmas
namespace Go.Proofs.Ytkdloidojmccgaa.PureFnVotes
open Go.RowKit Go.Proofs.Ytkdloidojmccgaa.P Go.Proofs.YtkdloidojmccgaaW.PrintWords Go.Proofs.YtkdloidojmccgaaW.PrintLast
set_option linter.unusedSimpArgs false
set_option linter.unusedVariables false

theorem wrap64_id (x : Int) (h0 : -9223372036854775808 ≤ x) (h1 : x ≤ 9223372036854775807) : wrap64 x = x := by unfold wrap64; omega
theorem wrap_nat (n : Nat) (h : n < 4611686018427387904) : wrap64 ((n : Int) + 1) = ((n + 1 : Nat) : Int) := by
  rw [wrap64_id _ (by omega) (by omega)]; omega
theorem rd_nat (l : List Int) (i : Nat) : rd l (i : Int) = l.getD i 0 := by simp [rd]
theorem drop_rd (l : List Int) (i : Nat) (h : i < l.length) : l.drop i = rd l (i : Int) :: l.drop (i + 1) := by
  rw [List.drop_eq_getElem_cons h, rd_nat, List.getD_eq_getElem?_getD, List.getElem?_eq_getElem h]; rfl
theorem drop_getD {α : Type} (z : α) (l : List α) (i : Nat) (h : i < l.length) : l.drop i = l.getD i z :: l.drop (i + 1) := by
  rw [List.drop_eq_getElem_cons h, List.getD_eq_getElem?_getD, List.getElem?_eq_getElem h]; rfl
theorem getD_range_map {α : Type} (z : α) (f : Nat → α) (n i : Nat) (h : i < n) : ((List.range n).map f).getD i z = f i := by
  rw [List.getD_eq_getElem?_getD, List.getElem?_map, List.getElem?_range h]; rfl
theorem rounds_of (B : Nat) {α : Type} {F : Nat → Option α} {v : α} (h : ∀ k, B ≤ k → F k = some v) : ∃ k, F k = some v := ⟨B, h B (Nat.le_refl _)⟩

theorem wrap_u64 (n : Int) : IntKind.u64.wrap n = n % 18446744073709551616 := by simp [IntKind.wrap, IntKind.bits, IntKind.signed]
theorem wrap_u64_id (n : Int) (h0 : 0 ≤ n) (h1 : n < 18446744073709551616) : IntKind.u64.wrap n = n := by rw [wrap_u64]; omega
theorem wf_u8 {a : Int} (h : (Lit.int .u8 a).wf = true) : 0 ≤ a ∧ a ≤ 255 := by
  simp [Lit.wf, IntKind.min, IntKind.max, IntKind.bits, IntKind.signed] at h
  omega
def letter (c : Int) : Bool := decide (97 ≤ c ∧ c ≤ 122)
theorem l04Letter_eq (c : Int) : spec_l04Letter.f c = some (letter c) := by
  unfold spec_l04Letter.f letter
  by_cases h : 97 ≤ c
  · rw [if_pos (by omega)]; simp [h]
  · rw [if_neg (by omega)]; simp [h]
theorem isLetter_eq (c : Int) : impl_isLetter.f c = some (letter c) := by
  unfold impl_isLetter.f letter
  by_cases h : 97 ≤ c
  · rw [if_pos (by omega)]; simp [h]
  · rw [if_neg (by omega)]; simp [h]
theorem in_eq (a b c : Int) : spec_l00In.f a b c = some (decide (b ≤ a ∧ a ≤ c)) := by
  unfold spec_l00In.f
  by_cases h : b ≤ a
  · rw [if_pos (by omega)]; simp [h]
  · rw [if_neg (by omega)]; simp [h]
theorem within_eq (a b c : Int) : impl_within.f a b c = some (decide (b ≤ a ∧ a ≤ c)) := by
  unfold impl_within.f
  by_cases h : b ≤ a
  · rw [if_pos (by omega)]; simp [h]
  · rw [if_neg (by omega)]; simp [h]
def lettersFrom (s : ByteArray) : Nat → Nat → Bool
  | 0, _ => true
  | d + 1, i => letter (bt s (i : Int)) && lettersFrom s d (i + 1)
def wordOk (s : ByteArray) : Bool := lettersFrom s s.size 0 && decide (1 ≤ (s.size : Int) ∧ (s.size : Int) ≤ 12)
theorem l04Word_l0 (s : ByteArray) (hs : s.size ≤ 4611686018427387900) : ∀ (d i k : Nat), i + d = s.size → d < k → spec_l04Word.l0 k s (i : Int) = some (lettersFrom s d i && decide (1 ≤ (s.size : Int) ∧ (s.size : Int) ≤ 12)) := by
  intro d
  induction d with
  | zero =>
    intro i k hi hk
    obtain ⟨k, rfl⟩ : ∃ m, k = m + 1 := ⟨k - 1, by omega⟩
    simp only [spec_l04Word.l0]
    rw [if_neg (by omega), in_eq]
    simp [lettersFrom]
  | succ d ih =>
    intro i k hi hk
    obtain ⟨k, rfl⟩ : ∃ m, k = m + 1 := ⟨k - 1, by omega⟩
    simp only [spec_l04Word.l0]
    rw [if_pos (by omega), if_pos (by omega), l04Letter_eq, Option.bind_some, wrap_nat i (by omega), ih (i + 1) k (by omega) (by omega)]
    by_cases h : letter (bt s (i : Int)) = true <;> simp [lettersFrom, h]
theorem l04Word_eq (s : ByteArray) (hs : s.size ≤ 4611686018427387900) (k : Nat) (hk : s.size < k) : spec_l04Word.f k s = some (wordOk s) := by
  unfold spec_l04Word.f wordOk
  exact l04Word_l0 s hs s.size 0 k (by omega) hk
theorem isWord_l0 (s : ByteArray) (hs : s.size ≤ 4611686018427387900) : ∀ (d i k : Nat), i + d = s.size → d < k → impl_IsWord.l0 k s (s.size : Int) (i : Int) = some (lettersFrom s d i && decide (1 ≤ (s.size : Int) ∧ (s.size : Int) ≤ 12)) := by
  intro d
  induction d with
  | zero =>
    intro i k hi hk
    obtain ⟨k, rfl⟩ : ∃ m, k = m + 1 := ⟨k - 1, by omega⟩
    simp only [impl_IsWord.l0]
    rw [if_neg (by omega), within_eq]
    simp [lettersFrom]
  | succ d ih =>
    intro i k hi hk
    obtain ⟨k, rfl⟩ : ∃ m, k = m + 1 := ⟨k - 1, by omega⟩
    simp only [impl_IsWord.l0]
    rw [if_pos (by omega), if_pos (by omega), if_pos (by omega), isLetter_eq, Option.bind_some, wrap_nat i (by omega), ih (i + 1) k (by omega) (by omega)]
    by_cases h : letter (bt s (i : Int)) = true <;> simp [lettersFrom, h]
theorem isWord_eq (s : ByteArray) (hs : s.size ≤ 4611686018427387900) (k : Nat) (hk : s.size < k) : impl_IsWord.f k s = some (wordOk s) := by
  unfold impl_IsWord.f wordOk
  exact isWord_l0 s hs s.size 0 k (by omega) hk
theorem wordOk_size (s : ByteArray) (h : wordOk s = true) : 1 ≤ s.size ∧ s.size ≤ 12 := by
  simp only [wordOk, Bool.and_eq_true, decide_eq_true_eq] at h
  omega
theorem lettersFrom_get (s : ByteArray) : ∀ (d i j : Nat), lettersFrom s d i = true → i ≤ j → j < i + d → letter (bt s (j : Int)) = true
  | 0, i, j, _, h1, h2 => by omega
  | d + 1, i, j, h, h1, h2 => by
    simp only [lettersFrom, Bool.and_eq_true] at h
    by_cases e : j = i
    · subst e; exact h.1
    · exact lettersFrom_get s d (i + 1) j h.2 (by omega) (by omega)
theorem wordOk_get (s : ByteArray) (h : wordOk s = true) (j : Nat) (hj : j < s.size) : 97 ≤ bt s (j : Int) ∧ bt s (j : Int) ≤ 122 := by
  simp only [wordOk, Bool.and_eq_true] at h
  have := lettersFrom_get s s.size 0 j h.1 (by omega) (by omega)
  simpa [letter] using this

def habitOk (t a b : Int) : Bool :=
  if t = 0 ∨ t = 3 then decide (a = 0) && decide (b = 0) else if t = 1 then letter a && letter b && decide (a ≠ b) else if t = 2 ∨ t = 4 then letter a && decide (b = 0) else false
theorem l04Habit_eq (t a b : Int) (k : Nat) (hk : 0 < k) : spec_l04Habit.f k t a b = some (habitOk t a b) := by
  obtain ⟨k, rfl⟩ : ∃ m, k = m + 1 := ⟨k - 1, by omega⟩
  unfold spec_l04Habit.f habitOk
  simp only [spec_l04Habit.j0, l04Letter_eq, Option.bind_some]
  by_cases h0 : t = 0
  · subst h0
    by_cases ha : a = 0 <;> simp [ha] <;> rfl
  · by_cases h3 : t = 3
    · subst h3
      by_cases ha : a = 0 <;> simp [ha] <;> rfl
    · by_cases h1 : t = 1
      · subst h1
        by_cases la : letter a = true <;> by_cases lb : letter b = true <;> simp [la, lb] <;> rfl
      · by_cases h2 : t = 2
        · subst h2
          by_cases la : letter a = true <;> simp [la] <;> rfl
        · by_cases h4 : t = 4
          · subst h4
            by_cases la : letter a = true <;> simp [la] <;> rfl
          · simp [h0, h1, h2, h3, h4]
theorem validHabit_eq (t a b : Int) : impl_ValidHabit.f t a b = some (habitOk t a b) := by
  unfold impl_ValidHabit.f habitOk
  simp only [isLetter_eq, Option.bind_some]
  by_cases h0 : t = 0
  · subst h0
    by_cases ha : a = 0 <;> simp [ha] <;> rfl
  · by_cases h3 : t = 3
    · subst h3
      by_cases ha : a = 0 <;> simp [ha] <;> rfl
    · by_cases h1 : t = 1
      · subst h1
        by_cases la : letter a = true <;> by_cases lb : letter b = true <;> simp [la, lb] <;> rfl
      · by_cases h2 : t = 2
        · subst h2
          by_cases la : letter a = true <;> simp [la] <;> rfl
        · by_cases h4 : t = 4
          · subst h4
            by_cases la : letter a = true <;> simp [la] <;> rfl
          · simp [h0, h1, h2, h3, h4]

theorem rdS_nat (l : List ByteArray) (i : Nat) : rdOf ByteArray.empty l (i : Int) = l.getD i ByteArray.empty := by simp [rdOf]
theorem drop_rdS (l : List ByteArray) (i : Nat) (h : i < l.length) : l.drop i = rdOf ByteArray.empty l (i : Int) :: l.drop (i + 1) := by
  rw [drop_getD ByteArray.empty l i h, rdS_nat]
theorem toList_inj (a b : ByteArray) : a.toList = b.toList ↔ a = b := by
  constructor
  · intro h
    rw [ByteArray.toList_eq, ByteArray.toList_eq] at h
    have h2 : a.data.toList = b.data.toList := h
    cases a; cases b
    simp at h2
    rw [h2]
  · intro h; rw [h]
def habitsOk (l : List S72) : Bool := l.all (fun h => habitOk h.f0 h.f1 h.f2)
def wordsOk (l : List ByteArray) : Bool := l.all wordOk
theorem drop_hab (l : List S72) (i : Nat) (h : i < l.length) : l.drop i = rd_T72 l (i : Int) :: l.drop (i + 1) := by
  rw [drop_getD z72 l i h]; simp [rd_T72]
def codeA (hs : List S72) (ws : List ByteArray) : Int :=
  if habitsOk hs = true ∧ wordsOk ws = true then if hs.length ≤ 30 then if ws.length ≤ 40 then 0 else 3 else 3 else 1
theorem asked_l1 (hs : List S72) (ws : List ByteArray) (hw : ws.length ≤ 2097152) (hb : ∀ s ∈ ws, s.size ≤ 2097152) : ∀ (d i k : Nat), i + d = ws.length → d + 2097152 < k → spec_l04Asked.l1 k hs ws (i : Int) = some (if wordsOk (ws.drop i) = true then if hs.length ≤ 30 then if ws.length ≤ 40 then 0 else 3 else 3 else 1) := by
  intro d
  induction d with
  | zero =>
    intro i k hi hk
    obtain ⟨k, rfl⟩ : ∃ m, k = m + 1 := ⟨k - 1, by omega⟩
    simp only [spec_l04Asked.l1]
    rw [if_neg (by omega), List.drop_eq_nil_of_le (by omega), show wordsOk [] = true from rfl, if_pos rfl]
    by_cases h1 : hs.length ≤ 30
    · by_cases h2 : ws.length ≤ 40
      · rw [if_neg (by omega), if_neg (by omega), if_pos h1, if_pos h2]
      · rw [if_neg (by omega), if_pos (by omega), if_pos h1, if_neg h2]
    · rw [if_pos (by omega), if_neg h1]
  | succ d ih =>
    intro i k hi hk
    obtain ⟨k, rfl⟩ : ∃ m, k = m + 1 := ⟨k - 1, by omega⟩
    have hm : rdOf ByteArray.empty ws (i : Int) ∈ ws := by
      rw [rdS_nat, List.getD_eq_getElem?_getD, List.getElem?_eq_getElem (by omega)]
      exact List.getElem_mem _
    have hsz := hb _ hm
    simp only [spec_l04Asked.l1]
    rw [if_pos (by omega), if_pos (by omega), l04Word_eq _ (by omega) k (by omega), Option.bind_some, wrap_nat i (by omega), ih (i + 1) k (by omega) (by omega), drop_rdS ws i (by omega)]
    by_cases h : wordOk (rdOf ByteArray.empty ws (i : Int)) = true <;> simp [wordsOk, h]
theorem asked_l0 (hs : List S72) (ws : List ByteArray) (hh : hs.length ≤ 1048576) (hw : ws.length ≤ 2097152) (hb : ∀ s ∈ ws, s.size ≤ 2097152) : ∀ (d i k : Nat), i + d = hs.length → d + 4194310 < k → spec_l04Asked.l0 k hs ws (i : Int) = some (if habitsOk (hs.drop i) = true ∧ wordsOk ws = true then if hs.length ≤ 30 then if ws.length ≤ 40 then 0 else 3 else 3 else 1) := by
  intro d
  induction d with
  | zero =>
    intro i k hi hk
    obtain ⟨k, rfl⟩ : ∃ m, k = m + 1 := ⟨k - 1, by omega⟩
    have h := asked_l1 hs ws hw hb ws.length 0 k (by omega) (by omega)
    rw [show ((0 : Nat) : Int) = 0 from rfl, List.drop_zero] at h
    simp only [spec_l04Asked.l0]
    rw [if_neg (by omega), List.drop_eq_nil_of_le (by omega), h]
    simp [habitsOk]
  | succ d ih =>
    intro i k hi hk
    obtain ⟨k, rfl⟩ : ∃ m, k = m + 1 := ⟨k - 1, by omega⟩
    simp only [spec_l04Asked.l0]
    rw [if_pos (by omega), if_pos (by omega), l04Habit_eq _ _ _ k (by omega), Option.bind_some, wrap_nat i (by omega), ih (i + 1) k (by omega) (by omega), drop_hab hs i (by omega)]
    by_cases h : habitOk (rd_T72 hs (i : Int)).f0 (rd_T72 hs (i : Int)).f1 (rd_T72 hs (i : Int)).f2 = true <;> simp [habitsOk, h]
theorem asked_eq (hs : List S72) (ws : List ByteArray) (hh : hs.length ≤ 1048576) (hw : ws.length ≤ 2097152) (hb : ∀ s ∈ ws, s.size ≤ 2097152) (k : Nat) (hk : 5242890 < k) : spec_l04Asked.f k hs ws = some (codeA hs ws) := by
  unfold spec_l04Asked.f codeA
  have h := asked_l0 hs ws hh hw hb hs.length 0 k (by omega) (by omega)
  rw [show ((0 : Nat) : Int) = 0 from rfl, List.drop_zero] at h
  exact h
theorem findH_l0 (l : List S72) (hl : l.length ≤ 1048576) : ∀ (d i k : Nat), i + d = l.length → d < k → ∃ r : Int, slices_IndexFunc_Habit_at_chainCode_1.l0 k l (l.length : Int) (i : Int) = some r ∧ decide (r ≥ 0) = !habitsOk (l.drop i) := by
  intro d
  induction d with
  | zero =>
    intro i k hi hk
    obtain ⟨k, rfl⟩ : ∃ m, k = m + 1 := ⟨k - 1, by omega⟩
    refine ⟨-1, ?_, ?_⟩
    · simp only [slices_IndexFunc_Habit_at_chainCode_1.l0]
      rw [if_neg (by omega)]
    · rw [List.drop_eq_nil_of_le (by omega)]; simp [habitsOk]
  | succ d ih =>
    intro i k hi hk
    obtain ⟨k, rfl⟩ : ∃ m, k = m + 1 := ⟨k - 1, by omega⟩
    simp only [slices_IndexFunc_Habit_at_chainCode_1.l0, impl_chainCode_1.f]
    rw [if_pos (by omega), if_pos (by omega), if_pos (by omega), validHabit_eq, Option.bind_some, Option.bind_some, drop_hab l i (by omega), wrap_nat i (by omega)]
    by_cases h : habitOk (rd_T72 l (i : Int)).f0 (rd_T72 l (i : Int)).f1 (rd_T72 l (i : Int)).f2 = true
    · obtain ⟨r, h1, h2⟩ := ih (i + 1) k (by omega) (by omega)
      refine ⟨r, by rw [if_neg (by simp [h])]; exact h1, ?_⟩
      rw [h2]; simp [habitsOk, h]
    · refine ⟨(i : Int), by rw [if_pos (by simpa using h)], ?_⟩
      simp only [habitsOk, List.all_cons, Bool.eq_false_iff.2 h, Bool.false_and, Bool.not_false]
      exact decide_eq_true (by omega)
theorem findW_l0 (l : List ByteArray) (hl : l.length ≤ 2097153) (hb : ∀ s ∈ l, s.size ≤ 2097152) : ∀ (d i k : Nat), i + d = l.length → d + 2097152 < k → ∃ r : Int, slices_IndexFunc_Sstring_string_at_chainCode_2.l0 k l (l.length : Int) (i : Int) = some r ∧ decide (r ≥ 0) = !wordsOk (l.drop i) := by
  intro d
  induction d with
  | zero =>
    intro i k hi hk
    obtain ⟨k, rfl⟩ : ∃ m, k = m + 1 := ⟨k - 1, by omega⟩
    refine ⟨-1, ?_, ?_⟩
    · simp only [slices_IndexFunc_Sstring_string_at_chainCode_2.l0]
      rw [if_neg (by omega)]
    · rw [List.drop_eq_nil_of_le (by omega)]; simp [wordsOk]
  | succ d ih =>
    intro i k hi hk
    obtain ⟨k, rfl⟩ : ∃ m, k = m + 1 := ⟨k - 1, by omega⟩
    have hm : rdOf ByteArray.empty l (i : Int) ∈ l := by
      rw [rdS_nat, List.getD_eq_getElem?_getD, List.getElem?_eq_getElem (by omega)]
      exact List.getElem_mem _
    have hsz := hb _ hm
    simp only [slices_IndexFunc_Sstring_string_at_chainCode_2.l0, impl_chainCode_2.f]
    rw [if_pos (by omega), if_pos (by omega), if_pos (by omega), isWord_eq _ (by omega) k (by omega), Option.bind_some, Option.bind_some, drop_rdS l i (by omega), wrap_nat i (by omega)]
    by_cases h : wordOk (rdOf ByteArray.empty l (i : Int)) = true
    · obtain ⟨r, h1, h2⟩ := ih (i + 1) k (by omega) (by omega)
      refine ⟨r, by rw [if_neg (by simp [h])]; exact h1, ?_⟩
      rw [h2]; simp [wordsOk, h]
    · refine ⟨(i : Int), by rw [if_pos (by simpa using h)], ?_⟩
      simp only [wordsOk, List.all_cons, Bool.eq_false_iff.2 h, Bool.false_and, Bool.not_false]
      exact decide_eq_true (by omega)
def codeH (hs : List S72) (ws : List ByteArray) : Int :=
  if habitsOk hs = true ∧ wordsOk ws = true then if hs.length ≤ 30 then 0 else 3 else 1
theorem chainCode_eq (hs : List S72) (ws : List ByteArray) (hh : hs.length ≤ 1048576) (hw : ws.length ≤ 2097153) (hb : ∀ s ∈ ws, s.size ≤ 2097152) (k : Nat) (hk : 5242890 < k) : impl_chainCode.f k hs ws = some (codeH hs ws) := by
  unfold impl_chainCode.f codeH slices_ContainsFunc_Habit_at_chainCode_1.f slices_IndexFunc_Habit_at_chainCode_1.f slices_ContainsFunc_Sstring_string_at_chainCode_2.f slices_IndexFunc_Sstring_string_at_chainCode_2.f impl_unless.f
  obtain ⟨r, h1, h2⟩ := findH_l0 hs hh hs.length 0 k (by omega) (by omega)
  obtain ⟨q, g1, g2⟩ := findW_l0 ws hw hb ws.length 0 k (by omega) (by omega)
  rw [show ((0 : Nat) : Int) = 0 from rfl] at h1 g1
  rw [List.drop_zero] at h2 g2
  simp only [h1, g1, Option.bind_some, h2, g2]
  by_cases e1 : habitsOk hs = true <;> by_cases e2 : wordsOk ws = true <;> by_cases e3 : hs.length ≤ 30
  all_goals first
    | (have e4 : (hs.length : Int) ≤ 30 := by omega
       simp [e1, e2, e3, e4])
    | (have e4 : ¬ (hs.length : Int) ≤ 30 := by omega
       simp [e1, e2, e3, e4])
theorem concat2_eq (a b : List ByteArray) (ha : a.length ≤ 1048576) (hb : b.length ≤ 1048576) (k : Nat) (hk : 10 < k) : slices_Concat_Sstring_string.f k [a, b] = some (a ++ b) := by
  obtain ⟨k, rfl⟩ : ∃ m, k = m + 8 := ⟨k - 8, by omega⟩
  have r0 : rd_L4 [a, b] 0 = a := rfl
  have r1 : rd_L4 [a, b] 1 = b := rfl
  have w0 : wrap64 (0 + (a.length : Int)) = a.length := by rw [wrap64_id _ (by omega) (by omega)]; omega
  have w1 : wrap64 ((a.length : Int) + b.length) = (a.length : Int) + b.length := wrap64_id _ (by omega) (by omega)
  have w2 : wrap64 (0 + 1) = 1 := wrap64_id _ (by decide) (by decide)
  have w3 : wrap64 (1 + 1) = 2 := wrap64_id _ (by decide) (by decide)
  have hg : slices_Grow_Sstring_string_at_nil.f ((a.length : Int) + b.length) = some [] := by
    unfold slices_Grow_Sstring_string_at_nil.f
    rw [wrap64_id _ (by omega) (by omega), if_neg (by omega)]
    by_cases h : (a.length : Int) + b.length > 0
    · rw [if_pos h, if_pos (by omega), if_pos (by simp; omega), Option.bind_some, if_pos (by omega)]
      rfl
    · rw [if_neg h]
  unfold slices_Concat_Sstring_string.f
  have hl2 : (([a, b] : List (List ByteArray)).length : Int) = 2 := rfl
  rw [hl2]
  simp only [slices_Concat_Sstring_string.l0, hl2]
  rw [if_pos (by decide), if_pos (by decide), if_pos (by decide), r0, w0, if_neg (by omega), w2, if_pos (by decide), if_pos (by decide), if_pos (by decide), r1, w1, if_neg (by omega), w3, if_neg (by decide), hg, Option.bind_some]
  simp only [slices_Concat_Sstring_string.l1, hl2]
  rw [if_pos (by decide), if_pos (by decide), if_pos (by decide), r0, if_pos (by simp; omega), w2, if_pos (by decide), if_pos (by decide), if_pos (by decide), r1, if_pos (by simp; omega), w3, if_neg (by decide)]
  simp
def codeL (ws : List ByteArray) (hs : List S72) (more : List ByteArray) : Int :=
  if codeH hs (ws ++ more) = 0 then if ws.length ≤ 40 then 0 else 3 else codeH hs (ws ++ more)
theorem listCode_eq (ws : List ByteArray) (hs : List S72) (more : List ByteArray) (hh : hs.length ≤ 1048576) (hw : ws.length ≤ 1048576) (hm : more.length ≤ 1) (hb : ∀ s ∈ ws, s.size ≤ 2097152) (hb2 : ∀ s ∈ more, s.size ≤ 2097152) (k : Nat) (hk : 5242890 < k) : impl_listCode.f k ws hs more = some (codeL ws hs more) := by
  unfold impl_listCode.f codeL impl_unless.f
  rw [concat2_eq ws more hw (by omega) k (by omega), Option.bind_some, chainCode_eq hs (ws ++ more) hh (by rw [List.length_append]; omega) (fun s h => (List.mem_append.1 h).elim (hb s) (hb2 s)) k hk, Option.bind_some]
  by_cases e : codeH hs (ws ++ more) = 0
  · rw [if_pos e, if_pos e]
    by_cases g : ws.length ≤ 40
    · have g' : (ws.length : Int) ≤ 40 := by omega
      simp [g, g']
    · have g' : ¬ (ws.length : Int) ≤ 40 := by omega
      simp [g, g']
  · rw [if_neg e, if_neg e]

def unlF (a b : ByteArray) : Nat → Nat → Int → Int
  | 0, _, n => n
  | d + 1, i, n => unlF a b d (i + 1) (if bt a (i : Int) = bt b (i : Int) then n else wrap64 (n + 1))
def unl (a b : ByteArray) : Int := unlF a b a.size 0 0
theorem l04Unlike_l0 (a b : ByteArray) (hs : a.size ≤ 4611686018427387900) (hb : a.size ≤ b.size) : ∀ (d i k : Nat) (n : Int), i + d = a.size → d < k → spec_l04Unlike.l0 k a b n (i : Int) = some (unlF a b d i n) := by
  intro d
  induction d with
  | zero =>
    intro i k n hi hk
    obtain ⟨k, rfl⟩ : ∃ m, k = m + 1 := ⟨k - 1, by omega⟩
    simp only [spec_l04Unlike.l0]
    rw [if_neg (by omega)]
    rfl
  | succ d ih =>
    intro i k n hi hk
    obtain ⟨k, rfl⟩ : ∃ m, k = m + 1 := ⟨k - 1, by omega⟩
    simp only [spec_l04Unlike.l0, unlF]
    rw [if_pos (by omega), if_pos (by omega), if_pos (by omega), wrap_nat i (by omega)]
    by_cases h : bt a (i : Int) = bt b (i : Int)
    · rw [if_pos h, if_pos h, ih (i + 1) k _ (by omega) (by omega)]
    · rw [if_neg h, if_neg h, ih (i + 1) k _ (by omega) (by omega)]
theorem l04Unlike_eq (a b : ByteArray) (hs : a.size ≤ 4611686018427387900) (hb : a.size ≤ b.size) (k : Nat) (hk : a.size < k) : spec_l04Unlike.f k a b = some (unl a b) := by
  unfold spec_l04Unlike.f unl
  exact l04Unlike_l0 a b hs hb a.size 0 k 0 (by omega) hk
theorem unlike_l0 (a b : ByteArray) (hs : a.size ≤ 4611686018427387900) (hb : a.size ≤ b.size) : ∀ (d i k : Nat) (n : Int), i + d = a.size → d < k → impl_unlike.l0 k a b n (a.size : Int) (i : Int) = some (unlF a b d i n) := by
  intro d
  induction d with
  | zero =>
    intro i k n hi hk
    obtain ⟨k, rfl⟩ : ∃ m, k = m + 1 := ⟨k - 1, by omega⟩
    simp only [impl_unlike.l0]
    rw [if_neg (by omega)]
    rfl
  | succ d ih =>
    intro i k n hi hk
    obtain ⟨k, rfl⟩ : ∃ m, k = m + 1 := ⟨k - 1, by omega⟩
    simp only [impl_unlike.l0, unlF]
    rw [if_pos (by omega), if_pos (by omega), if_pos (by omega), if_pos (by omega), wrap_nat i (by omega)]
    by_cases h : bt a (i : Int) = bt b (i : Int)
    · rw [if_pos h, if_pos h, ih (i + 1) k _ (by omega) (by omega)]
    · rw [if_neg h, if_neg h, ih (i + 1) k _ (by omega) (by omega)]
theorem unlike_eq (a b : ByteArray) (hs : a.size ≤ 4611686018427387900) (hb : a.size ≤ b.size) (k : Nat) (hk : a.size < k) : impl_unlike.f k a b = some (unl a b) := by
  unfold impl_unlike.f unl
  exact unlike_l0 a b hs hb a.size 0 k 0 (by omega) hk

def same0 (z : Nat) (r : List ByteArray) : Bool := r.all (fun w => decide (w.size = z))
def codeV (l : List ByteArray) (a : Int) : Int :=
  if codeA [] l = 0 then (if (l.length : Int) < a then 6 else if same0 (rdOf ByteArray.empty l 0).size l = true then 0 else 4) else codeA [] l
theorem l04Long_l0 (l : List ByteArray) (hl : l.length ≤ 1048576) : ∀ (d i k : Nat), i + d = l.length → 2 * d + 6 < k → spec_l04Long.l0 k l 0 (i : Int) = some (if same0 (rdOf ByteArray.empty l 0).size (l.drop i) = true then 0 else 4) := by
  intro d
  induction d with
  | zero =>
    intro i k hi hk
    obtain ⟨k, rfl⟩ : ∃ m, k = m + 2 := ⟨k - 2, by omega⟩
    simp only [spec_l04Long.l0, spec_l04Long.j3]
    rw [if_neg (by omega), if_neg (by decide), List.drop_eq_nil_of_le (by omega)]
    rfl
  | succ d ih =>
    intro i k hi hk
    obtain ⟨k, rfl⟩ : ∃ m, k = m + 4 := ⟨k - 4, by omega⟩
    simp only [spec_l04Long.l0, spec_l04Long.j3]
    rw [if_pos (by omega), if_pos (by decide), if_pos (by omega), if_pos (by omega), if_pos (by omega), drop_rdS l i (by omega), wrap_nat i (by omega)]
    by_cases g : (rdOf ByteArray.empty l (i : Int)).size = (rdOf ByteArray.empty l 0).size
    · have h := ih (i + 1) (k + 2) (by omega) (by omega)
      rw [if_pos (by omega)]
      refine Eq.trans h ?_
      simp [same0, g]
    · rw [if_neg (by omega)]
      have h4 : ∀ n : Int, (if n < (l.length : Int) then some (4 : Int) else some 4) = some 4 := fun n => by split <;> rfl
      simp [same0, g]
theorem l04Long_eq (l : List ByteArray) (a : Int) (ha : 1 ≤ a) (hl : l.length ≤ 1048576) (hb : ∀ s ∈ l, s.size ≤ 2097152) (k : Nat) (hk : 5242990 < k) : spec_l04Long.f k l a = some (codeV l a) := by
  unfold spec_l04Long.f codeV
  obtain ⟨k, rfl⟩ : ∃ m, k = m + 4 := ⟨k - 4, by omega⟩
  rw [asked_eq [] l (by simp) (by omega) hb _ (by omega), Option.bind_some]
  by_cases h : codeA [] l = 0
  · rw [if_pos h, if_pos h, h]
    by_cases g : (l.length : Int) < a
    · rw [if_pos g, decide_eq_true g]
      simp only [spec_l04Long.j0, spec_l04Long.j1, spec_l04Long.l0, spec_l04Long.j3]
      simp
    · rw [if_neg g, decide_eq_false g]
      simp only [spec_l04Long.j0, spec_l04Long.j1]
      rw [if_neg (by decide)]
      have h1 := l04Long_l0 l hl (l.length - 1) 1 (k + 2) (by omega) (by omega)
      rw [show ((1 : Nat) : Int) = 1 from rfl] at h1
      refine Eq.trans h1 ?_
      have e : same0 (rdOf ByteArray.empty l 0).size l = same0 (rdOf ByteArray.empty l 0).size (l.drop 1) := by
        have h0 := drop_rdS l 0 (by omega)
        rw [List.drop_zero] at h0
        rw [show ((0 : Nat) : Int) = 0 from rfl] at h0
        generalize hz : (rdOf ByteArray.empty l 0).size = z
        conv => lhs; rw [h0]
        simp [same0, hz]
      rw [e]
  · rw [if_neg h, if_neg h]
    simp only [spec_l04Long.j0, spec_l04Long.j1, spec_l04Long.l0, spec_l04Long.j3]
    have hz : (codeA [] l == 0) = false := beq_eq_false_iff_ne.2 h
    simp [hz]
theorem voteFind_l0 (l w : List ByteArray) (hw : 0 < w.length) (hl : l.length ≤ 1048576) : ∀ (d i k : Nat), i + d = l.length → d < k → ∃ r : Int, slices_IndexFunc_Sstring_string_at_voteCode_1.l0 k l (l.length : Int) (i : Int) w = some r ∧ decide (r ≥ 0) = !same0 (rdOf ByteArray.empty w 0).size (l.drop i) := by
  intro d
  induction d with
  | zero =>
    intro i k hi hk
    obtain ⟨k, rfl⟩ : ∃ m, k = m + 1 := ⟨k - 1, by omega⟩
    refine ⟨-1, ?_, ?_⟩
    · simp only [slices_IndexFunc_Sstring_string_at_voteCode_1.l0]
      rw [if_neg (by omega)]
    · rw [List.drop_eq_nil_of_le (by omega)]; simp [same0]
  | succ d ih =>
    intro i k hi hk
    obtain ⟨k, rfl⟩ : ∃ m, k = m + 1 := ⟨k - 1, by omega⟩
    simp only [slices_IndexFunc_Sstring_string_at_voteCode_1.l0, impl_voteCode_1.f]
    rw [if_pos (by omega), if_pos (by omega), if_pos (by omega), if_pos (by omega), Option.bind_some, drop_rdS l i (by omega), wrap_nat i (by omega)]
    by_cases g : (rdOf ByteArray.empty l (i : Int)).size = (rdOf ByteArray.empty w 0).size
    · obtain ⟨r, h1, h2⟩ := ih (i + 1) k (by omega) (by omega)
      refine ⟨r, by rw [if_neg (by simp [g])]; exact h1, ?_⟩
      rw [h2]; simp [same0, g]
    · have g' : ((rdOf ByteArray.empty l (i : Int)).size : Int) ≠ ((rdOf ByteArray.empty w 0).size : Int) := by omega
      refine ⟨(i : Int), by rw [if_pos (bne_iff_ne.2 g')], ?_⟩
      simp only [same0, List.all_cons, decide_eq_false g, Bool.false_and, Bool.not_false]
      exact decide_eq_true (by omega)
theorem codeL_nil (l : List ByteArray) : codeL l [] [] = codeA [] l := by
  unfold codeL codeH codeA
  rw [List.append_nil]
  by_cases a : wordsOk l = true
  · simp [a, habitsOk]
  · simp [a, habitsOk]
theorem voteCode_eq (l : List ByteArray) (a : Int) (ha : 1 ≤ a) (hl : l.length ≤ 1048576) (hb : ∀ s ∈ l, s.size ≤ 2097152) (k : Nat) (hk : 5242990 < k) : impl_voteCode.f k l a = some (codeV l a) := by
  unfold impl_voteCode.f codeV slices_ContainsFunc_Sstring_string_at_voteCode_1.f slices_IndexFunc_Sstring_string_at_voteCode_1.f impl_unless.f
  rw [listCode_eq l [] [] (by simp) hl (by simp) hb (by simp) k (by omega), Option.bind_some, codeL_nil]
  by_cases h : codeA [] l = 0
  · rw [if_pos h, if_pos h]
    by_cases g : (l.length : Int) < a
    · rw [if_pos g, if_pos g]
    · rw [if_neg g, if_neg g]
      obtain ⟨r, h1, h2⟩ := voteFind_l0 l l (by omega) hl l.length 0 k (by omega) (by omega)
      rw [show ((0 : Nat) : Int) = 0 from rfl] at h1
      rw [List.drop_zero] at h2
      simp only [h1, Option.bind_some, h2]
      by_cases e : same0 (rdOf ByteArray.empty l 0).size l = true
      · simp [e]
      · simp [e]
  · rw [if_neg h, if_neg h]
theorem wordsOk_mem (l : List ByteArray) (h : codeA [] l = 0) : ∀ w ∈ l, 1 ≤ w.size ∧ w.size ≤ 12 := by
  intro w hw
  have : wordsOk l = true := by
    unfold codeA at h
    by_cases a : wordsOk l = true
    · exact a
    · simp [a] at h
  exact wordOk_size w (List.all_eq_true.1 this w hw)
theorem codeA_len (l : List ByteArray) (h : codeA [] l = 0) : l.length ≤ 40 := by
  unfold codeA at h
  by_cases a : wordsOk l = true
  · by_cases b : l.length ≤ 40
    · exact b
    · simp [a, habitsOk, b] at h
  · simp [a] at h
theorem codeV_facts (l : List ByteArray) (a : Int) (h : codeV l a = 0) : codeA [] l = 0 ∧ a ≤ (l.length : Int) ∧ (∀ w ∈ l, w.size = (rdOf ByteArray.empty l 0).size) := by
  unfold codeV at h
  by_cases h1 : codeA [] l = 0
  · rw [if_pos h1] at h
    by_cases h2 : (l.length : Int) < a
    · rw [if_pos h2] at h; omega
    · rw [if_neg h2] at h
      by_cases h3 : same0 (rdOf ByteArray.empty l 0).size l = true
      · refine ⟨h1, by omega, fun w hw => ?_⟩
        have := List.all_eq_true.1 h3 w hw
        simpa using this
      · rw [if_neg h3] at h; omega
  · rw [if_neg h1] at h; exact absurd h h1

theorem mem_rdV (l : List ByteArray) (i : Nat) (h : i < l.length) : rdOf ByteArray.empty l (i : Int) ∈ l := by
  rw [rdS_nat, List.getD_eq_getElem?_getD, List.getElem?_eq_getElem h]
  exact List.getElem_mem _
/-- b is the first place of the greatest of the first n numbers. -/
def FM (n : Nat) (v : Nat → Int) (b : Nat) : Prop := b < n ∧ (∀ j, j < n → v j ≤ v b) ∧ ∀ j, j < b → v j < v b
theorem FM_unique {n : Nat} {v : Nat → Int} {b b' : Nat} (h : FM n v b) (h' : FM n v b') : b = b' := by
  obtain ⟨h1, h2, h3⟩ := h
  obtain ⟨g1, g2, g3⟩ := h'
  rcases Nat.lt_trichotomy b b' with q | q | q
  · have a := g3 b q; have c := h2 b' g1; omega
  · exact q
  · have a := h3 b' q; have c := g2 b h1; omega
theorem maxV_l0 (l : List Int) (hl : l.length ≤ 1048576) : ∀ (d i : Nat) (m : Int), i + d = l.length → (∀ j, j < i → rd l (j : Int) ≤ m) → (∃ j, j < i ∧ rd l (j : Int) = m) → ∃ r, (∀ k, d < k → slices_Max_Sint_int.l0 k l m (i : Int) = some r) ∧ (∀ j, j < l.length → rd l (j : Int) ≤ r) ∧ ∃ j, j < l.length ∧ rd l (j : Int) = r := by
  intro d
  induction d with
  | zero =>
    intro i m hi h1 h2
    obtain rfl : i = l.length := by omega
    refine ⟨m, fun k hk => ?_, h1, h2⟩
    obtain ⟨k, rfl⟩ : ∃ m, k = m + 1 := ⟨k - 1, by omega⟩
    simp only [slices_Max_Sint_int.l0]
    rw [if_neg (by omega)]
  | succ d ih =>
    intro i m hi h1 h2
    have hm : mx m (rd l (i : Int)) = if m < rd l (i : Int) then rd l (i : Int) else m := rfl
    obtain ⟨r, a, b⟩ := ih (i + 1) (mx m (rd l (i : Int))) (by omega) (fun j hj => by
      rw [hm]
      by_cases e : j = i
      · subst e; split <;> omega
      · have := h1 j (by omega); split <;> omega) (by
      rw [hm]
      split
      · exact ⟨i, by omega, rfl⟩
      · obtain ⟨j, h3, h4⟩ := h2; exact ⟨j, by omega, h4⟩)
    refine ⟨r, fun k hk => ?_, b⟩
    obtain ⟨k, rfl⟩ : ∃ m, k = m + 1 := ⟨k - 1, by omega⟩
    simp only [slices_Max_Sint_int.l0]
    rw [if_pos (by omega), if_pos (by omega), wrap_nat i (by omega)]
    exact a k (by omega)
theorem indexV_l0 (l : List Int) (hl : l.length ≤ 1048576) (m : Int) : ∀ (d i : Nat), i + d = l.length → (∀ j, j < i → rd l (j : Int) ≠ m) → (∃ j, j < l.length ∧ rd l (j : Int) = m) → ∃ b : Nat, (∀ k, d < k → slices_Index_Sint_int.l0 k l m (l.length : Int) (i : Int) = some (b : Int)) ∧ b < l.length ∧ rd l (b : Int) = m ∧ ∀ j, j < b → rd l (j : Int) ≠ m := by
  intro d
  induction d with
  | zero =>
    intro i hi h1 h2
    obtain ⟨j, h3, h4⟩ := h2
    exact absurd h4 (h1 j (by omega))
  | succ d ih =>
    intro i hi h1 h2
    by_cases e : m = rd l (i : Int)
    · refine ⟨i, fun k hk => ?_, by omega, e.symm, h1⟩
      obtain ⟨k, rfl⟩ : ∃ m, k = m + 1 := ⟨k - 1, by omega⟩
      simp only [slices_Index_Sint_int.l0]
      rw [if_pos (by omega), if_pos (by omega), if_pos (by omega), if_pos e]
    · obtain ⟨b, a, c⟩ := ih (i + 1) (by omega) (fun j hj => by
        by_cases q : j = i
        · subst q; exact fun z => e z.symm
        · exact h1 j (by omega)) h2
      refine ⟨b, fun k hk => ?_, c⟩
      obtain ⟨k, rfl⟩ : ∃ m, k = m + 1 := ⟨k - 1, by omega⟩
      simp only [slices_Index_Sint_int.l0]
      rw [if_pos (by omega), if_pos (by omega), if_pos (by omega), if_neg e, wrap_nat i (by omega)]
      exact a k (by omega)
theorem rd_votes (l : List ByteArray) (i j : Nat) (h : j < 26) : rd (Go.Proofs.Ytkdloidojmccgaa.H.votesL l i) (j : Int) = Go.Proofs.Ytkdloidojmccgaa.H.cntV l i j := by
  unfold Go.Proofs.Ytkdloidojmccgaa.H.votesL
  rw [rd_nat, getD_range_map 0 _ 26 j h]
theorem votesL_len (l : List ByteArray) (i : Nat) : (Go.Proofs.Ytkdloidojmccgaa.H.votesL l i).length = 26 := by simp [Go.Proofs.Ytkdloidojmccgaa.H.votesL]
/-- The program's own choice of a letter. -/
theorem implBest (l : List ByteArray) (i : Nat) : ∃ (m : Int) (b : Nat), FM 26 (Go.Proofs.Ytkdloidojmccgaa.H.cntV l i) b ∧ ∀ k, 30 < k → slices_Max_Sint_int.f k (Go.Proofs.Ytkdloidojmccgaa.H.votesL l i) = some m ∧ slices_Index_Sint_int.f k (Go.Proofs.Ytkdloidojmccgaa.H.votesL l i) m = some (b : Int) := by
  have hlen := votesL_len l i
  obtain ⟨m, h1, h2, h3⟩ := maxV_l0 (Go.Proofs.Ytkdloidojmccgaa.H.votesL l i) (by omega) 25 1 (rd (Go.Proofs.Ytkdloidojmccgaa.H.votesL l i) 0) (by omega) (fun j hj => by
    obtain rfl : j = 0 := by omega
    exact Int.le_refl _) ⟨0, by omega, rfl⟩
  obtain ⟨b, g1, g2, g3, g4⟩ := indexV_l0 (Go.Proofs.Ytkdloidojmccgaa.H.votesL l i) (by omega) m 26 0 (by omega) (fun j hj => by omega) h3
  rw [hlen] at h2 g2
  refine ⟨m, b, ⟨g2, fun j hj => ?_, fun j hj => ?_⟩, fun k hk => ⟨?_, ?_⟩⟩
  · rw [← rd_votes l i j hj, ← rd_votes l i b g2, g3]; exact h2 j hj
  · have a := h2 j (by omega)
    have c := g4 j hj
    rw [← rd_votes l i j (by omega), ← rd_votes l i b g2, g3]
    omega
  · unfold slices_Max_Sint_int.f
    rw [if_neg (by omega), if_pos (by omega)]
    exact h1 k (by omega)
  · unfold slices_Index_Sint_int.f
    exact g1 k (by omega)
theorem vote_l2 (l : List ByteArray) (hl : l.length ≤ 1048576) (i : Nat) (hi : ∀ j, j < l.length → i < (rdOf ByteArray.empty l (j : Int)).size) (xs : List Int) (c : Nat) (hc : c < 26) (best most : Int) (B : Nat) (R : Option (ByteArray × Int))
    (hR : ∀ k, B ≤ k → (if Go.Proofs.Ytkdloidojmccgaa.H.cntV l i c > most then spec_VoteWord.l1 k l xs (i : Int) (97 + (c : Int)) (Go.Proofs.Ytkdloidojmccgaa.H.cntV l i c) (97 + ((c + 1 : Nat) : Int)) else spec_VoteWord.l1 k l xs (i : Int) best most (97 + ((c + 1 : Nat) : Int))) = R) :
    ∀ (d j k : Nat), j + d = l.length → B + d < k → spec_VoteWord.l2 k l xs (i : Int) best most (97 + (c : Int)) (Go.Proofs.Ytkdloidojmccgaa.H.cntV (l.take j) i c) (j : Int) = R := by
  intro d
  induction d with
  | zero =>
    intro j k hj hk
    obtain ⟨k, rfl⟩ : ∃ m, k = m + 1 := ⟨k - 1, by omega⟩
    obtain rfl : j = l.length := by omega
    simp only [spec_VoteWord.l2]
    rw [if_neg (by omega), List.take_length, show (97 + (c : Int) + 1) % 256 = 97 + ((c + 1 : Nat) : Int) by omega]
    exact hR k (by omega)
  | succ d ih =>
    intro j k hj hk
    obtain ⟨k, rfl⟩ : ∃ m, k = m + 1 := ⟨k - 1, by omega⟩
    have h2 := hi j (by omega)
    have h3 := ih (j + 1) k (by omega) (by omega)
    have h4 := Go.Proofs.Ytkdloidojmccgaa.H.cntV_step l i j c (by omega)
    have h5 := Go.Proofs.Ytkdloidojmccgaa.H.cntV_nonneg (l.take j) i c
    have h6 := Go.Proofs.Ytkdloidojmccgaa.H.cntV_le (l.take j) i c
    have h7 : (l.take j).length ≤ l.length := by rw [List.length_take]; omega
    simp only [spec_VoteWord.l2]
    rw [if_pos (by omega), if_pos (by omega), if_pos (by omega), if_pos (by omega), wrap_nat j (by omega)]
    by_cases e : bt (rdOf ByteArray.empty l (j : Int)) (i : Int) = 97 + (c : Int)
    · rw [if_pos e] at h4
      rw [if_pos e, wrap64_id _ (by omega) (by omega), ← h4]
      exact h3
    · rw [if_neg e, Int.add_zero] at h4
      rw [if_neg e, ← h4]
      exact h3
theorem vote_l1 (l : List ByteArray) (hl : l.length ≤ 1048576) (i : Nat) (hi : ∀ j, j < l.length → i < (rdOf ByteArray.empty l (j : Int)).size) (xs : List Int) (hxs : xs.length ≤ 1048576) (hin : i ≤ 1048576) (bF : Nat) (hF : FM 26 (Go.Proofs.Ytkdloidojmccgaa.H.cntV l i) bF) (B : Nat) (R : Option (ByteArray × Int))
    (hR : ∀ k, B ≤ k → spec_VoteWord.l0 k l (xs ++ [97 + (bF : Int)]) ((i + 1 : Nat) : Int) = R) :
    ∀ (d c k b : Nat) (most : Int), c + d = 26 → b < 26 → (c = 0 → b = 0) → 0 ≤ most → (∀ j, j < c → Go.Proofs.Ytkdloidojmccgaa.H.cntV l i j ≤ most) → (∀ j, j < b → Go.Proofs.Ytkdloidojmccgaa.H.cntV l i j < most) → (0 < c → Go.Proofs.Ytkdloidojmccgaa.H.cntV l i b = most) → (c = 0 → most = 0) → B + d * (l.length + 2) < k → spec_VoteWord.l1 k l xs (i : Int) (97 + (b : Int)) most (97 + (c : Int)) = R := by
  intro d
  induction d with
  | zero =>
    intro c k b most hc hb h0 hm h1 h2 h3 h4 hk
    obtain ⟨k, rfl⟩ : ∃ m, k = m + 1 := ⟨k - 1, by omega⟩
    obtain rfl : c = 26 := by omega
    have e := h3 (by omega)
    have hb' : FM 26 (Go.Proofs.Ytkdloidojmccgaa.H.cntV l i) b := ⟨hb, fun j hj => by rw [e]; exact h1 j hj, fun j hj => by rw [e]; exact h2 j hj⟩
    obtain rfl := FM_unique hb' hF
    simp only [spec_VoteWord.l1]
    rw [if_neg (by omega), if_pos (by omega), wrap_nat i (by omega)]
    exact hR k (by omega)
  | succ d ih =>
    intro c k b most hc hb h0 hm h1 h2 h3 h4 hk
    obtain ⟨k, rfl⟩ : ∃ m, k = m + 1 := ⟨k - 1, by omega⟩
    have hmul : (d + 1) * (l.length + 2) = d * (l.length + 2) + (l.length + 2) := Nat.succ_mul _ _
    simp only [spec_VoteWord.l1]
    rw [if_pos (by omega)]
    have hnn := Go.Proofs.Ytkdloidojmccgaa.H.cntV_nonneg l i c
    have h := vote_l2 l hl i hi xs c (by omega) (97 + (b : Int)) most (B + d * (l.length + 2) + 1) R (fun k hk => by
      by_cases e : Go.Proofs.Ytkdloidojmccgaa.H.cntV l i c > most
      · rw [if_pos e]
        refine ih (c + 1) k c _ (by omega) (by omega) (by omega) hnn (fun j hj => ?_) (fun j hj => ?_) (fun _ => rfl) (by omega) (by omega)
        · by_cases q : j = c
          · subst q; exact Int.le_refl _
          · have := h1 j (by omega); omega
        · have := h1 j hj; omega
      · rw [if_neg e]
        refine ih (c + 1) k b most (by omega) hb (by omega) hm (fun j hj => ?_) h2 (fun _ => ?_) (by omega) (by omega)
        · by_cases q : j = c
          · subst q; omega
          · exact h1 j (by omega)
        · by_cases q : c = 0
          · have a := h0 q
            have z := h4 q
            subst q
            subst a
            omega
          · exact h3 (by omega)) l.length 0 k (by omega) (by omega)
    rw [List.take_zero] at h
    exact h
theorem vote_l0 (l : List ByteArray) (h1 : 1 ≤ l.length) (hl : l.length ≤ 1048576) (n : Nat) (hn : n = (rdOf ByteArray.empty l 0).size) (hn12 : n ≤ 1000) (hw : ∀ j, j < l.length → (rdOf ByteArray.empty l (j : Int)).size = n) (K : Nat) (hK : 30 < K) : ∀ (d i : Nat) (xs : List Int), i + d = n → xs.length = i →
    ∃ res, Go.Proofs.Ytkdloidojmccgaa.H.voteF (slices_Max_Sint_int.f K) (slices_Max_Sint_int.f K) (slices_Index_Sint_int.f K) l d i xs = some res ∧ ∀ k, d * (26 * (l.length + 2) + 10) < k → spec_VoteWord.l0 k l xs (i : Int) = some (strOfNums res, 0) := by
  intro d
  induction d with
  | zero =>
    intro i xs hi hx
    refine ⟨xs, rfl, fun k hk => ?_⟩
    obtain ⟨k, rfl⟩ : ∃ m, k = m + 1 := ⟨k - 1, by omega⟩
    simp only [spec_VoteWord.l0]
    rw [if_pos (by omega), if_neg (by omega)]
  | succ d ih =>
    intro i xs hi hx
    obtain ⟨m, b, hF, hk1⟩ := implBest l i
    obtain ⟨e1, e2⟩ := hk1 K hK
    have hb : b < 26 := hF.1
    obtain ⟨res, g1, g2⟩ := ih (i + 1) (xs ++ [97 + (b : Int)]) (by omega) (by simp [hx])
    refine ⟨res, ?_, fun k hk => ?_⟩
    · simp only [Go.Proofs.Ytkdloidojmccgaa.H.voteF]
      rw [e1, Option.bind_some, e2, Option.bind_some, if_pos (by omega)]
      exact g1
    · obtain ⟨k, rfl⟩ : ∃ m, k = m + 1 := ⟨k - 1, by omega⟩
      have hmul : (d + 1) * (26 * (l.length + 2) + 10) = d * (26 * (l.length + 2) + 10) + (26 * (l.length + 2) + 10) := Nat.succ_mul _ _
      simp only [spec_VoteWord.l0]
      rw [if_pos (by omega), if_pos (by omega)]
      have h := vote_l1 l hl i (fun j hj => by rw [hw j hj]; omega) xs (by omega) (by omega) b hF (d * (26 * (l.length + 2) + 10) + 1) _ (fun k hk => g2 k (by omega)) 26 0 k 0 0 (by omega) (by omega) (fun _ => rfl) (by omega) (fun j hj => by omega) (fun j hj => by omega) (by omega) (fun _ => rfl) (by omega)
      exact h
theorem lettersFrom_at (s : ByteArray) : ∀ (d i : Nat), lettersFrom s d i = true → ∀ j, i ≤ j → j < i + d → 97 ≤ bt s (j : Int) ∧ bt s (j : Int) ≤ 122 := by
  intro d
  induction d with
  | zero => intro i h j h1 h2; omega
  | succ d ih =>
    intro i h j h1 h2
    simp only [lettersFrom, Bool.and_eq_true] at h
    by_cases e : j = i
    · subst e
      have := h.1
      simpa [letter] using this
    · exact ih (i + 1) h.2 j (by omega) (by omega)
theorem voteOk_of (l : List ByteArray) (h : codeV l 1 = 0) : Go.Proofs.Ytkdloidojmccgaa.H.voteOk l = true := by
  obtain ⟨h1, h2, h3⟩ := codeV_facts l 1 h
  have hok : wordsOk l = true := by
    unfold codeA at h1
    by_cases a : wordsOk l = true
    · exact a
    · simp [a] at h1
  unfold Go.Proofs.Ytkdloidojmccgaa.H.voteOk
  rw [List.all_eq_true]
  intro s hs
  rw [Bool.and_eq_true, decide_eq_true_iff]
  refine ⟨h3 s hs, ?_⟩
  rw [List.all_eq_true]
  intro i hi
  have hi' := List.mem_range.1 hi
  have hw : wordOk s = true := List.all_eq_true.1 hok s hs
  unfold wordOk at hw
  rw [Bool.and_eq_true] at hw
  have := lettersFrom_at s s.size 0 hw.1 i (by omega) (by omega)
  rw [Bool.and_eq_true, decide_eq_true_iff, decide_eq_true_iff]
  exact this
theorem mem_rdA (l : List ByteArray) (i : Nat) (h : i < l.length) : rdOf ByteArray.empty l (i : Int) ∈ l := by
  rw [rdS_nat, List.getD_eq_getElem?_getD, List.getElem?_eq_getElem h]
  exact List.getElem_mem _
/-- Two words are too near to each other. -/
def nearT (least : Int) (t w : ByteArray) : Bool := !(decide (t.size = w.size) && decide (unl t w ≥ least))
def nearB (least : Int) (tk : List ByteArray) (w : ByteArray) : Bool := tk.any (fun t => nearT least t w)
theorem one_near (ws : List ByteArray) (least : Int) (i : Nat) (hi : i < ws.length) (t : ByteArray) (ht : t.size ≤ 12) (k : Nat) (hk : 20 < k) : impl_ChooseApart_1_1.f k t ws (i : Int) least = some (nearT least t (rdOf ByteArray.empty ws (i : Int))) := by
  unfold impl_ChooseApart_1_1.f nearT
  rw [if_pos (by omega), if_pos (by omega)]
  by_cases e : t.size = (rdOf ByteArray.empty ws (i : Int)).size
  · rw [if_pos (by omega), unlike_eq t _ (by omega) (by omega) k (by omega), Option.bind_some]
    simp only [e, decide_true, Bool.true_and]
    congr 1
    by_cases q : unl t (rdOf ByteArray.empty ws (i : Int)) < least
    · rw [decide_eq_true q, decide_eq_false (by omega)]; rfl
    · rw [decide_eq_false q, decide_eq_true (by omega)]; rfl
  · rw [if_neg (by omega)]
    simp [e]
theorem index_near (ws : List ByteArray) (least : Int) (i : Nat) (hi : i < ws.length) (tk : List ByteArray) (hl : tk.length ≤ 1048576) (ht : ∀ t ∈ tk, t.size ≤ 12) : ∀ (d j k : Nat), j + d = tk.length → d + 20 < k → ∃ r : Int, slices_IndexFunc_Sstring_string_at_ChooseApart_1_1.l0 k tk (tk.length : Int) (j : Int) ws (i : Int) least = some r ∧ decide (r ≥ 0) = nearB least (tk.drop j) (rdOf ByteArray.empty ws (i : Int)) := by
  intro d
  induction d with
  | zero =>
    intro j k hj hk
    obtain ⟨k, rfl⟩ : ∃ m, k = m + 1 := ⟨k - 1, by omega⟩
    refine ⟨-1, ?_, ?_⟩
    · simp only [slices_IndexFunc_Sstring_string_at_ChooseApart_1_1.l0]
      rw [if_neg (by omega)]
    · rw [List.drop_eq_nil_of_le (by omega)]; simp [nearB]
  | succ d ih =>
    intro j k hj hk
    obtain ⟨k, rfl⟩ : ∃ m, k = m + 1 := ⟨k - 1, by omega⟩
    simp only [slices_IndexFunc_Sstring_string_at_ChooseApart_1_1.l0]
    rw [if_pos (by omega), if_pos (by omega), if_pos (by omega), one_near ws least i hi _ (ht _ (mem_rdA tk j (by omega))) k (by omega), Option.bind_some, drop_rdS tk j (by omega), wrap_nat j (by omega)]
    by_cases g : nearT least (rdOf ByteArray.empty tk (j : Int)) (rdOf ByteArray.empty ws (i : Int)) = true
    · refine ⟨(j : Int), by rw [if_pos g], ?_⟩
      simp only [nearB, List.any_cons, g, Bool.true_or]
      exact decide_eq_true (by omega)
    · obtain ⟨r, h1, h2⟩ := ih (j + 1) k (by omega) (by omega)
      refine ⟨r, by rw [if_neg g]; exact h1, ?_⟩
      rw [h2]
      simp only [nearB, List.any_cons, Bool.not_eq_true _ ▸ g, Bool.false_or]
theorem contains_near (ws : List ByteArray) (least : Int) (i : Nat) (hi : i < ws.length) (tk : List ByteArray) (hl : tk.length ≤ 1048576) (ht : ∀ t ∈ tk, t.size ≤ 12) (k : Nat) (hk : tk.length + 20 < k) : slices_ContainsFunc_Sstring_string_at_ChooseApart_1_1.f k tk ws (i : Int) least = some (nearB least tk (rdOf ByteArray.empty ws (i : Int))) := by
  unfold slices_ContainsFunc_Sstring_string_at_ChooseApart_1_1.f slices_IndexFunc_Sstring_string_at_ChooseApart_1_1.f
  obtain ⟨r, h1, h2⟩ := index_near ws least i hi tk hl ht tk.length 0 k (by omega) (by omega)
  rw [show ((0 : Nat) : Int) = 0 from rfl] at h1
  rw [h1, Option.bind_some, h2]
  rfl
theorem specApart_l1 (ws : List ByteArray) (hws : ws.length ≤ 40) (hw : ∀ w ∈ ws, w.size ≤ 12) (least : Int) (o : List Int) (ho : ∀ j, j < o.length → 0 ≤ rd o (j : Int) ∧ rd o (j : Int) < (ws.length : Int)) (hol : o.length ≤ 1048576) (i : Nat) (hi : i < ws.length) (B : Nat) (V W : Option (List Int × Int))
    (hV : ∀ k, B ≤ k → spec_ChooseApart.l0 k ws least (o ++ [(i : Int)]) ((i + 1 : Nat) : Int) = V) (hW : ∀ k, B ≤ k → spec_ChooseApart.l0 k ws least o ((i + 1 : Nat) : Int) = W) :
    ∀ (d j k : Nat) (fine : Bool), j + d = o.length → B + d + 20 < k → spec_ChooseApart.l1 k ws least o (i : Int) fine (j : Int) = if (fine && !nearB least ((o.drop j).map (fun x => rdOf ByteArray.empty ws x)) (rdOf ByteArray.empty ws (i : Int))) = true then V else W := by
  intro d
  induction d with
  | zero =>
    intro j k fine hj hk
    obtain ⟨k, rfl⟩ : ∃ m, k = m + 1 := ⟨k - 1, by omega⟩
    simp only [spec_ChooseApart.l1]
    rw [if_neg (by omega), List.drop_eq_nil_of_le (by omega), wrap_nat i (by omega)]
    cases fine with
    | true =>
      rw [if_pos rfl, if_pos (by omega)]
      rw [if_pos (by simp [nearB])]
      exact hV k (by omega)
    | false =>
      rw [if_neg (by decide), if_neg (by simp)]
      exact hW k (by omega)
  | succ d ih =>
    intro j k fine hj hk
    obtain ⟨k, rfl⟩ : ∃ m, k = m + 1 := ⟨k - 1, by omega⟩
    obtain ⟨h1, h2⟩ := ho j (by omega)
    have hd : o.drop j = rd o (j : Int) :: o.drop (j + 1) := drop_rd o j (by omega)
    obtain ⟨q, hq⟩ : ∃ q : Nat, rd o (j : Int) = (q : Int) := ⟨(rd o (j : Int)).toNat, by omega⟩
    have hsz := hw _ (mem_rdA ws q (by omega))
    rw [← hq] at hsz
    simp only [spec_ChooseApart.l1]
    rw [if_pos (by omega), if_pos (by omega), if_pos h1, if_pos h2, hd, wrap_nat j (by omega), List.map_cons]
    cases fine with
    | true =>
      rw [if_pos rfl, if_pos (by omega), if_pos (by omega)]
      by_cases e : (rdOf ByteArray.empty ws (rd o (j : Int))).size = (rdOf ByteArray.empty ws (i : Int)).size
      · rw [if_pos (by omega), l04Unlike_eq _ _ (by omega) (by omega) k (by omega), Option.bind_some, ih (j + 1) k _ (by omega) (by omega)]
        simp only [nearB, List.any_cons, nearT, e, decide_true, Bool.true_and, Bool.not_or, Bool.not_not]
        rfl
      · rw [if_neg (by omega), ih (j + 1) k _ (by omega) (by omega)]
        simp only [nearB, List.any_cons, nearT, e, decide_false, Bool.false_and, Bool.not_false, Bool.true_or, Bool.not_true, Bool.and_false]
    | false =>
      rw [if_neg (by decide), ih (j + 1) k _ (by omega) (by omega)]
      simp only [Bool.false_and]
/-- Which words are taken. -/
def takes (least : Int) (ws : List ByteArray) : Nat → Nat → List Int → List Int
  | 0, _, o => o
  | d + 1, i, o => takes least ws d (i + 1) (if nearB least (o.map (fun x => rdOf ByteArray.empty ws x)) (rdOf ByteArray.empty ws (i : Int)) = true then o else o ++ [(i : Int)])
theorem takes_succ (least : Int) (ws : List ByteArray) (d i : Nat) (o : List Int) : takes least ws (d + 1) i o = takes least ws d (i + 1) (if nearB least (o.map (fun x => rdOf ByteArray.empty ws x)) (rdOf ByteArray.empty ws (i : Int)) = true then o else o ++ [(i : Int)]) := rfl
theorem takes_len (least : Int) (ws : List ByteArray) : ∀ (d i : Nat) (o : List Int), (takes least ws d i o).length ≤ o.length + d := by
  intro d
  induction d with
  | zero => intro i o; exact Nat.le_refl _
  | succ d ih =>
    intro i o
    unfold takes
    refine Nat.le_trans (ih _ _) ?_
    split
    · omega
    · rw [List.length_append]; simp only [List.length_singleton]; omega
theorem rd_app (o : List Int) (x : Int) (j : Nat) (h : j < o.length + 1) : rd (o ++ [x]) (j : Int) = if j < o.length then rd o (j : Int) else x := by
  rw [rd_nat, rd_nat, List.getD_eq_getElem?_getD, List.getD_eq_getElem?_getD]
  by_cases e : j < o.length
  · rw [if_pos e, List.getElem?_append_left e]
  · rw [if_neg e]
    obtain rfl : j = o.length := by omega
    simp
theorem apart_both (ws : List ByteArray) (hws : ws.length ≤ 40) (hw : ∀ w ∈ ws, w.size ≤ 12) (least : Int) (K : Nat) (hK : 200 < K) : ∀ (d i : Nat) (o : List Int), i + d = ws.length → o.length ≤ i → (∀ j, j < o.length → 0 ≤ rd o (j : Int) ∧ rd o (j : Int) < (ws.length : Int)) →
    Go.Proofs.Ytkdloidojmccgaa.H.apF (fun tk i => slices_ContainsFunc_Sstring_string_at_ChooseApart_1_1.f K tk ws (i : Int) least) ws d i (o.map (fun x => rdOf ByteArray.empty ws x)) o = some (takes least ws d i o) ∧ ∀ k, d * 100 + 1 < k → spec_ChooseApart.l0 k ws least o (i : Int) = some (takes least ws d i o, 0) := by
  intro d
  induction d with
  | zero =>
    intro i o hi ho hr
    refine ⟨rfl, fun k hk => ?_⟩
    obtain ⟨k, rfl⟩ : ∃ m, k = m + 1 := ⟨k - 1, by omega⟩
    simp only [spec_ChooseApart.l0]
    rw [if_neg (by omega)]
    rfl
  | succ d ih =>
    intro i o hi ho hr
    have hmem : ∀ t ∈ o.map (fun x => rdOf ByteArray.empty ws x), t.size ≤ 12 := by
      intro t ht
      obtain ⟨x, hx, rfl⟩ := List.mem_map.1 ht
      obtain ⟨j, hj, hj2⟩ := List.getElem_of_mem hx
      have h3 := hr j hj
      rw [rd_nat, List.getD_eq_getElem?_getD, List.getElem?_eq_getElem hj, Option.getD_some, hj2] at h3
      obtain ⟨q, rfl⟩ : ∃ q : Nat, x = (q : Int) := ⟨x.toNat, by omega⟩
      exact hw _ (mem_rdA ws q (by omega))
    have hr2 : ∀ j, j < (o ++ [(i : Int)]).length → 0 ≤ rd (o ++ [(i : Int)]) (j : Int) ∧ rd (o ++ [(i : Int)]) (j : Int) < (ws.length : Int) := by
      intro j hj
      rw [List.length_append] at hj
      simp only [List.length_singleton] at hj
      rw [rd_app o _ j hj]
      by_cases e : j < o.length
      · rw [if_pos e]; exact hr j e
      · rw [if_neg e]; omega
    obtain ⟨a1, a2⟩ := ih (i + 1) o (by omega) (by omega) hr
    obtain ⟨b1, b2⟩ := ih (i + 1) (o ++ [(i : Int)]) (by omega) (by rw [List.length_append]; simp only [List.length_singleton]; omega) hr2
    constructor
    · simp only [Go.Proofs.Ytkdloidojmccgaa.H.apF]
      rw [contains_near ws least i (by omega) _ (by rw [List.length_map]; omega) hmem K (by rw [List.length_map]; omega), Option.bind_some]
      rw [takes_succ]
      unfold Go.Proofs.Ytkdloidojmccgaa.H.apNext
      by_cases e : nearB least (o.map (fun x => rdOf ByteArray.empty ws x)) (rdOf ByteArray.empty ws (i : Int)) = true
      · rw [if_pos e, if_pos e]; exact a1
      · rw [if_neg e, if_neg e]
        rw [List.map_append] at b1
        exact b1
    · intro k hk
      obtain ⟨k, rfl⟩ : ∃ m, k = m + 1 := ⟨k - 1, by omega⟩
      simp only [spec_ChooseApart.l0]
      rw [if_pos (by omega)]
      have h := specApart_l1 ws hws hw least o hr (by omega) i (by omega) (d * 100 + 2) _ _ (fun k hk => b2 k (by omega)) (fun k hk => a2 k (by omega)) o.length 0 k true (by omega) (by omega)
      rw [show ((0 : Nat) : Int) = 0 from rfl, List.drop_zero] at h
      rw [h, takes_succ]
      by_cases e : nearB least (o.map (fun x => rdOf ByteArray.empty ws x)) (rdOf ByteArray.empty ws (i : Int)) = true
      · rw [if_pos e, if_neg (by simp [e])]
      · rw [if_neg e, if_pos (by simp [e])]
def finA (ws : List ByteArray) (least : Int) : List Int × Int :=
  if codeA [] ws = 1 then ([], 1) else if 0 ≤ least ∧ least ≤ 12 then (if codeA [] ws = 0 then (takes least ws ws.length 0 [], 0) else ([], codeA [] ws)) else ([], 2)
theorem apart_codes (ws : List ByteArray) (least : Int) (hl : ws.length ≤ 1048576) (hb : ∀ s ∈ ws, s.size ≤ 2097152) (k : Nat) (hk : 6000000 ≤ k) : spec_ChooseApart.f k ws least = some (finA ws least) ∧ impl_ChooseApart.f k ws least = some (finA ws least) := by
  unfold spec_ChooseApart.f impl_ChooseApart.f finA
  rw [Option.bind_some, asked_eq [] ws (by simp) (by omega) hb k (by omega), listCode_eq ws [] [] (by simp) hl (by simp) hb (by simp) k (by omega), codeL_nil, Option.bind_some, Option.bind_some, in_eq, within_eq]
  by_cases h1 : codeA [] ws = 1
  · rw [if_pos h1, if_pos h1, if_pos h1]
    refine ⟨?_, rfl⟩
    obtain ⟨k, rfl⟩ : ∃ m, k = m + 2 := ⟨k - 2, by omega⟩
    simp only [spec_ChooseApart.j0, spec_ChooseApart.j1]
    rw [if_neg (by decide), if_neg (by omega), h1]
  · rw [if_neg h1, if_neg h1, if_neg h1, Option.bind_some, Option.bind_some]
    by_cases h2 : 0 ≤ least ∧ least ≤ 12
    · rw [decide_eq_true h2, if_pos h2, if_pos rfl]
      by_cases h3 : codeA [] ws = 0
      · have h4 := codeA_len ws h3
        have hw : ∀ w ∈ ws, w.size ≤ 12 := fun w hw => (wordsOk_mem ws h3 w hw).2
        obtain ⟨a1, a2⟩ := apart_both ws h4 hw least k (by omega) ws.length 0 [] (by omega) (by simp) (fun j hj => absurd hj (by simp))
        rw [List.map_nil] at a1
        rw [if_pos h3, if_pos h3, if_pos (by omega), a1]
        refine ⟨?_, rfl⟩
        obtain ⟨k, rfl⟩ : ∃ m, k = m + 2 := ⟨k - 2, by omega⟩
        simp only [spec_ChooseApart.j0, spec_ChooseApart.j1]
        rw [if_neg (by decide), if_pos h3]
        exact a2 k (by omega)
      · rw [if_neg h3, if_neg h3]
        refine ⟨?_, rfl⟩
        obtain ⟨k, rfl⟩ : ∃ m, k = m + 2 := ⟨k - 2, by omega⟩
        simp only [spec_ChooseApart.j0, spec_ChooseApart.j1]
        rw [if_neg (by decide), if_neg h3]
    · rw [decide_eq_false h2, if_neg h2, if_neg (by decide)]
      refine ⟨?_, rfl⟩
      obtain ⟨k, rfl⟩ : ∃ m, k = m + 2 := ⟨k - 2, by omega⟩
      simp only [spec_ChooseApart.j0, spec_ChooseApart.j1]
      rw [if_pos (by decide), if_neg (by decide)]

def mi (m u : Int) : Int := if m < u then m else u
theorem mn_mi (m u : Int) : mn m u = mi m u := by unfold mn mi; split <;> split <;> omega
theorem min_mi (m u : Int) : spec_l00Min.f m u = some (mi m u) := by
  unfold spec_l00Min.f mi
  split <;> rfl
def inF (l : List ByteArray) (i : Nat) : Nat → Nat → Int → Int
  | 0, _, m => m
  | d + 1, j, m => inF l i d (j + 1) (mi m (unl (rdOf ByteArray.empty l (i : Int)) (rdOf ByteArray.empty l (j : Int))))
def outF (l : List ByteArray) : Nat → Nat → Int → Int
  | 0, _, m => m
  | d + 1, i, m => outF l d (i + 1) (inF l i i 0 m)
theorem mem_rdS (l : List ByteArray) (i : Nat) (h : i < l.length) : rdOf ByteArray.empty l (i : Int) ∈ l := by
  rw [rdS_nat, List.getD_eq_getElem?_getD, List.getElem?_eq_getElem h]
  exact List.getElem_mem _
theorem specLU_l1 (l : List ByteArray) (z : Nat) (hz : z ≤ 12) (hw : ∀ w ∈ l, w.size = z) (hl : l.length ≤ 40) (i : Nat) (hi : i < l.length) (B : Nat) (R : Option (Int × Int)) (V : Int) (hR : ∀ k, B ≤ k → spec_LeastUnlike.l0 k l V ((i + 1 : Nat) : Int) = R) :
    ∀ (d j k : Nat) (m : Int), j + d = i → inF l i d j m = V → B + d + 20 < k → spec_LeastUnlike.l1 k l m (i : Int) (j : Int) = R := by
  intro d
  induction d with
  | zero =>
    intro j k m hj hv hk
    obtain ⟨k, rfl⟩ : ∃ m, k = m + 1 := ⟨k - 1, by omega⟩
    have hv' : m = V := hv
    subst hv'
    simp only [spec_LeastUnlike.l1]
    rw [if_neg (by omega), wrap_nat i (by omega)]
    exact hR k (by omega)
  | succ d ih =>
    intro j k m hj hv hk
    obtain ⟨k, rfl⟩ : ∃ m, k = m + 1 := ⟨k - 1, by omega⟩
    have h1 := hw _ (mem_rdS l i hi)
    have h2 := hw _ (mem_rdS l j (by omega))
    simp only [spec_LeastUnlike.l1]
    rw [if_pos (by omega), if_pos (by omega), if_pos (by omega), if_pos (by omega), if_pos (by omega), l04Unlike_eq _ _ (by omega) (by omega) k (by omega), Option.bind_some, min_mi, Option.bind_some, wrap_nat j (by omega)]
    exact ih (j + 1) k _ (by omega) hv (by omega)
theorem specLU_l0 (l : List ByteArray) (z : Nat) (hz : z ≤ 12) (hw : ∀ w ∈ l, w.size = z) (hl : l.length ≤ 40) : ∀ (d i k : Nat) (m : Int), i + d = l.length → 100 * d < k → spec_LeastUnlike.l0 k l m (i : Int) = some (outF l d i m, 0) := by
  intro d
  induction d with
  | zero =>
    intro i k m hi hk
    obtain ⟨k, rfl⟩ : ∃ m, k = m + 1 := ⟨k - 1, by omega⟩
    simp only [spec_LeastUnlike.l0]
    rw [if_neg (by omega)]
    rfl
  | succ d ih =>
    intro i k m hi hk
    obtain ⟨k, rfl⟩ : ∃ m, k = m + 1 := ⟨k - 1, by omega⟩
    simp only [spec_LeastUnlike.l0]
    rw [if_pos (by omega)]
    exact specLU_l1 l z hz hw hl i (by omega) (100 * d + 1) _ _ (fun k hk => ih (i + 1) k _ (by omega) (by omega)) i 0 k m (by omega) rfl (by omega)
theorem rd_take (l : List ByteArray) (i j : Nat) (h : j < i) : rdOf ByteArray.empty (l.take i) (j : Int) = rdOf ByteArray.empty l (j : Int) := by
  rw [rdS_nat, rdS_nat, List.getD_eq_getElem?_getD, List.getD_eq_getElem?_getD, List.getElem?_take, if_pos h]
theorem implLU_l1 (l : List ByteArray) (z : Nat) (hz : z ≤ 12) (hw : ∀ w ∈ l, w.size = z) (hl : l.length ≤ 40) (i : Nat) (hi : i < l.length) (B : Nat) (R : Option (Int × Int)) (V : Int) (hR : ∀ k, B ≤ k → impl_LeastUnlike.l0 k l V l (l.length : Int) ((i + 1 : Nat) : Int) = R) :
    ∀ (d j k : Nat) (m : Int), j + d = i → inF l i d j m = V → B + d + 20 < k → impl_LeastUnlike.l1 k l m (rdOf ByteArray.empty l (i : Int)) l (l.length : Int) (i : Int) (l.take i) ((l.take i).length : Int) (j : Int) = R := by
  intro d
  induction d with
  | zero =>
    intro j k m hj hv hk
    obtain ⟨k, rfl⟩ : ∃ m, k = m + 1 := ⟨k - 1, by omega⟩
    have hv' : m = V := hv
    subst hv'
    simp only [impl_LeastUnlike.l1]
    rw [if_neg (by rw [List.length_take]; omega), wrap_nat i (by omega)]
    exact hR k (by omega)
  | succ d ih =>
    intro j k m hj hv hk
    obtain ⟨k, rfl⟩ : ∃ m, k = m + 1 := ⟨k - 1, by omega⟩
    have h1 := hw _ (mem_rdS l i hi)
    have h2 := hw _ (mem_rdS l j (by omega))
    simp only [impl_LeastUnlike.l1]
    rw [if_pos (by rw [List.length_take]; omega), if_pos (by omega), if_pos (by rw [List.length_take]; omega), rd_take l i j (by omega), unlike_eq _ _ (by omega) (by omega) k (by omega), Option.bind_some, mn_mi, wrap_nat j (by omega)]
    exact ih (j + 1) k _ (by omega) hv (by omega)
theorem implLU_l0 (l : List ByteArray) (z : Nat) (hz : z ≤ 12) (hw : ∀ w ∈ l, w.size = z) (hl : l.length ≤ 40) : ∀ (d i k : Nat) (m : Int), i + d = l.length → 100 * d < k → impl_LeastUnlike.l0 k l m l (l.length : Int) (i : Int) = some (outF l d i m, 0) := by
  intro d
  induction d with
  | zero =>
    intro i k m hi hk
    obtain ⟨k, rfl⟩ : ∃ m, k = m + 1 := ⟨k - 1, by omega⟩
    simp only [impl_LeastUnlike.l0]
    rw [if_neg (by omega)]
    rfl
  | succ d ih =>
    intro i k m hi hk
    obtain ⟨k, rfl⟩ : ∃ m, k = m + 1 := ⟨k - 1, by omega⟩
    simp only [impl_LeastUnlike.l0]
    rw [if_pos (by omega), if_pos (by omega), if_pos (by omega), if_pos (by omega), Int.toNat_natCast]
    exact implLU_l1 l z hz hw hl i (by omega) (100 * d + 1) _ _ (fun k hk => ih (i + 1) k _ (by omega) (by omega)) i 0 k m (by omega) rfl (by omega)

def nearF (x : ByteArray) : List ByteArray → Nat → Int → Int → Int × Int × Int
  | [], _, best, least => if best < 0 then (0, 0, 6) else (best, least, 0)
  | w :: r, i, best, least => if w.size = x.size then (if best < 0 ∨ unl w x < least then nearF x r (i + 1) (i : Int) (unl w x) else nearF x r (i + 1) best least) else nearF x r (i + 1) best least
theorem specNear_l0 (l : List ByteArray) (x : ByteArray) (hl : l.length ≤ 1048576) (hx : x.size ≤ 12) : ∀ (d i k : Nat) (best least : Int), i + d = l.length → d + 20 < k → spec_NearestWord.l0 k l x best least (i : Int) = some (nearF x (l.drop i) i best least) := by
  intro d
  induction d with
  | zero =>
    intro i k best least hi hk
    obtain ⟨k, rfl⟩ : ∃ m, k = m + 1 := ⟨k - 1, by omega⟩
    simp only [spec_NearestWord.l0]
    rw [if_neg (by omega), List.drop_eq_nil_of_le (by omega)]
    simp only [nearF]
    by_cases h : best < 0 <;> simp [h]
  | succ d ih =>
    intro i k best least hi hk
    obtain ⟨k, rfl⟩ : ∃ m, k = m + 1 := ⟨k - 1, by omega⟩
    simp only [spec_NearestWord.l0]
    rw [if_pos (by omega), if_pos (by omega), drop_rdS l i (by omega), wrap_nat i (by omega)]
    simp only [nearF]
    by_cases h : (rdOf ByteArray.empty l (i : Int)).size = x.size
    · rw [if_pos (by omega), l04Unlike_eq _ x (by omega) (by omega) k (by omega), Option.bind_some, if_pos h]
      by_cases h1 : best < 0
      · rw [if_pos h1, ih (i + 1) k _ _ (by omega) (by omega), if_pos (Or.inl h1)]
      · by_cases h2 : unl (rdOf ByteArray.empty l (i : Int)) x < least
        · rw [if_neg h1, if_pos h2, ih (i + 1) k _ _ (by omega) (by omega), if_pos (Or.inr h2)]
        · rw [if_neg h1, if_neg h2, ih (i + 1) k _ _ (by omega) (by omega), if_neg (by simp [h1, h2])]
    · rw [if_neg (by omega), ih (i + 1) k _ _ (by omega) (by omega), if_neg h]
theorem implNear_l0 (l : List ByteArray) (x : ByteArray) (hl : l.length ≤ 1048576) (hx : x.size ≤ 12) : ∀ (d i k : Nat) (best least : Int), i + d = l.length → d + 20 < k → impl_NearestWord.l0 k x best least l (l.length : Int) (i : Int) = some (nearF x (l.drop i) i best least) := by
  intro d
  induction d with
  | zero =>
    intro i k best least hi hk
    obtain ⟨k, rfl⟩ : ∃ m, k = m + 1 := ⟨k - 1, by omega⟩
    simp only [impl_NearestWord.l0]
    rw [if_neg (by omega), List.drop_eq_nil_of_le (by omega)]
    simp only [nearF]
    by_cases h : best < 0 <;> simp [h]
  | succ d ih =>
    intro i k best least hi hk
    obtain ⟨k, rfl⟩ : ∃ m, k = m + 1 := ⟨k - 1, by omega⟩
    simp only [impl_NearestWord.l0]
    rw [if_pos (by omega), if_pos (by omega), if_pos (by omega), drop_rdS l i (by omega), wrap_nat i (by omega)]
    simp only [nearF]
    by_cases h : (rdOf ByteArray.empty l (i : Int)).size = x.size
    · rw [if_pos (by omega), unlike_eq _ x (by omega) (by omega) k (by omega), Option.bind_some, if_pos h]
      by_cases h1 : best < 0
      · rw [if_pos h1, ih (i + 1) k _ _ (by omega) (by omega), if_pos (Or.inl h1)]
      · by_cases h2 : unl (rdOf ByteArray.empty l (i : Int)) x < least
        · rw [if_neg h1, if_pos h2, ih (i + 1) k _ _ (by omega) (by omega), if_pos (Or.inr h2)]
        · rw [if_neg h1, if_neg h2, ih (i + 1) k _ _ (by omega) (by omega), if_neg (by simp [h1, h2])]
    · rw [if_neg (by omega), ih (i + 1) k _ _ (by omega) (by omega), if_neg h]

theorem has_l0 (l : List Int) (a : Int) (hl : l.length ≤ 1048576) : ∀ (d i k : Nat), i + d = l.length → d < k → spec_l00Has.l0 k l a (i : Int) = some (decide (a ∈ l.drop i)) := by
  intro d
  induction d with
  | zero =>
    intro i k hi hk
    obtain ⟨k, rfl⟩ : ∃ m, k = m + 1 := ⟨k - 1, by omega⟩
    simp only [spec_l00Has.l0]
    rw [if_neg (by omega), List.drop_eq_nil_of_le (by omega)]
    simp
  | succ d ih =>
    intro i k hi hk
    obtain ⟨k, rfl⟩ : ∃ m, k = m + 1 := ⟨k - 1, by omega⟩
    simp only [spec_l00Has.l0]
    have hd : l.drop i = rd l (i : Int) :: l.drop (i + 1) := by rw [rd_nat]; exact drop_getD 0 l i (by omega)
    rw [if_pos (by omega), if_pos (by omega), hd, wrap_nat i (by omega)]
    by_cases e : rd l (i : Int) = a
    · rw [if_pos e]; simp [e]
    · rw [if_neg e, ih (i + 1) k (by omega) (by omega)]
      congr 1
      apply decide_eq_decide.2
      rw [List.mem_cons]
      constructor
      · exact Or.inr
      · rintro (h | h)
        · exact absurd h.symm e
        · exact h
theorem same_l0 (l : List Int) (hl : l.length ≤ 1048576) : ∀ (d i k : Nat), i + d = l.length → d < k → spec_l00Same.l0 k l l (i : Int) = some true := by
  intro d
  induction d with
  | zero =>
    intro i k hi hk
    obtain ⟨k, rfl⟩ : ∃ m, k = m + 1 := ⟨k - 1, by omega⟩
    simp only [spec_l00Same.l0]
    rw [if_neg (by omega)]
  | succ d ih =>
    intro i k hi hk
    obtain ⟨k, rfl⟩ : ∃ m, k = m + 1 := ⟨k - 1, by omega⟩
    simp only [spec_l00Same.l0]
    rw [if_pos (by omega), if_pos (by omega), if_pos (by omega), if_pos trivial, wrap_nat i (by omega), ih (i + 1) k (by omega) (by omega)]
theorem same_eq (l : List Int) (hl : l.length ≤ 1000) (k : Nat) (hk : 1000 < k) : spec_SameNumbers.f k l l = some true := by
  unfold spec_SameNumbers.f spec_l00Same.f
  rw [if_pos rfl]
  have := same_l0 l (by omega) l.length 0 k (by omega) (by omega)
  rw [show ((0 : Nat) : Int) = 0 from rfl] at this
  rw [this, Option.bind_some]

theorem wordOk_iff (w : ByteArray) : wordOk w = true ↔ (1 ≤ w.size ∧ w.size ≤ 12) ∧ ∀ x ∈ bytesOf w, letter x = true := by
  constructor
  · intro h
    refine ⟨wordOk_size w h, fun x hx => ?_⟩
    obtain ⟨j, hj, rfl⟩ := List.mem_iff_getElem.1 hx
    have hj' : j < w.size := by rwa [bytesOf_length] at hj
    have h2 := wordOk_get w h j hj'
    rw [← rd_bytesOf, rd_nat, List.getD_eq_getElem?_getD, List.getElem?_eq_getElem hj] at h2
    simpa [letter] using h2
  · intro ⟨hs, hl⟩
    have hf : ∀ d i, i + d = w.size → lettersFrom w d i = true := by
      intro d
      induction d with
      | zero => intro i _; rfl
      | succ d ih =>
        intro i hi
        unfold lettersFrom
        rw [Bool.and_eq_true]
        refine ⟨?_, ih (i + 1) (by omega)⟩
        have hj : i < (bytesOf w).length := by rw [bytesOf_length]; omega
        have := hl _ (List.getElem_mem hj)
        rw [← rd_bytesOf, rd_nat, List.getD_eq_getElem?_getD, List.getElem?_eq_getElem hj]
        exact this
    unfold wordOk
    rw [hf w.size 0 (by omega), Bool.true_and]
    exact decide_eq_true (by omega)
theorem bytesOf_strOfNums (xs : List Int) (h : ∀ x ∈ xs, 0 ≤ x ∧ x ≤ 255) : bytesOf (strOfNums xs) = xs := by
  apply List.ext_getElem?
  intro j
  unfold bytesOf strOfNums
  simp only [List.toList_toArray, List.map_map, List.getElem?_map]
  cases hq : xs[j]? with
  | none => rfl
  | some x =>
    have hx := h x (List.mem_of_getElem? hq)
    obtain ⟨n, rfl⟩ := Int.eq_ofNat_of_zero_le hx.1
    simp
    omega
instance decHabit : DecidableEq S72 := fun x y =>
  if h : x.f0 = y.f0 ∧ x.f1 = y.f1 ∧ x.f2 = y.f2 then isTrue (by obtain ⟨a, b, c⟩ := x; obtain ⟨a', b', c'⟩ := y; simp only at h; rw [h.1, h.2.1, h.2.2]) else isFalse (fun e => h (by rw [e]; exact ⟨rfl, rfl, rfl⟩))
def srcOk (c : List Int) : Prop := c.length ≤ 4096 ∧ ∀ x ∈ c, 0 ≤ x ∧ x ≤ 255
theorem and64_255 (x : Int) (h0 : 0 ≤ x) (h1 : x < 18446744073709551616) : Go.bits .and .u64 x 255 = x % 256 := by
  have := Go.bits_mask .u64 64 (by decide) (fun n a b => wrap_u64_id n a (by simpa using b)) 8 (by decide) x h0 (by omega)
  simpa using this
theorem wrap_u64_range (x : Int) : 0 ≤ IntKind.u64.wrap x ∧ IntKind.u64.wrap x < 18446744073709551616 := by
  rw [wrap_u64]
  omega
theorem next_eq (c : List Int) (hc : srcOk c) (a s : Int) (ha : 0 ≤ a ∧ a ≤ 1000000) : ∃ v s', spec_l00Src_next.f c a s = some (v, a + 1, s') ∧ 0 ≤ v ∧ v ≤ 255 := by
  have hw : wrap64 (a + 1) = a + 1 := wrap64_id _ (by omega) (by omega)
  have hb : ∀ X : Int, 0 ≤ wrap64 (Go.bits .and .u64 (IntKind.u64.wrap X / 1099511627776) 255) ∧ wrap64 (Go.bits .and .u64 (IntKind.u64.wrap X / 1099511627776) 255) ≤ 255 := by
    intro X
    have h := wrap_u64_range X
    rw [and64_255 _ (by omega) (by omega), wrap64_id _ (by omega) (by omega)]
    omega
  unfold spec_l00Src_next.f
  rw [hw]
  by_cases h1 : a < (c.length : Int)
  · rw [if_pos h1, if_pos ha.1]
    have hr : 0 ≤ rd c a ∧ rd c a ≤ 255 := by
      obtain ⟨i, rfl⟩ := Int.eq_ofNat_of_zero_le ha.1
      rw [rd_nat, List.getD_eq_getElem?_getD, List.getElem?_eq_getElem (by omega)]
      exact hc.2 _ (List.getElem_mem _)
    by_cases h2 : a + 1 ≤ (c.length : Int)
    · rw [if_pos h2, wrap64_id (rd c a) (by omega) (by omega)]
      exact ⟨_, _, rfl, hr.1, hr.2⟩
    · rw [if_neg h2]
      exact ⟨_, _, rfl, hb _⟩
  · rw [if_neg h1]
    by_cases h2 : a + 1 ≤ (c.length : Int)
    · rw [if_pos h2]
      exact ⟨_, _, rfl, by decide, by decide⟩
    · rw [if_neg h2]
      exact ⟨_, _, rfl, hb _⟩
theorem pick_eq (c : List Int) (hc : srcOk c) (a s n : Int) (ha : 0 ≤ a ∧ a ≤ 1000000) (hn : 2 ≤ n ∧ n ≤ 200) : ∃ v s', spec_l00Src_pick.f c a s n = some (v, a + 1, s') ∧ 0 ≤ v ∧ v ≤ n - 1 := by
  obtain ⟨v, s', e, h0, h1⟩ := next_eq c hc a s ha
  unfold spec_l00Src_pick.f
  rw [if_neg (by omega), e]
  simp only [Option.bind_some]
  rw [if_neg (by omega), if_neg (by omega), Int.tmod_eq_emod_of_nonneg h0]
  exact ⟨_, _, rfl, Int.emod_nonneg _ (by omega), by have := Int.emod_lt_of_pos v (show 0 < n by omega); omega⟩
theorem drawn_l0 (c : List Int) (hc : srcOk c) (L : Nat) (hL : L ≤ 12) : ∀ (d i k : Nat) (xs : List Int) (a s : Int), i + d = L → d < k → xs.length = i → 0 ≤ a → a + d ≤ 1000000 → (∀ x ∈ xs, 97 ≤ x ∧ x ≤ 122) → ∃ ys s', spec_l04Drawn.l0 k (L : Int) xs c a s = some (strOfNums ys, a + d, s') ∧ ys.length = L ∧ ∀ x ∈ ys, 97 ≤ x ∧ x ≤ 122 := by
  intro d
  induction d with
  | zero =>
    intro i k xs a s hi hk hx h0 h1 hb
    obtain ⟨k, rfl⟩ : ∃ m, k = m + 1 := ⟨k - 1, by omega⟩
    simp only [spec_l04Drawn.l0]
    rw [if_neg (by omega)]
    exact ⟨xs, s, by simp, by omega, hb⟩
  | succ d ih =>
    intro i k xs a s hi hk hx h0 h1 hb
    obtain ⟨k, rfl⟩ : ∃ m, k = m + 1 := ⟨k - 1, by omega⟩
    obtain ⟨p, s2, e2, p0, p1⟩ := pick_eq c hc a s 3 (by omega) (by decide)
    have hA : (wrap64 (97 + p)) % 256 = 97 + p := by rw [wrap64_id _ (by omega) (by omega)]; omega
    simp only [spec_l04Drawn.l0]
    rw [if_pos (by omega), e2]
    simp only [Option.bind_some]
    rw [if_pos (by omega), hA]
    obtain ⟨ys, s', e, h2, h3⟩ := ih (i + 1) k (xs ++ [97 + p]) (a + 1) s2 (by omega) (by omega) (by simp [hx]) (by omega) (by omega) (fun x hx => by
      rcases List.mem_append.1 hx with h | h
      · exact hb x h
      · rw [List.mem_singleton.1 h]; omega)
    refine ⟨ys, s', ?_, h2, h3⟩
    rw [e]
    congr 3
    omega
theorem strOfNums_len (xs : List Int) : (strOfNums xs).size = xs.length := strOfNums_size xs
theorem drawn_eq (c : List Int) (hc : srcOk c) (a s : Int) (L : Nat) (hL : 1 ≤ L ∧ L ≤ 12) (ha : 0 ≤ a ∧ a ≤ 900000) (k : Nat) (hk : 20 ≤ k) : ∃ w s', spec_l04Drawn.f k c a s (L : Int) = some (w, a + L, s') ∧ wordOk w = true := by
  unfold spec_l04Drawn.f
  obtain ⟨ys, s', e, h2, h3⟩ := drawn_l0 c hc L hL.2 L 0 k [] a s (by omega) (by omega) rfl (by omega) (by omega) (by simp)
  refine ⟨_, _, e, ?_⟩
  rw [wordOk_iff, strOfNums_len, h2, bytesOf_strOfNums _ (fun x hx => by have := h3 x hx; omega)]
  exact ⟨hL, fun x hx => decide_eq_true (h3 x hx)⟩
theorem p6word_eq (c : List Int) (hc : srcOk c) (k : Nat) (hk : 200 ≤ k) : ∃ w, spec_P6Word.f k c = some w ∧ wordOk w = true := by
  unfold spec_P6Word.f spec_l00From.f spec_l04One.f
  simp only [Option.bind_some]
  obtain ⟨v, s', e, v0, v1⟩ := pick_eq c hc 0 0 6 (by decide) (by decide)
  rw [e]
  simp only [Option.bind_some]
  rw [wrap64_id (1 + v) (by omega) (by omega)]
  obtain ⟨L, hL⟩ := Int.eq_ofNat_of_zero_le (show 0 ≤ 1 + v by omega)
  rw [hL]
  obtain ⟨w, s2, e2, w1⟩ := drawn_eq c hc (0 + 1) s' L (by omega) (by decide) k (by omega)
  rw [e2]
  exact ⟨w, rfl, w1⟩

theorem drawn_eq2 (c : List Int) (hc : srcOk c) (a s : Int) (L : Nat) (hL : 1 ≤ L ∧ L ≤ 12) (ha : 0 ≤ a ∧ a ≤ 900000) (k : Nat) (hk : 20 ≤ k) : ∃ w s', spec_l04Drawn.f k c a s (L : Int) = some (w, a + L, s') ∧ wordOk w = true ∧ w.size = L := by
  unfold spec_l04Drawn.f
  obtain ⟨ys, s', e, h2, h3⟩ := drawn_l0 c hc L hL.2 L 0 k [] a s (by omega) (by omega) rfl (by omega) (by omega) (by simp)
  refine ⟨_, _, e, ?_, ?_⟩
  · rw [wordOk_iff, strOfNums_len, h2, bytesOf_strOfNums _ (fun x hx => by have := h3 x hx; omega)]
    exact ⟨hL, fun x hx => decide_eq_true (h3 x hx)⟩
  · rw [strOfNums_len, h2]
theorem words_l02 (c : List Int) (hc : srcOk c) (L : Nat) (hL : 1 ≤ L ∧ L ≤ 12) : ∀ (d k : Nat) (xs : List ByteArray) (a s : Int), d + 50 < k → d ≤ 100 → xs.length + d ≤ 100 → 0 ≤ a → a + 12 * d ≤ 900000 → (∀ w ∈ xs, wordOk w = true ∧ w.size = L) → ∃ ys, spec_P6Words.l0 k (L : Int) xs (d : Int) c a s = some ys ∧ ys.length = xs.length + d ∧ ∀ w ∈ ys, wordOk w = true ∧ w.size = L := by
  intro d
  induction d with
  | zero =>
    intro k xs a s hk hd hl h0 h1 hb
    obtain ⟨k, rfl⟩ : ∃ m, k = m + 1 := ⟨k - 1, by omega⟩
    simp only [spec_P6Words.l0]
    rw [if_neg (by omega)]
    exact ⟨xs, rfl, by omega, hb⟩
  | succ d ih =>
    intro k xs a s hk hd hl h0 h1 hb
    obtain ⟨k, rfl⟩ : ∃ m, k = m + 1 := ⟨k - 1, by omega⟩
    obtain ⟨w, s', e, w1⟩ := drawn_eq2 c hc a s L hL (by omega) k (by omega)
    simp only [spec_P6Words.l0]
    rw [if_pos (by omega), e]
    simp only [Option.bind_some]
    rw [if_pos (by omega), wrap64_id _ (by omega) (by omega), show ((d + 1 : Nat) : Int) - 1 = (d : Int) by omega]
    obtain ⟨ys, e2, h2, h3⟩ := ih k (xs ++ [w]) (a + L) s' (by omega) (by omega) (by simp; omega) (by omega) (by omega) (fun h hh => by
      rcases List.mem_append.1 hh with q | q
      · exact hb h q
      · rw [List.mem_singleton.1 q]; exact w1)
    exact ⟨ys, e2, by rw [h2]; simp; omega, h3⟩
theorem p6words_eq2 (c : List Int) (hc : srcOk c) (k : Nat) (hk : 200 ≤ k) : ∃ (ys : List ByteArray) (L : Nat), spec_P6Words.f k c = some ys ∧ ys.length ≤ 6 ∧ (1 ≤ L ∧ L ≤ 12) ∧ ∀ w ∈ ys, wordOk w = true ∧ w.size = L := by
  unfold spec_P6Words.f spec_l00From.f
  simp only [Option.bind_some]
  obtain ⟨v, s', e, v0, v1⟩ := pick_eq c hc 0 0 5 (by decide) (by decide)
  obtain ⟨u, s2, e2, u0, u1⟩ := pick_eq c hc (0 + 1) s' 7 (by decide) (by decide)
  rw [e]
  simp only [Option.bind_some]
  rw [e2]
  simp only [Option.bind_some]
  rw [wrap64_id (1 + v) (by omega) (by omega)]
  obtain ⟨d, rfl⟩ := Int.eq_ofNat_of_zero_le u0
  obtain ⟨L, hL⟩ := Int.eq_ofNat_of_zero_le (show 0 ≤ 1 + v by omega)
  rw [hL]
  obtain ⟨ys, e3, h2, h3⟩ := words_l02 c hc L (by omega) d k [] (0 + 1 + 1) s2 (by omega) (by omega) (by simp; omega) (by decide) (by omega) (by simp)
  exact ⟨ys, L, e3, by rw [h2]; simp; omega, by omega, h3⟩
theorem p6pick_eq (c : List Int) (hc : srcOk c) (n : Int) (hn : 2 ≤ n ∧ n ≤ 200) : ∃ v, spec_P6Pick.f c n = some v ∧ 0 ≤ v ∧ v ≤ n - 1 := by
  unfold spec_P6Pick.f spec_l00From.f
  simp only [Option.bind_some]
  obtain ⟨v, s', e, v0, v1⟩ := pick_eq c hc 0 0 n (by decide) hn
  rw [e]
  exact ⟨v, rfl, v0, v1⟩

theorem bytes_eq (a b : ByteArray) (hs : a.size = b.size) (h : ∀ i, i < a.size → bt a (i : Int) = bt b (i : Int)) : a = b := by
  apply ByteArray.ext
  apply Array.ext
  · exact hs
  · intro i h1 h2
    have e := h i h1
    have ea := bt_at a (i : Int) (by rw [Int.toNat_natCast]; exact h1)
    have eb := bt_at b (i : Int) (by rw [Int.toNat_natCast]; exact h2)
    simp only [Int.toNat_natCast] at ea eb
    have e2 : (a[i]'h1).toNat = (b[i]'h2).toNat := by omega
    exact UInt8.toNat_inj.1 e2
theorem unlF_ge (a b : ByteArray) : ∀ (d i : Nat) (n : Int), 0 ≤ n → n + (d : Int) ≤ 1000000 → n ≤ unlF a b d i n ∧ unlF a b d i n ≤ n + (d : Int) := by
  intro d
  induction d with
  | zero => intro i n h0 h1; simp only [unlF]; omega
  | succ d ih =>
    intro i n h0 h1
    simp only [unlF]
    by_cases e : bt a (i : Int) = bt b (i : Int)
    · rw [if_pos e]; have := ih (i + 1) n h0 (by omega); omega
    · rw [if_neg e, wrap64_id _ (by omega) (by omega)]; have := ih (i + 1) (n + 1) (by omega) (by omega); omega
theorem unlF_zero (a b : ByteArray) : ∀ (d i : Nat) (n : Int), 0 ≤ n → n + (d : Int) ≤ 1000000 → (unlF a b d i n = n ↔ ∀ j, i ≤ j → j < i + d → bt a (j : Int) = bt b (j : Int)) := by
  intro d
  induction d with
  | zero => intro i n h0 h1; simp only [unlF, true_iff]; intro j h2 h3; omega
  | succ d ih =>
    intro i n h0 h1
    simp only [unlF]
    by_cases e : bt a (i : Int) = bt b (i : Int)
    · rw [if_pos e, ih (i + 1) n h0 (by omega)]
      constructor
      · intro h j h2 h3
        by_cases q : j = i
        · subst q; exact e
        · exact h j (by omega) (by omega)
      · intro h j h2 h3; exact h j (by omega) (by omega)
    · rw [if_neg e, wrap64_id _ (by omega) (by omega)]
      have := unlF_ge a b d (i + 1) (n + 1) (by omega) (by omega)
      constructor
      · intro h; omega
      · intro h; exact absurd (h i (Nat.le_refl _) (by omega)) e
theorem unlF_symm (a b : ByteArray) : ∀ (d i : Nat) (n : Int), unlF a b d i n = unlF b a d i n := by
  intro d
  induction d with
  | zero => intro i n; rfl
  | succ d ih =>
    intro i n
    simp only [unlF]
    by_cases e : bt a (i : Int) = bt b (i : Int)
    · rw [if_pos e, if_pos e.symm]; exact ih _ _
    · rw [if_neg e, if_neg (fun z => e z.symm)]; exact ih _ _
theorem unl_symm (a b : ByteArray) (hs : a.size = b.size) : unl a b = unl b a := by unfold unl; rw [unlF_symm, hs]
theorem unl_zero (a b : ByteArray) (hs : a.size = b.size) (h12 : a.size ≤ 12) : unl a b = 0 ↔ a = b := by
  unfold unl
  rw [unlF_zero a b a.size 0 0 (by omega) (by omega)]
  constructor
  · intro h; exact bytes_eq a b hs (fun i hi => h i (Nat.zero_le _) (by omega))
  · rintro rfl j _ _; rfl
/-- The word at a place. -/
def wd (ws : List ByteArray) (i : Nat) : ByteArray := rdOf ByteArray.empty ws (i : Int)
theorem inF_le (l : List ByteArray) (i : Nat) : ∀ (d j : Nat) (m : Int), inF l i d j m ≤ m ∧ ∀ q, j ≤ q → q < j + d → inF l i d j m ≤ unl (wd l i) (wd l q) := by
  intro d
  induction d with
  | zero => intro j m; exact ⟨Int.le_refl _, fun q h1 h2 => by omega⟩
  | succ d ih =>
    intro j m
    simp only [inF]
    obtain ⟨h1, h2⟩ := ih (j + 1) (mi m (unl (rdOf ByteArray.empty l (i : Int)) (rdOf ByteArray.empty l (j : Int))))
    have hm : mi m (unl (rdOf ByteArray.empty l (i : Int)) (rdOf ByteArray.empty l (j : Int))) ≤ m ∧ mi m (unl (rdOf ByteArray.empty l (i : Int)) (rdOf ByteArray.empty l (j : Int))) ≤ unl (rdOf ByteArray.empty l (i : Int)) (rdOf ByteArray.empty l (j : Int)) := by
      unfold mi; split <;> omega
    refine ⟨Int.le_trans h1 hm.1, fun q h3 h4 => ?_⟩
    by_cases e : q = j
    · subst e; exact Int.le_trans h1 hm.2
    · exact h2 q (by omega) (by omega)
theorem outF_le (l : List ByteArray) : ∀ (d i : Nat) (m : Int), outF l d i m ≤ m ∧ ∀ p q, i ≤ p → p < i + d → q < p → outF l d i m ≤ unl (wd l p) (wd l q) := by
  intro d
  induction d with
  | zero => intro i m; exact ⟨Int.le_refl _, fun p q h1 h2 => by omega⟩
  | succ d ih =>
    intro i m
    simp only [outF]
    obtain ⟨h1, h2⟩ := ih (i + 1) (inF l i i 0 m)
    obtain ⟨g1, g2⟩ := inF_le l i i 0 m
    refine ⟨Int.le_trans h1 g1, fun p q h3 h4 h5 => ?_⟩
    by_cases e : p = i
    · subst e; exact Int.le_trans h1 (g2 q (Nat.zero_le _) (by omega))
    · exact h2 p q (by omega) (by omega) h5
theorem nearF_all (l : List ByteArray) (x : ByteArray) (hz : ∀ j, j < l.length → (wd l j).size = x.size) (h0 : 0 < l.length) : ∀ (d i : Nat) (best least : Int), i + d = l.length → ((best = -1 ∧ i = 0) ∨ ∃ b : Nat, best = (b : Int) ∧ b < i ∧ least = unl (wd l b) x ∧ (∀ j, j < i → least ≤ unl (wd l j) x) ∧ ∀ j, j < b → least < unl (wd l j) x) →
    ∃ b : Nat, nearF x (l.drop i) i best least = ((b : Int), unl (wd l b) x, 0) ∧ b < l.length ∧ (∀ j, j < l.length → unl (wd l b) x ≤ unl (wd l j) x) ∧ ∀ j, j < b → unl (wd l b) x < unl (wd l j) x := by
  intro d
  induction d with
  | zero =>
    intro i best least hi h
    rcases h with ⟨_, h⟩ | ⟨b, rfl, h1, rfl, h3, h4⟩
    · omega
    · rw [List.drop_eq_nil_of_le (by omega)]
      simp only [nearF]
      rw [if_neg (by omega)]
      exact ⟨b, rfl, by omega, fun j hj => h3 j (by omega), h4⟩
  | succ d ih =>
    intro i best least hi h
    rw [drop_rdS l i (by omega)]
    simp only [nearF]
    have hzi := hz i (by omega)
    unfold wd at hzi
    rw [if_pos hzi]
    rcases h with ⟨rfl, rfl⟩ | ⟨b, rfl, h1, rfl, h3, h4⟩
    · rw [if_pos (Or.inl (by omega))]
      exact ih 1 _ _ (by omega) (Or.inr ⟨0, rfl, by omega, rfl, fun j hj => (show j = 0 by omega) ▸ Int.le_refl _, fun j hj => by omega⟩)
    · by_cases e : unl (rdOf ByteArray.empty l (i : Int)) x < unl (wd l b) x
      · rw [if_pos (Or.inr e)]
        refine ih (i + 1) _ _ (by omega) (Or.inr ⟨i, rfl, by omega, rfl, fun j hj => ?_, fun j hj => ?_⟩)
        · by_cases q : j = i
          · subst q; exact Int.le_refl _
          · have := h3 j (by omega); omega
        · have := h3 j (by omega); omega
      · rw [if_neg (by omega)]
        refine ih (i + 1) _ _ (by omega) (Or.inr ⟨b, rfl, by omega, rfl, fun j hj => ?_, h4⟩)
        by_cases q : j = i
        · subst q; exact Int.not_lt.1 e
        · exact h3 j (by omega)
theorem nearF_none (x : ByteArray) : ∀ (r : List ByteArray) (i : Nat) (least : Int), (∀ w ∈ r, w.size ≠ x.size) → nearF x r i (-1) least = (0, 0, 6) := by
  intro r
  induction r with
  | nil => intro i least _; simp [nearF]
  | cons w r ih =>
    intro i least h
    simp only [nearF]
    rw [if_neg (h w (by simp))]
    exact ih _ _ (fun v hv => h v (by simp [hv]))
theorem nearB_iff (least : Int) (o : List Int) (ws : List ByteArray) (w : ByteArray) (i : Nat) (ho : ∀ x ∈ o, ∃ q : Nat, x = (q : Int) ∧ q < i) : nearB least (o.map (fun x => rdOf ByteArray.empty ws x)) w = true ↔ ∃ q : Nat, q < i ∧ (q : Int) ∈ o ∧ nearT least (wd ws q) w = true := by
  unfold nearB
  rw [List.any_eq_true]
  constructor
  · rintro ⟨t, ht, h⟩
    obtain ⟨x, hx, rfl⟩ := List.mem_map.1 ht
    obtain ⟨q, rfl, hq⟩ := ho x hx
    exact ⟨q, hq, hx, h⟩
  · rintro ⟨q, hq, hx, h⟩
    exact ⟨_, List.mem_map.2 ⟨_, hx, rfl⟩, h⟩
theorem takes_spec (least : Int) (ws : List ByteArray) : ∀ (d i : Nat) (o : List Int), (∀ x ∈ o, ∃ q : Nat, x = (q : Int) ∧ q < i) → (∀ q : Nat, q < i → ((q : Int) ∈ takes least ws d i o ↔ (q : Int) ∈ o)) ∧ (∀ x ∈ takes least ws d i o, ∃ q : Nat, x = (q : Int) ∧ q < i + d) ∧ ∀ j, i ≤ j → j < i + d → ((j : Int) ∈ takes least ws d i o ↔ ¬ ∃ q : Nat, q < j ∧ (q : Int) ∈ takes least ws d i o ∧ nearT least (wd ws q) (wd ws j) = true) := by
  intro d
  induction d with
  | zero => intro i o ho; exact ⟨fun q _ => Iff.rfl, ho, fun j h1 h2 => by omega⟩
  | succ d ih =>
    intro i o ho
    rw [takes_succ]
    have hnb := nearB_iff least o ws (rdOf ByteArray.empty ws (i : Int)) i ho
    have hio : (i : Int) ∉ o := fun z => by obtain ⟨q, h1, h2⟩ := ho _ z; omega
    obtain ⟨o', ho'⟩ : ∃ o', o' = (if nearB least (o.map (fun x => rdOf ByteArray.empty ws x)) (rdOf ByteArray.empty ws (i : Int)) = true then o else o ++ [(i : Int)]) := ⟨_, rfl⟩
    rw [← ho']
    have hlt : ∀ q : Nat, q < i → ((q : Int) ∈ o' ↔ (q : Int) ∈ o) := by
      intro q hq
      rw [ho']
      split
      · exact Iff.rfl
      · rw [List.mem_append, List.mem_singleton]
        constructor
        · rintro (h | h)
          · exact h
          · omega
        · exact Or.inl
    have hii : (i : Int) ∈ o' ↔ ¬ nearB least (o.map (fun x => rdOf ByteArray.empty ws x)) (rdOf ByteArray.empty ws (i : Int)) = true := by
      rw [ho']
      split
      · rename_i h
        exact ⟨fun z => absurd z hio, fun z => absurd h z⟩
      · rename_i h
        exact ⟨fun _ => h, fun _ => by simp⟩
    have hb : ∀ x ∈ o', ∃ q : Nat, x = (q : Int) ∧ q < i + 1 := by
      intro x hx
      rw [ho'] at hx
      split at hx
      · obtain ⟨q, h1, h2⟩ := ho x hx; exact ⟨q, h1, by omega⟩
      · rcases List.mem_append.1 hx with h | h
        · obtain ⟨q, h1, h2⟩ := ho x h; exact ⟨q, h1, by omega⟩
        · exact ⟨i, List.mem_singleton.1 h, by omega⟩
    obtain ⟨a1, a2, a3⟩ := ih (i + 1) o' hb
    refine ⟨fun q hq => (a1 q (by omega)).trans (hlt q hq), fun x hx => ?_, fun j h1 h2 => ?_⟩
    · obtain ⟨q, e1, e2⟩ := a2 x hx; exact ⟨q, e1, by omega⟩
    · by_cases e : j = i
      · subst e
        rw [a1 j (by omega), hii, hnb]
        constructor
        · rintro h ⟨q, q1, q2, q3⟩
          exact h ⟨q, q1, (hlt q q1).1 ((a1 q (by omega)).1 q2), q3⟩
        · rintro h ⟨q, q1, q2, q3⟩
          exact h ⟨q, q1, (a1 q (by omega)).2 ((hlt q q1).2 q2), q3⟩
      · exact a3 j (by omega) (by omega)
theorem voteF_val (mx ix : List Int → Option Int) (jx : List Int → Int → Option Int) (ws : List ByteArray) (hF : ∀ i m b, mx (Go.Proofs.Ytkdloidojmccgaa.H.votesL ws i) = some m → jx (Go.Proofs.Ytkdloidojmccgaa.H.votesL ws i) m = some b → ∃ q : Nat, b = (q : Int) ∧ FM 26 (Go.Proofs.Ytkdloidojmccgaa.H.cntV ws i) q) : ∀ (d i : Nat) (xs res : List Int), Go.Proofs.Ytkdloidojmccgaa.H.voteF mx ix jx ws d i xs = some res → ∃ ys : List Int, res = xs ++ ys ∧ ys.length = d ∧ ∀ q, q < d → ∃ b : Nat, FM 26 (Go.Proofs.Ytkdloidojmccgaa.H.cntV ws (i + q)) b ∧ ys.getD q 0 = 97 + (b : Int) := by
  intro d
  induction d with
  | zero =>
    intro i xs res h
    exact ⟨[], by rw [List.append_nil]; exact (Option.some.inj h).symm, rfl, fun q hq => by omega⟩
  | succ d ih =>
    intro i xs res h
    simp only [Go.Proofs.Ytkdloidojmccgaa.H.voteF] at h
    obtain ⟨m, hm, h⟩ := Option.bind_eq_some_iff.1 h
    obtain ⟨b, hb, h⟩ := Option.bind_eq_some_iff.1 h
    obtain ⟨q0, rfl, hq0⟩ := hF i m b hm hb
    have := hq0.1
    rw [if_pos (by omega)] at h
    obtain ⟨ys, e1, e2, e3⟩ := ih (i + 1) _ _ h
    refine ⟨(97 + (q0 : Int)) :: ys, by rw [e1, List.append_assoc]; rfl, by rw [List.length_cons, e2], fun q hq => ?_⟩
    cases q with
    | zero => exact ⟨q0, hq0, rfl⟩
    | succ q =>
      obtain ⟨b, f1, f2⟩ := e3 q (by omega)
      exact ⟨b, by rw [show i + (q + 1) = i + 1 + q by omega]; exact f1, f2⟩
/-- How often a word is there. -/
def occ (ws : List ByteArray) (w : ByteArray) : Nat := ws.countP (fun v => v.toList == w.toList)
theorem occ_cnt (ws : List ByteArray) (w : ByteArray) (p c : Nat) (hc : bt w (p : Int) = 97 + (c : Int)) : (occ ws w : Int) ≤ Go.Proofs.Ytkdloidojmccgaa.H.cntV ws p c := by
  unfold occ Go.Proofs.Ytkdloidojmccgaa.H.cntV
  refine Int.ofNat_le.2 (List.countP_mono_left (fun v _ h => ?_))
  have e := (toList_inj v w).1 (beq_iff_eq.1 h)
  subst e
  exact beq_iff_eq.2 hc
theorem cnt_two (ws : List ByteArray) (p a b : Nat) (hab : a ≠ b) : Go.Proofs.Ytkdloidojmccgaa.H.cntV ws p a + Go.Proofs.Ytkdloidojmccgaa.H.cntV ws p b ≤ (ws.length : Int) := by
  unfold Go.Proofs.Ytkdloidojmccgaa.H.cntV
  induction ws with
  | nil => simp
  | cons w r ih =>
    rw [List.countP_cons, List.countP_cons, List.length_cons]
    have : ¬ ((bt w (p : Int) == 97 + (a : Int)) = true ∧ (bt w (p : Int) == 97 + (b : Int)) = true) := by
      rintro ⟨h1, h2⟩
      have e1 := beq_iff_eq.1 h1
      have e2 := beq_iff_eq.1 h2
      omega
    by_cases h1 : (bt w (p : Int) == 97 + (a : Int)) = true
    · by_cases h2 : (bt w (p : Int) == 97 + (b : Int)) = true
      · exact absurd ⟨h1, h2⟩ this
      · rw [if_pos h1, if_neg h2]; push_cast; omega
    · by_cases h2 : (bt w (p : Int) == 97 + (b : Int)) = true
      · rw [if_neg h1, if_pos h2]; push_cast; omega
      · rw [if_neg h1, if_neg h2]; push_cast; omega
theorem codeA_ok (ws : List ByteArray) (hn : ws.length ≤ 40) (hw : ∀ w ∈ ws, wordOk w = true) : codeA [] ws = 0 := by
  have a : wordsOk ws = true := List.all_eq_true.2 hw
  unfold codeA
  rw [if_pos ⟨rfl, a⟩, if_pos (by simp), if_pos hn]
theorem codeV_ok (ws : List ByteArray) (L : Nat) (hn : ws.length ≤ 40) (hw : ∀ w ∈ ws, wordOk w = true ∧ w.size = L) (a : Int) (ha : 1 ≤ a) : codeV ws a = if (ws.length : Int) < a then 6 else 0 := by
  unfold codeV
  rw [if_pos (codeA_ok ws hn (fun w h => (hw w h).1))]
  by_cases c : (ws.length : Int) < a
  · rw [if_pos c, if_pos c]
  · rw [if_neg c, if_neg c, if_pos]
    unfold same0
    rw [List.all_eq_true]
    intro w h
    have h0 := (hw _ (mem_rdV ws 0 (by omega))).2
    rw [show ((0 : Nat) : Int) = 0 from rfl] at h0
    exact decide_eq_true ((hw w h).2.trans h0.symm)
theorem vote_val (ws : List ByteArray) (L : Nat) (hn : ws.length ≤ 40) (h1 : 1 ≤ ws.length) (hL : L ≤ 12) (hw : ∀ w ∈ ws, wordOk w = true ∧ w.size = L) (k : Nat) (hk : 6000000 ≤ k) : ∃ res : List Int, spec_VoteWord.f k ws = some (strOfNums res, 0) ∧ impl_VoteWord.f k ws = some (strOfNums res, 0) ∧ res.length = L ∧ ∀ q, q < L → ∃ b : Nat, FM 26 (Go.Proofs.Ytkdloidojmccgaa.H.cntV ws q) b ∧ res.getD q 0 = 97 + (b : Int) := by
  have hb : ∀ s ∈ ws, s.size ≤ 2097152 := fun s hs => by have := (hw s hs).2; omega
  have hc : codeV ws 1 = 0 := by rw [codeV_ok ws L hn hw 1 (by decide), if_neg (by omega)]
  have hz : ∀ j, j < ws.length → (rdOf ByteArray.empty ws (j : Int)).size = L := fun j hj => (hw _ (mem_rdV ws j hj)).2
  have h0 := hz 0 (by omega)
  rw [show ((0 : Nat) : Int) = 0 from rfl] at h0
  unfold spec_VoteWord.f impl_VoteWord.f
  rw [l04Long_eq ws 1 (by decide) (by omega) hb k (by omega), voteCode_eq ws 1 (by decide) (by omega) hb k (by omega), Option.bind_some, Option.bind_some]
  obtain ⟨res, g1, g2⟩ := vote_l0 ws h1 (by omega) L h0.symm (by omega) hz k (by omega) L 0 [] (by omega) rfl
  obtain ⟨ys, e1, e2, e3⟩ := voteF_val _ _ _ ws (fun i m b hm hb => by
    obtain ⟨m0, b0, f1, f2⟩ := implBest ws i
    obtain ⟨q1, q2⟩ := f2 k (by omega)
    rw [q1] at hm
    obtain rfl := Option.some.inj hm
    rw [q2] at hb
    exact ⟨b0, (Option.some.inj hb).symm, f1⟩) L 0 [] res g1
  rw [List.nil_append] at e1
  subst e1
  have hlt : L * (26 * (ws.length + 2) + 10) ≤ 12 * (26 * 42 + 10) := Nat.mul_le_mul hL (by omega)
  have g3 := g2 k (by omega)
  rw [show ((0 : Nat) : Int) = 0 from rfl] at g3
  rw [if_pos hc, if_pos hc, if_pos h1, if_pos (by omega), if_pos (by omega), if_pos (voteOk_of ws hc), h0, g1, g3]
  exact ⟨_, rfl, rfl, e2, fun q hq => by have := e3 q hq; rwa [Nat.zero_add] at this⟩
theorem vote_none (ws : List ByteArray) (h1 : ws.length = 0) (k : Nat) (hk : 6000000 ≤ k) : spec_VoteWord.f k ws = some ((⟨#[]⟩ : ByteArray), 6) ∧ impl_VoteWord.f k ws = some ((⟨#[]⟩ : ByteArray), 6) := by
  obtain rfl := List.length_eq_zero_iff.1 h1
  have hc : codeV ([] : List ByteArray) 1 = 6 := by rw [codeV_ok [] 0 (by simp) (by simp) 1 (by decide), if_pos (by simp)]
  unfold spec_VoteWord.f impl_VoteWord.f
  rw [l04Long_eq [] 1 (by decide) (by simp) (by simp) k (by omega), voteCode_eq [] 1 (by decide) (by simp) (by simp) k (by omega), Option.bind_some, Option.bind_some, hc, if_neg (by decide), if_neg (by decide)]
  exact ⟨rfl, rfl⟩
theorem vote_major (ws : List ByteArray) (L : Nat) (hL : L ≤ 12) (hw : ∀ w ∈ ws, wordOk w = true ∧ w.size = L) (res : List Int) (hl : res.length = L) (hr : ∀ q, q < L → ∃ b : Nat, FM 26 (Go.Proofs.Ytkdloidojmccgaa.H.cntV ws q) b ∧ res.getD q 0 = 97 + (b : Int)) (w : ByteArray) (hm : w ∈ ws) (h2 : ws.length < 2 * occ ws w) : strOfNums res = w := by
  obtain ⟨w1, w2⟩ := hw w hm
  have hrng : ∀ x ∈ res, 0 ≤ x ∧ x ≤ 255 := by
    intro x hx
    obtain ⟨q, hq, rfl⟩ := List.getElem_of_mem hx
    obtain ⟨b, f1, f2⟩ := hr q (by omega)
    have := f1.1
    rw [List.getD_eq_getElem?_getD, List.getElem?_eq_getElem hq, Option.getD_some] at f2
    omega
  refine bytes_eq _ _ (by rw [strOfNums_len, hl, w2]) (fun q hq => ?_)
  rw [strOfNums_len, hl] at hq
  obtain ⟨b, f1, f2⟩ := hr q hq
  rw [← rd_bytesOf, bytesOf_strOfNums res hrng, rd_nat, f2]
  unfold wordOk at w1
  rw [Bool.and_eq_true] at w1
  have hlt := lettersFrom_at w w.size 0 w1.1 q (Nat.zero_le _) (by omega)
  obtain ⟨c, hc⟩ : ∃ c : Nat, bt w (q : Int) = 97 + (c : Int) := ⟨(bt w (q : Int) - 97).toNat, by omega⟩
  have ho := occ_cnt ws w q c hc
  by_cases e : b = c
  · rw [e, hc]
  · have h3 := cnt_two ws q b c e
    have h4 := f1.2.1 c (by omega)
    omega
theorem unlikeBy_ok (a b : ByteArray) (wa : wordOk a = true) (wb : wordOk b = true) (hs : a.size = b.size) (k : Nat) (hk : 40 < k) : impl_UnlikeBy.f k a b = some (unl a b, 0) := by
  have sa := wordOk_size a wa
  have sb := wordOk_size b wb
  unfold impl_UnlikeBy.f
  rw [isWord_eq a (by omega) k (by omega), isWord_eq b (by omega) k (by omega), Option.bind_some, if_pos wa, Option.bind_some, wb]
  obtain ⟨k, rfl⟩ : ∃ m, k = m + 1 := ⟨k - 1, by omega⟩
  simp only [impl_UnlikeBy.j0]
  rw [if_neg (by decide), if_pos (by omega), unlike_eq a b (by omega) (by omega) k (by omega)]
  rfl
theorem has_eq (l : List Int) (a : Int) (hl : l.length ≤ 1000) (k : Nat) (hk : 1000 < k) : spec_HasNumber.f k l a = some (decide (a ∈ l)) := by
  unfold spec_HasNumber.f spec_l00Has.f
  have := has_l0 l a (by omega) l.length 0 k (by omega) (by omega)
  rw [show ((0 : Nat) : Int) = 0 from rfl, List.drop_zero] at this
  rw [this, Option.bind_some]
def nr (T : List Int) (ws : List ByteArray) (i : Nat) (least : Int) (j : Nat) : Bool := (List.range j).any (fun q => decide ((q : Int) ∈ T) && (decide (q < i) && decide (unl (wd ws i) (wd ws q) < least)))
theorem nr_succ (T : List Int) (ws : List ByteArray) (i : Nat) (least : Int) (j : Nat) : nr T ws i least (j + 1) = (nr T ws i least j || (decide ((j : Int) ∈ T) && (decide (j < i) && decide (unl (wd ws i) (wd ws j) < least)))) := by
  unfold nr
  rw [List.range_succ, List.any_append, List.any_cons, List.any_nil, Bool.or_false]
def oc (ws : List ByteArray) (w : ByteArray) (j : Nat) : Nat := (ws.take j).countP (fun v => v.toList == w.toList)
theorem oc_succ (ws : List ByteArray) (w : ByteArray) (j : Nat) (hj : j < ws.length) : oc ws w (j + 1) = oc ws w j + (if wd ws j = w then 1 else 0) := by
  unfold oc wd
  have e : ws.take (j + 1) = ws.take j ++ [rdOf ByteArray.empty ws (j : Int)] := by
    rw [List.take_succ_eq_append_getElem hj]
    congr 2
    rw [rdS_nat, List.getD_eq_getElem?_getD, List.getElem?_eq_getElem hj, Option.getD_some]
  rw [e, List.countP_append, List.countP_singleton]
  by_cases c : rdOf ByteArray.empty ws (j : Int) = w
  · rw [if_pos c, if_pos (beq_iff_eq.2 ((toList_inj _ _).2 c))]
  · rw [if_neg c, if_neg (fun z => c ((toList_inj _ _).1 (beq_iff_eq.1 z)))]
theorem oc_le (ws : List ByteArray) (w : ByteArray) (j : Nat) : oc ws w j ≤ ws.length := by
  unfold oc
  refine Nat.le_trans List.countP_le_length ?_
  rw [List.length_take]; omega
theorem votes_l1 (x1 : List Int) (ws : List ByteArray) (L : Nat) (hn : ws.length ≤ 6) (hL : L ≤ 12) (hw : ∀ w ∈ ws, wordOk w = true ∧ w.size = L) (due : ByteArray) (low least : Int) (T : List Int) (hT : T.length ≤ 40) (i : Nat) (hi : i < ws.length)
    (hlow : ∀ p q, p < ws.length → q < ws.length → p ≠ q → low ≤ unl (wd ws p) (wd ws q)) (hdue : ws.length < 2 * occ ws (wd ws i) → due = wd ws i) (hmem : decide ((i : Int) ∈ T) = !(nr T ws i least ws.length)) (B : Nat) (R : Option Bool)
    (hR : ∀ k, B ≤ k → laws_FnVotes.l0 k x1 ws due low least T ((i + 1 : Nat) : Int) = R) : ∀ (d j k : Nat), j + d = ws.length → B + 2 * d + 1100 < k →
    laws_FnVotes.l1 k x1 ws due low least T (i : Int) (oc ws (wd ws i) j : Int) (nr T ws i least j) (j : Int) = R := by
  intro d
  induction d with
  | zero =>
    intro j k hj hk
    obtain ⟨k, rfl⟩ : ∃ m, k = m + 1 := ⟨k - 1, by omega⟩
    obtain rfl : j = ws.length := by omega
    have ho := oc_le ws (wd ws i) ws.length
    have hfull : oc ws (wd ws i) ws.length = occ ws (wd ws i) := by unfold oc occ; rw [List.take_length]
    simp only [laws_FnVotes.l1]
    rw [if_neg (by omega), wrap64_id (2 * (oc ws (wd ws i) ws.length : Int)) (by omega) (by omega), has_eq T _ (by omega) k (by omega), Option.bind_some, hmem, wrap_nat i (by omega)]
    have hne : ¬ ((!(nr T ws i least ws.length)) == nr T ws i least ws.length) = true := by cases nr T ws i least ws.length <;> decide
    rw [if_neg hne, hR k (by omega)]
    by_cases c : (2 * (oc ws (wd ws i) ws.length : Int)) > (ws.length : Int)
    · have hd := hdue (by omega)
      rw [if_pos c, if_pos (by omega), if_pos (by omega), if_pos (by rw [hd]; rfl)]
    · rw [if_neg c]
  | succ d ih =>
    intro j k hj hk
    obtain ⟨k, rfl⟩ : ∃ m, k = m + 2 := ⟨k - 2, by omega⟩
    have hjl : j < ws.length := by omega
    obtain ⟨a1, a2⟩ := hw _ (mem_rdV ws i hi)
    obtain ⟨b1, b2⟩ := hw _ (mem_rdV ws j hjl)
    have hss : (wd ws i).size = (wd ws j).size := a2.trans b2.symm
    have h12 : (wd ws i).size ≤ 12 := by show (rdOf ByteArray.empty ws (i : Int)).size ≤ 12; omega
    have u0 := unl_zero (wd ws i) (wd ws j) hss h12
    have us := unl_symm (wd ws i) (wd ws j) hss
    have hs1 := oc_succ ws (wd ws i) j hjl
    have hs2 := nr_succ T ws i least j
    have hol := oc_le ws (wd ws i) j
    have hnext := ih (j + 1) k (by omega) (by omega)
    have hj4 : laws_FnVotes.j4 (k + 1) x1 ws due low least T (i : Int) (oc ws (wd ws i) j : Int) (nr T ws i least j) (j : Int) (unl (wd ws i) (wd ws j)) false = R := by
      simp only [laws_FnVotes.j4]
      rw [if_neg (by decide), has_eq T _ (by omega) k (by omega), Option.bind_some, wrap_nat j (by omega), wrap64_id ((oc ws (wd ws i) j : Int) + 1) (by omega) (by omega)]
      rw [hs1, hs2] at hnext
      by_cases c1 : unl (wd ws i) (wd ws j) = 0
      · have e : wd ws j = wd ws i := (u0.1 c1).symm
        rw [if_pos c1]
        rw [if_pos e] at hnext
        have hcast : ((oc ws (wd ws i) j + 1 : Nat) : Int) = (oc ws (wd ws i) j : Int) + 1 := by omega
        rw [hcast] at hnext
        by_cases c2 : (j : Int) ∈ T
        · rw [decide_eq_true c2] at hnext ⊢
          rw [if_pos rfl]
          by_cases c3 : j < i
          · rw [decide_eq_true c3] at hnext
            rw [if_pos (by omega)]
            by_cases c4 : unl (wd ws i) (wd ws j) < least
            · rw [decide_eq_true c4, Bool.and_self, Bool.and_self, Bool.or_true] at hnext
              rw [if_pos c4]; exact hnext
            · rw [decide_eq_false c4, Bool.and_false, Bool.and_false, Bool.or_false] at hnext
              rw [if_neg c4]; exact hnext
          · rw [decide_eq_false c3, Bool.false_and, Bool.and_false, Bool.or_false] at hnext
            rw [if_neg (by omega)]; exact hnext
        · rw [decide_eq_false c2] at hnext ⊢
          rw [Bool.false_and, Bool.or_false] at hnext
          rw [if_neg (by decide)]; exact hnext
      · have e : ¬ wd ws j = wd ws i := fun z => c1 (u0.2 z.symm)
        rw [if_neg c1, Option.bind_some]
        rw [if_neg e, Nat.add_zero] at hnext
        by_cases c2 : (j : Int) ∈ T
        · rw [decide_eq_true c2] at hnext ⊢
          rw [if_pos rfl]
          by_cases c3 : j < i
          · rw [decide_eq_true c3] at hnext
            rw [if_pos (by omega)]
            by_cases c4 : unl (wd ws i) (wd ws j) < least
            · rw [decide_eq_true c4, Bool.and_self, Bool.and_self, Bool.or_true] at hnext
              rw [if_pos c4]; exact hnext
            · rw [decide_eq_false c4, Bool.and_false, Bool.and_false, Bool.or_false] at hnext
              rw [if_neg c4]; exact hnext
          · rw [decide_eq_false c3, Bool.false_and, Bool.and_false, Bool.or_false] at hnext
            rw [if_neg (by omega)]; exact hnext
        · rw [decide_eq_false c2] at hnext ⊢
          rw [Bool.false_and, Bool.or_false] at hnext
          rw [if_neg (by decide)]; exact hnext
    have e1 := unlikeBy_ok (wd ws i) (wd ws j) a1 b1 hss (k + 1) (by omega)
    have e2 := unlikeBy_ok (wd ws j) (wd ws i) b1 a1 hss.symm (k + 1) (by omega)
    unfold wd at e1 e2
    simp only [laws_FnVotes.l1]
    rw [if_pos (by omega), if_pos (by omega), if_pos (by omega), if_pos (by omega), e1, Option.bind_some, e2, Option.bind_some]
    dsimp only
    rw [if_pos rfl, if_pos rfl, if_pos (by exact us)]
    have hcond : ¬ (((unl (rdOf ByteArray.empty ws (i : Int)) (rdOf ByteArray.empty ws (j : Int)) == 0) != ((rdOf ByteArray.empty ws (i : Int)).toList == (rdOf ByteArray.empty ws (j : Int)).toList)) = true) := by
      by_cases c : wd ws i = wd ws j
      · have z1 : (unl (rdOf ByteArray.empty ws (i : Int)) (rdOf ByteArray.empty ws (j : Int)) == 0) = true := beq_iff_eq.2 (u0.2 c)
        have z2 : ((rdOf ByteArray.empty ws (i : Int)).toList == (rdOf ByteArray.empty ws (j : Int)).toList) = true := beq_iff_eq.2 ((toList_inj _ _).2 c)
        rw [z1, z2]; decide
      · have z1 : (unl (rdOf ByteArray.empty ws (i : Int)) (rdOf ByteArray.empty ws (j : Int)) == 0) = false := beq_eq_false_iff_ne.2 (fun z => c (u0.1 z))
        have z2 : ((rdOf ByteArray.empty ws (i : Int)).toList == (rdOf ByteArray.empty ws (j : Int)).toList) = false := beq_eq_false_iff_ne.2 (fun z => c ((toList_inj _ _).1 z))
        rw [z1, z2]; decide
    rw [if_neg hcond]
    by_cases c : i = j
    · rw [if_pos (by omega)]
      exact hj4
    · have hl2 := hlow i j hi hjl c
      rw [if_neg (by omega), decide_eq_false (by unfold wd at hl2; omega)]
      exact hj4
theorem votes_l2 (ws : List ByteArray) (hn : ws.length ≤ 6) (x : ByteArray) (wx : wordOk x = true) (hw : ∀ w ∈ ws, wordOk w = true ∧ w.size = x.size) (b : Nat) (far : Int) (h1 : ∀ j, j < ws.length → far ≤ unl (wd ws j) x) (h2 : ∀ j, j < b → far < unl (wd ws j) x) : ∀ (d i k : Nat), i + d = ws.length → 2 * d + 100 < k → laws_FnVotes.l2 k ws x (b : Int) far (i : Int) = some true := by
  intro d
  induction d with
  | zero =>
    intro i k hi hk
    obtain ⟨k, rfl⟩ : ∃ m, k = m + 1 := ⟨k - 1, by omega⟩
    simp only [laws_FnVotes.l2]
    rw [if_neg (by omega)]
  | succ d ih =>
    intro i k hi hk
    obtain ⟨k, rfl⟩ : ∃ m, k = m + 1 := ⟨k - 1, by omega⟩
    obtain ⟨a1, a2⟩ := hw _ (mem_rdV ws i (by omega))
    have hnext := ih (i + 1) k (by omega) (by omega)
    have g1 := h1 i (by omega)
    unfold wd at g1
    simp only [laws_FnVotes.l2]
    rw [if_pos (by omega), if_pos (by omega), unlikeBy_ok _ x a1 wx a2 k (by omega), Option.bind_some]
    dsimp only
    rw [if_pos rfl, if_neg (by omega), wrap_nat i (by omega), hnext]
    by_cases c : unl (rdOf ByteArray.empty ws (i : Int)) x = far
    · rw [if_pos c, if_neg]
      intro z
      have := h2 i (by omega)
      unfold wd at this
      omega
    · rw [if_neg c]
theorem nr_iff (T : List Int) (ws : List ByteArray) (i : Nat) (least : Int) (n : Nat) (hi : i ≤ n) : nr T ws i least n = true ↔ ∃ q : Nat, q < i ∧ (q : Int) ∈ T ∧ unl (wd ws i) (wd ws q) < least := by
  unfold nr
  rw [List.any_eq_true]
  constructor
  · rintro ⟨q, _, h⟩
    rw [Bool.and_eq_true, Bool.and_eq_true, decide_eq_true_iff, decide_eq_true_iff, decide_eq_true_iff] at h
    exact ⟨q, h.2.1, h.1, h.2.2⟩
  · rintro ⟨q, h1, h2, h3⟩
    refine ⟨q, List.mem_range.2 (by omega), ?_⟩
    rw [Bool.and_eq_true, Bool.and_eq_true, decide_eq_true_iff, decide_eq_true_iff, decide_eq_true_iff]
    exact ⟨h2, h1, h3⟩
theorem takes_near (ws : List ByteArray) (L : Nat) (hw : ∀ w ∈ ws, wordOk w = true ∧ w.size = L) (least : Int) (i : Nat) (hi : i < ws.length) : decide ((i : Int) ∈ takes least ws ws.length 0 []) = !(nr (takes least ws ws.length 0 []) ws i least ws.length) := by
  obtain ⟨_, _, h⟩ := takes_spec least ws ws.length 0 [] (by simp)
  have hI := h i (Nat.zero_le _) (by omega)
  have hN := nr_iff (takes least ws ws.length 0 []) ws i least ws.length (by omega)
  have hiff : (∃ q : Nat, q < i ∧ (q : Int) ∈ takes least ws ws.length 0 [] ∧ nearT least (wd ws q) (wd ws i) = true) ↔ (∃ q : Nat, q < i ∧ (q : Int) ∈ takes least ws ws.length 0 [] ∧ unl (wd ws i) (wd ws q) < least) := by
    have key : ∀ q : Nat, q < i → (nearT least (wd ws q) (wd ws i) = true ↔ unl (wd ws i) (wd ws q) < least) := by
      intro q hq
      have s1 : (wd ws q).size = L := (hw _ (mem_rdV ws q (by omega))).2
      have s2 : (wd ws i).size = L := (hw _ (mem_rdV ws i hi)).2
      rw [unl_symm _ _ (s2.trans s1.symm)]
      unfold nearT
      rw [decide_eq_true (s1.trans s2.symm), Bool.true_and]
      by_cases c : unl (wd ws q) (wd ws i) < least
      · rw [decide_eq_false (by omega)]; exact ⟨fun _ => c, fun _ => rfl⟩
      · rw [decide_eq_true (by omega)]; exact ⟨fun z => absurd z (by decide), fun z => absurd z c⟩
    constructor
    · rintro ⟨q, a, b, c⟩; exact ⟨q, a, b, (key q a).1 c⟩
    · rintro ⟨q, a, b, c⟩; exact ⟨q, a, b, (key q a).2 c⟩
  rw [hiff, ← hN] at hI
  cases e : nr (takes least ws ws.length 0 []) ws i least ws.length with
  | true => exact decide_eq_false (fun z => hI.1 z e)
  | false => exact decide_eq_true (hI.2 (by rw [e]; decide))
theorem near_val (ws : List ByteArray) (L : Nat) (hn : ws.length ≤ 6) (hL : L ≤ 12) (hw : ∀ w ∈ ws, wordOk w = true ∧ w.size = L) (x : ByteArray) (wx : wordOk x = true) (k : Nat) (hk : 6000000 ≤ k) : spec_NearestWord.f k ws x = some (nearF x ws 0 (-1) 0) ∧ impl_NearestWord.f k ws x = some (nearF x ws 0 (-1) 0) := by
  have hxs := wordOk_size x wx
  have hb : ∀ s ∈ ws, s.size ≤ 2097152 := fun s hs => by have := (hw s hs).2; omega
  unfold spec_NearestWord.f impl_NearestWord.f
  rw [l04Word_eq x (by omega) k (by omega), asked_eq [] ws (by simp) (by omega) hb k (by omega), listCode_eq ws [] [x] (by simp) (by omega) (by simp) hb (by simp; omega) k (by omega)]
  simp only [Option.bind_some]
  have hc : codeA [] ws = 0 := codeA_ok ws (by omega) (fun w h => (hw w h).1)
  have e : codeL ws [] [x] = 0 := by
    have a : wordsOk (ws ++ [x]) = true := List.all_eq_true.2 (fun w h => by
      rcases List.mem_append.1 h with q | q
      · exact (hw w q).1
      · rw [List.mem_singleton.1 q]; exact wx)
    have hh : codeH [] (ws ++ [x]) = 0 := by
      unfold codeH
      rw [if_pos ⟨rfl, a⟩, if_pos (by simp)]
    unfold codeL
    rw [if_pos hh, if_pos (by omega)]
  have s0 := specNear_l0 ws x (by omega) (by omega) ws.length 0 k (-1) 0 (by omega) (by omega)
  have i0 := implNear_l0 ws x (by omega) (by omega) ws.length 0 k (-1) 0 (by omega) (by omega)
  rw [show ((0 : Nat) : Int) = 0 from rfl, List.drop_zero] at s0 i0
  rw [if_pos wx, hc, if_pos rfl, e, if_pos rfl, s0, i0]
  exact ⟨rfl, rfl⟩
theorem votes_end (x1 : List Int) (h1 : srcOk x1) (ws : List ByteArray) (L : Nat) (hn : ws.length ≤ 6) (hL : L ≤ 12) (hw : ∀ w ∈ ws, wordOk w = true ∧ w.size = L) (due : ByteArray) (low least : Int) (T : List Int) (k : Nat) (hk : 6000010 ≤ k) : laws_FnVotes.l0 k x1 ws due low least T (ws.length : Int) = some true := by
  obtain ⟨k, rfl⟩ : ∃ m, k = m + 2 := ⟨k - 2, by omega⟩
  obtain ⟨x, ex, wx⟩ := p6word_eq x1 h1 (k + 1) (by omega)
  obtain ⟨n1, n2⟩ := near_val ws L hn hL hw x wx (k + 1) (by omega)
  simp only [laws_FnVotes.l0]
  rw [if_neg (by omega), ex, Option.bind_some, n2, Option.bind_some, n1, Option.bind_some]
  rw [if_pos rfl, if_pos rfl, if_pos rfl]
  by_cases c : (ws.length : Int) > 0
  · have hz0 : (rdOf ByteArray.empty ws 0).size = L := by
      have := (hw _ (mem_rdV ws 0 (by omega))).2
      rwa [show ((0 : Nat) : Int) = 0 from rfl] at this
    rw [if_pos c, if_pos (by omega), hz0]
    by_cases e : L = x.size
    · obtain ⟨b, f1, f2, f3, f4⟩ := nearF_all ws x (fun j hj => ((hw _ (mem_rdV ws j hj)).2).trans e) (by omega) ws.length 0 (-1) 0 (by omega) (Or.inl ⟨rfl, rfl⟩)
      rw [List.drop_zero] at f1
      rw [f1]
      dsimp only
      have z : ((L : Int) == (x.size : Int)) = true := beq_iff_eq.2 (by omega)
      rw [z]
      simp only [laws_FnVotes.j5]
      rw [if_neg (by decide), if_pos trivial]
      have := votes_l2 ws hn x wx (fun w h => ⟨(hw w h).1, ((hw w h).2).trans e⟩) b _ f3 f4 ws.length 0 k (by omega) (by omega)
      rwa [show ((0 : Nat) : Int) = 0 from rfl] at this
    · rw [nearF_none x ws 0 0 (fun w h => by rw [(hw w h).2]; exact e)]
      have z : ((L : Int) == (x.size : Int)) = false := beq_eq_false_iff_ne.2 (by omega)
      dsimp only
      rw [z]
      simp only [laws_FnVotes.j5]
      rw [if_neg (by decide), if_neg (by decide)]
      rfl
  · obtain rfl := List.length_eq_zero_iff.1 (show ws.length = 0 by omega)
    rw [if_neg c]
    simp only [nearF]
    rw [if_pos (by decide)]
    simp only [laws_FnVotes.j5]
    rw [if_neg (by decide), if_neg (by decide)]
    rfl
theorem votes_l0 (x1 : List Int) (h1 : srcOk x1) (ws : List ByteArray) (L : Nat) (hn : ws.length ≤ 6) (hL : L ≤ 12) (hw : ∀ w ∈ ws, wordOk w = true ∧ w.size = L) (due : ByteArray) (low least : Int)
    (hlow : ∀ p q, p < ws.length → q < ws.length → p ≠ q → low ≤ unl (wd ws p) (wd ws q)) (hdue : ∀ i, i < ws.length → ws.length < 2 * occ ws (wd ws i) → due = wd ws i) : ∀ (d i k : Nat), i + d = ws.length → 6000010 + d * 2000 ≤ k → laws_FnVotes.l0 k x1 ws due low least (takes least ws ws.length 0 []) (i : Int) = some true := by
  intro d
  induction d with
  | zero =>
    intro i k hi hk
    obtain rfl : i = ws.length := by omega
    exact votes_end x1 h1 ws L hn hL hw due low least _ k (by omega)
  | succ d ih =>
    intro i k hi hk
    obtain ⟨k, rfl⟩ : ∃ m, k = m + 1 := ⟨k - 1, by omega⟩
    have hTl := takes_len least ws ws.length 0 []
    have h := votes_l1 x1 ws L hn hL hw due low least (takes least ws ws.length 0 []) (by simp only [List.length_nil] at hTl; omega) i (by omega) hlow (hdue i (by omega)) (takes_near ws L hw least i (by omega)) (6000010 + d * 2000) _ (fun k hk => ih (i + 1) k (by omega) hk) ws.length 0 k (by omega) (by omega)
    have z1 : oc ws (wd ws i) 0 = 0 := by unfold oc; rw [List.take_zero]; rfl
    have z2 : nr (takes least ws ws.length 0 []) ws i least 0 = false := rfl
    rw [z1, z2, show ((0 : Nat) : Int) = 0 from rfl] at h
    simp only [laws_FnVotes.l0]
    rw [if_pos (by omega)]
    exact h
theorem least_val (ws : List ByteArray) (L : Nat) (hn : ws.length ≤ 6) (hL : L ≤ 12) (hw : ∀ w ∈ ws, wordOk w = true ∧ w.size = L) (k : Nat) (hk : 6000000 ≤ k) : ∃ low : Int, spec_LeastUnlike.f k ws = some (low, if (ws.length : Int) < 2 then 6 else 0) ∧ impl_LeastUnlike.f k ws = some (low, if (ws.length : Int) < 2 then 6 else 0) ∧ ∀ p q, p < ws.length → q < ws.length → p ≠ q → low ≤ unl (wd ws p) (wd ws q) := by
  have hb : ∀ s ∈ ws, s.size ≤ 2097152 := fun s hs => by have := (hw s hs).2; omega
  have hc := codeV_ok ws L (by omega) hw 2 (by decide)
  unfold spec_LeastUnlike.f impl_LeastUnlike.f
  rw [l04Long_eq ws 2 (by decide) (by omega) hb k (by omega), voteCode_eq ws 2 (by decide) (by omega) hb k (by omega), Option.bind_some, Option.bind_some, hc]
  by_cases c : (ws.length : Int) < 2
  · rw [if_pos c, if_neg (by decide), if_neg (by decide)]
    exact ⟨0, rfl, rfl, fun p q h1 h2 h3 => by omega⟩
  · have e1 := specLU_l0 ws L hL (fun w h => (hw w h).2) (by omega) ws.length 0 k 12 (by omega) (by omega)
    have e2 := implLU_l0 ws L hL (fun w h => (hw w h).2) (by omega) ws.length 0 k 12 (by omega) (by omega)
    rw [show ((0 : Nat) : Int) = 0 from rfl] at e1 e2
    rw [if_neg c, if_pos rfl, if_pos rfl, e1, e2]
    refine ⟨_, rfl, rfl, fun p q h1 h2 h3 => ?_⟩
    obtain ⟨_, ho⟩ := outF_le ws ws.length 0 12
    rcases Nat.lt_or_gt_of_ne h3 with g | g
    · have s1 : (wd ws q).size = L := (hw _ (mem_rdV ws q h2)).2
      have s2 : (wd ws p).size = L := (hw _ (mem_rdV ws p h1)).2
      rw [unl_symm _ _ (s2.trans s1.symm)]
      exact ho q p (Nat.zero_le _) (by omega) g
    · exact ho p q (Nat.zero_le _) (by omega) g
theorem main : laws_FnVotes.Pure := by
  intro l0 l1 m0 y0 w0 m1 y1 w1
  refine rounds_of 7000000 fun k hk => ?_
  obtain ⟨k, rfl⟩ : ∃ q, k = q + 3 := ⟨k - 3, by omega⟩
  have j0t : ∀ a b, laws_FnVotes.j0 (k + 3) a b true = some true := fun a b => by
    simp only [laws_FnVotes.j0]
    rw [if_pos trivial]
  have wf8 : ∀ x : Int, (Lit.int .u8 x).wf = true → 0 ≤ x ∧ x ≤ 255 := fun x h => wf_u8 h
  unfold laws_FnVotes.f laws_f6big.f
  rw [Option.bind_some]
  by_cases c0 : (l0.length : Int) > 4096
  · rw [if_pos (decide_eq_true c0), j0t]
  · rw [if_neg (by simpa using c0), Option.bind_some]
    by_cases c1 : (l1.length : Int) > 4096
    · rw [decide_eq_true c1, j0t]
    · rw [decide_eq_false c1]
      have s0 : srcOk l0 := ⟨by omega, fun x hx => wf8 x (w0 x hx)⟩
      have s1 : srcOk l1 := ⟨by omega, fun x hx => wf8 x (w1 x hx)⟩
      obtain ⟨ws, L, e1, hn, hL, hw⟩ := p6words_eq2 l0 s0 (k + 2) (by omega)
      obtain ⟨ap, e2, ap0, ap1⟩ := p6pick_eq l1 s1 5 (by decide)
      obtain ⟨low, g1, g2, hlow⟩ := least_val ws L hn hL.2 hw (k + 2) (by omega)
      have hb : ∀ s ∈ ws, s.size ≤ 2097152 := fun s hs => by have := (hw s hs).2; omega
      have hA := apart_codes ws ap (by omega) hb (k + 2) (by omega)
      have hfin : finA ws ap = (takes ap ws ws.length 0 [], 0) := by
        have hc : codeA [] ws = 0 := codeA_ok ws (by omega) (fun w h => (hw w h).1)
        unfold finA
        rw [if_neg (by rw [hc]; decide), if_pos (by omega), if_pos hc]
      rw [hfin] at hA
      have hTl := takes_len ap ws ws.length 0 []
      simp only [List.length_nil] at hTl
      have hj1 : ∀ due : ByteArray, (∀ i, i < ws.length → ws.length < 2 * occ ws (wd ws i) → due = wd ws i) → laws_FnVotes.j1 (k + 2) l1 ws due low ap (takes ap ws ws.length 0 []) false = some true := fun due hd => by
        simp only [laws_FnVotes.j1]
        rw [if_neg (by decide)]
        have := votes_l0 l1 s1 ws L hn hL.2 hw due low ap hlow hd ws.length 0 (k + 1) (by omega) (by omega)
        rwa [show ((0 : Nat) : Int) = 0 from rfl] at this
      simp only [laws_FnVotes.j0]
      rw [if_neg (by decide), e1, Option.bind_some]
      by_cases c : ws.length = 0
      · obtain ⟨v1, v2⟩ := vote_none ws c (k + 2) (by omega)
        rw [v2, Option.bind_some, v1, Option.bind_some, g2, Option.bind_some, g1, Option.bind_some, e2, Option.bind_some, hA.2, Option.bind_some, hA.1, Option.bind_some]
        dsimp only
        rw [if_pos rfl, if_pos rfl, if_neg (by rw [c]; decide), if_pos rfl, if_pos rfl, if_neg (by rw [c]; decide), if_pos rfl, if_pos rfl, same_eq _ (by omega) (k + 2) (by omega), Option.bind_some, if_pos rfl, if_neg (by omega)]
        exact hj1 _ (fun i hi _ => by omega)
      · obtain ⟨res, v1, v2, v3, v4⟩ := vote_val ws L (by omega) (by omega) hL.2 hw (k + 2) (by omega)
        rw [v2, Option.bind_some, v1, Option.bind_some, g2, Option.bind_some, g1, Option.bind_some, e2, Option.bind_some, hA.2, Option.bind_some, hA.1, Option.bind_some]
        dsimp only
        have q1 : ¬ (((0 : Int) == 0) != decide ((ws.length : Int) > 0)) = true := by rw [decide_eq_true (by omega)]; decide
        have q2 : ¬ (((if (ws.length : Int) < 2 then (6 : Int) else 0) == 0) != decide ((ws.length : Int) > 1)) = true := by
          by_cases h : (ws.length : Int) < 2
          · rw [if_pos h, decide_eq_false (by omega)]; decide
          · rw [if_neg h, decide_eq_true (by omega)]; decide
        have hT0 : ((takes ap ws ws.length 0 []).length : Int) ≠ 0 := by
          have hm := (takes_spec ap ws ws.length 0 [] (by simp)).2.2 0 (Nat.le_refl _) (by omega)
          have : ((0 : Nat) : Int) ∈ takes ap ws ws.length 0 [] := hm.2 (by rintro ⟨q, h, _⟩; omega)
          have := List.length_pos_of_mem this
          omega
        rw [if_pos rfl, if_pos rfl, if_neg q1, if_pos rfl, if_pos rfl, if_neg q2, if_pos rfl, if_pos rfl, same_eq _ (by omega) (k + 2) (by omega), Option.bind_some, if_pos rfl, if_pos (by omega), beq_eq_false_iff_ne.2 hT0]
        exact hj1 _ (fun i hi h2 => vote_major ws L hL.2 hw res v3 v4 _ (mem_rdV ws i hi) h2)

end Go.Proofs.Ytkdloidojmccgaa.PureFnVotes
namespace Go.Proofs.Ytkdloidojmccgaa.Pure
theorem FnVotes : Go.Proofs.Ytkdloidojmccgaa.P.laws_FnVotes.Pure := Go.Proofs.Ytkdloidojmccgaa.PureFnVotes.main
end Go.Proofs.Ytkdloidojmccgaa.Pure
