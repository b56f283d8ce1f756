/- For every list of words the program's LeastUnlike returns the reference's number and code and leaves the words as they were; no condition. -/
import Derived.Test.YthdkgahbccdhpaaP18
import Derived.Laws.BitsLemmas
namespace Go.Proofs.Ythdkgahbccdhpaa.PureFnExactLeastUnlike
open Go.RowKit Go.Proofs.Ythdkgahbccdhpaa.P Go.Proofs.YthdkgahbccdhpaaW.PrintWords Go.Proofs.YthdkgahbccdhpaaW.PrintLast
set_option linter.unusedSimpArgs false
set_option linter.unusedVariables false

theorem wrap64_id (x : Int) (h0 : -9223372036854775808 ≤ x) (h1 : x ≤ 9223372036854775807) : wrap64 x = x := by unfold wrap64; omega
theorem wrap_nat (n : Nat) (h : n < 4611686018427387904) : wrap64 ((n : Int) + 1) = ((n + 1 : Nat) : Int) := by
  rw [wrap64_id _ (by omega) (by omega)]; omega
theorem drop_getD {α : Type} (z : α) (l : List α) (i : Nat) (h : i < l.length) : l.drop i = l.getD i z :: l.drop (i + 1) := by
  rw [List.drop_eq_getElem_cons h, List.getD_eq_getElem?_getD, List.getElem?_eq_getElem h]; rfl
theorem take_getD {α : Type} (z : α) (l : List α) (i : Nat) (h : i < l.length) : l.take (i + 1) = l.take i ++ [l.getD i z] := by
  rw [List.take_succ_eq_append_getElem h, List.getD_eq_getElem?_getD, List.getElem?_eq_getElem h]; rfl
theorem set_rep {α : Type} (a : List α) (i d : Nat) (z v : α) (h : a.length = i) : (a ++ List.replicate (d + 1) z).set i v = (a ++ [v]) ++ List.replicate d z := by
  subst h
  rw [List.set_append_right _ _ (Nat.le_refl _), Nat.sub_self, List.replicate_succ, List.set_cons_zero]
  simp
theorem rounds_of (B : Nat) {α : Type} {F : Nat → Option α} {v : α} (h : ∀ k, B ≤ k → F k = some v) : ∃ k, F k = some v := ⟨B, h B (Nat.le_refl _)⟩

def letter (c : Int) : Bool := decide (97 ≤ c ∧ c ≤ 122)
theorem l04Letter_eq (c : Int) : spec_l04Letter.f c = some (letter c) := by
  unfold spec_l04Letter.f letter
  by_cases h : 97 ≤ c
  · rw [if_pos (by omega)]; simp [h]
  · rw [if_neg (by omega)]; simp [h]
theorem isLetter_eq (c : Int) : impl_isLetter.f c = some (letter c) := by
  unfold impl_isLetter.f letter
  by_cases h : 97 ≤ c
  · rw [if_pos (by omega)]; simp [h]
  · rw [if_neg (by omega)]; simp [h]
theorem in_eq (a b c : Int) : spec_l00In.f a b c = some (decide (b ≤ a ∧ a ≤ c)) := by
  unfold spec_l00In.f
  by_cases h : b ≤ a
  · rw [if_pos (by omega)]; simp [h]
  · rw [if_neg (by omega)]; simp [h]
theorem within_eq (a b c : Int) : impl_within.f a b c = some (decide (b ≤ a ∧ a ≤ c)) := by
  unfold impl_within.f
  by_cases h : b ≤ a
  · rw [if_pos (by omega)]; simp [h]
  · rw [if_neg (by omega)]; simp [h]
def lettersFrom (s : ByteArray) : Nat → Nat → Bool
  | 0, _ => true
  | d + 1, i => letter (bt s (i : Int)) && lettersFrom s d (i + 1)
def wordOk (s : ByteArray) : Bool := lettersFrom s s.size 0 && decide (1 ≤ (s.size : Int) ∧ (s.size : Int) ≤ 12)
theorem l04Word_l0 (s : ByteArray) (hs : s.size ≤ 4611686018427387900) : ∀ (d i k : Nat), i + d = s.size → d < k → spec_l04Word.l0 k s (i : Int) = some (lettersFrom s d i && decide (1 ≤ (s.size : Int) ∧ (s.size : Int) ≤ 12)) := by
  intro d
  induction d with
  | zero =>
    intro i k hi hk
    obtain ⟨k, rfl⟩ : ∃ m, k = m + 1 := ⟨k - 1, by omega⟩
    simp only [spec_l04Word.l0]
    rw [if_neg (by omega), in_eq]
    simp [lettersFrom]
  | succ d ih =>
    intro i k hi hk
    obtain ⟨k, rfl⟩ : ∃ m, k = m + 1 := ⟨k - 1, by omega⟩
    simp only [spec_l04Word.l0]
    rw [if_pos (by omega), if_pos (by omega), l04Letter_eq, Option.bind_some, wrap_nat i (by omega), ih (i + 1) k (by omega) (by omega)]
    by_cases h : letter (bt s (i : Int)) = true <;> simp [lettersFrom, h]
theorem l04Word_eq (s : ByteArray) (hs : s.size ≤ 4611686018427387900) (k : Nat) (hk : s.size < k) : spec_l04Word.f k s = some (wordOk s) := by
  unfold spec_l04Word.f wordOk
  exact l04Word_l0 s hs s.size 0 k (by omega) hk
theorem isWord_l0 (s : ByteArray) (hs : s.size ≤ 4611686018427387900) : ∀ (d i k : Nat), i + d = s.size → d < k → impl_IsWord.l0 k s (s.size : Int) (i : Int) = some (lettersFrom s d i && decide (1 ≤ (s.size : Int) ∧ (s.size : Int) ≤ 12)) := by
  intro d
  induction d with
  | zero =>
    intro i k hi hk
    obtain ⟨k, rfl⟩ : ∃ m, k = m + 1 := ⟨k - 1, by omega⟩
    simp only [impl_IsWord.l0]
    rw [if_neg (by omega), within_eq]
    simp [lettersFrom]
  | succ d ih =>
    intro i k hi hk
    obtain ⟨k, rfl⟩ : ∃ m, k = m + 1 := ⟨k - 1, by omega⟩
    simp only [impl_IsWord.l0]
    rw [if_pos (by omega), if_pos (by omega), if_pos (by omega), isLetter_eq, Option.bind_some, wrap_nat i (by omega), ih (i + 1) k (by omega) (by omega)]
    by_cases h : letter (bt s (i : Int)) = true <;> simp [lettersFrom, h]
theorem isWord_eq (s : ByteArray) (hs : s.size ≤ 4611686018427387900) (k : Nat) (hk : s.size < k) : impl_IsWord.f k s = some (wordOk s) := by
  unfold impl_IsWord.f wordOk
  exact isWord_l0 s hs s.size 0 k (by omega) hk
theorem wordOk_size (s : ByteArray) (h : wordOk s = true) : 1 ≤ s.size ∧ s.size ≤ 12 := by
  simp only [wordOk, Bool.and_eq_true, decide_eq_true_eq] at h
  omega
def habitOk (t a b : Int) : Bool :=
  if t = 0 ∨ t = 3 then decide (a = 0) && decide (b = 0) else if t = 1 then letter a && letter b && decide (a ≠ b) else if t = 2 ∨ t = 4 then letter a && decide (b = 0) else false
theorem l04Habit_eq (t a b : Int) (k : Nat) (hk : 0 < k) : spec_l04Habit.f k t a b = some (habitOk t a b) := by
  obtain ⟨k, rfl⟩ : ∃ m, k = m + 1 := ⟨k - 1, by omega⟩
  unfold spec_l04Habit.f habitOk
  simp only [spec_l04Habit.j0, l04Letter_eq, Option.bind_some]
  by_cases h0 : t = 0
  · subst h0
    by_cases ha : a = 0 <;> simp [ha] <;> rfl
  · by_cases h3 : t = 3
    · subst h3
      by_cases ha : a = 0 <;> simp [ha] <;> rfl
    · by_cases h1 : t = 1
      · subst h1
        by_cases la : letter a = true <;> by_cases lb : letter b = true <;> simp [la, lb] <;> rfl
      · by_cases h2 : t = 2
        · subst h2
          by_cases la : letter a = true <;> simp [la] <;> rfl
        · by_cases h4 : t = 4
          · subst h4
            by_cases la : letter a = true <;> simp [la] <;> rfl
          · simp [h0, h1, h2, h3, h4]
theorem validHabit_eq (t a b : Int) : impl_ValidHabit.f t a b = some (habitOk t a b) := by
  unfold impl_ValidHabit.f habitOk
  simp only [isLetter_eq, Option.bind_some]
  by_cases h0 : t = 0
  · subst h0
    by_cases ha : a = 0 <;> simp [ha] <;> rfl
  · by_cases h3 : t = 3
    · subst h3
      by_cases ha : a = 0 <;> simp [ha] <;> rfl
    · by_cases h1 : t = 1
      · subst h1
        by_cases la : letter a = true <;> by_cases lb : letter b = true <;> simp [la, lb] <;> rfl
      · by_cases h2 : t = 2
        · subst h2
          by_cases la : letter a = true <;> simp [la] <;> rfl
        · by_cases h4 : t = 4
          · subst h4
            by_cases la : letter a = true <;> simp [la] <;> rfl
          · simp [h0, h1, h2, h3, h4]

theorem rdS_nat (l : List ByteArray) (i : Nat) : rdOf ByteArray.empty l (i : Int) = l.getD i ByteArray.empty := by simp [rdOf]
theorem drop_rdS (l : List ByteArray) (i : Nat) (h : i < l.length) : l.drop i = rdOf ByteArray.empty l (i : Int) :: l.drop (i + 1) := by
  rw [drop_getD ByteArray.empty l i h, rdS_nat]
/-- The letters of all texts. -/
def total : List ByteArray → Nat
  | [] => 0
  | s :: r => s.size + total r
theorem total_nil : total [] = 0 := rfl
theorem total_cons (s : ByteArray) (r : List ByteArray) : total (s :: r) = s.size + total r := rfl
theorem total_get : ∀ (l : List ByteArray) (s : ByteArray), s ∈ l → s.size ≤ total l
  | [], s, h => by simp at h
  | x :: r, s, h => by
    simp only [total]
    rcases List.mem_cons.1 h with e | e
    · rw [e]; omega
    · have := total_get r s e; omega
theorem szStringS_l0 (l : List ByteArray) (hl : l.length ≤ 1048576) (hb : ∀ s ∈ l, s.size ≤ 9223372036854775807) : ∀ (d i k : Nat) (a : Int), i + d = l.length → d < k → 0 ≤ a → a ≤ 1048576 → laws_szStringS.l0 k l a (i : Int) = some (if a < (total (l.drop i) : Int) then -1 else a - total (l.drop i)) := by
  intro d
  induction d with
  | zero =>
    intro i k a hi hk h0 h1
    obtain ⟨k, rfl⟩ : ∃ m, k = m + 1 := ⟨k - 1, by omega⟩
    simp only [laws_szStringS.l0]
    rw [if_neg (by omega), List.drop_eq_nil_of_le (by omega)]
    rw [total_nil, if_neg (by omega)]
    simp
  | succ d ih =>
    intro i k a hi hk h0 h1
    obtain ⟨k, rfl⟩ : ∃ m, k = m + 1 := ⟨k - 1, by omega⟩
    have hm : rdOf ByteArray.empty l (i : Int) ∈ l := by
      rw [rdS_nat, List.getD_eq_getElem?_getD, List.getElem?_eq_getElem (by omega)]
      exact List.getElem_mem _
    have hsz := hb _ hm
    rw [drop_rdS l i (by omega)]
    simp only [laws_szStringS.l0]
    rw [total_cons, if_pos (by omega), if_pos (by omega), wrap64_id _ (by omega) (by omega), wrap_nat i (by omega)]
    by_cases h : a < ((rdOf ByteArray.empty l (i : Int)).size : Int)
    · rw [if_pos (by omega), if_pos (by omega)]
    · rw [if_neg (by omega), ih (i + 1) k _ (by omega) (by omega) (by omega) (by omega)]
      by_cases g : a - ((rdOf ByteArray.empty l (i : Int)).size : Int) < (total (l.drop (i + 1)) : Int)
      · rw [if_pos g, if_pos (by omega)]
      · rw [if_neg g, if_neg (by omega)]
        congr 1
        omega
theorem szStringS_eq (l : List ByteArray) (a : Int) (h0 : 0 ≤ a) (h1 : a ≤ 1048576) (hl : l.length ≤ 9223372036854775807) (hb : ∀ s ∈ l, s.size ≤ 9223372036854775807) (k : Nat) (hk : 1048576 < k) :
    laws_szStringS.f k l a = some (if a < (l.length : Int) + total l then -1 else a - l.length - total l) := by
  unfold laws_szStringS.f
  rw [wrap64_id _ (by omega) (by omega)]
  by_cases h : a < (l.length : Int)
  · rw [if_pos (by omega), if_pos (by omega)]
  · rw [if_neg (by omega)]
    have := szStringS_l0 l (by omega) hb l.length 0 k (a - l.length) (by omega) (by omega) (by omega) (by omega)
    rw [show ((0 : Nat) : Int) = 0 from rfl, List.drop_zero] at this
    rw [this]
    by_cases g : a - (l.length : Int) < (total l : Int)
    · rw [if_pos g, if_pos (by omega)]
    · rw [if_neg g, if_neg (by omega)]
theorem toStringS_l0 (l : List ByteArray) (hl : l.length ≤ 1048576) : ∀ (d i k : Nat), i + d = l.length → d < k → laws_toStringS.l0 k l (l.take i ++ List.replicate d (⟨#[]⟩ : ByteArray)) (i : Int) = some l := by
  intro d
  induction d with
  | zero =>
    intro i k hi hk
    obtain ⟨k, rfl⟩ : ∃ m, k = m + 1 := ⟨k - 1, by omega⟩
    simp only [laws_toStringS.l0]
    rw [if_neg (by omega), List.take_of_length_le (by omega)]
    simp
  | succ d ih =>
    intro i k hi hk
    obtain ⟨k, rfl⟩ : ∃ m, k = m + 1 := ⟨k - 1, by omega⟩
    have hlen : ((l.take i ++ List.replicate (d + 1) (⟨#[]⟩ : ByteArray)).length : Int) = l.length := by simp; omega
    have hstep := set_rep (l.take i) i d (⟨#[]⟩ : ByteArray) (rdOf ByteArray.empty l (i : Int)) (by simp; omega)
    rw [rdS_nat, ← take_getD ByteArray.empty l i (by omega)] at hstep
    simp only [laws_toStringS.l0]
    rw [if_pos (by omega), if_pos (by omega), if_pos (by rw [hlen]; omega), wrap_nat i (by omega), Int.toNat_natCast, rdS_nat, hstep]
    exact ih (i + 1) k (by omega) (by omega)
theorem toStringS_eq (l : List ByteArray) (hl : l.length ≤ 1048576) (k : Nat) (hk : l.length < k) : laws_toStringS.f k l = some l := by
  unfold laws_toStringS.f
  rw [if_pos (by omega), if_pos (by omega)]
  have := toStringS_l0 l hl l.length 0 k (by omega) hk
  simpa using this
theorem toList_inj (a b : ByteArray) : a.toList = b.toList ↔ a = b := by
  constructor
  · intro h
    rw [ByteArray.toList_eq, ByteArray.toList_eq] at h
    have h2 : a.data.toList = b.data.toList := h
    cases a; cases b
    simp at h2
    rw [h2]
  · intro h; rw [h]
theorem eqStringS_l0 (a b : List ByteArray) (hab : a.length = b.length) (hl : a.length ≤ 1048576) : ∀ (d i k : Nat), i + d = a.length → d < k → laws_eqStringS.l0 k a b (i : Int) = some (decide (a.drop i = b.drop i)) := by
  intro d
  induction d with
  | zero =>
    intro i k hi hk
    obtain ⟨k, rfl⟩ : ∃ m, k = m + 1 := ⟨k - 1, by omega⟩
    simp only [laws_eqStringS.l0]
    rw [if_neg (by omega), List.drop_eq_nil_of_le (by omega), List.drop_eq_nil_of_le (by omega)]
    simp
  | succ d ih =>
    intro i k hi hk
    obtain ⟨k, rfl⟩ : ∃ m, k = m + 1 := ⟨k - 1, by omega⟩
    simp only [laws_eqStringS.l0]
    rw [if_pos (by omega), if_pos (by omega), if_pos (by omega), drop_rdS a i (by omega), drop_rdS b i (by omega)]
    by_cases e : rdOf ByteArray.empty a (i : Int) = rdOf ByteArray.empty b (i : Int)
    · rw [if_pos ((toList_inj _ _).2 e), wrap_nat i (by omega), ih (i + 1) k (by omega) (by omega)]
      simp [e]
    · rw [if_neg (fun h => e ((toList_inj _ _).1 h))]
      simp [e]
theorem eqStringS_eq (a b : List ByteArray) (hl : a.length ≤ 1048576) (k : Nat) (hk : a.length < k) : laws_eqStringS.f k a b = some (decide (a = b)) := by
  unfold laws_eqStringS.f
  by_cases h : a.length = b.length
  · rw [if_pos (by omega)]
    have := eqStringS_l0 a b h hl a.length 0 k (by omega) hk
    simpa using this
  · rw [if_neg (by omega)]
    have : a ≠ b := fun e => h (by rw [e])
    simp [this]

def habitsOk (l : List S27) : Bool := l.all (fun h => habitOk h.f0 h.f1 h.f2)
def wordsOk (l : List ByteArray) : Bool := l.all wordOk
theorem drop_hab (l : List S27) (i : Nat) (h : i < l.length) : l.drop i = rd_T27 l (i : Int) :: l.drop (i + 1) := by
  rw [drop_getD z27 l i h]; simp [rd_T27]
def codeA (hs : List S27) (ws : List ByteArray) : Int :=
  if habitsOk hs = true ∧ wordsOk ws = true then if hs.length ≤ 30 then if ws.length ≤ 40 then 0 else 3 else 3 else 1
theorem asked_l1 (hs : List S27) (ws : List ByteArray) (hw : ws.length ≤ 2097152) (hb : ∀ s ∈ ws, s.size ≤ 2097152) : ∀ (d i k : Nat), i + d = ws.length → d + 2097152 < k → spec_l04Asked.l1 k hs ws (i : Int) = some (if wordsOk (ws.drop i) = true then if hs.length ≤ 30 then if ws.length ≤ 40 then 0 else 3 else 3 else 1) := by
  intro d
  induction d with
  | zero =>
    intro i k hi hk
    obtain ⟨k, rfl⟩ : ∃ m, k = m + 1 := ⟨k - 1, by omega⟩
    simp only [spec_l04Asked.l1]
    rw [if_neg (by omega), List.drop_eq_nil_of_le (by omega), show wordsOk [] = true from rfl, if_pos rfl]
    by_cases h1 : hs.length ≤ 30
    · by_cases h2 : ws.length ≤ 40
      · rw [if_neg (by omega), if_neg (by omega), if_pos h1, if_pos h2]
      · rw [if_neg (by omega), if_pos (by omega), if_pos h1, if_neg h2]
    · rw [if_pos (by omega), if_neg h1]
  | succ d ih =>
    intro i k hi hk
    obtain ⟨k, rfl⟩ : ∃ m, k = m + 1 := ⟨k - 1, by omega⟩
    have hm : rdOf ByteArray.empty ws (i : Int) ∈ ws := by
      rw [rdS_nat, List.getD_eq_getElem?_getD, List.getElem?_eq_getElem (by omega)]
      exact List.getElem_mem _
    have hsz := hb _ hm
    simp only [spec_l04Asked.l1]
    rw [if_pos (by omega), if_pos (by omega), l04Word_eq _ (by omega) k (by omega), Option.bind_some, wrap_nat i (by omega), ih (i + 1) k (by omega) (by omega), drop_rdS ws i (by omega)]
    by_cases h : wordOk (rdOf ByteArray.empty ws (i : Int)) = true <;> simp [wordsOk, h]
theorem asked_l0 (hs : List S27) (ws : List ByteArray) (hh : hs.length ≤ 1048576) (hw : ws.length ≤ 2097152) (hb : ∀ s ∈ ws, s.size ≤ 2097152) : ∀ (d i k : Nat), i + d = hs.length → d + 4194310 < k → spec_l04Asked.l0 k hs ws (i : Int) = some (if habitsOk (hs.drop i) = true ∧ wordsOk ws = true then if hs.length ≤ 30 then if ws.length ≤ 40 then 0 else 3 else 3 else 1) := by
  intro d
  induction d with
  | zero =>
    intro i k hi hk
    obtain ⟨k, rfl⟩ : ∃ m, k = m + 1 := ⟨k - 1, by omega⟩
    have h := asked_l1 hs ws hw hb ws.length 0 k (by omega) (by omega)
    rw [show ((0 : Nat) : Int) = 0 from rfl, List.drop_zero] at h
    simp only [spec_l04Asked.l0]
    rw [if_neg (by omega), List.drop_eq_nil_of_le (by omega), h]
    simp [habitsOk]
  | succ d ih =>
    intro i k hi hk
    obtain ⟨k, rfl⟩ : ∃ m, k = m + 1 := ⟨k - 1, by omega⟩
    simp only [spec_l04Asked.l0]
    rw [if_pos (by omega), if_pos (by omega), l04Habit_eq _ _ _ k (by omega), Option.bind_some, wrap_nat i (by omega), ih (i + 1) k (by omega) (by omega), drop_hab hs i (by omega)]
    by_cases h : habitOk (rd_T27 hs (i : Int)).f0 (rd_T27 hs (i : Int)).f1 (rd_T27 hs (i : Int)).f2 = true <;> simp [habitsOk, h]
theorem asked_eq (hs : List S27) (ws : List ByteArray) (hh : hs.length ≤ 1048576) (hw : ws.length ≤ 2097152) (hb : ∀ s ∈ ws, s.size ≤ 2097152) (k : Nat) (hk : 5242890 < k) : spec_l04Asked.f k hs ws = some (codeA hs ws) := by
  unfold spec_l04Asked.f codeA
  have h := asked_l0 hs ws hh hw hb hs.length 0 k (by omega) (by omega)
  rw [show ((0 : Nat) : Int) = 0 from rfl, List.drop_zero] at h
  exact h
theorem findH_l0 (l : List S27) (hl : l.length ≤ 1048576) : ∀ (d i k : Nat), i + d = l.length → d < k → ∃ r : Int, slices_IndexFunc_Habit_at_chainCode_1.l0 k l (l.length : Int) (i : Int) = some r ∧ decide (r ≥ 0) = !habitsOk (l.drop i) := by
  intro d
  induction d with
  | zero =>
    intro i k hi hk
    obtain ⟨k, rfl⟩ : ∃ m, k = m + 1 := ⟨k - 1, by omega⟩
    refine ⟨-1, ?_, ?_⟩
    · simp only [slices_IndexFunc_Habit_at_chainCode_1.l0]
      rw [if_neg (by omega)]
    · rw [List.drop_eq_nil_of_le (by omega)]; simp [habitsOk]
  | succ d ih =>
    intro i k hi hk
    obtain ⟨k, rfl⟩ : ∃ m, k = m + 1 := ⟨k - 1, by omega⟩
    simp only [slices_IndexFunc_Habit_at_chainCode_1.l0, impl_chainCode_1.f]
    rw [if_pos (by omega), if_pos (by omega), if_pos (by omega), validHabit_eq, Option.bind_some, Option.bind_some, drop_hab l i (by omega), wrap_nat i (by omega)]
    by_cases h : habitOk (rd_T27 l (i : Int)).f0 (rd_T27 l (i : Int)).f1 (rd_T27 l (i : Int)).f2 = true
    · obtain ⟨r, h1, h2⟩ := ih (i + 1) k (by omega) (by omega)
      refine ⟨r, by rw [if_neg (by simp [h])]; exact h1, ?_⟩
      rw [h2]; simp [habitsOk, h]
    · refine ⟨(i : Int), by rw [if_pos (by simpa using h)], ?_⟩
      simp only [habitsOk, List.all_cons, Bool.eq_false_iff.2 h, Bool.false_and, Bool.not_false]
      exact decide_eq_true (by omega)
theorem findW_l0 (l : List ByteArray) (hl : l.length ≤ 2097153) (hb : ∀ s ∈ l, s.size ≤ 2097152) : ∀ (d i k : Nat), i + d = l.length → d + 2097152 < k → ∃ r : Int, slices_IndexFunc_Sstring_string_at_chainCode_2.l0 k l (l.length : Int) (i : Int) = some r ∧ decide (r ≥ 0) = !wordsOk (l.drop i) := by
  intro d
  induction d with
  | zero =>
    intro i k hi hk
    obtain ⟨k, rfl⟩ : ∃ m, k = m + 1 := ⟨k - 1, by omega⟩
    refine ⟨-1, ?_, ?_⟩
    · simp only [slices_IndexFunc_Sstring_string_at_chainCode_2.l0]
      rw [if_neg (by omega)]
    · rw [List.drop_eq_nil_of_le (by omega)]; simp [wordsOk]
  | succ d ih =>
    intro i k hi hk
    obtain ⟨k, rfl⟩ : ∃ m, k = m + 1 := ⟨k - 1, by omega⟩
    have hm : rdOf ByteArray.empty l (i : Int) ∈ l := by
      rw [rdS_nat, List.getD_eq_getElem?_getD, List.getElem?_eq_getElem (by omega)]
      exact List.getElem_mem _
    have hsz := hb _ hm
    simp only [slices_IndexFunc_Sstring_string_at_chainCode_2.l0, impl_chainCode_2.f]
    rw [if_pos (by omega), if_pos (by omega), if_pos (by omega), isWord_eq _ (by omega) k (by omega), Option.bind_some, Option.bind_some, drop_rdS l i (by omega), wrap_nat i (by omega)]
    by_cases h : wordOk (rdOf ByteArray.empty l (i : Int)) = true
    · obtain ⟨r, h1, h2⟩ := ih (i + 1) k (by omega) (by omega)
      refine ⟨r, by rw [if_neg (by simp [h])]; exact h1, ?_⟩
      rw [h2]; simp [wordsOk, h]
    · refine ⟨(i : Int), by rw [if_pos (by simpa using h)], ?_⟩
      simp only [wordsOk, List.all_cons, Bool.eq_false_iff.2 h, Bool.false_and, Bool.not_false]
      exact decide_eq_true (by omega)
def codeH (hs : List S27) (ws : List ByteArray) : Int :=
  if habitsOk hs = true ∧ wordsOk ws = true then if hs.length ≤ 30 then 0 else 3 else 1
theorem chainCode_eq (hs : List S27) (ws : List ByteArray) (hh : hs.length ≤ 1048576) (hw : ws.length ≤ 2097153) (hb : ∀ s ∈ ws, s.size ≤ 2097152) (k : Nat) (hk : 5242890 < k) : impl_chainCode.f k hs ws = some (codeH hs ws) := by
  unfold impl_chainCode.f codeH slices_ContainsFunc_Habit_at_chainCode_1.f slices_IndexFunc_Habit_at_chainCode_1.f slices_ContainsFunc_Sstring_string_at_chainCode_2.f slices_IndexFunc_Sstring_string_at_chainCode_2.f impl_unless.f
  obtain ⟨r, h1, h2⟩ := findH_l0 hs hh hs.length 0 k (by omega) (by omega)
  obtain ⟨q, g1, g2⟩ := findW_l0 ws hw hb ws.length 0 k (by omega) (by omega)
  rw [show ((0 : Nat) : Int) = 0 from rfl] at h1 g1
  rw [List.drop_zero] at h2 g2
  simp only [h1, g1, Option.bind_some, h2, g2]
  by_cases e1 : habitsOk hs = true <;> by_cases e2 : wordsOk ws = true <;> by_cases e3 : hs.length ≤ 30
  all_goals first
    | (have e4 : (hs.length : Int) ≤ 30 := by omega
       simp [e1, e2, e3, e4])
    | (have e4 : ¬ (hs.length : Int) ≤ 30 := by omega
       simp [e1, e2, e3, e4])
theorem concat2_eq (a b : List ByteArray) (ha : a.length ≤ 1048576) (hb : b.length ≤ 1048576) (k : Nat) (hk : 10 < k) : slices_Concat_Sstring_string.f k [a, b] = some (a ++ b) := by
  obtain ⟨k, rfl⟩ : ∃ m, k = m + 8 := ⟨k - 8, by omega⟩
  have r0 : rd_L5 [a, b] 0 = a := rfl
  have r1 : rd_L5 [a, b] 1 = b := rfl
  have w0 : wrap64 (0 + (a.length : Int)) = a.length := by rw [wrap64_id _ (by omega) (by omega)]; omega
  have w1 : wrap64 ((a.length : Int) + b.length) = (a.length : Int) + b.length := wrap64_id _ (by omega) (by omega)
  have w2 : wrap64 (0 + 1) = 1 := wrap64_id _ (by decide) (by decide)
  have w3 : wrap64 (1 + 1) = 2 := wrap64_id _ (by decide) (by decide)
  have hg : slices_Grow_Sstring_string_at_nil.f ((a.length : Int) + b.length) = some [] := by
    unfold slices_Grow_Sstring_string_at_nil.f
    rw [wrap64_id _ (by omega) (by omega), if_neg (by omega)]
    by_cases h : (a.length : Int) + b.length > 0
    · rw [if_pos h, if_pos (by omega), if_pos (by simp; omega), Option.bind_some, if_pos (by omega)]
      rfl
    · rw [if_neg h]
  unfold slices_Concat_Sstring_string.f
  have hl2 : (([a, b] : List (List ByteArray)).length : Int) = 2 := rfl
  rw [hl2]
  simp only [slices_Concat_Sstring_string.l0, hl2]
  rw [if_pos (by decide), if_pos (by decide), if_pos (by decide), r0, w0, if_neg (by omega), w2, if_pos (by decide), if_pos (by decide), if_pos (by decide), r1, w1, if_neg (by omega), w3, if_neg (by decide), hg, Option.bind_some]
  simp only [slices_Concat_Sstring_string.l1, hl2]
  rw [if_pos (by decide), if_pos (by decide), if_pos (by decide), r0, if_pos (by simp; omega), w2, if_pos (by decide), if_pos (by decide), if_pos (by decide), r1, if_pos (by simp; omega), w3, if_neg (by decide)]
  simp
def codeL (ws : List ByteArray) (hs : List S27) (more : List ByteArray) : Int :=
  if codeH hs (ws ++ more) = 0 then if ws.length ≤ 40 then 0 else 3 else codeH hs (ws ++ more)
theorem listCode_eq (ws : List ByteArray) (hs : List S27) (more : List ByteArray) (hh : hs.length ≤ 1048576) (hw : ws.length ≤ 1048576) (hm : more.length ≤ 1) (hb : ∀ s ∈ ws, s.size ≤ 2097152) (hb2 : ∀ s ∈ more, s.size ≤ 2097152) (k : Nat) (hk : 5242890 < k) : impl_listCode.f k ws hs more = some (codeL ws hs more) := by
  unfold impl_listCode.f codeL impl_unless.f
  rw [concat2_eq ws more hw (by omega) k (by omega), Option.bind_some, chainCode_eq hs (ws ++ more) hh (by rw [List.length_append]; omega) (fun s h => (List.mem_append.1 h).elim (hb s) (hb2 s)) k hk, Option.bind_some]
  by_cases e : codeH hs (ws ++ more) = 0
  · rw [if_pos e, if_pos e]
    by_cases g : ws.length ≤ 40
    · have g' : (ws.length : Int) ≤ 40 := by omega
      simp [g, g']
    · have g' : ¬ (ws.length : Int) ≤ 40 := by omega
      simp [g, g']
  · rw [if_neg e, if_neg e]

def unlF (a b : ByteArray) : Nat → Nat → Int → Int
  | 0, _, n => n
  | d + 1, i, n => unlF a b d (i + 1) (if bt a (i : Int) = bt b (i : Int) then n else wrap64 (n + 1))
def unl (a b : ByteArray) : Int := unlF a b a.size 0 0
theorem l04Unlike_l0 (a b : ByteArray) (hs : a.size ≤ 4611686018427387900) (hb : a.size ≤ b.size) : ∀ (d i k : Nat) (n : Int), i + d = a.size → d < k → spec_l04Unlike.l0 k a b n (i : Int) = some (unlF a b d i n) := by
  intro d
  induction d with
  | zero =>
    intro i k n hi hk
    obtain ⟨k, rfl⟩ : ∃ m, k = m + 1 := ⟨k - 1, by omega⟩
    simp only [spec_l04Unlike.l0]
    rw [if_neg (by omega)]
    rfl
  | succ d ih =>
    intro i k n hi hk
    obtain ⟨k, rfl⟩ : ∃ m, k = m + 1 := ⟨k - 1, by omega⟩
    simp only [spec_l04Unlike.l0, unlF]
    rw [if_pos (by omega), if_pos (by omega), if_pos (by omega), wrap_nat i (by omega)]
    by_cases h : bt a (i : Int) = bt b (i : Int)
    · rw [if_pos h, if_pos h, ih (i + 1) k _ (by omega) (by omega)]
    · rw [if_neg h, if_neg h, ih (i + 1) k _ (by omega) (by omega)]
theorem l04Unlike_eq (a b : ByteArray) (hs : a.size ≤ 4611686018427387900) (hb : a.size ≤ b.size) (k : Nat) (hk : a.size < k) : spec_l04Unlike.f k a b = some (unl a b) := by
  unfold spec_l04Unlike.f unl
  exact l04Unlike_l0 a b hs hb a.size 0 k 0 (by omega) hk
theorem unlike_l0 (a b : ByteArray) (hs : a.size ≤ 4611686018427387900) (hb : a.size ≤ b.size) : ∀ (d i k : Nat) (n : Int), i + d = a.size → d < k → impl_unlike.l0 k a b n (a.size : Int) (i : Int) = some (unlF a b d i n) := by
  intro d
  induction d with
  | zero =>
    intro i k n hi hk
    obtain ⟨k, rfl⟩ : ∃ m, k = m + 1 := ⟨k - 1, by omega⟩
    simp only [impl_unlike.l0]
    rw [if_neg (by omega)]
    rfl
  | succ d ih =>
    intro i k n hi hk
    obtain ⟨k, rfl⟩ : ∃ m, k = m + 1 := ⟨k - 1, by omega⟩
    simp only [impl_unlike.l0, unlF]
    rw [if_pos (by omega), if_pos (by omega), if_pos (by omega), if_pos (by omega), wrap_nat i (by omega)]
    by_cases h : bt a (i : Int) = bt b (i : Int)
    · rw [if_pos h, if_pos h, ih (i + 1) k _ (by omega) (by omega)]
    · rw [if_neg h, if_neg h, ih (i + 1) k _ (by omega) (by omega)]
theorem unlike_eq (a b : ByteArray) (hs : a.size ≤ 4611686018427387900) (hb : a.size ≤ b.size) (k : Nat) (hk : a.size < k) : impl_unlike.f k a b = some (unl a b) := by
  unfold impl_unlike.f unl
  exact unlike_l0 a b hs hb a.size 0 k 0 (by omega) hk

def same0 (z : Nat) (r : List ByteArray) : Bool := r.all (fun w => decide (w.size = z))
def codeV (l : List ByteArray) (a : Int) : Int :=
  if codeA [] l = 0 then (if (l.length : Int) < a then 6 else if same0 (rdOf ByteArray.empty l 0).size l = true then 0 else 4) else codeA [] l
theorem l04Long_l0 (l : List ByteArray) (hl : l.length ≤ 1048576) : ∀ (d i k : Nat), i + d = l.length → 2 * d + 6 < k → spec_l04Long.l0 k l 0 (i : Int) = some (if same0 (rdOf ByteArray.empty l 0).size (l.drop i) = true then 0 else 4) := by
  intro d
  induction d with
  | zero =>
    intro i k hi hk
    obtain ⟨k, rfl⟩ : ∃ m, k = m + 2 := ⟨k - 2, by omega⟩
    simp only [spec_l04Long.l0, spec_l04Long.j3]
    rw [if_neg (by omega), if_neg (by decide), List.drop_eq_nil_of_le (by omega)]
    rfl
  | succ d ih =>
    intro i k hi hk
    obtain ⟨k, rfl⟩ : ∃ m, k = m + 4 := ⟨k - 4, by omega⟩
    simp only [spec_l04Long.l0, spec_l04Long.j3]
    rw [if_pos (by omega), if_pos (by decide), if_pos (by omega), if_pos (by omega), if_pos (by omega), drop_rdS l i (by omega), wrap_nat i (by omega)]
    by_cases g : (rdOf ByteArray.empty l (i : Int)).size = (rdOf ByteArray.empty l 0).size
    · have h := ih (i + 1) (k + 2) (by omega) (by omega)
      rw [if_pos (by omega)]
      refine Eq.trans h ?_
      simp [same0, g]
    · rw [if_neg (by omega)]
      have h4 : ∀ n : Int, (if n < (l.length : Int) then some (4 : Int) else some 4) = some 4 := fun n => by split <;> rfl
      simp [same0, g]
theorem l04Long_eq (l : List ByteArray) (a : Int) (ha : 1 ≤ a) (hl : l.length ≤ 1048576) (hb : ∀ s ∈ l, s.size ≤ 2097152) (k : Nat) (hk : 5242990 < k) : spec_l04Long.f k l a = some (codeV l a) := by
  unfold spec_l04Long.f codeV
  obtain ⟨k, rfl⟩ : ∃ m, k = m + 4 := ⟨k - 4, by omega⟩
  rw [asked_eq [] l (by simp) (by omega) hb _ (by omega), Option.bind_some]
  by_cases h : codeA [] l = 0
  · rw [if_pos h, if_pos h, h]
    by_cases g : (l.length : Int) < a
    · rw [if_pos g, decide_eq_true g]
      simp only [spec_l04Long.j0, spec_l04Long.j1, spec_l04Long.l0, spec_l04Long.j3]
      simp
    · rw [if_neg g, decide_eq_false g]
      simp only [spec_l04Long.j0, spec_l04Long.j1]
      rw [if_neg (by decide)]
      have h1 := l04Long_l0 l hl (l.length - 1) 1 (k + 2) (by omega) (by omega)
      rw [show ((1 : Nat) : Int) = 1 from rfl] at h1
      refine Eq.trans h1 ?_
      have e : same0 (rdOf ByteArray.empty l 0).size l = same0 (rdOf ByteArray.empty l 0).size (l.drop 1) := by
        have h0 := drop_rdS l 0 (by omega)
        rw [List.drop_zero] at h0
        rw [show ((0 : Nat) : Int) = 0 from rfl] at h0
        generalize hz : (rdOf ByteArray.empty l 0).size = z
        conv => lhs; rw [h0]
        simp [same0, hz]
      rw [e]
  · rw [if_neg h, if_neg h]
    simp only [spec_l04Long.j0, spec_l04Long.j1, spec_l04Long.l0, spec_l04Long.j3]
    have hz : (codeA [] l == 0) = false := beq_eq_false_iff_ne.2 h
    simp [hz]
theorem voteFind_l0 (l w : List ByteArray) (hw : 0 < w.length) (hl : l.length ≤ 1048576) : ∀ (d i k : Nat), i + d = l.length → d < k → ∃ r : Int, slices_IndexFunc_Sstring_string_at_voteCode_1.l0 k l (l.length : Int) (i : Int) w = some r ∧ decide (r ≥ 0) = !same0 (rdOf ByteArray.empty w 0).size (l.drop i) := by
  intro d
  induction d with
  | zero =>
    intro i k hi hk
    obtain ⟨k, rfl⟩ : ∃ m, k = m + 1 := ⟨k - 1, by omega⟩
    refine ⟨-1, ?_, ?_⟩
    · simp only [slices_IndexFunc_Sstring_string_at_voteCode_1.l0]
      rw [if_neg (by omega)]
    · rw [List.drop_eq_nil_of_le (by omega)]; simp [same0]
  | succ d ih =>
    intro i k hi hk
    obtain ⟨k, rfl⟩ : ∃ m, k = m + 1 := ⟨k - 1, by omega⟩
    simp only [slices_IndexFunc_Sstring_string_at_voteCode_1.l0, impl_voteCode_1.f]
    rw [if_pos (by omega), if_pos (by omega), if_pos (by omega), if_pos (by omega), Option.bind_some, drop_rdS l i (by omega), wrap_nat i (by omega)]
    by_cases g : (rdOf ByteArray.empty l (i : Int)).size = (rdOf ByteArray.empty w 0).size
    · obtain ⟨r, h1, h2⟩ := ih (i + 1) k (by omega) (by omega)
      refine ⟨r, by rw [if_neg (by simp [g])]; exact h1, ?_⟩
      rw [h2]; simp [same0, g]
    · have g' : ((rdOf ByteArray.empty l (i : Int)).size : Int) ≠ ((rdOf ByteArray.empty w 0).size : Int) := by omega
      refine ⟨(i : Int), by rw [if_pos (bne_iff_ne.2 g')], ?_⟩
      simp only [same0, List.all_cons, decide_eq_false g, Bool.false_and, Bool.not_false]
      exact decide_eq_true (by omega)
theorem codeL_nil (l : List ByteArray) : codeL l [] [] = codeA [] l := by
  unfold codeL codeH codeA
  rw [List.append_nil]
  by_cases a : wordsOk l = true
  · simp [a, habitsOk]
  · simp [a, habitsOk]
theorem voteCode_eq (l : List ByteArray) (a : Int) (ha : 1 ≤ a) (hl : l.length ≤ 1048576) (hb : ∀ s ∈ l, s.size ≤ 2097152) (k : Nat) (hk : 5242990 < k) : impl_voteCode.f k l a = some (codeV l a) := by
  unfold impl_voteCode.f codeV slices_ContainsFunc_Sstring_string_at_voteCode_1.f slices_IndexFunc_Sstring_string_at_voteCode_1.f impl_unless.f
  rw [listCode_eq l [] [] (by simp) hl (by simp) hb (by simp) k (by omega), Option.bind_some, codeL_nil]
  by_cases h : codeA [] l = 0
  · rw [if_pos h, if_pos h]
    by_cases g : (l.length : Int) < a
    · rw [if_pos g, if_pos g]
    · rw [if_neg g, if_neg g]
      obtain ⟨r, h1, h2⟩ := voteFind_l0 l l (by omega) hl l.length 0 k (by omega) (by omega)
      rw [show ((0 : Nat) : Int) = 0 from rfl] at h1
      rw [List.drop_zero] at h2
      simp only [h1, Option.bind_some, h2]
      by_cases e : same0 (rdOf ByteArray.empty l 0).size l = true
      · simp [e]
      · simp [e]
  · rw [if_neg h, if_neg h]
theorem wordsOk_mem (l : List ByteArray) (h : codeA [] l = 0) : ∀ w ∈ l, 1 ≤ w.size ∧ w.size ≤ 12 := by
  intro w hw
  have : wordsOk l = true := by
    unfold codeA at h
    by_cases a : wordsOk l = true
    · exact a
    · simp [a] at h
  exact wordOk_size w (List.all_eq_true.1 this w hw)
theorem codeA_len (l : List ByteArray) (h : codeA [] l = 0) : l.length ≤ 40 := by
  unfold codeA at h
  by_cases a : wordsOk l = true
  · by_cases b : l.length ≤ 40
    · exact b
    · simp [a, habitsOk, b] at h
  · simp [a] at h
theorem codeV_facts (l : List ByteArray) (a : Int) (h : codeV l a = 0) : codeA [] l = 0 ∧ a ≤ (l.length : Int) ∧ (∀ w ∈ l, w.size = (rdOf ByteArray.empty l 0).size) := by
  unfold codeV at h
  by_cases h1 : codeA [] l = 0
  · rw [if_pos h1] at h
    by_cases h2 : (l.length : Int) < a
    · rw [if_pos h2] at h; omega
    · rw [if_neg h2] at h
      by_cases h3 : same0 (rdOf ByteArray.empty l 0).size l = true
      · refine ⟨h1, by omega, fun w hw => ?_⟩
        have := List.all_eq_true.1 h3 w hw
        simpa using this
      · rw [if_neg h3] at h; omega
  · rw [if_neg h1] at h; exact absurd h h1

def mi (m u : Int) : Int := if m < u then m else u
theorem mn_mi (m u : Int) : mn m u = mi m u := by unfold mn mi; split <;> split <;> omega
theorem min_mi (m u : Int) : spec_l00Min.f m u = some (mi m u) := by
  unfold spec_l00Min.f mi
  split <;> rfl
def inF (l : List ByteArray) (i : Nat) : Nat → Nat → Int → Int
  | 0, _, m => m
  | d + 1, j, m => inF l i d (j + 1) (mi m (unl (rdOf ByteArray.empty l (i : Int)) (rdOf ByteArray.empty l (j : Int))))
def outF (l : List ByteArray) : Nat → Nat → Int → Int
  | 0, _, m => m
  | d + 1, i, m => outF l d (i + 1) (inF l i i 0 m)
theorem mem_rdS (l : List ByteArray) (i : Nat) (h : i < l.length) : rdOf ByteArray.empty l (i : Int) ∈ l := by
  rw [rdS_nat, List.getD_eq_getElem?_getD, List.getElem?_eq_getElem h]
  exact List.getElem_mem _
theorem specLU_l1 (l : List ByteArray) (z : Nat) (hz : z ≤ 12) (hw : ∀ w ∈ l, w.size = z) (hl : l.length ≤ 40) (i : Nat) (hi : i < l.length) (B : Nat) (R : Option (Int × Int)) (V : Int) (hR : ∀ k, B ≤ k → spec_LeastUnlike.l0 k l V ((i + 1 : Nat) : Int) = R) :
    ∀ (d j k : Nat) (m : Int), j + d = i → inF l i d j m = V → B + d + 20 < k → spec_LeastUnlike.l1 k l m (i : Int) (j : Int) = R := by
  intro d
  induction d with
  | zero =>
    intro j k m hj hv hk
    obtain ⟨k, rfl⟩ : ∃ m, k = m + 1 := ⟨k - 1, by omega⟩
    have hv' : m = V := hv
    subst hv'
    simp only [spec_LeastUnlike.l1]
    rw [if_neg (by omega), wrap_nat i (by omega)]
    exact hR k (by omega)
  | succ d ih =>
    intro j k m hj hv hk
    obtain ⟨k, rfl⟩ : ∃ m, k = m + 1 := ⟨k - 1, by omega⟩
    have h1 := hw _ (mem_rdS l i hi)
    have h2 := hw _ (mem_rdS l j (by omega))
    simp only [spec_LeastUnlike.l1]
    rw [if_pos (by omega), if_pos (by omega), if_pos (by omega), if_pos (by omega), if_pos (by omega), l04Unlike_eq _ _ (by omega) (by omega) k (by omega), Option.bind_some, min_mi, Option.bind_some, wrap_nat j (by omega)]
    exact ih (j + 1) k _ (by omega) hv (by omega)
theorem specLU_l0 (l : List ByteArray) (z : Nat) (hz : z ≤ 12) (hw : ∀ w ∈ l, w.size = z) (hl : l.length ≤ 40) : ∀ (d i k : Nat) (m : Int), i + d = l.length → 100 * d < k → spec_LeastUnlike.l0 k l m (i : Int) = some (outF l d i m, 0) := by
  intro d
  induction d with
  | zero =>
    intro i k m hi hk
    obtain ⟨k, rfl⟩ : ∃ m, k = m + 1 := ⟨k - 1, by omega⟩
    simp only [spec_LeastUnlike.l0]
    rw [if_neg (by omega)]
    rfl
  | succ d ih =>
    intro i k m hi hk
    obtain ⟨k, rfl⟩ : ∃ m, k = m + 1 := ⟨k - 1, by omega⟩
    simp only [spec_LeastUnlike.l0]
    rw [if_pos (by omega)]
    exact specLU_l1 l z hz hw hl i (by omega) (100 * d + 1) _ _ (fun k hk => ih (i + 1) k _ (by omega) (by omega)) i 0 k m (by omega) rfl (by omega)
theorem rd_take (l : List ByteArray) (i j : Nat) (h : j < i) : rdOf ByteArray.empty (l.take i) (j : Int) = rdOf ByteArray.empty l (j : Int) := by
  rw [rdS_nat, rdS_nat, List.getD_eq_getElem?_getD, List.getD_eq_getElem?_getD, List.getElem?_take, if_pos h]
theorem implLU_l1 (l : List ByteArray) (z : Nat) (hz : z ≤ 12) (hw : ∀ w ∈ l, w.size = z) (hl : l.length ≤ 40) (i : Nat) (hi : i < l.length) (B : Nat) (R : Option (Int × Int)) (V : Int) (hR : ∀ k, B ≤ k → impl_LeastUnlike.l0 k l V l (l.length : Int) ((i + 1 : Nat) : Int) = R) :
    ∀ (d j k : Nat) (m : Int), j + d = i → inF l i d j m = V → B + d + 20 < k → impl_LeastUnlike.l1 k l m (rdOf ByteArray.empty l (i : Int)) l (l.length : Int) (i : Int) (l.take i) ((l.take i).length : Int) (j : Int) = R := by
  intro d
  induction d with
  | zero =>
    intro j k m hj hv hk
    obtain ⟨k, rfl⟩ : ∃ m, k = m + 1 := ⟨k - 1, by omega⟩
    have hv' : m = V := hv
    subst hv'
    simp only [impl_LeastUnlike.l1]
    rw [if_neg (by rw [List.length_take]; omega), wrap_nat i (by omega)]
    exact hR k (by omega)
  | succ d ih =>
    intro j k m hj hv hk
    obtain ⟨k, rfl⟩ : ∃ m, k = m + 1 := ⟨k - 1, by omega⟩
    have h1 := hw _ (mem_rdS l i hi)
    have h2 := hw _ (mem_rdS l j (by omega))
    simp only [impl_LeastUnlike.l1]
    rw [if_pos (by rw [List.length_take]; omega), if_pos (by omega), if_pos (by rw [List.length_take]; omega), rd_take l i j (by omega), unlike_eq _ _ (by omega) (by omega) k (by omega), Option.bind_some, mn_mi, wrap_nat j (by omega)]
    exact ih (j + 1) k _ (by omega) hv (by omega)
theorem implLU_l0 (l : List ByteArray) (z : Nat) (hz : z ≤ 12) (hw : ∀ w ∈ l, w.size = z) (hl : l.length ≤ 40) : ∀ (d i k : Nat) (m : Int), i + d = l.length → 100 * d < k → impl_LeastUnlike.l0 k l m l (l.length : Int) (i : Int) = some (outF l d i m, 0) := by
  intro d
  induction d with
  | zero =>
    intro i k m hi hk
    obtain ⟨k, rfl⟩ : ∃ m, k = m + 1 := ⟨k - 1, by omega⟩
    simp only [impl_LeastUnlike.l0]
    rw [if_neg (by omega)]
    rfl
  | succ d ih =>
    intro i k m hi hk
    obtain ⟨k, rfl⟩ : ∃ m, k = m + 1 := ⟨k - 1, by omega⟩
    simp only [impl_LeastUnlike.l0]
    rw [if_pos (by omega), if_pos (by omega), if_pos (by omega), if_pos (by omega), Int.toNat_natCast]
    exact implLU_l1 l z hz hw hl i (by omega) (100 * d + 1) _ _ (fun k hk => ih (i + 1) k _ (by omega) (by omega)) i 0 k m (by omega) rfl (by omega)
theorem main : laws_FnExactLeastUnlike.Pure := by
  intro l hl
  refine rounds_of 6000000 fun k hk => ?_
  unfold laws_FnExactLeastUnlike.f
  rw [szStringS_eq l 1048576 (by decide) (by decide) hl.1 hl.2 k (by omega), Option.bind_some]
  by_cases hm : (1048576 : Int) < (l.length : Int) + total l
  · rw [if_pos hm, if_pos (by decide)]
  · have hb : ∀ s ∈ l, s.size ≤ 2097152 := fun s hs => by have := total_get l s hs; omega
    rw [if_neg hm, if_neg (by omega), toStringS_eq l (by omega) k (by omega)]
    simp only [Option.bind_some]
    have hM : ∃ v : Int × Int, spec_LeastUnlike.f k l = some v ∧ impl_LeastUnlike.f k l = some v := by
      unfold spec_LeastUnlike.f impl_LeastUnlike.f
      rw [l04Long_eq l 2 (by decide) (by omega) hb k (by omega), voteCode_eq l 2 (by decide) (by omega) hb k (by omega), Option.bind_some, Option.bind_some]
      by_cases h : codeV l 2 = 0
      · obtain ⟨h1, h2, h3⟩ := codeV_facts l 2 h
        have h4 := codeA_len l h1
        have h5 := wordsOk_mem l h1 _ (mem_rdS l 0 (by omega))
        rw [show ((0 : Nat) : Int) = 0 from rfl] at h5
        have e1 := specLU_l0 l _ h5.2 h3 h4 l.length 0 k 12 (by omega) (by omega)
        have e2 := implLU_l0 l _ h5.2 h3 h4 l.length 0 k 12 (by omega) (by omega)
        rw [show ((0 : Nat) : Int) = 0 from rfl] at e1 e2
        rw [if_pos h, if_pos h, e1, e2]
        exact ⟨_, rfl, rfl⟩
      · rw [if_neg h, if_neg h]
        exact ⟨_, rfl, rfl⟩
    obtain ⟨v, e1, e2⟩ := hM
    rw [e1, e2]
    simp only [Option.bind_some]
    rw [if_pos trivial]
    obtain ⟨k, rfl⟩ : ∃ m, k = m + 1 := ⟨k - 1, by omega⟩
    simp only [laws_FnExactLeastUnlike.j0]
    rw [if_neg (by simp), toStringS_eq l (by omega) k (by omega)]
    simp only [Option.bind_some]
    rw [eqStringS_eq l l (by omega) k (by omega)]
    simp

end Go.Proofs.Ythdkgahbccdhpaa.PureFnExactLeastUnlike
namespace Go.Proofs.Ythdkgahbccdhpaa.Pure
theorem FnExactLeastUnlike : Go.Proofs.Ythdkgahbccdhpaa.P.laws_FnExactLeastUnlike.Pure := Go.Proofs.Ythdkgahbccdhpaa.PureFnExactLeastUnlike.main
end Go.Proofs.Ythdkgahbccdhpaa.Pure
