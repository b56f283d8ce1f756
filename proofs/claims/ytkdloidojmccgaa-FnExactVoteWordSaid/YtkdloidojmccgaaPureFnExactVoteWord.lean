/- For every list of words the program's VoteWord returns the reference's word and code and leaves the words as they were; no condition. -/
import Derived.Test.YtkdloidojmccgaaP10
import Derived.Laws.BitsLemmas
namespace Go.Proofs.Ytkdloidojmccgaa.PureFnExactVoteWord
open Go.RowKit Go.Proofs.Ytkdloidojmccgaa.P Go.Proofs.YtkdloidojmccgaaW.PrintWords Go.Proofs.YtkdloidojmccgaaW.PrintLast
set_option linter.unusedSimpArgs false
set_option linter.unusedVariables false

theorem wrap64_id (x : Int) (h0 : -9223372036854775808 ≤ x) (h1 : x ≤ 9223372036854775807) : wrap64 x = x := by unfold wrap64; omega
theorem wrap_nat (n : Nat) (h : n < 4611686018427387904) : wrap64 ((n : Int) + 1) = ((n + 1 : Nat) : Int) := by
  rw [wrap64_id _ (by omega) (by omega)]; omega
theorem rd_nat (l : List Int) (i : Nat) : rd l (i : Int) = l.getD i 0 := by simp [rd]
theorem drop_getD {α : Type} (z : α) (l : List α) (i : Nat) (h : i < l.length) : l.drop i = l.getD i z :: l.drop (i + 1) := by
  rw [List.drop_eq_getElem_cons h, List.getD_eq_getElem?_getD, List.getElem?_eq_getElem h]; rfl
theorem take_getD {α : Type} (z : α) (l : List α) (i : Nat) (h : i < l.length) : l.take (i + 1) = l.take i ++ [l.getD i z] := by
  rw [List.take_succ_eq_append_getElem h, List.getD_eq_getElem?_getD, List.getElem?_eq_getElem h]; rfl
theorem set_rep {α : Type} (a : List α) (i d : Nat) (z v : α) (h : a.length = i) : (a ++ List.replicate (d + 1) z).set i v = (a ++ [v]) ++ List.replicate d z := by
  subst h
  rw [List.set_append_right _ _ (Nat.le_refl _), Nat.sub_self, List.replicate_succ, List.set_cons_zero]
  simp
theorem getD_range_map {α : Type} (z : α) (f : Nat → α) (n i : Nat) (h : i < n) : ((List.range n).map f).getD i z = f i := by
  rw [List.getD_eq_getElem?_getD, List.getElem?_map, List.getElem?_range h]; rfl
theorem rounds_of (B : Nat) {α : Type} {F : Nat → Option α} {v : α} (h : ∀ k, B ≤ k → F k = some v) : ∃ k, F k = some v := ⟨B, h B (Nat.le_refl _)⟩

def letter (c : Int) : Bool := decide (97 ≤ c ∧ c ≤ 122)
theorem l04Letter_eq (c : Int) : spec_l04Letter.f c = some (letter c) := by
  unfold spec_l04Letter.f letter
  by_cases h : 97 ≤ c
  · rw [if_pos (by omega)]; simp [h]
  · rw [if_neg (by omega)]; simp [h]
theorem isLetter_eq (c : Int) : impl_isLetter.f c = some (letter c) := by
  unfold impl_isLetter.f letter
  by_cases h : 97 ≤ c
  · rw [if_pos (by omega)]; simp [h]
  · rw [if_neg (by omega)]; simp [h]
theorem in_eq (a b c : Int) : spec_l00In.f a b c = some (decide (b ≤ a ∧ a ≤ c)) := by
  unfold spec_l00In.f
  by_cases h : b ≤ a
  · rw [if_pos (by omega)]; simp [h]
  · rw [if_neg (by omega)]; simp [h]
theorem within_eq (a b c : Int) : impl_within.f a b c = some (decide (b ≤ a ∧ a ≤ c)) := by
  unfold impl_within.f
  by_cases h : b ≤ a
  · rw [if_pos (by omega)]; simp [h]
  · rw [if_neg (by omega)]; simp [h]
def lettersFrom (s : ByteArray) : Nat → Nat → Bool
  | 0, _ => true
  | d + 1, i => letter (bt s (i : Int)) && lettersFrom s d (i + 1)
def wordOk (s : ByteArray) : Bool := lettersFrom s s.size 0 && decide (1 ≤ (s.size : Int) ∧ (s.size : Int) ≤ 12)
theorem l04Word_l0 (s : ByteArray) (hs : s.size ≤ 4611686018427387900) : ∀ (d i k : Nat), i + d = s.size → d < k → spec_l04Word.l0 k s (i : Int) = some (lettersFrom s d i && decide (1 ≤ (s.size : Int) ∧ (s.size : Int) ≤ 12)) := by
  intro d
  induction d with
  | zero =>
    intro i k hi hk
    obtain ⟨k, rfl⟩ : ∃ m, k = m + 1 := ⟨k - 1, by omega⟩
    simp only [spec_l04Word.l0]
    rw [if_neg (by omega), in_eq]
    simp [lettersFrom]
  | succ d ih =>
    intro i k hi hk
    obtain ⟨k, rfl⟩ : ∃ m, k = m + 1 := ⟨k - 1, by omega⟩
    simp only [spec_l04Word.l0]
    rw [if_pos (by omega), if_pos (by omega), l04Letter_eq, Option.bind_some, wrap_nat i (by omega), ih (i + 1) k (by omega) (by omega)]
    by_cases h : letter (bt s (i : Int)) = true <;> simp [lettersFrom, h]
theorem l04Word_eq (s : ByteArray) (hs : s.size ≤ 4611686018427387900) (k : Nat) (hk : s.size < k) : spec_l04Word.f k s = some (wordOk s) := by
  unfold spec_l04Word.f wordOk
  exact l04Word_l0 s hs s.size 0 k (by omega) hk
theorem isWord_l0 (s : ByteArray) (hs : s.size ≤ 4611686018427387900) : ∀ (d i k : Nat), i + d = s.size → d < k → impl_IsWord.l0 k s (s.size : Int) (i : Int) = some (lettersFrom s d i && decide (1 ≤ (s.size : Int) ∧ (s.size : Int) ≤ 12)) := by
  intro d
  induction d with
  | zero =>
    intro i k hi hk
    obtain ⟨k, rfl⟩ : ∃ m, k = m + 1 := ⟨k - 1, by omega⟩
    simp only [impl_IsWord.l0]
    rw [if_neg (by omega), within_eq]
    simp [lettersFrom]
  | succ d ih =>
    intro i k hi hk
    obtain ⟨k, rfl⟩ : ∃ m, k = m + 1 := ⟨k - 1, by omega⟩
    simp only [impl_IsWord.l0]
    rw [if_pos (by omega), if_pos (by omega), if_pos (by omega), isLetter_eq, Option.bind_some, wrap_nat i (by omega), ih (i + 1) k (by omega) (by omega)]
    by_cases h : letter (bt s (i : Int)) = true <;> simp [lettersFrom, h]
theorem isWord_eq (s : ByteArray) (hs : s.size ≤ 4611686018427387900) (k : Nat) (hk : s.size < k) : impl_IsWord.f k s = some (wordOk s) := by
  unfold impl_IsWord.f wordOk
  exact isWord_l0 s hs s.size 0 k (by omega) hk
theorem wordOk_size (s : ByteArray) (h : wordOk s = true) : 1 ≤ s.size ∧ s.size ≤ 12 := by
  simp only [wordOk, Bool.and_eq_true, decide_eq_true_eq] at h
  omega
def habitOk (t a b : Int) : Bool :=
  if t = 0 ∨ t = 3 then decide (a = 0) && decide (b = 0) else if t = 1 then letter a && letter b && decide (a ≠ b) else if t = 2 ∨ t = 4 then letter a && decide (b = 0) else false
theorem l04Habit_eq (t a b : Int) (k : Nat) (hk : 0 < k) : spec_l04Habit.f k t a b = some (habitOk t a b) := by
  obtain ⟨k, rfl⟩ : ∃ m, k = m + 1 := ⟨k - 1, by omega⟩
  unfold spec_l04Habit.f habitOk
  simp only [spec_l04Habit.j0, l04Letter_eq, Option.bind_some]
  by_cases h0 : t = 0
  · subst h0
    by_cases ha : a = 0 <;> simp [ha] <;> rfl
  · by_cases h3 : t = 3
    · subst h3
      by_cases ha : a = 0 <;> simp [ha] <;> rfl
    · by_cases h1 : t = 1
      · subst h1
        by_cases la : letter a = true <;> by_cases lb : letter b = true <;> simp [la, lb] <;> rfl
      · by_cases h2 : t = 2
        · subst h2
          by_cases la : letter a = true <;> simp [la] <;> rfl
        · by_cases h4 : t = 4
          · subst h4
            by_cases la : letter a = true <;> simp [la] <;> rfl
          · simp [h0, h1, h2, h3, h4]
theorem validHabit_eq (t a b : Int) : impl_ValidHabit.f t a b = some (habitOk t a b) := by
  unfold impl_ValidHabit.f habitOk
  simp only [isLetter_eq, Option.bind_some]
  by_cases h0 : t = 0
  · subst h0
    by_cases ha : a = 0 <;> simp [ha] <;> rfl
  · by_cases h3 : t = 3
    · subst h3
      by_cases ha : a = 0 <;> simp [ha] <;> rfl
    · by_cases h1 : t = 1
      · subst h1
        by_cases la : letter a = true <;> by_cases lb : letter b = true <;> simp [la, lb] <;> rfl
      · by_cases h2 : t = 2
        · subst h2
          by_cases la : letter a = true <;> simp [la] <;> rfl
        · by_cases h4 : t = 4
          · subst h4
            by_cases la : letter a = true <;> simp [la] <;> rfl
          · simp [h0, h1, h2, h3, h4]

theorem rdS_nat (l : List ByteArray) (i : Nat) : rdOf ByteArray.empty l (i : Int) = l.getD i ByteArray.empty := by simp [rdOf]
theorem drop_rdS (l : List ByteArray) (i : Nat) (h : i < l.length) : l.drop i = rdOf ByteArray.empty l (i : Int) :: l.drop (i + 1) := by
  rw [drop_getD ByteArray.empty l i h, rdS_nat]
/-- The letters of all texts. -/
def total : List ByteArray → Nat
  | [] => 0
  | s :: r => s.size + total r
theorem total_nil : total [] = 0 := rfl
theorem total_cons (s : ByteArray) (r : List ByteArray) : total (s :: r) = s.size + total r := rfl
theorem total_get : ∀ (l : List ByteArray) (s : ByteArray), s ∈ l → s.size ≤ total l
  | [], s, h => by simp at h
  | x :: r, s, h => by
    simp only [total]
    rcases List.mem_cons.1 h with e | e
    · rw [e]; omega
    · have := total_get r s e; omega
theorem szStringS_l0 (l : List ByteArray) (hl : l.length ≤ 1048576) (hb : ∀ s ∈ l, s.size ≤ 9223372036854775807) : ∀ (d i k : Nat) (a : Int), i + d = l.length → d < k → 0 ≤ a → a ≤ 1048576 → laws_szStringS.l0 k l a (i : Int) = some (if a < (total (l.drop i) : Int) then -1 else a - total (l.drop i)) := by
  intro d
  induction d with
  | zero =>
    intro i k a hi hk h0 h1
    obtain ⟨k, rfl⟩ : ∃ m, k = m + 1 := ⟨k - 1, by omega⟩
    simp only [laws_szStringS.l0]
    rw [if_neg (by omega), List.drop_eq_nil_of_le (by omega)]
    rw [total_nil, if_neg (by omega)]
    simp
  | succ d ih =>
    intro i k a hi hk h0 h1
    obtain ⟨k, rfl⟩ : ∃ m, k = m + 1 := ⟨k - 1, by omega⟩
    have hm : rdOf ByteArray.empty l (i : Int) ∈ l := by
      rw [rdS_nat, List.getD_eq_getElem?_getD, List.getElem?_eq_getElem (by omega)]
      exact List.getElem_mem _
    have hsz := hb _ hm
    rw [drop_rdS l i (by omega)]
    simp only [laws_szStringS.l0]
    rw [total_cons, if_pos (by omega), if_pos (by omega), wrap64_id _ (by omega) (by omega), wrap_nat i (by omega)]
    by_cases h : a < ((rdOf ByteArray.empty l (i : Int)).size : Int)
    · rw [if_pos (by omega), if_pos (by omega)]
    · rw [if_neg (by omega), ih (i + 1) k _ (by omega) (by omega) (by omega) (by omega)]
      by_cases g : a - ((rdOf ByteArray.empty l (i : Int)).size : Int) < (total (l.drop (i + 1)) : Int)
      · rw [if_pos g, if_pos (by omega)]
      · rw [if_neg g, if_neg (by omega)]
        congr 1
        omega
theorem szStringS_eq (l : List ByteArray) (a : Int) (h0 : 0 ≤ a) (h1 : a ≤ 1048576) (hl : l.length ≤ 9223372036854775807) (hb : ∀ s ∈ l, s.size ≤ 9223372036854775807) (k : Nat) (hk : 1048576 < k) :
    laws_szStringS.f k l a = some (if a < (l.length : Int) + total l then -1 else a - l.length - total l) := by
  unfold laws_szStringS.f
  rw [wrap64_id _ (by omega) (by omega)]
  by_cases h : a < (l.length : Int)
  · rw [if_pos (by omega), if_pos (by omega)]
  · rw [if_neg (by omega)]
    have := szStringS_l0 l (by omega) hb l.length 0 k (a - l.length) (by omega) (by omega) (by omega) (by omega)
    rw [show ((0 : Nat) : Int) = 0 from rfl, List.drop_zero] at this
    rw [this]
    by_cases g : a - (l.length : Int) < (total l : Int)
    · rw [if_pos g, if_pos (by omega)]
    · rw [if_neg g, if_neg (by omega)]
theorem toStringS_l0 (l : List ByteArray) (hl : l.length ≤ 1048576) : ∀ (d i k : Nat), i + d = l.length → d < k → laws_toStringS.l0 k l (l.take i ++ List.replicate d (⟨#[]⟩ : ByteArray)) (i : Int) = some l := by
  intro d
  induction d with
  | zero =>
    intro i k hi hk
    obtain ⟨k, rfl⟩ : ∃ m, k = m + 1 := ⟨k - 1, by omega⟩
    simp only [laws_toStringS.l0]
    rw [if_neg (by omega), List.take_of_length_le (by omega)]
    simp
  | succ d ih =>
    intro i k hi hk
    obtain ⟨k, rfl⟩ : ∃ m, k = m + 1 := ⟨k - 1, by omega⟩
    have hlen : ((l.take i ++ List.replicate (d + 1) (⟨#[]⟩ : ByteArray)).length : Int) = l.length := by simp; omega
    have hstep := set_rep (l.take i) i d (⟨#[]⟩ : ByteArray) (rdOf ByteArray.empty l (i : Int)) (by simp; omega)
    rw [rdS_nat, ← take_getD ByteArray.empty l i (by omega)] at hstep
    simp only [laws_toStringS.l0]
    rw [if_pos (by omega), if_pos (by omega), if_pos (by rw [hlen]; omega), wrap_nat i (by omega), Int.toNat_natCast, rdS_nat, hstep]
    exact ih (i + 1) k (by omega) (by omega)
theorem toStringS_eq (l : List ByteArray) (hl : l.length ≤ 1048576) (k : Nat) (hk : l.length < k) : laws_toStringS.f k l = some l := by
  unfold laws_toStringS.f
  rw [if_pos (by omega), if_pos (by omega)]
  have := toStringS_l0 l hl l.length 0 k (by omega) hk
  simpa using this
theorem toList_inj (a b : ByteArray) : a.toList = b.toList ↔ a = b := by
  constructor
  · intro h
    rw [ByteArray.toList_eq, ByteArray.toList_eq] at h
    have h2 : a.data.toList = b.data.toList := h
    cases a; cases b
    simp at h2
    rw [h2]
  · intro h; rw [h]
theorem eqStringS_l0 (a b : List ByteArray) (hab : a.length = b.length) (hl : a.length ≤ 1048576) : ∀ (d i k : Nat), i + d = a.length → d < k → laws_eqStringS.l0 k a b (i : Int) = some (decide (a.drop i = b.drop i)) := by
  intro d
  induction d with
  | zero =>
    intro i k hi hk
    obtain ⟨k, rfl⟩ : ∃ m, k = m + 1 := ⟨k - 1, by omega⟩
    simp only [laws_eqStringS.l0]
    rw [if_neg (by omega), List.drop_eq_nil_of_le (by omega), List.drop_eq_nil_of_le (by omega)]
    simp
  | succ d ih =>
    intro i k hi hk
    obtain ⟨k, rfl⟩ : ∃ m, k = m + 1 := ⟨k - 1, by omega⟩
    simp only [laws_eqStringS.l0]
    rw [if_pos (by omega), if_pos (by omega), if_pos (by omega), drop_rdS a i (by omega), drop_rdS b i (by omega)]
    by_cases e : rdOf ByteArray.empty a (i : Int) = rdOf ByteArray.empty b (i : Int)
    · rw [if_pos ((toList_inj _ _).2 e), wrap_nat i (by omega), ih (i + 1) k (by omega) (by omega)]
      simp [e]
    · rw [if_neg (fun h => e ((toList_inj _ _).1 h))]
      simp [e]
theorem eqStringS_eq (a b : List ByteArray) (hl : a.length ≤ 1048576) (k : Nat) (hk : a.length < k) : laws_eqStringS.f k a b = some (decide (a = b)) := by
  unfold laws_eqStringS.f
  by_cases h : a.length = b.length
  · rw [if_pos (by omega)]
    have := eqStringS_l0 a b h hl a.length 0 k (by omega) hk
    simpa using this
  · rw [if_neg (by omega)]
    have : a ≠ b := fun e => h (by rw [e])
    simp [this]

def habitsOk (l : List S72) : Bool := l.all (fun h => habitOk h.f0 h.f1 h.f2)
def wordsOk (l : List ByteArray) : Bool := l.all wordOk
theorem drop_hab (l : List S72) (i : Nat) (h : i < l.length) : l.drop i = rd_T72 l (i : Int) :: l.drop (i + 1) := by
  rw [drop_getD z72 l i h]; simp [rd_T72]
def codeA (hs : List S72) (ws : List ByteArray) : Int :=
  if habitsOk hs = true ∧ wordsOk ws = true then if hs.length ≤ 30 then if ws.length ≤ 40 then 0 else 3 else 3 else 1
theorem asked_l1 (hs : List S72) (ws : List ByteArray) (hw : ws.length ≤ 2097152) (hb : ∀ s ∈ ws, s.size ≤ 2097152) : ∀ (d i k : Nat), i + d = ws.length → d + 2097152 < k → spec_l04Asked.l1 k hs ws (i : Int) = some (if wordsOk (ws.drop i) = true then if hs.length ≤ 30 then if ws.length ≤ 40 then 0 else 3 else 3 else 1) := by
  intro d
  induction d with
  | zero =>
    intro i k hi hk
    obtain ⟨k, rfl⟩ : ∃ m, k = m + 1 := ⟨k - 1, by omega⟩
    simp only [spec_l04Asked.l1]
    rw [if_neg (by omega), List.drop_eq_nil_of_le (by omega), show wordsOk [] = true from rfl, if_pos rfl]
    by_cases h1 : hs.length ≤ 30
    · by_cases h2 : ws.length ≤ 40
      · rw [if_neg (by omega), if_neg (by omega), if_pos h1, if_pos h2]
      · rw [if_neg (by omega), if_pos (by omega), if_pos h1, if_neg h2]
    · rw [if_pos (by omega), if_neg h1]
  | succ d ih =>
    intro i k hi hk
    obtain ⟨k, rfl⟩ : ∃ m, k = m + 1 := ⟨k - 1, by omega⟩
    have hm : rdOf ByteArray.empty ws (i : Int) ∈ ws := by
      rw [rdS_nat, List.getD_eq_getElem?_getD, List.getElem?_eq_getElem (by omega)]
      exact List.getElem_mem _
    have hsz := hb _ hm
    simp only [spec_l04Asked.l1]
    rw [if_pos (by omega), if_pos (by omega), l04Word_eq _ (by omega) k (by omega), Option.bind_some, wrap_nat i (by omega), ih (i + 1) k (by omega) (by omega), drop_rdS ws i (by omega)]
    by_cases h : wordOk (rdOf ByteArray.empty ws (i : Int)) = true <;> simp [wordsOk, h]
theorem asked_l0 (hs : List S72) (ws : List ByteArray) (hh : hs.length ≤ 1048576) (hw : ws.length ≤ 2097152) (hb : ∀ s ∈ ws, s.size ≤ 2097152) : ∀ (d i k : Nat), i + d = hs.length → d + 4194310 < k → spec_l04Asked.l0 k hs ws (i : Int) = some (if habitsOk (hs.drop i) = true ∧ wordsOk ws = true then if hs.length ≤ 30 then if ws.length ≤ 40 then 0 else 3 else 3 else 1) := by
  intro d
  induction d with
  | zero =>
    intro i k hi hk
    obtain ⟨k, rfl⟩ : ∃ m, k = m + 1 := ⟨k - 1, by omega⟩
    have h := asked_l1 hs ws hw hb ws.length 0 k (by omega) (by omega)
    rw [show ((0 : Nat) : Int) = 0 from rfl, List.drop_zero] at h
    simp only [spec_l04Asked.l0]
    rw [if_neg (by omega), List.drop_eq_nil_of_le (by omega), h]
    simp [habitsOk]
  | succ d ih =>
    intro i k hi hk
    obtain ⟨k, rfl⟩ : ∃ m, k = m + 1 := ⟨k - 1, by omega⟩
    simp only [spec_l04Asked.l0]
    rw [if_pos (by omega), if_pos (by omega), l04Habit_eq _ _ _ k (by omega), Option.bind_some, wrap_nat i (by omega), ih (i + 1) k (by omega) (by omega), drop_hab hs i (by omega)]
    by_cases h : habitOk (rd_T72 hs (i : Int)).f0 (rd_T72 hs (i : Int)).f1 (rd_T72 hs (i : Int)).f2 = true <;> simp [habitsOk, h]
theorem asked_eq (hs : List S72) (ws : List ByteArray) (hh : hs.length ≤ 1048576) (hw : ws.length ≤ 2097152) (hb : ∀ s ∈ ws, s.size ≤ 2097152) (k : Nat) (hk : 5242890 < k) : spec_l04Asked.f k hs ws = some (codeA hs ws) := by
  unfold spec_l04Asked.f codeA
  have h := asked_l0 hs ws hh hw hb hs.length 0 k (by omega) (by omega)
  rw [show ((0 : Nat) : Int) = 0 from rfl, List.drop_zero] at h
  exact h
theorem findH_l0 (l : List S72) (hl : l.length ≤ 1048576) : ∀ (d i k : Nat), i + d = l.length → d < k → ∃ r : Int, slices_IndexFunc_Habit_at_chainCode_1.l0 k l (l.length : Int) (i : Int) = some r ∧ decide (r ≥ 0) = !habitsOk (l.drop i) := by
  intro d
  induction d with
  | zero =>
    intro i k hi hk
    obtain ⟨k, rfl⟩ : ∃ m, k = m + 1 := ⟨k - 1, by omega⟩
    refine ⟨-1, ?_, ?_⟩
    · simp only [slices_IndexFunc_Habit_at_chainCode_1.l0]
      rw [if_neg (by omega)]
    · rw [List.drop_eq_nil_of_le (by omega)]; simp [habitsOk]
  | succ d ih =>
    intro i k hi hk
    obtain ⟨k, rfl⟩ : ∃ m, k = m + 1 := ⟨k - 1, by omega⟩
    simp only [slices_IndexFunc_Habit_at_chainCode_1.l0, impl_chainCode_1.f]
    rw [if_pos (by omega), if_pos (by omega), if_pos (by omega), validHabit_eq, Option.bind_some, Option.bind_some, drop_hab l i (by omega), wrap_nat i (by omega)]
    by_cases h : habitOk (rd_T72 l (i : Int)).f0 (rd_T72 l (i : Int)).f1 (rd_T72 l (i : Int)).f2 = true
    · obtain ⟨r, h1, h2⟩ := ih (i + 1) k (by omega) (by omega)
      refine ⟨r, by rw [if_neg (by simp [h])]; exact h1, ?_⟩
      rw [h2]; simp [habitsOk, h]
    · refine ⟨(i : Int), by rw [if_pos (by simpa using h)], ?_⟩
      simp only [habitsOk, List.all_cons, Bool.eq_false_iff.2 h, Bool.false_and, Bool.not_false]
      exact decide_eq_true (by omega)
theorem findW_l0 (l : List ByteArray) (hl : l.length ≤ 2097153) (hb : ∀ s ∈ l, s.size ≤ 2097152) : ∀ (d i k : Nat), i + d = l.length → d + 2097152 < k → ∃ r : Int, slices_IndexFunc_Sstring_string_at_chainCode_2.l0 k l (l.length : Int) (i : Int) = some r ∧ decide (r ≥ 0) = !wordsOk (l.drop i) := by
  intro d
  induction d with
  | zero =>
    intro i k hi hk
    obtain ⟨k, rfl⟩ : ∃ m, k = m + 1 := ⟨k - 1, by omega⟩
    refine ⟨-1, ?_, ?_⟩
    · simp only [slices_IndexFunc_Sstring_string_at_chainCode_2.l0]
      rw [if_neg (by omega)]
    · rw [List.drop_eq_nil_of_le (by omega)]; simp [wordsOk]
  | succ d ih =>
    intro i k hi hk
    obtain ⟨k, rfl⟩ : ∃ m, k = m + 1 := ⟨k - 1, by omega⟩
    have hm : rdOf ByteArray.empty l (i : Int) ∈ l := by
      rw [rdS_nat, List.getD_eq_getElem?_getD, List.getElem?_eq_getElem (by omega)]
      exact List.getElem_mem _
    have hsz := hb _ hm
    simp only [slices_IndexFunc_Sstring_string_at_chainCode_2.l0, impl_chainCode_2.f]
    rw [if_pos (by omega), if_pos (by omega), if_pos (by omega), isWord_eq _ (by omega) k (by omega), Option.bind_some, Option.bind_some, drop_rdS l i (by omega), wrap_nat i (by omega)]
    by_cases h : wordOk (rdOf ByteArray.empty l (i : Int)) = true
    · obtain ⟨r, h1, h2⟩ := ih (i + 1) k (by omega) (by omega)
      refine ⟨r, by rw [if_neg (by simp [h])]; exact h1, ?_⟩
      rw [h2]; simp [wordsOk, h]
    · refine ⟨(i : Int), by rw [if_pos (by simpa using h)], ?_⟩
      simp only [wordsOk, List.all_cons, Bool.eq_false_iff.2 h, Bool.false_and, Bool.not_false]
      exact decide_eq_true (by omega)
def codeH (hs : List S72) (ws : List ByteArray) : Int :=
  if habitsOk hs = true ∧ wordsOk ws = true then if hs.length ≤ 30 then 0 else 3 else 1
theorem chainCode_eq (hs : List S72) (ws : List ByteArray) (hh : hs.length ≤ 1048576) (hw : ws.length ≤ 2097153) (hb : ∀ s ∈ ws, s.size ≤ 2097152) (k : Nat) (hk : 5242890 < k) : impl_chainCode.f k hs ws = some (codeH hs ws) := by
  unfold impl_chainCode.f codeH slices_ContainsFunc_Habit_at_chainCode_1.f slices_IndexFunc_Habit_at_chainCode_1.f slices_ContainsFunc_Sstring_string_at_chainCode_2.f slices_IndexFunc_Sstring_string_at_chainCode_2.f impl_unless.f
  obtain ⟨r, h1, h2⟩ := findH_l0 hs hh hs.length 0 k (by omega) (by omega)
  obtain ⟨q, g1, g2⟩ := findW_l0 ws hw hb ws.length 0 k (by omega) (by omega)
  rw [show ((0 : Nat) : Int) = 0 from rfl] at h1 g1
  rw [List.drop_zero] at h2 g2
  simp only [h1, g1, Option.bind_some, h2, g2]
  by_cases e1 : habitsOk hs = true <;> by_cases e2 : wordsOk ws = true <;> by_cases e3 : hs.length ≤ 30
  all_goals first
    | (have e4 : (hs.length : Int) ≤ 30 := by omega
       simp [e1, e2, e3, e4])
    | (have e4 : ¬ (hs.length : Int) ≤ 30 := by omega
       simp [e1, e2, e3, e4])
theorem concat2_eq (a b : List ByteArray) (ha : a.length ≤ 1048576) (hb : b.length ≤ 1048576) (k : Nat) (hk : 10 < k) : slices_Concat_Sstring_string.f k [a, b] = some (a ++ b) := by
  obtain ⟨k, rfl⟩ : ∃ m, k = m + 8 := ⟨k - 8, by omega⟩
  have r0 : rd_L4 [a, b] 0 = a := rfl
  have r1 : rd_L4 [a, b] 1 = b := rfl
  have w0 : wrap64 (0 + (a.length : Int)) = a.length := by rw [wrap64_id _ (by omega) (by omega)]; omega
  have w1 : wrap64 ((a.length : Int) + b.length) = (a.length : Int) + b.length := wrap64_id _ (by omega) (by omega)
  have w2 : wrap64 (0 + 1) = 1 := wrap64_id _ (by decide) (by decide)
  have w3 : wrap64 (1 + 1) = 2 := wrap64_id _ (by decide) (by decide)
  have hg : slices_Grow_Sstring_string_at_nil.f ((a.length : Int) + b.length) = some [] := by
    unfold slices_Grow_Sstring_string_at_nil.f
    rw [wrap64_id _ (by omega) (by omega), if_neg (by omega)]
    by_cases h : (a.length : Int) + b.length > 0
    · rw [if_pos h, if_pos (by omega), if_pos (by simp; omega), Option.bind_some, if_pos (by omega)]
      rfl
    · rw [if_neg h]
  unfold slices_Concat_Sstring_string.f
  have hl2 : (([a, b] : List (List ByteArray)).length : Int) = 2 := rfl
  rw [hl2]
  simp only [slices_Concat_Sstring_string.l0, hl2]
  rw [if_pos (by decide), if_pos (by decide), if_pos (by decide), r0, w0, if_neg (by omega), w2, if_pos (by decide), if_pos (by decide), if_pos (by decide), r1, w1, if_neg (by omega), w3, if_neg (by decide), hg, Option.bind_some]
  simp only [slices_Concat_Sstring_string.l1, hl2]
  rw [if_pos (by decide), if_pos (by decide), if_pos (by decide), r0, if_pos (by simp; omega), w2, if_pos (by decide), if_pos (by decide), if_pos (by decide), r1, if_pos (by simp; omega), w3, if_neg (by decide)]
  simp
def codeL (ws : List ByteArray) (hs : List S72) (more : List ByteArray) : Int :=
  if codeH hs (ws ++ more) = 0 then if ws.length ≤ 40 then 0 else 3 else codeH hs (ws ++ more)
theorem listCode_eq (ws : List ByteArray) (hs : List S72) (more : List ByteArray) (hh : hs.length ≤ 1048576) (hw : ws.length ≤ 1048576) (hm : more.length ≤ 1) (hb : ∀ s ∈ ws, s.size ≤ 2097152) (hb2 : ∀ s ∈ more, s.size ≤ 2097152) (k : Nat) (hk : 5242890 < k) : impl_listCode.f k ws hs more = some (codeL ws hs more) := by
  unfold impl_listCode.f codeL impl_unless.f
  rw [concat2_eq ws more hw (by omega) k (by omega), Option.bind_some, chainCode_eq hs (ws ++ more) hh (by rw [List.length_append]; omega) (fun s h => (List.mem_append.1 h).elim (hb s) (hb2 s)) k hk, Option.bind_some]
  by_cases e : codeH hs (ws ++ more) = 0
  · rw [if_pos e, if_pos e]
    by_cases g : ws.length ≤ 40
    · have g' : (ws.length : Int) ≤ 40 := by omega
      simp [g, g']
    · have g' : ¬ (ws.length : Int) ≤ 40 := by omega
      simp [g, g']
  · rw [if_neg e, if_neg e]

def same0 (z : Nat) (r : List ByteArray) : Bool := r.all (fun w => decide (w.size = z))
def codeV (l : List ByteArray) (a : Int) : Int :=
  if codeA [] l = 0 then (if (l.length : Int) < a then 6 else if same0 (rdOf ByteArray.empty l 0).size l = true then 0 else 4) else codeA [] l
theorem l04Long_l0 (l : List ByteArray) (hl : l.length ≤ 1048576) : ∀ (d i k : Nat), i + d = l.length → 2 * d + 6 < k → spec_l04Long.l0 k l 0 (i : Int) = some (if same0 (rdOf ByteArray.empty l 0).size (l.drop i) = true then 0 else 4) := by
  intro d
  induction d with
  | zero =>
    intro i k hi hk
    obtain ⟨k, rfl⟩ : ∃ m, k = m + 2 := ⟨k - 2, by omega⟩
    simp only [spec_l04Long.l0, spec_l04Long.j3]
    rw [if_neg (by omega), if_neg (by decide), List.drop_eq_nil_of_le (by omega)]
    rfl
  | succ d ih =>
    intro i k hi hk
    obtain ⟨k, rfl⟩ : ∃ m, k = m + 4 := ⟨k - 4, by omega⟩
    simp only [spec_l04Long.l0, spec_l04Long.j3]
    rw [if_pos (by omega), if_pos (by decide), if_pos (by omega), if_pos (by omega), if_pos (by omega), drop_rdS l i (by omega), wrap_nat i (by omega)]
    by_cases g : (rdOf ByteArray.empty l (i : Int)).size = (rdOf ByteArray.empty l 0).size
    · have h := ih (i + 1) (k + 2) (by omega) (by omega)
      rw [if_pos (by omega)]
      refine Eq.trans h ?_
      simp [same0, g]
    · rw [if_neg (by omega)]
      have h4 : ∀ n : Int, (if n < (l.length : Int) then some (4 : Int) else some 4) = some 4 := fun n => by split <;> rfl
      simp [same0, g]
theorem l04Long_eq (l : List ByteArray) (a : Int) (ha : 1 ≤ a) (hl : l.length ≤ 1048576) (hb : ∀ s ∈ l, s.size ≤ 2097152) (k : Nat) (hk : 5242990 < k) : spec_l04Long.f k l a = some (codeV l a) := by
  unfold spec_l04Long.f codeV
  obtain ⟨k, rfl⟩ : ∃ m, k = m + 4 := ⟨k - 4, by omega⟩
  rw [asked_eq [] l (by simp) (by omega) hb _ (by omega), Option.bind_some]
  by_cases h : codeA [] l = 0
  · rw [if_pos h, if_pos h, h]
    by_cases g : (l.length : Int) < a
    · rw [if_pos g, decide_eq_true g]
      simp only [spec_l04Long.j0, spec_l04Long.j1, spec_l04Long.l0, spec_l04Long.j3]
      simp
    · rw [if_neg g, decide_eq_false g]
      simp only [spec_l04Long.j0, spec_l04Long.j1]
      rw [if_neg (by decide)]
      have h1 := l04Long_l0 l hl (l.length - 1) 1 (k + 2) (by omega) (by omega)
      rw [show ((1 : Nat) : Int) = 1 from rfl] at h1
      refine Eq.trans h1 ?_
      have e : same0 (rdOf ByteArray.empty l 0).size l = same0 (rdOf ByteArray.empty l 0).size (l.drop 1) := by
        have h0 := drop_rdS l 0 (by omega)
        rw [List.drop_zero] at h0
        rw [show ((0 : Nat) : Int) = 0 from rfl] at h0
        generalize hz : (rdOf ByteArray.empty l 0).size = z
        conv => lhs; rw [h0]
        simp [same0, hz]
      rw [e]
  · rw [if_neg h, if_neg h]
    simp only [spec_l04Long.j0, spec_l04Long.j1, spec_l04Long.l0, spec_l04Long.j3]
    have hz : (codeA [] l == 0) = false := beq_eq_false_iff_ne.2 h
    simp [hz]
theorem voteFind_l0 (l w : List ByteArray) (hw : 0 < w.length) (hl : l.length ≤ 1048576) : ∀ (d i k : Nat), i + d = l.length → d < k → ∃ r : Int, slices_IndexFunc_Sstring_string_at_voteCode_1.l0 k l (l.length : Int) (i : Int) w = some r ∧ decide (r ≥ 0) = !same0 (rdOf ByteArray.empty w 0).size (l.drop i) := by
  intro d
  induction d with
  | zero =>
    intro i k hi hk
    obtain ⟨k, rfl⟩ : ∃ m, k = m + 1 := ⟨k - 1, by omega⟩
    refine ⟨-1, ?_, ?_⟩
    · simp only [slices_IndexFunc_Sstring_string_at_voteCode_1.l0]
      rw [if_neg (by omega)]
    · rw [List.drop_eq_nil_of_le (by omega)]; simp [same0]
  | succ d ih =>
    intro i k hi hk
    obtain ⟨k, rfl⟩ : ∃ m, k = m + 1 := ⟨k - 1, by omega⟩
    simp only [slices_IndexFunc_Sstring_string_at_voteCode_1.l0, impl_voteCode_1.f]
    rw [if_pos (by omega), if_pos (by omega), if_pos (by omega), if_pos (by omega), Option.bind_some, drop_rdS l i (by omega), wrap_nat i (by omega)]
    by_cases g : (rdOf ByteArray.empty l (i : Int)).size = (rdOf ByteArray.empty w 0).size
    · obtain ⟨r, h1, h2⟩ := ih (i + 1) k (by omega) (by omega)
      refine ⟨r, by rw [if_neg (by simp [g])]; exact h1, ?_⟩
      rw [h2]; simp [same0, g]
    · have g' : ((rdOf ByteArray.empty l (i : Int)).size : Int) ≠ ((rdOf ByteArray.empty w 0).size : Int) := by omega
      refine ⟨(i : Int), by rw [if_pos (bne_iff_ne.2 g')], ?_⟩
      simp only [same0, List.all_cons, decide_eq_false g, Bool.false_and, Bool.not_false]
      exact decide_eq_true (by omega)
theorem codeL_nil (l : List ByteArray) : codeL l [] [] = codeA [] l := by
  unfold codeL codeH codeA
  rw [List.append_nil]
  by_cases a : wordsOk l = true
  · simp [a, habitsOk]
  · simp [a, habitsOk]
theorem voteCode_eq (l : List ByteArray) (a : Int) (ha : 1 ≤ a) (hl : l.length ≤ 1048576) (hb : ∀ s ∈ l, s.size ≤ 2097152) (k : Nat) (hk : 5242990 < k) : impl_voteCode.f k l a = some (codeV l a) := by
  unfold impl_voteCode.f codeV slices_ContainsFunc_Sstring_string_at_voteCode_1.f slices_IndexFunc_Sstring_string_at_voteCode_1.f impl_unless.f
  rw [listCode_eq l [] [] (by simp) hl (by simp) hb (by simp) k (by omega), Option.bind_some, codeL_nil]
  by_cases h : codeA [] l = 0
  · rw [if_pos h, if_pos h]
    by_cases g : (l.length : Int) < a
    · rw [if_pos g, if_pos g]
    · rw [if_neg g, if_neg g]
      obtain ⟨r, h1, h2⟩ := voteFind_l0 l l (by omega) hl l.length 0 k (by omega) (by omega)
      rw [show ((0 : Nat) : Int) = 0 from rfl] at h1
      rw [List.drop_zero] at h2
      simp only [h1, Option.bind_some, h2]
      by_cases e : same0 (rdOf ByteArray.empty l 0).size l = true
      · simp [e]
      · simp [e]
  · rw [if_neg h, if_neg h]
theorem wordsOk_mem (l : List ByteArray) (h : codeA [] l = 0) : ∀ w ∈ l, 1 ≤ w.size ∧ w.size ≤ 12 := by
  intro w hw
  have : wordsOk l = true := by
    unfold codeA at h
    by_cases a : wordsOk l = true
    · exact a
    · simp [a] at h
  exact wordOk_size w (List.all_eq_true.1 this w hw)
theorem codeA_len (l : List ByteArray) (h : codeA [] l = 0) : l.length ≤ 40 := by
  unfold codeA at h
  by_cases a : wordsOk l = true
  · by_cases b : l.length ≤ 40
    · exact b
    · simp [a, habitsOk, b] at h
  · simp [a] at h
theorem codeV_facts (l : List ByteArray) (a : Int) (h : codeV l a = 0) : codeA [] l = 0 ∧ a ≤ (l.length : Int) ∧ (∀ w ∈ l, w.size = (rdOf ByteArray.empty l 0).size) := by
  unfold codeV at h
  by_cases h1 : codeA [] l = 0
  · rw [if_pos h1] at h
    by_cases h2 : (l.length : Int) < a
    · rw [if_pos h2] at h; omega
    · rw [if_neg h2] at h
      by_cases h3 : same0 (rdOf ByteArray.empty l 0).size l = true
      · refine ⟨h1, by omega, fun w hw => ?_⟩
        have := List.all_eq_true.1 h3 w hw
        simpa using this
      · rw [if_neg h3] at h; omega
  · rw [if_neg h1] at h; exact absurd h h1

theorem mem_rdV (l : List ByteArray) (i : Nat) (h : i < l.length) : rdOf ByteArray.empty l (i : Int) ∈ l := by
  rw [rdS_nat, List.getD_eq_getElem?_getD, List.getElem?_eq_getElem h]
  exact List.getElem_mem _
/-- b is the first place of the greatest of the first n numbers. -/
def FM (n : Nat) (v : Nat → Int) (b : Nat) : Prop := b < n ∧ (∀ j, j < n → v j ≤ v b) ∧ ∀ j, j < b → v j < v b
theorem FM_unique {n : Nat} {v : Nat → Int} {b b' : Nat} (h : FM n v b) (h' : FM n v b') : b = b' := by
  obtain ⟨h1, h2, h3⟩ := h
  obtain ⟨g1, g2, g3⟩ := h'
  rcases Nat.lt_trichotomy b b' with q | q | q
  · have a := g3 b q; have c := h2 b' g1; omega
  · exact q
  · have a := h3 b' q; have c := g2 b h1; omega
theorem maxV_l0 (l : List Int) (hl : l.length ≤ 1048576) : ∀ (d i : Nat) (m : Int), i + d = l.length → (∀ j, j < i → rd l (j : Int) ≤ m) → (∃ j, j < i ∧ rd l (j : Int) = m) → ∃ r, (∀ k, d < k → slices_Max_Sint_int.l0 k l m (i : Int) = some r) ∧ (∀ j, j < l.length → rd l (j : Int) ≤ r) ∧ ∃ j, j < l.length ∧ rd l (j : Int) = r := by
  intro d
  induction d with
  | zero =>
    intro i m hi h1 h2
    obtain rfl : i = l.length := by omega
    refine ⟨m, fun k hk => ?_, h1, h2⟩
    obtain ⟨k, rfl⟩ : ∃ m, k = m + 1 := ⟨k - 1, by omega⟩
    simp only [slices_Max_Sint_int.l0]
    rw [if_neg (by omega)]
  | succ d ih =>
    intro i m hi h1 h2
    have hm : mx m (rd l (i : Int)) = if m < rd l (i : Int) then rd l (i : Int) else m := rfl
    obtain ⟨r, a, b⟩ := ih (i + 1) (mx m (rd l (i : Int))) (by omega) (fun j hj => by
      rw [hm]
      by_cases e : j = i
      · subst e; split <;> omega
      · have := h1 j (by omega); split <;> omega) (by
      rw [hm]
      split
      · exact ⟨i, by omega, rfl⟩
      · obtain ⟨j, h3, h4⟩ := h2; exact ⟨j, by omega, h4⟩)
    refine ⟨r, fun k hk => ?_, b⟩
    obtain ⟨k, rfl⟩ : ∃ m, k = m + 1 := ⟨k - 1, by omega⟩
    simp only [slices_Max_Sint_int.l0]
    rw [if_pos (by omega), if_pos (by omega), wrap_nat i (by omega)]
    exact a k (by omega)
theorem indexV_l0 (l : List Int) (hl : l.length ≤ 1048576) (m : Int) : ∀ (d i : Nat), i + d = l.length → (∀ j, j < i → rd l (j : Int) ≠ m) → (∃ j, j < l.length ∧ rd l (j : Int) = m) → ∃ b : Nat, (∀ k, d < k → slices_Index_Sint_int.l0 k l m (l.length : Int) (i : Int) = some (b : Int)) ∧ b < l.length ∧ rd l (b : Int) = m ∧ ∀ j, j < b → rd l (j : Int) ≠ m := by
  intro d
  induction d with
  | zero =>
    intro i hi h1 h2
    obtain ⟨j, h3, h4⟩ := h2
    exact absurd h4 (h1 j (by omega))
  | succ d ih =>
    intro i hi h1 h2
    by_cases e : m = rd l (i : Int)
    · refine ⟨i, fun k hk => ?_, by omega, e.symm, h1⟩
      obtain ⟨k, rfl⟩ : ∃ m, k = m + 1 := ⟨k - 1, by omega⟩
      simp only [slices_Index_Sint_int.l0]
      rw [if_pos (by omega), if_pos (by omega), if_pos (by omega), if_pos e]
    · obtain ⟨b, a, c⟩ := ih (i + 1) (by omega) (fun j hj => by
        by_cases q : j = i
        · subst q; exact fun z => e z.symm
        · exact h1 j (by omega)) h2
      refine ⟨b, fun k hk => ?_, c⟩
      obtain ⟨k, rfl⟩ : ∃ m, k = m + 1 := ⟨k - 1, by omega⟩
      simp only [slices_Index_Sint_int.l0]
      rw [if_pos (by omega), if_pos (by omega), if_pos (by omega), if_neg e, wrap_nat i (by omega)]
      exact a k (by omega)
theorem rd_votes (l : List ByteArray) (i j : Nat) (h : j < 26) : rd (Go.Proofs.Ytkdloidojmccgaa.H.votesL l i) (j : Int) = Go.Proofs.Ytkdloidojmccgaa.H.cntV l i j := by
  unfold Go.Proofs.Ytkdloidojmccgaa.H.votesL
  rw [rd_nat, getD_range_map 0 _ 26 j h]
theorem votesL_len (l : List ByteArray) (i : Nat) : (Go.Proofs.Ytkdloidojmccgaa.H.votesL l i).length = 26 := by simp [Go.Proofs.Ytkdloidojmccgaa.H.votesL]
/-- The program's own choice of a letter. -/
theorem implBest (l : List ByteArray) (i : Nat) : ∃ (m : Int) (b : Nat), FM 26 (Go.Proofs.Ytkdloidojmccgaa.H.cntV l i) b ∧ ∀ k, 30 < k → slices_Max_Sint_int.f k (Go.Proofs.Ytkdloidojmccgaa.H.votesL l i) = some m ∧ slices_Index_Sint_int.f k (Go.Proofs.Ytkdloidojmccgaa.H.votesL l i) m = some (b : Int) := by
  have hlen := votesL_len l i
  obtain ⟨m, h1, h2, h3⟩ := maxV_l0 (Go.Proofs.Ytkdloidojmccgaa.H.votesL l i) (by omega) 25 1 (rd (Go.Proofs.Ytkdloidojmccgaa.H.votesL l i) 0) (by omega) (fun j hj => by
    obtain rfl : j = 0 := by omega
    exact Int.le_refl _) ⟨0, by omega, rfl⟩
  obtain ⟨b, g1, g2, g3, g4⟩ := indexV_l0 (Go.Proofs.Ytkdloidojmccgaa.H.votesL l i) (by omega) m 26 0 (by omega) (fun j hj => by omega) h3
  rw [hlen] at h2 g2
  refine ⟨m, b, ⟨g2, fun j hj => ?_, fun j hj => ?_⟩, fun k hk => ⟨?_, ?_⟩⟩
  · rw [← rd_votes l i j hj, ← rd_votes l i b g2, g3]; exact h2 j hj
  · have a := h2 j (by omega)
    have c := g4 j hj
    rw [← rd_votes l i j (by omega), ← rd_votes l i b g2, g3]
    omega
  · unfold slices_Max_Sint_int.f
    rw [if_neg (by omega), if_pos (by omega)]
    exact h1 k (by omega)
  · unfold slices_Index_Sint_int.f
    exact g1 k (by omega)
theorem vote_l2 (l : List ByteArray) (hl : l.length ≤ 1048576) (i : Nat) (hi : ∀ j, j < l.length → i < (rdOf ByteArray.empty l (j : Int)).size) (xs : List Int) (c : Nat) (hc : c < 26) (best most : Int) (B : Nat) (R : Option (ByteArray × Int))
    (hR : ∀ k, B ≤ k → (if Go.Proofs.Ytkdloidojmccgaa.H.cntV l i c > most then spec_VoteWord.l1 k l xs (i : Int) (97 + (c : Int)) (Go.Proofs.Ytkdloidojmccgaa.H.cntV l i c) (97 + ((c + 1 : Nat) : Int)) else spec_VoteWord.l1 k l xs (i : Int) best most (97 + ((c + 1 : Nat) : Int))) = R) :
    ∀ (d j k : Nat), j + d = l.length → B + d < k → spec_VoteWord.l2 k l xs (i : Int) best most (97 + (c : Int)) (Go.Proofs.Ytkdloidojmccgaa.H.cntV (l.take j) i c) (j : Int) = R := by
  intro d
  induction d with
  | zero =>
    intro j k hj hk
    obtain ⟨k, rfl⟩ : ∃ m, k = m + 1 := ⟨k - 1, by omega⟩
    obtain rfl : j = l.length := by omega
    simp only [spec_VoteWord.l2]
    rw [if_neg (by omega), List.take_length, show (97 + (c : Int) + 1) % 256 = 97 + ((c + 1 : Nat) : Int) by omega]
    exact hR k (by omega)
  | succ d ih =>
    intro j k hj hk
    obtain ⟨k, rfl⟩ : ∃ m, k = m + 1 := ⟨k - 1, by omega⟩
    have h2 := hi j (by omega)
    have h3 := ih (j + 1) k (by omega) (by omega)
    have h4 := Go.Proofs.Ytkdloidojmccgaa.H.cntV_step l i j c (by omega)
    have h5 := Go.Proofs.Ytkdloidojmccgaa.H.cntV_nonneg (l.take j) i c
    have h6 := Go.Proofs.Ytkdloidojmccgaa.H.cntV_le (l.take j) i c
    have h7 : (l.take j).length ≤ l.length := by rw [List.length_take]; omega
    simp only [spec_VoteWord.l2]
    rw [if_pos (by omega), if_pos (by omega), if_pos (by omega), if_pos (by omega), wrap_nat j (by omega)]
    by_cases e : bt (rdOf ByteArray.empty l (j : Int)) (i : Int) = 97 + (c : Int)
    · rw [if_pos e] at h4
      rw [if_pos e, wrap64_id _ (by omega) (by omega), ← h4]
      exact h3
    · rw [if_neg e, Int.add_zero] at h4
      rw [if_neg e, ← h4]
      exact h3
theorem vote_l1 (l : List ByteArray) (hl : l.length ≤ 1048576) (i : Nat) (hi : ∀ j, j < l.length → i < (rdOf ByteArray.empty l (j : Int)).size) (xs : List Int) (hxs : xs.length ≤ 1048576) (hin : i ≤ 1048576) (bF : Nat) (hF : FM 26 (Go.Proofs.Ytkdloidojmccgaa.H.cntV l i) bF) (B : Nat) (R : Option (ByteArray × Int))
    (hR : ∀ k, B ≤ k → spec_VoteWord.l0 k l (xs ++ [97 + (bF : Int)]) ((i + 1 : Nat) : Int) = R) :
    ∀ (d c k b : Nat) (most : Int), c + d = 26 → b < 26 → (c = 0 → b = 0) → 0 ≤ most → (∀ j, j < c → Go.Proofs.Ytkdloidojmccgaa.H.cntV l i j ≤ most) → (∀ j, j < b → Go.Proofs.Ytkdloidojmccgaa.H.cntV l i j < most) → (0 < c → Go.Proofs.Ytkdloidojmccgaa.H.cntV l i b = most) → (c = 0 → most = 0) → B + d * (l.length + 2) < k → spec_VoteWord.l1 k l xs (i : Int) (97 + (b : Int)) most (97 + (c : Int)) = R := by
  intro d
  induction d with
  | zero =>
    intro c k b most hc hb h0 hm h1 h2 h3 h4 hk
    obtain ⟨k, rfl⟩ : ∃ m, k = m + 1 := ⟨k - 1, by omega⟩
    obtain rfl : c = 26 := by omega
    have e := h3 (by omega)
    have hb' : FM 26 (Go.Proofs.Ytkdloidojmccgaa.H.cntV l i) b := ⟨hb, fun j hj => by rw [e]; exact h1 j hj, fun j hj => by rw [e]; exact h2 j hj⟩
    obtain rfl := FM_unique hb' hF
    simp only [spec_VoteWord.l1]
    rw [if_neg (by omega), if_pos (by omega), wrap_nat i (by omega)]
    exact hR k (by omega)
  | succ d ih =>
    intro c k b most hc hb h0 hm h1 h2 h3 h4 hk
    obtain ⟨k, rfl⟩ : ∃ m, k = m + 1 := ⟨k - 1, by omega⟩
    have hmul : (d + 1) * (l.length + 2) = d * (l.length + 2) + (l.length + 2) := Nat.succ_mul _ _
    simp only [spec_VoteWord.l1]
    rw [if_pos (by omega)]
    have hnn := Go.Proofs.Ytkdloidojmccgaa.H.cntV_nonneg l i c
    have h := vote_l2 l hl i hi xs c (by omega) (97 + (b : Int)) most (B + d * (l.length + 2) + 1) R (fun k hk => by
      by_cases e : Go.Proofs.Ytkdloidojmccgaa.H.cntV l i c > most
      · rw [if_pos e]
        refine ih (c + 1) k c _ (by omega) (by omega) (by omega) hnn (fun j hj => ?_) (fun j hj => ?_) (fun _ => rfl) (by omega) (by omega)
        · by_cases q : j = c
          · subst q; exact Int.le_refl _
          · have := h1 j (by omega); omega
        · have := h1 j hj; omega
      · rw [if_neg e]
        refine ih (c + 1) k b most (by omega) hb (by omega) hm (fun j hj => ?_) h2 (fun _ => ?_) (by omega) (by omega)
        · by_cases q : j = c
          · subst q; omega
          · exact h1 j (by omega)
        · by_cases q : c = 0
          · have a := h0 q
            have z := h4 q
            subst q
            subst a
            omega
          · exact h3 (by omega)) l.length 0 k (by omega) (by omega)
    rw [List.take_zero] at h
    exact h
theorem vote_l0 (l : List ByteArray) (h1 : 1 ≤ l.length) (hl : l.length ≤ 1048576) (n : Nat) (hn : n = (rdOf ByteArray.empty l 0).size) (hn12 : n ≤ 1000) (hw : ∀ j, j < l.length → (rdOf ByteArray.empty l (j : Int)).size = n) (K : Nat) (hK : 30 < K) : ∀ (d i : Nat) (xs : List Int), i + d = n → xs.length = i →
    ∃ res, Go.Proofs.Ytkdloidojmccgaa.H.voteF (slices_Max_Sint_int.f K) (slices_Max_Sint_int.f K) (slices_Index_Sint_int.f K) l d i xs = some res ∧ ∀ k, d * (26 * (l.length + 2) + 10) < k → spec_VoteWord.l0 k l xs (i : Int) = some (strOfNums res, 0) := by
  intro d
  induction d with
  | zero =>
    intro i xs hi hx
    refine ⟨xs, rfl, fun k hk => ?_⟩
    obtain ⟨k, rfl⟩ : ∃ m, k = m + 1 := ⟨k - 1, by omega⟩
    simp only [spec_VoteWord.l0]
    rw [if_pos (by omega), if_neg (by omega)]
  | succ d ih =>
    intro i xs hi hx
    obtain ⟨m, b, hF, hk1⟩ := implBest l i
    obtain ⟨e1, e2⟩ := hk1 K hK
    have hb : b < 26 := hF.1
    obtain ⟨res, g1, g2⟩ := ih (i + 1) (xs ++ [97 + (b : Int)]) (by omega) (by simp [hx])
    refine ⟨res, ?_, fun k hk => ?_⟩
    · simp only [Go.Proofs.Ytkdloidojmccgaa.H.voteF]
      rw [e1, Option.bind_some, e2, Option.bind_some, if_pos (by omega)]
      exact g1
    · obtain ⟨k, rfl⟩ : ∃ m, k = m + 1 := ⟨k - 1, by omega⟩
      have hmul : (d + 1) * (26 * (l.length + 2) + 10) = d * (26 * (l.length + 2) + 10) + (26 * (l.length + 2) + 10) := Nat.succ_mul _ _
      simp only [spec_VoteWord.l0]
      rw [if_pos (by omega), if_pos (by omega)]
      have h := vote_l1 l hl i (fun j hj => by rw [hw j hj]; omega) xs (by omega) (by omega) b hF (d * (26 * (l.length + 2) + 10) + 1) _ (fun k hk => g2 k (by omega)) 26 0 k 0 0 (by omega) (by omega) (fun _ => rfl) (by omega) (fun j hj => by omega) (fun j hj => by omega) (by omega) (fun _ => rfl) (by omega)
      exact h
theorem lettersFrom_at (s : ByteArray) : ∀ (d i : Nat), lettersFrom s d i = true → ∀ j, i ≤ j → j < i + d → 97 ≤ bt s (j : Int) ∧ bt s (j : Int) ≤ 122 := by
  intro d
  induction d with
  | zero => intro i h j h1 h2; omega
  | succ d ih =>
    intro i h j h1 h2
    simp only [lettersFrom, Bool.and_eq_true] at h
    by_cases e : j = i
    · subst e
      have := h.1
      simpa [letter] using this
    · exact ih (i + 1) h.2 j (by omega) (by omega)
theorem voteOk_of (l : List ByteArray) (h : codeV l 1 = 0) : Go.Proofs.Ytkdloidojmccgaa.H.voteOk l = true := by
  obtain ⟨h1, h2, h3⟩ := codeV_facts l 1 h
  have hok : wordsOk l = true := by
    unfold codeA at h1
    by_cases a : wordsOk l = true
    · exact a
    · simp [a] at h1
  unfold Go.Proofs.Ytkdloidojmccgaa.H.voteOk
  rw [List.all_eq_true]
  intro s hs
  rw [Bool.and_eq_true, decide_eq_true_iff]
  refine ⟨h3 s hs, ?_⟩
  rw [List.all_eq_true]
  intro i hi
  have hi' := List.mem_range.1 hi
  have hw : wordOk s = true := List.all_eq_true.1 hok s hs
  unfold wordOk at hw
  rw [Bool.and_eq_true] at hw
  have := lettersFrom_at s s.size 0 hw.1 i (by omega) (by omega)
  rw [Bool.and_eq_true, decide_eq_true_iff, decide_eq_true_iff]
  exact this
theorem voteWord_both (l : List ByteArray) (hl : l.length ≤ 1048576) (hb : ∀ s ∈ l, s.size ≤ 2097152) (k : Nat) (hk : 6000000 ≤ k) : ∃ v : ByteArray × Int, spec_VoteWord.f k l = some v ∧ impl_VoteWord.f k l = some v := by
  unfold spec_VoteWord.f impl_VoteWord.f
  rw [l04Long_eq l 1 (by decide) (by omega) hb k (by omega), voteCode_eq l 1 (by decide) (by omega) hb k (by omega), Option.bind_some, Option.bind_some]
  by_cases h : codeV l 1 = 0
  · obtain ⟨h1, h2, h3⟩ := codeV_facts l 1 h
    have h4 := codeA_len l h1
    have h5 := wordsOk_mem l h1 _ (mem_rdV l 0 (by omega))
    rw [show ((0 : Nat) : Int) = 0 from rfl] at h5
    obtain ⟨res, g1, g2⟩ := vote_l0 l (by omega) (by omega) _ rfl (by omega) (fun j hj => h3 _ (mem_rdV l j hj)) k (by omega) (rdOf ByteArray.empty l 0).size 0 [] (by omega) rfl
    have hlt : (rdOf ByteArray.empty l 0).size * (26 * (l.length + 2) + 10) ≤ 12 * (26 * 42 + 10) := Nat.mul_le_mul h5.2 (by omega)
    have g3 := g2 k (by omega)
    rw [show ((0 : Nat) : Int) = 0 from rfl] at g3
    rw [if_pos h, if_pos h, if_pos (by omega), if_pos (by omega), if_pos (by omega), if_pos (voteOk_of l h), g1, g3]
    exact ⟨_, rfl, rfl⟩
  · rw [if_neg h, if_neg h]
    exact ⟨_, rfl, rfl⟩

theorem main : laws_FnExactVoteWord.Pure := by
  intro l hl
  refine rounds_of 6000000 fun k hk => ?_
  unfold laws_FnExactVoteWord.f
  rw [szStringS_eq l 1048576 (by decide) (by decide) hl.1 hl.2 k (by omega), Option.bind_some]
  by_cases hm : (1048576 : Int) < (l.length : Int) + total l
  · rw [if_pos hm, if_pos (by decide)]
  · have hb : ∀ s ∈ l, s.size ≤ 2097152 := fun s hs => by have := total_get l s hs; omega
    rw [if_neg hm, if_neg (by omega), toStringS_eq l (by omega) k (by omega)]
    simp only [Option.bind_some]
    obtain ⟨v, e1, e2⟩ := voteWord_both l (by omega) hb k hk
    rw [e1, e2]
    simp only [Option.bind_some]
    rw [if_pos trivial]
    obtain ⟨k, rfl⟩ : ∃ m, k = m + 1 := ⟨k - 1, by omega⟩
    simp only [laws_FnExactVoteWord.j0]
    rw [if_neg (by simp), toStringS_eq l (by omega) k (by omega)]
    simp only [Option.bind_some]
    rw [eqStringS_eq l l (by omega) k (by omega)]
    simp

end Go.Proofs.Ytkdloidojmccgaa.PureFnExactVoteWord
namespace Go.Proofs.Ytkdloidojmccgaa.Pure
theorem FnExactVoteWord : Go.Proofs.Ytkdloidojmccgaa.P.laws_FnExactVoteWord.Pure := Go.Proofs.Ytkdloidojmccgaa.PureFnExactVoteWord.main
end Go.Proofs.Ytkdloidojmccgaa.Pure
