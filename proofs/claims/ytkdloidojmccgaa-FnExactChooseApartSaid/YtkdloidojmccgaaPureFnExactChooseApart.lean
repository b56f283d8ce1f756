/- For every list of words and every number the program's ChooseApart returns the reference's list and code, in memory of its own, and leaves the words as they were; no condition. -/
import Derived.Test.YtkdloidojmccgaaP10
import Derived.Laws.BitsLemmas
namespace Go.Proofs.Ytkdloidojmccgaa.PureFnExactChooseApart
open Go.RowKit Go.Proofs.Ytkdloidojmccgaa.P Go.Proofs.YtkdloidojmccgaaW.PrintWords Go.Proofs.YtkdloidojmccgaaW.PrintLast
set_option linter.unusedSimpArgs false
set_option linter.unusedVariables false

theorem wrap64_id (x : Int) (h0 : -9223372036854775808 ≤ x) (h1 : x ≤ 9223372036854775807) : wrap64 x = x := by unfold wrap64; omega
theorem wrap_nat (n : Nat) (h : n < 4611686018427387904) : wrap64 ((n : Int) + 1) = ((n + 1 : Nat) : Int) := by
  rw [wrap64_id _ (by omega) (by omega)]; omega
theorem rd_nat (l : List Int) (i : Nat) : rd l (i : Int) = l.getD i 0 := by simp [rd]
theorem drop_rd (l : List Int) (i : Nat) (h : i < l.length) : l.drop i = rd l (i : Int) :: l.drop (i + 1) := by
  rw [List.drop_eq_getElem_cons h, rd_nat, List.getD_eq_getElem?_getD, List.getElem?_eq_getElem h]; rfl
theorem drop_getD {α : Type} (z : α) (l : List α) (i : Nat) (h : i < l.length) : l.drop i = l.getD i z :: l.drop (i + 1) := by
  rw [List.drop_eq_getElem_cons h, List.getD_eq_getElem?_getD, List.getElem?_eq_getElem h]; rfl
theorem take_getD {α : Type} (z : α) (l : List α) (i : Nat) (h : i < l.length) : l.take (i + 1) = l.take i ++ [l.getD i z] := by
  rw [List.take_succ_eq_append_getElem h, List.getD_eq_getElem?_getD, List.getElem?_eq_getElem h]; rfl
theorem set_rep {α : Type} (a : List α) (i d : Nat) (z v : α) (h : a.length = i) : (a ++ List.replicate (d + 1) z).set i v = (a ++ [v]) ++ List.replicate d z := by
  subst h
  rw [List.set_append_right _ _ (Nat.le_refl _), Nat.sub_self, List.replicate_succ, List.set_cons_zero]
  simp
theorem set_drop {α : Type} (a g : List α) (i : Nat) (v : α) (h : a.length = i) (hg : i < g.length) : (a ++ g.drop i).set i v = (a ++ [v]) ++ g.drop (i + 1) := by
  subst h
  rw [List.set_append_right _ _ (Nat.le_refl _), Nat.sub_self, List.drop_eq_getElem_cons hg, List.set_cons_zero]
  simp
theorem getD_range_map {α : Type} (z : α) (f : Nat → α) (n i : Nat) (h : i < n) : ((List.range n).map f).getD i z = f i := by
  rw [List.getD_eq_getElem?_getD, List.getElem?_map, List.getElem?_range h]; rfl
theorem rounds_of (B : Nat) {α : Type} {F : Nat → Option α} {v : α} (h : ∀ k, B ≤ k → F k = some v) : ∃ k, F k = some v := ⟨B, h B (Nat.le_refl _)⟩

def letter (c : Int) : Bool := decide (97 ≤ c ∧ c ≤ 122)
theorem l04Letter_eq (c : Int) : spec_l04Letter.f c = some (letter c) := by
  unfold spec_l04Letter.f letter
  by_cases h : 97 ≤ c
  · rw [if_pos (by omega)]; simp [h]
  · rw [if_neg (by omega)]; simp [h]
theorem isLetter_eq (c : Int) : impl_isLetter.f c = some (letter c) := by
  unfold impl_isLetter.f letter
  by_cases h : 97 ≤ c
  · rw [if_pos (by omega)]; simp [h]
  · rw [if_neg (by omega)]; simp [h]
theorem in_eq (a b c : Int) : spec_l00In.f a b c = some (decide (b ≤ a ∧ a ≤ c)) := by
  unfold spec_l00In.f
  by_cases h : b ≤ a
  · rw [if_pos (by omega)]; simp [h]
  · rw [if_neg (by omega)]; simp [h]
theorem within_eq (a b c : Int) : impl_within.f a b c = some (decide (b ≤ a ∧ a ≤ c)) := by
  unfold impl_within.f
  by_cases h : b ≤ a
  · rw [if_pos (by omega)]; simp [h]
  · rw [if_neg (by omega)]; simp [h]
def lettersFrom (s : ByteArray) : Nat → Nat → Bool
  | 0, _ => true
  | d + 1, i => letter (bt s (i : Int)) && lettersFrom s d (i + 1)
def wordOk (s : ByteArray) : Bool := lettersFrom s s.size 0 && decide (1 ≤ (s.size : Int) ∧ (s.size : Int) ≤ 12)
theorem l04Word_l0 (s : ByteArray) (hs : s.size ≤ 4611686018427387900) : ∀ (d i k : Nat), i + d = s.size → d < k → spec_l04Word.l0 k s (i : Int) = some (lettersFrom s d i && decide (1 ≤ (s.size : Int) ∧ (s.size : Int) ≤ 12)) := by
  intro d
  induction d with
  | zero =>
    intro i k hi hk
    obtain ⟨k, rfl⟩ : ∃ m, k = m + 1 := ⟨k - 1, by omega⟩
    simp only [spec_l04Word.l0]
    rw [if_neg (by omega), in_eq]
    simp [lettersFrom]
  | succ d ih =>
    intro i k hi hk
    obtain ⟨k, rfl⟩ : ∃ m, k = m + 1 := ⟨k - 1, by omega⟩
    simp only [spec_l04Word.l0]
    rw [if_pos (by omega), if_pos (by omega), l04Letter_eq, Option.bind_some, wrap_nat i (by omega), ih (i + 1) k (by omega) (by omega)]
    by_cases h : letter (bt s (i : Int)) = true <;> simp [lettersFrom, h]
theorem l04Word_eq (s : ByteArray) (hs : s.size ≤ 4611686018427387900) (k : Nat) (hk : s.size < k) : spec_l04Word.f k s = some (wordOk s) := by
  unfold spec_l04Word.f wordOk
  exact l04Word_l0 s hs s.size 0 k (by omega) hk
theorem isWord_l0 (s : ByteArray) (hs : s.size ≤ 4611686018427387900) : ∀ (d i k : Nat), i + d = s.size → d < k → impl_IsWord.l0 k s (s.size : Int) (i : Int) = some (lettersFrom s d i && decide (1 ≤ (s.size : Int) ∧ (s.size : Int) ≤ 12)) := by
  intro d
  induction d with
  | zero =>
    intro i k hi hk
    obtain ⟨k, rfl⟩ : ∃ m, k = m + 1 := ⟨k - 1, by omega⟩
    simp only [impl_IsWord.l0]
    rw [if_neg (by omega), within_eq]
    simp [lettersFrom]
  | succ d ih =>
    intro i k hi hk
    obtain ⟨k, rfl⟩ : ∃ m, k = m + 1 := ⟨k - 1, by omega⟩
    simp only [impl_IsWord.l0]
    rw [if_pos (by omega), if_pos (by omega), if_pos (by omega), isLetter_eq, Option.bind_some, wrap_nat i (by omega), ih (i + 1) k (by omega) (by omega)]
    by_cases h : letter (bt s (i : Int)) = true <;> simp [lettersFrom, h]
theorem isWord_eq (s : ByteArray) (hs : s.size ≤ 4611686018427387900) (k : Nat) (hk : s.size < k) : impl_IsWord.f k s = some (wordOk s) := by
  unfold impl_IsWord.f wordOk
  exact isWord_l0 s hs s.size 0 k (by omega) hk
theorem wordOk_size (s : ByteArray) (h : wordOk s = true) : 1 ≤ s.size ∧ s.size ≤ 12 := by
  simp only [wordOk, Bool.and_eq_true, decide_eq_true_eq] at h
  omega
def habitOk (t a b : Int) : Bool :=
  if t = 0 ∨ t = 3 then decide (a = 0) && decide (b = 0) else if t = 1 then letter a && letter b && decide (a ≠ b) else if t = 2 ∨ t = 4 then letter a && decide (b = 0) else false
theorem l04Habit_eq (t a b : Int) (k : Nat) (hk : 0 < k) : spec_l04Habit.f k t a b = some (habitOk t a b) := by
  obtain ⟨k, rfl⟩ : ∃ m, k = m + 1 := ⟨k - 1, by omega⟩
  unfold spec_l04Habit.f habitOk
  simp only [spec_l04Habit.j0, l04Letter_eq, Option.bind_some]
  by_cases h0 : t = 0
  · subst h0
    by_cases ha : a = 0 <;> simp [ha] <;> rfl
  · by_cases h3 : t = 3
    · subst h3
      by_cases ha : a = 0 <;> simp [ha] <;> rfl
    · by_cases h1 : t = 1
      · subst h1
        by_cases la : letter a = true <;> by_cases lb : letter b = true <;> simp [la, lb] <;> rfl
      · by_cases h2 : t = 2
        · subst h2
          by_cases la : letter a = true <;> simp [la] <;> rfl
        · by_cases h4 : t = 4
          · subst h4
            by_cases la : letter a = true <;> simp [la] <;> rfl
          · simp [h0, h1, h2, h3, h4]
theorem validHabit_eq (t a b : Int) : impl_ValidHabit.f t a b = some (habitOk t a b) := by
  unfold impl_ValidHabit.f habitOk
  simp only [isLetter_eq, Option.bind_some]
  by_cases h0 : t = 0
  · subst h0
    by_cases ha : a = 0 <;> simp [ha] <;> rfl
  · by_cases h3 : t = 3
    · subst h3
      by_cases ha : a = 0 <;> simp [ha] <;> rfl
    · by_cases h1 : t = 1
      · subst h1
        by_cases la : letter a = true <;> by_cases lb : letter b = true <;> simp [la, lb] <;> rfl
      · by_cases h2 : t = 2
        · subst h2
          by_cases la : letter a = true <;> simp [la] <;> rfl
        · by_cases h4 : t = 4
          · subst h4
            by_cases la : letter a = true <;> simp [la] <;> rfl
          · simp [h0, h1, h2, h3, h4]

theorem rdS_nat (l : List ByteArray) (i : Nat) : rdOf ByteArray.empty l (i : Int) = l.getD i ByteArray.empty := by simp [rdOf]
theorem drop_rdS (l : List ByteArray) (i : Nat) (h : i < l.length) : l.drop i = rdOf ByteArray.empty l (i : Int) :: l.drop (i + 1) := by
  rw [drop_getD ByteArray.empty l i h, rdS_nat]
/-- The letters of all texts. -/
def total : List ByteArray → Nat
  | [] => 0
  | s :: r => s.size + total r
theorem total_nil : total [] = 0 := rfl
theorem total_cons (s : ByteArray) (r : List ByteArray) : total (s :: r) = s.size + total r := rfl
theorem total_get : ∀ (l : List ByteArray) (s : ByteArray), s ∈ l → s.size ≤ total l
  | [], s, h => by simp at h
  | x :: r, s, h => by
    simp only [total]
    rcases List.mem_cons.1 h with e | e
    · rw [e]; omega
    · have := total_get r s e; omega
theorem szStringS_l0 (l : List ByteArray) (hl : l.length ≤ 1048576) (hb : ∀ s ∈ l, s.size ≤ 9223372036854775807) : ∀ (d i k : Nat) (a : Int), i + d = l.length → d < k → 0 ≤ a → a ≤ 1048576 → laws_szStringS.l0 k l a (i : Int) = some (if a < (total (l.drop i) : Int) then -1 else a - total (l.drop i)) := by
  intro d
  induction d with
  | zero =>
    intro i k a hi hk h0 h1
    obtain ⟨k, rfl⟩ : ∃ m, k = m + 1 := ⟨k - 1, by omega⟩
    simp only [laws_szStringS.l0]
    rw [if_neg (by omega), List.drop_eq_nil_of_le (by omega)]
    rw [total_nil, if_neg (by omega)]
    simp
  | succ d ih =>
    intro i k a hi hk h0 h1
    obtain ⟨k, rfl⟩ : ∃ m, k = m + 1 := ⟨k - 1, by omega⟩
    have hm : rdOf ByteArray.empty l (i : Int) ∈ l := by
      rw [rdS_nat, List.getD_eq_getElem?_getD, List.getElem?_eq_getElem (by omega)]
      exact List.getElem_mem _
    have hsz := hb _ hm
    rw [drop_rdS l i (by omega)]
    simp only [laws_szStringS.l0]
    rw [total_cons, if_pos (by omega), if_pos (by omega), wrap64_id _ (by omega) (by omega), wrap_nat i (by omega)]
    by_cases h : a < ((rdOf ByteArray.empty l (i : Int)).size : Int)
    · rw [if_pos (by omega), if_pos (by omega)]
    · rw [if_neg (by omega), ih (i + 1) k _ (by omega) (by omega) (by omega) (by omega)]
      by_cases g : a - ((rdOf ByteArray.empty l (i : Int)).size : Int) < (total (l.drop (i + 1)) : Int)
      · rw [if_pos g, if_pos (by omega)]
      · rw [if_neg g, if_neg (by omega)]
        congr 1
        omega
theorem szStringS_eq (l : List ByteArray) (a : Int) (h0 : 0 ≤ a) (h1 : a ≤ 1048576) (hl : l.length ≤ 9223372036854775807) (hb : ∀ s ∈ l, s.size ≤ 9223372036854775807) (k : Nat) (hk : 1048576 < k) :
    laws_szStringS.f k l a = some (if a < (l.length : Int) + total l then -1 else a - l.length - total l) := by
  unfold laws_szStringS.f
  rw [wrap64_id _ (by omega) (by omega)]
  by_cases h : a < (l.length : Int)
  · rw [if_pos (by omega), if_pos (by omega)]
  · rw [if_neg (by omega)]
    have := szStringS_l0 l (by omega) hb l.length 0 k (a - l.length) (by omega) (by omega) (by omega) (by omega)
    rw [show ((0 : Nat) : Int) = 0 from rfl, List.drop_zero] at this
    rw [this]
    by_cases g : a - (l.length : Int) < (total l : Int)
    · rw [if_pos g, if_pos (by omega)]
    · rw [if_neg g, if_neg (by omega)]
theorem toStringS_l0 (l : List ByteArray) (hl : l.length ≤ 1048576) : ∀ (d i k : Nat), i + d = l.length → d < k → laws_toStringS.l0 k l (l.take i ++ List.replicate d (⟨#[]⟩ : ByteArray)) (i : Int) = some l := by
  intro d
  induction d with
  | zero =>
    intro i k hi hk
    obtain ⟨k, rfl⟩ : ∃ m, k = m + 1 := ⟨k - 1, by omega⟩
    simp only [laws_toStringS.l0]
    rw [if_neg (by omega), List.take_of_length_le (by omega)]
    simp
  | succ d ih =>
    intro i k hi hk
    obtain ⟨k, rfl⟩ : ∃ m, k = m + 1 := ⟨k - 1, by omega⟩
    have hlen : ((l.take i ++ List.replicate (d + 1) (⟨#[]⟩ : ByteArray)).length : Int) = l.length := by simp; omega
    have hstep := set_rep (l.take i) i d (⟨#[]⟩ : ByteArray) (rdOf ByteArray.empty l (i : Int)) (by simp; omega)
    rw [rdS_nat, ← take_getD ByteArray.empty l i (by omega)] at hstep
    simp only [laws_toStringS.l0]
    rw [if_pos (by omega), if_pos (by omega), if_pos (by rw [hlen]; omega), wrap_nat i (by omega), Int.toNat_natCast, rdS_nat, hstep]
    exact ih (i + 1) k (by omega) (by omega)
theorem toStringS_eq (l : List ByteArray) (hl : l.length ≤ 1048576) (k : Nat) (hk : l.length < k) : laws_toStringS.f k l = some l := by
  unfold laws_toStringS.f
  rw [if_pos (by omega), if_pos (by omega)]
  have := toStringS_l0 l hl l.length 0 k (by omega) hk
  simpa using this
theorem toList_inj (a b : ByteArray) : a.toList = b.toList ↔ a = b := by
  constructor
  · intro h
    rw [ByteArray.toList_eq, ByteArray.toList_eq] at h
    have h2 : a.data.toList = b.data.toList := h
    cases a; cases b
    simp at h2
    rw [h2]
  · intro h; rw [h]
theorem eqStringS_l0 (a b : List ByteArray) (hab : a.length = b.length) (hl : a.length ≤ 1048576) : ∀ (d i k : Nat), i + d = a.length → d < k → laws_eqStringS.l0 k a b (i : Int) = some (decide (a.drop i = b.drop i)) := by
  intro d
  induction d with
  | zero =>
    intro i k hi hk
    obtain ⟨k, rfl⟩ : ∃ m, k = m + 1 := ⟨k - 1, by omega⟩
    simp only [laws_eqStringS.l0]
    rw [if_neg (by omega), List.drop_eq_nil_of_le (by omega), List.drop_eq_nil_of_le (by omega)]
    simp
  | succ d ih =>
    intro i k hi hk
    obtain ⟨k, rfl⟩ : ∃ m, k = m + 1 := ⟨k - 1, by omega⟩
    simp only [laws_eqStringS.l0]
    rw [if_pos (by omega), if_pos (by omega), if_pos (by omega), drop_rdS a i (by omega), drop_rdS b i (by omega)]
    by_cases e : rdOf ByteArray.empty a (i : Int) = rdOf ByteArray.empty b (i : Int)
    · rw [if_pos ((toList_inj _ _).2 e), wrap_nat i (by omega), ih (i + 1) k (by omega) (by omega)]
      simp [e]
    · rw [if_neg (fun h => e ((toList_inj _ _).1 h))]
      simp [e]
theorem eqStringS_eq (a b : List ByteArray) (hl : a.length ≤ 1048576) (k : Nat) (hk : a.length < k) : laws_eqStringS.f k a b = some (decide (a = b)) := by
  unfold laws_eqStringS.f
  by_cases h : a.length = b.length
  · rw [if_pos (by omega)]
    have := eqStringS_l0 a b h hl a.length 0 k (by omega) hk
    simpa using this
  · rw [if_neg (by omega)]
    have : a ≠ b := fun e => h (by rw [e])
    simp [this]

def habitsOk (l : List S72) : Bool := l.all (fun h => habitOk h.f0 h.f1 h.f2)
def wordsOk (l : List ByteArray) : Bool := l.all wordOk
theorem drop_hab (l : List S72) (i : Nat) (h : i < l.length) : l.drop i = rd_T72 l (i : Int) :: l.drop (i + 1) := by
  rw [drop_getD z72 l i h]; simp [rd_T72]
def codeA (hs : List S72) (ws : List ByteArray) : Int :=
  if habitsOk hs = true ∧ wordsOk ws = true then if hs.length ≤ 30 then if ws.length ≤ 40 then 0 else 3 else 3 else 1
theorem asked_l1 (hs : List S72) (ws : List ByteArray) (hw : ws.length ≤ 2097152) (hb : ∀ s ∈ ws, s.size ≤ 2097152) : ∀ (d i k : Nat), i + d = ws.length → d + 2097152 < k → spec_l04Asked.l1 k hs ws (i : Int) = some (if wordsOk (ws.drop i) = true then if hs.length ≤ 30 then if ws.length ≤ 40 then 0 else 3 else 3 else 1) := by
  intro d
  induction d with
  | zero =>
    intro i k hi hk
    obtain ⟨k, rfl⟩ : ∃ m, k = m + 1 := ⟨k - 1, by omega⟩
    simp only [spec_l04Asked.l1]
    rw [if_neg (by omega), List.drop_eq_nil_of_le (by omega), show wordsOk [] = true from rfl, if_pos rfl]
    by_cases h1 : hs.length ≤ 30
    · by_cases h2 : ws.length ≤ 40
      · rw [if_neg (by omega), if_neg (by omega), if_pos h1, if_pos h2]
      · rw [if_neg (by omega), if_pos (by omega), if_pos h1, if_neg h2]
    · rw [if_pos (by omega), if_neg h1]
  | succ d ih =>
    intro i k hi hk
    obtain ⟨k, rfl⟩ : ∃ m, k = m + 1 := ⟨k - 1, by omega⟩
    have hm : rdOf ByteArray.empty ws (i : Int) ∈ ws := by
      rw [rdS_nat, List.getD_eq_getElem?_getD, List.getElem?_eq_getElem (by omega)]
      exact List.getElem_mem _
    have hsz := hb _ hm
    simp only [spec_l04Asked.l1]
    rw [if_pos (by omega), if_pos (by omega), l04Word_eq _ (by omega) k (by omega), Option.bind_some, wrap_nat i (by omega), ih (i + 1) k (by omega) (by omega), drop_rdS ws i (by omega)]
    by_cases h : wordOk (rdOf ByteArray.empty ws (i : Int)) = true <;> simp [wordsOk, h]
theorem asked_l0 (hs : List S72) (ws : List ByteArray) (hh : hs.length ≤ 1048576) (hw : ws.length ≤ 2097152) (hb : ∀ s ∈ ws, s.size ≤ 2097152) : ∀ (d i k : Nat), i + d = hs.length → d + 4194310 < k → spec_l04Asked.l0 k hs ws (i : Int) = some (if habitsOk (hs.drop i) = true ∧ wordsOk ws = true then if hs.length ≤ 30 then if ws.length ≤ 40 then 0 else 3 else 3 else 1) := by
  intro d
  induction d with
  | zero =>
    intro i k hi hk
    obtain ⟨k, rfl⟩ : ∃ m, k = m + 1 := ⟨k - 1, by omega⟩
    have h := asked_l1 hs ws hw hb ws.length 0 k (by omega) (by omega)
    rw [show ((0 : Nat) : Int) = 0 from rfl, List.drop_zero] at h
    simp only [spec_l04Asked.l0]
    rw [if_neg (by omega), List.drop_eq_nil_of_le (by omega), h]
    simp [habitsOk]
  | succ d ih =>
    intro i k hi hk
    obtain ⟨k, rfl⟩ : ∃ m, k = m + 1 := ⟨k - 1, by omega⟩
    simp only [spec_l04Asked.l0]
    rw [if_pos (by omega), if_pos (by omega), l04Habit_eq _ _ _ k (by omega), Option.bind_some, wrap_nat i (by omega), ih (i + 1) k (by omega) (by omega), drop_hab hs i (by omega)]
    by_cases h : habitOk (rd_T72 hs (i : Int)).f0 (rd_T72 hs (i : Int)).f1 (rd_T72 hs (i : Int)).f2 = true <;> simp [habitsOk, h]
theorem asked_eq (hs : List S72) (ws : List ByteArray) (hh : hs.length ≤ 1048576) (hw : ws.length ≤ 2097152) (hb : ∀ s ∈ ws, s.size ≤ 2097152) (k : Nat) (hk : 5242890 < k) : spec_l04Asked.f k hs ws = some (codeA hs ws) := by
  unfold spec_l04Asked.f codeA
  have h := asked_l0 hs ws hh hw hb hs.length 0 k (by omega) (by omega)
  rw [show ((0 : Nat) : Int) = 0 from rfl, List.drop_zero] at h
  exact h
theorem findH_l0 (l : List S72) (hl : l.length ≤ 1048576) : ∀ (d i k : Nat), i + d = l.length → d < k → ∃ r : Int, slices_IndexFunc_Habit_at_chainCode_1.l0 k l (l.length : Int) (i : Int) = some r ∧ decide (r ≥ 0) = !habitsOk (l.drop i) := by
  intro d
  induction d with
  | zero =>
    intro i k hi hk
    obtain ⟨k, rfl⟩ : ∃ m, k = m + 1 := ⟨k - 1, by omega⟩
    refine ⟨-1, ?_, ?_⟩
    · simp only [slices_IndexFunc_Habit_at_chainCode_1.l0]
      rw [if_neg (by omega)]
    · rw [List.drop_eq_nil_of_le (by omega)]; simp [habitsOk]
  | succ d ih =>
    intro i k hi hk
    obtain ⟨k, rfl⟩ : ∃ m, k = m + 1 := ⟨k - 1, by omega⟩
    simp only [slices_IndexFunc_Habit_at_chainCode_1.l0, impl_chainCode_1.f]
    rw [if_pos (by omega), if_pos (by omega), if_pos (by omega), validHabit_eq, Option.bind_some, Option.bind_some, drop_hab l i (by omega), wrap_nat i (by omega)]
    by_cases h : habitOk (rd_T72 l (i : Int)).f0 (rd_T72 l (i : Int)).f1 (rd_T72 l (i : Int)).f2 = true
    · obtain ⟨r, h1, h2⟩ := ih (i + 1) k (by omega) (by omega)
      refine ⟨r, by rw [if_neg (by simp [h])]; exact h1, ?_⟩
      rw [h2]; simp [habitsOk, h]
    · refine ⟨(i : Int), by rw [if_pos (by simpa using h)], ?_⟩
      simp only [habitsOk, List.all_cons, Bool.eq_false_iff.2 h, Bool.false_and, Bool.not_false]
      exact decide_eq_true (by omega)
theorem findW_l0 (l : List ByteArray) (hl : l.length ≤ 2097153) (hb : ∀ s ∈ l, s.size ≤ 2097152) : ∀ (d i k : Nat), i + d = l.length → d + 2097152 < k → ∃ r : Int, slices_IndexFunc_Sstring_string_at_chainCode_2.l0 k l (l.length : Int) (i : Int) = some r ∧ decide (r ≥ 0) = !wordsOk (l.drop i) := by
  intro d
  induction d with
  | zero =>
    intro i k hi hk
    obtain ⟨k, rfl⟩ : ∃ m, k = m + 1 := ⟨k - 1, by omega⟩
    refine ⟨-1, ?_, ?_⟩
    · simp only [slices_IndexFunc_Sstring_string_at_chainCode_2.l0]
      rw [if_neg (by omega)]
    · rw [List.drop_eq_nil_of_le (by omega)]; simp [wordsOk]
  | succ d ih =>
    intro i k hi hk
    obtain ⟨k, rfl⟩ : ∃ m, k = m + 1 := ⟨k - 1, by omega⟩
    have hm : rdOf ByteArray.empty l (i : Int) ∈ l := by
      rw [rdS_nat, List.getD_eq_getElem?_getD, List.getElem?_eq_getElem (by omega)]
      exact List.getElem_mem _
    have hsz := hb _ hm
    simp only [slices_IndexFunc_Sstring_string_at_chainCode_2.l0, impl_chainCode_2.f]
    rw [if_pos (by omega), if_pos (by omega), if_pos (by omega), isWord_eq _ (by omega) k (by omega), Option.bind_some, Option.bind_some, drop_rdS l i (by omega), wrap_nat i (by omega)]
    by_cases h : wordOk (rdOf ByteArray.empty l (i : Int)) = true
    · obtain ⟨r, h1, h2⟩ := ih (i + 1) k (by omega) (by omega)
      refine ⟨r, by rw [if_neg (by simp [h])]; exact h1, ?_⟩
      rw [h2]; simp [wordsOk, h]
    · refine ⟨(i : Int), by rw [if_pos (by simpa using h)], ?_⟩
      simp only [wordsOk, List.all_cons, Bool.eq_false_iff.2 h, Bool.false_and, Bool.not_false]
      exact decide_eq_true (by omega)
def codeH (hs : List S72) (ws : List ByteArray) : Int :=
  if habitsOk hs = true ∧ wordsOk ws = true then if hs.length ≤ 30 then 0 else 3 else 1
theorem chainCode_eq (hs : List S72) (ws : List ByteArray) (hh : hs.length ≤ 1048576) (hw : ws.length ≤ 2097153) (hb : ∀ s ∈ ws, s.size ≤ 2097152) (k : Nat) (hk : 5242890 < k) : impl_chainCode.f k hs ws = some (codeH hs ws) := by
  unfold impl_chainCode.f codeH slices_ContainsFunc_Habit_at_chainCode_1.f slices_IndexFunc_Habit_at_chainCode_1.f slices_ContainsFunc_Sstring_string_at_chainCode_2.f slices_IndexFunc_Sstring_string_at_chainCode_2.f impl_unless.f
  obtain ⟨r, h1, h2⟩ := findH_l0 hs hh hs.length 0 k (by omega) (by omega)
  obtain ⟨q, g1, g2⟩ := findW_l0 ws hw hb ws.length 0 k (by omega) (by omega)
  rw [show ((0 : Nat) : Int) = 0 from rfl] at h1 g1
  rw [List.drop_zero] at h2 g2
  simp only [h1, g1, Option.bind_some, h2, g2]
  by_cases e1 : habitsOk hs = true <;> by_cases e2 : wordsOk ws = true <;> by_cases e3 : hs.length ≤ 30
  all_goals first
    | (have e4 : (hs.length : Int) ≤ 30 := by omega
       simp [e1, e2, e3, e4])
    | (have e4 : ¬ (hs.length : Int) ≤ 30 := by omega
       simp [e1, e2, e3, e4])
theorem concat2_eq (a b : List ByteArray) (ha : a.length ≤ 1048576) (hb : b.length ≤ 1048576) (k : Nat) (hk : 10 < k) : slices_Concat_Sstring_string.f k [a, b] = some (a ++ b) := by
  obtain ⟨k, rfl⟩ : ∃ m, k = m + 8 := ⟨k - 8, by omega⟩
  have r0 : rd_L4 [a, b] 0 = a := rfl
  have r1 : rd_L4 [a, b] 1 = b := rfl
  have w0 : wrap64 (0 + (a.length : Int)) = a.length := by rw [wrap64_id _ (by omega) (by omega)]; omega
  have w1 : wrap64 ((a.length : Int) + b.length) = (a.length : Int) + b.length := wrap64_id _ (by omega) (by omega)
  have w2 : wrap64 (0 + 1) = 1 := wrap64_id _ (by decide) (by decide)
  have w3 : wrap64 (1 + 1) = 2 := wrap64_id _ (by decide) (by decide)
  have hg : slices_Grow_Sstring_string_at_nil.f ((a.length : Int) + b.length) = some [] := by
    unfold slices_Grow_Sstring_string_at_nil.f
    rw [wrap64_id _ (by omega) (by omega), if_neg (by omega)]
    by_cases h : (a.length : Int) + b.length > 0
    · rw [if_pos h, if_pos (by omega), if_pos (by simp; omega), Option.bind_some, if_pos (by omega)]
      rfl
    · rw [if_neg h]
  unfold slices_Concat_Sstring_string.f
  have hl2 : (([a, b] : List (List ByteArray)).length : Int) = 2 := rfl
  rw [hl2]
  simp only [slices_Concat_Sstring_string.l0, hl2]
  rw [if_pos (by decide), if_pos (by decide), if_pos (by decide), r0, w0, if_neg (by omega), w2, if_pos (by decide), if_pos (by decide), if_pos (by decide), r1, w1, if_neg (by omega), w3, if_neg (by decide), hg, Option.bind_some]
  simp only [slices_Concat_Sstring_string.l1, hl2]
  rw [if_pos (by decide), if_pos (by decide), if_pos (by decide), r0, if_pos (by simp; omega), w2, if_pos (by decide), if_pos (by decide), if_pos (by decide), r1, if_pos (by simp; omega), w3, if_neg (by decide)]
  simp
def codeL (ws : List ByteArray) (hs : List S72) (more : List ByteArray) : Int :=
  if codeH hs (ws ++ more) = 0 then if ws.length ≤ 40 then 0 else 3 else codeH hs (ws ++ more)
theorem listCode_eq (ws : List ByteArray) (hs : List S72) (more : List ByteArray) (hh : hs.length ≤ 1048576) (hw : ws.length ≤ 1048576) (hm : more.length ≤ 1) (hb : ∀ s ∈ ws, s.size ≤ 2097152) (hb2 : ∀ s ∈ more, s.size ≤ 2097152) (k : Nat) (hk : 5242890 < k) : impl_listCode.f k ws hs more = some (codeL ws hs more) := by
  unfold impl_listCode.f codeL impl_unless.f
  rw [concat2_eq ws more hw (by omega) k (by omega), Option.bind_some, chainCode_eq hs (ws ++ more) hh (by rw [List.length_append]; omega) (fun s h => (List.mem_append.1 h).elim (hb s) (hb2 s)) k hk, Option.bind_some]
  by_cases e : codeH hs (ws ++ more) = 0
  · rw [if_pos e, if_pos e]
    by_cases g : ws.length ≤ 40
    · have g' : (ws.length : Int) ≤ 40 := by omega
      simp [g, g']
    · have g' : ¬ (ws.length : Int) ≤ 40 := by omega
      simp [g, g']
  · rw [if_neg e, if_neg e]

def unlF (a b : ByteArray) : Nat → Nat → Int → Int
  | 0, _, n => n
  | d + 1, i, n => unlF a b d (i + 1) (if bt a (i : Int) = bt b (i : Int) then n else wrap64 (n + 1))
def unl (a b : ByteArray) : Int := unlF a b a.size 0 0
theorem l04Unlike_l0 (a b : ByteArray) (hs : a.size ≤ 4611686018427387900) (hb : a.size ≤ b.size) : ∀ (d i k : Nat) (n : Int), i + d = a.size → d < k → spec_l04Unlike.l0 k a b n (i : Int) = some (unlF a b d i n) := by
  intro d
  induction d with
  | zero =>
    intro i k n hi hk
    obtain ⟨k, rfl⟩ : ∃ m, k = m + 1 := ⟨k - 1, by omega⟩
    simp only [spec_l04Unlike.l0]
    rw [if_neg (by omega)]
    rfl
  | succ d ih =>
    intro i k n hi hk
    obtain ⟨k, rfl⟩ : ∃ m, k = m + 1 := ⟨k - 1, by omega⟩
    simp only [spec_l04Unlike.l0, unlF]
    rw [if_pos (by omega), if_pos (by omega), if_pos (by omega), wrap_nat i (by omega)]
    by_cases h : bt a (i : Int) = bt b (i : Int)
    · rw [if_pos h, if_pos h, ih (i + 1) k _ (by omega) (by omega)]
    · rw [if_neg h, if_neg h, ih (i + 1) k _ (by omega) (by omega)]
theorem l04Unlike_eq (a b : ByteArray) (hs : a.size ≤ 4611686018427387900) (hb : a.size ≤ b.size) (k : Nat) (hk : a.size < k) : spec_l04Unlike.f k a b = some (unl a b) := by
  unfold spec_l04Unlike.f unl
  exact l04Unlike_l0 a b hs hb a.size 0 k 0 (by omega) hk
theorem unlike_l0 (a b : ByteArray) (hs : a.size ≤ 4611686018427387900) (hb : a.size ≤ b.size) : ∀ (d i k : Nat) (n : Int), i + d = a.size → d < k → impl_unlike.l0 k a b n (a.size : Int) (i : Int) = some (unlF a b d i n) := by
  intro d
  induction d with
  | zero =>
    intro i k n hi hk
    obtain ⟨k, rfl⟩ : ∃ m, k = m + 1 := ⟨k - 1, by omega⟩
    simp only [impl_unlike.l0]
    rw [if_neg (by omega)]
    rfl
  | succ d ih =>
    intro i k n hi hk
    obtain ⟨k, rfl⟩ : ∃ m, k = m + 1 := ⟨k - 1, by omega⟩
    simp only [impl_unlike.l0, unlF]
    rw [if_pos (by omega), if_pos (by omega), if_pos (by omega), if_pos (by omega), wrap_nat i (by omega)]
    by_cases h : bt a (i : Int) = bt b (i : Int)
    · rw [if_pos h, if_pos h, ih (i + 1) k _ (by omega) (by omega)]
    · rw [if_neg h, if_neg h, ih (i + 1) k _ (by omega) (by omega)]
theorem unlike_eq (a b : ByteArray) (hs : a.size ≤ 4611686018427387900) (hb : a.size ≤ b.size) (k : Nat) (hk : a.size < k) : impl_unlike.f k a b = some (unl a b) := by
  unfold impl_unlike.f unl
  exact unlike_l0 a b hs hb a.size 0 k 0 (by omega) hk

theorem codeL_nil (l : List ByteArray) : codeL l [] [] = codeA [] l := by
  unfold codeL codeH codeA
  rw [List.append_nil]
  by_cases a : wordsOk l = true
  · simp [a, habitsOk]
  · simp [a, habitsOk]
theorem wordsOk_mem (l : List ByteArray) (h : codeA [] l = 0) : ∀ w ∈ l, 1 ≤ w.size ∧ w.size ≤ 12 := by
  intro w hw
  have : wordsOk l = true := by
    unfold codeA at h
    by_cases a : wordsOk l = true
    · exact a
    · simp [a] at h
  exact wordOk_size w (List.all_eq_true.1 this w hw)
theorem codeA_len (l : List ByteArray) (h : codeA [] l = 0) : l.length ≤ 40 := by
  unfold codeA at h
  by_cases a : wordsOk l = true
  · by_cases b : l.length ≤ 40
    · exact b
    · simp [a, habitsOk, b] at h
  · simp [a] at h
theorem mem_rdA (l : List ByteArray) (i : Nat) (h : i < l.length) : rdOf ByteArray.empty l (i : Int) ∈ l := by
  rw [rdS_nat, List.getD_eq_getElem?_getD, List.getElem?_eq_getElem h]
  exact List.getElem_mem _
/-- Two words are too near to each other. -/
def nearT (least : Int) (t w : ByteArray) : Bool := !(decide (t.size = w.size) && decide (unl t w ≥ least))
def nearB (least : Int) (tk : List ByteArray) (w : ByteArray) : Bool := tk.any (fun t => nearT least t w)
theorem one_near (ws : List ByteArray) (least : Int) (i : Nat) (hi : i < ws.length) (t : ByteArray) (ht : t.size ≤ 12) (k : Nat) (hk : 20 < k) : impl_ChooseApart_1_1.f k t ws (i : Int) least = some (nearT least t (rdOf ByteArray.empty ws (i : Int))) := by
  unfold impl_ChooseApart_1_1.f nearT
  rw [if_pos (by omega), if_pos (by omega)]
  by_cases e : t.size = (rdOf ByteArray.empty ws (i : Int)).size
  · rw [if_pos (by omega), unlike_eq t _ (by omega) (by omega) k (by omega), Option.bind_some]
    simp only [e, decide_true, Bool.true_and]
    congr 1
    by_cases q : unl t (rdOf ByteArray.empty ws (i : Int)) < least
    · rw [decide_eq_true q, decide_eq_false (by omega)]; rfl
    · rw [decide_eq_false q, decide_eq_true (by omega)]; rfl
  · rw [if_neg (by omega)]
    simp [e]
theorem index_near (ws : List ByteArray) (least : Int) (i : Nat) (hi : i < ws.length) (tk : List ByteArray) (hl : tk.length ≤ 1048576) (ht : ∀ t ∈ tk, t.size ≤ 12) : ∀ (d j k : Nat), j + d = tk.length → d + 20 < k → ∃ r : Int, slices_IndexFunc_Sstring_string_at_ChooseApart_1_1.l0 k tk (tk.length : Int) (j : Int) ws (i : Int) least = some r ∧ decide (r ≥ 0) = nearB least (tk.drop j) (rdOf ByteArray.empty ws (i : Int)) := by
  intro d
  induction d with
  | zero =>
    intro j k hj hk
    obtain ⟨k, rfl⟩ : ∃ m, k = m + 1 := ⟨k - 1, by omega⟩
    refine ⟨-1, ?_, ?_⟩
    · simp only [slices_IndexFunc_Sstring_string_at_ChooseApart_1_1.l0]
      rw [if_neg (by omega)]
    · rw [List.drop_eq_nil_of_le (by omega)]; simp [nearB]
  | succ d ih =>
    intro j k hj hk
    obtain ⟨k, rfl⟩ : ∃ m, k = m + 1 := ⟨k - 1, by omega⟩
    simp only [slices_IndexFunc_Sstring_string_at_ChooseApart_1_1.l0]
    rw [if_pos (by omega), if_pos (by omega), if_pos (by omega), one_near ws least i hi _ (ht _ (mem_rdA tk j (by omega))) k (by omega), Option.bind_some, drop_rdS tk j (by omega), wrap_nat j (by omega)]
    by_cases g : nearT least (rdOf ByteArray.empty tk (j : Int)) (rdOf ByteArray.empty ws (i : Int)) = true
    · refine ⟨(j : Int), by rw [if_pos g], ?_⟩
      simp only [nearB, List.any_cons, g, Bool.true_or]
      exact decide_eq_true (by omega)
    · obtain ⟨r, h1, h2⟩ := ih (j + 1) k (by omega) (by omega)
      refine ⟨r, by rw [if_neg g]; exact h1, ?_⟩
      rw [h2]
      simp only [nearB, List.any_cons, Bool.not_eq_true _ ▸ g, Bool.false_or]
theorem contains_near (ws : List ByteArray) (least : Int) (i : Nat) (hi : i < ws.length) (tk : List ByteArray) (hl : tk.length ≤ 1048576) (ht : ∀ t ∈ tk, t.size ≤ 12) (k : Nat) (hk : tk.length + 20 < k) : slices_ContainsFunc_Sstring_string_at_ChooseApart_1_1.f k tk ws (i : Int) least = some (nearB least tk (rdOf ByteArray.empty ws (i : Int))) := by
  unfold slices_ContainsFunc_Sstring_string_at_ChooseApart_1_1.f slices_IndexFunc_Sstring_string_at_ChooseApart_1_1.f
  obtain ⟨r, h1, h2⟩ := index_near ws least i hi tk hl ht tk.length 0 k (by omega) (by omega)
  rw [show ((0 : Nat) : Int) = 0 from rfl] at h1
  rw [h1, Option.bind_some, h2]
  rfl
theorem specApart_l1 (ws : List ByteArray) (hws : ws.length ≤ 40) (hw : ∀ w ∈ ws, w.size ≤ 12) (least : Int) (o : List Int) (ho : ∀ j, j < o.length → 0 ≤ rd o (j : Int) ∧ rd o (j : Int) < (ws.length : Int)) (hol : o.length ≤ 1048576) (i : Nat) (hi : i < ws.length) (B : Nat) (V W : Option (List Int × Int))
    (hV : ∀ k, B ≤ k → spec_ChooseApart.l0 k ws least (o ++ [(i : Int)]) ((i + 1 : Nat) : Int) = V) (hW : ∀ k, B ≤ k → spec_ChooseApart.l0 k ws least o ((i + 1 : Nat) : Int) = W) :
    ∀ (d j k : Nat) (fine : Bool), j + d = o.length → B + d + 20 < k → spec_ChooseApart.l1 k ws least o (i : Int) fine (j : Int) = if (fine && !nearB least ((o.drop j).map (fun x => rdOf ByteArray.empty ws x)) (rdOf ByteArray.empty ws (i : Int))) = true then V else W := by
  intro d
  induction d with
  | zero =>
    intro j k fine hj hk
    obtain ⟨k, rfl⟩ : ∃ m, k = m + 1 := ⟨k - 1, by omega⟩
    simp only [spec_ChooseApart.l1]
    rw [if_neg (by omega), List.drop_eq_nil_of_le (by omega), wrap_nat i (by omega)]
    cases fine with
    | true =>
      rw [if_pos rfl, if_pos (by omega)]
      rw [if_pos (by simp [nearB])]
      exact hV k (by omega)
    | false =>
      rw [if_neg (by decide), if_neg (by simp)]
      exact hW k (by omega)
  | succ d ih =>
    intro j k fine hj hk
    obtain ⟨k, rfl⟩ : ∃ m, k = m + 1 := ⟨k - 1, by omega⟩
    obtain ⟨h1, h2⟩ := ho j (by omega)
    have hd : o.drop j = rd o (j : Int) :: o.drop (j + 1) := drop_rd o j (by omega)
    obtain ⟨q, hq⟩ : ∃ q : Nat, rd o (j : Int) = (q : Int) := ⟨(rd o (j : Int)).toNat, by omega⟩
    have hsz := hw _ (mem_rdA ws q (by omega))
    rw [← hq] at hsz
    simp only [spec_ChooseApart.l1]
    rw [if_pos (by omega), if_pos (by omega), if_pos h1, if_pos h2, hd, wrap_nat j (by omega), List.map_cons]
    cases fine with
    | true =>
      rw [if_pos rfl, if_pos (by omega), if_pos (by omega)]
      by_cases e : (rdOf ByteArray.empty ws (rd o (j : Int))).size = (rdOf ByteArray.empty ws (i : Int)).size
      · rw [if_pos (by omega), l04Unlike_eq _ _ (by omega) (by omega) k (by omega), Option.bind_some, ih (j + 1) k _ (by omega) (by omega)]
        simp only [nearB, List.any_cons, nearT, e, decide_true, Bool.true_and, Bool.not_or, Bool.not_not]
        rfl
      · rw [if_neg (by omega), ih (j + 1) k _ (by omega) (by omega)]
        simp only [nearB, List.any_cons, nearT, e, decide_false, Bool.false_and, Bool.not_false, Bool.true_or, Bool.not_true, Bool.and_false]
    | false =>
      rw [if_neg (by decide), ih (j + 1) k _ (by omega) (by omega)]
      simp only [Bool.false_and]
/-- Which words are taken. -/
def takes (least : Int) (ws : List ByteArray) : Nat → Nat → List Int → List Int
  | 0, _, o => o
  | d + 1, i, o => takes least ws d (i + 1) (if nearB least (o.map (fun x => rdOf ByteArray.empty ws x)) (rdOf ByteArray.empty ws (i : Int)) = true then o else o ++ [(i : Int)])
theorem takes_succ (least : Int) (ws : List ByteArray) (d i : Nat) (o : List Int) : takes least ws (d + 1) i o = takes least ws d (i + 1) (if nearB least (o.map (fun x => rdOf ByteArray.empty ws x)) (rdOf ByteArray.empty ws (i : Int)) = true then o else o ++ [(i : Int)]) := rfl
theorem takes_len (least : Int) (ws : List ByteArray) : ∀ (d i : Nat) (o : List Int), (takes least ws d i o).length ≤ o.length + d := by
  intro d
  induction d with
  | zero => intro i o; exact Nat.le_refl _
  | succ d ih =>
    intro i o
    unfold takes
    refine Nat.le_trans (ih _ _) ?_
    split
    · omega
    · rw [List.length_append]; simp only [List.length_singleton]; omega
theorem rd_app (o : List Int) (x : Int) (j : Nat) (h : j < o.length + 1) : rd (o ++ [x]) (j : Int) = if j < o.length then rd o (j : Int) else x := by
  rw [rd_nat, rd_nat, List.getD_eq_getElem?_getD, List.getD_eq_getElem?_getD]
  by_cases e : j < o.length
  · rw [if_pos e, List.getElem?_append_left e]
  · rw [if_neg e]
    obtain rfl : j = o.length := by omega
    simp
theorem apart_both (ws : List ByteArray) (hws : ws.length ≤ 40) (hw : ∀ w ∈ ws, w.size ≤ 12) (least : Int) (K : Nat) (hK : 200 < K) : ∀ (d i : Nat) (o : List Int), i + d = ws.length → o.length ≤ i → (∀ j, j < o.length → 0 ≤ rd o (j : Int) ∧ rd o (j : Int) < (ws.length : Int)) →
    Go.Proofs.Ytkdloidojmccgaa.H.apF (fun tk i => slices_ContainsFunc_Sstring_string_at_ChooseApart_1_1.f K tk ws (i : Int) least) ws d i (o.map (fun x => rdOf ByteArray.empty ws x)) o = some (takes least ws d i o) ∧ ∀ k, d * 100 + 1 < k → spec_ChooseApart.l0 k ws least o (i : Int) = some (takes least ws d i o, 0) := by
  intro d
  induction d with
  | zero =>
    intro i o hi ho hr
    refine ⟨rfl, fun k hk => ?_⟩
    obtain ⟨k, rfl⟩ : ∃ m, k = m + 1 := ⟨k - 1, by omega⟩
    simp only [spec_ChooseApart.l0]
    rw [if_neg (by omega)]
    rfl
  | succ d ih =>
    intro i o hi ho hr
    have hmem : ∀ t ∈ o.map (fun x => rdOf ByteArray.empty ws x), t.size ≤ 12 := by
      intro t ht
      obtain ⟨x, hx, rfl⟩ := List.mem_map.1 ht
      obtain ⟨j, hj, hj2⟩ := List.getElem_of_mem hx
      have h3 := hr j hj
      rw [rd_nat, List.getD_eq_getElem?_getD, List.getElem?_eq_getElem hj, Option.getD_some, hj2] at h3
      obtain ⟨q, rfl⟩ : ∃ q : Nat, x = (q : Int) := ⟨x.toNat, by omega⟩
      exact hw _ (mem_rdA ws q (by omega))
    have hr2 : ∀ j, j < (o ++ [(i : Int)]).length → 0 ≤ rd (o ++ [(i : Int)]) (j : Int) ∧ rd (o ++ [(i : Int)]) (j : Int) < (ws.length : Int) := by
      intro j hj
      rw [List.length_append] at hj
      simp only [List.length_singleton] at hj
      rw [rd_app o _ j hj]
      by_cases e : j < o.length
      · rw [if_pos e]; exact hr j e
      · rw [if_neg e]; omega
    obtain ⟨a1, a2⟩ := ih (i + 1) o (by omega) (by omega) hr
    obtain ⟨b1, b2⟩ := ih (i + 1) (o ++ [(i : Int)]) (by omega) (by rw [List.length_append]; simp only [List.length_singleton]; omega) hr2
    constructor
    · simp only [Go.Proofs.Ytkdloidojmccgaa.H.apF]
      rw [contains_near ws least i (by omega) _ (by rw [List.length_map]; omega) hmem K (by rw [List.length_map]; omega), Option.bind_some]
      rw [takes_succ]
      unfold Go.Proofs.Ytkdloidojmccgaa.H.apNext
      by_cases e : nearB least (o.map (fun x => rdOf ByteArray.empty ws x)) (rdOf ByteArray.empty ws (i : Int)) = true
      · rw [if_pos e, if_pos e]; exact a1
      · rw [if_neg e, if_neg e]
        rw [List.map_append] at b1
        exact b1
    · intro k hk
      obtain ⟨k, rfl⟩ : ∃ m, k = m + 1 := ⟨k - 1, by omega⟩
      simp only [spec_ChooseApart.l0]
      rw [if_pos (by omega)]
      have h := specApart_l1 ws hws hw least o hr (by omega) i (by omega) (d * 100 + 2) _ _ (fun k hk => b2 k (by omega)) (fun k hk => a2 k (by omega)) o.length 0 k true (by omega) (by omega)
      rw [show ((0 : Nat) : Int) = 0 from rfl, List.drop_zero] at h
      rw [h, takes_succ]
      by_cases e : nearB least (o.map (fun x => rdOf ByteArray.empty ws x)) (rdOf ByteArray.empty ws (i : Int)) = true
      · rw [if_pos e, if_neg (by simp [e])]
      · rw [if_neg e, if_pos (by simp [e])]
def finA (ws : List ByteArray) (least : Int) : List Int × Int :=
  if codeA [] ws = 1 then ([], 1) else if 0 ≤ least ∧ least ≤ 12 then (if codeA [] ws = 0 then (takes least ws ws.length 0 [], 0) else ([], codeA [] ws)) else ([], 2)
theorem finA_len (ws : List ByteArray) (least : Int) : (finA ws least).1.length ≤ 40 := by
  unfold finA
  split
  · simp
  · split
    · split
      · rename_i h
        have := takes_len least ws ws.length 0 []
        have h2 := codeA_len ws h
        simp only [List.length_nil] at this
        simp only; omega
      · simp
    · simp
theorem apart_codes (ws : List ByteArray) (least : Int) (hl : ws.length ≤ 1048576) (hb : ∀ s ∈ ws, s.size ≤ 2097152) (k : Nat) (hk : 6000000 ≤ k) : spec_ChooseApart.f k ws least = some (finA ws least) ∧ impl_ChooseApart.f k ws least = some (finA ws least) := by
  unfold spec_ChooseApart.f impl_ChooseApart.f finA
  rw [Option.bind_some, asked_eq [] ws (by simp) (by omega) hb k (by omega), listCode_eq ws [] [] (by simp) hl (by simp) hb (by simp) k (by omega), codeL_nil, Option.bind_some, Option.bind_some, in_eq, within_eq]
  by_cases h1 : codeA [] ws = 1
  · rw [if_pos h1, if_pos h1, if_pos h1]
    refine ⟨?_, rfl⟩
    obtain ⟨k, rfl⟩ : ∃ m, k = m + 2 := ⟨k - 2, by omega⟩
    simp only [spec_ChooseApart.j0, spec_ChooseApart.j1]
    rw [if_neg (by decide), if_neg (by omega), h1]
  · rw [if_neg h1, if_neg h1, if_neg h1, Option.bind_some, Option.bind_some]
    by_cases h2 : 0 ≤ least ∧ least ≤ 12
    · rw [decide_eq_true h2, if_pos h2, if_pos rfl]
      by_cases h3 : codeA [] ws = 0
      · have h4 := codeA_len ws h3
        have hw : ∀ w ∈ ws, w.size ≤ 12 := fun w hw => (wordsOk_mem ws h3 w hw).2
        obtain ⟨a1, a2⟩ := apart_both ws h4 hw least k (by omega) ws.length 0 [] (by omega) (by simp) (fun j hj => absurd hj (by simp))
        rw [List.map_nil] at a1
        rw [if_pos h3, if_pos h3, if_pos (by omega), a1]
        refine ⟨?_, rfl⟩
        obtain ⟨k, rfl⟩ : ∃ m, k = m + 2 := ⟨k - 2, by omega⟩
        simp only [spec_ChooseApart.j0, spec_ChooseApart.j1]
        rw [if_neg (by decide), if_pos h3]
        exact a2 k (by omega)
      · rw [if_neg h3, if_neg h3]
        refine ⟨?_, rfl⟩
        obtain ⟨k, rfl⟩ : ∃ m, k = m + 2 := ⟨k - 2, by omega⟩
        simp only [spec_ChooseApart.j0, spec_ChooseApart.j1]
        rw [if_neg (by decide), if_neg h3]
    · rw [decide_eq_false h2, if_neg h2, if_neg (by decide)]
      refine ⟨?_, rfl⟩
      obtain ⟨k, rfl⟩ : ∃ m, k = m + 2 := ⟨k - 2, by omega⟩
      simp only [spec_ChooseApart.j0, spec_ChooseApart.j1]
      rw [if_pos (by decide), if_neg (by decide)]

def mtF : Nat → Int → ByteArray → ByteArray
  | 0, _, s => s
  | d + 1, n, s => if n > 0 then mtF d (Int.tdiv n 10) (strOfNums [(wrap64 (48 + Int.tmod n 10)) % 256] ++ s) else (⟨#[109]⟩ : ByteArray) ++ s
theorem markText_l0 : ∀ (d k : Nat) (n : Int) (s : ByteArray), 0 ≤ n → n ≤ 9223372036854775807 → n < 10 ^ d → d < k → s.size + d ≤ 1000 → laws_markText.l0 k n s = some (mtF (d + 1) n s) := by
  intro d
  induction d with
  | zero =>
    intro k n s h0 h9 h1 hk hs
    obtain ⟨k, rfl⟩ : ∃ m, k = m + 1 := ⟨k - 1, by omega⟩
    have : n = 0 := by simp at h1; omega
    subst this
    simp only [laws_markText.l0, mtF]
    rw [if_neg (by decide), if_pos (by omega), if_neg (by decide)]
  | succ d ih =>
    intro k n s h0 h9 h1 hk hs
    obtain ⟨k, rfl⟩ : ∃ m, k = m + 1 := ⟨k - 1, by omega⟩
    have hz : ∀ x : Int, (strOfNums [x]).size = 1 := fun _ => rfl
    unfold mtF
    simp only [laws_markText.l0, Option.bind_some]
    by_cases h : n > 0
    · have hd : Int.tdiv n 10 = n / 10 := Int.tdiv_eq_ediv_of_nonneg h0
      have hb : n / 10 < 10 ^ d := by
        have e : (10 : Int) ^ (d + 1) = 10 ^ d * 10 := Int.pow_succ 10 d
        rw [e] at h1
        generalize (10 : Int) ^ d = z at h1
        omega
      have hw : wrap64 (Int.tdiv n 10) = Int.tdiv n 10 := by rw [hd]; exact wrap64_id _ (by omega) (by omega)
      rw [if_pos h, if_pos h, if_pos (by rw [hz]; omega), hw]
      exact ih k _ _ (by rw [hd]; omega) (by rw [hd]; omega) (by rw [hd]; exact hb) (by omega) (by rw [ByteArray.size_append, hz]; omega)
    · rw [if_neg h, if_neg h, if_pos (by omega)]
def markT (n : Int) : ByteArray := if n ≤ 0 then ⟨#[109, 48]⟩ else mtF 10 n ⟨#[]⟩
theorem markText_eq (n : Int) (h1 : n < 1000000000) (k : Nat) (hk : 9 < k) : laws_markText.f k n = some (markT n) := by
  unfold laws_markText.f markT
  by_cases h : n ≤ 0
  · rw [if_pos h, if_pos h]
  · rw [if_neg h, if_neg h]
    exact markText_l0 9 k n ⟨#[]⟩ (by omega) (by omega) (by omega) hk (by decide)
def marksT (m : Int) (n : Nat) : List ByteArray := (List.range n).map (fun (j : Nat) => markT (m + (j : Int)))
theorem marksT_length (m : Int) (n : Nat) : (marksT m n).length = n := by simp [marksT]
theorem markStringS_l0 (m : Int) (h0 : 0 ≤ m) (h1 : m ≤ 4194304) (g : List ByteArray) (hl : g.length ≤ 1048576) : ∀ (d i k : Nat), i + d = g.length → d + 10 < k → laws_markStringS.l0 k ((marksT m g.length).take i ++ g.drop i) (m + (i : Int)) (i : Int) = some (m + (g.length : Int), marksT m g.length) := by
  intro d
  induction d with
  | zero =>
    intro i k hi hk
    obtain ⟨k, rfl⟩ : ∃ m, k = m + 1 := ⟨k - 1, by omega⟩
    obtain rfl : i = g.length := by omega
    simp only [laws_markStringS.l0]
    rw [List.drop_eq_nil_of_le (Nat.le_refl _), List.take_of_length_le (by rw [marksT_length]; omega), List.append_nil, if_neg (by rw [marksT_length]; omega)]
  | succ d ih =>
    intro i k hi hk
    obtain ⟨k, rfl⟩ : ∃ m, k = m + 1 := ⟨k - 1, by omega⟩
    have hlen : (((marksT m g.length).take i ++ g.drop i).length : Int) = g.length := by simp [marksT_length]; omega
    have hstep := set_drop ((marksT m g.length).take i) g i (markT (m + (i : Int))) (by simp [marksT_length]; omega) (by omega)
    have hg : (marksT m g.length).getD i ByteArray.empty = markT (m + (i : Int)) := getD_range_map ByteArray.empty _ _ _ (by omega)
    rw [← hg, ← take_getD ByteArray.empty (marksT m g.length) i (by rw [marksT_length]; omega), hg] at hstep
    simp only [laws_markStringS.l0]
    rw [if_pos (by rw [hlen]; omega), markText_eq _ (by omega) k (by omega), Option.bind_some, if_pos (by omega), wrap_nat i (by omega), Int.toNat_natCast, wrap64_id _ (by omega) (by omega), hstep]
    have := ih (i + 1) k (by omega) (by omega)
    rw [show m + ((i + 1 : Nat) : Int) = m + (i : Int) + 1 by omega] at this
    exact this
theorem markStringS_eq (m : Int) (h0 : 0 ≤ m) (h1 : m ≤ 4194304) (g : List ByteArray) (hl : g.length ≤ 1048576) (k : Nat) (hk : g.length + 10 < k) : laws_markStringS.f k g m = some (m + (g.length : Int), marksT m g.length) := by
  unfold laws_markStringS.f
  have := markStringS_l0 m h0 h1 g hl g.length 0 k (by omega) hk
  simpa using this
theorem eqInt64S_l0 (a b : List Int) (hab : a.length = b.length) (hl : a.length ≤ 1048576) : ∀ (d i k : Nat), i + d = a.length → d < k → laws_eqInt64S.l0 k a b (i : Int) = some (decide (a.drop i = b.drop i)) := by
  intro d
  induction d with
  | zero =>
    intro i k hi hk
    obtain ⟨k, rfl⟩ : ∃ m, k = m + 1 := ⟨k - 1, by omega⟩
    simp only [laws_eqInt64S.l0]
    rw [if_neg (by omega), List.drop_eq_nil_of_le (by omega), List.drop_eq_nil_of_le (by omega)]
    simp
  | succ d ih =>
    intro i k hi hk
    obtain ⟨k, rfl⟩ : ∃ m, k = m + 1 := ⟨k - 1, by omega⟩
    have ha : a.drop i = rd a (i : Int) :: a.drop (i + 1) := by
      rw [drop_getD 0 a i (by omega)]; simp [rd]
    have hb : b.drop i = rd b (i : Int) :: b.drop (i + 1) := by
      rw [drop_getD 0 b i (by omega)]; simp [rd]
    simp only [laws_eqInt64S.l0]
    rw [if_pos (by omega), if_pos (by omega), if_pos (by omega), ha, hb]
    by_cases e : rd a (i : Int) = rd b (i : Int)
    · rw [if_pos e, wrap_nat i (by omega), ih (i + 1) k (by omega) (by omega)]
      simp [e]
    · rw [if_neg e]
      simp [e]
theorem eqInt64S_eq (a b : List Int) (hl : a.length ≤ 1048576) (k : Nat) (hk : a.length < k) : laws_eqInt64S.f k a b = some (decide (a = b)) := by
  unfold laws_eqInt64S.f
  by_cases h : a.length = b.length
  · rw [if_pos (by omega)]
    have := eqInt64S_l0 a b h hl a.length 0 k (by omega) hk
    simpa using this
  · rw [if_neg (by omega)]
    have : a ≠ b := fun e => h (by rw [e])
    simp [this]

def marks64 (m : Int) (n : Nat) : List Int := (List.range n).map (fun (j : Nat) => m + (j : Int))
theorem marks64_length (m : Int) (n : Nat) : (marks64 m n).length = n := by simp [marks64]
theorem markInt64S_l0 (m : Int) (h0 : 0 ≤ m) (h1 : m ≤ 4194304) (g : List Int) (hl : g.length ≤ 1048576) : ∀ (d i k : Nat), i + d = g.length → d < k → laws_markInt64S.l0 k ((marks64 m g.length).take i ++ g.drop i) (m + (i : Int)) (i : Int) = some (m + (g.length : Int), marks64 m g.length) := by
  intro d
  induction d with
  | zero =>
    intro i k hi hk
    obtain ⟨k, rfl⟩ : ∃ m, k = m + 1 := ⟨k - 1, by omega⟩
    obtain rfl : i = g.length := by omega
    simp only [laws_markInt64S.l0]
    rw [List.drop_eq_nil_of_le (Nat.le_refl _), List.take_of_length_le (by rw [marks64_length]; omega), List.append_nil, if_neg (by rw [marks64_length]; omega)]
  | succ d ih =>
    intro i k hi hk
    obtain ⟨k, rfl⟩ : ∃ m, k = m + 1 := ⟨k - 1, by omega⟩
    have hlen : (((marks64 m g.length).take i ++ g.drop i).length : Int) = g.length := by simp [marks64_length]; omega
    have hstep := set_drop ((marks64 m g.length).take i) g i (m + (i : Int)) (by simp [marks64_length]; omega) (by omega)
    have hg : (marks64 m g.length).getD i 0 = m + (i : Int) := getD_range_map 0 _ _ _ (by omega)
    rw [← hg, ← take_getD 0 (marks64 m g.length) i (by rw [marks64_length]; omega), hg] at hstep
    simp only [laws_markInt64S.l0]
    rw [if_pos (by rw [hlen]; omega), if_pos (by omega), wrap_nat i (by omega), Int.toNat_natCast, wrap64_id _ (by omega) (by omega), hstep]
    have := ih (i + 1) k (by omega) (by omega)
    rw [show m + ((i + 1 : Nat) : Int) = m + (i : Int) + 1 by omega] at this
    exact this
theorem markInt64S_eq (m : Int) (h0 : 0 ≤ m) (h1 : m ≤ 4194304) (g : List Int) (hl : g.length ≤ 1048576) (k : Nat) (hk : g.length < k) : laws_markInt64S.f k g m = some (m + (g.length : Int), marks64 m g.length) := by
  unfold laws_markInt64S.f
  have := markInt64S_l0 m h0 h1 g hl g.length 0 k (by omega) hk
  simpa using this
theorem heldInt64S_l0 (m : Int) (h0 : 0 ≤ m) (h1 : m ≤ 4194304) (n : Nat) (hl : n ≤ 1048576) : ∀ (d i k : Nat), i + d = n → d < k → laws_heldInt64S.l0 k (marks64 m n) (m + (i : Int)) (i : Int) = some (m + (n : Int)) := by
  intro d
  induction d with
  | zero =>
    intro i k hi hk
    obtain ⟨k, rfl⟩ : ∃ m, k = m + 1 := ⟨k - 1, by omega⟩
    obtain rfl : i = n := by omega
    simp only [laws_heldInt64S.l0]
    rw [if_neg (by rw [marks64_length]; omega)]
  | succ d ih =>
    intro i k hi hk
    obtain ⟨k, rfl⟩ : ∃ m, k = m + 1 := ⟨k - 1, by omega⟩
    have hg : rd (marks64 m n) (i : Int) = m + (i : Int) := by
      rw [rd_nat]; exact getD_range_map 0 _ _ _ (by omega)
    simp only [laws_heldInt64S.l0]
    rw [if_pos (by rw [marks64_length]; omega), if_pos (by omega), if_pos hg, wrap_nat i (by omega), wrap64_id _ (by omega) (by omega)]
    have := ih (i + 1) k (by omega) (by omega)
    rw [show m + ((i + 1 : Nat) : Int) = m + (i : Int) + 1 by omega] at this
    exact this
theorem heldInt64S_eq (m : Int) (h0 : 0 ≤ m) (h1 : m ≤ 4194304) (n : Nat) (hl : n ≤ 1048576) (k : Nat) (hk : n < k) : laws_heldInt64S.f k (marks64 m n) m = some (m + (n : Int)) := by
  unfold laws_heldInt64S.f
  have := heldInt64S_l0 m h0 h1 n hl n 0 k (by omega) hk
  simpa using this

theorem main : laws_FnExactChooseApart.Pure := by
  intro ws least hws hle
  refine rounds_of 7000000 fun k hk => ?_
  unfold laws_FnExactChooseApart.f
  have hT : ∀ s ∈ ws, s.size ≤ (total ws : Nat) := fun s hs => total_get ws s hs
  rw [szStringS_eq ws 1048576 (by decide) (by decide) hws.1 hws.2 k (by omega), Option.bind_some]
  by_cases hm : (1048576 : Int) < (ws.length : Int) + total ws
  · rw [if_pos hm, if_pos (by decide)]
  · have hb : ∀ s ∈ ws, s.size ≤ 2097152 := fun s hs => by have := hT s hs; omega
    have hwl : ws.length ≤ 1048576 := by omega
    rw [if_neg hm, if_neg (by omega), toStringS_eq ws hwl k (by omega)]
    simp only [Option.bind_some]
    rw [(apart_codes ws least hwl hb k (by omega)).1, (apart_codes ws least hwl hb k (by omega)).2]
    simp only [Option.bind_some]
    have hfl := finA_len ws least
    rw [eqInt64S_eq _ _ (by omega) k (by omega)]
    simp only [Option.bind_some, decide_true, if_true]
    obtain ⟨k, rfl⟩ : ∃ m, k = m + 3 := ⟨k - 3, by omega⟩
    simp only [laws_FnExactChooseApart.j0]
    rw [if_neg (by simp), toStringS_eq ws hwl _ (by omega), Option.bind_some, eqStringS_eq ws ws hwl _ (by omega)]
    simp only [Option.bind_some, decide_true, if_true]
    rw [markStringS_eq 1 (by decide) (by decide) ws hwl _ (by omega)]
    simp only [Option.bind_some]
    rw [if_neg (by omega), eqInt64S_eq _ _ (by omega) _ (by omega)]
    simp only [Option.bind_some, decide_true, if_true, laws_FnExactChooseApart.j1]
    rw [if_neg (by simp), markInt64S_eq 1 (by decide) (by decide) _ (by omega) _ (by omega)]
    simp only [Option.bind_some]
    rw [heldInt64S_eq 1 (by decide) (by decide) _ (by omega) _ (by omega)]
    simp only [Option.bind_some]
    rw [if_neg (by omega), if_pos trivial, toStringS_eq ws hwl _ (by omega), Option.bind_some, (apart_codes ws least hwl hb _ (by omega)).2, Option.bind_some, eqInt64S_eq _ _ (by omega) _ (by omega)]
    simp only [Option.bind_some, decide_true, if_true, laws_FnExactChooseApart.j2]
    rw [if_neg (by simp), heldInt64S_eq 1 (by decide) (by decide) _ (by omega) _ (by omega)]
    simp only [Option.bind_some]
    rw [if_neg (by omega), if_pos trivial]

end Go.Proofs.Ytkdloidojmccgaa.PureFnExactChooseApart
namespace Go.Proofs.Ytkdloidojmccgaa.Pure
theorem FnExactChooseApart : Go.Proofs.Ytkdloidojmccgaa.P.laws_FnExactChooseApart.Pure := Go.Proofs.Ytkdloidojmccgaa.PureFnExactChooseApart.main
end Go.Proofs.Ytkdloidojmccgaa.Pure
