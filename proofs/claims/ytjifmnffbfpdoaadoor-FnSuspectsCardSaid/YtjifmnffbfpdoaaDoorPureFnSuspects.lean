/- Whoever may have changed a word is among the suspects: the law FnSuspects answers true at every two lists of bytes; no condition. -/
import Derived.Test.YtjifmnffbfpdoaaDoorP10
import Derived.Laws.BitsLemmas
namespace Go.Proofs.YtjifmnffbfpdoaaDoor.PureFnSuspects
open Go.RowKit Go.Proofs.YtjifmnffbfpdoaaDoor.P Go.Proofs.YtjifmnffbfpdoaaDoorW.PrintWords Go.Proofs.YtjifmnffbfpdoaaDoorW.PrintLast
set_option linter.unusedSimpArgs false
set_option linter.unusedVariables false

theorem wrap64_id (x : Int) (h0 : -9223372036854775808 ≤ x) (h1 : x ≤ 9223372036854775807) : wrap64 x = x := by unfold wrap64; omega
theorem wrap_nat (n : Nat) (h : n < 4611686018427387904) : wrap64 ((n : Int) + 1) = ((n + 1 : Nat) : Int) := by
  rw [wrap64_id _ (by omega) (by omega)]; omega
theorem rd_nat (l : List Int) (i : Nat) : rd l (i : Int) = l.getD i 0 := by simp [rd]
theorem drop_getD {α : Type} (z : α) (l : List α) (i : Nat) (h : i < l.length) : l.drop i = l.getD i z :: l.drop (i + 1) := by
  rw [List.drop_eq_getElem_cons h, List.getD_eq_getElem?_getD, List.getElem?_eq_getElem h]; rfl
theorem take_getD {α : Type} (z : α) (l : List α) (i : Nat) (h : i < l.length) : l.take (i + 1) = l.take i ++ [l.getD i z] := by
  rw [List.take_succ_eq_append_getElem h, List.getD_eq_getElem?_getD, List.getElem?_eq_getElem h]; rfl
theorem rounds_of (B : Nat) {α : Type} {F : Nat → Option α} {v : α} (h : ∀ k, B ≤ k → F k = some v) : ∃ k, F k = some v := ⟨B, h B (Nat.le_refl _)⟩

theorem wrap_u64 (n : Int) : IntKind.u64.wrap n = n % 18446744073709551616 := by simp [IntKind.wrap, IntKind.bits, IntKind.signed]
theorem wrap_u64_id (n : Int) (h0 : 0 ≤ n) (h1 : n < 18446744073709551616) : IntKind.u64.wrap n = n := by rw [wrap_u64]; omega
theorem wf_u8 {a : Int} (h : (Lit.int .u8 a).wf = true) : 0 ≤ a ∧ a ≤ 255 := by
  simp [Lit.wf, IntKind.min, IntKind.max, IntKind.bits, IntKind.signed] at h
  omega
def letter (c : Int) : Bool := decide (97 ≤ c ∧ c ≤ 122)
theorem l04Letter_eq (c : Int) : spec_l04Letter.f c = some (letter c) := by
  unfold spec_l04Letter.f letter
  by_cases h : 97 ≤ c
  · rw [if_pos (by omega)]; simp [h]
  · rw [if_neg (by omega)]; simp [h]
theorem isLetter_eq (c : Int) : impl_isLetter.f c = some (letter c) := by
  unfold impl_isLetter.f letter
  by_cases h : 97 ≤ c
  · rw [if_pos (by omega)]; simp [h]
  · rw [if_neg (by omega)]; simp [h]
theorem in_eq (a b c : Int) : spec_l00In.f a b c = some (decide (b ≤ a ∧ a ≤ c)) := by
  unfold spec_l00In.f
  by_cases h : b ≤ a
  · rw [if_pos (by omega)]; simp [h]
  · rw [if_neg (by omega)]; simp [h]
theorem within_eq (a b c : Int) : impl_within.f a b c = some (decide (b ≤ a ∧ a ≤ c)) := by
  unfold impl_within.f
  by_cases h : b ≤ a
  · rw [if_pos (by omega)]; simp [h]
  · rw [if_neg (by omega)]; simp [h]
def lettersFrom (s : ByteArray) : Nat → Nat → Bool
  | 0, _ => true
  | d + 1, i => letter (bt s (i : Int)) && lettersFrom s d (i + 1)
def wordOk (s : ByteArray) : Bool := lettersFrom s s.size 0 && decide (1 ≤ (s.size : Int) ∧ (s.size : Int) ≤ 12)
theorem l04Word_l0 (s : ByteArray) (hs : s.size ≤ 4611686018427387900) : ∀ (d i k : Nat), i + d = s.size → d < k → spec_l04Word.l0 k s (i : Int) = some (lettersFrom s d i && decide (1 ≤ (s.size : Int) ∧ (s.size : Int) ≤ 12)) := by
  intro d
  induction d with
  | zero =>
    intro i k hi hk
    obtain ⟨k, rfl⟩ : ∃ m, k = m + 1 := ⟨k - 1, by omega⟩
    simp only [spec_l04Word.l0]
    rw [if_neg (by omega), in_eq]
    simp [lettersFrom]
  | succ d ih =>
    intro i k hi hk
    obtain ⟨k, rfl⟩ : ∃ m, k = m + 1 := ⟨k - 1, by omega⟩
    simp only [spec_l04Word.l0]
    rw [if_pos (by omega), if_pos (by omega), l04Letter_eq, Option.bind_some, wrap_nat i (by omega), ih (i + 1) k (by omega) (by omega)]
    by_cases h : letter (bt s (i : Int)) = true <;> simp [lettersFrom, h]
theorem l04Word_eq (s : ByteArray) (hs : s.size ≤ 4611686018427387900) (k : Nat) (hk : s.size < k) : spec_l04Word.f k s = some (wordOk s) := by
  unfold spec_l04Word.f wordOk
  exact l04Word_l0 s hs s.size 0 k (by omega) hk
theorem isWord_l0 (s : ByteArray) (hs : s.size ≤ 4611686018427387900) : ∀ (d i k : Nat), i + d = s.size → d < k → impl_IsWord.l0 k s (s.size : Int) (i : Int) = some (lettersFrom s d i && decide (1 ≤ (s.size : Int) ∧ (s.size : Int) ≤ 12)) := by
  intro d
  induction d with
  | zero =>
    intro i k hi hk
    obtain ⟨k, rfl⟩ : ∃ m, k = m + 1 := ⟨k - 1, by omega⟩
    simp only [impl_IsWord.l0]
    rw [if_neg (by omega), within_eq]
    simp [lettersFrom]
  | succ d ih =>
    intro i k hi hk
    obtain ⟨k, rfl⟩ : ∃ m, k = m + 1 := ⟨k - 1, by omega⟩
    simp only [impl_IsWord.l0]
    rw [if_pos (by omega), if_pos (by omega), if_pos (by omega), isLetter_eq, Option.bind_some, wrap_nat i (by omega), ih (i + 1) k (by omega) (by omega)]
    by_cases h : letter (bt s (i : Int)) = true <;> simp [lettersFrom, h]
theorem isWord_eq (s : ByteArray) (hs : s.size ≤ 4611686018427387900) (k : Nat) (hk : s.size < k) : impl_IsWord.f k s = some (wordOk s) := by
  unfold impl_IsWord.f wordOk
  exact isWord_l0 s hs s.size 0 k (by omega) hk
theorem wordOk_size (s : ByteArray) (h : wordOk s = true) : 1 ≤ s.size ∧ s.size ≤ 12 := by
  simp only [wordOk, Bool.and_eq_true, decide_eq_true_eq] at h
  omega
theorem lettersFrom_get (s : ByteArray) : ∀ (d i j : Nat), lettersFrom s d i = true → i ≤ j → j < i + d → letter (bt s (j : Int)) = true
  | 0, i, j, _, h1, h2 => by omega
  | d + 1, i, j, h, h1, h2 => by
    simp only [lettersFrom, Bool.and_eq_true] at h
    by_cases e : j = i
    · subst e; exact h.1
    · exact lettersFrom_get s d (i + 1) j h.2 (by omega) (by omega)
theorem wordOk_get (s : ByteArray) (h : wordOk s = true) (j : Nat) (hj : j < s.size) : 97 ≤ bt s (j : Int) ∧ bt s (j : Int) ≤ 122 := by
  simp only [wordOk, Bool.and_eq_true] at h
  have := lettersFrom_get s s.size 0 j h.1 (by omega) (by omega)
  simpa [letter] using this

def habitOk (t a b : Int) : Bool :=
  if t = 0 ∨ t = 3 then decide (a = 0) && decide (b = 0) else if t = 1 then letter a && letter b && decide (a ≠ b) else if t = 2 ∨ t = 4 then letter a && decide (b = 0) else false
theorem l04Habit_eq (t a b : Int) (k : Nat) (hk : 0 < k) : spec_l04Habit.f k t a b = some (habitOk t a b) := by
  obtain ⟨k, rfl⟩ : ∃ m, k = m + 1 := ⟨k - 1, by omega⟩
  unfold spec_l04Habit.f habitOk
  simp only [spec_l04Habit.j0, l04Letter_eq, Option.bind_some]
  by_cases h0 : t = 0
  · subst h0
    by_cases ha : a = 0 <;> simp [ha] <;> rfl
  · by_cases h3 : t = 3
    · subst h3
      by_cases ha : a = 0 <;> simp [ha] <;> rfl
    · by_cases h1 : t = 1
      · subst h1
        by_cases la : letter a = true <;> by_cases lb : letter b = true <;> simp [la, lb] <;> rfl
      · by_cases h2 : t = 2
        · subst h2
          by_cases la : letter a = true <;> simp [la] <;> rfl
        · by_cases h4 : t = 4
          · subst h4
            by_cases la : letter a = true <;> simp [la] <;> rfl
          · simp [h0, h1, h2, h3, h4]
theorem validHabit_eq (t a b : Int) : impl_ValidHabit.f t a b = some (habitOk t a b) := by
  unfold impl_ValidHabit.f habitOk
  simp only [isLetter_eq, Option.bind_some]
  by_cases h0 : t = 0
  · subst h0
    by_cases ha : a = 0 <;> simp [ha] <;> rfl
  · by_cases h3 : t = 3
    · subst h3
      by_cases ha : a = 0 <;> simp [ha] <;> rfl
    · by_cases h1 : t = 1
      · subst h1
        by_cases la : letter a = true <;> by_cases lb : letter b = true <;> simp [la, lb] <;> rfl
      · by_cases h2 : t = 2
        · subst h2
          by_cases la : letter a = true <;> simp [la] <;> rfl
        · by_cases h4 : t = 4
          · subst h4
            by_cases la : letter a = true <;> simp [la] <;> rfl
          · simp [h0, h1, h2, h3, h4]

theorem repl_one (a b : UInt8) : ∀ s : List UInt8, Go.Lib.replaceK [a] [b] (Go.Lib.count s [a]) s = s.map (fun c => if c = a then b else c)
  | [] => by
    have : Go.Lib.count [] [a] = 0 := by rw [Go.Lib.count_one]; rfl
    rw [this]; rfl
  | x :: l => by
    have ih := repl_one a b l
    by_cases e : x = a
    · subst e
      have hi : Go.Lib.index (x :: l) [x] = ((0 : Nat) : Int) := by
        unfold Go.Lib.index
        rw [if_pos (by simp)]
        rfl
      rw [Go.Lib.count_cons_eq, Nat.add_comm 1, Go.Lib.replaceK_hit _ _ _ _ 0 hi]
      simp only [List.take_zero, List.nil_append, List.length_cons, List.length_nil, Nat.zero_add, List.drop_one, List.tail_cons, List.map_cons]
      rw [ih, if_pos trivial]
      rfl
    · rw [Go.Lib.count_cons_ne x a l e]
      cases hk : Go.Lib.count l [a] with
      | zero =>
        rw [hk] at ih
        simp only [Go.Lib.replaceK] at ih ⊢
        rw [List.map_cons, if_neg e, ← ih]
      | succ k =>
        rw [hk] at ih
        obtain ⟨i, hi⟩ := Go.Lib.index_of_count (s := l) (old := [a]) (by omega)
        have hx : Go.Lib.index (x :: l) [a] = ((i + 1 : Nat) : Int) := by
          unfold Go.Lib.index
          rw [if_neg (by simp [List.isPrefixOf, Ne.symm e]), hi, if_neg (by simp)]
          omega
        rw [Go.Lib.replaceK_hit _ _ _ _ _ hx, List.map_cons, if_neg e, ← ih, Go.Lib.replaceK_hit _ _ _ _ _ hi]
        simp
theorem replAll_one (a b : UInt8) (s : List UInt8) : Go.Lib.replaceAll s [a] [b] = s.map (fun c => if c = a then b else c) := by
  unfold Go.Lib.replaceAll Go.Lib.replace Go.Lib.replaceNum
  by_cases e : a = b
  · subst e
    rw [if_pos (by simp)]
    have : (fun c : UInt8 => if c = a then a else c) = id := by funext c; by_cases h : c = a <;> simp [h]
    rw [this, List.map_id]
  · rw [if_neg (by simp [e]), if_pos (Or.inl (by decide)), repl_one]
theorem swap_bytes (A B : Int) (hA : 0 ≤ A ∧ A ≤ 255) (hB : 0 ≤ B ∧ B ≤ 255) (w : ByteArray) :
    (⟨(Go.Lib.replaceAll w.data.toList (strOfNums [A]).data.toList (strOfNums [B]).data.toList).toArray⟩ : ByteArray) = strOfNums ((bytesOf w).map (Go.Proofs.YtjifmnffbfpdoaaDoor.H.swap1 A B)) := by
  have e1 : (strOfNums [A]).data.toList = [UInt8.ofNat A.toNat] := rfl
  have e2 : (strOfNums [B]).data.toList = [UInt8.ofNat B.toNat] := rfl
  rw [e1, e2, replAll_one]
  unfold strOfNums bytesOf
  rw [List.map_map, List.map_map]
  congr 2
  apply List.map_congr_left
  intro c _
  simp only [Function.comp, Go.Proofs.YtjifmnffbfpdoaaDoor.H.swap1]
  have hc : ((c.toNat : Int) = A) ↔ c = UInt8.ofNat A.toNat := by
    constructor
    · intro h
      rw [← h]; simp
    · intro h
      rw [h, UInt8.toNat_ofNat']
      omega
  by_cases h : (c.toNat : Int) = A
  · rw [if_pos h, if_pos (hc.1 h)]
  · rw [if_neg h, if_neg (fun z => h (hc.2 z))]
    simp
def dropB (A : Int) (w : ByteArray) : ByteArray :=
  if Go.Lib.indexByte w.data.toList A.toNat.toUInt8 ≥ 0 then w.extract 0 (Go.Lib.indexByte w.data.toList A.toNat.toUInt8).toNat ++ w.extract ((Go.Lib.indexByte w.data.toList A.toNat.toUInt8).toNat + 1) w.size else w
def hearF (f A B : Int) (w : ByteArray) : ByteArray :=
  if f = 1 then strOfNums ((bytesOf w).map (Go.Proofs.YtjifmnffbfpdoaaDoor.H.swap1 A B))
  else if f = 2 then (if w.size = 1 then w else dropB A w)
  else if f = 3 then (if w.size < 12 then w ++ w.extract (w.size - 1) w.size else w)
  else if f = 4 then (if bt w 0 = A then strOfNums (bytesOf w).reverse else w)
  else w
theorem bt_list (w : ByteArray) (i : Nat) (h : i < w.size) : bt w (i : Int) = ((w.data.toList.getD i 0).toNat : Int) := by
  have h2 : i < w.data.toList.length := by rw [data_length]; exact h
  rw [← rd_bytesOf, rd_nat, List.getD_eq_getElem?_getD, List.getD_eq_getElem?_getD, List.getElem?_eq_getElem (by rw [bytesOf_length]; exact h), List.getElem?_eq_getElem h2]
  simp [bytesOf]
theorem indexByte_lt : ∀ (l : List UInt8) (c : UInt8), Go.Lib.indexByte l c < (l.length : Int) ∨ l = []
  | [], _ => Or.inr rfl
  | b :: l, c => by
    left
    unfold Go.Lib.indexByte
    rcases indexByte_lt l c with h | h
    · split
      · simp only [List.length_cons]; omega
      · split
        · simp only [List.length_cons]; omega
        · simp only [List.length_cons]; omega
    · subst h
      split
      · simp
      · simp [Go.Lib.indexByte]
theorem indexByte_bound (w : ByteArray) (c : UInt8) (h : 0 ≤ Go.Lib.indexByte w.data.toList c) : Go.Lib.indexByte w.data.toList c < (w.size : Int) := by
  rcases indexByte_lt w.data.toList c with g | g
  · rw [data_length] at g; exact g
  · rw [g] at h; simp [Go.Lib.indexByte] at h
def dropAt (w : ByteArray) (i : Nat) (q : Int) : ByteArray := if q ≥ 0 then w.extract 0 (i + q.toNat) ++ w.extract (i + q.toNat + 1) w.size else w
theorem specDrop_l0 (w : ByteArray) (A : Int) (hA : 0 ≤ A ∧ A ≤ 255) (hw : w.size ≤ 1048576) : ∀ (d i k : Nat), i + d = w.size → d < k →
    spec_l04Drop.l0 k w A (i : Int) = some (dropAt w i (Go.Lib.indexByte (w.data.toList.drop i) A.toNat.toUInt8)) := by
  intro d
  induction d with
  | zero =>
    intro i k hi hk
    obtain ⟨k, rfl⟩ : ∃ m, k = m + 1 := ⟨k - 1, by omega⟩
    simp only [spec_l04Drop.l0]
    rw [if_neg (by omega), List.drop_eq_nil_of_le (by rw [data_length]; omega)]
    simp [Go.Lib.indexByte, dropAt]
  | succ d ih =>
    intro i k hi hk
    obtain ⟨k, rfl⟩ : ∃ m, k = m + 1 := ⟨k - 1, by omega⟩
    have hl : i < w.data.toList.length := by rw [data_length]; omega
    have hd := drop_getD (0 : UInt8) w.data.toList i hl
    have hb := bt_list w i (by omega)
    have hc : (bt w (i : Int) = A) ↔ (w.data.toList.getD i 0 == A.toNat.toUInt8) = true := by
      rw [hb, beq_iff_eq]
      generalize w.data.toList.getD i 0 = c
      constructor
      · intro h; rw [← h]; simp
      · intro h; rw [h]; simp; omega
    simp only [spec_l04Drop.l0]
    rw [if_pos (by omega), if_pos (by omega), hd, wrap_nat i (by omega)]
    simp only [Go.Lib.indexByte]
    by_cases e : bt w (i : Int) = A
    · rw [if_pos e, if_pos (hc.1 e), if_pos (by omega), if_pos (by omega), if_pos (by omega)]
      have hs : (w.extract 0 (i : Int).toNat).size + (w.extract ((i + 1 : Nat) : Int).toNat w.size).size ≤ 9223372036854775807 := by
        simp only [ByteArray.size_extract]; omega
      rw [if_pos hs]
      unfold dropAt
      rw [if_pos (by decide)]
      simp
    · rw [if_neg e, if_neg (fun z => e (hc.2 z)), ih (i + 1) k (by omega) (by omega)]
      generalize hq : Go.Lib.indexByte (w.data.toList.drop (i + 1)) A.toNat.toUInt8 = q
      have hge : -1 ≤ q := by rw [← hq]; exact Go.Lib.indexByte_ge _ _
      by_cases g : q = -1
      · subst g; rfl
      · have e1 : (q == -1) = false := beq_eq_false_iff_ne.2 g
        rw [e1, if_neg (by decide)]
        unfold dropAt
        rw [if_pos (show q ≥ 0 by omega), if_pos (show q + 1 ≥ 0 by omega)]
        rw [show i + 1 + q.toNat = i + (q + 1).toNat by omega]
theorem specDrop_eq (w : ByteArray) (A : Int) (hA : 0 ≤ A ∧ A ≤ 255) (hw : w.size ≤ 1048576) (k : Nat) (hk : w.size < k) : spec_l04Drop.f k w A = some (if w.size = 1 then w else dropB A w) := by
  unfold spec_l04Drop.f dropB
  by_cases h : w.size = 1
  · rw [if_pos (by omega), if_pos h]
  · rw [if_neg (by omega), if_neg h]
    have := specDrop_l0 w A hA hw w.size 0 k (by omega) hk
    rw [show ((0 : Nat) : Int) = 0 from rfl, List.drop_zero] at this
    rw [this]
    unfold dropAt
    simp only [Nat.zero_add]
theorem specTurn_l0 (w : ByteArray) (hw : w.size ≤ 1048576) : ∀ (j k : Nat) (xs : List Int), j ≤ w.size → j < k → xs.length + j ≤ 1048576 → spec_l04Turn.l0 k w xs ((j : Int) - 1) = some (strOfNums (xs ++ ((bytesOf w).take j).reverse)) := by
  intro j
  induction j with
  | zero =>
    intro k xs hj hk hx
    obtain ⟨k, rfl⟩ : ∃ m, k = m + 1 := ⟨k - 1, by omega⟩
    simp only [spec_l04Turn.l0]
    rw [if_neg (by omega)]
    simp
  | succ j ih =>
    intro k xs hj hk hx
    obtain ⟨k, rfl⟩ : ∃ m, k = m + 1 := ⟨k - 1, by omega⟩
    simp only [spec_l04Turn.l0]
    have e : (((j + 1 : Nat) : Int) - 1) = (j : Int) := by omega
    rw [e, if_pos (by omega), if_pos (by omega), if_pos (by omega), if_pos (by omega), wrap64_id _ (by omega) (by omega), ih k _ (by omega) (by omega) (by simp; omega)]
    have ht := take_getD 0 (bytesOf w) j (by rw [bytesOf_length]; omega)
    rw [ht, ← rd_nat, rd_bytesOf]
    simp
theorem specTurn_eq (w : ByteArray) (hw : w.size ≤ 524288) (k : Nat) (hk : w.size < k) : spec_l04Turn.f k w = some (strOfNums (bytesOf w).reverse) := by
  unfold spec_l04Turn.f
  rw [wrap64_id _ (by omega) (by omega), specTurn_l0 w (by omega) w.size k [] (by omega) hk (by simp; omega), List.take_of_length_le (by rw [bytesOf_length]; omega), List.nil_append]
theorem specHear_eq (f A B : Int) (hA : 0 ≤ A ∧ A ≤ 255) (w : ByteArray) (h1 : 1 ≤ w.size) (h2 : w.size ≤ 12) (k : Nat) (hk : 20 < k) : spec_l04Hear.f k f A B w = some (hearF f A B w) := by
  obtain ⟨k, rfl⟩ : ∃ m, k = m + 1 := ⟨k - 1, by omega⟩
  have hs : w.size + (w.extract (w.size - 1) w.size).size ≤ 9223372036854775807 := by simp only [ByteArray.size_extract]; omega
  have hsz : wrap64 ((w.size : Int) - 1) = (w.size : Int) - 1 := wrap64_id _ (by omega) (by omega)
  have hn : ((w.size : Int) - 1).toNat = w.size - 1 := by omega
  unfold spec_l04Hear.f hearF spec_l04Swap.f
  by_cases c1 : f = 1
  · rw [if_pos c1, if_pos c1, if_pos (by omega)]; rfl
  · rw [if_neg c1, if_neg c1]
    by_cases c2 : f = 2
    · rw [if_pos c2, if_pos c2, specDrop_eq w A hA (by omega) _ (by omega)]; rfl
    · rw [if_neg c2, if_neg c2]
      have hj : spec_l04Hear.j0 (k + 1) w false f A B = some (if f = 4 then (if bt w 0 = A then strOfNums (bytesOf w).reverse else w) else w) := by
        simp only [spec_l04Hear.j0]
        rw [if_neg (by decide)]
        by_cases c4 : f = 4
        · rw [if_pos c4, if_pos c4, if_pos (by omega)]
          by_cases c5 : bt w 0 = A
          · rw [if_pos c5, if_pos c5, specTurn_eq w (by omega) k (by omega)]; rfl
          · rw [if_neg c5, if_neg c5]
        · rw [if_neg c4, if_neg c4]
      by_cases c3 : f = 3
      · rw [if_pos c3, if_pos c3]
        by_cases c6 : w.size < 12
        · rw [if_pos c6, decide_eq_true (by omega)]
          simp only [spec_l04Hear.j0, hsz, hn]
          rw [if_pos trivial, if_pos (by omega), if_pos (by omega), if_pos hs]
        · rw [if_neg c6, decide_eq_false (by omega), hj, if_neg (by omega)]
      · rw [if_neg c3, if_neg c3, hj]
theorem implHear_eq (f A B m : Int) (hA : 0 ≤ A ∧ A ≤ 255) (hB : 0 ≤ B ∧ B ≤ 255) (w : ByteArray) (h1 : 1 ≤ w.size) (h2 : w.size ≤ 12) : impl_Habit_hear.f f A B w m = some (hearF f A B w) := by
  have hs : w.size + (w.extract (w.size - 1) w.size).size ≤ 9223372036854775807 := by simp only [ByteArray.size_extract]; omega
  have hsz : wrap64 ((w.size : Int) - 1) = (w.size : Int) - 1 := wrap64_id _ (by omega) (by omega)
  have hn : ((w.size : Int) - 1).toNat = w.size - 1 := by omega
  have s1 : ∀ x : Int, (strOfNums [x]).size = 1 := fun _ => rfl
  unfold impl_Habit_hear.f hearF
  by_cases c1 : f = 1
  · rw [if_pos c1, if_pos c1]
    unfold strings_ReplaceAll.f
    rw [if_pos (by omega), if_pos (s1 A), if_pos (by rw [s1 B]; omega), swap_bytes A B hA hB w]
    rfl
  · rw [if_neg c1, if_neg c1]
    by_cases c2 : f = 2
    · rw [if_pos c2, if_pos c2]
      unfold strings_IndexByte.f dropB
      rw [Option.bind_some]
      have hb := indexByte_bound w A.toNat.toUInt8
      generalize Go.Lib.indexByte w.data.toList A.toNat.toUInt8 = q at hb
      by_cases g : q ≥ 0
      · have hq := hb g
        rw [if_pos g, if_pos g]
        by_cases c : w.size = 1
        · rw [if_neg (by omega), if_pos c]
        · have hw1 : wrap64 (q + 1) = q + 1 := wrap64_id _ (by omega) (by omega)
          have hn2 : (q + 1).toNat = q.toNat + 1 := by omega
          have hs2 : (w.extract 0 q.toNat).size + (w.extract (q.toNat + 1) w.size).size ≤ 9223372036854775807 := by simp only [ByteArray.size_extract]; omega
          rw [hw1, hn2, if_pos (by omega), if_pos g, if_pos (by omega), if_pos (by omega), if_pos (by omega), if_pos hs2, if_neg c]
      · rw [if_neg g, if_neg g]
        by_cases c : w.size = 1
        · rw [if_pos c]
        · rw [if_neg c]
    · rw [if_neg c2, if_neg c2]
      by_cases c3 : f = 3
      · rw [if_pos c3, if_pos c3]
        by_cases c6 : w.size < 12
        · rw [if_pos c6, if_pos (by omega), hsz, hn, if_pos (by omega), if_pos (by omega), if_pos hs]
        · rw [if_neg c6, if_neg (by omega)]
      · rw [if_neg c3, if_neg c3]
        by_cases c4 : f = 4
        · rw [if_pos c4, if_pos c4, if_pos (by omega)]
          by_cases c5 : bt w 0 = A
          · rw [if_pos c5, if_pos c5]
            unfold impl_turned.f
            rw [if_pos (by omega)]
            rfl
          · rw [if_neg c5, if_neg c5]
        · rw [if_neg c4, if_neg c4]

theorem wordOk_iff (w : ByteArray) : wordOk w = true ↔ (1 ≤ w.size ∧ w.size ≤ 12) ∧ ∀ x ∈ bytesOf w, letter x = true := by
  constructor
  · intro h
    refine ⟨wordOk_size w h, fun x hx => ?_⟩
    obtain ⟨j, hj, rfl⟩ := List.mem_iff_getElem.1 hx
    have hj' : j < w.size := by rwa [bytesOf_length] at hj
    have h2 := wordOk_get w h j hj'
    rw [← rd_bytesOf, rd_nat, List.getD_eq_getElem?_getD, List.getElem?_eq_getElem hj] at h2
    simpa [letter] using h2
  · intro ⟨hs, hl⟩
    have hf : ∀ d i, i + d = w.size → lettersFrom w d i = true := by
      intro d
      induction d with
      | zero => intro i _; rfl
      | succ d ih =>
        intro i hi
        unfold lettersFrom
        rw [Bool.and_eq_true]
        refine ⟨?_, ih (i + 1) (by omega)⟩
        have hj : i < (bytesOf w).length := by rw [bytesOf_length]; omega
        have := hl _ (List.getElem_mem hj)
        rw [← rd_bytesOf, rd_nat, List.getD_eq_getElem?_getD, List.getElem?_eq_getElem hj]
        exact this
    unfold wordOk
    rw [hf w.size 0 (by omega), Bool.true_and]
    exact decide_eq_true (by omega)
theorem bytesOf_strOfNums (xs : List Int) (h : ∀ x ∈ xs, 0 ≤ x ∧ x ≤ 255) : bytesOf (strOfNums xs) = xs := by
  apply List.ext_getElem?
  intro j
  unfold bytesOf strOfNums
  simp only [List.toList_toArray, List.map_map, List.getElem?_map]
  cases hq : xs[j]? with
  | none => rfl
  | some x =>
    have hx := h x (List.mem_of_getElem? hq)
    obtain ⟨n, rfl⟩ := Int.eq_ofNat_of_zero_le hx.1
    simp
    omega
theorem bytesOf_append (a b : ByteArray) : bytesOf (a ++ b) = bytesOf a ++ bytesOf b := by
  unfold bytesOf
  simp
theorem mem_extract (w : ByteArray) (i j : Nat) (x : Int) (h : x ∈ bytesOf (w.extract i j)) : x ∈ bytesOf w := by
  unfold bytesOf at h ⊢
  obtain ⟨b, hb, rfl⟩ := List.mem_map.1 h
  refine List.mem_map.2 ⟨b, ?_, rfl⟩
  rw [ByteArray.data_extract, Array.toList_extract] at hb
  exact List.mem_of_mem_drop (List.mem_of_mem_take hb)
theorem hearF_word (f A B : Int) (hk : habitOk f A B = true) (w : ByteArray) (h : wordOk w = true) (hok : 1 ≤ (hearF f A B w).size ∧ (hearF f A B w).size ≤ 12) : wordOk (hearF f A B w) = true := by
  have hb := ((wordOk_iff w).1 h).2
  rw [wordOk_iff]
  refine ⟨hok, ?_⟩
  have hr : ∀ x ∈ bytesOf w, 0 ≤ x ∧ x ≤ 255 := fun x hx => by
    have := hb x hx
    simp only [letter, decide_eq_true_eq] at this
    omega
  unfold hearF
  by_cases f1 : f = 1
  · rw [if_pos f1]
    have hB : letter B = true := by
      subst f1
      unfold habitOk at hk
      rw [if_neg (by decide), if_pos rfl, Bool.and_eq_true, Bool.and_eq_true] at hk
      exact hk.1.2
    have hall : ∀ y ∈ (bytesOf w).map (Go.Proofs.YtjifmnffbfpdoaaDoor.H.swap1 A B), letter y = true := by
      intro y hy
      obtain ⟨x, hx, rfl⟩ := List.mem_map.1 hy
      unfold Go.Proofs.YtjifmnffbfpdoaaDoor.H.swap1
      by_cases e : x = A
      · rw [if_pos e]; exact hB
      · rw [if_neg e]; exact hb x hx
    rw [bytesOf_strOfNums _ (fun y hy => by
      have := hall y hy
      simp only [letter, decide_eq_true_eq] at this
      omega)]
    exact hall
  · rw [if_neg f1]
    by_cases f2 : f = 2
    · rw [if_pos f2]
      by_cases s1 : w.size = 1
      · rw [if_pos s1]; exact hb
      · rw [if_neg s1]
        unfold dropB
        split
        · intro x hx
          rw [bytesOf_append, List.mem_append] at hx
          rcases hx with hx | hx
          · exact hb x (mem_extract _ _ _ _ hx)
          · exact hb x (mem_extract _ _ _ _ hx)
        · exact hb
    · rw [if_neg f2]
      by_cases f3 : f = 3
      · rw [if_pos f3]
        split
        · intro x hx
          rw [bytesOf_append, List.mem_append] at hx
          rcases hx with hx | hx
          · exact hb x hx
          · exact hb x (mem_extract _ _ _ _ hx)
        · exact hb
      · rw [if_neg f3]
        by_cases f4 : f = 4
        · rw [if_pos f4]
          split
          · rw [bytesOf_strOfNums _ (fun y hy => hr y (List.mem_reverse.1 hy))]
            exact fun x hx => hb x (List.mem_reverse.1 hx)
          · exact hb
        · rw [if_neg f4]; exact hb

theorem rdS_nat (l : List ByteArray) (i : Nat) : rdOf ByteArray.empty l (i : Int) = l.getD i ByteArray.empty := by simp [rdOf]
theorem drop_rdS (l : List ByteArray) (i : Nat) (h : i < l.length) : l.drop i = rdOf ByteArray.empty l (i : Int) :: l.drop (i + 1) := by
  rw [drop_getD ByteArray.empty l i h, rdS_nat]
def habitsOk (l : List S41) : Bool := l.all (fun h => habitOk h.f0 h.f1 h.f2)
def wordsOk (l : List ByteArray) : Bool := l.all wordOk
theorem drop_hab (l : List S41) (i : Nat) (h : i < l.length) : l.drop i = rd_T41 l (i : Int) :: l.drop (i + 1) := by
  rw [drop_getD z41 l i h]; simp [rd_T41]
def codeA (hs : List S41) (ws : List ByteArray) : Int :=
  if habitsOk hs = true ∧ wordsOk ws = true then if hs.length ≤ 30 then if ws.length ≤ 40 then 0 else 3 else 3 else 1
theorem asked_l1 (hs : List S41) (ws : List ByteArray) (hw : ws.length ≤ 2097152) (hb : ∀ s ∈ ws, s.size ≤ 2097152) : ∀ (d i k : Nat), i + d = ws.length → d + 2097152 < k → spec_l04Asked.l1 k hs ws (i : Int) = some (if wordsOk (ws.drop i) = true then if hs.length ≤ 30 then if ws.length ≤ 40 then 0 else 3 else 3 else 1) := by
  intro d
  induction d with
  | zero =>
    intro i k hi hk
    obtain ⟨k, rfl⟩ : ∃ m, k = m + 1 := ⟨k - 1, by omega⟩
    simp only [spec_l04Asked.l1]
    rw [if_neg (by omega), List.drop_eq_nil_of_le (by omega), show wordsOk [] = true from rfl, if_pos rfl]
    by_cases h1 : hs.length ≤ 30
    · by_cases h2 : ws.length ≤ 40
      · rw [if_neg (by omega), if_neg (by omega), if_pos h1, if_pos h2]
      · rw [if_neg (by omega), if_pos (by omega), if_pos h1, if_neg h2]
    · rw [if_pos (by omega), if_neg h1]
  | succ d ih =>
    intro i k hi hk
    obtain ⟨k, rfl⟩ : ∃ m, k = m + 1 := ⟨k - 1, by omega⟩
    have hm : rdOf ByteArray.empty ws (i : Int) ∈ ws := by
      rw [rdS_nat, List.getD_eq_getElem?_getD, List.getElem?_eq_getElem (by omega)]
      exact List.getElem_mem _
    have hsz := hb _ hm
    simp only [spec_l04Asked.l1]
    rw [if_pos (by omega), if_pos (by omega), l04Word_eq _ (by omega) k (by omega), Option.bind_some, wrap_nat i (by omega), ih (i + 1) k (by omega) (by omega), drop_rdS ws i (by omega)]
    by_cases h : wordOk (rdOf ByteArray.empty ws (i : Int)) = true <;> simp [wordsOk, h]
theorem asked_l0 (hs : List S41) (ws : List ByteArray) (hh : hs.length ≤ 1048576) (hw : ws.length ≤ 2097152) (hb : ∀ s ∈ ws, s.size ≤ 2097152) : ∀ (d i k : Nat), i + d = hs.length → d + 4194310 < k → spec_l04Asked.l0 k hs ws (i : Int) = some (if habitsOk (hs.drop i) = true ∧ wordsOk ws = true then if hs.length ≤ 30 then if ws.length ≤ 40 then 0 else 3 else 3 else 1) := by
  intro d
  induction d with
  | zero =>
    intro i k hi hk
    obtain ⟨k, rfl⟩ : ∃ m, k = m + 1 := ⟨k - 1, by omega⟩
    have h := asked_l1 hs ws hw hb ws.length 0 k (by omega) (by omega)
    rw [show ((0 : Nat) : Int) = 0 from rfl, List.drop_zero] at h
    simp only [spec_l04Asked.l0]
    rw [if_neg (by omega), List.drop_eq_nil_of_le (by omega), h]
    simp [habitsOk]
  | succ d ih =>
    intro i k hi hk
    obtain ⟨k, rfl⟩ : ∃ m, k = m + 1 := ⟨k - 1, by omega⟩
    simp only [spec_l04Asked.l0]
    rw [if_pos (by omega), if_pos (by omega), l04Habit_eq _ _ _ k (by omega), Option.bind_some, wrap_nat i (by omega), ih (i + 1) k (by omega) (by omega), drop_hab hs i (by omega)]
    by_cases h : habitOk (rd_T41 hs (i : Int)).f0 (rd_T41 hs (i : Int)).f1 (rd_T41 hs (i : Int)).f2 = true <;> simp [habitsOk, h]
theorem asked_eq (hs : List S41) (ws : List ByteArray) (hh : hs.length ≤ 1048576) (hw : ws.length ≤ 2097152) (hb : ∀ s ∈ ws, s.size ≤ 2097152) (k : Nat) (hk : 5242890 < k) : spec_l04Asked.f k hs ws = some (codeA hs ws) := by
  unfold spec_l04Asked.f codeA
  have h := asked_l0 hs ws hh hw hb hs.length 0 k (by omega) (by omega)
  rw [show ((0 : Nat) : Int) = 0 from rfl, List.drop_zero] at h
  exact h
theorem findH_l0 (l : List S41) (hl : l.length ≤ 1048576) : ∀ (d i k : Nat), i + d = l.length → d < k → ∃ r : Int, slices_IndexFunc_Habit_at_chainCode_1.l0 k l (l.length : Int) (i : Int) = some r ∧ decide (r ≥ 0) = !habitsOk (l.drop i) := by
  intro d
  induction d with
  | zero =>
    intro i k hi hk
    obtain ⟨k, rfl⟩ : ∃ m, k = m + 1 := ⟨k - 1, by omega⟩
    refine ⟨-1, ?_, ?_⟩
    · simp only [slices_IndexFunc_Habit_at_chainCode_1.l0]
      rw [if_neg (by omega)]
    · rw [List.drop_eq_nil_of_le (by omega)]; simp [habitsOk]
  | succ d ih =>
    intro i k hi hk
    obtain ⟨k, rfl⟩ : ∃ m, k = m + 1 := ⟨k - 1, by omega⟩
    simp only [slices_IndexFunc_Habit_at_chainCode_1.l0, impl_chainCode_1.f]
    rw [if_pos (by omega), if_pos (by omega), if_pos (by omega), validHabit_eq, Option.bind_some, Option.bind_some, drop_hab l i (by omega), wrap_nat i (by omega)]
    by_cases h : habitOk (rd_T41 l (i : Int)).f0 (rd_T41 l (i : Int)).f1 (rd_T41 l (i : Int)).f2 = true
    · obtain ⟨r, h1, h2⟩ := ih (i + 1) k (by omega) (by omega)
      refine ⟨r, by rw [if_neg (by simp [h])]; exact h1, ?_⟩
      rw [h2]; simp [habitsOk, h]
    · refine ⟨(i : Int), by rw [if_pos (by simpa using h)], ?_⟩
      simp only [habitsOk, List.all_cons, Bool.eq_false_iff.2 h, Bool.false_and, Bool.not_false]
      exact decide_eq_true (by omega)
theorem findW_l0 (l : List ByteArray) (hl : l.length ≤ 2097153) (hb : ∀ s ∈ l, s.size ≤ 2097152) : ∀ (d i k : Nat), i + d = l.length → d + 2097152 < k → ∃ r : Int, slices_IndexFunc_Sstring_string_at_chainCode_2.l0 k l (l.length : Int) (i : Int) = some r ∧ decide (r ≥ 0) = !wordsOk (l.drop i) := by
  intro d
  induction d with
  | zero =>
    intro i k hi hk
    obtain ⟨k, rfl⟩ : ∃ m, k = m + 1 := ⟨k - 1, by omega⟩
    refine ⟨-1, ?_, ?_⟩
    · simp only [slices_IndexFunc_Sstring_string_at_chainCode_2.l0]
      rw [if_neg (by omega)]
    · rw [List.drop_eq_nil_of_le (by omega)]; simp [wordsOk]
  | succ d ih =>
    intro i k hi hk
    obtain ⟨k, rfl⟩ : ∃ m, k = m + 1 := ⟨k - 1, by omega⟩
    have hm : rdOf ByteArray.empty l (i : Int) ∈ l := by
      rw [rdS_nat, List.getD_eq_getElem?_getD, List.getElem?_eq_getElem (by omega)]
      exact List.getElem_mem _
    have hsz := hb _ hm
    simp only [slices_IndexFunc_Sstring_string_at_chainCode_2.l0, impl_chainCode_2.f]
    rw [if_pos (by omega), if_pos (by omega), if_pos (by omega), isWord_eq _ (by omega) k (by omega), Option.bind_some, Option.bind_some, drop_rdS l i (by omega), wrap_nat i (by omega)]
    by_cases h : wordOk (rdOf ByteArray.empty l (i : Int)) = true
    · obtain ⟨r, h1, h2⟩ := ih (i + 1) k (by omega) (by omega)
      refine ⟨r, by rw [if_neg (by simp [h])]; exact h1, ?_⟩
      rw [h2]; simp [wordsOk, h]
    · refine ⟨(i : Int), by rw [if_pos (by simpa using h)], ?_⟩
      simp only [wordsOk, List.all_cons, Bool.eq_false_iff.2 h, Bool.false_and, Bool.not_false]
      exact decide_eq_true (by omega)
def codeH (hs : List S41) (ws : List ByteArray) : Int :=
  if habitsOk hs = true ∧ wordsOk ws = true then if hs.length ≤ 30 then 0 else 3 else 1
theorem chainCode_eq (hs : List S41) (ws : List ByteArray) (hh : hs.length ≤ 1048576) (hw : ws.length ≤ 2097153) (hb : ∀ s ∈ ws, s.size ≤ 2097152) (k : Nat) (hk : 5242890 < k) : impl_chainCode.f k hs ws = some (codeH hs ws) := by
  unfold impl_chainCode.f codeH slices_ContainsFunc_Habit_at_chainCode_1.f slices_IndexFunc_Habit_at_chainCode_1.f slices_ContainsFunc_Sstring_string_at_chainCode_2.f slices_IndexFunc_Sstring_string_at_chainCode_2.f impl_unless.f
  obtain ⟨r, h1, h2⟩ := findH_l0 hs hh hs.length 0 k (by omega) (by omega)
  obtain ⟨q, g1, g2⟩ := findW_l0 ws hw hb ws.length 0 k (by omega) (by omega)
  rw [show ((0 : Nat) : Int) = 0 from rfl] at h1 g1
  rw [List.drop_zero] at h2 g2
  simp only [h1, g1, Option.bind_some, h2, g2]
  by_cases e1 : habitsOk hs = true <;> by_cases e2 : wordsOk ws = true <;> by_cases e3 : hs.length ≤ 30
  all_goals first
    | (have e4 : (hs.length : Int) ≤ 30 := by omega
       simp [e1, e2, e3, e4])
    | (have e4 : ¬ (hs.length : Int) ≤ 30 := by omega
       simp [e1, e2, e3, e4])
theorem concat2_eq (a b : List ByteArray) (ha : a.length ≤ 1048576) (hb : b.length ≤ 1048576) (k : Nat) (hk : 10 < k) : slices_Concat_Sstring_string.f k [a, b] = some (a ++ b) := by
  obtain ⟨k, rfl⟩ : ∃ m, k = m + 8 := ⟨k - 8, by omega⟩
  have r0 : rd_L4 [a, b] 0 = a := rfl
  have r1 : rd_L4 [a, b] 1 = b := rfl
  have w0 : wrap64 (0 + (a.length : Int)) = a.length := by rw [wrap64_id _ (by omega) (by omega)]; omega
  have w1 : wrap64 ((a.length : Int) + b.length) = (a.length : Int) + b.length := wrap64_id _ (by omega) (by omega)
  have w2 : wrap64 (0 + 1) = 1 := wrap64_id _ (by decide) (by decide)
  have w3 : wrap64 (1 + 1) = 2 := wrap64_id _ (by decide) (by decide)
  have hg : slices_Grow_Sstring_string_at_nil.f ((a.length : Int) + b.length) = some [] := by
    unfold slices_Grow_Sstring_string_at_nil.f
    rw [wrap64_id _ (by omega) (by omega), if_neg (by omega)]
    by_cases h : (a.length : Int) + b.length > 0
    · rw [if_pos h, if_pos (by omega), if_pos (by simp; omega), Option.bind_some, if_pos (by omega)]
      rfl
    · rw [if_neg h]
  unfold slices_Concat_Sstring_string.f
  have hl2 : (([a, b] : List (List ByteArray)).length : Int) = 2 := rfl
  rw [hl2]
  simp only [slices_Concat_Sstring_string.l0, hl2]
  rw [if_pos (by decide), if_pos (by decide), if_pos (by decide), r0, w0, if_neg (by omega), w2, if_pos (by decide), if_pos (by decide), if_pos (by decide), r1, w1, if_neg (by omega), w3, if_neg (by decide), hg, Option.bind_some]
  simp only [slices_Concat_Sstring_string.l1, hl2]
  rw [if_pos (by decide), if_pos (by decide), if_pos (by decide), r0, if_pos (by simp; omega), w2, if_pos (by decide), if_pos (by decide), if_pos (by decide), r1, if_pos (by simp; omega), w3, if_neg (by decide)]
  simp
def codeL (ws : List ByteArray) (hs : List S41) (more : List ByteArray) : Int :=
  if codeH hs (ws ++ more) = 0 then if ws.length ≤ 40 then 0 else 3 else codeH hs (ws ++ more)
theorem listCode_eq (ws : List ByteArray) (hs : List S41) (more : List ByteArray) (hh : hs.length ≤ 1048576) (hw : ws.length ≤ 1048576) (hm : more.length ≤ 1) (hb : ∀ s ∈ ws, s.size ≤ 2097152) (hb2 : ∀ s ∈ more, s.size ≤ 2097152) (k : Nat) (hk : 5242890 < k) : impl_listCode.f k ws hs more = some (codeL ws hs more) := by
  unfold impl_listCode.f codeL impl_unless.f
  rw [concat2_eq ws more hw (by omega) k (by omega), Option.bind_some, chainCode_eq hs (ws ++ more) hh (by rw [List.length_append]; omega) (fun s h => (List.mem_append.1 h).elim (hb s) (hb2 s)) k hk, Option.bind_some]
  by_cases e : codeH hs (ws ++ more) = 0
  · rw [if_pos e, if_pos e]
    by_cases g : ws.length ≤ 40
    · have g' : (ws.length : Int) ≤ 40 := by omega
      simp [g, g']
    · have g' : ¬ (ws.length : Int) ≤ 40 := by omega
      simp [g, g']
  · rw [if_neg e, if_neg e]

instance decHabit : DecidableEq S41 := fun x y =>
  if h : x.f0 = y.f0 ∧ x.f1 = y.f1 ∧ x.f2 = y.f2 then isTrue (by obtain ⟨a, b, c⟩ := x; obtain ⟨a', b', c'⟩ := y; simp only at h; rw [h.1, h.2.1, h.2.2]) else isFalse (fun e => h (by rw [e]; exact ⟨rfl, rfl, rfl⟩))
def habR (h : S41) : Prop := (0 ≤ h.f1 ∧ h.f1 ≤ 255) ∧ (0 ≤ h.f2 ∧ h.f2 ≤ 255)
theorem mem_hab (s : List S41) (i : Nat) (h : i < s.length) : rd_T41 s (i : Int) ∈ s := by
  have h2 : rd_T41 s (i : Int) = s.getD i z41 := by simp [rd_T41]
  rw [h2, List.getD_eq_getElem?_getD, List.getElem?_eq_getElem h]
  exact List.getElem_mem _
def hearH (h : S41) (w : ByteArray) : ByteArray := hearF h.f0 h.f1 h.f2 w
def okW (w : ByteArray) : Prop := 1 ≤ w.size ∧ w.size ≤ 12
theorem hearF_ok (f A B : Int) (w : ByteArray) (h : okW w) : okW (hearF f A B w) := by
  unfold okW at h ⊢
  unfold hearF
  split
  · rw [strOfNums_size, List.length_map, bytesOf_length]; exact h
  · split
    · split
      · exact h
      · unfold dropB
        split
        · rename_i h2 hq
          have hb := indexByte_bound w A.toNat.toUInt8 hq
          simp only [ByteArray.size_append, ByteArray.size_extract]
          omega
        · exact h
    · split
      · split
        · simp only [ByteArray.size_append, ByteArray.size_extract]
          omega
        · exact h
      · split
        · split
          · rw [strOfNums_size, List.length_reverse, bytesOf_length]; exact h
          · exact h
        · exact h
def passF (hs : List S41) (w : ByteArray) : ByteArray := hs.foldl (fun w h => hearH h w) w
def saidF : List S41 → ByteArray → List ByteArray
  | [], _ => []
  | h :: r, w => hearH h w :: saidF r (hearH h w)
theorem saidF_length : ∀ (hs : List S41) (w : ByteArray), (saidF hs w).length = hs.length
  | [], _ => rfl
  | h :: r, w => by simp [saidF, saidF_length r]
theorem saidF_last : ∀ (hs : List S41) (w : ByteArray), (w :: saidF hs w).getD hs.length ByteArray.empty = passF hs w
  | [], w => rfl
  | h :: r, w => by
    have := saidF_last r (hearH h w)
    simp only [saidF, List.length_cons, passF, List.foldl_cons]
    exact this
theorem specPass_l0 (hs : List S41) (hl : hs.length ≤ 1048576) (hr : ∀ h ∈ hs, habR h) : ∀ (d i k : Nat) (w : ByteArray), i + d = hs.length → d + 30 < k → okW w → spec_l04Pass.l0 k hs w (i : Int) = some (passF (hs.drop i) w) := by
  intro d
  induction d with
  | zero =>
    intro i k w hi hk hw
    obtain ⟨k, rfl⟩ : ∃ m, k = m + 1 := ⟨k - 1, by omega⟩
    simp only [spec_l04Pass.l0]
    rw [if_neg (by omega), List.drop_eq_nil_of_le (by omega)]
    rfl
  | succ d ih =>
    intro i k w hi hk hw
    obtain ⟨k, rfl⟩ : ∃ m, k = m + 1 := ⟨k - 1, by omega⟩
    have hh := hr _ (mem_hab hs i (by omega))
    simp only [spec_l04Pass.l0]
    rw [if_pos (by omega), if_pos (by omega), specHear_eq _ _ _ hh.1 w hw.1 hw.2 k (by omega), Option.bind_some, wrap_nat i (by omega), ih (i + 1) k _ (by omega) (by omega) (hearF_ok _ _ _ w hw), drop_hab hs i (by omega)]
    rfl
theorem specPass_eq (hs : List S41) (hl : hs.length ≤ 1048576) (hr : ∀ h ∈ hs, habR h) (w : ByteArray) (hw : okW w) (k : Nat) (hk : hs.length + 30 < k) : spec_l04Pass.f k hs w = some (passF hs w) := by
  unfold spec_l04Pass.f
  have := specPass_l0 hs hl hr hs.length 0 k w (by omega) hk hw
  rw [show ((0 : Nat) : Int) = 0 from rfl, List.drop_zero] at this
  exact this
theorem implHeard_l0 (hs : List S41) (m : Int) (hl : hs.length ≤ 1048576) (hr : ∀ h ∈ hs, habR h) : ∀ (d i k : Nat) (w : ByteArray) (xs : List ByteArray), i + d = hs.length → d < k → okW w → xs.length ≤ i + 1 → impl_heard.l0 k w xs hs (hs.length : Int) (i : Int) m = some (xs ++ saidF (hs.drop i) w) := by
  intro d
  induction d with
  | zero =>
    intro i k w xs hi hk hw hx
    obtain ⟨k, rfl⟩ : ∃ m, k = m + 1 := ⟨k - 1, by omega⟩
    simp only [impl_heard.l0]
    rw [if_neg (by omega), List.drop_eq_nil_of_le (by omega)]
    simp [saidF]
  | succ d ih =>
    intro i k w xs hi hk hw hx
    obtain ⟨k, rfl⟩ : ∃ m, k = m + 1 := ⟨k - 1, by omega⟩
    have hh := hr _ (mem_hab hs i (by omega))
    simp only [impl_heard.l0]
    rw [if_pos (by omega), if_pos (by omega), if_pos (by omega), implHear_eq _ _ _ m hh.1 hh.2 w hw.1 hw.2, Option.bind_some, if_pos (by omega), wrap_nat i (by omega), ih (i + 1) k _ _ (by omega) (by omega) (hearF_ok _ _ _ w hw) (by simp; omega), drop_hab hs i (by omega)]
    simp [saidF, hearH]
theorem implHeard_eq (hs : List S41) (m : Int) (hl : hs.length ≤ 1048576) (hr : ∀ h ∈ hs, habR h) (w : ByteArray) (hw : okW w) (k : Nat) (hk : hs.length < k) : impl_heard.f k hs w m = some (w :: saidF hs w) := by
  unfold impl_heard.f
  have := implHeard_l0 hs m hl hr hs.length 0 k w [w] (by omega) hk hw (by simp)
  rw [show ((0 : Nat) : Int) = 0 from rfl, List.drop_zero] at this
  exact this
theorem implPassed_eq (hs : List S41) (m : Int) (hl : hs.length ≤ 1048576) (hr : ∀ h ∈ hs, habR h) (w : ByteArray) (hw : okW w) (k : Nat) (hk : hs.length < k) : impl_passed.f k hs w m = some (passF hs w) := by
  unfold impl_passed.f
  rw [implHeard_eq hs m hl hr w hw k hk, Option.bind_some, if_pos (by omega), if_pos (by simp [saidF_length]; omega), rdS_nat, saidF_last]
theorem codeA_two (hs : List S41) (w v : ByteArray) : codeA hs [w, v] = codeH hs [w, v] := by
  unfold codeA codeH
  by_cases a : habitsOk hs = true ∧ wordsOk [w, v] = true
  · rw [if_pos a, if_pos a]
    by_cases b : hs.length ≤ 30
    · rw [if_pos b, if_pos b, if_pos (by simp)]
    · rw [if_neg b, if_neg b]
  · rw [if_neg a, if_neg a]
theorem codeH_facts (hs : List S41) (ws : List ByteArray) (h : codeH hs ws = 0) : hs.length ≤ 30 ∧ ∀ w ∈ ws, okW w := by
  unfold codeH at h
  by_cases a : habitsOk hs = true ∧ wordsOk ws = true
  · rw [if_pos a] at h
    by_cases b : hs.length ≤ 30
    · exact ⟨b, fun w hw => wordOk_size w (List.all_eq_true.1 a.2 w hw)⟩
    · rw [if_neg b] at h; exact absurd h (by decide)
  · rw [if_neg a] at h; exact absurd h (by decide)

def srcOk (c : List Int) : Prop := c.length ≤ 4096 ∧ ∀ x ∈ c, 0 ≤ x ∧ x ≤ 255
theorem and64_255 (x : Int) (h0 : 0 ≤ x) (h1 : x < 18446744073709551616) : Go.bits .and .u64 x 255 = x % 256 := by
  have := Go.bits_mask .u64 64 (by decide) (fun n a b => wrap_u64_id n a (by simpa using b)) 8 (by decide) x h0 (by omega)
  simpa using this
theorem wrap_u64_range (x : Int) : 0 ≤ IntKind.u64.wrap x ∧ IntKind.u64.wrap x < 18446744073709551616 := by
  rw [wrap_u64]
  omega
theorem next_eq (c : List Int) (hc : srcOk c) (a s : Int) (ha : 0 ≤ a ∧ a ≤ 1000000) : ∃ v s', spec_l00Src_next.f c a s = some (v, a + 1, s') ∧ 0 ≤ v ∧ v ≤ 255 := by
  have hw : wrap64 (a + 1) = a + 1 := wrap64_id _ (by omega) (by omega)
  have hb : ∀ X : Int, 0 ≤ wrap64 (Go.bits .and .u64 (IntKind.u64.wrap X / 1099511627776) 255) ∧ wrap64 (Go.bits .and .u64 (IntKind.u64.wrap X / 1099511627776) 255) ≤ 255 := by
    intro X
    have h := wrap_u64_range X
    rw [and64_255 _ (by omega) (by omega), wrap64_id _ (by omega) (by omega)]
    omega
  unfold spec_l00Src_next.f
  rw [hw]
  by_cases h1 : a < (c.length : Int)
  · rw [if_pos h1, if_pos ha.1]
    have hr : 0 ≤ rd c a ∧ rd c a ≤ 255 := by
      obtain ⟨i, rfl⟩ := Int.eq_ofNat_of_zero_le ha.1
      rw [rd_nat, List.getD_eq_getElem?_getD, List.getElem?_eq_getElem (by omega)]
      exact hc.2 _ (List.getElem_mem _)
    by_cases h2 : a + 1 ≤ (c.length : Int)
    · rw [if_pos h2, wrap64_id (rd c a) (by omega) (by omega)]
      exact ⟨_, _, rfl, hr.1, hr.2⟩
    · rw [if_neg h2]
      exact ⟨_, _, rfl, hb _⟩
  · rw [if_neg h1]
    by_cases h2 : a + 1 ≤ (c.length : Int)
    · rw [if_pos h2]
      exact ⟨_, _, rfl, by decide, by decide⟩
    · rw [if_neg h2]
      exact ⟨_, _, rfl, hb _⟩
theorem pick_eq (c : List Int) (hc : srcOk c) (a s n : Int) (ha : 0 ≤ a ∧ a ≤ 1000000) (hn : 2 ≤ n ∧ n ≤ 200) : ∃ v s', spec_l00Src_pick.f c a s n = some (v, a + 1, s') ∧ 0 ≤ v ∧ v ≤ n - 1 := by
  obtain ⟨v, s', e, h0, h1⟩ := next_eq c hc a s ha
  unfold spec_l00Src_pick.f
  rw [if_neg (by omega), e]
  simp only [Option.bind_some]
  rw [if_neg (by omega), if_neg (by omega), Int.tmod_eq_emod_of_nonneg h0]
  exact ⟨_, _, rfl, Int.emod_nonneg _ (by omega), by have := Int.emod_lt_of_pos v (show 0 < n by omega); omega⟩
theorem i8_id (n : Int) (h : 0 ≤ n ∧ n ≤ 100) : IntKind.i8.wrap n = n := by
  simp [IntKind.wrap, IntKind.bits, IntKind.signed]
  omega
theorem way_eq (c : List Int) (hc : srcOk c) (a s : Int) (ha : 0 ≤ a ∧ a ≤ 900000) (k : Nat) (hk : 2 ≤ k) : ∃ f A B a' s', spec_l04Way.f k c a s = some (f, A, B, a', s') ∧ habitOk f A B = true ∧ (0 ≤ A ∧ A ≤ 255) ∧ (0 ≤ B ∧ B ≤ 255) ∧ a ≤ a' ∧ a' ≤ a + 3 := by
  obtain ⟨k, rfl⟩ : ∃ m, k = m + 1 := ⟨k - 1, by omega⟩
  obtain ⟨v, s1, e1, v0, v1⟩ := pick_eq c hc a s 5 (by omega) (by decide)
  obtain ⟨p, s2, e2, p0, p1⟩ := pick_eq c hc (a + 1) s1 3 (by omega) (by decide)
  obtain ⟨q, s3, e3, q0, q1⟩ := pick_eq c hc (a + 1 + 1) s2 2 (by omega) (by decide)
  have hA : (wrap64 (97 + p)) % 256 = 97 + p := by rw [wrap64_id _ (by omega) (by omega)]; omega
  have l1 : letter (97 + p) = true := decide_eq_true (by omega)
  unfold spec_l04Way.f
  rw [e1]
  simp only [Option.bind_some]
  rw [i8_id v (by omega)]
  simp only [spec_l04Way.j0]
  by_cases c1 : v = 1
  · subst c1
    rw [if_pos rfl, if_pos trivial, e2]
    simp only [Option.bind_some]
    rw [if_pos trivial, e3]
    simp only [Option.bind_some]
    have a1 : (97 + p - 97) % 256 = p := by omega
    have a2 : (p + 1) % 256 = p + 1 := by omega
    have a3 : q % 256 = q := by omega
    have a4 : (p + 1 + q) % 256 = p + 1 + q := by omega
    rw [hA, a1, a2, a3, a4]
    refine ⟨_, _, _, _, _, rfl, ?_, by omega, by omega, by omega, by omega⟩
    have l2 : letter (97 + (p + 1 + q) % 3) = true := decide_eq_true (by omega)
    unfold habitOk
    rw [if_neg (by decide), if_pos rfl, l1, l2, Bool.true_and, Bool.true_and]
    exact decide_eq_true (by omega)
  · rw [if_neg c1]
    by_cases c2 : v = 2
    · subst c2
      rw [if_pos rfl, if_pos trivial, e2]
      simp only [Option.bind_some]
      rw [if_neg (by decide), hA]
      refine ⟨_, _, _, _, _, rfl, ?_, by omega, by omega, by omega, by omega⟩
      unfold habitOk
      rw [if_neg (by decide), if_neg (by decide), if_pos (by decide), l1]
      rfl
    · rw [if_neg c2]
      by_cases c4 : v = 4
      · subst c4
        rw [if_pos (by decide), e2]
        simp only [Option.bind_some]
        rw [if_neg (by decide), hA]
        refine ⟨_, _, _, _, _, rfl, ?_, by omega, by omega, by omega, by omega⟩
        unfold habitOk
        rw [if_neg (by decide), if_neg (by decide), if_pos (by decide), l1]
        rfl
      · rw [if_neg (by simpa using c4), if_neg c1]
        refine ⟨_, _, _, _, _, rfl, ?_, by decide, by decide, by omega, by omega⟩
        unfold habitOk
        rw [if_pos (by omega)]
        rfl
theorem drawn_l0 (c : List Int) (hc : srcOk c) (L : Nat) (hL : L ≤ 12) : ∀ (d i k : Nat) (xs : List Int) (a s : Int), i + d = L → d < k → xs.length = i → 0 ≤ a → a + d ≤ 1000000 → (∀ x ∈ xs, 97 ≤ x ∧ x ≤ 122) → ∃ ys s', spec_l04Drawn.l0 k (L : Int) xs c a s = some (strOfNums ys, a + d, s') ∧ ys.length = L ∧ ∀ x ∈ ys, 97 ≤ x ∧ x ≤ 122 := by
  intro d
  induction d with
  | zero =>
    intro i k xs a s hi hk hx h0 h1 hb
    obtain ⟨k, rfl⟩ : ∃ m, k = m + 1 := ⟨k - 1, by omega⟩
    simp only [spec_l04Drawn.l0]
    rw [if_neg (by omega)]
    exact ⟨xs, s, by simp, by omega, hb⟩
  | succ d ih =>
    intro i k xs a s hi hk hx h0 h1 hb
    obtain ⟨k, rfl⟩ : ∃ m, k = m + 1 := ⟨k - 1, by omega⟩
    obtain ⟨p, s2, e2, p0, p1⟩ := pick_eq c hc a s 3 (by omega) (by decide)
    have hA : (wrap64 (97 + p)) % 256 = 97 + p := by rw [wrap64_id _ (by omega) (by omega)]; omega
    simp only [spec_l04Drawn.l0]
    rw [if_pos (by omega), e2]
    simp only [Option.bind_some]
    rw [if_pos (by omega), hA]
    obtain ⟨ys, s', e, h2, h3⟩ := ih (i + 1) k (xs ++ [97 + p]) (a + 1) s2 (by omega) (by omega) (by simp [hx]) (by omega) (by omega) (fun x hx => by
      rcases List.mem_append.1 hx with h | h
      · exact hb x h
      · rw [List.mem_singleton.1 h]; omega)
    refine ⟨ys, s', ?_, h2, h3⟩
    rw [e]
    congr 3
    omega
theorem strOfNums_len (xs : List Int) : (strOfNums xs).size = xs.length := strOfNums_size xs
theorem drawn_eq (c : List Int) (hc : srcOk c) (a s : Int) (L : Nat) (hL : 1 ≤ L ∧ L ≤ 12) (ha : 0 ≤ a ∧ a ≤ 900000) (k : Nat) (hk : 20 ≤ k) : ∃ w s', spec_l04Drawn.f k c a s (L : Int) = some (w, a + L, s') ∧ wordOk w = true := by
  unfold spec_l04Drawn.f
  obtain ⟨ys, s', e, h2, h3⟩ := drawn_l0 c hc L hL.2 L 0 k [] a s (by omega) (by omega) rfl (by omega) (by omega) (by simp)
  refine ⟨_, _, e, ?_⟩
  rw [wordOk_iff, strOfNums_len, h2, bytesOf_strOfNums _ (fun x hx => by have := h3 x hx; omega)]
  exact ⟨hL, fun x hx => decide_eq_true (h3 x hx)⟩
theorem habits_l0 (c : List Int) (hc : srcOk c) : ∀ (d k : Nat) (xs : List S41) (a s : Int), d + 10 < k → d ≤ 100 → xs.length + d ≤ 100 → 0 ≤ a → a + 3 * d ≤ 900000 → (∀ h ∈ xs, habitOk h.f0 h.f1 h.f2 = true ∧ habR h) → ∃ ys, spec_P6Habits.l0 k xs (d : Int) c a s = some ys ∧ ys.length = xs.length + d ∧ ∀ h ∈ ys, habitOk h.f0 h.f1 h.f2 = true ∧ habR h := by
  intro d
  induction d with
  | zero =>
    intro k xs a s hk hd hl h0 h1 hb
    obtain ⟨k, rfl⟩ : ∃ m, k = m + 1 := ⟨k - 1, by omega⟩
    simp only [spec_P6Habits.l0]
    rw [if_neg (by omega)]
    exact ⟨xs, rfl, by omega, hb⟩
  | succ d ih =>
    intro k xs a s hk hd hl h0 h1 hb
    obtain ⟨k, rfl⟩ : ∃ m, k = m + 1 := ⟨k - 1, by omega⟩
    obtain ⟨f, A, B, a', s', e, w1, w2, w3, w4, w5⟩ := way_eq c hc a s (by omega) k (by omega)
    simp only [spec_P6Habits.l0]
    rw [if_pos (by omega), e]
    simp only [Option.bind_some]
    rw [if_pos (by omega), wrap64_id _ (by omega) (by omega), show ((d + 1 : Nat) : Int) - 1 = (d : Int) by omega]
    obtain ⟨ys, e2, h2, h3⟩ := ih k (xs ++ [⟨f, A, B⟩]) a' s' (by omega) (by omega) (by simp; omega) (by omega) (by omega) (fun h hh => by
      rcases List.mem_append.1 hh with q | q
      · exact hb h q
      · rw [List.mem_singleton.1 q]; exact ⟨w1, w2, w3⟩)
    exact ⟨ys, e2, by rw [h2]; simp; omega, h3⟩
theorem words_l0 (c : List Int) (hc : srcOk c) (L : Nat) (hL : 1 ≤ L ∧ L ≤ 12) : ∀ (d k : Nat) (xs : List ByteArray) (a s : Int), d + 50 < k → d ≤ 100 → xs.length + d ≤ 100 → 0 ≤ a → a + 12 * d ≤ 900000 → (∀ w ∈ xs, wordOk w = true) → ∃ ys, spec_P6Words.l0 k (L : Int) xs (d : Int) c a s = some ys ∧ ys.length = xs.length + d ∧ ∀ w ∈ ys, wordOk w = true := by
  intro d
  induction d with
  | zero =>
    intro k xs a s hk hd hl h0 h1 hb
    obtain ⟨k, rfl⟩ : ∃ m, k = m + 1 := ⟨k - 1, by omega⟩
    simp only [spec_P6Words.l0]
    rw [if_neg (by omega)]
    exact ⟨xs, rfl, by omega, hb⟩
  | succ d ih =>
    intro k xs a s hk hd hl h0 h1 hb
    obtain ⟨k, rfl⟩ : ∃ m, k = m + 1 := ⟨k - 1, by omega⟩
    obtain ⟨w, s', e, w1⟩ := drawn_eq c hc a s L hL (by omega) k (by omega)
    simp only [spec_P6Words.l0]
    rw [if_pos (by omega), e]
    simp only [Option.bind_some]
    rw [if_pos (by omega), wrap64_id _ (by omega) (by omega), show ((d + 1 : Nat) : Int) - 1 = (d : Int) by omega]
    obtain ⟨ys, e2, h2, h3⟩ := ih k (xs ++ [w]) (a + L) s' (by omega) (by omega) (by simp; omega) (by omega) (by omega) (fun h hh => by
      rcases List.mem_append.1 hh with q | q
      · exact hb h q
      · rw [List.mem_singleton.1 q]; exact w1)
    exact ⟨ys, e2, by rw [h2]; simp; omega, h3⟩
theorem p6habits_eq (c : List Int) (hc : srcOk c) (k : Nat) (hk : 200 ≤ k) : ∃ ys, spec_P6Habits.f k c = some ys ∧ ys.length ≤ 5 ∧ ∀ h ∈ ys, habitOk h.f0 h.f1 h.f2 = true ∧ habR h := by
  unfold spec_P6Habits.f spec_l00From.f
  simp only [Option.bind_some]
  obtain ⟨v, s', e, v0, v1⟩ := pick_eq c hc 0 0 6 (by decide) (by decide)
  rw [e]
  simp only [Option.bind_some]
  obtain ⟨d, rfl⟩ := Int.eq_ofNat_of_zero_le v0
  obtain ⟨ys, e2, h2, h3⟩ := habits_l0 c hc d k [] (0 + 1) s' (by omega) (by omega) (by simp; omega) (by decide) (by omega) (by simp)
  exact ⟨ys, e2, by rw [h2]; simp; omega, h3⟩
theorem p6words_eq (c : List Int) (hc : srcOk c) (k : Nat) (hk : 200 ≤ k) : ∃ ys, spec_P6Words.f k c = some ys ∧ ys.length ≤ 6 ∧ ∀ w ∈ ys, wordOk w = true := by
  unfold spec_P6Words.f spec_l00From.f
  simp only [Option.bind_some]
  obtain ⟨v, s', e, v0, v1⟩ := pick_eq c hc 0 0 5 (by decide) (by decide)
  obtain ⟨u, s2, e2, u0, u1⟩ := pick_eq c hc (0 + 1) s' 7 (by decide) (by decide)
  rw [e]
  simp only [Option.bind_some]
  rw [e2]
  simp only [Option.bind_some]
  rw [wrap64_id (1 + v) (by omega) (by omega)]
  obtain ⟨d, rfl⟩ := Int.eq_ofNat_of_zero_le u0
  obtain ⟨L, hL⟩ := Int.eq_ofNat_of_zero_le (show 0 ≤ 1 + v by omega)
  rw [hL]
  obtain ⟨ys, e3, h2, h3⟩ := words_l0 c hc L (by omega) d k [] (0 + 1 + 1) s2 (by omega) (by omega) (by simp; omega) (by decide) (by omega) (by simp)
  exact ⟨ys, e3, by rw [h2]; simp; omega, h3⟩
theorem p6word_eq (c : List Int) (hc : srcOk c) (k : Nat) (hk : 200 ≤ k) : ∃ w, spec_P6Word.f k c = some w ∧ wordOk w = true := by
  unfold spec_P6Word.f spec_l00From.f spec_l04One.f
  simp only [Option.bind_some]
  obtain ⟨v, s', e, v0, v1⟩ := pick_eq c hc 0 0 6 (by decide) (by decide)
  rw [e]
  simp only [Option.bind_some]
  rw [wrap64_id (1 + v) (by omega) (by omega)]
  obtain ⟨L, hL⟩ := Int.eq_ofNat_of_zero_le (show 0 ≤ 1 + v by omega)
  rw [hL]
  obtain ⟨w, s2, e2, w1⟩ := drawn_eq c hc (0 + 1) s' L (by omega) (by decide) k (by omega)
  rw [e2]
  exact ⟨w, rfl, w1⟩

def picks (q : Nat → Bool) : Nat → Nat → List Int
  | 0, _ => []
  | d + 1, i => if q i = true then (i : Int) :: picks q d (i + 1) else picks q d (i + 1)
theorem picks_length (q : Nat → Bool) : ∀ d i, (picks q d i).length ≤ d
  | 0, _ => by simp [picks]
  | d + 1, i => by
    have := picks_length q d (i + 1)
    unfold picks
    split <;> simp <;> omega

def passQ (hs : List S41) (ws : List ByteArray) (v : Nat → ByteArray) (i : Nat) : Bool := (passF hs (rdOf ByteArray.empty ws (i : Int))).toList == (v i).toList
theorem mem_wd (l : List ByteArray) (i : Nat) (h : i < l.length) : rdOf ByteArray.empty l (i : Int) ∈ l := by
  rw [rdS_nat, List.getD_eq_getElem?_getD, List.getElem?_eq_getElem h]
  exact List.getElem_mem _
theorem codeA_facts (hs : List S41) (ws : List ByteArray) (h : codeA hs ws = 0) : hs.length ≤ 30 ∧ ws.length ≤ 40 ∧ ∀ w ∈ ws, okW w := by
  unfold codeA at h
  by_cases a : habitsOk hs = true ∧ wordsOk ws = true
  · rw [if_pos a] at h
    by_cases b : hs.length ≤ 30
    · rw [if_pos b] at h
      by_cases c : ws.length ≤ 40
      · exact ⟨b, c, fun w hw => wordOk_size w (List.all_eq_true.1 a.2 w hw)⟩
      · rw [if_neg c] at h; exact absurd h (by decide)
    · rw [if_neg b] at h; exact absurd h (by decide)
  · rw [if_neg a] at h; exact absurd h (by decide)
theorem implOriginsIn_l0 (hs : List S41) (m : Int) (hl : hs.length ≤ 30) (hr : ∀ h ∈ hs, habR h) (ws : List ByteArray) (hws : ws.length ≤ 40) (hw : ∀ w ∈ ws, okW w) (v : ByteArray) : ∀ (d i k : Nat) (xs : List Int), i + d = ws.length → d + 100 < k → xs.length ≤ i → impl_indices_at_OriginsIn_1.l0 k xs (ws.length : Int) (i : Int) hs ws v m = some (xs ++ picks (passQ hs ws (fun _ => v)) d i) := by
  intro d
  induction d with
  | zero =>
    intro i k xs hi hk hx
    obtain ⟨k, rfl⟩ : ∃ m, k = m + 1 := ⟨k - 1, by omega⟩
    simp only [impl_indices_at_OriginsIn_1.l0]
    rw [if_neg (by omega)]
    simp [picks]
  | succ d ih =>
    intro i k xs hi hk hx
    obtain ⟨k, rfl⟩ : ∃ m, k = m + 1 := ⟨k - 1, by omega⟩
    have hh := hw _ (mem_wd ws i (by omega))
    simp only [impl_indices_at_OriginsIn_1.l0, impl_OriginsIn_1.f]
    rw [if_pos (by omega), if_pos (by omega), if_pos (by omega), implPassed_eq hs m (by omega) hr _ hh k (by omega), Option.bind_some, Option.bind_some, wrap_nat i (by omega)]
    unfold picks
    by_cases e : passQ hs ws (fun _ => v) i = true
    · have e2 := e
      unfold passQ at e2
      rw [if_pos e2, if_pos (by omega), if_pos e, ih (i + 1) k _ (by omega) (by omega) (by simp; omega)]
      simp
    · have e2 := e
      unfold passQ at e2
      rw [if_neg e2, if_neg e, ih (i + 1) k _ (by omega) (by omega) (by omega)]
theorem codeL_one (hs : List S41) (ws : List ByteArray) (v : ByteArray) : codeL ws hs [v] = if wordOk v = true then codeA hs ws else 1 := by
  unfold codeL codeH codeA
  have e : wordsOk (ws ++ [v]) = (wordsOk ws && wordOk v) := by simp [wordsOk]
  rw [e]
  by_cases d : wordOk v = true
  · by_cases a : habitsOk hs = true ∧ wordsOk ws = true
    · by_cases b : hs.length ≤ 30
      · simp [a, b, d]
      · simp [a, b, d]
    · rw [if_pos d, if_neg a]
      have : ¬ (habitsOk hs = true ∧ (wordsOk ws && wordOk v) = true) := by rw [d, Bool.and_true]; exact a
      rw [if_neg this, if_neg (by decide)]
  · have : ¬ (habitsOk hs = true ∧ (wordsOk ws && wordOk v) = true) := by simp [d]
    rw [if_neg this, if_neg d, if_neg (by decide)]
def finO (hs : List S41) (ws : List ByteArray) (v : ByteArray) : List Int × Int :=
  if wordOk v = true then (if codeA hs ws = 0 then (picks (passQ hs ws (fun _ => v)) ws.length 0, 0) else ([], codeA hs ws)) else ([], 1)
theorem implO_eq (hs : List S41) (m : Int) (hq : hs.length ≤ 1048576) (hr : ∀ h ∈ hs, habR h) (ws : List ByteArray) (hwl : ws.length ≤ 1048576) (hb : ∀ s ∈ ws, s.size ≤ 2097152) (v : ByteArray) (hv : v.size ≤ 1048576) (k : Nat) (hk : 6000000 ≤ k) : impl_OriginsIn.f k ws hs v m = some (finO hs ws v) := by
  unfold impl_OriginsIn.f finO impl_indices_at_OriginsIn_1.f
  rw [listCode_eq ws hs [v] hq hwl (by simp) hb (by simp; omega) k (by omega), codeL_one, Option.bind_some]
  by_cases d : wordOk v = true
  · rw [if_pos d, if_pos d]
    by_cases c : codeA hs ws = 0
    · obtain ⟨c1, c2, c3⟩ := codeA_facts hs ws c
      have := implOriginsIn_l0 hs m c1 hr ws c2 c3 v ws.length 0 k [] (by omega) (by omega) (by simp)
      rw [show ((0 : Nat) : Int) = 0 from rfl] at this
      rw [if_pos c, if_pos c, this]; rfl
    · rw [if_neg c, if_neg c]
  · rw [if_neg d, if_neg d, if_neg (by decide)]

theorem implStaysSame_l0 (hs : List S41) (m : Int) (hl : hs.length ≤ 30) (hr : ∀ h ∈ hs, habR h) (ws : List ByteArray) (hws : ws.length ≤ 40) (hw : ∀ w ∈ ws, okW w) : ∀ (d i k : Nat) (xs : List Int), i + d = ws.length → d + 100 < k → xs.length ≤ i → impl_indices_at_StaysSame_1.l0 k xs (ws.length : Int) (i : Int) hs ws m = some (xs ++ picks (passQ hs ws (fun j => rdOf ByteArray.empty ws (j : Int))) d i) := by
  intro d
  induction d with
  | zero =>
    intro i k xs hi hk hx
    obtain ⟨k, rfl⟩ : ∃ m, k = m + 1 := ⟨k - 1, by omega⟩
    simp only [impl_indices_at_StaysSame_1.l0]
    rw [if_neg (by omega)]
    simp [picks]
  | succ d ih =>
    intro i k xs hi hk hx
    obtain ⟨k, rfl⟩ : ∃ m, k = m + 1 := ⟨k - 1, by omega⟩
    have hh := hw _ (mem_wd ws i (by omega))
    simp only [impl_indices_at_StaysSame_1.l0, impl_StaysSame_1.f]
    rw [if_pos (by omega), if_pos (by omega), if_pos (by omega), implPassed_eq hs m (by omega) hr _ hh k (by omega), Option.bind_some, Option.bind_some, wrap_nat i (by omega)]
    unfold picks
    by_cases e : passQ hs ws (fun j => rdOf ByteArray.empty ws (j : Int)) i = true
    · have e2 := e
      unfold passQ at e2
      rw [if_pos e2, if_pos (by omega), if_pos e, ih (i + 1) k _ (by omega) (by omega) (by simp; omega)]
      simp
    · have e2 := e
      unfold passQ at e2
      rw [if_neg e2, if_neg e, ih (i + 1) k _ (by omega) (by omega) (by omega)]
theorem codeL_nil2 (hs : List S41) (ws : List ByteArray) : codeL ws hs [] = codeA hs ws := by
  unfold codeL codeH codeA
  rw [List.append_nil]
  by_cases a : habitsOk hs = true ∧ wordsOk ws = true
  · by_cases b : hs.length ≤ 30
    · simp [a, b]
    · simp [a, b]
  · simp [a]
def finS (hs : List S41) (ws : List ByteArray) : List Int × Int :=
  if codeA hs ws = 0 then (picks (passQ hs ws (fun j => rdOf ByteArray.empty ws (j : Int))) ws.length 0, 0) else ([], codeA hs ws)
theorem implS_eq (hs : List S41) (m : Int) (hq : hs.length ≤ 1048576) (hr : ∀ h ∈ hs, habR h) (ws : List ByteArray) (hwl : ws.length ≤ 1048576) (hb : ∀ s ∈ ws, s.size ≤ 2097152) (k : Nat) (hk : 6000000 ≤ k) : impl_StaysSame.f k ws hs m = some (finS hs ws) := by
  unfold impl_StaysSame.f finS impl_indices_at_StaysSame_1.f
  rw [listCode_eq ws hs [] hq hwl (by simp) hb (by simp) k (by omega), codeL_nil2, Option.bind_some]
  by_cases c : codeA hs ws = 0
  · obtain ⟨c1, c2, c3⟩ := codeA_facts hs ws c
    have := implStaysSame_l0 hs m c1 hr ws c2 c3 ws.length 0 k [] (by omega) (by omega) (by simp)
    rw [show ((0 : Nat) : Int) = 0 from rfl] at this
    rw [if_pos c, if_pos c, this]; rfl
  · rw [if_neg c, if_neg c]

def nobQ (hs : List S41) (w v : ByteArray) (i : Nat) : Bool := (hearH (rd_T41 hs (i : Int)) w).toList == v.toList
theorem implNob_l0 (hs : List S41) (m : Int) (hl : hs.length ≤ 1048576) (hr : ∀ h ∈ hs, habR h) (w v : ByteArray) (hw : okW w) : ∀ (d i k : Nat) (xs : List Int), i + d = hs.length → d < k → xs.length ≤ i → impl_indices_at_NobodyBut_1.l0 k xs (hs.length : Int) (i : Int) hs w v m = some (xs ++ picks (nobQ hs w v) d i) := by
  intro d
  induction d with
  | zero =>
    intro i k xs hi hk hx
    obtain ⟨k, rfl⟩ : ∃ m, k = m + 1 := ⟨k - 1, by omega⟩
    simp only [impl_indices_at_NobodyBut_1.l0]
    rw [if_neg (by omega)]
    simp [picks]
  | succ d ih =>
    intro i k xs hi hk hx
    obtain ⟨k, rfl⟩ : ∃ m, k = m + 1 := ⟨k - 1, by omega⟩
    have hh := hr _ (mem_hab hs i (by omega))
    simp only [impl_indices_at_NobodyBut_1.l0, impl_NobodyBut_1.f]
    rw [if_pos (by omega), if_pos (by omega), if_pos (by omega), implHear_eq _ _ _ m hh.1 hh.2 w hw.1 hw.2, Option.bind_some, Option.bind_some, wrap_nat i (by omega)]
    rw [show ((hearF (rd_T41 hs (i : Int)).f0 (rd_T41 hs (i : Int)).f1 (rd_T41 hs (i : Int)).f2 w).toList == v.toList) = nobQ hs w v i from rfl]
    unfold picks
    by_cases e : nobQ hs w v i = true
    · rw [if_pos e, if_pos (by omega), if_pos e, ih (i + 1) k _ (by omega) (by omega) (by simp; omega)]
      simp
    · rw [if_neg e, if_neg e, ih (i + 1) k _ (by omega) (by omega) (by omega)]
def finN (hs : List S41) (w v : ByteArray) : List Int × Int :=
  if codeH hs [w, v] = 0 then (picks (nobQ hs w v) hs.length 0, 0) else ([], codeH hs [w, v])
theorem implN_eq (hs : List S41) (m : Int) (hq : hs.length ≤ 1048576) (hr : ∀ h ∈ hs, habR h) (w v : ByteArray) (hb : ∀ s ∈ [w, v], s.size ≤ 2097152) (k : Nat) (hk : 6000000 ≤ k) : impl_NobodyBut.f k hs w v m = some (finN hs w v) := by
  unfold impl_NobodyBut.f finN impl_indices_at_NobodyBut_1.f
  rw [chainCode_eq hs [w, v] hq (by simp) hb k (by omega), Option.bind_some]
  by_cases c : codeH hs [w, v] = 0
  · obtain ⟨c1, c2⟩ := codeH_facts hs [w, v] c
    have := implNob_l0 hs m hq hr w v (c2 w (by simp)) hs.length 0 k [] (by omega) (by omega) (by simp)
    rw [show ((0 : Nat) : Int) = 0 from rfl] at this
    rw [if_pos c, if_pos c, this]; rfl
  · rw [if_neg c, if_neg c]

def butQ (hs : List S41) (w v : ByteArray) (i : Nat) : Bool := (passF (hs.eraseIdx i) w).toList == v.toList
theorem passF_ok (hs : List S41) (w : ByteArray) (hw : okW w) : okW (passF hs w) := by
  unfold passF
  induction hs generalizing w with
  | nil => exact hw
  | cons h r ih => exact ih _ (hearF_ok _ _ _ w hw)
theorem passF_but (hs : List S41) (i : Nat) (w : ByteArray) : passF (hs.drop (i + 1)) (passF (hs.take i) w) = passF (hs.eraseIdx i) w := by
  rw [List.eraseIdx_eq_take_drop_succ]
  simp [passF, List.foldl_append]
theorem specBut_l0 (hs : List S41) (hl : hs.length ≤ 1048576) (hr : ∀ h ∈ hs, habR h) (w v : ByteArray) (hw : okW w) : ∀ (d i k : Nat) (xs : List Int), i + d = hs.length → d + hs.length + 100 < k → xs.length ≤ i → spec_AllBut.l0 k hs w v xs (i : Int) = some (xs ++ picks (butQ hs w v) d i, 0) := by
  intro d
  induction d with
  | zero =>
    intro i k xs hi hk hx
    obtain ⟨k, rfl⟩ : ∃ m, k = m + 1 := ⟨k - 1, by omega⟩
    simp only [spec_AllBut.l0]
    rw [if_neg (by omega)]
    simp [picks]
  | succ d ih =>
    intro i k xs hi hk hx
    obtain ⟨k, rfl⟩ : ∃ m, k = m + 1 := ⟨k - 1, by omega⟩
    simp only [spec_AllBut.l0]
    have h1 := specPass_eq (hs.take i) (by simp; omega) (fun h hh => hr h (List.mem_of_mem_take hh)) w hw k (by simp; omega)
    have h2 := specPass_eq (hs.drop (i + 1)) (by simp; omega) (fun h hh => hr h (List.mem_of_mem_drop hh)) (passF (hs.take i) w) (passF_ok _ w hw) k (by simp; omega)
    rw [passF_but] at h2
    rw [wrap_nat i (by omega), if_pos (by omega), if_pos (by omega), if_pos (by omega), if_pos (by omega), if_pos (by omega), Int.toNat_natCast, Int.toNat_natCast, h1, Option.bind_some, h2, Option.bind_some]
    unfold picks
    by_cases e : butQ hs w v i = true
    · have e' : (passF (hs.eraseIdx i) w).toList = v.toList := beq_iff_eq.1 e
      rw [if_pos e', if_pos (by omega), if_pos e, ih (i + 1) k _ (by omega) (by omega) (by simp; omega)]
      simp
    · have e' : ¬ (passF (hs.eraseIdx i) w).toList = v.toList := fun z => e (beq_iff_eq.2 z)
      rw [if_neg e', if_neg e, ih (i + 1) k _ (by omega) (by omega) (by omega)]
theorem implBut_l0 (hs : List S41) (m : Int) (hl : hs.length ≤ 1048576) (hr : ∀ h ∈ hs, habR h) (w v : ByteArray) (hw : okW w) : ∀ (d i k : Nat) (xs : List Int), i + d = hs.length → d + hs.length + 100 < k → xs.length ≤ i → impl_indices_at_AllBut_1.l0 k xs (hs.length : Int) (i : Int) hs w v m = some (xs ++ picks (butQ hs w v) d i) := by
  intro d
  induction d with
  | zero =>
    intro i k xs hi hk hx
    obtain ⟨k, rfl⟩ : ∃ m, k = m + 1 := ⟨k - 1, by omega⟩
    simp only [impl_indices_at_AllBut_1.l0]
    rw [if_neg (by omega)]
    simp [picks]
  | succ d ih =>
    intro i k xs hi hk hx
    obtain ⟨k, rfl⟩ : ∃ m, k = m + 1 := ⟨k - 1, by omega⟩
    have h1 := implPassed_eq (hs.eraseIdx i) m (by rw [List.length_eraseIdx]; split <;> omega) (fun h hh => hr h (List.mem_of_mem_eraseIdx hh)) w hw k (by rw [List.length_eraseIdx]; split <;> omega)
    simp only [impl_indices_at_AllBut_1.l0, impl_AllBut_1.f, slices_Clone_Habit.f, List.nil_append]
    rw [if_pos (by omega), if_pos (by omega), if_pos (by omega), Option.bind_some, if_pos (by simp; omega), Option.bind_some, List.nil_append, if_pos rfl, Int.toNat_natCast, h1, Option.bind_some, Option.bind_some, wrap_nat i (by omega)]
    rw [show ((passF (hs.eraseIdx i) w).toList == v.toList) = butQ hs w v i from rfl]
    unfold picks
    by_cases e : butQ hs w v i = true
    · rw [if_pos e, if_pos (by omega), if_pos e, ih (i + 1) k _ (by omega) (by omega) (by simp; omega)]
      simp
    · rw [if_neg e, if_neg e, ih (i + 1) k _ (by omega) (by omega) (by omega)]
def finB (hs : List S41) (w v : ByteArray) : List Int × Int :=
  if codeH hs [w, v] = 0 then (picks (butQ hs w v) hs.length 0, 0) else ([], codeH hs [w, v])
theorem specB_eq (hs : List S41) (hq : hs.length ≤ 1048576) (hr : ∀ h ∈ hs, habR h) (w v : ByteArray) (hb : ∀ s ∈ [w, v], s.size ≤ 2097152) (k : Nat) (hk : 6000000 ≤ k) : spec_AllBut.f k hs w v = some (finB hs w v) := by
  unfold spec_AllBut.f finB
  rw [Option.bind_some, asked_eq hs [w, v] hq (by simp) hb k (by omega), codeA_two, Option.bind_some]
  by_cases c : codeH hs [w, v] = 0
  · obtain ⟨c1, c2⟩ := codeH_facts hs [w, v] c
    have := specBut_l0 hs hq hr w v (c2 w (by simp)) hs.length 0 k [] (by omega) (by omega) (by simp)
    rw [show ((0 : Nat) : Int) = 0 from rfl] at this
    rw [if_pos c, if_pos c, this]; rfl
  · rw [if_neg c, if_neg c]
theorem implB_eq (hs : List S41) (m : Int) (hq : hs.length ≤ 1048576) (hr : ∀ h ∈ hs, habR h) (w v : ByteArray) (hb : ∀ s ∈ [w, v], s.size ≤ 2097152) (k : Nat) (hk : 6000000 ≤ k) : impl_AllBut.f k hs w v m = some (finB hs w v) := by
  unfold impl_AllBut.f finB impl_indices_at_AllBut_1.f
  rw [chainCode_eq hs [w, v] hq (by simp) hb k (by omega), Option.bind_some]
  by_cases c : codeH hs [w, v] = 0
  · obtain ⟨c1, c2⟩ := codeH_facts hs [w, v] c
    have := implBut_l0 hs m hq hr w v (c2 w (by simp)) hs.length 0 k [] (by omega) (by omega) (by simp)
    rw [show ((0 : Nat) : Int) = 0 from rfl] at this
    rw [if_pos c, if_pos c, this]; rfl
  · rw [if_neg c, if_neg c]

theorem mem_picks (q : Nat → Bool) : ∀ (d i j : Nat), ((j : Int) ∈ picks q d i) ↔ (i ≤ j ∧ j < i + d ∧ q j = true)
  | 0, i, j => by
    constructor
    · intro h; exact absurd h (by simp [picks])
    · rintro ⟨h1, h2, _⟩; omega
  | d + 1, i, j => by
    have ih := mem_picks q d (i + 1) j
    unfold picks
    by_cases e : q i = true
    · rw [if_pos e, List.mem_cons, ih]
      constructor
      · rintro (h | ⟨h1, h2, h3⟩)
        · have : j = i := by omega
          subst this
          exact ⟨by omega, by omega, e⟩
        · exact ⟨by omega, by omega, h3⟩
      · rintro ⟨h1, h2, h3⟩
        by_cases h : j = i
        · left; rw [h]
        · right; exact ⟨by omega, by omega, h3⟩
    · rw [if_neg e, ih]
      constructor
      · rintro ⟨h1, h2, h3⟩; exact ⟨by omega, by omega, h3⟩
      · rintro ⟨h1, h2, h3⟩
        have : j ≠ i := fun h => e (h ▸ h3)
        exact ⟨by omega, by omega, h3⟩
theorem has_l0 (l : List Int) (a : Int) (hl : l.length ≤ 1048576) : ∀ (d i k : Nat), i + d = l.length → d < k → spec_l00Has.l0 k l a (i : Int) = some (decide (a ∈ l.drop i)) := by
  intro d
  induction d with
  | zero =>
    intro i k hi hk
    obtain ⟨k, rfl⟩ : ∃ m, k = m + 1 := ⟨k - 1, by omega⟩
    simp only [spec_l00Has.l0]
    rw [if_neg (by omega), List.drop_eq_nil_of_le (by omega)]
    simp
  | succ d ih =>
    intro i k hi hk
    obtain ⟨k, rfl⟩ : ∃ m, k = m + 1 := ⟨k - 1, by omega⟩
    simp only [spec_l00Has.l0]
    have hd : l.drop i = rd l (i : Int) :: l.drop (i + 1) := by rw [rd_nat]; exact drop_getD 0 l i (by omega)
    rw [if_pos (by omega), if_pos (by omega), hd, wrap_nat i (by omega)]
    by_cases e : rd l (i : Int) = a
    · rw [if_pos e]; simp [e]
    · rw [if_neg e, ih (i + 1) k (by omega) (by omega)]
      congr 1
      apply decide_eq_decide.2
      rw [List.mem_cons]
      constructor
      · exact Or.inr
      · rintro (h | h)
        · exact absurd h.symm e
        · exact h
theorem has_picks (q : Nat → Bool) (n i k : Nat) (hn : n ≤ 1000) (hi : i < n) (hk : 1000 < k) : spec_HasNumber.f k (picks q n 0) (i : Int) = some (q i) := by
  have hp := picks_length q n 0
  unfold spec_HasNumber.f spec_l00Has.f
  have := has_l0 (picks q n 0) (i : Int) (by omega) (picks q n 0).length 0 k (by omega) (by omega)
  rw [show ((0 : Nat) : Int) = 0 from rfl, List.drop_zero] at this
  rw [this, Option.bind_some]
  congr 1
  have hm := mem_picks q n 0 i
  cases e : q i with
  | true => exact decide_eq_true (hm.2 ⟨by omega, by omega, e⟩)
  | false => exact decide_eq_false (fun z => by have := (hm.1 z).2.2; rw [e] at this; exact absurd this (by decide))
theorem same_l0 (l : List Int) (hl : l.length ≤ 1048576) : ∀ (d i k : Nat), i + d = l.length → d < k → spec_l00Same.l0 k l l (i : Int) = some true := by
  intro d
  induction d with
  | zero =>
    intro i k hi hk
    obtain ⟨k, rfl⟩ : ∃ m, k = m + 1 := ⟨k - 1, by omega⟩
    simp only [spec_l00Same.l0]
    rw [if_neg (by omega)]
  | succ d ih =>
    intro i k hi hk
    obtain ⟨k, rfl⟩ : ∃ m, k = m + 1 := ⟨k - 1, by omega⟩
    simp only [spec_l00Same.l0]
    rw [if_pos (by omega), if_pos (by omega), if_pos (by omega), if_pos trivial, wrap_nat i (by omega), ih (i + 1) k (by omega) (by omega)]
theorem same_eq (l : List Int) (hl : l.length ≤ 1000) (k : Nat) (hk : 1000 < k) : spec_SameNumbers.f k l l = some true := by
  unfold spec_SameNumbers.f spec_l00Same.f
  rw [if_pos rfl]
  have := same_l0 l (by omega) l.length 0 k (by omega) (by omega)
  rw [show ((0 : Nat) : Int) = 0 from rfl] at this
  rw [this, Option.bind_some]
def habOk (h : S41) : Prop := habitOk h.f0 h.f1 h.f2 = true ∧ habR h
theorem codeH_zero (hs : List S41) (ws : List ByteArray) (hl : hs.length ≤ 30) (hh : ∀ h ∈ hs, habOk h) (hw : ∀ w ∈ ws, wordOk w = true) : codeH hs ws = 0 := by
  have a : habitsOk hs = true := List.all_eq_true.2 (fun h m => (hh h m).1)
  have b : wordsOk ws = true := List.all_eq_true.2 hw
  unfold codeH
  rw [if_pos ⟨a, b⟩, if_pos hl]
theorem codeA_zero (hs : List S41) (ws : List ByteArray) (hl : hs.length ≤ 30) (hl2 : ws.length ≤ 40) (hh : ∀ h ∈ hs, habOk h) (hw : ∀ w ∈ ws, wordOk w = true) : codeA hs ws = 0 := by
  have a : habitsOk hs = true := List.all_eq_true.2 (fun h m => (hh h m).1)
  have b : wordsOk ws = true := List.all_eq_true.2 hw
  unfold codeA
  rw [if_pos ⟨a, b⟩, if_pos hl, if_pos hl2]
theorem word_sz (ws : List ByteArray) (hw : ∀ w ∈ ws, wordOk w = true) : ∀ s ∈ ws, s.size ≤ 2097152 := fun s hs => by
  have := wordOk_size s (hw s hs); omega
theorem one_ok (w : ByteArray) (h : wordOk w = true) : ∀ s ∈ [w], wordOk s = true := fun s hs => by rw [List.mem_singleton.1 hs]; exact h
theorem two_ok (w v : ByteArray) (h : wordOk w = true) (h2 : wordOk v = true) : ∀ s ∈ [w, v], wordOk s = true := fun s hs => by
  rcases List.mem_cons.1 hs with e | e
  · rw [e]; exact h
  · rw [List.mem_singleton.1 e]; exact h2
theorem implPassOn_eq (hs : List S41) (m : Int) (hl : hs.length ≤ 30) (hh : ∀ h ∈ hs, habOk h) (w : ByteArray) (hw : wordOk w = true) (k : Nat) (hk : 6000000 ≤ k) : impl_PassOn.f k hs w m = some (passF hs w, 0) := by
  unfold impl_PassOn.f
  rw [chainCode_eq hs [w] (by omega) (by simp) (word_sz _ (one_ok w hw)) k (by omega), codeH_zero hs [w] hl hh (one_ok w hw), Option.bind_some, if_pos rfl, implPassed_eq hs m (by omega) (fun h q => (hh h q).2) w (wordOk_size w hw) k (by omega), Option.bind_some]
theorem specPassOn_eq (hs : List S41) (hl : hs.length ≤ 30) (hh : ∀ h ∈ hs, habOk h) (w : ByteArray) (hw : wordOk w = true) (k : Nat) (hk : 6000000 ≤ k) : spec_PassOn.f k hs w = some (passF hs w, 0) := by
  unfold spec_PassOn.f
  rw [asked_eq hs [w] (by omega) (by simp) (word_sz _ (one_ok w hw)) k (by omega), codeA_zero hs [w] hl (by simp) hh (one_ok w hw), Option.bind_some, if_pos rfl, specPass_eq hs (by omega) (fun h q => (hh h q).2) w (wordOk_size w hw) k (by omega), Option.bind_some]
theorem implHear1_eq (h : S41) (m : Int) (hh : habOk h) (w : ByteArray) (hw : wordOk w = true) (k : Nat) (hk : 100 ≤ k) : impl_Hear.f k h.f0 h.f1 h.f2 w m = some (hearH h w, 0) := by
  have hs := wordOk_size w hw
  unfold impl_Hear.f
  rw [validHabit_eq, hh.1, Option.bind_some, if_pos rfl, isWord_eq w (by omega) k (by omega), hw, Option.bind_some, if_pos rfl, implHear_eq _ _ _ m hh.2.1 hh.2.2 w hs.1 hs.2, Option.bind_some]
  rfl
theorem passF_word (hs : List S41) (hh : ∀ h ∈ hs, habOk h) : ∀ w, wordOk w = true → wordOk (passF hs w) = true := by
  unfold passF
  induction hs with
  | nil => intro w h; exact h
  | cons h r ih => intro w hw; exact ih (fun x hx => hh x (List.mem_cons_of_mem _ hx)) _ (hearF_word _ _ _ (hh h List.mem_cons_self).1 w hw (hearF_ok _ _ _ w (wordOk_size w hw)))
theorem hear_zero (w : ByteArray) : hearH (⟨0, 0, 0⟩ : S41) w = w := by
  unfold hearH hearF
  rw [if_neg (by decide), if_neg (by decide), if_neg (by decide), if_neg (by decide)]
theorem passF_set (hs : List S41) (i : Nat) (h : i < hs.length) (w : ByteArray) : passF (hs.set i (⟨0, 0, 0⟩ : S41)) w = passF (hs.eraseIdx i) w := by
  rw [List.eraseIdx_eq_take_drop_succ, List.set_eq_take_append_cons_drop, if_pos h]
  unfold passF
  rw [List.foldl_append, List.foldl_append, List.foldl_cons, hear_zero]
theorem set_ok (hs : List S41) (hh : ∀ h ∈ hs, habOk h) (i : Nat) : ∀ h ∈ hs.set i (⟨0, 0, 0⟩ : S41), habOk h := by
  intro h q
  rcases List.mem_or_eq_of_mem_set q with e | e
  · exact hh h e
  · rw [e]
    refine ⟨?_, ⟨by decide, by decide⟩, by decide, by decide⟩
    show habitOk 0 0 0 = true
    decide
theorem sus_l1 (hs : List S41) (m : Int) (hl : hs.length ≤ 30) (hh : ∀ h ∈ hs, habOk h) (w v : ByteArray) (hw : wordOk w = true) : ∀ (d i k : Nat), i + d = hs.length → d + 6000000 < k → laws_FnSuspects.l1 k hs w v (picks (nobQ hs w v) hs.length 0) (picks (butQ hs w v) hs.length 0) (i : Int) m = some true := by
  intro d
  induction d with
  | zero =>
    intro i k hi hk
    obtain ⟨k, rfl⟩ : ∃ m, k = m + 1 := ⟨k - 1, by omega⟩
    simp only [laws_FnSuspects.l1]
    rw [if_neg (by omega)]
  | succ d ih =>
    intro i k hi hk
    obtain ⟨k, rfl⟩ : ∃ m, k = m + 1 := ⟨k - 1, by omega⟩
    have h1 := hh _ (mem_hab hs i (by omega))
    have n1 : ¬ ((nobQ hs w v i != ((hearH (rd_T41 hs (i : Int)) w).toList == v.toList)) = true) := by
      show ¬ ((nobQ hs w v i != nobQ hs w v i) = true)
      simp
    have n2 : ¬ ((butQ hs w v i != ((passF (hs.eraseIdx i) w).toList == v.toList)) = true) := by
      show ¬ ((butQ hs w v i != butQ hs w v i) = true)
      simp
    simp only [laws_FnSuspects.l1]
    rw [if_pos (by omega), if_pos (by omega), implHear1_eq _ m h1 w hw k (by omega), Option.bind_some, Option.bind_some, if_pos (by simp; omega), Option.bind_some, List.nil_append, if_pos (by omega), Int.toNat_natCast, implPassOn_eq (hs.set i (⟨0, 0, 0⟩ : S41)) m (by rw [List.length_set]; omega) (set_ok hs hh i) w hw k (by omega), Option.bind_some, passF_set hs i (by omega)]
    dsimp only
    rw [if_pos rfl, has_picks _ _ i k (by omega) (by omega) (by omega), Option.bind_some, if_neg n1, if_pos rfl, has_picks _ _ i k (by omega) (by omega) (by omega), Option.bind_some, if_neg n2, wrap_nat i (by omega), ih (i + 1) k (by omega) (by omega)]
theorem sus_l0 (hs : List S41) (m : Int) (hl : hs.length ≤ 30) (hh : ∀ h ∈ hs, habOk h) (ws : List ByteArray) (hwl : ws.length ≤ 40) (hws : ∀ w ∈ ws, wordOk w = true) (w v : ByteArray) (hw : wordOk w = true) : ∀ (d i k : Nat), i + d = ws.length → d + 6000100 < k → laws_FnSuspects.l0 k hs ws w v (picks (passQ hs ws (fun _ => v)) ws.length 0) (picks (passQ hs ws (fun j => rdOf ByteArray.empty ws (j : Int))) ws.length 0) (picks (nobQ hs w v) hs.length 0) (picks (butQ hs w v) hs.length 0) (i : Int) m = some true := by
  intro d
  induction d with
  | zero =>
    intro i k hi hk
    obtain ⟨k, rfl⟩ : ∃ m, k = m + 1 := ⟨k - 1, by omega⟩
    simp only [laws_FnSuspects.l0]
    rw [if_neg (by omega)]
    have := sus_l1 hs m hl hh w v hw hs.length 0 k (by omega) (by omega)
    rwa [show ((0 : Nat) : Int) = 0 from rfl] at this
  | succ d ih =>
    intro i k hi hk
    obtain ⟨k, rfl⟩ : ∃ m, k = m + 1 := ⟨k - 1, by omega⟩
    have h1 := hws _ (mem_wd ws i (by omega))
    have n1 : ¬ ((passQ hs ws (fun _ => v) i != ((passF hs (rdOf ByteArray.empty ws (i : Int))).toList == v.toList)) = true) := by
      show ¬ ((passQ hs ws (fun _ => v) i != passQ hs ws (fun _ => v) i) = true)
      simp
    have n2 : ¬ ((passQ hs ws (fun j => rdOf ByteArray.empty ws (j : Int)) i != ((passF hs (rdOf ByteArray.empty ws (i : Int))).toList == (rdOf ByteArray.empty ws (i : Int)).toList)) = true) := by
      show ¬ ((passQ hs ws (fun j => rdOf ByteArray.empty ws (j : Int)) i != passQ hs ws (fun j => rdOf ByteArray.empty ws (j : Int)) i) = true)
      simp
    simp only [laws_FnSuspects.l0]
    rw [if_pos (by omega), if_pos (by omega), implPassOn_eq hs m hl hh _ h1 k (by omega), Option.bind_some]
    dsimp only
    rw [if_pos rfl, has_picks _ _ i k (by omega) (by omega) (by omega), Option.bind_some, if_neg n1, has_picks _ _ i k (by omega) (by omega) (by omega), Option.bind_some, if_neg n2, wrap_nat i (by omega), ih (i + 1) k (by omega) (by omega)]
theorem sus_j1 (hs : List S41) (m : Int) (hl : hs.length ≤ 30) (hh : ∀ h ∈ hs, habOk h) (ws : List ByteArray) (hwl : ws.length ≤ 40) (hws : ∀ w ∈ ws, wordOk w = true) (w v : ByteArray) (hw : wordOk w = true) (hv : wordOk v = true) (hf : (ws.length : Int) > 0 → passQ hs ws (fun _ => v) 0 = true) (k : Nat) (hk : 6100000 ≤ k) : laws_FnSuspects.j1 (k + 2) hs ws w v m = some true := by
  have hA := codeA_zero hs ws hl hwl hh hws
  have hH := codeH_zero hs [w, v] hl hh (two_ok w v hw hv)
  have hr : ∀ h ∈ hs, habR h := fun h q => (hh h q).2
  have hb := word_sz ws hws
  have hb2 := word_sz _ (two_ok w v hw hv)
  have hvs := wordOk_size v hv
  have eO : finO hs ws v = (picks (passQ hs ws (fun _ => v)) ws.length 0, 0) := by unfold finO; rw [if_pos hv, if_pos hA]
  have eS : finS hs ws = (picks (passQ hs ws (fun j => rdOf ByteArray.empty ws (j : Int))) ws.length 0, 0) := by unfold finS; rw [if_pos hA]
  have eN : finN hs w v = (picks (nobQ hs w v) hs.length 0, 0) := by unfold finN; rw [if_pos hH]
  have eB : finB hs w v = (picks (butQ hs w v) hs.length 0, 0) := by unfold finB; rw [if_pos hH]
  have hpl := picks_length (butQ hs w v) hs.length 0
  simp only [laws_FnSuspects.j1]
  rw [implO_eq hs m (by omega) hr ws (by omega) hb v (by omega) (k + 1) (by omega), Option.bind_some, implS_eq hs m (by omega) hr ws (by omega) hb (k + 1) (by omega), Option.bind_some, implN_eq hs m (by omega) hr w v hb2 (k + 1) (by omega), Option.bind_some, implB_eq hs m (by omega) hr w v hb2 (k + 1) (by omega), Option.bind_some, specB_eq hs (by omega) hr w v hb2 (k + 1) (by omega), Option.bind_some, eO, eS, eN, eB]
  simp only [if_true, eq_self]
  rw [same_eq _ (by omega) (k + 1) (by omega), Option.bind_some, if_pos rfl]
  have hend : laws_FnSuspects.j2 (k + 1) hs ws w v (picks (passQ hs ws (fun _ => v)) ws.length 0) (picks (passQ hs ws (fun j => rdOf ByteArray.empty ws (j : Int))) ws.length 0) (picks (nobQ hs w v) hs.length 0) (picks (butQ hs w v) hs.length 0) false m = some true := by
    simp only [laws_FnSuspects.j2]
    rw [if_neg (by decide)]
    have := sus_l0 hs m hl hh ws hwl hws w v hw ws.length 0 k (by omega) (by omega)
    rwa [show ((0 : Nat) : Int) = 0 from rfl] at this
  by_cases c : (ws.length : Int) > 0
  · have hp := has_picks (passQ hs ws (fun _ => v)) ws.length 0 (k + 1) (by omega) (by omega) (by omega)
    rw [show ((0 : Nat) : Int) = 0 from rfl, hf c] at hp
    rw [if_pos c, hp, Option.bind_some]
    exact hend
  · rw [if_neg c]
    exact hend
theorem main : laws_FnSuspects.Pure := by
  intro l0 l1 m h0 h1
  refine rounds_of 7000000 fun k hk => ?_
  obtain ⟨k, rfl⟩ : ∃ q, k = q + 3 := ⟨k - 3, by omega⟩
  have j0t : ∀ a b, laws_FnSuspects.j0 (k + 3) a b true m = some true := fun a b => by
    simp only [laws_FnSuspects.j0]
    rw [if_pos trivial]
  unfold laws_FnSuspects.f laws_f6big.f
  rw [Option.bind_some]
  by_cases c0 : (l0.length : Int) > 4096
  · rw [if_pos (decide_eq_true c0), j0t]
  · rw [if_neg (by simpa using c0), Option.bind_some]
    by_cases c1 : (l1.length : Int) > 4096
    · rw [decide_eq_true c1, j0t]
    · rw [decide_eq_false c1]
      have s0 : srcOk l0 := ⟨by omega, fun x hx => wf_u8 (h0.2 x hx)⟩
      have s1 : srcOk l1 := ⟨by omega, fun x hx => wf_u8 (h1.2 x hx)⟩
      obtain ⟨hs, e1, hs1, hs2⟩ := p6habits_eq l0 s0 (k + 2) (by omega)
      obtain ⟨ws, e2, ws1, ws2⟩ := p6words_eq l1 s1 (k + 2) (by omega)
      obtain ⟨w, e3, w1⟩ := p6word_eq l0 s0 (k + 2) (by omega)
      obtain ⟨v, e4, v1⟩ := p6word_eq l1 s1 (k + 2) (by omega)
      simp only [laws_FnSuspects.j0]
      rw [if_neg (by decide), e1, Option.bind_some, e2, Option.bind_some, e3, Option.bind_some, e4, Option.bind_some]
      by_cases c : (ws.length : Int) > 0
      · have hm := mem_wd ws 0 (by omega)
        rw [show ((0 : Nat) : Int) = 0 from rfl] at hm
        have hw0 := ws2 _ hm
        rw [if_pos c, if_pos (by omega), specPassOn_eq hs (by omega) hs2 _ hw0 (k + 2) (by omega), Option.bind_some]
        dsimp only
        rw [if_pos rfl]
        refine sus_j1 hs m (by omega) hs2 ws (by omega) ws2 w _ w1 (passF_word hs hs2 _ hw0) (fun _ => ?_) k (by omega)
        unfold passQ
        rw [show ((0 : Nat) : Int) = 0 from rfl]
        exact beq_self_eq_true _
      · rw [if_neg c]
        exact sus_j1 hs m (by omega) hs2 ws (by omega) ws2 w v w1 v1 (fun z => absurd z c) k (by omega)

end Go.Proofs.YtjifmnffbfpdoaaDoor.PureFnSuspects
namespace Go.Proofs.YtjifmnffbfpdoaaDoor.Pure
theorem FnSuspects : Go.Proofs.YtjifmnffbfpdoaaDoor.P.laws_FnSuspects.Pure := Go.Proofs.YtjifmnffbfpdoaaDoor.PureFnSuspects.main
end Go.Proofs.YtjifmnffbfpdoaaDoor.Pure
