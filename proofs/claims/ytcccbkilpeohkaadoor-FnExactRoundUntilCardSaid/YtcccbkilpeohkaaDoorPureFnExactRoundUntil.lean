/- For every list of habits and every text the program's RoundUntil returns the reference's round, period and code and leaves the habits as they were; no condition. -/
import Derived.Test.YtcccbkilpeohkaaDoorP5
import Derived.Laws.BitsLemmas
namespace Go.Proofs.YtcccbkilpeohkaaDoor.PureFnExactRoundUntil
open Go.RowKit Go.Proofs.YtcccbkilpeohkaaDoor.P Go.Proofs.YtcccbkilpeohkaaDoorW.PrintWords Go.Proofs.YtcccbkilpeohkaaDoorW.PrintLast
set_option linter.unusedSimpArgs false
set_option linter.unusedVariables false

theorem wrap64_id (x : Int) (h0 : -9223372036854775808 ≤ x) (h1 : x ≤ 9223372036854775807) : wrap64 x = x := by unfold wrap64; omega
theorem wrap_nat (n : Nat) (h : n < 4611686018427387904) : wrap64 ((n : Int) + 1) = ((n + 1 : Nat) : Int) := by
  rw [wrap64_id _ (by omega) (by omega)]; omega
theorem rd_nat (l : List Int) (i : Nat) : rd l (i : Int) = l.getD i 0 := by simp [rd]
theorem drop_getD {α : Type} (z : α) (l : List α) (i : Nat) (h : i < l.length) : l.drop i = l.getD i z :: l.drop (i + 1) := by
  rw [List.drop_eq_getElem_cons h, List.getD_eq_getElem?_getD, List.getElem?_eq_getElem h]; rfl
theorem take_getD {α : Type} (z : α) (l : List α) (i : Nat) (h : i < l.length) : l.take (i + 1) = l.take i ++ [l.getD i z] := by
  rw [List.take_succ_eq_append_getElem h, List.getD_eq_getElem?_getD, List.getElem?_eq_getElem h]; rfl
theorem set_rep {α : Type} (a : List α) (i d : Nat) (z v : α) (h : a.length = i) : (a ++ List.replicate (d + 1) z).set i v = (a ++ [v]) ++ List.replicate d z := by
  subst h
  rw [List.set_append_right _ _ (Nat.le_refl _), Nat.sub_self, List.replicate_succ, List.set_cons_zero]
  simp
theorem rounds_of (B : Nat) {α : Type} {F : Nat → Option α} {v : α} (h : ∀ k, B ≤ k → F k = some v) : ∃ k, F k = some v := ⟨B, h B (Nat.le_refl _)⟩

theorem wf_u8 {a : Int} (h : (Lit.int .u8 a).wf = true) : 0 ≤ a ∧ a ≤ 255 := by
  simp [Lit.wf, IntKind.min, IntKind.max, IntKind.bits, IntKind.signed] at h
  omega
def letter (c : Int) : Bool := decide (97 ≤ c ∧ c ≤ 122)
theorem l04Letter_eq (c : Int) : spec_l04Letter.f c = some (letter c) := by
  unfold spec_l04Letter.f letter
  by_cases h : 97 ≤ c
  · rw [if_pos (by omega)]; simp [h]
  · rw [if_neg (by omega)]; simp [h]
theorem isLetter_eq (c : Int) : impl_isLetter.f c = some (letter c) := by
  unfold impl_isLetter.f letter
  by_cases h : 97 ≤ c
  · rw [if_pos (by omega)]; simp [h]
  · rw [if_neg (by omega)]; simp [h]
theorem in_eq (a b c : Int) : spec_l00In.f a b c = some (decide (b ≤ a ∧ a ≤ c)) := by
  unfold spec_l00In.f
  by_cases h : b ≤ a
  · rw [if_pos (by omega)]; simp [h]
  · rw [if_neg (by omega)]; simp [h]
theorem within_eq (a b c : Int) : impl_within.f a b c = some (decide (b ≤ a ∧ a ≤ c)) := by
  unfold impl_within.f
  by_cases h : b ≤ a
  · rw [if_pos (by omega)]; simp [h]
  · rw [if_neg (by omega)]; simp [h]
def lettersFrom (s : ByteArray) : Nat → Nat → Bool
  | 0, _ => true
  | d + 1, i => letter (bt s (i : Int)) && lettersFrom s d (i + 1)
def wordOk (s : ByteArray) : Bool := lettersFrom s s.size 0 && decide (1 ≤ (s.size : Int) ∧ (s.size : Int) ≤ 12)
theorem l04Word_l0 (s : ByteArray) (hs : s.size ≤ 4611686018427387900) : ∀ (d i k : Nat), i + d = s.size → d < k → spec_l04Word.l0 k s (i : Int) = some (lettersFrom s d i && decide (1 ≤ (s.size : Int) ∧ (s.size : Int) ≤ 12)) := by
  intro d
  induction d with
  | zero =>
    intro i k hi hk
    obtain ⟨k, rfl⟩ : ∃ m, k = m + 1 := ⟨k - 1, by omega⟩
    simp only [spec_l04Word.l0]
    rw [if_neg (by omega), in_eq]
    simp [lettersFrom]
  | succ d ih =>
    intro i k hi hk
    obtain ⟨k, rfl⟩ : ∃ m, k = m + 1 := ⟨k - 1, by omega⟩
    simp only [spec_l04Word.l0]
    rw [if_pos (by omega), if_pos (by omega), l04Letter_eq, Option.bind_some, wrap_nat i (by omega), ih (i + 1) k (by omega) (by omega)]
    by_cases h : letter (bt s (i : Int)) = true <;> simp [lettersFrom, h]
theorem l04Word_eq (s : ByteArray) (hs : s.size ≤ 4611686018427387900) (k : Nat) (hk : s.size < k) : spec_l04Word.f k s = some (wordOk s) := by
  unfold spec_l04Word.f wordOk
  exact l04Word_l0 s hs s.size 0 k (by omega) hk
theorem isWord_l0 (s : ByteArray) (hs : s.size ≤ 4611686018427387900) : ∀ (d i k : Nat), i + d = s.size → d < k → impl_IsWord.l0 k s (s.size : Int) (i : Int) = some (lettersFrom s d i && decide (1 ≤ (s.size : Int) ∧ (s.size : Int) ≤ 12)) := by
  intro d
  induction d with
  | zero =>
    intro i k hi hk
    obtain ⟨k, rfl⟩ : ∃ m, k = m + 1 := ⟨k - 1, by omega⟩
    simp only [impl_IsWord.l0]
    rw [if_neg (by omega), within_eq]
    simp [lettersFrom]
  | succ d ih =>
    intro i k hi hk
    obtain ⟨k, rfl⟩ : ∃ m, k = m + 1 := ⟨k - 1, by omega⟩
    simp only [impl_IsWord.l0]
    rw [if_pos (by omega), if_pos (by omega), if_pos (by omega), isLetter_eq, Option.bind_some, wrap_nat i (by omega), ih (i + 1) k (by omega) (by omega)]
    by_cases h : letter (bt s (i : Int)) = true <;> simp [lettersFrom, h]
theorem isWord_eq (s : ByteArray) (hs : s.size ≤ 4611686018427387900) (k : Nat) (hk : s.size < k) : impl_IsWord.f k s = some (wordOk s) := by
  unfold impl_IsWord.f wordOk
  exact isWord_l0 s hs s.size 0 k (by omega) hk
theorem wordOk_size (s : ByteArray) (h : wordOk s = true) : 1 ≤ s.size ∧ s.size ≤ 12 := by
  simp only [wordOk, Bool.and_eq_true, decide_eq_true_eq] at h
  omega
theorem lettersFrom_get (s : ByteArray) : ∀ (d i j : Nat), lettersFrom s d i = true → i ≤ j → j < i + d → letter (bt s (j : Int)) = true
  | 0, i, j, _, h1, h2 => by omega
  | d + 1, i, j, h, h1, h2 => by
    simp only [lettersFrom, Bool.and_eq_true] at h
    by_cases e : j = i
    · subst e; exact h.1
    · exact lettersFrom_get s d (i + 1) j h.2 (by omega) (by omega)
theorem wordOk_get (s : ByteArray) (h : wordOk s = true) (j : Nat) (hj : j < s.size) : 97 ≤ bt s (j : Int) ∧ bt s (j : Int) ≤ 122 := by
  simp only [wordOk, Bool.and_eq_true] at h
  have := lettersFrom_get s s.size 0 j h.1 (by omega) (by omega)
  simpa [letter] using this

def habitOk (t a b : Int) : Bool :=
  if t = 0 ∨ t = 3 then decide (a = 0) && decide (b = 0) else if t = 1 then letter a && letter b && decide (a ≠ b) else if t = 2 ∨ t = 4 then letter a && decide (b = 0) else false
theorem l04Habit_eq (t a b : Int) (k : Nat) (hk : 0 < k) : spec_l04Habit.f k t a b = some (habitOk t a b) := by
  obtain ⟨k, rfl⟩ : ∃ m, k = m + 1 := ⟨k - 1, by omega⟩
  unfold spec_l04Habit.f habitOk
  simp only [spec_l04Habit.j0, l04Letter_eq, Option.bind_some]
  by_cases h0 : t = 0
  · subst h0
    by_cases ha : a = 0 <;> simp [ha] <;> rfl
  · by_cases h3 : t = 3
    · subst h3
      by_cases ha : a = 0 <;> simp [ha] <;> rfl
    · by_cases h1 : t = 1
      · subst h1
        by_cases la : letter a = true <;> by_cases lb : letter b = true <;> simp [la, lb] <;> rfl
      · by_cases h2 : t = 2
        · subst h2
          by_cases la : letter a = true <;> simp [la] <;> rfl
        · by_cases h4 : t = 4
          · subst h4
            by_cases la : letter a = true <;> simp [la] <;> rfl
          · simp [h0, h1, h2, h3, h4]
theorem validHabit_eq (t a b : Int) : impl_ValidHabit.f t a b = some (habitOk t a b) := by
  unfold impl_ValidHabit.f habitOk
  simp only [isLetter_eq, Option.bind_some]
  by_cases h0 : t = 0
  · subst h0
    by_cases ha : a = 0 <;> simp [ha] <;> rfl
  · by_cases h3 : t = 3
    · subst h3
      by_cases ha : a = 0 <;> simp [ha] <;> rfl
    · by_cases h1 : t = 1
      · subst h1
        by_cases la : letter a = true <;> by_cases lb : letter b = true <;> simp [la, lb] <;> rfl
      · by_cases h2 : t = 2
        · subst h2
          by_cases la : letter a = true <;> simp [la] <;> rfl
        · by_cases h4 : t = 4
          · subst h4
            by_cases la : letter a = true <;> simp [la] <;> rfl
          · simp [h0, h1, h2, h3, h4]

theorem repl_one (a b : UInt8) : ∀ s : List UInt8, Go.Lib.replaceK [a] [b] (Go.Lib.count s [a]) s = s.map (fun c => if c = a then b else c)
  | [] => by
    have : Go.Lib.count [] [a] = 0 := by rw [Go.Lib.count_one]; rfl
    rw [this]; rfl
  | x :: l => by
    have ih := repl_one a b l
    by_cases e : x = a
    · subst e
      have hi : Go.Lib.index (x :: l) [x] = ((0 : Nat) : Int) := by
        unfold Go.Lib.index
        rw [if_pos (by simp)]
        rfl
      rw [Go.Lib.count_cons_eq, Nat.add_comm 1, Go.Lib.replaceK_hit _ _ _ _ 0 hi]
      simp only [List.take_zero, List.nil_append, List.length_cons, List.length_nil, Nat.zero_add, List.drop_one, List.tail_cons, List.map_cons]
      rw [ih, if_pos trivial]
      rfl
    · rw [Go.Lib.count_cons_ne x a l e]
      cases hk : Go.Lib.count l [a] with
      | zero =>
        rw [hk] at ih
        simp only [Go.Lib.replaceK] at ih ⊢
        rw [List.map_cons, if_neg e, ← ih]
      | succ k =>
        rw [hk] at ih
        obtain ⟨i, hi⟩ := Go.Lib.index_of_count (s := l) (old := [a]) (by omega)
        have hx : Go.Lib.index (x :: l) [a] = ((i + 1 : Nat) : Int) := by
          unfold Go.Lib.index
          rw [if_neg (by simp [List.isPrefixOf, Ne.symm e]), hi, if_neg (by simp)]
          omega
        rw [Go.Lib.replaceK_hit _ _ _ _ _ hx, List.map_cons, if_neg e, ← ih, Go.Lib.replaceK_hit _ _ _ _ _ hi]
        simp
theorem replAll_one (a b : UInt8) (s : List UInt8) : Go.Lib.replaceAll s [a] [b] = s.map (fun c => if c = a then b else c) := by
  unfold Go.Lib.replaceAll Go.Lib.replace Go.Lib.replaceNum
  by_cases e : a = b
  · subst e
    rw [if_pos (by simp)]
    have : (fun c : UInt8 => if c = a then a else c) = id := by funext c; by_cases h : c = a <;> simp [h]
    rw [this, List.map_id]
  · rw [if_neg (by simp [e]), if_pos (Or.inl (by decide)), repl_one]
theorem swap_bytes (A B : Int) (hA : 0 ≤ A ∧ A ≤ 255) (hB : 0 ≤ B ∧ B ≤ 255) (w : ByteArray) :
    (⟨(Go.Lib.replaceAll w.data.toList (strOfNums [A]).data.toList (strOfNums [B]).data.toList).toArray⟩ : ByteArray) = strOfNums ((bytesOf w).map (Go.Proofs.YtcccbkilpeohkaaDoor.H.swap1 A B)) := by
  have e1 : (strOfNums [A]).data.toList = [UInt8.ofNat A.toNat] := rfl
  have e2 : (strOfNums [B]).data.toList = [UInt8.ofNat B.toNat] := rfl
  rw [e1, e2, replAll_one]
  unfold strOfNums bytesOf
  rw [List.map_map, List.map_map]
  congr 2
  apply List.map_congr_left
  intro c _
  simp only [Function.comp, Go.Proofs.YtcccbkilpeohkaaDoor.H.swap1]
  have hc : ((c.toNat : Int) = A) ↔ c = UInt8.ofNat A.toNat := by
    constructor
    · intro h
      rw [← h]; simp
    · intro h
      rw [h, UInt8.toNat_ofNat']
      omega
  by_cases h : (c.toNat : Int) = A
  · rw [if_pos h, if_pos (hc.1 h)]
  · rw [if_neg h, if_neg (fun z => h (hc.2 z))]
    simp
def dropB (A : Int) (w : ByteArray) : ByteArray :=
  if Go.Lib.indexByte w.data.toList A.toNat.toUInt8 ≥ 0 then w.extract 0 (Go.Lib.indexByte w.data.toList A.toNat.toUInt8).toNat ++ w.extract ((Go.Lib.indexByte w.data.toList A.toNat.toUInt8).toNat + 1) w.size else w
def hearF (f A B : Int) (w : ByteArray) : ByteArray :=
  if f = 1 then strOfNums ((bytesOf w).map (Go.Proofs.YtcccbkilpeohkaaDoor.H.swap1 A B))
  else if f = 2 then (if w.size = 1 then w else dropB A w)
  else if f = 3 then (if w.size < 12 then w ++ w.extract (w.size - 1) w.size else w)
  else if f = 4 then (if bt w 0 = A then strOfNums (bytesOf w).reverse else w)
  else w
theorem bt_list (w : ByteArray) (i : Nat) (h : i < w.size) : bt w (i : Int) = ((w.data.toList.getD i 0).toNat : Int) := by
  have h2 : i < w.data.toList.length := by rw [data_length]; exact h
  rw [← rd_bytesOf, rd_nat, List.getD_eq_getElem?_getD, List.getD_eq_getElem?_getD, List.getElem?_eq_getElem (by rw [bytesOf_length]; exact h), List.getElem?_eq_getElem h2]
  simp [bytesOf]
theorem indexByte_lt : ∀ (l : List UInt8) (c : UInt8), Go.Lib.indexByte l c < (l.length : Int) ∨ l = []
  | [], _ => Or.inr rfl
  | b :: l, c => by
    left
    unfold Go.Lib.indexByte
    rcases indexByte_lt l c with h | h
    · split
      · simp only [List.length_cons]; omega
      · split
        · simp only [List.length_cons]; omega
        · simp only [List.length_cons]; omega
    · subst h
      split
      · simp
      · simp [Go.Lib.indexByte]
theorem indexByte_bound (w : ByteArray) (c : UInt8) (h : 0 ≤ Go.Lib.indexByte w.data.toList c) : Go.Lib.indexByte w.data.toList c < (w.size : Int) := by
  rcases indexByte_lt w.data.toList c with g | g
  · rw [data_length] at g; exact g
  · rw [g] at h; simp [Go.Lib.indexByte] at h
def dropAt (w : ByteArray) (i : Nat) (q : Int) : ByteArray := if q ≥ 0 then w.extract 0 (i + q.toNat) ++ w.extract (i + q.toNat + 1) w.size else w
theorem specDrop_l0 (w : ByteArray) (A : Int) (hA : 0 ≤ A ∧ A ≤ 255) (hw : w.size ≤ 1048576) : ∀ (d i k : Nat), i + d = w.size → d < k →
    spec_l04Drop.l0 k w A (i : Int) = some (dropAt w i (Go.Lib.indexByte (w.data.toList.drop i) A.toNat.toUInt8)) := by
  intro d
  induction d with
  | zero =>
    intro i k hi hk
    obtain ⟨k, rfl⟩ : ∃ m, k = m + 1 := ⟨k - 1, by omega⟩
    simp only [spec_l04Drop.l0]
    rw [if_neg (by omega), List.drop_eq_nil_of_le (by rw [data_length]; omega)]
    simp [Go.Lib.indexByte, dropAt]
  | succ d ih =>
    intro i k hi hk
    obtain ⟨k, rfl⟩ : ∃ m, k = m + 1 := ⟨k - 1, by omega⟩
    have hl : i < w.data.toList.length := by rw [data_length]; omega
    have hd := drop_getD (0 : UInt8) w.data.toList i hl
    have hb := bt_list w i (by omega)
    have hc : (bt w (i : Int) = A) ↔ (w.data.toList.getD i 0 == A.toNat.toUInt8) = true := by
      rw [hb, beq_iff_eq]
      generalize w.data.toList.getD i 0 = c
      constructor
      · intro h; rw [← h]; simp
      · intro h; rw [h]; simp; omega
    simp only [spec_l04Drop.l0]
    rw [if_pos (by omega), if_pos (by omega), hd, wrap_nat i (by omega)]
    simp only [Go.Lib.indexByte]
    by_cases e : bt w (i : Int) = A
    · rw [if_pos e, if_pos (hc.1 e), if_pos (by omega), if_pos (by omega), if_pos (by omega)]
      have hs : (w.extract 0 (i : Int).toNat).size + (w.extract ((i + 1 : Nat) : Int).toNat w.size).size ≤ 9223372036854775807 := by
        simp only [ByteArray.size_extract]; omega
      rw [if_pos hs]
      unfold dropAt
      rw [if_pos (by decide)]
      simp
    · rw [if_neg e, if_neg (fun z => e (hc.2 z)), ih (i + 1) k (by omega) (by omega)]
      generalize hq : Go.Lib.indexByte (w.data.toList.drop (i + 1)) A.toNat.toUInt8 = q
      have hge : -1 ≤ q := by rw [← hq]; exact Go.Lib.indexByte_ge _ _
      by_cases g : q = -1
      · subst g; rfl
      · have e1 : (q == -1) = false := beq_eq_false_iff_ne.2 g
        rw [e1, if_neg (by decide)]
        unfold dropAt
        rw [if_pos (show q ≥ 0 by omega), if_pos (show q + 1 ≥ 0 by omega)]
        rw [show i + 1 + q.toNat = i + (q + 1).toNat by omega]
theorem specDrop_eq (w : ByteArray) (A : Int) (hA : 0 ≤ A ∧ A ≤ 255) (hw : w.size ≤ 1048576) (k : Nat) (hk : w.size < k) : spec_l04Drop.f k w A = some (if w.size = 1 then w else dropB A w) := by
  unfold spec_l04Drop.f dropB
  by_cases h : w.size = 1
  · rw [if_pos (by omega), if_pos h]
  · rw [if_neg (by omega), if_neg h]
    have := specDrop_l0 w A hA hw w.size 0 k (by omega) hk
    rw [show ((0 : Nat) : Int) = 0 from rfl, List.drop_zero] at this
    rw [this]
    unfold dropAt
    simp only [Nat.zero_add]
theorem specTurn_l0 (w : ByteArray) (hw : w.size ≤ 1048576) : ∀ (j k : Nat) (xs : List Int), j ≤ w.size → j < k → xs.length + j ≤ 1048576 → spec_l04Turn.l0 k w xs ((j : Int) - 1) = some (strOfNums (xs ++ ((bytesOf w).take j).reverse)) := by
  intro j
  induction j with
  | zero =>
    intro k xs hj hk hx
    obtain ⟨k, rfl⟩ : ∃ m, k = m + 1 := ⟨k - 1, by omega⟩
    simp only [spec_l04Turn.l0]
    rw [if_neg (by omega)]
    simp
  | succ j ih =>
    intro k xs hj hk hx
    obtain ⟨k, rfl⟩ : ∃ m, k = m + 1 := ⟨k - 1, by omega⟩
    simp only [spec_l04Turn.l0]
    have e : (((j + 1 : Nat) : Int) - 1) = (j : Int) := by omega
    rw [e, if_pos (by omega), if_pos (by omega), if_pos (by omega), if_pos (by omega), wrap64_id _ (by omega) (by omega), ih k _ (by omega) (by omega) (by simp; omega)]
    have ht := take_getD 0 (bytesOf w) j (by rw [bytesOf_length]; omega)
    rw [ht, ← rd_nat, rd_bytesOf]
    simp
theorem specTurn_eq (w : ByteArray) (hw : w.size ≤ 524288) (k : Nat) (hk : w.size < k) : spec_l04Turn.f k w = some (strOfNums (bytesOf w).reverse) := by
  unfold spec_l04Turn.f
  rw [wrap64_id _ (by omega) (by omega), specTurn_l0 w (by omega) w.size k [] (by omega) hk (by simp; omega), List.take_of_length_le (by rw [bytesOf_length]; omega), List.nil_append]
theorem specHear_eq (f A B : Int) (hA : 0 ≤ A ∧ A ≤ 255) (w : ByteArray) (h1 : 1 ≤ w.size) (h2 : w.size ≤ 12) (k : Nat) (hk : 20 < k) : spec_l04Hear.f k f A B w = some (hearF f A B w) := by
  obtain ⟨k, rfl⟩ : ∃ m, k = m + 1 := ⟨k - 1, by omega⟩
  have hs : w.size + (w.extract (w.size - 1) w.size).size ≤ 9223372036854775807 := by simp only [ByteArray.size_extract]; omega
  have hsz : wrap64 ((w.size : Int) - 1) = (w.size : Int) - 1 := wrap64_id _ (by omega) (by omega)
  have hn : ((w.size : Int) - 1).toNat = w.size - 1 := by omega
  unfold spec_l04Hear.f hearF spec_l04Swap.f
  by_cases c1 : f = 1
  · rw [if_pos c1, if_pos c1, if_pos (by omega)]; rfl
  · rw [if_neg c1, if_neg c1]
    by_cases c2 : f = 2
    · rw [if_pos c2, if_pos c2, specDrop_eq w A hA (by omega) _ (by omega)]; rfl
    · rw [if_neg c2, if_neg c2]
      have hj : spec_l04Hear.j0 (k + 1) w false f A B = some (if f = 4 then (if bt w 0 = A then strOfNums (bytesOf w).reverse else w) else w) := by
        simp only [spec_l04Hear.j0]
        rw [if_neg (by decide)]
        by_cases c4 : f = 4
        · rw [if_pos c4, if_pos c4, if_pos (by omega)]
          by_cases c5 : bt w 0 = A
          · rw [if_pos c5, if_pos c5, specTurn_eq w (by omega) k (by omega)]; rfl
          · rw [if_neg c5, if_neg c5]
        · rw [if_neg c4, if_neg c4]
      by_cases c3 : f = 3
      · rw [if_pos c3, if_pos c3]
        by_cases c6 : w.size < 12
        · rw [if_pos c6, decide_eq_true (by omega)]
          simp only [spec_l04Hear.j0, hsz, hn]
          rw [if_pos trivial, if_pos (by omega), if_pos (by omega), if_pos hs]
        · rw [if_neg c6, decide_eq_false (by omega), hj, if_neg (by omega)]
      · rw [if_neg c3, if_neg c3, hj]
theorem implHear_eq (f A B m : Int) (hA : 0 ≤ A ∧ A ≤ 255) (hB : 0 ≤ B ∧ B ≤ 255) (w : ByteArray) (h1 : 1 ≤ w.size) (h2 : w.size ≤ 12) : impl_Habit_hear.f f A B w m = some (hearF f A B w) := by
  have hs : w.size + (w.extract (w.size - 1) w.size).size ≤ 9223372036854775807 := by simp only [ByteArray.size_extract]; omega
  have hsz : wrap64 ((w.size : Int) - 1) = (w.size : Int) - 1 := wrap64_id _ (by omega) (by omega)
  have hn : ((w.size : Int) - 1).toNat = w.size - 1 := by omega
  have s1 : ∀ x : Int, (strOfNums [x]).size = 1 := fun _ => rfl
  unfold impl_Habit_hear.f hearF
  by_cases c1 : f = 1
  · rw [if_pos c1, if_pos c1]
    unfold strings_ReplaceAll.f
    rw [if_pos (by omega), if_pos (s1 A), if_pos (by rw [s1 B]; omega), swap_bytes A B hA hB w]
    rfl
  · rw [if_neg c1, if_neg c1]
    by_cases c2 : f = 2
    · rw [if_pos c2, if_pos c2]
      unfold strings_IndexByte.f dropB
      rw [Option.bind_some]
      have hb := indexByte_bound w A.toNat.toUInt8
      generalize Go.Lib.indexByte w.data.toList A.toNat.toUInt8 = q at hb
      by_cases g : q ≥ 0
      · have hq := hb g
        rw [if_pos g, if_pos g]
        by_cases c : w.size = 1
        · rw [if_neg (by omega), if_pos c]
        · have hw1 : wrap64 (q + 1) = q + 1 := wrap64_id _ (by omega) (by omega)
          have hn2 : (q + 1).toNat = q.toNat + 1 := by omega
          have hs2 : (w.extract 0 q.toNat).size + (w.extract (q.toNat + 1) w.size).size ≤ 9223372036854775807 := by simp only [ByteArray.size_extract]; omega
          rw [hw1, hn2, if_pos (by omega), if_pos g, if_pos (by omega), if_pos (by omega), if_pos (by omega), if_pos hs2, if_neg c]
      · rw [if_neg g, if_neg g]
        by_cases c : w.size = 1
        · rw [if_pos c]
        · rw [if_neg c]
    · rw [if_neg c2, if_neg c2]
      by_cases c3 : f = 3
      · rw [if_pos c3, if_pos c3]
        by_cases c6 : w.size < 12
        · rw [if_pos c6, if_pos (by omega), hsz, hn, if_pos (by omega), if_pos (by omega), if_pos hs]
        · rw [if_neg c6, if_neg (by omega)]
      · rw [if_neg c3, if_neg c3]
        by_cases c4 : f = 4
        · rw [if_pos c4, if_pos c4, if_pos (by omega)]
          by_cases c5 : bt w 0 = A
          · rw [if_pos c5, if_pos c5]
            unfold impl_turned.f
            rw [if_pos (by omega)]
            rfl
          · rw [if_neg c5, if_neg c5]
        · rw [if_neg c4, if_neg c4]

theorem rdS_nat (l : List ByteArray) (i : Nat) : rdOf ByteArray.empty l (i : Int) = l.getD i ByteArray.empty := by simp [rdOf]
theorem drop_rdS (l : List ByteArray) (i : Nat) (h : i < l.length) : l.drop i = rdOf ByteArray.empty l (i : Int) :: l.drop (i + 1) := by
  rw [drop_getD ByteArray.empty l i h, rdS_nat]
theorem toList_inj (a b : ByteArray) : a.toList = b.toList ↔ a = b := by
  constructor
  · intro h
    rw [ByteArray.toList_eq, ByteArray.toList_eq] at h
    have h2 : a.data.toList = b.data.toList := h
    cases a; cases b
    simp at h2
    rw [h2]
  · intro h; rw [h]
def habitsOk (l : List S35) : Bool := l.all (fun h => habitOk h.f0 h.f1 h.f2)
def wordsOk (l : List ByteArray) : Bool := l.all wordOk
theorem drop_hab (l : List S35) (i : Nat) (h : i < l.length) : l.drop i = rd_T35 l (i : Int) :: l.drop (i + 1) := by
  rw [drop_getD z35 l i h]; simp [rd_T35]
def codeA (hs : List S35) (ws : List ByteArray) : Int :=
  if habitsOk hs = true ∧ wordsOk ws = true then if hs.length ≤ 30 then if ws.length ≤ 40 then 0 else 3 else 3 else 1
theorem asked_l1 (hs : List S35) (ws : List ByteArray) (hw : ws.length ≤ 2097152) (hb : ∀ s ∈ ws, s.size ≤ 2097152) : ∀ (d i k : Nat), i + d = ws.length → d + 2097152 < k → spec_l04Asked.l1 k hs ws (i : Int) = some (if wordsOk (ws.drop i) = true then if hs.length ≤ 30 then if ws.length ≤ 40 then 0 else 3 else 3 else 1) := by
  intro d
  induction d with
  | zero =>
    intro i k hi hk
    obtain ⟨k, rfl⟩ : ∃ m, k = m + 1 := ⟨k - 1, by omega⟩
    simp only [spec_l04Asked.l1]
    rw [if_neg (by omega), List.drop_eq_nil_of_le (by omega), show wordsOk [] = true from rfl, if_pos rfl]
    by_cases h1 : hs.length ≤ 30
    · by_cases h2 : ws.length ≤ 40
      · rw [if_neg (by omega), if_neg (by omega), if_pos h1, if_pos h2]
      · rw [if_neg (by omega), if_pos (by omega), if_pos h1, if_neg h2]
    · rw [if_pos (by omega), if_neg h1]
  | succ d ih =>
    intro i k hi hk
    obtain ⟨k, rfl⟩ : ∃ m, k = m + 1 := ⟨k - 1, by omega⟩
    have hm : rdOf ByteArray.empty ws (i : Int) ∈ ws := by
      rw [rdS_nat, List.getD_eq_getElem?_getD, List.getElem?_eq_getElem (by omega)]
      exact List.getElem_mem _
    have hsz := hb _ hm
    simp only [spec_l04Asked.l1]
    rw [if_pos (by omega), if_pos (by omega), l04Word_eq _ (by omega) k (by omega), Option.bind_some, wrap_nat i (by omega), ih (i + 1) k (by omega) (by omega), drop_rdS ws i (by omega)]
    by_cases h : wordOk (rdOf ByteArray.empty ws (i : Int)) = true <;> simp [wordsOk, h]
theorem asked_l0 (hs : List S35) (ws : List ByteArray) (hh : hs.length ≤ 1048576) (hw : ws.length ≤ 2097152) (hb : ∀ s ∈ ws, s.size ≤ 2097152) : ∀ (d i k : Nat), i + d = hs.length → d + 4194310 < k → spec_l04Asked.l0 k hs ws (i : Int) = some (if habitsOk (hs.drop i) = true ∧ wordsOk ws = true then if hs.length ≤ 30 then if ws.length ≤ 40 then 0 else 3 else 3 else 1) := by
  intro d
  induction d with
  | zero =>
    intro i k hi hk
    obtain ⟨k, rfl⟩ : ∃ m, k = m + 1 := ⟨k - 1, by omega⟩
    have h := asked_l1 hs ws hw hb ws.length 0 k (by omega) (by omega)
    rw [show ((0 : Nat) : Int) = 0 from rfl, List.drop_zero] at h
    simp only [spec_l04Asked.l0]
    rw [if_neg (by omega), List.drop_eq_nil_of_le (by omega), h]
    simp [habitsOk]
  | succ d ih =>
    intro i k hi hk
    obtain ⟨k, rfl⟩ : ∃ m, k = m + 1 := ⟨k - 1, by omega⟩
    simp only [spec_l04Asked.l0]
    rw [if_pos (by omega), if_pos (by omega), l04Habit_eq _ _ _ k (by omega), Option.bind_some, wrap_nat i (by omega), ih (i + 1) k (by omega) (by omega), drop_hab hs i (by omega)]
    by_cases h : habitOk (rd_T35 hs (i : Int)).f0 (rd_T35 hs (i : Int)).f1 (rd_T35 hs (i : Int)).f2 = true <;> simp [habitsOk, h]
theorem asked_eq (hs : List S35) (ws : List ByteArray) (hh : hs.length ≤ 1048576) (hw : ws.length ≤ 2097152) (hb : ∀ s ∈ ws, s.size ≤ 2097152) (k : Nat) (hk : 5242890 < k) : spec_l04Asked.f k hs ws = some (codeA hs ws) := by
  unfold spec_l04Asked.f codeA
  have h := asked_l0 hs ws hh hw hb hs.length 0 k (by omega) (by omega)
  rw [show ((0 : Nat) : Int) = 0 from rfl, List.drop_zero] at h
  exact h
theorem findH_l0 (l : List S35) (hl : l.length ≤ 1048576) : ∀ (d i k : Nat), i + d = l.length → d < k → ∃ r : Int, slices_IndexFunc_Habit_at_chainCode_1.l0 k l (l.length : Int) (i : Int) = some r ∧ decide (r ≥ 0) = !habitsOk (l.drop i) := by
  intro d
  induction d with
  | zero =>
    intro i k hi hk
    obtain ⟨k, rfl⟩ : ∃ m, k = m + 1 := ⟨k - 1, by omega⟩
    refine ⟨-1, ?_, ?_⟩
    · simp only [slices_IndexFunc_Habit_at_chainCode_1.l0]
      rw [if_neg (by omega)]
    · rw [List.drop_eq_nil_of_le (by omega)]; simp [habitsOk]
  | succ d ih =>
    intro i k hi hk
    obtain ⟨k, rfl⟩ : ∃ m, k = m + 1 := ⟨k - 1, by omega⟩
    simp only [slices_IndexFunc_Habit_at_chainCode_1.l0, impl_chainCode_1.f]
    rw [if_pos (by omega), if_pos (by omega), if_pos (by omega), validHabit_eq, Option.bind_some, Option.bind_some, drop_hab l i (by omega), wrap_nat i (by omega)]
    by_cases h : habitOk (rd_T35 l (i : Int)).f0 (rd_T35 l (i : Int)).f1 (rd_T35 l (i : Int)).f2 = true
    · obtain ⟨r, h1, h2⟩ := ih (i + 1) k (by omega) (by omega)
      refine ⟨r, by rw [if_neg (by simp [h])]; exact h1, ?_⟩
      rw [h2]; simp [habitsOk, h]
    · refine ⟨(i : Int), by rw [if_pos (by simpa using h)], ?_⟩
      simp only [habitsOk, List.all_cons, Bool.eq_false_iff.2 h, Bool.false_and, Bool.not_false]
      exact decide_eq_true (by omega)
theorem findW_l0 (l : List ByteArray) (hl : l.length ≤ 2097153) (hb : ∀ s ∈ l, s.size ≤ 2097152) : ∀ (d i k : Nat), i + d = l.length → d + 2097152 < k → ∃ r : Int, slices_IndexFunc_Sstring_string_at_chainCode_2.l0 k l (l.length : Int) (i : Int) = some r ∧ decide (r ≥ 0) = !wordsOk (l.drop i) := by
  intro d
  induction d with
  | zero =>
    intro i k hi hk
    obtain ⟨k, rfl⟩ : ∃ m, k = m + 1 := ⟨k - 1, by omega⟩
    refine ⟨-1, ?_, ?_⟩
    · simp only [slices_IndexFunc_Sstring_string_at_chainCode_2.l0]
      rw [if_neg (by omega)]
    · rw [List.drop_eq_nil_of_le (by omega)]; simp [wordsOk]
  | succ d ih =>
    intro i k hi hk
    obtain ⟨k, rfl⟩ : ∃ m, k = m + 1 := ⟨k - 1, by omega⟩
    have hm : rdOf ByteArray.empty l (i : Int) ∈ l := by
      rw [rdS_nat, List.getD_eq_getElem?_getD, List.getElem?_eq_getElem (by omega)]
      exact List.getElem_mem _
    have hsz := hb _ hm
    simp only [slices_IndexFunc_Sstring_string_at_chainCode_2.l0, impl_chainCode_2.f]
    rw [if_pos (by omega), if_pos (by omega), if_pos (by omega), isWord_eq _ (by omega) k (by omega), Option.bind_some, Option.bind_some, drop_rdS l i (by omega), wrap_nat i (by omega)]
    by_cases h : wordOk (rdOf ByteArray.empty l (i : Int)) = true
    · obtain ⟨r, h1, h2⟩ := ih (i + 1) k (by omega) (by omega)
      refine ⟨r, by rw [if_neg (by simp [h])]; exact h1, ?_⟩
      rw [h2]; simp [wordsOk, h]
    · refine ⟨(i : Int), by rw [if_pos (by simpa using h)], ?_⟩
      simp only [wordsOk, List.all_cons, Bool.eq_false_iff.2 h, Bool.false_and, Bool.not_false]
      exact decide_eq_true (by omega)
def codeH (hs : List S35) (ws : List ByteArray) : Int :=
  if habitsOk hs = true ∧ wordsOk ws = true then if hs.length ≤ 30 then 0 else 3 else 1
theorem chainCode_eq (hs : List S35) (ws : List ByteArray) (hh : hs.length ≤ 1048576) (hw : ws.length ≤ 2097153) (hb : ∀ s ∈ ws, s.size ≤ 2097152) (k : Nat) (hk : 5242890 < k) : impl_chainCode.f k hs ws = some (codeH hs ws) := by
  unfold impl_chainCode.f codeH slices_ContainsFunc_Habit_at_chainCode_1.f slices_IndexFunc_Habit_at_chainCode_1.f slices_ContainsFunc_Sstring_string_at_chainCode_2.f slices_IndexFunc_Sstring_string_at_chainCode_2.f impl_unless.f
  obtain ⟨r, h1, h2⟩ := findH_l0 hs hh hs.length 0 k (by omega) (by omega)
  obtain ⟨q, g1, g2⟩ := findW_l0 ws hw hb ws.length 0 k (by omega) (by omega)
  rw [show ((0 : Nat) : Int) = 0 from rfl] at h1 g1
  rw [List.drop_zero] at h2 g2
  simp only [h1, g1, Option.bind_some, h2, g2]
  by_cases e1 : habitsOk hs = true <;> by_cases e2 : wordsOk ws = true <;> by_cases e3 : hs.length ≤ 30
  all_goals first
    | (have e4 : (hs.length : Int) ≤ 30 := by omega
       simp [e1, e2, e3, e4])
    | (have e4 : ¬ (hs.length : Int) ≤ 30 := by omega
       simp [e1, e2, e3, e4])
def cvHabit (x : S37) : S35 := ⟨x.f0, x.f1, x.f2⟩
theorem toHabitS_l0 (l : List S37) (hl : l.length ≤ 1048576) : ∀ (d i k : Nat), i + d = l.length → d < k → laws_toHabitS.l0 k l ((l.map cvHabit).take i ++ List.replicate d z35) (i : Int) = some (l.map cvHabit) := by
  intro d
  induction d with
  | zero =>
    intro i k hi hk
    obtain ⟨k, rfl⟩ : ∃ m, k = m + 1 := ⟨k - 1, by omega⟩
    simp only [laws_toHabitS.l0]
    rw [if_neg (by omega), List.take_of_length_le (by simp; omega)]
    simp
  | succ d ih =>
    intro i k hi hk
    obtain ⟨k, rfl⟩ : ∃ m, k = m + 1 := ⟨k - 1, by omega⟩
    have hlen : (((l.map cvHabit).take i ++ List.replicate (d + 1) z35).length : Int) = l.length := by simp; omega
    have hg : (l.map cvHabit).getD i z35 = cvHabit (rd_T37 l (i : Int)) := by
      simp [rd_T37, List.getD_eq_getElem?_getD, List.getElem?_map, List.getElem?_eq_getElem (show i < l.length by omega)]
    have hstep := set_rep ((l.map cvHabit).take i) i d z35 (cvHabit (rd_T37 l (i : Int))) (by simp; omega)
    rw [← hg, ← take_getD z35 (l.map cvHabit) i (by simp; omega), hg] at hstep
    simp only [laws_toHabitS.l0, laws_toHabit.f, Option.bind_some]
    rw [if_pos (by omega), if_pos (by omega), if_pos (by rw [hlen]; omega), wrap_nat i (by omega), Int.toNat_natCast]
    exact (congrArg (fun o => laws_toHabitS.l0 k l o ((i + 1 : Nat) : Int)) hstep).trans (ih (i + 1) k (by omega) (by omega))
theorem toHabitS_eq (l : List S37) (hl : l.length ≤ 1048576) (k : Nat) (hk : l.length < k) : laws_toHabitS.f k l = some (l.map cvHabit) := by
  unfold laws_toHabitS.f
  rw [if_pos (by omega), if_pos (by omega)]
  have := toHabitS_l0 l hl l.length 0 k (by omega) hk
  simpa using this

instance decHabit : DecidableEq S35 := fun x y =>
  if h : x.f0 = y.f0 ∧ x.f1 = y.f1 ∧ x.f2 = y.f2 then isTrue (by obtain ⟨a, b, c⟩ := x; obtain ⟨a', b', c'⟩ := y; simp only at h; rw [h.1, h.2.1, h.2.2]) else isFalse (fun e => h (by rw [e]; exact ⟨rfl, rfl, rfl⟩))
theorem eqHabit_eq (x y : S35) : laws_eqHabit.f x.f0 x.f1 x.f2 y.f0 y.f1 y.f2 = some (decide (x = y)) := by
  obtain ⟨a, b, c⟩ := x
  obtain ⟨a', b', c'⟩ := y
  unfold laws_eqHabit.f
  by_cases h1 : a = a' <;> by_cases h2 : b = b' <;> by_cases h3 : c = c' <;> simp [h1, h2, h3]
theorem eqHabitS_l0 (a b : List S35) (hab : a.length = b.length) (hl : a.length ≤ 1048576) : ∀ (d i k : Nat), i + d = a.length → d < k → laws_eqHabitS.l0 k a b (i : Int) = some (decide (a.drop i = b.drop i)) := by
  intro d
  induction d with
  | zero =>
    intro i k hi hk
    obtain ⟨k, rfl⟩ : ∃ m, k = m + 1 := ⟨k - 1, by omega⟩
    simp only [laws_eqHabitS.l0]
    rw [if_neg (by omega), List.drop_eq_nil_of_le (by omega), List.drop_eq_nil_of_le (by omega)]
    simp
  | succ d ih =>
    intro i k hi hk
    obtain ⟨k, rfl⟩ : ∃ m, k = m + 1 := ⟨k - 1, by omega⟩
    have ha : a.drop i = rd_T35 a (i : Int) :: a.drop (i + 1) := by
      rw [drop_getD z35 a i (by omega)]; simp [rd_T35]
    have hb : b.drop i = rd_T35 b (i : Int) :: b.drop (i + 1) := by
      rw [drop_getD z35 b i (by omega)]; simp [rd_T35]
    simp only [laws_eqHabitS.l0]
    rw [if_pos (by omega), if_pos (by omega), if_pos (by omega), ha, hb]
    rw [eqHabit_eq (rd_T35 a (i : Int)) (rd_T35 b (i : Int))]
    simp only [Option.bind_some]
    by_cases e : rd_T35 a (i : Int) = rd_T35 b (i : Int)
    · rw [decide_eq_true e, if_pos rfl, wrap_nat i (by omega), ih (i + 1) k (by omega) (by omega)]
      simp [e]
    · rw [decide_eq_false e, if_neg (by decide)]
      simp [e]
theorem eqHabitS_eq (a b : List S35) (hl : a.length ≤ 1048576) (k : Nat) (hk : a.length < k) : laws_eqHabitS.f k a b = some (decide (a = b)) := by
  unfold laws_eqHabitS.f
  by_cases h : a.length = b.length
  · rw [if_pos (by omega)]
    have := eqHabitS_l0 a b h hl a.length 0 k (by omega) hk
    simpa using this
  · rw [if_neg (by omega)]
    have : a ≠ b := fun e => h (by rw [e])
    simp [this]

theorem szHabitS_eq (l : List S37) (a : Int) (h0 : 0 ≤ a) (h1 : a ≤ 1048576) (hl : l.length ≤ 9223372036854775807) : laws_szHabitS.f l a = some (if a < l.length then -1 else a - l.length) := by
  unfold laws_szHabitS.f
  rw [wrap64_id _ (by omega) (by omega)]
  by_cases h : a < (l.length : Int)
  · rw [if_pos (by omega), if_pos h]
  · rw [if_neg (by omega), if_neg h]

def habR (h : S35) : Prop := (0 ≤ h.f1 ∧ h.f1 ≤ 255) ∧ (0 ≤ h.f2 ∧ h.f2 ≤ 255)
theorem cvH_rng (l : List S37) (hw : ∀ x ∈ l, ((Lit.int .i8 x.f0).wf = true) ∧ ((Lit.int .u8 x.f1).wf = true) ∧ ((Lit.int .u8 x.f2).wf = true)) : ∀ h ∈ l.map cvHabit, habR h := by
  intro r hr
  obtain ⟨x, hx, rfl⟩ := List.mem_map.1 hr
  obtain ⟨_, h1, h2⟩ := hw x hx
  exact ⟨wf_u8 h1, wf_u8 h2⟩
theorem mem_hab (s : List S35) (i : Nat) (h : i < s.length) : rd_T35 s (i : Int) ∈ s := by
  have h2 : rd_T35 s (i : Int) = s.getD i z35 := by simp [rd_T35]
  rw [h2, List.getD_eq_getElem?_getD, List.getElem?_eq_getElem h]
  exact List.getElem_mem _
def hearH (h : S35) (w : ByteArray) : ByteArray := hearF h.f0 h.f1 h.f2 w
def okW (w : ByteArray) : Prop := 1 ≤ w.size ∧ w.size ≤ 12
theorem hearF_ok (f A B : Int) (w : ByteArray) (h : okW w) : okW (hearF f A B w) := by
  unfold okW at h ⊢
  unfold hearF
  split
  · rw [strOfNums_size, List.length_map, bytesOf_length]; exact h
  · split
    · split
      · exact h
      · unfold dropB
        split
        · rename_i h2 hq
          have hb := indexByte_bound w A.toNat.toUInt8 hq
          simp only [ByteArray.size_append, ByteArray.size_extract]
          omega
        · exact h
    · split
      · split
        · simp only [ByteArray.size_append, ByteArray.size_extract]
          omega
        · exact h
      · split
        · split
          · rw [strOfNums_size, List.length_reverse, bytesOf_length]; exact h
          · exact h
        · exact h
def passF (hs : List S35) (w : ByteArray) : ByteArray := hs.foldl (fun w h => hearH h w) w
def saidF : List S35 → ByteArray → List ByteArray
  | [], _ => []
  | h :: r, w => hearH h w :: saidF r (hearH h w)
theorem saidF_length : ∀ (hs : List S35) (w : ByteArray), (saidF hs w).length = hs.length
  | [], _ => rfl
  | h :: r, w => by simp [saidF, saidF_length r]
theorem saidF_last : ∀ (hs : List S35) (w : ByteArray), (w :: saidF hs w).getD hs.length ByteArray.empty = passF hs w
  | [], w => rfl
  | h :: r, w => by
    have := saidF_last r (hearH h w)
    simp only [saidF, List.length_cons, passF, List.foldl_cons]
    exact this
theorem specPass_l0 (hs : List S35) (hl : hs.length ≤ 1048576) (hr : ∀ h ∈ hs, habR h) : ∀ (d i k : Nat) (w : ByteArray), i + d = hs.length → d + 30 < k → okW w → spec_l04Pass.l0 k hs w (i : Int) = some (passF (hs.drop i) w) := by
  intro d
  induction d with
  | zero =>
    intro i k w hi hk hw
    obtain ⟨k, rfl⟩ : ∃ m, k = m + 1 := ⟨k - 1, by omega⟩
    simp only [spec_l04Pass.l0]
    rw [if_neg (by omega), List.drop_eq_nil_of_le (by omega)]
    rfl
  | succ d ih =>
    intro i k w hi hk hw
    obtain ⟨k, rfl⟩ : ∃ m, k = m + 1 := ⟨k - 1, by omega⟩
    have hh := hr _ (mem_hab hs i (by omega))
    simp only [spec_l04Pass.l0]
    rw [if_pos (by omega), if_pos (by omega), specHear_eq _ _ _ hh.1 w hw.1 hw.2 k (by omega), Option.bind_some, wrap_nat i (by omega), ih (i + 1) k _ (by omega) (by omega) (hearF_ok _ _ _ w hw), drop_hab hs i (by omega)]
    rfl
theorem specPass_eq (hs : List S35) (hl : hs.length ≤ 1048576) (hr : ∀ h ∈ hs, habR h) (w : ByteArray) (hw : okW w) (k : Nat) (hk : hs.length + 30 < k) : spec_l04Pass.f k hs w = some (passF hs w) := by
  unfold spec_l04Pass.f
  have := specPass_l0 hs hl hr hs.length 0 k w (by omega) hk hw
  rw [show ((0 : Nat) : Int) = 0 from rfl, List.drop_zero] at this
  exact this
theorem implHeard_l0 (hs : List S35) (m : Int) (hl : hs.length ≤ 1048576) (hr : ∀ h ∈ hs, habR h) : ∀ (d i k : Nat) (w : ByteArray) (xs : List ByteArray), i + d = hs.length → d < k → okW w → xs.length ≤ i + 1 → impl_heard.l0 k w xs hs (hs.length : Int) (i : Int) m = some (xs ++ saidF (hs.drop i) w) := by
  intro d
  induction d with
  | zero =>
    intro i k w xs hi hk hw hx
    obtain ⟨k, rfl⟩ : ∃ m, k = m + 1 := ⟨k - 1, by omega⟩
    simp only [impl_heard.l0]
    rw [if_neg (by omega), List.drop_eq_nil_of_le (by omega)]
    simp [saidF]
  | succ d ih =>
    intro i k w xs hi hk hw hx
    obtain ⟨k, rfl⟩ : ∃ m, k = m + 1 := ⟨k - 1, by omega⟩
    have hh := hr _ (mem_hab hs i (by omega))
    simp only [impl_heard.l0]
    rw [if_pos (by omega), if_pos (by omega), if_pos (by omega), implHear_eq _ _ _ m hh.1 hh.2 w hw.1 hw.2, Option.bind_some, if_pos (by omega), wrap_nat i (by omega), ih (i + 1) k _ _ (by omega) (by omega) (hearF_ok _ _ _ w hw) (by simp; omega), drop_hab hs i (by omega)]
    simp [saidF, hearH]
theorem implHeard_eq (hs : List S35) (m : Int) (hl : hs.length ≤ 1048576) (hr : ∀ h ∈ hs, habR h) (w : ByteArray) (hw : okW w) (k : Nat) (hk : hs.length < k) : impl_heard.f k hs w m = some (w :: saidF hs w) := by
  unfold impl_heard.f
  have := implHeard_l0 hs m hl hr hs.length 0 k w [w] (by omega) hk hw (by simp)
  rw [show ((0 : Nat) : Int) = 0 from rfl, List.drop_zero] at this
  exact this
theorem implPassed_eq (hs : List S35) (m : Int) (hl : hs.length ≤ 1048576) (hr : ∀ h ∈ hs, habR h) (w : ByteArray) (hw : okW w) (k : Nat) (hk : hs.length < k) : impl_passed.f k hs w m = some (passF hs w) := by
  unfold impl_passed.f
  rw [implHeard_eq hs m hl hr w hw k hk, Option.bind_some, if_pos (by omega), if_pos (by simp [saidF_length]; omega), rdS_nat, saidF_last]
theorem codeA_one (hs : List S35) (w : ByteArray) : codeA hs [w] = codeH hs [w] := by
  unfold codeA codeH
  by_cases a : habitsOk hs = true ∧ wordsOk [w] = true
  · rw [if_pos a, if_pos a]
    by_cases b : hs.length ≤ 30
    · rw [if_pos b, if_pos b, if_pos (by simp)]
    · rw [if_neg b, if_neg b]
  · rw [if_neg a, if_neg a]
theorem codeH_facts (hs : List S35) (ws : List ByteArray) (h : codeH hs ws = 0) : hs.length ≤ 30 ∧ ∀ w ∈ ws, okW w := by
  unfold codeH at h
  by_cases a : habitsOk hs = true ∧ wordsOk ws = true
  · rw [if_pos a] at h
    by_cases b : hs.length ≤ 30
    · exact ⟨b, fun w hw => wordOk_size w (List.all_eq_true.1 a.2 w hw)⟩
    · rw [if_neg b] at h; exact absurd h (by decide)
  · rw [if_neg a] at h; exact absurd h (by decide)

theorem wordOk_iff (w : ByteArray) : wordOk w = true ↔ (1 ≤ w.size ∧ w.size ≤ 12) ∧ ∀ x ∈ bytesOf w, letter x = true := by
  constructor
  · intro h
    refine ⟨wordOk_size w h, fun x hx => ?_⟩
    obtain ⟨j, hj, rfl⟩ := List.mem_iff_getElem.1 hx
    have hj' : j < w.size := by rwa [bytesOf_length] at hj
    have h2 := wordOk_get w h j hj'
    rw [← rd_bytesOf, rd_nat, List.getD_eq_getElem?_getD, List.getElem?_eq_getElem hj] at h2
    simpa [letter] using h2
  · intro ⟨hs, hl⟩
    have hf : ∀ d i, i + d = w.size → lettersFrom w d i = true := by
      intro d
      induction d with
      | zero => intro i _; rfl
      | succ d ih =>
        intro i hi
        unfold lettersFrom
        rw [Bool.and_eq_true]
        refine ⟨?_, ih (i + 1) (by omega)⟩
        have hj : i < (bytesOf w).length := by rw [bytesOf_length]; omega
        have := hl _ (List.getElem_mem hj)
        rw [← rd_bytesOf, rd_nat, List.getD_eq_getElem?_getD, List.getElem?_eq_getElem hj]
        exact this
    unfold wordOk
    rw [hf w.size 0 (by omega), Bool.true_and]
    exact decide_eq_true (by omega)
theorem bytesOf_strOfNums (xs : List Int) (h : ∀ x ∈ xs, 0 ≤ x ∧ x ≤ 255) : bytesOf (strOfNums xs) = xs := by
  apply List.ext_getElem?
  intro j
  unfold bytesOf strOfNums
  simp only [List.toList_toArray, List.map_map, List.getElem?_map]
  cases hq : xs[j]? with
  | none => rfl
  | some x =>
    have hx := h x (List.mem_of_getElem? hq)
    obtain ⟨n, rfl⟩ := Int.eq_ofNat_of_zero_le hx.1
    simp
    omega
theorem bytesOf_append (a b : ByteArray) : bytesOf (a ++ b) = bytesOf a ++ bytesOf b := by
  unfold bytesOf
  simp
def itr {α : Type} (f : α → α) : Nat → α → α
  | 0, x => x
  | n + 1, x => itr f n (f x)
theorem itr_succ {α : Type} (f : α → α) : ∀ (n : Nat) (x : α), itr f (n + 1) x = f (itr f n x)
  | 0, _ => rfl
  | n + 1, x => itr_succ f n (f x)
theorem itr_add {α : Type} (f : α → α) : ∀ (n m : Nat) (x : α), itr f (n + m) x = itr f m (itr f n x)
  | 0, m, x => by rw [Nat.zero_add]; rfl
  | n + 1, m, x => by rw [show n + 1 + m = (n + m) + 1 by omega]; exact itr_add f n m (f x)
theorem nodup_len {α : Type} [DecidableEq α] : ∀ (S T : List α), S.Nodup → (∀ x ∈ S, x ∈ T) → S.length ≤ T.length
  | [], T, _, _ => Nat.zero_le _
  | a :: S, T, h, hs => by
    rw [List.nodup_cons] at h
    have ha := hs a List.mem_cons_self
    have h2 := nodup_len S (T.erase a) h.2 (fun x hx => (List.mem_erase_of_ne (fun e => h.1 (by rw [← e]; exact hx))).2 (hs x (List.mem_cons_of_mem _ hx)))
    rw [List.length_erase_of_mem ha] at h2
    have : 0 < T.length := List.length_pos_of_mem ha
    rw [List.length_cons]
    omega
theorem nodup_of_sub {α : Type} [DecidableEq α] : ∀ (S T : List α), S.Nodup → (∀ x ∈ S, x ∈ T) → T.length ≤ S.length → T.Nodup
  | [], T, _, _, hl => by
    have : T = [] := List.eq_nil_of_length_eq_zero (by simpa using hl)
    rw [this]; exact List.nodup_nil
  | a :: S, T, h, hs, hl => by
    have hf := h
    rw [List.nodup_cons] at h
    have ha := hs a List.mem_cons_self
    have hp : 0 < T.length := List.length_pos_of_mem ha
    have hsub : ∀ x ∈ S, x ∈ T.erase a := fun x hx => (List.mem_erase_of_ne (fun e => h.1 (by rw [← e]; exact hx))).2 (hs x (List.mem_cons_of_mem _ hx))
    have hle := List.length_erase_of_mem ha
    rw [List.length_cons] at hl
    have h2 := nodup_of_sub S (T.erase a) h.2 hsub (by omega)
    have hna : a ∉ T.erase a := by
      intro hin
      have := nodup_len (a :: S) (T.erase a) hf (fun x hx => by
        rcases List.mem_cons.1 hx with rfl | hx
        · exact hin
        · exact hsub x hx)
      rw [List.length_cons] at this
      have := nodup_len S (T.erase a) h.2 hsub
      omega
    exact (List.perm_cons_erase ha).nodup_iff.2 (List.nodup_cons.2 ⟨hna, h2⟩)
theorem least_of {P : Nat → Prop} : ∀ n, P n → ∃ m, P m ∧ ∀ k, k < m → ¬ P k := by
  intro n
  induction n using Nat.strongRecOn with
  | _ n ih =>
    intro h
    by_cases c : ∃ k, k < n ∧ P k
    · obtain ⟨k, hk, hp⟩ := c
      exact ih k hk hp
    · exact ⟨n, h, fun k hk hp => c ⟨k, hk, hp⟩⟩
theorem not_nodup {α : Type} (g : Nat → α) : ∀ (n : Nat), ¬ ((List.range n).map g).Nodup → ∃ i j, i < j ∧ j < n ∧ g i = g j := by
  intro n h
  rw [List.nodup_iff_pairwise_ne, List.pairwise_map] at h
  by_cases c : ∃ i j, i < j ∧ j < n ∧ g i = g j
  · exact c
  · exfalso
    apply h
    rw [List.pairwise_iff_getElem]
    intro i j hi hj hij
    rw [List.length_range] at hi hj
    simp only [List.getElem_range]
    exact fun e => c ⟨i, j, hij, hj, e⟩
def Bd (s : Nat) : Nat := [1, 2, 3, 4, 6, 9, 12, 18, 27, 36, 54, 81, 108, 162, 243, 324, 486, 729, 972, 1458, 2187, 2916, 4374, 6561, 8748, 13122, 19683].getD s 0
theorem Bd_step : ∀ s, s < 26 → Bd s + 1 ≤ Bd (s + 1) := by decide
theorem Bd_mul : ∀ s, s < 27 → ∀ c, c < s → (c + 1) * Bd (s - (c + 1)) ≤ Bd s := by decide
theorem Bd_pos : ∀ s, s < 27 → 1 ≤ Bd s := by decide
theorem code_of {α : Type} [DecidableEq α] (f : α → α) : ∀ (s : Nat), s ≤ 26 → ∀ (S : List α), S.Nodup → S.length ≤ s → (∀ x ∈ S, f x ∈ S) →
    ∃ M : Nat → Nat, (∀ n, M n < Bd s) ∧ ∀ n m, M n = M m → ∀ x ∈ S, itr f n x = itr f m x := by
  intro s
  induction s using Nat.strongRecOn with
  | _ s ih =>
    intro hs S hn hl hc
    cases S with
    | nil => exact ⟨fun _ => 0, fun _ => Bd_pos s (by omega), fun _ _ _ x hx => absurd hx (by simp)⟩
    | cons x0 R =>
      obtain ⟨s, rfl⟩ : ∃ t, s = t + 1 := ⟨s - 1, by rw [List.length_cons] at hl; omega⟩
      obtain ⟨S, hS⟩ : ∃ S, S = x0 :: R := ⟨_, rfl⟩
      have hx0 : x0 ∈ S := by rw [hS]; exact List.mem_cons_self
      rw [← hS] at hn hl hc ⊢
      clear hS
      by_cases hA : ∃ y, y ∈ S ∧ ∀ x ∈ S, f x ≠ y
      · obtain ⟨y, hy, hne⟩ := hA
        have hle := List.length_erase_of_mem hy
        have hnd : (S.erase y).Nodup := hn.sublist List.erase_sublist
        have hmem : ∀ x ∈ S, f x ∈ S.erase y := fun x hx => (List.mem_erase_of_ne (hne x hx)).2 (hc x hx)
        obtain ⟨M, hM1, hM2⟩ := ih s (by omega) (by omega) (S.erase y) hnd (by omega) (fun x hx => hmem x (List.mem_of_mem_erase hx))
        have hstep := Bd_step s (by omega)
        refine ⟨fun n => if n = 0 then Bd s else M (n - 1), fun n => ?_, fun n m h x hx => ?_⟩
        · dsimp only
          split
          · omega
          · have := hM1 (n - 1); omega
        · dsimp only at h
          cases n with
          | zero =>
            cases m with
            | zero => rfl
            | succ m => rw [if_pos rfl, if_neg (by omega)] at h; have := hM1 (m + 1 - 1); omega
          | succ n =>
            cases m with
            | zero => rw [if_pos rfl, if_neg (by omega)] at h; have := hM1 (n + 1 - 1); omega
            | succ m =>
              rw [if_neg (by omega), if_neg (by omega)] at h
              exact hM2 n m h (f x) (hmem x hx)
      · have hsur : ∀ y ∈ S, ∃ x ∈ S, f x = y := by
          intro y hy
          by_cases c : ∃ x ∈ S, f x = y
          · exact c
          · exact absurd ⟨y, hy, fun x hx e => c ⟨x, hx, e⟩⟩ hA
        have hnm : (S.map f).Nodup := nodup_of_sub S (S.map f) hn (fun y hy => by
          obtain ⟨x, hx, rfl⟩ := hsur y hy
          exact List.mem_map.2 ⟨x, hx, rfl⟩) (by rw [List.length_map]; exact Nat.le_refl _)
        have hinj : ∀ a ∈ S, ∀ b ∈ S, f a = f b → a = b := by
          intro a ha b hb e
          obtain ⟨i, hi, rfl⟩ := List.getElem_of_mem ha
          obtain ⟨j, hj, rfl⟩ := List.getElem_of_mem hb
          have h2 : (S.map f)[i]'(by rw [List.length_map]; exact hi) = (S.map f)[j]'(by rw [List.length_map]; exact hj) := by rw [List.getElem_map, List.getElem_map]; exact e
          have := (List.getElem_inj hnm).1 h2
          subst this
          rfl
        have hit : ∀ n x, x ∈ S → itr f n x ∈ S := by
          intro n
          induction n with
          | zero => intro x hx; exact hx
          | succ n ihn => intro x hx; exact ihn (f x) (hc x hx)
        have hpeel : ∀ i d, itr f i x0 = itr f (i + d) x0 → itr f d x0 = x0 := by
          intro i
          induction i with
          | zero => intro d h; rw [Nat.zero_add] at h; exact h.symm
          | succ i ihi =>
            intro d h
            rw [show i + 1 + d = (i + d) + 1 by omega, itr_succ, itr_succ] at h
            exact ihi d (hinj _ (hit i x0 hx0) _ (hit (i + d) x0 hx0) h)
        have hret : ∃ c, 0 < c ∧ itr f c x0 = x0 := by
          have : ¬ ((List.range (S.length + 1)).map (fun i => itr f i x0)).Nodup := by
            intro h
            have := nodup_len _ S h (fun y hy => by
              obtain ⟨i, _, rfl⟩ := List.mem_map.1 hy
              exact hit i x0 hx0)
            rw [List.length_map, List.length_range] at this
            omega
          obtain ⟨i, j, hij, _, e⟩ := not_nodup _ _ this
          refine ⟨j - i, by omega, hpeel i (j - i) ?_⟩
          rw [show i + (j - i) = j by omega]
          exact e
        obtain ⟨c1, hc1⟩ := hret
        obtain ⟨c, ⟨hcp, hcx⟩, hmin⟩ := least_of (P := fun c => 0 < c ∧ itr f c x0 = x0) c1 hc1
        obtain ⟨C, hC⟩ : ∃ C, C = (List.range c).map (fun i => itr f i x0) := ⟨_, rfl⟩
        have hCm : ∀ y, y ∈ C ↔ ∃ i, i < c ∧ itr f i x0 = y := by
          intro y
          rw [hC, List.mem_map]
          constructor
          · rintro ⟨i, hi, e⟩; exact ⟨i, List.mem_range.1 hi, e⟩
          · rintro ⟨i, hi, e⟩; exact ⟨i, List.mem_range.2 hi, e⟩
        have hCn : C.Nodup := by
          by_cases h : C.Nodup
          · exact h
          · rw [hC] at h
            obtain ⟨i, j, hij, hj, e⟩ := not_nodup _ _ h
            have := hpeel i (j - i) (by rw [show i + (j - i) = j by omega]; exact e)
            exact absurd ⟨by omega, this⟩ (hmin (j - i) (by omega))
        have hCl : C.length = c := by rw [hC, List.length_map, List.length_range]
        have hCS : ∀ y ∈ C, y ∈ S := by
          intro y hy
          obtain ⟨i, _, rfl⟩ := (hCm y).1 hy
          exact hit i x0 hx0
        obtain ⟨S', hS'⟩ : ∃ S', S' = S.filter (fun y => decide (y ∉ C)) := ⟨_, rfl⟩
        have hS'm : ∀ y, y ∈ S' ↔ y ∈ S ∧ y ∉ C := by
          intro y; rw [hS', List.mem_filter, decide_eq_true_iff]
        have hS'n : S'.Nodup := by rw [hS']; exact hn.sublist List.filter_sublist
        have hS'l : C.length + S'.length ≤ S.length := by
          have h := nodup_len (C ++ S') S (by
            rw [List.nodup_append]
            exact ⟨hCn, hS'n, fun a ha b hb e => ((hS'm b).1 hb).2 (by rw [← e]; exact ha)⟩) (fun y hy => by
            rcases List.mem_append.1 hy with h | h
            · exact hCS y h
            · exact ((hS'm y).1 h).1)
          rwa [List.length_append] at h
        have hS'c : ∀ x ∈ S', f x ∈ S' := by
          intro x hx
          obtain ⟨h1, h2⟩ := (hS'm x).1 hx
          refine (hS'm _).2 ⟨hc x h1, fun h3 => h2 ?_⟩
          obtain ⟨i, hi, e⟩ := (hCm _).1 h3
          cases i with
          | zero =>
            obtain ⟨c', rfl⟩ : ∃ c', c = c' + 1 := ⟨c - 1, by omega⟩
            rw [itr_succ] at hcx
            have e2 : f x = f (itr f c' x0) := by rw [hcx, ← e]; rfl
            have := hinj _ h1 _ (hit c' x0 hx0) e2
            exact (hCm x).2 ⟨c', by omega, this.symm⟩
          | succ i =>
            rw [itr_succ] at e
            have := hinj _ h1 _ (hit i x0 hx0) e.symm
            exact (hCm x).2 ⟨i, by omega, this.symm⟩
        obtain ⟨M, hM1, hM2⟩ := ih (s + 1 - c) (by omega) (by omega) S' hS'n (by omega) hS'c
        have hb := Bd_mul (s + 1) (by omega) (c - 1) (by omega)
        rw [show c - 1 + 1 = c by omega] at hb
        have hper : ∀ n, itr f n x0 = itr f (n % c) x0 := by
          intro n
          induction n using Nat.strongRecOn with
          | _ n ihn =>
            by_cases h : n < c
            · rw [Nat.mod_eq_of_lt h]
            · rw [Nat.mod_eq_sub_mod (by omega), ← ihn (n - c) (by omega)]
              have := itr_add f c (n - c) x0
              rw [show c + (n - c) = n by omega, hcx] at this
              exact this
        refine ⟨fun n => n % c + c * M n, fun n => ?_, fun n m h x hx => ?_⟩
        · have h1 := Nat.mod_lt n hcp
          have h2 := hM1 n
          have h3 : c * M n + c ≤ c * Bd (s + 1 - c) := by
            have := Nat.mul_le_mul_left c (show M n + 1 ≤ Bd (s + 1 - c) from h2)
            rwa [Nat.mul_add, Nat.mul_one] at this
          dsimp only
          omega
        · dsimp only at h
          have e1 : n % c = m % c := by
            have := congrArg (· % c) h
            simpa [Nat.add_mul_mod_self_left] using this
          have e2 : M n = M m := by
            rw [e1] at h
            exact Nat.eq_of_mul_eq_mul_left hcp (Nat.add_left_cancel h)
          by_cases hxC : x ∈ C
          · obtain ⟨i, hi, rfl⟩ := (hCm x).1 hxC
            rw [← itr_add, ← itr_add, Nat.add_comm i n, Nat.add_comm i m, itr_add, itr_add, hper n, hper m, e1]
          · exact hM2 n m e2 x ((hS'm x).2 ⟨hx, hxC⟩)
theorem pigeon (c : Nat → Nat) (N : Nat) (h : ∀ n, c n < N) : ∃ i j, i < j ∧ j ≤ N ∧ c i = c j := by
  have : ¬ ((List.range (N + 1)).map c).Nodup := by
    intro hn
    have := nodup_len _ (List.range N) hn (fun y hy => by
      obtain ⟨i, _, rfl⟩ := List.mem_map.1 hy
      exact List.mem_range.2 (h i))
    rw [List.length_map, List.length_range, List.length_range] at this
    omega
  obtain ⟨i, j, h1, h2, h3⟩ := not_nodup c _ this
  exact ⟨i, j, h1, by omega, h3⟩

def addI : Nat → List Nat → List Nat
  | _, [] => []
  | i, x :: t => (x + i) :: addI (i + 1) t
theorem addI_inj : ∀ (p q : List Nat) (i : Nat), addI i p = addI i q → p = q
  | [], [], _, _ => rfl
  | [], _ :: _, _, h => by simp [addI] at h
  | _ :: _, [], _, h => by simp [addI] at h
  | x :: t, y :: u, i, h => by
    simp only [addI, List.cons.injEq] at h
    have := addI_inj t u (i + 1) h.2
    rw [this, show x = y by omega]
theorem addI_low : ∀ (p : List Nat) (i a y : Nat), (∀ x ∈ p, a ≤ x) → y ∈ addI i p → a + i ≤ y
  | [], _, _, _, _, h => by simp [addI] at h
  | x :: t, i, a, y, ha, h => by
    simp only [addI, List.mem_cons] at h
    rcases h with rfl | h
    · have := ha x List.mem_cons_self; omega
    · have := addI_low t (i + 1) a y (fun z hz => ha z (List.mem_cons_of_mem _ hz)) h; omega
theorem addI_high : ∀ (p : List Nat) (i b y : Nat), (∀ x ∈ p, x < b) → y ∈ addI i p → y < b + i + p.length
  | [], _, _, _, _, h => by simp [addI] at h
  | x :: t, i, b, y, ha, h => by
    simp only [addI, List.mem_cons] at h
    rw [List.length_cons]
    rcases h with rfl | h
    · have := ha x List.mem_cons_self; omega
    · have := addI_high t (i + 1) b y (fun z hz => ha z (List.mem_cons_of_mem _ hz)) h; omega
theorem addI_inc : ∀ (p : List Nat) (i : Nat), p.Pairwise (· ≤ ·) → (addI i p).Pairwise (· < ·)
  | [], _, _ => List.Pairwise.nil
  | x :: t, i, h => by
    rw [List.pairwise_cons] at h
    simp only [addI]
    rw [List.pairwise_cons]
    exact ⟨fun y hy => by have := addI_low t (i + 1) x y h.1 hy; omega, addI_inc t (i + 1) h.2⟩
theorem inc_ext : ∀ (p q : List Nat), p.Pairwise (· < ·) → q.Pairwise (· < ·) → (∀ x, x ∈ p ↔ x ∈ q) → p = q
  | [], [], _, _, _ => rfl
  | [], y :: _, _, _, h => by have := (h y).2 List.mem_cons_self; simp at this
  | x :: _, [], _, _, h => by have := (h x).1 List.mem_cons_self; simp at this
  | x :: t, y :: u, hp, hq, h => by
    rw [List.pairwise_cons] at hp hq
    have e : x = y := by
      rcases List.mem_cons.1 ((h x).1 List.mem_cons_self) with e | e
      · exact e
      · rcases List.mem_cons.1 ((h y).2 List.mem_cons_self) with e2 | e2
        · exact e2.symm
        · have a := hq.1 x e; have b := hp.1 y e2; omega
    subst e
    rw [inc_ext t u hp.2 hq.2 (fun z => by
      constructor
      · intro hz
        rcases List.mem_cons.1 ((h z).1 (List.mem_cons_of_mem _ hz)) with rfl | g
        · exact absurd (hp.1 z hz) (Nat.lt_irrefl _)
        · exact g
      · intro hz
        rcases List.mem_cons.1 ((h z).2 (List.mem_cons_of_mem _ hz)) with rfl | g
        · exact absurd (hq.1 z hz) (Nat.lt_irrefl _)
        · exact g)]
def mask : List Nat → Nat
  | [] => 0
  | x :: t => 2 ^ x ||| mask t
theorem mask_bit : ∀ (p : List Nat) (y : Nat), (mask p).testBit y = true ↔ y ∈ p
  | [], y => by simp [mask]
  | x :: t, y => by
    simp only [mask, Nat.testBit_or, Bool.or_eq_true, Nat.testBit_two_pow, decide_eq_true_iff, List.mem_cons, mask_bit t y]
    constructor
    · rintro (h | h)
      · exact Or.inl h.symm
      · exact Or.inr h
    · rintro (h | h)
      · exact Or.inl h.symm
      · exact Or.inr h
theorem mask_lt : ∀ (p : List Nat) (b : Nat), (∀ x ∈ p, x < b) → mask p < 2 ^ b
  | [], b, _ => by simp only [mask]; exact Nat.two_pow_pos b
  | x :: t, b, h => by
    simp only [mask]
    exact Nat.or_lt_two_pow (Nat.pow_lt_pow_right (by decide) (h x List.mem_cons_self)) (mask_lt t b (fun z hz => h z (List.mem_cons_of_mem _ hz)))
def Sh (p : List Nat) : Prop := p.length ≤ 12 ∧ (∀ x ∈ p, x < 12) ∧ (p.Pairwise (· ≤ ·) ∨ p.reverse.Pairwise (· ≤ ·))
open Classical in
noncomputable def shC (p : List Nat) : Nat := if p.Pairwise (· ≤ ·) then 2 * mask (addI 0 p) else 2 * mask (addI 0 p.reverse) + 1
theorem mask_inj (p q : List Nat) (hp : p.Pairwise (· ≤ ·)) (hq : q.Pairwise (· ≤ ·)) (h : mask (addI 0 p) = mask (addI 0 q)) : p = q :=
  addI_inj p q 0 (inc_ext _ _ (addI_inc p 0 hp) (addI_inc q 0 hq) (fun x => by rw [← mask_bit, ← mask_bit, h]))
theorem mask_12 (p : List Nat) (h1 : p.length ≤ 12) (h2 : ∀ x ∈ p, x < 12) : mask (addI 0 p) < 2 ^ 24 :=
  mask_lt _ 24 (fun y hy => by have := addI_high p 0 12 y h2 hy; omega)
theorem shC_lt (p : List Nat) (h : Sh p) : shC p < 2 ^ 25 := by
  unfold shC
  have a := mask_12 p h.1 h.2.1
  have b := mask_12 p.reverse (by rw [List.length_reverse]; exact h.1) (fun x hx => h.2.1 x (List.mem_reverse.1 hx))
  rw [show (2 : Nat) ^ 25 = 2 * 2 ^ 24 from rfl]
  split <;> omega
theorem shC_inj (p q : List Nat) (hp : Sh p) (hq : Sh q) (h : shC p = shC q) : p = q := by
  unfold shC at h
  by_cases a : p.Pairwise (· ≤ ·)
  · by_cases b : q.Pairwise (· ≤ ·)
    · rw [if_pos a, if_pos b] at h
      exact mask_inj p q a b (by omega)
    · rw [if_pos a, if_neg b] at h; omega
  · by_cases b : q.Pairwise (· ≤ ·)
    · rw [if_neg a, if_pos b] at h; omega
    · rw [if_neg a, if_neg b] at h
      have a2 := hp.2.2.resolve_left a
      have b2 := hq.2.2.resolve_left b
      have := mask_inj _ _ a2 b2 (by omega)
      exact List.reverse_inj.1 this
theorem Sh_erase {p : List Nat} (h : Sh p) (i : Nat) : Sh (p.eraseIdx i) := by
  refine ⟨Nat.le_trans (List.eraseIdx_sublist p i).length_le h.1, fun x hx => h.2.1 x ((List.eraseIdx_sublist p i).subset hx), ?_⟩
  rcases h.2.2 with g | g
  · exact Or.inl (g.sublist (List.eraseIdx_sublist p i))
  · exact Or.inr (g.sublist (List.reverse_sublist.2 (List.eraseIdx_sublist p i)))
theorem Sh_rev {p : List Nat} (h : Sh p) : Sh p.reverse :=
  ⟨by rw [List.length_reverse]; exact h.1, fun x hx => h.2.1 x (List.mem_reverse.1 hx), by rw [List.reverse_reverse]; exact h.2.2.symm⟩
theorem Sh_double {r : List Nat} {l : Nat} (h : Sh (r ++ [l])) (hl : (r ++ [l]).length < 12) : Sh (r ++ [l] ++ [l]) := by
  refine ⟨by rw [List.length_append]; simp only [List.length_singleton]; omega, fun x hx => ?_, ?_⟩
  · rcases List.mem_append.1 hx with g | g
    · exact h.2.1 x g
    · rw [List.mem_singleton.1 g]; exact h.2.1 l (by simp)
  · rcases h.2.2 with g | g
    · left
      rw [List.pairwise_append]
      refine ⟨g, by simp, fun a ha b hb => ?_⟩
      rw [List.mem_singleton.1 hb]
      rw [List.pairwise_append] at g
      rcases List.mem_append.1 ha with k | k
      · exact g.2.2 a k l (by simp)
      · rw [List.mem_singleton.1 k]; exact Nat.le_refl _
    · right
      rw [List.reverse_append, List.reverse_append] at *
      simp only [List.reverse_singleton, List.singleton_append] at *
      rw [List.pairwise_cons]
      refine ⟨fun a ha => ?_, g⟩
      rw [List.pairwise_cons] at g
      rcases List.mem_cons.1 ha with rfl | k
      · exact Nat.le_refl _
      · exact g.1 a k
theorem Sh_start (n : Nat) (h : n ≤ 12) : Sh (List.range n) :=
  ⟨by rw [List.length_range]; exact h, fun x hx => by have := List.mem_range.1 hx; omega, Or.inl (List.pairwise_lt_range.imp (fun h => Nat.le_of_lt h))⟩

def swH (h : S35) (x : Int) : Int := if h.f0 = 1 then Go.Proofs.YtcccbkilpeohkaaDoor.H.swap1 h.f1 h.f2 x else x
def swAll (hs : List S35) (x : Int) : Int := hs.foldl (fun x h => swH h x) x
theorem swH_letter (h : S35) (hk : habitOk h.f0 h.f1 h.f2 = true) (x : Int) (hx : letter x = true) : letter (swH h x) = true := by
  unfold swH
  by_cases f1 : h.f0 = 1
  · rw [if_pos f1]
    unfold habitOk at hk
    rw [if_neg (by omega), if_pos f1, Bool.and_eq_true, Bool.and_eq_true] at hk
    unfold Go.Proofs.YtcccbkilpeohkaaDoor.H.swap1
    by_cases e : x = h.f1
    · rw [if_pos e]; exact hk.1.2
    · rw [if_neg e]; exact hx
  · rw [if_neg f1]; exact hx
theorem swAll_letter : ∀ (hs : List S35), habitsOk hs = true → ∀ x, letter x = true → letter (swAll hs x) = true
  | [], _, x, hx => hx
  | h :: r, hk, x, hx => by
    unfold habitsOk at hk
    rw [List.all_cons, Bool.and_eq_true] at hk
    exact swAll_letter r hk.2 _ (swH_letter h hk.1 x hx)
theorem bytesOf_extract (w : ByteArray) (i j : Nat) : bytesOf (w.extract i j) = ((bytesOf w).take j).drop i := by
  unfold bytesOf
  rw [ByteArray.data_extract, Array.toList_extract]
  rw [List.extract_eq_take_drop, List.map_take, List.map_drop, List.drop_take]
theorem hear_shape (h : S35) (w : ByteArray) (hw : okW w) (g : Nat → Int) (hg : ∀ i, letter (g i) = true) (hg2 : ∀ i, letter (swH h (g i)) = true) (p : List Nat) (hp : Sh p) (e : bytesOf w = p.map g) :
    ∃ q, Sh q ∧ bytesOf (hearH h w) = q.map (fun i => swH h (g i)) := by
  have hlen : p.length = w.size := by have := congrArg List.length e; rw [bytesOf_length, List.length_map] at this; exact this.symm
  unfold hearH hearF
  by_cases f1 : h.f0 = 1
  · refine ⟨p, hp, ?_⟩
    have hs : swH h = Go.Proofs.YtcccbkilpeohkaaDoor.H.swap1 h.f1 h.f2 := by funext x; unfold swH; rw [if_pos f1]
    rw [if_pos f1, e, List.map_map, bytesOf_strOfNums]
    · apply List.map_congr_left; intro i _; rw [hs]; rfl
    · intro x hx
      obtain ⟨i, _, rfl⟩ := List.mem_map.1 hx
      have := hg2 i
      rw [hs] at this
      simp only [letter, decide_eq_true_eq] at this
      simp only [Function.comp]
      omega
  · have hs : (fun i => swH h (g i)) = g := by funext i; unfold swH; rw [if_neg f1]
    rw [if_neg f1, hs]
    by_cases f2 : h.f0 = 2
    · rw [if_pos f2]
      by_cases s1 : w.size = 1
      · rw [if_pos s1]; exact ⟨p, hp, e⟩
      · rw [if_neg s1]
        unfold dropB
        split
        · refine ⟨p.eraseIdx (Go.Lib.indexByte w.data.toList h.f1.toNat.toUInt8).toNat, Sh_erase hp _, ?_⟩
          rw [bytesOf_append, bytesOf_extract, bytesOf_extract, List.drop_zero, List.take_of_length_le (i := w.size) (by rw [bytesOf_length]; exact Nat.le_refl _), ← List.eraseIdx_eq_take_drop_succ, e]
          first | rw [List.eraseIdx_map] | rw [← List.eraseIdx_map] | rw [← List.map_eraseIdx] | simp [List.eraseIdx_eq_take_drop_succ]
        · exact ⟨p, hp, e⟩
    · rw [if_neg f2]
      by_cases f3 : h.f0 = 3
      · rw [if_pos f3]
        split
        · rename_i h12
          obtain ⟨r, l, rfl⟩ : ∃ r l, p = r ++ [l] := by
            have hne : p ≠ [] := by intro z; rw [z] at hlen; have := hw.1; simp at hlen; omega
            exact ⟨p.dropLast, p.getLast hne, (List.dropLast_concat_getLast hne).symm⟩
          refine ⟨r ++ [l] ++ [l], Sh_double hp (by omega), ?_⟩
          rw [bytesOf_append, bytesOf_extract, List.take_of_length_le (by rw [bytesOf_length]; exact Nat.le_refl _), e, List.map_append (l₁ := r ++ [l])]
          congr 1
          rw [List.length_append, List.length_singleton] at hlen
          rw [List.map_append, List.drop_append_of_le_length (by rw [List.length_map]; omega), List.drop_eq_nil_of_le (by rw [List.length_map]; omega), List.nil_append]
        · exact ⟨p, hp, e⟩
      · rw [if_neg f3]
        by_cases f4 : h.f0 = 4
        · rw [if_pos f4]
          split
          · refine ⟨p.reverse, Sh_rev hp, ?_⟩
            rw [bytesOf_strOfNums, e, List.map_reverse]
            intro x hx
            rw [List.mem_reverse, e] at hx
            obtain ⟨i, _, rfl⟩ := List.mem_map.1 hx
            have := hg i
            simp only [letter, decide_eq_true_eq] at this
            omega
          · exact ⟨p, hp, e⟩
        · rw [if_neg f4]; exact ⟨p, hp, e⟩
theorem pass_shape : ∀ (hs : List S35) (_ : habitsOk hs = true) (w : ByteArray) (_ : okW w) (g : Nat → Int) (_ : ∀ i, letter (g i) = true) (p : List Nat) (_ : Sh p) (_ : bytesOf w = p.map g),
    ∃ q, Sh q ∧ bytesOf (passF hs w) = q.map (fun i => swAll hs (g i))
  | [], _, w, _, g, _, p, hp, e => ⟨p, hp, e⟩
  | h :: r, hk, w, hw, g, hg, p, hp, e => by
    unfold habitsOk at hk
    rw [List.all_cons, Bool.and_eq_true] at hk
    have hg2 : ∀ i, letter (swH h (g i)) = true := fun i => swH_letter h hk.1 _ (hg i)
    obtain ⟨q, hq, e2⟩ := hear_shape h w hw g hg hg2 p hp e
    exact pass_shape r hk.2 (hearH h w) (hearF_ok _ _ _ w hw) (fun i => swH h (g i)) hg2 q hq e2
theorem passF_ok : ∀ (hs : List S35) (w : ByteArray), okW w → okW (passF hs w)
  | [], _, h => h
  | h :: r, w, hw => passF_ok r (hearH h w) (hearF_ok _ _ _ w hw)
theorem bytesOf_inj (v w : ByteArray) (h : bytesOf v = bytesOf w) : v = w := by
  have : v.data.toList = w.data.toList := by
    unfold bytesOf at h
    refine List.map_inj_right (f := fun b : UInt8 => (b.toNat : Int)) (fun a b e => ?_) |>.1 h
    exact UInt8.toNat_inj.1 (by exact_mod_cast e)
  exact ByteArray.ext (Array.toList_inj.1 this)
def lettersL : List Int := (List.range 26).map (fun i : Nat => 97 + (i : Int))
theorem lettersL_mem (x : Int) : x ∈ lettersL ↔ letter x = true := by
  unfold lettersL
  rw [List.mem_map]
  simp only [letter, decide_eq_true_eq]
  constructor
  · rintro ⟨i, hi, rfl⟩; have := List.mem_range.1 hi; omega
  · intro h; exact ⟨(x - 97).toNat, List.mem_range.2 (by omega), by omega⟩
/-- Passed on again and again, a word comes again within 660451885057 rounds. -/
theorem orbit_rep (hs : List S35) (hk : habitsOk hs = true) (w : ByteArray) (hw : wordOk w = true) : ∃ i j, i < j ∧ j ≤ 660451885056 ∧ itr (passF hs) i w = itr (passF hs) j w := by
  obtain ⟨hsz, hlt⟩ := (wordOk_iff w).1 hw
  obtain ⟨M, hM1, hM2⟩ := code_of (swAll hs) 26 (Nat.le_refl _) lettersL (by decide +kernel) (by decide +kernel) (fun x hx => (lettersL_mem _).2 (swAll_letter hs hk x ((lettersL_mem x).1 hx)))
  have hit : ∀ n x, letter x = true → letter (itr (swAll hs) n x) = true := by
    intro n
    induction n with
    | zero => intro x hx; exact hx
    | succ n ih => intro x hx; exact ih _ (swAll_letter hs hk x hx)
  obtain ⟨g0, hg0⟩ : ∃ g0 : Nat → Int, g0 = fun i => (bytesOf w).getD i 97 := ⟨_, rfl⟩
  have hgl : ∀ i, letter (g0 i) = true := by
    intro i
    rw [hg0]
    dsimp only
    rw [List.getD_eq_getElem?_getD]
    cases hq : (bytesOf w)[i]? with
    | none => rfl
    | some x => exact hlt x (List.mem_of_getElem? hq)
  have hst : ∀ n, ∃ p, Sh p ∧ okW (itr (passF hs) n w) ∧ bytesOf (itr (passF hs) n w) = p.map (fun i => itr (swAll hs) n (g0 i)) := by
    intro n
    induction n with
    | zero =>
      refine ⟨List.range w.size, Sh_start _ hsz.2, hsz, ?_⟩
      apply List.ext_getElem?
      intro i
      rw [List.getElem?_map]
      by_cases h : i < w.size
      · rw [List.getElem?_range h, List.getElem?_eq_getElem (by rw [bytesOf_length]; exact h)]
        simp only [Option.map_some, itr, hg0, List.getD_eq_getElem?_getD]
        rw [List.getElem?_eq_getElem (by rw [bytesOf_length]; exact h)]
        rfl
      · have h0 : (bytesOf (itr (passF hs) 0 w))[i]? = none := List.getElem?_eq_none (by rw [bytesOf_length]; show w.size ≤ i; omega)
        rw [h0, List.getElem?_eq_none (by rw [List.length_range]; omega)]
        rfl
    | succ n ih =>
      obtain ⟨p, hp, ho, e⟩ := ih
      obtain ⟨q, hq, e2⟩ := pass_shape hs hk _ ho (fun i => itr (swAll hs) n (g0 i)) (fun i => hit n _ (hgl i)) p hp e
      refine ⟨q, hq, by rw [itr_succ]; exact passF_ok hs _ ho, ?_⟩
      rw [itr_succ, e2]
      apply List.map_congr_left
      intro i _
      rw [itr_succ]
  obtain ⟨P, hP⟩ : ∃ P : Nat → List Nat, ∀ n, Sh (P n) ∧ okW (itr (passF hs) n w) ∧ bytesOf (itr (passF hs) n w) = (P n).map (fun i => itr (swAll hs) n (g0 i)) := ⟨fun n => Classical.choose (hst n), fun n => Classical.choose_spec (hst n)⟩
  obtain ⟨i, j, h1, h2, h3⟩ := pigeon (fun n => M n * 2 ^ 25 + shC (P n)) 660451885056 (fun n => by
    have a := hM1 n
    have b := shC_lt (P n) (hP n).1
    have c : Bd 26 = 19683 := rfl
    have d : (2 : Nat) ^ 25 = 33554432 := rfl
    rw [c] at a
    rw [d] at b ⊢
    omega)
  refine ⟨i, j, h1, h2, bytesOf_inj _ _ ?_⟩
  have b1 := shC_lt (P i) (hP i).1
  have b2 := shC_lt (P j) (hP j).1
  have d : (2 : Nat) ^ 25 = 33554432 := rfl
  rw [d] at h3 b1 b2
  have e1 : M i = M j := by omega
  have e2 : shC (P i) = shC (P j) := by omega
  rw [(hP i).2.2, (hP j).2.2, shC_inj _ _ (hP i).1 (hP j).1 e2]
  apply List.map_congr_left
  intro a _
  exact hM2 i j e1 _ ((lettersL_mem _).2 (hgl a))

def wn (hs : List S35) (w : ByteArray) (n : Nat) : ByteArray := itr (passF hs) n w
def saidN (hs : List S35) (w : ByteArray) (n : Nat) : List ByteArray := (List.range n).map (wn hs w)
theorem saidN_length (hs : List S35) (w : ByteArray) (n : Nat) : (saidN hs w n).length = n := by simp [saidN]
theorem saidN_succ (hs : List S35) (w : ByteArray) (n : Nat) : saidN hs w n ++ [wn hs w n] = saidN hs w (n + 1) := by simp [saidN, List.range_succ]
theorem saidN_rd (hs : List S35) (w : ByteArray) (n k : Nat) (h : k < n) : rdOf ByteArray.empty (saidN hs w n) (k : Int) = wn hs w k := by
  rw [rdS_nat, List.getD_eq_getElem?_getD]
  simp [saidN, h]
theorem wn_succ (hs : List S35) (w : ByteArray) (n : Nat) : wn hs w (n + 1) = passF hs (wn hs w n) := itr_succ _ n w
theorem wn_ok (hs : List S35) (w : ByteArray) (hw : okW w) : ∀ n, okW (wn hs w n)
  | 0 => hw
  | n + 1 => by rw [wn_succ]; exact passF_ok hs _ (wn_ok hs w hw n)
structure FirstRep (hs : List S35) (w : ByteArray) (n0 k0 : Nat) : Prop where
  lt : k0 < n0
  le : n0 ≤ 660451885056
  eq : wn hs w k0 = wn hs w n0
  no : ∀ n, n < n0 → ∀ k, k < n → wn hs w k ≠ wn hs w n
  un : ∀ k, k < n0 → wn hs w k = wn hs w n0 → k = k0
theorem firstRep (hs : List S35) (hk : habitsOk hs = true) (w : ByteArray) (hw : wordOk w = true) : ∃ n0 k0, FirstRep hs w n0 k0 := by
  obtain ⟨i, j, h1, h2, h3⟩ := orbit_rep hs hk w hw
  obtain ⟨n0, ⟨hle, k0, hk0, he⟩, hmin⟩ := least_of (P := fun n => n ≤ 660451885056 ∧ ∃ k, k < n ∧ wn hs w k = wn hs w n) j ⟨h2, i, h1, h3⟩
  have hno : ∀ n, n < n0 → ∀ k, k < n → wn hs w k ≠ wn hs w n := fun n hn k hk2 e => hmin n hn ⟨by omega, k, hk2, e⟩
  refine ⟨n0, k0, hk0, hle, he, hno, fun k hk2 e => ?_⟩
  rcases Nat.lt_trichotomy k k0 with h | h | h
  · exact absurd (e.trans he.symm) (hno k0 hk0 k h)
  · exact h
  · exact absurd (he.trans e.symm) (hno k hk2 k0 h)
theorem specRound_hit (hs : List S35) (w : ByteArray) (n0 k0 : Nat) (F : FirstRep hs w n0 k0) : ∀ (d i k : Nat), i + d = k0 → d < k → spec_RoundUntil.l1 k hs (wn hs w n0) (saidN hs w n0) (n0 : Int) (i : Int) = some ((n0 : Int), (n0 : Int) - (k0 : Int), 0) := by
  have hle := F.le
  have hlt := F.lt
  intro d
  induction d with
  | zero =>
    intro i k hi hk
    obtain ⟨k, rfl⟩ : ∃ m, k = m + 1 := ⟨k - 1, by omega⟩
    obtain rfl : i = k0 := by omega
    simp only [spec_RoundUntil.l1]
    rw [saidN_length, if_pos (by omega), if_pos (by omega), saidN_rd hs w n0 i hlt, if_pos ((toList_inj _ _).2 F.eq), wrap64_id _ (by omega) (by omega)]
  | succ d ih =>
    intro i k hi hk
    obtain ⟨k, rfl⟩ : ∃ m, k = m + 1 := ⟨k - 1, by omega⟩
    have hne : ¬ wn hs w i = wn hs w n0 := fun e => by have := F.un i (by omega) e; omega
    simp only [spec_RoundUntil.l1]
    rw [saidN_length, if_pos (by omega), if_pos (by omega), saidN_rd hs w n0 i (by omega), if_neg (fun e => hne ((toList_inj _ _).1 e)), wrap_nat i (by omega)]
    exact ih (i + 1) k (by omega) (by omega)
theorem specRound_miss (hs : List S35) (w : ByteArray) (n0 k0 : Nat) (F : FirstRep hs w n0 k0) (n : Nat) (hn : n < n0) : ∀ (d i k : Nat), i + d = n → d < k → spec_RoundUntil.l1 k hs (wn hs w n) (saidN hs w n) (n : Int) (i : Int) = spec_RoundUntil.l0 (k - (d + 1)) hs (wn hs w n) (saidN hs w (n + 1)) ((n + 1 : Nat) : Int) := by
  have hle := F.le
  have hlt := F.lt
  intro d
  induction d with
  | zero =>
    intro i k hi hk
    obtain ⟨k, rfl⟩ : ∃ m, k = m + 1 := ⟨k - 1, by omega⟩
    simp only [spec_RoundUntil.l1]
    rw [saidN_length, if_neg (by omega), if_pos (by omega), saidN_succ, wrap_nat n (by omega)]
    rfl
  | succ d ih =>
    intro i k hi hk
    obtain ⟨k, rfl⟩ : ∃ m, k = m + 1 := ⟨k - 1, by omega⟩
    simp only [spec_RoundUntil.l1]
    rw [saidN_length, if_pos (by omega), if_pos (by omega), saidN_rd hs w n i (by omega), if_neg (fun e => F.no n hn i (by omega) ((toList_inj _ _).1 e)), wrap_nat i (by omega), show k + 1 - (d + 1 + 1) = k - (d + 1) by omega]
    exact ih (i + 1) k (by omega) (by omega)
theorem specRound_l0 (hs : List S35) (hl : hs.length ≤ 30) (hr : ∀ h ∈ hs, habR h) (w : ByteArray) (hw : okW w) (n0 k0 : Nat) (F : FirstRep hs w n0 k0) (Q : Nat) (hQ : n0 + 200 ≤ Q) : ∀ (d n k : Nat), n + 1 + d = n0 → d * Q + Q < k → spec_RoundUntil.l0 k hs (wn hs w n) (saidN hs w (n + 1)) ((n + 1 : Nat) : Int) = some ((n0 : Int), (n0 : Int) - (k0 : Int), 0) := by
  intro d
  induction d with
  | zero =>
    intro n k hi hk
    rw [Nat.zero_mul] at hk
    obtain ⟨k, rfl⟩ : ∃ m, k = m + 1 := ⟨k - 1, by omega⟩
    have hlt := F.lt
    obtain rfl : n0 = n + 1 := by omega
    simp only [spec_RoundUntil.l0]
    rw [specPass_eq hs (by omega) hr _ (wn_ok hs w hw n) k (by omega), Option.bind_some, ← wn_succ]
    have := specRound_hit hs w (n + 1) k0 F k0 0 k (by omega) (by omega)
    rw [show ((0 : Nat) : Int) = 0 from rfl] at this
    exact this
  | succ d ih =>
    intro n k hi hk
    rw [Nat.succ_mul] at hk
    obtain ⟨D, hD⟩ : ∃ D, D = d * Q := ⟨_, rfl⟩
    have ih2 := fun n k (h1 : n + 1 + d = n0) (h2 : D + Q < k) => ih n k h1 (by rw [← hD]; exact h2)
    rw [← hD] at hk
    clear hD ih
    obtain ⟨k, rfl⟩ : ∃ m, k = m + 1 := ⟨k - 1, by omega⟩
    simp only [spec_RoundUntil.l0]
    rw [specPass_eq hs (by omega) hr _ (wn_ok hs w hw n) k (by omega), Option.bind_some, ← wn_succ]
    have := specRound_miss hs w n0 k0 F (n + 1) (by omega) (n + 1) 0 k (by omega) (by omega)
    rw [show ((0 : Nat) : Int) = 0 from rfl] at this
    rw [this]
    exact ih2 (n + 1) _ (by omega) (by omega)
theorem idx_none (hs : List S35) (w : ByteArray) (n0 k0 : Nat) (F : FirstRep hs w n0 k0) (n : Nat) (hn : n < n0) : Go.Proofs.YtcccbkilpeohkaaDoor.H.roundIdx (saidN hs w n) (wn hs w n) = none := by
  unfold Go.Proofs.YtcccbkilpeohkaaDoor.H.roundIdx
  rw [List.findIdx?_eq_none_iff]
  intro y hy
  obtain ⟨i, hi, rfl⟩ := List.mem_map.1 hy
  exact decide_eq_false (F.no n hn i (List.mem_range.1 hi))
theorem idx_some (hs : List S35) (w : ByteArray) (n0 k0 : Nat) (F : FirstRep hs w n0 k0) : Go.Proofs.YtcccbkilpeohkaaDoor.H.roundIdx (saidN hs w n0) (wn hs w n0) = some k0 := by
  unfold Go.Proofs.YtcccbkilpeohkaaDoor.H.roundIdx
  rw [List.findIdx?_eq_some_iff_getElem]
  have hlt := F.lt
  refine ⟨by rw [saidN_length]; exact hlt, ?_, fun j hj => ?_⟩
  · simp only [saidN, List.getElem_map, List.getElem_range]
    exact decide_eq_true F.eq
  · simp only [saidN, List.getElem_map, List.getElem_range]
    simp only [decide_eq_true_eq]
    intro e
    have := F.un j (by omega) e
    omega
theorem implRound (hs : List S35) (w : ByteArray) (hw : okW w) (n0 k0 : Nat) (F : FirstRep hs w n0 k0) (G : ByteArray → Option ByteArray) (hG : ∀ x, okW x → G x = some (passF hs x)) : ∀ (d n k : Nat), n + d = n0 → d < k → Go.Proofs.YtcccbkilpeohkaaDoor.H.roundF G k (saidN hs w n) (wn hs w n) = some ((n0 : Int), (n0 : Int) - (k0 : Int)) := by
  intro d
  induction d with
  | zero =>
    intro n k hi hk
    obtain ⟨k, rfl⟩ : ∃ m, k = m + 1 := ⟨k - 1, by omega⟩
    obtain rfl : n = n0 := by omega
    simp only [Go.Proofs.YtcccbkilpeohkaaDoor.H.roundF]
    rw [idx_some hs w n k0 F]
    simp only [saidN_length]
  | succ d ih =>
    intro n k hi hk
    obtain ⟨k, rfl⟩ : ∃ m, k = m + 1 := ⟨k - 1, by omega⟩
    simp only [Go.Proofs.YtcccbkilpeohkaaDoor.H.roundF]
    rw [idx_none hs w n0 k0 F n (by omega)]
    simp only
    rw [hG _ (wn_ok hs w hw n), Option.bind_some, saidN_succ, ← wn_succ]
    exact ih (n + 1) k (by omega) (by omega)
theorem main : laws_FnExactRoundUntil.Pure := by
  intro l w m hl hw
  refine rounds_of 660451886000000000000000000 fun k hk => ?_
  unfold laws_FnExactRoundUntil.f
  by_cases h : (w.size : Int) > 1048576
  · rw [if_pos h]
  · rw [if_neg h, szHabitS_eq l 1048576 (by decide) (by decide) hl.1, Option.bind_some]
    by_cases hm : (1048576 : Int) < (l.length : Int)
    · rw [if_pos hm, if_pos (by decide)]
    · have hq : (l.map cvHabit).length ≤ 1048576 := by rw [List.length_map]; omega
      have hr := cvH_rng l hl.2
      rw [if_neg hm, if_neg (by omega), toHabitS_eq l (by omega) k (by omega)]
      simp only [Option.bind_some]
      generalize hg : l.map cvHabit = hs at hq hr
      have hb : ∀ s ∈ [w], s.size ≤ 2097152 := by intro s hs; simp at hs; subst hs; omega
      have hM : ∃ v : Int × Int × Int, spec_RoundUntil.f k hs w = some v ∧ impl_RoundUntil.f k hs w m = some v := by
        unfold spec_RoundUntil.f impl_RoundUntil.f
        rw [asked_eq hs [w] hq (by simp) hb k (by omega), chainCode_eq hs [w] hq (by simp) hb k (by omega), codeA_one]
        simp only [Option.bind_some]
        by_cases c : codeH hs [w] = 0
        · obtain ⟨c1, c2⟩ := codeH_facts hs [w] c
          have hw2 := c2 w (by simp)
          have hok : habitsOk hs = true ∧ wordOk w = true := by
            unfold codeH at c
            by_cases a : habitsOk hs = true ∧ wordsOk [w] = true
            · refine ⟨a.1, ?_⟩
              have := a.2
              unfold wordsOk at this
              rw [List.all_cons, Bool.and_eq_true] at this
              exact this.1
            · rw [if_neg a] at c; exact absurd c (by decide)
          obtain ⟨n0, k0, F⟩ := firstRep hs hok.1 w hok.2
          have hle := F.le
          have hlt := F.lt
          have hsz : w.size ≤ maxLen := by simp only [maxLen]; omega
          have e1 := specRound_l0 hs c1 hr w hw2 n0 k0 F 660451885300 (by omega) (n0 - 1) 0 k (by omega) (by
            have := Nat.mul_le_mul_right 660451885300 (show n0 - 1 ≤ 660451885055 by omega)
            omega)
          have e2 := implRound hs w hw2 n0 k0 F (impl_RoundUntil.F k hs m) (fun x hx => by
            unfold impl_RoundUntil.F
            rw [implPassed_eq hs m hq hr x hx k (by omega), Option.bind_some]
            have := passF_ok hs x hx
            rw [if_pos (by have := this.2; simp only [maxLen]; omega)]) n0 0 (min k 4611686018427387900) (by omega) (by omega)
          rw [if_pos c, if_pos c, if_pos hsz]
          have s0 : saidN hs w (0 + 1) = [w] := rfl
          have s1 : saidN hs w 0 = [] := rfl
          have s2 : wn hs w 0 = w := rfl
          rw [s0, s2, show ((0 + 1 : Nat) : Int) = 1 from rfl] at e1
          rw [s1, s2] at e2
          rw [e1, e2]
          exact ⟨_, rfl, rfl⟩
        · rw [if_neg c, if_neg c]; exact ⟨_, rfl, rfl⟩
      obtain ⟨v, e1, e2⟩ := hM
      rw [e1, e2]
      simp only [Option.bind_some]
      rw [if_pos trivial, if_pos trivial]
      obtain ⟨k, rfl⟩ : ∃ m, k = m + 1 := ⟨k - 1, by omega⟩
      simp only [laws_FnExactRoundUntil.j0]
      rw [if_neg (by simp), toHabitS_eq l (by omega) k (by omega), hg]
      simp only [Option.bind_some]
      rw [eqHabitS_eq hs hs hq k (by omega)]
      simp

end Go.Proofs.YtcccbkilpeohkaaDoor.PureFnExactRoundUntil
namespace Go.Proofs.YtcccbkilpeohkaaDoor.Pure
theorem FnExactRoundUntil : Go.Proofs.YtcccbkilpeohkaaDoor.P.laws_FnExactRoundUntil.Pure := Go.Proofs.YtcccbkilpeohkaaDoor.PureFnExactRoundUntil.main
end Go.Proofs.YtcccbkilpeohkaaDoor.Pure
