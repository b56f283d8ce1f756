/- For every list of habits and all texts the program's AllBut returns the reference's list and code, in memory of its own, and leaves the habits as they were; no condition. -/
import Derived.Test.YtelgmojnndbgmaaDoorP7
import Derived.Laws.BitsLemmas
namespace Go.Proofs.YtelgmojnndbgmaaDoor.PureFnExactAllBut
open Go.RowKit Go.Proofs.YtelgmojnndbgmaaDoor.P Go.Proofs.YtelgmojnndbgmaaDoorW.PrintWords Go.Proofs.YtelgmojnndbgmaaDoorW.PrintLast
set_option linter.unusedSimpArgs false
set_option linter.unusedVariables false

theorem wrap64_id (x : Int) (h0 : -9223372036854775808 ≤ x) (h1 : x ≤ 9223372036854775807) : wrap64 x = x := by unfold wrap64; omega
theorem wrap_nat (n : Nat) (h : n < 4611686018427387904) : wrap64 ((n : Int) + 1) = ((n + 1 : Nat) : Int) := by
  rw [wrap64_id _ (by omega) (by omega)]; omega
theorem rd_nat (l : List Int) (i : Nat) : rd l (i : Int) = l.getD i 0 := by simp [rd]
theorem drop_getD {α : Type} (z : α) (l : List α) (i : Nat) (h : i < l.length) : l.drop i = l.getD i z :: l.drop (i + 1) := by
  rw [List.drop_eq_getElem_cons h, List.getD_eq_getElem?_getD, List.getElem?_eq_getElem h]; rfl
theorem take_getD {α : Type} (z : α) (l : List α) (i : Nat) (h : i < l.length) : l.take (i + 1) = l.take i ++ [l.getD i z] := by
  rw [List.take_succ_eq_append_getElem h, List.getD_eq_getElem?_getD, List.getElem?_eq_getElem h]; rfl
theorem set_rep {α : Type} (a : List α) (i d : Nat) (z v : α) (h : a.length = i) : (a ++ List.replicate (d + 1) z).set i v = (a ++ [v]) ++ List.replicate d z := by
  subst h
  rw [List.set_append_right _ _ (Nat.le_refl _), Nat.sub_self, List.replicate_succ, List.set_cons_zero]
  simp
theorem set_drop {α : Type} (a g : List α) (i : Nat) (v : α) (h : a.length = i) (hg : i < g.length) : (a ++ g.drop i).set i v = (a ++ [v]) ++ g.drop (i + 1) := by
  subst h
  rw [List.set_append_right _ _ (Nat.le_refl _), Nat.sub_self, List.drop_eq_getElem_cons hg, List.set_cons_zero]
  simp
theorem getD_range_map {α : Type} (z : α) (f : Nat → α) (n i : Nat) (h : i < n) : ((List.range n).map f).getD i z = f i := by
  rw [List.getD_eq_getElem?_getD, List.getElem?_map, List.getElem?_range h]; rfl
theorem rounds_of (B : Nat) {α : Type} {F : Nat → Option α} {v : α} (h : ∀ k, B ≤ k → F k = some v) : ∃ k, F k = some v := ⟨B, h B (Nat.le_refl _)⟩

theorem wf_u8 {a : Int} (h : (Lit.int .u8 a).wf = true) : 0 ≤ a ∧ a ≤ 255 := by
  simp [Lit.wf, IntKind.min, IntKind.max, IntKind.bits, IntKind.signed] at h
  omega
def letter (c : Int) : Bool := decide (97 ≤ c ∧ c ≤ 122)
theorem l04Letter_eq (c : Int) : spec_l04Letter.f c = some (letter c) := by
  unfold spec_l04Letter.f letter
  by_cases h : 97 ≤ c
  · rw [if_pos (by omega)]; simp [h]
  · rw [if_neg (by omega)]; simp [h]
theorem isLetter_eq (c : Int) : impl_isLetter.f c = some (letter c) := by
  unfold impl_isLetter.f letter
  by_cases h : 97 ≤ c
  · rw [if_pos (by omega)]; simp [h]
  · rw [if_neg (by omega)]; simp [h]
theorem in_eq (a b c : Int) : spec_l00In.f a b c = some (decide (b ≤ a ∧ a ≤ c)) := by
  unfold spec_l00In.f
  by_cases h : b ≤ a
  · rw [if_pos (by omega)]; simp [h]
  · rw [if_neg (by omega)]; simp [h]
theorem within_eq (a b c : Int) : impl_within.f a b c = some (decide (b ≤ a ∧ a ≤ c)) := by
  unfold impl_within.f
  by_cases h : b ≤ a
  · rw [if_pos (by omega)]; simp [h]
  · rw [if_neg (by omega)]; simp [h]
def lettersFrom (s : ByteArray) : Nat → Nat → Bool
  | 0, _ => true
  | d + 1, i => letter (bt s (i : Int)) && lettersFrom s d (i + 1)
def wordOk (s : ByteArray) : Bool := lettersFrom s s.size 0 && decide (1 ≤ (s.size : Int) ∧ (s.size : Int) ≤ 12)
theorem l04Word_l0 (s : ByteArray) (hs : s.size ≤ 4611686018427387900) : ∀ (d i k : Nat), i + d = s.size → d < k → spec_l04Word.l0 k s (i : Int) = some (lettersFrom s d i && decide (1 ≤ (s.size : Int) ∧ (s.size : Int) ≤ 12)) := by
  intro d
  induction d with
  | zero =>
    intro i k hi hk
    obtain ⟨k, rfl⟩ : ∃ m, k = m + 1 := ⟨k - 1, by omega⟩
    simp only [spec_l04Word.l0]
    rw [if_neg (by omega), in_eq]
    simp [lettersFrom]
  | succ d ih =>
    intro i k hi hk
    obtain ⟨k, rfl⟩ : ∃ m, k = m + 1 := ⟨k - 1, by omega⟩
    simp only [spec_l04Word.l0]
    rw [if_pos (by omega), if_pos (by omega), l04Letter_eq, Option.bind_some, wrap_nat i (by omega), ih (i + 1) k (by omega) (by omega)]
    by_cases h : letter (bt s (i : Int)) = true <;> simp [lettersFrom, h]
theorem l04Word_eq (s : ByteArray) (hs : s.size ≤ 4611686018427387900) (k : Nat) (hk : s.size < k) : spec_l04Word.f k s = some (wordOk s) := by
  unfold spec_l04Word.f wordOk
  exact l04Word_l0 s hs s.size 0 k (by omega) hk
theorem isWord_l0 (s : ByteArray) (hs : s.size ≤ 4611686018427387900) : ∀ (d i k : Nat), i + d = s.size → d < k → impl_IsWord.l0 k s (s.size : Int) (i : Int) = some (lettersFrom s d i && decide (1 ≤ (s.size : Int) ∧ (s.size : Int) ≤ 12)) := by
  intro d
  induction d with
  | zero =>
    intro i k hi hk
    obtain ⟨k, rfl⟩ : ∃ m, k = m + 1 := ⟨k - 1, by omega⟩
    simp only [impl_IsWord.l0]
    rw [if_neg (by omega), within_eq]
    simp [lettersFrom]
  | succ d ih =>
    intro i k hi hk
    obtain ⟨k, rfl⟩ : ∃ m, k = m + 1 := ⟨k - 1, by omega⟩
    simp only [impl_IsWord.l0]
    rw [if_pos (by omega), if_pos (by omega), if_pos (by omega), isLetter_eq, Option.bind_some, wrap_nat i (by omega), ih (i + 1) k (by omega) (by omega)]
    by_cases h : letter (bt s (i : Int)) = true <;> simp [lettersFrom, h]
theorem isWord_eq (s : ByteArray) (hs : s.size ≤ 4611686018427387900) (k : Nat) (hk : s.size < k) : impl_IsWord.f k s = some (wordOk s) := by
  unfold impl_IsWord.f wordOk
  exact isWord_l0 s hs s.size 0 k (by omega) hk
theorem wordOk_size (s : ByteArray) (h : wordOk s = true) : 1 ≤ s.size ∧ s.size ≤ 12 := by
  simp only [wordOk, Bool.and_eq_true, decide_eq_true_eq] at h
  omega
def habitOk (t a b : Int) : Bool :=
  if t = 0 ∨ t = 3 then decide (a = 0) && decide (b = 0) else if t = 1 then letter a && letter b && decide (a ≠ b) else if t = 2 ∨ t = 4 then letter a && decide (b = 0) else false
theorem l04Habit_eq (t a b : Int) (k : Nat) (hk : 0 < k) : spec_l04Habit.f k t a b = some (habitOk t a b) := by
  obtain ⟨k, rfl⟩ : ∃ m, k = m + 1 := ⟨k - 1, by omega⟩
  unfold spec_l04Habit.f habitOk
  simp only [spec_l04Habit.j0, l04Letter_eq, Option.bind_some]
  by_cases h0 : t = 0
  · subst h0
    by_cases ha : a = 0 <;> simp [ha] <;> rfl
  · by_cases h3 : t = 3
    · subst h3
      by_cases ha : a = 0 <;> simp [ha] <;> rfl
    · by_cases h1 : t = 1
      · subst h1
        by_cases la : letter a = true <;> by_cases lb : letter b = true <;> simp [la, lb] <;> rfl
      · by_cases h2 : t = 2
        · subst h2
          by_cases la : letter a = true <;> simp [la] <;> rfl
        · by_cases h4 : t = 4
          · subst h4
            by_cases la : letter a = true <;> simp [la] <;> rfl
          · simp [h0, h1, h2, h3, h4]
theorem validHabit_eq (t a b : Int) : impl_ValidHabit.f t a b = some (habitOk t a b) := by
  unfold impl_ValidHabit.f habitOk
  simp only [isLetter_eq, Option.bind_some]
  by_cases h0 : t = 0
  · subst h0
    by_cases ha : a = 0 <;> simp [ha] <;> rfl
  · by_cases h3 : t = 3
    · subst h3
      by_cases ha : a = 0 <;> simp [ha] <;> rfl
    · by_cases h1 : t = 1
      · subst h1
        by_cases la : letter a = true <;> by_cases lb : letter b = true <;> simp [la, lb] <;> rfl
      · by_cases h2 : t = 2
        · subst h2
          by_cases la : letter a = true <;> simp [la] <;> rfl
        · by_cases h4 : t = 4
          · subst h4
            by_cases la : letter a = true <;> simp [la] <;> rfl
          · simp [h0, h1, h2, h3, h4]

theorem repl_one (a b : UInt8) : ∀ s : List UInt8, Go.Lib.replaceK [a] [b] (Go.Lib.count s [a]) s = s.map (fun c => if c = a then b else c)
  | [] => by
    have : Go.Lib.count [] [a] = 0 := by rw [Go.Lib.count_one]; rfl
    rw [this]; rfl
  | x :: l => by
    have ih := repl_one a b l
    by_cases e : x = a
    · subst e
      have hi : Go.Lib.index (x :: l) [x] = ((0 : Nat) : Int) := by
        unfold Go.Lib.index
        rw [if_pos (by simp)]
        rfl
      rw [Go.Lib.count_cons_eq, Nat.add_comm 1, Go.Lib.replaceK_hit _ _ _ _ 0 hi]
      simp only [List.take_zero, List.nil_append, List.length_cons, List.length_nil, Nat.zero_add, List.drop_one, List.tail_cons, List.map_cons]
      rw [ih, if_pos trivial]
      rfl
    · rw [Go.Lib.count_cons_ne x a l e]
      cases hk : Go.Lib.count l [a] with
      | zero =>
        rw [hk] at ih
        simp only [Go.Lib.replaceK] at ih ⊢
        rw [List.map_cons, if_neg e, ← ih]
      | succ k =>
        rw [hk] at ih
        obtain ⟨i, hi⟩ := Go.Lib.index_of_count (s := l) (old := [a]) (by omega)
        have hx : Go.Lib.index (x :: l) [a] = ((i + 1 : Nat) : Int) := by
          unfold Go.Lib.index
          rw [if_neg (by simp [List.isPrefixOf, Ne.symm e]), hi, if_neg (by simp)]
          omega
        rw [Go.Lib.replaceK_hit _ _ _ _ _ hx, List.map_cons, if_neg e, ← ih, Go.Lib.replaceK_hit _ _ _ _ _ hi]
        simp
theorem replAll_one (a b : UInt8) (s : List UInt8) : Go.Lib.replaceAll s [a] [b] = s.map (fun c => if c = a then b else c) := by
  unfold Go.Lib.replaceAll Go.Lib.replace Go.Lib.replaceNum
  by_cases e : a = b
  · subst e
    rw [if_pos (by simp)]
    have : (fun c : UInt8 => if c = a then a else c) = id := by funext c; by_cases h : c = a <;> simp [h]
    rw [this, List.map_id]
  · rw [if_neg (by simp [e]), if_pos (Or.inl (by decide)), repl_one]
theorem swap_bytes (A B : Int) (hA : 0 ≤ A ∧ A ≤ 255) (hB : 0 ≤ B ∧ B ≤ 255) (w : ByteArray) :
    (⟨(Go.Lib.replaceAll w.data.toList (strOfNums [A]).data.toList (strOfNums [B]).data.toList).toArray⟩ : ByteArray) = strOfNums ((bytesOf w).map (Go.Proofs.YtelgmojnndbgmaaDoor.H.swap1 A B)) := by
  have e1 : (strOfNums [A]).data.toList = [UInt8.ofNat A.toNat] := rfl
  have e2 : (strOfNums [B]).data.toList = [UInt8.ofNat B.toNat] := rfl
  rw [e1, e2, replAll_one]
  unfold strOfNums bytesOf
  rw [List.map_map, List.map_map]
  congr 2
  apply List.map_congr_left
  intro c _
  simp only [Function.comp, Go.Proofs.YtelgmojnndbgmaaDoor.H.swap1]
  have hc : ((c.toNat : Int) = A) ↔ c = UInt8.ofNat A.toNat := by
    constructor
    · intro h
      rw [← h]; simp
    · intro h
      rw [h, UInt8.toNat_ofNat']
      omega
  by_cases h : (c.toNat : Int) = A
  · rw [if_pos h, if_pos (hc.1 h)]
  · rw [if_neg h, if_neg (fun z => h (hc.2 z))]
    simp
def dropB (A : Int) (w : ByteArray) : ByteArray :=
  if Go.Lib.indexByte w.data.toList A.toNat.toUInt8 ≥ 0 then w.extract 0 (Go.Lib.indexByte w.data.toList A.toNat.toUInt8).toNat ++ w.extract ((Go.Lib.indexByte w.data.toList A.toNat.toUInt8).toNat + 1) w.size else w
def hearF (f A B : Int) (w : ByteArray) : ByteArray :=
  if f = 1 then strOfNums ((bytesOf w).map (Go.Proofs.YtelgmojnndbgmaaDoor.H.swap1 A B))
  else if f = 2 then (if w.size = 1 then w else dropB A w)
  else if f = 3 then (if w.size < 12 then w ++ w.extract (w.size - 1) w.size else w)
  else if f = 4 then (if bt w 0 = A then strOfNums (bytesOf w).reverse else w)
  else w
theorem bt_list (w : ByteArray) (i : Nat) (h : i < w.size) : bt w (i : Int) = ((w.data.toList.getD i 0).toNat : Int) := by
  have h2 : i < w.data.toList.length := by rw [data_length]; exact h
  rw [← rd_bytesOf, rd_nat, List.getD_eq_getElem?_getD, List.getD_eq_getElem?_getD, List.getElem?_eq_getElem (by rw [bytesOf_length]; exact h), List.getElem?_eq_getElem h2]
  simp [bytesOf]
theorem indexByte_lt : ∀ (l : List UInt8) (c : UInt8), Go.Lib.indexByte l c < (l.length : Int) ∨ l = []
  | [], _ => Or.inr rfl
  | b :: l, c => by
    left
    unfold Go.Lib.indexByte
    rcases indexByte_lt l c with h | h
    · split
      · simp only [List.length_cons]; omega
      · split
        · simp only [List.length_cons]; omega
        · simp only [List.length_cons]; omega
    · subst h
      split
      · simp
      · simp [Go.Lib.indexByte]
theorem indexByte_bound (w : ByteArray) (c : UInt8) (h : 0 ≤ Go.Lib.indexByte w.data.toList c) : Go.Lib.indexByte w.data.toList c < (w.size : Int) := by
  rcases indexByte_lt w.data.toList c with g | g
  · rw [data_length] at g; exact g
  · rw [g] at h; simp [Go.Lib.indexByte] at h
def dropAt (w : ByteArray) (i : Nat) (q : Int) : ByteArray := if q ≥ 0 then w.extract 0 (i + q.toNat) ++ w.extract (i + q.toNat + 1) w.size else w
theorem specDrop_l0 (w : ByteArray) (A : Int) (hA : 0 ≤ A ∧ A ≤ 255) (hw : w.size ≤ 1048576) : ∀ (d i k : Nat), i + d = w.size → d < k →
    spec_l04Drop.l0 k w A (i : Int) = some (dropAt w i (Go.Lib.indexByte (w.data.toList.drop i) A.toNat.toUInt8)) := by
  intro d
  induction d with
  | zero =>
    intro i k hi hk
    obtain ⟨k, rfl⟩ : ∃ m, k = m + 1 := ⟨k - 1, by omega⟩
    simp only [spec_l04Drop.l0]
    rw [if_neg (by omega), List.drop_eq_nil_of_le (by rw [data_length]; omega)]
    simp [Go.Lib.indexByte, dropAt]
  | succ d ih =>
    intro i k hi hk
    obtain ⟨k, rfl⟩ : ∃ m, k = m + 1 := ⟨k - 1, by omega⟩
    have hl : i < w.data.toList.length := by rw [data_length]; omega
    have hd := drop_getD (0 : UInt8) w.data.toList i hl
    have hb := bt_list w i (by omega)
    have hc : (bt w (i : Int) = A) ↔ (w.data.toList.getD i 0 == A.toNat.toUInt8) = true := by
      rw [hb, beq_iff_eq]
      generalize w.data.toList.getD i 0 = c
      constructor
      · intro h; rw [← h]; simp
      · intro h; rw [h]; simp; omega
    simp only [spec_l04Drop.l0]
    rw [if_pos (by omega), if_pos (by omega), hd, wrap_nat i (by omega)]
    simp only [Go.Lib.indexByte]
    by_cases e : bt w (i : Int) = A
    · rw [if_pos e, if_pos (hc.1 e), if_pos (by omega), if_pos (by omega), if_pos (by omega)]
      have hs : (w.extract 0 (i : Int).toNat).size + (w.extract ((i + 1 : Nat) : Int).toNat w.size).size ≤ 9223372036854775807 := by
        simp only [ByteArray.size_extract]; omega
      rw [if_pos hs]
      unfold dropAt
      rw [if_pos (by decide)]
      simp
    · rw [if_neg e, if_neg (fun z => e (hc.2 z)), ih (i + 1) k (by omega) (by omega)]
      generalize hq : Go.Lib.indexByte (w.data.toList.drop (i + 1)) A.toNat.toUInt8 = q
      have hge : -1 ≤ q := by rw [← hq]; exact Go.Lib.indexByte_ge _ _
      by_cases g : q = -1
      · subst g; rfl
      · have e1 : (q == -1) = false := beq_eq_false_iff_ne.2 g
        rw [e1, if_neg (by decide)]
        unfold dropAt
        rw [if_pos (show q ≥ 0 by omega), if_pos (show q + 1 ≥ 0 by omega)]
        rw [show i + 1 + q.toNat = i + (q + 1).toNat by omega]
theorem specDrop_eq (w : ByteArray) (A : Int) (hA : 0 ≤ A ∧ A ≤ 255) (hw : w.size ≤ 1048576) (k : Nat) (hk : w.size < k) : spec_l04Drop.f k w A = some (if w.size = 1 then w else dropB A w) := by
  unfold spec_l04Drop.f dropB
  by_cases h : w.size = 1
  · rw [if_pos (by omega), if_pos h]
  · rw [if_neg (by omega), if_neg h]
    have := specDrop_l0 w A hA hw w.size 0 k (by omega) hk
    rw [show ((0 : Nat) : Int) = 0 from rfl, List.drop_zero] at this
    rw [this]
    unfold dropAt
    simp only [Nat.zero_add]
theorem specTurn_l0 (w : ByteArray) (hw : w.size ≤ 1048576) : ∀ (j k : Nat) (xs : List Int), j ≤ w.size → j < k → xs.length + j ≤ 1048576 → spec_l04Turn.l0 k w xs ((j : Int) - 1) = some (strOfNums (xs ++ ((bytesOf w).take j).reverse)) := by
  intro j
  induction j with
  | zero =>
    intro k xs hj hk hx
    obtain ⟨k, rfl⟩ : ∃ m, k = m + 1 := ⟨k - 1, by omega⟩
    simp only [spec_l04Turn.l0]
    rw [if_neg (by omega)]
    simp
  | succ j ih =>
    intro k xs hj hk hx
    obtain ⟨k, rfl⟩ : ∃ m, k = m + 1 := ⟨k - 1, by omega⟩
    simp only [spec_l04Turn.l0]
    have e : (((j + 1 : Nat) : Int) - 1) = (j : Int) := by omega
    rw [e, if_pos (by omega), if_pos (by omega), if_pos (by omega), if_pos (by omega), wrap64_id _ (by omega) (by omega), ih k _ (by omega) (by omega) (by simp; omega)]
    have ht := take_getD 0 (bytesOf w) j (by rw [bytesOf_length]; omega)
    rw [ht, ← rd_nat, rd_bytesOf]
    simp
theorem specTurn_eq (w : ByteArray) (hw : w.size ≤ 524288) (k : Nat) (hk : w.size < k) : spec_l04Turn.f k w = some (strOfNums (bytesOf w).reverse) := by
  unfold spec_l04Turn.f
  rw [wrap64_id _ (by omega) (by omega), specTurn_l0 w (by omega) w.size k [] (by omega) hk (by simp; omega), List.take_of_length_le (by rw [bytesOf_length]; omega), List.nil_append]
theorem specHear_eq (f A B : Int) (hA : 0 ≤ A ∧ A ≤ 255) (w : ByteArray) (h1 : 1 ≤ w.size) (h2 : w.size ≤ 12) (k : Nat) (hk : 20 < k) : spec_l04Hear.f k f A B w = some (hearF f A B w) := by
  obtain ⟨k, rfl⟩ : ∃ m, k = m + 1 := ⟨k - 1, by omega⟩
  have hs : w.size + (w.extract (w.size - 1) w.size).size ≤ 9223372036854775807 := by simp only [ByteArray.size_extract]; omega
  have hsz : wrap64 ((w.size : Int) - 1) = (w.size : Int) - 1 := wrap64_id _ (by omega) (by omega)
  have hn : ((w.size : Int) - 1).toNat = w.size - 1 := by omega
  unfold spec_l04Hear.f hearF spec_l04Swap.f
  by_cases c1 : f = 1
  · rw [if_pos c1, if_pos c1, if_pos (by omega)]; rfl
  · rw [if_neg c1, if_neg c1]
    by_cases c2 : f = 2
    · rw [if_pos c2, if_pos c2, specDrop_eq w A hA (by omega) _ (by omega)]; rfl
    · rw [if_neg c2, if_neg c2]
      have hj : spec_l04Hear.j0 (k + 1) w false f A B = some (if f = 4 then (if bt w 0 = A then strOfNums (bytesOf w).reverse else w) else w) := by
        simp only [spec_l04Hear.j0]
        rw [if_neg (by decide)]
        by_cases c4 : f = 4
        · rw [if_pos c4, if_pos c4, if_pos (by omega)]
          by_cases c5 : bt w 0 = A
          · rw [if_pos c5, if_pos c5, specTurn_eq w (by omega) k (by omega)]; rfl
          · rw [if_neg c5, if_neg c5]
        · rw [if_neg c4, if_neg c4]
      by_cases c3 : f = 3
      · rw [if_pos c3, if_pos c3]
        by_cases c6 : w.size < 12
        · rw [if_pos c6, decide_eq_true (by omega)]
          simp only [spec_l04Hear.j0, hsz, hn]
          rw [if_pos trivial, if_pos (by omega), if_pos (by omega), if_pos hs]
        · rw [if_neg c6, decide_eq_false (by omega), hj, if_neg (by omega)]
      · rw [if_neg c3, if_neg c3, hj]
theorem implHear_eq (f A B m : Int) (hA : 0 ≤ A ∧ A ≤ 255) (hB : 0 ≤ B ∧ B ≤ 255) (w : ByteArray) (h1 : 1 ≤ w.size) (h2 : w.size ≤ 12) : impl_Habit_hear.f f A B w m = some (hearF f A B w) := by
  have hs : w.size + (w.extract (w.size - 1) w.size).size ≤ 9223372036854775807 := by simp only [ByteArray.size_extract]; omega
  have hsz : wrap64 ((w.size : Int) - 1) = (w.size : Int) - 1 := wrap64_id _ (by omega) (by omega)
  have hn : ((w.size : Int) - 1).toNat = w.size - 1 := by omega
  have s1 : ∀ x : Int, (strOfNums [x]).size = 1 := fun _ => rfl
  unfold impl_Habit_hear.f hearF
  by_cases c1 : f = 1
  · rw [if_pos c1, if_pos c1]
    unfold strings_ReplaceAll.f
    rw [if_pos (by omega), if_pos (s1 A), if_pos (by rw [s1 B]; omega), swap_bytes A B hA hB w]
    rfl
  · rw [if_neg c1, if_neg c1]
    by_cases c2 : f = 2
    · rw [if_pos c2, if_pos c2]
      unfold strings_IndexByte.f dropB
      rw [Option.bind_some]
      have hb := indexByte_bound w A.toNat.toUInt8
      generalize Go.Lib.indexByte w.data.toList A.toNat.toUInt8 = q at hb
      by_cases g : q ≥ 0
      · have hq := hb g
        rw [if_pos g, if_pos g]
        by_cases c : w.size = 1
        · rw [if_neg (by omega), if_pos c]
        · have hw1 : wrap64 (q + 1) = q + 1 := wrap64_id _ (by omega) (by omega)
          have hn2 : (q + 1).toNat = q.toNat + 1 := by omega
          have hs2 : (w.extract 0 q.toNat).size + (w.extract (q.toNat + 1) w.size).size ≤ 9223372036854775807 := by simp only [ByteArray.size_extract]; omega
          rw [hw1, hn2, if_pos (by omega), if_pos g, if_pos (by omega), if_pos (by omega), if_pos (by omega), if_pos hs2, if_neg c]
      · rw [if_neg g, if_neg g]
        by_cases c : w.size = 1
        · rw [if_pos c]
        · rw [if_neg c]
    · rw [if_neg c2, if_neg c2]
      by_cases c3 : f = 3
      · rw [if_pos c3, if_pos c3]
        by_cases c6 : w.size < 12
        · rw [if_pos c6, if_pos (by omega), hsz, hn, if_pos (by omega), if_pos (by omega), if_pos hs]
        · rw [if_neg c6, if_neg (by omega)]
      · rw [if_neg c3, if_neg c3]
        by_cases c4 : f = 4
        · rw [if_pos c4, if_pos c4, if_pos (by omega)]
          by_cases c5 : bt w 0 = A
          · rw [if_pos c5, if_pos c5]
            unfold impl_turned.f
            rw [if_pos (by omega)]
            rfl
          · rw [if_neg c5, if_neg c5]
        · rw [if_neg c4, if_neg c4]

theorem rdS_nat (l : List ByteArray) (i : Nat) : rdOf ByteArray.empty l (i : Int) = l.getD i ByteArray.empty := by simp [rdOf]
theorem drop_rdS (l : List ByteArray) (i : Nat) (h : i < l.length) : l.drop i = rdOf ByteArray.empty l (i : Int) :: l.drop (i + 1) := by
  rw [drop_getD ByteArray.empty l i h, rdS_nat]
def habitsOk (l : List S51) : Bool := l.all (fun h => habitOk h.f0 h.f1 h.f2)
def wordsOk (l : List ByteArray) : Bool := l.all wordOk
theorem drop_hab (l : List S51) (i : Nat) (h : i < l.length) : l.drop i = rd_T51 l (i : Int) :: l.drop (i + 1) := by
  rw [drop_getD z51 l i h]; simp [rd_T51]
def codeA (hs : List S51) (ws : List ByteArray) : Int :=
  if habitsOk hs = true ∧ wordsOk ws = true then if hs.length ≤ 30 then if ws.length ≤ 40 then 0 else 3 else 3 else 1
theorem asked_l1 (hs : List S51) (ws : List ByteArray) (hw : ws.length ≤ 2097152) (hb : ∀ s ∈ ws, s.size ≤ 2097152) : ∀ (d i k : Nat), i + d = ws.length → d + 2097152 < k → spec_l04Asked.l1 k hs ws (i : Int) = some (if wordsOk (ws.drop i) = true then if hs.length ≤ 30 then if ws.length ≤ 40 then 0 else 3 else 3 else 1) := by
  intro d
  induction d with
  | zero =>
    intro i k hi hk
    obtain ⟨k, rfl⟩ : ∃ m, k = m + 1 := ⟨k - 1, by omega⟩
    simp only [spec_l04Asked.l1]
    rw [if_neg (by omega), List.drop_eq_nil_of_le (by omega), show wordsOk [] = true from rfl, if_pos rfl]
    by_cases h1 : hs.length ≤ 30
    · by_cases h2 : ws.length ≤ 40
      · rw [if_neg (by omega), if_neg (by omega), if_pos h1, if_pos h2]
      · rw [if_neg (by omega), if_pos (by omega), if_pos h1, if_neg h2]
    · rw [if_pos (by omega), if_neg h1]
  | succ d ih =>
    intro i k hi hk
    obtain ⟨k, rfl⟩ : ∃ m, k = m + 1 := ⟨k - 1, by omega⟩
    have hm : rdOf ByteArray.empty ws (i : Int) ∈ ws := by
      rw [rdS_nat, List.getD_eq_getElem?_getD, List.getElem?_eq_getElem (by omega)]
      exact List.getElem_mem _
    have hsz := hb _ hm
    simp only [spec_l04Asked.l1]
    rw [if_pos (by omega), if_pos (by omega), l04Word_eq _ (by omega) k (by omega), Option.bind_some, wrap_nat i (by omega), ih (i + 1) k (by omega) (by omega), drop_rdS ws i (by omega)]
    by_cases h : wordOk (rdOf ByteArray.empty ws (i : Int)) = true <;> simp [wordsOk, h]
theorem asked_l0 (hs : List S51) (ws : List ByteArray) (hh : hs.length ≤ 1048576) (hw : ws.length ≤ 2097152) (hb : ∀ s ∈ ws, s.size ≤ 2097152) : ∀ (d i k : Nat), i + d = hs.length → d + 4194310 < k → spec_l04Asked.l0 k hs ws (i : Int) = some (if habitsOk (hs.drop i) = true ∧ wordsOk ws = true then if hs.length ≤ 30 then if ws.length ≤ 40 then 0 else 3 else 3 else 1) := by
  intro d
  induction d with
  | zero =>
    intro i k hi hk
    obtain ⟨k, rfl⟩ : ∃ m, k = m + 1 := ⟨k - 1, by omega⟩
    have h := asked_l1 hs ws hw hb ws.length 0 k (by omega) (by omega)
    rw [show ((0 : Nat) : Int) = 0 from rfl, List.drop_zero] at h
    simp only [spec_l04Asked.l0]
    rw [if_neg (by omega), List.drop_eq_nil_of_le (by omega), h]
    simp [habitsOk]
  | succ d ih =>
    intro i k hi hk
    obtain ⟨k, rfl⟩ : ∃ m, k = m + 1 := ⟨k - 1, by omega⟩
    simp only [spec_l04Asked.l0]
    rw [if_pos (by omega), if_pos (by omega), l04Habit_eq _ _ _ k (by omega), Option.bind_some, wrap_nat i (by omega), ih (i + 1) k (by omega) (by omega), drop_hab hs i (by omega)]
    by_cases h : habitOk (rd_T51 hs (i : Int)).f0 (rd_T51 hs (i : Int)).f1 (rd_T51 hs (i : Int)).f2 = true <;> simp [habitsOk, h]
theorem asked_eq (hs : List S51) (ws : List ByteArray) (hh : hs.length ≤ 1048576) (hw : ws.length ≤ 2097152) (hb : ∀ s ∈ ws, s.size ≤ 2097152) (k : Nat) (hk : 5242890 < k) : spec_l04Asked.f k hs ws = some (codeA hs ws) := by
  unfold spec_l04Asked.f codeA
  have h := asked_l0 hs ws hh hw hb hs.length 0 k (by omega) (by omega)
  rw [show ((0 : Nat) : Int) = 0 from rfl, List.drop_zero] at h
  exact h
theorem findH_l0 (l : List S51) (hl : l.length ≤ 1048576) : ∀ (d i k : Nat), i + d = l.length → d < k → ∃ r : Int, slices_IndexFunc_Habit_at_chainCode_1.l0 k l (l.length : Int) (i : Int) = some r ∧ decide (r ≥ 0) = !habitsOk (l.drop i) := by
  intro d
  induction d with
  | zero =>
    intro i k hi hk
    obtain ⟨k, rfl⟩ : ∃ m, k = m + 1 := ⟨k - 1, by omega⟩
    refine ⟨-1, ?_, ?_⟩
    · simp only [slices_IndexFunc_Habit_at_chainCode_1.l0]
      rw [if_neg (by omega)]
    · rw [List.drop_eq_nil_of_le (by omega)]; simp [habitsOk]
  | succ d ih =>
    intro i k hi hk
    obtain ⟨k, rfl⟩ : ∃ m, k = m + 1 := ⟨k - 1, by omega⟩
    simp only [slices_IndexFunc_Habit_at_chainCode_1.l0, impl_chainCode_1.f]
    rw [if_pos (by omega), if_pos (by omega), if_pos (by omega), validHabit_eq, Option.bind_some, Option.bind_some, drop_hab l i (by omega), wrap_nat i (by omega)]
    by_cases h : habitOk (rd_T51 l (i : Int)).f0 (rd_T51 l (i : Int)).f1 (rd_T51 l (i : Int)).f2 = true
    · obtain ⟨r, h1, h2⟩ := ih (i + 1) k (by omega) (by omega)
      refine ⟨r, by rw [if_neg (by simp [h])]; exact h1, ?_⟩
      rw [h2]; simp [habitsOk, h]
    · refine ⟨(i : Int), by rw [if_pos (by simpa using h)], ?_⟩
      simp only [habitsOk, List.all_cons, Bool.eq_false_iff.2 h, Bool.false_and, Bool.not_false]
      exact decide_eq_true (by omega)
theorem findW_l0 (l : List ByteArray) (hl : l.length ≤ 2097153) (hb : ∀ s ∈ l, s.size ≤ 2097152) : ∀ (d i k : Nat), i + d = l.length → d + 2097152 < k → ∃ r : Int, slices_IndexFunc_Sstring_string_at_chainCode_2.l0 k l (l.length : Int) (i : Int) = some r ∧ decide (r ≥ 0) = !wordsOk (l.drop i) := by
  intro d
  induction d with
  | zero =>
    intro i k hi hk
    obtain ⟨k, rfl⟩ : ∃ m, k = m + 1 := ⟨k - 1, by omega⟩
    refine ⟨-1, ?_, ?_⟩
    · simp only [slices_IndexFunc_Sstring_string_at_chainCode_2.l0]
      rw [if_neg (by omega)]
    · rw [List.drop_eq_nil_of_le (by omega)]; simp [wordsOk]
  | succ d ih =>
    intro i k hi hk
    obtain ⟨k, rfl⟩ : ∃ m, k = m + 1 := ⟨k - 1, by omega⟩
    have hm : rdOf ByteArray.empty l (i : Int) ∈ l := by
      rw [rdS_nat, List.getD_eq_getElem?_getD, List.getElem?_eq_getElem (by omega)]
      exact List.getElem_mem _
    have hsz := hb _ hm
    simp only [slices_IndexFunc_Sstring_string_at_chainCode_2.l0, impl_chainCode_2.f]
    rw [if_pos (by omega), if_pos (by omega), if_pos (by omega), isWord_eq _ (by omega) k (by omega), Option.bind_some, Option.bind_some, drop_rdS l i (by omega), wrap_nat i (by omega)]
    by_cases h : wordOk (rdOf ByteArray.empty l (i : Int)) = true
    · obtain ⟨r, h1, h2⟩ := ih (i + 1) k (by omega) (by omega)
      refine ⟨r, by rw [if_neg (by simp [h])]; exact h1, ?_⟩
      rw [h2]; simp [wordsOk, h]
    · refine ⟨(i : Int), by rw [if_pos (by simpa using h)], ?_⟩
      simp only [wordsOk, List.all_cons, Bool.eq_false_iff.2 h, Bool.false_and, Bool.not_false]
      exact decide_eq_true (by omega)
def codeH (hs : List S51) (ws : List ByteArray) : Int :=
  if habitsOk hs = true ∧ wordsOk ws = true then if hs.length ≤ 30 then 0 else 3 else 1
theorem chainCode_eq (hs : List S51) (ws : List ByteArray) (hh : hs.length ≤ 1048576) (hw : ws.length ≤ 2097153) (hb : ∀ s ∈ ws, s.size ≤ 2097152) (k : Nat) (hk : 5242890 < k) : impl_chainCode.f k hs ws = some (codeH hs ws) := by
  unfold impl_chainCode.f codeH slices_ContainsFunc_Habit_at_chainCode_1.f slices_IndexFunc_Habit_at_chainCode_1.f slices_ContainsFunc_Sstring_string_at_chainCode_2.f slices_IndexFunc_Sstring_string_at_chainCode_2.f impl_unless.f
  obtain ⟨r, h1, h2⟩ := findH_l0 hs hh hs.length 0 k (by omega) (by omega)
  obtain ⟨q, g1, g2⟩ := findW_l0 ws hw hb ws.length 0 k (by omega) (by omega)
  rw [show ((0 : Nat) : Int) = 0 from rfl] at h1 g1
  rw [List.drop_zero] at h2 g2
  simp only [h1, g1, Option.bind_some, h2, g2]
  by_cases e1 : habitsOk hs = true <;> by_cases e2 : wordsOk ws = true <;> by_cases e3 : hs.length ≤ 30
  all_goals first
    | (have e4 : (hs.length : Int) ≤ 30 := by omega
       simp [e1, e2, e3, e4])
    | (have e4 : ¬ (hs.length : Int) ≤ 30 := by omega
       simp [e1, e2, e3, e4])
def cvHabit (x : S53) : S51 := ⟨x.f0, x.f1, x.f2⟩
theorem toHabitS_l0 (l : List S53) (hl : l.length ≤ 1048576) : ∀ (d i k : Nat), i + d = l.length → d < k → laws_toHabitS.l0 k l ((l.map cvHabit).take i ++ List.replicate d z51) (i : Int) = some (l.map cvHabit) := by
  intro d
  induction d with
  | zero =>
    intro i k hi hk
    obtain ⟨k, rfl⟩ : ∃ m, k = m + 1 := ⟨k - 1, by omega⟩
    simp only [laws_toHabitS.l0]
    rw [if_neg (by omega), List.take_of_length_le (by simp; omega)]
    simp
  | succ d ih =>
    intro i k hi hk
    obtain ⟨k, rfl⟩ : ∃ m, k = m + 1 := ⟨k - 1, by omega⟩
    have hlen : (((l.map cvHabit).take i ++ List.replicate (d + 1) z51).length : Int) = l.length := by simp; omega
    have hg : (l.map cvHabit).getD i z51 = cvHabit (rd_T53 l (i : Int)) := by
      simp [rd_T53, List.getD_eq_getElem?_getD, List.getElem?_map, List.getElem?_eq_getElem (show i < l.length by omega)]
    have hstep := set_rep ((l.map cvHabit).take i) i d z51 (cvHabit (rd_T53 l (i : Int))) (by simp; omega)
    rw [← hg, ← take_getD z51 (l.map cvHabit) i (by simp; omega), hg] at hstep
    simp only [laws_toHabitS.l0, laws_toHabit.f, Option.bind_some]
    rw [if_pos (by omega), if_pos (by omega), if_pos (by rw [hlen]; omega), wrap_nat i (by omega), Int.toNat_natCast]
    exact (congrArg (fun o => laws_toHabitS.l0 k l o ((i + 1 : Nat) : Int)) hstep).trans (ih (i + 1) k (by omega) (by omega))
theorem toHabitS_eq (l : List S53) (hl : l.length ≤ 1048576) (k : Nat) (hk : l.length < k) : laws_toHabitS.f k l = some (l.map cvHabit) := by
  unfold laws_toHabitS.f
  rw [if_pos (by omega), if_pos (by omega)]
  have := toHabitS_l0 l hl l.length 0 k (by omega) hk
  simpa using this

instance decHabit : DecidableEq S51 := fun x y =>
  if h : x.f0 = y.f0 ∧ x.f1 = y.f1 ∧ x.f2 = y.f2 then isTrue (by obtain ⟨a, b, c⟩ := x; obtain ⟨a', b', c'⟩ := y; simp only at h; rw [h.1, h.2.1, h.2.2]) else isFalse (fun e => h (by rw [e]; exact ⟨rfl, rfl, rfl⟩))
theorem eqHabit_eq (x y : S51) : laws_eqHabit.f x.f0 x.f1 x.f2 y.f0 y.f1 y.f2 = some (decide (x = y)) := by
  obtain ⟨a, b, c⟩ := x
  obtain ⟨a', b', c'⟩ := y
  unfold laws_eqHabit.f
  by_cases h1 : a = a' <;> by_cases h2 : b = b' <;> by_cases h3 : c = c' <;> simp [h1, h2, h3]
theorem eqHabitS_l0 (a b : List S51) (hab : a.length = b.length) (hl : a.length ≤ 1048576) : ∀ (d i k : Nat), i + d = a.length → d < k → laws_eqHabitS.l0 k a b (i : Int) = some (decide (a.drop i = b.drop i)) := by
  intro d
  induction d with
  | zero =>
    intro i k hi hk
    obtain ⟨k, rfl⟩ : ∃ m, k = m + 1 := ⟨k - 1, by omega⟩
    simp only [laws_eqHabitS.l0]
    rw [if_neg (by omega), List.drop_eq_nil_of_le (by omega), List.drop_eq_nil_of_le (by omega)]
    simp
  | succ d ih =>
    intro i k hi hk
    obtain ⟨k, rfl⟩ : ∃ m, k = m + 1 := ⟨k - 1, by omega⟩
    have ha : a.drop i = rd_T51 a (i : Int) :: a.drop (i + 1) := by
      rw [drop_getD z51 a i (by omega)]; simp [rd_T51]
    have hb : b.drop i = rd_T51 b (i : Int) :: b.drop (i + 1) := by
      rw [drop_getD z51 b i (by omega)]; simp [rd_T51]
    simp only [laws_eqHabitS.l0]
    rw [if_pos (by omega), if_pos (by omega), if_pos (by omega), ha, hb]
    rw [eqHabit_eq (rd_T51 a (i : Int)) (rd_T51 b (i : Int))]
    simp only [Option.bind_some]
    by_cases e : rd_T51 a (i : Int) = rd_T51 b (i : Int)
    · rw [decide_eq_true e, if_pos rfl, wrap_nat i (by omega), ih (i + 1) k (by omega) (by omega)]
      simp [e]
    · rw [decide_eq_false e, if_neg (by decide)]
      simp [e]
theorem eqHabitS_eq (a b : List S51) (hl : a.length ≤ 1048576) (k : Nat) (hk : a.length < k) : laws_eqHabitS.f k a b = some (decide (a = b)) := by
  unfold laws_eqHabitS.f
  by_cases h : a.length = b.length
  · rw [if_pos (by omega)]
    have := eqHabitS_l0 a b h hl a.length 0 k (by omega) hk
    simpa using this
  · rw [if_neg (by omega)]
    have : a ≠ b := fun e => h (by rw [e])
    simp [this]

theorem szHabitS_eq (l : List S53) (a : Int) (h0 : 0 ≤ a) (h1 : a ≤ 1048576) (hl : l.length ≤ 9223372036854775807) : laws_szHabitS.f l a = some (if a < l.length then -1 else a - l.length) := by
  unfold laws_szHabitS.f
  rw [wrap64_id _ (by omega) (by omega)]
  by_cases h : a < (l.length : Int)
  · rw [if_pos (by omega), if_pos h]
  · rw [if_neg (by omega), if_neg h]

theorem markHab_pos (m : List S51) (hl : m.length ≤ 1048576) : ∀ (d i k : Nat) (x : List S51) (a : Int), x.length = m.length → i + d = m.length → d < k → 0 ≤ a → a ≤ 4194304 + 3 * (i : Int) → ∃ v, laws_markHabitS.l0 k x a (i : Int) = some v ∧ 0 ≤ v.1 := by
  intro d
  induction d with
  | zero =>
    intro i k x a hx hi hk ha _
    obtain ⟨k, rfl⟩ : ∃ m, k = m + 1 := ⟨k - 1, by omega⟩
    simp only [laws_markHabitS.l0]
    rw [if_neg (by omega)]
    exact ⟨_, rfl, ha⟩
  | succ d ih =>
    intro i k x a hx hi hk ha h3
    obtain ⟨k, rfl⟩ : ∃ m, k = m + 1 := ⟨k - 1, by omega⟩
    simp only [laws_markHabitS.l0, Option.bind_some]
    rw [if_pos (by omega), if_pos (by omega), wrap_nat i (by omega)]
    have w1 : wrap64 (a + 1) = a + 1 := wrap64_id _ (by omega) (by omega)
    have w2 : wrap64 (a + 1 + 1) = a + 1 + 1 := wrap64_id _ (by omega) (by omega)
    have w3 : wrap64 (a + 1 + 1 + 1) = a + 1 + 1 + 1 := wrap64_id _ (by omega) (by omega)
    rw [w1, w2, w3]
    exact ih (i + 1) k _ _ (by simp [hx]) (by omega) (by omega) (by omega) (by omega)
theorem markHab_eq (m : List S51) (hl : m.length ≤ 1048576) (k : Nat) (hk : m.length < k) : ∃ v, laws_markHabitS.f k m 1 = some v ∧ 0 ≤ v.1 := by
  unfold laws_markHabitS.f
  have := markHab_pos m hl m.length 0 k m 1 rfl (by omega) hk (by decide) (by omega)
  exact this
def habR (h : S51) : Prop := (0 ≤ h.f1 ∧ h.f1 ≤ 255) ∧ (0 ≤ h.f2 ∧ h.f2 ≤ 255)
theorem cvH_rng (l : List S53) (hw : ∀ x ∈ l, ((Lit.int .i8 x.f0).wf = true) ∧ ((Lit.int .u8 x.f1).wf = true) ∧ ((Lit.int .u8 x.f2).wf = true)) : ∀ h ∈ l.map cvHabit, habR h := by
  intro r hr
  obtain ⟨x, hx, rfl⟩ := List.mem_map.1 hr
  obtain ⟨_, h1, h2⟩ := hw x hx
  exact ⟨wf_u8 h1, wf_u8 h2⟩
theorem mem_hab (s : List S51) (i : Nat) (h : i < s.length) : rd_T51 s (i : Int) ∈ s := by
  have h2 : rd_T51 s (i : Int) = s.getD i z51 := by simp [rd_T51]
  rw [h2, List.getD_eq_getElem?_getD, List.getElem?_eq_getElem h]
  exact List.getElem_mem _
def hearH (h : S51) (w : ByteArray) : ByteArray := hearF h.f0 h.f1 h.f2 w
def okW (w : ByteArray) : Prop := 1 ≤ w.size ∧ w.size ≤ 12
theorem hearF_ok (f A B : Int) (w : ByteArray) (h : okW w) : okW (hearF f A B w) := by
  unfold okW at h ⊢
  unfold hearF
  split
  · rw [strOfNums_size, List.length_map, bytesOf_length]; exact h
  · split
    · split
      · exact h
      · unfold dropB
        split
        · rename_i h2 hq
          have hb := indexByte_bound w A.toNat.toUInt8 hq
          simp only [ByteArray.size_append, ByteArray.size_extract]
          omega
        · exact h
    · split
      · split
        · simp only [ByteArray.size_append, ByteArray.size_extract]
          omega
        · exact h
      · split
        · split
          · rw [strOfNums_size, List.length_reverse, bytesOf_length]; exact h
          · exact h
        · exact h
def passF (hs : List S51) (w : ByteArray) : ByteArray := hs.foldl (fun w h => hearH h w) w
def saidF : List S51 → ByteArray → List ByteArray
  | [], _ => []
  | h :: r, w => hearH h w :: saidF r (hearH h w)
theorem saidF_length : ∀ (hs : List S51) (w : ByteArray), (saidF hs w).length = hs.length
  | [], _ => rfl
  | h :: r, w => by simp [saidF, saidF_length r]
theorem saidF_last : ∀ (hs : List S51) (w : ByteArray), (w :: saidF hs w).getD hs.length ByteArray.empty = passF hs w
  | [], w => rfl
  | h :: r, w => by
    have := saidF_last r (hearH h w)
    simp only [saidF, List.length_cons, passF, List.foldl_cons]
    exact this
theorem specPass_l0 (hs : List S51) (hl : hs.length ≤ 1048576) (hr : ∀ h ∈ hs, habR h) : ∀ (d i k : Nat) (w : ByteArray), i + d = hs.length → d + 30 < k → okW w → spec_l04Pass.l0 k hs w (i : Int) = some (passF (hs.drop i) w) := by
  intro d
  induction d with
  | zero =>
    intro i k w hi hk hw
    obtain ⟨k, rfl⟩ : ∃ m, k = m + 1 := ⟨k - 1, by omega⟩
    simp only [spec_l04Pass.l0]
    rw [if_neg (by omega), List.drop_eq_nil_of_le (by omega)]
    rfl
  | succ d ih =>
    intro i k w hi hk hw
    obtain ⟨k, rfl⟩ : ∃ m, k = m + 1 := ⟨k - 1, by omega⟩
    have hh := hr _ (mem_hab hs i (by omega))
    simp only [spec_l04Pass.l0]
    rw [if_pos (by omega), if_pos (by omega), specHear_eq _ _ _ hh.1 w hw.1 hw.2 k (by omega), Option.bind_some, wrap_nat i (by omega), ih (i + 1) k _ (by omega) (by omega) (hearF_ok _ _ _ w hw), drop_hab hs i (by omega)]
    rfl
theorem specPass_eq (hs : List S51) (hl : hs.length ≤ 1048576) (hr : ∀ h ∈ hs, habR h) (w : ByteArray) (hw : okW w) (k : Nat) (hk : hs.length + 30 < k) : spec_l04Pass.f k hs w = some (passF hs w) := by
  unfold spec_l04Pass.f
  have := specPass_l0 hs hl hr hs.length 0 k w (by omega) hk hw
  rw [show ((0 : Nat) : Int) = 0 from rfl, List.drop_zero] at this
  exact this
theorem implHeard_l0 (hs : List S51) (m : Int) (hl : hs.length ≤ 1048576) (hr : ∀ h ∈ hs, habR h) : ∀ (d i k : Nat) (w : ByteArray) (xs : List ByteArray), i + d = hs.length → d < k → okW w → xs.length ≤ i + 1 → impl_heard.l0 k w xs hs (hs.length : Int) (i : Int) m = some (xs ++ saidF (hs.drop i) w) := by
  intro d
  induction d with
  | zero =>
    intro i k w xs hi hk hw hx
    obtain ⟨k, rfl⟩ : ∃ m, k = m + 1 := ⟨k - 1, by omega⟩
    simp only [impl_heard.l0]
    rw [if_neg (by omega), List.drop_eq_nil_of_le (by omega)]
    simp [saidF]
  | succ d ih =>
    intro i k w xs hi hk hw hx
    obtain ⟨k, rfl⟩ : ∃ m, k = m + 1 := ⟨k - 1, by omega⟩
    have hh := hr _ (mem_hab hs i (by omega))
    simp only [impl_heard.l0]
    rw [if_pos (by omega), if_pos (by omega), if_pos (by omega), implHear_eq _ _ _ m hh.1 hh.2 w hw.1 hw.2, Option.bind_some, if_pos (by omega), wrap_nat i (by omega), ih (i + 1) k _ _ (by omega) (by omega) (hearF_ok _ _ _ w hw) (by simp; omega), drop_hab hs i (by omega)]
    simp [saidF, hearH]
theorem implHeard_eq (hs : List S51) (m : Int) (hl : hs.length ≤ 1048576) (hr : ∀ h ∈ hs, habR h) (w : ByteArray) (hw : okW w) (k : Nat) (hk : hs.length < k) : impl_heard.f k hs w m = some (w :: saidF hs w) := by
  unfold impl_heard.f
  have := implHeard_l0 hs m hl hr hs.length 0 k w [w] (by omega) hk hw (by simp)
  rw [show ((0 : Nat) : Int) = 0 from rfl, List.drop_zero] at this
  exact this
theorem implPassed_eq (hs : List S51) (m : Int) (hl : hs.length ≤ 1048576) (hr : ∀ h ∈ hs, habR h) (w : ByteArray) (hw : okW w) (k : Nat) (hk : hs.length < k) : impl_passed.f k hs w m = some (passF hs w) := by
  unfold impl_passed.f
  rw [implHeard_eq hs m hl hr w hw k hk, Option.bind_some, if_pos (by omega), if_pos (by simp [saidF_length]; omega), rdS_nat, saidF_last]
theorem codeA_two (hs : List S51) (w v : ByteArray) : codeA hs [w, v] = codeH hs [w, v] := by
  unfold codeA codeH
  by_cases a : habitsOk hs = true ∧ wordsOk [w, v] = true
  · rw [if_pos a, if_pos a]
    by_cases b : hs.length ≤ 30
    · rw [if_pos b, if_pos b, if_pos (by simp)]
    · rw [if_neg b, if_neg b]
  · rw [if_neg a, if_neg a]
theorem codeH_facts (hs : List S51) (ws : List ByteArray) (h : codeH hs ws = 0) : hs.length ≤ 30 ∧ ∀ w ∈ ws, okW w := by
  unfold codeH at h
  by_cases a : habitsOk hs = true ∧ wordsOk ws = true
  · rw [if_pos a] at h
    by_cases b : hs.length ≤ 30
    · exact ⟨b, fun w hw => wordOk_size w (List.all_eq_true.1 a.2 w hw)⟩
    · rw [if_neg b] at h; exact absurd h (by decide)
  · rw [if_neg a] at h; exact absurd h (by decide)

def picks (q : Nat → Bool) : Nat → Nat → List Int
  | 0, _ => []
  | d + 1, i => if q i = true then (i : Int) :: picks q d (i + 1) else picks q d (i + 1)
theorem picks_length (q : Nat → Bool) : ∀ d i, (picks q d i).length ≤ d
  | 0, _ => by simp [picks]
  | d + 1, i => by
    have := picks_length q d (i + 1)
    unfold picks
    split <;> simp <;> omega

theorem eqInt64S_l0 (a b : List Int) (hab : a.length = b.length) (hl : a.length ≤ 1048576) : ∀ (d i k : Nat), i + d = a.length → d < k → laws_eqInt64S.l0 k a b (i : Int) = some (decide (a.drop i = b.drop i)) := by
  intro d
  induction d with
  | zero =>
    intro i k hi hk
    obtain ⟨k, rfl⟩ : ∃ m, k = m + 1 := ⟨k - 1, by omega⟩
    simp only [laws_eqInt64S.l0]
    rw [if_neg (by omega), List.drop_eq_nil_of_le (by omega), List.drop_eq_nil_of_le (by omega)]
    simp
  | succ d ih =>
    intro i k hi hk
    obtain ⟨k, rfl⟩ : ∃ m, k = m + 1 := ⟨k - 1, by omega⟩
    have ha : a.drop i = rd a (i : Int) :: a.drop (i + 1) := by
      rw [drop_getD 0 a i (by omega)]; simp [rd]
    have hb : b.drop i = rd b (i : Int) :: b.drop (i + 1) := by
      rw [drop_getD 0 b i (by omega)]; simp [rd]
    simp only [laws_eqInt64S.l0]
    rw [if_pos (by omega), if_pos (by omega), if_pos (by omega), ha, hb]
    by_cases e : rd a (i : Int) = rd b (i : Int)
    · rw [if_pos e, wrap_nat i (by omega), ih (i + 1) k (by omega) (by omega)]
      simp [e]
    · rw [if_neg e]
      simp [e]
theorem eqInt64S_eq (a b : List Int) (hl : a.length ≤ 1048576) (k : Nat) (hk : a.length < k) : laws_eqInt64S.f k a b = some (decide (a = b)) := by
  unfold laws_eqInt64S.f
  by_cases h : a.length = b.length
  · rw [if_pos (by omega)]
    have := eqInt64S_l0 a b h hl a.length 0 k (by omega) hk
    simpa using this
  · rw [if_neg (by omega)]
    have : a ≠ b := fun e => h (by rw [e])
    simp [this]

def marks64 (m : Int) (n : Nat) : List Int := (List.range n).map (fun (j : Nat) => m + (j : Int))
theorem marks64_length (m : Int) (n : Nat) : (marks64 m n).length = n := by simp [marks64]
theorem markInt64S_l0 (m : Int) (h0 : 0 ≤ m) (h1 : m ≤ 4194304) (g : List Int) (hl : g.length ≤ 1048576) : ∀ (d i k : Nat), i + d = g.length → d < k → laws_markInt64S.l0 k ((marks64 m g.length).take i ++ g.drop i) (m + (i : Int)) (i : Int) = some (m + (g.length : Int), marks64 m g.length) := by
  intro d
  induction d with
  | zero =>
    intro i k hi hk
    obtain ⟨k, rfl⟩ : ∃ m, k = m + 1 := ⟨k - 1, by omega⟩
    obtain rfl : i = g.length := by omega
    simp only [laws_markInt64S.l0]
    rw [List.drop_eq_nil_of_le (Nat.le_refl _), List.take_of_length_le (by rw [marks64_length]; omega), List.append_nil, if_neg (by rw [marks64_length]; omega)]
  | succ d ih =>
    intro i k hi hk
    obtain ⟨k, rfl⟩ : ∃ m, k = m + 1 := ⟨k - 1, by omega⟩
    have hlen : (((marks64 m g.length).take i ++ g.drop i).length : Int) = g.length := by simp [marks64_length]; omega
    have hstep := set_drop ((marks64 m g.length).take i) g i (m + (i : Int)) (by simp [marks64_length]; omega) (by omega)
    have hg : (marks64 m g.length).getD i 0 = m + (i : Int) := getD_range_map 0 _ _ _ (by omega)
    rw [← hg, ← take_getD 0 (marks64 m g.length) i (by rw [marks64_length]; omega), hg] at hstep
    simp only [laws_markInt64S.l0]
    rw [if_pos (by rw [hlen]; omega), if_pos (by omega), wrap_nat i (by omega), Int.toNat_natCast, wrap64_id _ (by omega) (by omega), hstep]
    have := ih (i + 1) k (by omega) (by omega)
    rw [show m + ((i + 1 : Nat) : Int) = m + (i : Int) + 1 by omega] at this
    exact this
theorem markInt64S_eq (m : Int) (h0 : 0 ≤ m) (h1 : m ≤ 4194304) (g : List Int) (hl : g.length ≤ 1048576) (k : Nat) (hk : g.length < k) : laws_markInt64S.f k g m = some (m + (g.length : Int), marks64 m g.length) := by
  unfold laws_markInt64S.f
  have := markInt64S_l0 m h0 h1 g hl g.length 0 k (by omega) hk
  simpa using this
theorem heldInt64S_l0 (m : Int) (h0 : 0 ≤ m) (h1 : m ≤ 4194304) (n : Nat) (hl : n ≤ 1048576) : ∀ (d i k : Nat), i + d = n → d < k → laws_heldInt64S.l0 k (marks64 m n) (m + (i : Int)) (i : Int) = some (m + (n : Int)) := by
  intro d
  induction d with
  | zero =>
    intro i k hi hk
    obtain ⟨k, rfl⟩ : ∃ m, k = m + 1 := ⟨k - 1, by omega⟩
    obtain rfl : i = n := by omega
    simp only [laws_heldInt64S.l0]
    rw [if_neg (by rw [marks64_length]; omega)]
  | succ d ih =>
    intro i k hi hk
    obtain ⟨k, rfl⟩ : ∃ m, k = m + 1 := ⟨k - 1, by omega⟩
    have hg : rd (marks64 m n) (i : Int) = m + (i : Int) := by
      rw [rd_nat]; exact getD_range_map 0 _ _ _ (by omega)
    simp only [laws_heldInt64S.l0]
    rw [if_pos (by rw [marks64_length]; omega), if_pos (by omega), if_pos hg, wrap_nat i (by omega), wrap64_id _ (by omega) (by omega)]
    have := ih (i + 1) k (by omega) (by omega)
    rw [show m + ((i + 1 : Nat) : Int) = m + (i : Int) + 1 by omega] at this
    exact this
theorem heldInt64S_eq (m : Int) (h0 : 0 ≤ m) (h1 : m ≤ 4194304) (n : Nat) (hl : n ≤ 1048576) (k : Nat) (hk : n < k) : laws_heldInt64S.f k (marks64 m n) m = some (m + (n : Int)) := by
  unfold laws_heldInt64S.f
  have := heldInt64S_l0 m h0 h1 n hl n 0 k (by omega) hk
  simpa using this

def butQ (hs : List S51) (w v : ByteArray) (i : Nat) : Bool := (passF (hs.eraseIdx i) w).toList == v.toList
theorem passF_ok (hs : List S51) (w : ByteArray) (hw : okW w) : okW (passF hs w) := by
  unfold passF
  induction hs generalizing w with
  | nil => exact hw
  | cons h r ih => exact ih _ (hearF_ok _ _ _ w hw)
theorem passF_but (hs : List S51) (i : Nat) (w : ByteArray) : passF (hs.drop (i + 1)) (passF (hs.take i) w) = passF (hs.eraseIdx i) w := by
  rw [List.eraseIdx_eq_take_drop_succ]
  simp [passF, List.foldl_append]
theorem specBut_l0 (hs : List S51) (hl : hs.length ≤ 1048576) (hr : ∀ h ∈ hs, habR h) (w v : ByteArray) (hw : okW w) : ∀ (d i k : Nat) (xs : List Int), i + d = hs.length → d + hs.length + 100 < k → xs.length ≤ i → spec_AllBut.l0 k hs w v xs (i : Int) = some (xs ++ picks (butQ hs w v) d i, 0) := by
  intro d
  induction d with
  | zero =>
    intro i k xs hi hk hx
    obtain ⟨k, rfl⟩ : ∃ m, k = m + 1 := ⟨k - 1, by omega⟩
    simp only [spec_AllBut.l0]
    rw [if_neg (by omega)]
    simp [picks]
  | succ d ih =>
    intro i k xs hi hk hx
    obtain ⟨k, rfl⟩ : ∃ m, k = m + 1 := ⟨k - 1, by omega⟩
    simp only [spec_AllBut.l0]
    have h1 := specPass_eq (hs.take i) (by simp; omega) (fun h hh => hr h (List.mem_of_mem_take hh)) w hw k (by simp; omega)
    have h2 := specPass_eq (hs.drop (i + 1)) (by simp; omega) (fun h hh => hr h (List.mem_of_mem_drop hh)) (passF (hs.take i) w) (passF_ok _ w hw) k (by simp; omega)
    rw [passF_but] at h2
    rw [wrap_nat i (by omega), if_pos (by omega), if_pos (by omega), if_pos (by omega), if_pos (by omega), if_pos (by omega), Int.toNat_natCast, Int.toNat_natCast, h1, Option.bind_some, h2, Option.bind_some]
    unfold picks
    by_cases e : butQ hs w v i = true
    · have e' : (passF (hs.eraseIdx i) w).toList = v.toList := beq_iff_eq.1 e
      rw [if_pos e', if_pos (by omega), if_pos e, ih (i + 1) k _ (by omega) (by omega) (by simp; omega)]
      simp
    · have e' : ¬ (passF (hs.eraseIdx i) w).toList = v.toList := fun z => e (beq_iff_eq.2 z)
      rw [if_neg e', if_neg e, ih (i + 1) k _ (by omega) (by omega) (by omega)]
theorem implBut_l0 (hs : List S51) (m : Int) (hl : hs.length ≤ 1048576) (hr : ∀ h ∈ hs, habR h) (w v : ByteArray) (hw : okW w) : ∀ (d i k : Nat) (xs : List Int), i + d = hs.length → d + hs.length + 100 < k → xs.length ≤ i → impl_indices_at_AllBut_1.l0 k xs (hs.length : Int) (i : Int) hs w v m = some (xs ++ picks (butQ hs w v) d i) := by
  intro d
  induction d with
  | zero =>
    intro i k xs hi hk hx
    obtain ⟨k, rfl⟩ : ∃ m, k = m + 1 := ⟨k - 1, by omega⟩
    simp only [impl_indices_at_AllBut_1.l0]
    rw [if_neg (by omega)]
    simp [picks]
  | succ d ih =>
    intro i k xs hi hk hx
    obtain ⟨k, rfl⟩ : ∃ m, k = m + 1 := ⟨k - 1, by omega⟩
    have h1 := implPassed_eq (hs.eraseIdx i) m (by rw [List.length_eraseIdx]; split <;> omega) (fun h hh => hr h (List.mem_of_mem_eraseIdx hh)) w hw k (by rw [List.length_eraseIdx]; split <;> omega)
    simp only [impl_indices_at_AllBut_1.l0, impl_AllBut_1.f, slices_Clone_Habit.f, List.nil_append]
    rw [if_pos (by omega), if_pos (by omega), if_pos (by omega), Option.bind_some, if_pos (by simp; omega), Option.bind_some, List.nil_append, if_pos rfl, Int.toNat_natCast, h1, Option.bind_some, Option.bind_some, wrap_nat i (by omega)]
    rw [show ((passF (hs.eraseIdx i) w).toList == v.toList) = butQ hs w v i from rfl]
    unfold picks
    by_cases e : butQ hs w v i = true
    · rw [if_pos e, if_pos (by omega), if_pos e, ih (i + 1) k _ (by omega) (by omega) (by simp; omega)]
      simp
    · rw [if_neg e, if_neg e, ih (i + 1) k _ (by omega) (by omega) (by omega)]
def fin (hs : List S51) (w v : ByteArray) : List Int × Int :=
  if codeH hs [w, v] = 0 then (picks (butQ hs w v) hs.length 0, 0) else ([], codeH hs [w, v])
theorem fin_len (hs : List S51) (w v : ByteArray) : (fin hs w v).1.length ≤ 30 := by
  unfold fin
  by_cases c : codeH hs [w, v] = 0
  · rw [if_pos c]
    have := picks_length (butQ hs w v) hs.length 0
    have := (codeH_facts hs [w, v] c).1
    simp only; omega
  · rw [if_neg c]; simp
theorem spec_fin (hs : List S51) (hq : hs.length ≤ 1048576) (hr : ∀ h ∈ hs, habR h) (w v : ByteArray) (hb : ∀ s ∈ [w, v], s.size ≤ 2097152) (k : Nat) (hk : 6000000 ≤ k) : spec_AllBut.f k hs w v = some (fin hs w v) := by
  unfold spec_AllBut.f fin
  rw [Option.bind_some, asked_eq hs [w, v] hq (by simp) hb k (by omega), codeA_two, Option.bind_some]
  by_cases c : codeH hs [w, v] = 0
  · obtain ⟨c1, c2⟩ := codeH_facts hs [w, v] c
    have := specBut_l0 hs hq hr w v (c2 w (by simp)) hs.length 0 k [] (by omega) (by omega) (by simp)
    rw [show ((0 : Nat) : Int) = 0 from rfl] at this
    rw [if_pos c, if_pos c, this]; rfl
  · rw [if_neg c, if_neg c]
theorem impl_fin (hs : List S51) (m : Int) (hq : hs.length ≤ 1048576) (hr : ∀ h ∈ hs, habR h) (w v : ByteArray) (hb : ∀ s ∈ [w, v], s.size ≤ 2097152) (k : Nat) (hk : 6000000 ≤ k) : impl_AllBut.f k hs w v m = some (fin hs w v) := by
  unfold impl_AllBut.f fin impl_indices_at_AllBut_1.f
  rw [chainCode_eq hs [w, v] hq (by simp) hb k (by omega), Option.bind_some]
  by_cases c : codeH hs [w, v] = 0
  · obtain ⟨c1, c2⟩ := codeH_facts hs [w, v] c
    have := implBut_l0 hs m hq hr w v (c2 w (by simp)) hs.length 0 k [] (by omega) (by omega) (by simp)
    rw [show ((0 : Nat) : Int) = 0 from rfl] at this
    rw [if_pos c, if_pos c, this]; rfl
  · rw [if_neg c, if_neg c]
theorem main : laws_FnExactAllBut.Pure := by
  intro l w v m hl hw hv
  refine rounds_of 7000000 fun k hk => ?_
  unfold laws_FnExactAllBut.f
  by_cases h : (w.size : Int) > 1048576
  · rw [if_pos h]
  · rw [if_neg h]
    by_cases h2 : (v.size : Int) > 1048576
    · rw [if_pos h2]
    · rw [if_neg h2, szHabitS_eq l 1048576 (by decide) (by decide) hl.1, Option.bind_some]
      by_cases hm : (1048576 : Int) < (l.length : Int)
      · rw [if_pos hm, if_pos (by decide)]
      · have hq : (l.map cvHabit).length ≤ 1048576 := by rw [List.length_map]; omega
        have hr := cvH_rng l hl.2
        rw [if_neg hm, if_neg (by omega), toHabitS_eq l (by omega) k (by omega)]
        simp only [Option.bind_some]
        generalize hg : l.map cvHabit = hs at hq hr
        have hb : ∀ s ∈ [w, v], s.size ≤ 2097152 := by
          intro s hs; simp at hs
          rcases hs with rfl | rfl <;> omega
        rw [spec_fin hs hq hr w v hb k (by omega), impl_fin hs m hq hr w v hb k (by omega)]
        simp only [Option.bind_some]
        have hfl := fin_len hs w v
        rw [eqInt64S_eq _ _ (by omega) k (by omega)]
        simp only [Option.bind_some, decide_true, if_true]
        obtain ⟨k, rfl⟩ : ∃ m, k = m + 3 := ⟨k - 3, by omega⟩
        obtain ⟨u, hu, hu0⟩ := markHab_eq hs hq (k + 2) (by omega)
        simp only [laws_FnExactAllBut.j0]
        rw [if_neg (by simp), toHabitS_eq l (by omega) _ (by omega), hg]
        simp only [Option.bind_some]
        rw [eqHabitS_eq hs hs hq _ (by omega)]
        simp only [Option.bind_some, decide_true, if_true]
        rw [hu]
        simp only [Option.bind_some]
        rw [if_neg (by omega), eqInt64S_eq _ _ (by omega) _ (by omega)]
        simp only [Option.bind_some, decide_true, if_true, laws_FnExactAllBut.j1]
        rw [if_neg (by simp), markInt64S_eq 1 (by decide) (by decide) _ (by omega) _ (by omega)]
        simp only [Option.bind_some]
        rw [heldInt64S_eq 1 (by decide) (by decide) _ (by omega) _ (by omega)]
        simp only [Option.bind_some]
        rw [if_neg (by omega), if_pos trivial, toHabitS_eq l (by omega) _ (by omega), hg]
        simp only [Option.bind_some]
        rw [impl_fin hs m hq hr w v hb _ (by omega)]
        simp only [Option.bind_some]
        rw [eqInt64S_eq _ _ (by omega) _ (by omega)]
        simp only [Option.bind_some, decide_true, if_true, laws_FnExactAllBut.j2]
        rw [if_neg (by simp), heldInt64S_eq 1 (by decide) (by decide) _ (by omega) _ (by omega)]
        simp only [Option.bind_some]
        rw [if_neg (by omega), if_pos trivial]

end Go.Proofs.YtelgmojnndbgmaaDoor.PureFnExactAllBut
namespace Go.Proofs.YtelgmojnndbgmaaDoor.Pure
theorem FnExactAllBut : Go.Proofs.YtelgmojnndbgmaaDoor.P.laws_FnExactAllBut.Pure := Go.Proofs.YtelgmojnndbgmaaDoor.PureFnExactAllBut.main
end Go.Proofs.YtelgmojnndbgmaaDoor.Pure
