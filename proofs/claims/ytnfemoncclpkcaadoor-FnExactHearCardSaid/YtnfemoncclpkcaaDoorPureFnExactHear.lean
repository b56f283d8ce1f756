/- For every habit and every text the program's Hear returns the reference's word and code; no condition. -/
import Derived.Test.YtnfemoncclpkcaaDoorP36
import Derived.Laws.BitsLemmas
namespace Go.Proofs.YtnfemoncclpkcaaDoor.PureFnExactHear
open Go.RowKit Go.Proofs.YtnfemoncclpkcaaDoor.P Go.Proofs.YtnfemoncclpkcaaDoorW.PrintWords Go.Proofs.YtnfemoncclpkcaaDoorW.PrintLast
set_option linter.unusedSimpArgs false
set_option linter.unusedVariables false

theorem wrap64_id (x : Int) (h0 : -9223372036854775808 ≤ x) (h1 : x ≤ 9223372036854775807) : wrap64 x = x := by unfold wrap64; omega
theorem wrap_nat (n : Nat) (h : n < 4611686018427387904) : wrap64 ((n : Int) + 1) = ((n + 1 : Nat) : Int) := by
  rw [wrap64_id _ (by omega) (by omega)]; omega
theorem rd_nat (l : List Int) (i : Nat) : rd l (i : Int) = l.getD i 0 := by simp [rd]
theorem drop_getD {α : Type} (z : α) (l : List α) (i : Nat) (h : i < l.length) : l.drop i = l.getD i z :: l.drop (i + 1) := by
  rw [List.drop_eq_getElem_cons h, List.getD_eq_getElem?_getD, List.getElem?_eq_getElem h]; rfl
theorem take_getD {α : Type} (z : α) (l : List α) (i : Nat) (h : i < l.length) : l.take (i + 1) = l.take i ++ [l.getD i z] := by
  rw [List.take_succ_eq_append_getElem h, List.getD_eq_getElem?_getD, List.getElem?_eq_getElem h]; rfl
theorem rounds_of (B : Nat) {α : Type} {F : Nat → Option α} {v : α} (h : ∀ k, B ≤ k → F k = some v) : ∃ k, F k = some v := ⟨B, h B (Nat.le_refl _)⟩

theorem wf_u8 {a : Int} (h : (Lit.int .u8 a).wf = true) : 0 ≤ a ∧ a ≤ 255 := by
  simp [Lit.wf, IntKind.min, IntKind.max, IntKind.bits, IntKind.signed] at h
  omega
def letter (c : Int) : Bool := decide (97 ≤ c ∧ c ≤ 122)
theorem l04Letter_eq (c : Int) : spec_l04Letter.f c = some (letter c) := by
  unfold spec_l04Letter.f letter
  by_cases h : 97 ≤ c
  · rw [if_pos (by omega)]; simp [h]
  · rw [if_neg (by omega)]; simp [h]
theorem isLetter_eq (c : Int) : impl_isLetter.f c = some (letter c) := by
  unfold impl_isLetter.f letter
  by_cases h : 97 ≤ c
  · rw [if_pos (by omega)]; simp [h]
  · rw [if_neg (by omega)]; simp [h]
theorem in_eq (a b c : Int) : spec_l00In.f a b c = some (decide (b ≤ a ∧ a ≤ c)) := by
  unfold spec_l00In.f
  by_cases h : b ≤ a
  · rw [if_pos (by omega)]; simp [h]
  · rw [if_neg (by omega)]; simp [h]
theorem within_eq (a b c : Int) : impl_within.f a b c = some (decide (b ≤ a ∧ a ≤ c)) := by
  unfold impl_within.f
  by_cases h : b ≤ a
  · rw [if_pos (by omega)]; simp [h]
  · rw [if_neg (by omega)]; simp [h]
def lettersFrom (s : ByteArray) : Nat → Nat → Bool
  | 0, _ => true
  | d + 1, i => letter (bt s (i : Int)) && lettersFrom s d (i + 1)
def wordOk (s : ByteArray) : Bool := lettersFrom s s.size 0 && decide (1 ≤ (s.size : Int) ∧ (s.size : Int) ≤ 12)
theorem l04Word_l0 (s : ByteArray) (hs : s.size ≤ 4611686018427387900) : ∀ (d i k : Nat), i + d = s.size → d < k → spec_l04Word.l0 k s (i : Int) = some (lettersFrom s d i && decide (1 ≤ (s.size : Int) ∧ (s.size : Int) ≤ 12)) := by
  intro d
  induction d with
  | zero =>
    intro i k hi hk
    obtain ⟨k, rfl⟩ : ∃ m, k = m + 1 := ⟨k - 1, by omega⟩
    simp only [spec_l04Word.l0]
    rw [if_neg (by omega), in_eq]
    simp [lettersFrom]
  | succ d ih =>
    intro i k hi hk
    obtain ⟨k, rfl⟩ : ∃ m, k = m + 1 := ⟨k - 1, by omega⟩
    simp only [spec_l04Word.l0]
    rw [if_pos (by omega), if_pos (by omega), l04Letter_eq, Option.bind_some, wrap_nat i (by omega), ih (i + 1) k (by omega) (by omega)]
    by_cases h : letter (bt s (i : Int)) = true <;> simp [lettersFrom, h]
theorem l04Word_eq (s : ByteArray) (hs : s.size ≤ 4611686018427387900) (k : Nat) (hk : s.size < k) : spec_l04Word.f k s = some (wordOk s) := by
  unfold spec_l04Word.f wordOk
  exact l04Word_l0 s hs s.size 0 k (by omega) hk
theorem isWord_l0 (s : ByteArray) (hs : s.size ≤ 4611686018427387900) : ∀ (d i k : Nat), i + d = s.size → d < k → impl_IsWord.l0 k s (s.size : Int) (i : Int) = some (lettersFrom s d i && decide (1 ≤ (s.size : Int) ∧ (s.size : Int) ≤ 12)) := by
  intro d
  induction d with
  | zero =>
    intro i k hi hk
    obtain ⟨k, rfl⟩ : ∃ m, k = m + 1 := ⟨k - 1, by omega⟩
    simp only [impl_IsWord.l0]
    rw [if_neg (by omega), within_eq]
    simp [lettersFrom]
  | succ d ih =>
    intro i k hi hk
    obtain ⟨k, rfl⟩ : ∃ m, k = m + 1 := ⟨k - 1, by omega⟩
    simp only [impl_IsWord.l0]
    rw [if_pos (by omega), if_pos (by omega), if_pos (by omega), isLetter_eq, Option.bind_some, wrap_nat i (by omega), ih (i + 1) k (by omega) (by omega)]
    by_cases h : letter (bt s (i : Int)) = true <;> simp [lettersFrom, h]
theorem isWord_eq (s : ByteArray) (hs : s.size ≤ 4611686018427387900) (k : Nat) (hk : s.size < k) : impl_IsWord.f k s = some (wordOk s) := by
  unfold impl_IsWord.f wordOk
  exact isWord_l0 s hs s.size 0 k (by omega) hk
theorem wordOk_size (s : ByteArray) (h : wordOk s = true) : 1 ≤ s.size ∧ s.size ≤ 12 := by
  simp only [wordOk, Bool.and_eq_true, decide_eq_true_eq] at h
  omega
def habitOk (t a b : Int) : Bool :=
  if t = 0 ∨ t = 3 then decide (a = 0) && decide (b = 0) else if t = 1 then letter a && letter b && decide (a ≠ b) else if t = 2 ∨ t = 4 then letter a && decide (b = 0) else false
theorem l04Habit_eq (t a b : Int) (k : Nat) (hk : 0 < k) : spec_l04Habit.f k t a b = some (habitOk t a b) := by
  obtain ⟨k, rfl⟩ : ∃ m, k = m + 1 := ⟨k - 1, by omega⟩
  unfold spec_l04Habit.f habitOk
  simp only [spec_l04Habit.j0, l04Letter_eq, Option.bind_some]
  by_cases h0 : t = 0
  · subst h0
    by_cases ha : a = 0 <;> simp [ha] <;> rfl
  · by_cases h3 : t = 3
    · subst h3
      by_cases ha : a = 0 <;> simp [ha] <;> rfl
    · by_cases h1 : t = 1
      · subst h1
        by_cases la : letter a = true <;> by_cases lb : letter b = true <;> simp [la, lb] <;> rfl
      · by_cases h2 : t = 2
        · subst h2
          by_cases la : letter a = true <;> simp [la] <;> rfl
        · by_cases h4 : t = 4
          · subst h4
            by_cases la : letter a = true <;> simp [la] <;> rfl
          · simp [h0, h1, h2, h3, h4]
theorem validHabit_eq (t a b : Int) : impl_ValidHabit.f t a b = some (habitOk t a b) := by
  unfold impl_ValidHabit.f habitOk
  simp only [isLetter_eq, Option.bind_some]
  by_cases h0 : t = 0
  · subst h0
    by_cases ha : a = 0 <;> simp [ha] <;> rfl
  · by_cases h3 : t = 3
    · subst h3
      by_cases ha : a = 0 <;> simp [ha] <;> rfl
    · by_cases h1 : t = 1
      · subst h1
        by_cases la : letter a = true <;> by_cases lb : letter b = true <;> simp [la, lb] <;> rfl
      · by_cases h2 : t = 2
        · subst h2
          by_cases la : letter a = true <;> simp [la] <;> rfl
        · by_cases h4 : t = 4
          · subst h4
            by_cases la : letter a = true <;> simp [la] <;> rfl
          · simp [h0, h1, h2, h3, h4]

theorem repl_one (a b : UInt8) : ∀ s : List UInt8, Go.Lib.replaceK [a] [b] (Go.Lib.count s [a]) s = s.map (fun c => if c = a then b else c)
  | [] => by
    have : Go.Lib.count [] [a] = 0 := by rw [Go.Lib.count_one]; rfl
    rw [this]; rfl
  | x :: l => by
    have ih := repl_one a b l
    by_cases e : x = a
    · subst e
      have hi : Go.Lib.index (x :: l) [x] = ((0 : Nat) : Int) := by
        unfold Go.Lib.index
        rw [if_pos (by simp)]
        rfl
      rw [Go.Lib.count_cons_eq, Nat.add_comm 1, Go.Lib.replaceK_hit _ _ _ _ 0 hi]
      simp only [List.take_zero, List.nil_append, List.length_cons, List.length_nil, Nat.zero_add, List.drop_one, List.tail_cons, List.map_cons]
      rw [ih, if_pos trivial]
      rfl
    · rw [Go.Lib.count_cons_ne x a l e]
      cases hk : Go.Lib.count l [a] with
      | zero =>
        rw [hk] at ih
        simp only [Go.Lib.replaceK] at ih ⊢
        rw [List.map_cons, if_neg e, ← ih]
      | succ k =>
        rw [hk] at ih
        obtain ⟨i, hi⟩ := Go.Lib.index_of_count (s := l) (old := [a]) (by omega)
        have hx : Go.Lib.index (x :: l) [a] = ((i + 1 : Nat) : Int) := by
          unfold Go.Lib.index
          rw [if_neg (by simp [List.isPrefixOf, Ne.symm e]), hi, if_neg (by simp)]
          omega
        rw [Go.Lib.replaceK_hit _ _ _ _ _ hx, List.map_cons, if_neg e, ← ih, Go.Lib.replaceK_hit _ _ _ _ _ hi]
        simp
theorem replAll_one (a b : UInt8) (s : List UInt8) : Go.Lib.replaceAll s [a] [b] = s.map (fun c => if c = a then b else c) := by
  unfold Go.Lib.replaceAll Go.Lib.replace Go.Lib.replaceNum
  by_cases e : a = b
  · subst e
    rw [if_pos (by simp)]
    have : (fun c : UInt8 => if c = a then a else c) = id := by funext c; by_cases h : c = a <;> simp [h]
    rw [this, List.map_id]
  · rw [if_neg (by simp [e]), if_pos (Or.inl (by decide)), repl_one]
theorem swap_bytes (A B : Int) (hA : 0 ≤ A ∧ A ≤ 255) (hB : 0 ≤ B ∧ B ≤ 255) (w : ByteArray) :
    (⟨(Go.Lib.replaceAll w.data.toList (strOfNums [A]).data.toList (strOfNums [B]).data.toList).toArray⟩ : ByteArray) = strOfNums ((bytesOf w).map (Go.Proofs.YtnfemoncclpkcaaDoor.H.swap1 A B)) := by
  have e1 : (strOfNums [A]).data.toList = [UInt8.ofNat A.toNat] := rfl
  have e2 : (strOfNums [B]).data.toList = [UInt8.ofNat B.toNat] := rfl
  rw [e1, e2, replAll_one]
  unfold strOfNums bytesOf
  rw [List.map_map, List.map_map]
  congr 2
  apply List.map_congr_left
  intro c _
  simp only [Function.comp, Go.Proofs.YtnfemoncclpkcaaDoor.H.swap1]
  have hc : ((c.toNat : Int) = A) ↔ c = UInt8.ofNat A.toNat := by
    constructor
    · intro h
      rw [← h]; simp
    · intro h
      rw [h, UInt8.toNat_ofNat']
      omega
  by_cases h : (c.toNat : Int) = A
  · rw [if_pos h, if_pos (hc.1 h)]
  · rw [if_neg h, if_neg (fun z => h (hc.2 z))]
    simp
def dropB (A : Int) (w : ByteArray) : ByteArray :=
  if Go.Lib.indexByte w.data.toList A.toNat.toUInt8 ≥ 0 then w.extract 0 (Go.Lib.indexByte w.data.toList A.toNat.toUInt8).toNat ++ w.extract ((Go.Lib.indexByte w.data.toList A.toNat.toUInt8).toNat + 1) w.size else w
def hearF (f A B : Int) (w : ByteArray) : ByteArray :=
  if f = 1 then strOfNums ((bytesOf w).map (Go.Proofs.YtnfemoncclpkcaaDoor.H.swap1 A B))
  else if f = 2 then (if w.size = 1 then w else dropB A w)
  else if f = 3 then (if w.size < 12 then w ++ w.extract (w.size - 1) w.size else w)
  else if f = 4 then (if bt w 0 = A then strOfNums (bytesOf w).reverse else w)
  else w
theorem bt_list (w : ByteArray) (i : Nat) (h : i < w.size) : bt w (i : Int) = ((w.data.toList.getD i 0).toNat : Int) := by
  have h2 : i < w.data.toList.length := by rw [data_length]; exact h
  rw [← rd_bytesOf, rd_nat, List.getD_eq_getElem?_getD, List.getD_eq_getElem?_getD, List.getElem?_eq_getElem (by rw [bytesOf_length]; exact h), List.getElem?_eq_getElem h2]
  simp [bytesOf]
theorem indexByte_lt : ∀ (l : List UInt8) (c : UInt8), Go.Lib.indexByte l c < (l.length : Int) ∨ l = []
  | [], _ => Or.inr rfl
  | b :: l, c => by
    left
    unfold Go.Lib.indexByte
    rcases indexByte_lt l c with h | h
    · split
      · simp only [List.length_cons]; omega
      · split
        · simp only [List.length_cons]; omega
        · simp only [List.length_cons]; omega
    · subst h
      split
      · simp
      · simp [Go.Lib.indexByte]
theorem indexByte_bound (w : ByteArray) (c : UInt8) (h : 0 ≤ Go.Lib.indexByte w.data.toList c) : Go.Lib.indexByte w.data.toList c < (w.size : Int) := by
  rcases indexByte_lt w.data.toList c with g | g
  · rw [data_length] at g; exact g
  · rw [g] at h; simp [Go.Lib.indexByte] at h
def dropAt (w : ByteArray) (i : Nat) (q : Int) : ByteArray := if q ≥ 0 then w.extract 0 (i + q.toNat) ++ w.extract (i + q.toNat + 1) w.size else w
theorem specDrop_l0 (w : ByteArray) (A : Int) (hA : 0 ≤ A ∧ A ≤ 255) (hw : w.size ≤ 1048576) : ∀ (d i k : Nat), i + d = w.size → d < k →
    spec_l04Drop.l0 k w A (i : Int) = some (dropAt w i (Go.Lib.indexByte (w.data.toList.drop i) A.toNat.toUInt8)) := by
  intro d
  induction d with
  | zero =>
    intro i k hi hk
    obtain ⟨k, rfl⟩ : ∃ m, k = m + 1 := ⟨k - 1, by omega⟩
    simp only [spec_l04Drop.l0]
    rw [if_neg (by omega), List.drop_eq_nil_of_le (by rw [data_length]; omega)]
    simp [Go.Lib.indexByte, dropAt]
  | succ d ih =>
    intro i k hi hk
    obtain ⟨k, rfl⟩ : ∃ m, k = m + 1 := ⟨k - 1, by omega⟩
    have hl : i < w.data.toList.length := by rw [data_length]; omega
    have hd := drop_getD (0 : UInt8) w.data.toList i hl
    have hb := bt_list w i (by omega)
    have hc : (bt w (i : Int) = A) ↔ (w.data.toList.getD i 0 == A.toNat.toUInt8) = true := by
      rw [hb, beq_iff_eq]
      generalize w.data.toList.getD i 0 = c
      constructor
      · intro h; rw [← h]; simp
      · intro h; rw [h]; simp; omega
    simp only [spec_l04Drop.l0]
    rw [if_pos (by omega), if_pos (by omega), hd, wrap_nat i (by omega)]
    simp only [Go.Lib.indexByte]
    by_cases e : bt w (i : Int) = A
    · rw [if_pos e, if_pos (hc.1 e), if_pos (by omega), if_pos (by omega), if_pos (by omega)]
      have hs : (w.extract 0 (i : Int).toNat).size + (w.extract ((i + 1 : Nat) : Int).toNat w.size).size ≤ 9223372036854775807 := by
        simp only [ByteArray.size_extract]; omega
      rw [if_pos hs]
      unfold dropAt
      rw [if_pos (by decide)]
      simp
    · rw [if_neg e, if_neg (fun z => e (hc.2 z)), ih (i + 1) k (by omega) (by omega)]
      generalize hq : Go.Lib.indexByte (w.data.toList.drop (i + 1)) A.toNat.toUInt8 = q
      have hge : -1 ≤ q := by rw [← hq]; exact Go.Lib.indexByte_ge _ _
      by_cases g : q = -1
      · subst g; rfl
      · have e1 : (q == -1) = false := beq_eq_false_iff_ne.2 g
        rw [e1, if_neg (by decide)]
        unfold dropAt
        rw [if_pos (show q ≥ 0 by omega), if_pos (show q + 1 ≥ 0 by omega)]
        rw [show i + 1 + q.toNat = i + (q + 1).toNat by omega]
theorem specDrop_eq (w : ByteArray) (A : Int) (hA : 0 ≤ A ∧ A ≤ 255) (hw : w.size ≤ 1048576) (k : Nat) (hk : w.size < k) : spec_l04Drop.f k w A = some (if w.size = 1 then w else dropB A w) := by
  unfold spec_l04Drop.f dropB
  by_cases h : w.size = 1
  · rw [if_pos (by omega), if_pos h]
  · rw [if_neg (by omega), if_neg h]
    have := specDrop_l0 w A hA hw w.size 0 k (by omega) hk
    rw [show ((0 : Nat) : Int) = 0 from rfl, List.drop_zero] at this
    rw [this]
    unfold dropAt
    simp only [Nat.zero_add]
theorem specTurn_l0 (w : ByteArray) (hw : w.size ≤ 1048576) : ∀ (j k : Nat) (xs : List Int), j ≤ w.size → j < k → xs.length + j ≤ 1048576 → spec_l04Turn.l0 k w xs ((j : Int) - 1) = some (strOfNums (xs ++ ((bytesOf w).take j).reverse)) := by
  intro j
  induction j with
  | zero =>
    intro k xs hj hk hx
    obtain ⟨k, rfl⟩ : ∃ m, k = m + 1 := ⟨k - 1, by omega⟩
    simp only [spec_l04Turn.l0]
    rw [if_neg (by omega)]
    simp
  | succ j ih =>
    intro k xs hj hk hx
    obtain ⟨k, rfl⟩ : ∃ m, k = m + 1 := ⟨k - 1, by omega⟩
    simp only [spec_l04Turn.l0]
    have e : (((j + 1 : Nat) : Int) - 1) = (j : Int) := by omega
    rw [e, if_pos (by omega), if_pos (by omega), if_pos (by omega), if_pos (by omega), wrap64_id _ (by omega) (by omega), ih k _ (by omega) (by omega) (by simp; omega)]
    have ht := take_getD 0 (bytesOf w) j (by rw [bytesOf_length]; omega)
    rw [ht, ← rd_nat, rd_bytesOf]
    simp
theorem specTurn_eq (w : ByteArray) (hw : w.size ≤ 524288) (k : Nat) (hk : w.size < k) : spec_l04Turn.f k w = some (strOfNums (bytesOf w).reverse) := by
  unfold spec_l04Turn.f
  rw [wrap64_id _ (by omega) (by omega), specTurn_l0 w (by omega) w.size k [] (by omega) hk (by simp; omega), List.take_of_length_le (by rw [bytesOf_length]; omega), List.nil_append]
theorem specHear_eq (f A B : Int) (hA : 0 ≤ A ∧ A ≤ 255) (w : ByteArray) (h1 : 1 ≤ w.size) (h2 : w.size ≤ 12) (k : Nat) (hk : 20 < k) : spec_l04Hear.f k f A B w = some (hearF f A B w) := by
  obtain ⟨k, rfl⟩ : ∃ m, k = m + 1 := ⟨k - 1, by omega⟩
  have hs : w.size + (w.extract (w.size - 1) w.size).size ≤ 9223372036854775807 := by simp only [ByteArray.size_extract]; omega
  have hsz : wrap64 ((w.size : Int) - 1) = (w.size : Int) - 1 := wrap64_id _ (by omega) (by omega)
  have hn : ((w.size : Int) - 1).toNat = w.size - 1 := by omega
  unfold spec_l04Hear.f hearF spec_l04Swap.f
  by_cases c1 : f = 1
  · rw [if_pos c1, if_pos c1, if_pos (by omega)]; rfl
  · rw [if_neg c1, if_neg c1]
    by_cases c2 : f = 2
    · rw [if_pos c2, if_pos c2, specDrop_eq w A hA (by omega) _ (by omega)]; rfl
    · rw [if_neg c2, if_neg c2]
      have hj : spec_l04Hear.j0 (k + 1) w false f A B = some (if f = 4 then (if bt w 0 = A then strOfNums (bytesOf w).reverse else w) else w) := by
        simp only [spec_l04Hear.j0]
        rw [if_neg (by decide)]
        by_cases c4 : f = 4
        · rw [if_pos c4, if_pos c4, if_pos (by omega)]
          by_cases c5 : bt w 0 = A
          · rw [if_pos c5, if_pos c5, specTurn_eq w (by omega) k (by omega)]; rfl
          · rw [if_neg c5, if_neg c5]
        · rw [if_neg c4, if_neg c4]
      by_cases c3 : f = 3
      · rw [if_pos c3, if_pos c3]
        by_cases c6 : w.size < 12
        · rw [if_pos c6, decide_eq_true (by omega)]
          simp only [spec_l04Hear.j0, hsz, hn]
          rw [if_pos trivial, if_pos (by omega), if_pos (by omega), if_pos hs]
        · rw [if_neg c6, decide_eq_false (by omega), hj, if_neg (by omega)]
      · rw [if_neg c3, if_neg c3, hj]
theorem implHear_eq (f A B m : Int) (hA : 0 ≤ A ∧ A ≤ 255) (hB : 0 ≤ B ∧ B ≤ 255) (w : ByteArray) (h1 : 1 ≤ w.size) (h2 : w.size ≤ 12) : impl_Habit_hear.f f A B w m = some (hearF f A B w) := by
  have hs : w.size + (w.extract (w.size - 1) w.size).size ≤ 9223372036854775807 := by simp only [ByteArray.size_extract]; omega
  have hsz : wrap64 ((w.size : Int) - 1) = (w.size : Int) - 1 := wrap64_id _ (by omega) (by omega)
  have hn : ((w.size : Int) - 1).toNat = w.size - 1 := by omega
  have s1 : ∀ x : Int, (strOfNums [x]).size = 1 := fun _ => rfl
  unfold impl_Habit_hear.f hearF
  by_cases c1 : f = 1
  · rw [if_pos c1, if_pos c1]
    unfold strings_ReplaceAll.f
    rw [if_pos (by omega), if_pos (s1 A), if_pos (by rw [s1 B]; omega), swap_bytes A B hA hB w]
    rfl
  · rw [if_neg c1, if_neg c1]
    by_cases c2 : f = 2
    · rw [if_pos c2, if_pos c2]
      unfold strings_IndexByte.f dropB
      rw [Option.bind_some]
      have hb := indexByte_bound w A.toNat.toUInt8
      generalize Go.Lib.indexByte w.data.toList A.toNat.toUInt8 = q at hb
      by_cases g : q ≥ 0
      · have hq := hb g
        rw [if_pos g, if_pos g]
        by_cases c : w.size = 1
        · rw [if_neg (by omega), if_pos c]
        · have hw1 : wrap64 (q + 1) = q + 1 := wrap64_id _ (by omega) (by omega)
          have hn2 : (q + 1).toNat = q.toNat + 1 := by omega
          have hs2 : (w.extract 0 q.toNat).size + (w.extract (q.toNat + 1) w.size).size ≤ 9223372036854775807 := by simp only [ByteArray.size_extract]; omega
          rw [hw1, hn2, if_pos (by omega), if_pos g, if_pos (by omega), if_pos (by omega), if_pos (by omega), if_pos hs2, if_neg c]
      · rw [if_neg g, if_neg g]
        by_cases c : w.size = 1
        · rw [if_pos c]
        · rw [if_neg c]
    · rw [if_neg c2, if_neg c2]
      by_cases c3 : f = 3
      · rw [if_pos c3, if_pos c3]
        by_cases c6 : w.size < 12
        · rw [if_pos c6, if_pos (by omega), hsz, hn, if_pos (by omega), if_pos (by omega), if_pos hs]
        · rw [if_neg c6, if_neg (by omega)]
      · rw [if_neg c3, if_neg c3]
        by_cases c4 : f = 4
        · rw [if_pos c4, if_pos c4, if_pos (by omega)]
          by_cases c5 : bt w 0 = A
          · rw [if_pos c5, if_pos c5]
            unfold impl_turned.f
            rw [if_pos (by omega)]
            rfl
          · rw [if_neg c5, if_neg c5]
        · rw [if_neg c4, if_neg c4]

theorem main : laws_FnExactHear.Pure := by
  intro f A B w m hf hA hB hw
  refine rounds_of 2000000 fun k hk => ?_
  have hA2 := wf_u8 hA
  have hB2 := wf_u8 hB
  unfold laws_FnExactHear.f
  by_cases h : (w.size : Int) > 1048576
  · rw [if_pos h]
  · rw [if_neg h]
    have hM : ∃ v : ByteArray × Int, spec_Hear.f k f A B w = some v ∧ impl_Hear.f k f A B w m = some v := by
      unfold spec_Hear.f impl_Hear.f
      rw [l04Habit_eq f A B k (by omega), validHabit_eq f A B]
      simp only [Option.bind_some]
      by_cases c : habitOk f A B = true
      · rw [if_pos c, if_pos c, l04Word_eq w (by omega) k (by omega), isWord_eq w (by omega) k (by omega)]
        simp only [Option.bind_some]
        by_cases d : wordOk w = true
        · have hs := wordOk_size w d
          rw [if_pos d, if_pos d, specHear_eq f A B hA2 w hs.1 hs.2 k (by omega), implHear_eq f A B m hA2 hB2 w hs.1 hs.2]
          exact ⟨_, rfl, rfl⟩
        · rw [if_neg d, if_neg d]; exact ⟨_, rfl, rfl⟩
      · rw [if_neg c, if_neg c]; exact ⟨_, rfl, rfl⟩
    obtain ⟨v, e1, e2⟩ := hM
    unfold laws_toHabit.f
    simp only [Option.bind_some]
    rw [e1, e2]
    simp

end Go.Proofs.YtnfemoncclpkcaaDoor.PureFnExactHear
namespace Go.Proofs.YtnfemoncclpkcaaDoor.Pure
theorem FnExactHear : Go.Proofs.YtnfemoncclpkcaaDoor.P.laws_FnExactHear.Pure := Go.Proofs.YtnfemoncclpkcaaDoor.PureFnExactHear.main
end Go.Proofs.YtnfemoncclpkcaaDoor.Pure
