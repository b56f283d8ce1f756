/- What is passed on without changes comes as it was, each of the first words makes what was heard, rounds come again, habits are read from their texts: the law FnWhispers answers true at every two lists of bytes; no condition. -/
import Derived.Test.YtobickehjnogjaaGreatDoorP18
import Derived.Laws.BitsLemmas
import Derived.Lib.SplitLaws
import Derived.Sort.Walk0
namespace Go.Proofs.YtobickehjnogjaaGreatDoor.PureFnWhispers
open Go.RowKit Go.Proofs.YtobickehjnogjaaGreatDoor.P Go.Proofs.YtobickehjnogjaaGreatDoorW.PrintWords Go.Proofs.YtobickehjnogjaaGreatDoorW.PrintLast
set_option linter.unusedSimpArgs false
set_option linter.unusedVariables false

theorem wrap64_id (x : Int) (h0 : -9223372036854775808 ≤ x) (h1 : x ≤ 9223372036854775807) : wrap64 x = x := by unfold wrap64; omega
theorem wrap_nat (n : Nat) (h : n < 4611686018427387904) : wrap64 ((n : Int) + 1) = ((n + 1 : Nat) : Int) := by
 rw [wrap64_id _ (by omega) (by omega)]; omega
theorem rd_nat (l : List Int) (i : Nat) : rd l (i : Int) = l.getD i 0 := by simp [rd]
theorem drop_rd (l : List Int) (i : Nat) (h : i < l.length) : l.drop i = rd l (i : Int) :: l.drop (i + 1) := by
 rw [List.drop_eq_getElem_cons h, rd_nat, List.getD_eq_getElem?_getD, List.getElem?_eq_getElem h]; rfl
theorem drop_getD {α : Type} (z : α) (l : List α) (i : Nat) (h : i < l.length) : l.drop i = l.getD i z :: l.drop (i + 1) := by
 rw [List.drop_eq_getElem_cons h, List.getD_eq_getElem?_getD, List.getElem?_eq_getElem h]; rfl
theorem take_getD {α : Type} (z : α) (l : List α) (i : Nat) (h : i < l.length) : l.take (i + 1) = l.take i ++ [l.getD i z] := by
 rw [List.take_succ_eq_append_getElem h, List.getD_eq_getElem?_getD, List.getElem?_eq_getElem h]; rfl
theorem rounds_of (B : Nat) {α : Type} {F : Nat → Option α} {v : α} (h : ∀ k, B ≤ k → F k = some v) : ∃ k, F k = some v := ⟨B, h B (Nat.le_refl _)⟩

theorem wrap_u64 (n : Int) : IntKind.u64.wrap n = n % 18446744073709551616 := by simp [IntKind.wrap, IntKind.bits, IntKind.signed]
theorem wrap_u64_id (n : Int) (h0 : 0 ≤ n) (h1 : n < 18446744073709551616) : IntKind.u64.wrap n = n := by rw [wrap_u64]; omega
theorem wf_u8 {a : Int} (h : (Lit.int .u8 a).wf = true) : 0 ≤ a ∧ a ≤ 255 := by
 simp [Lit.wf, IntKind.min, IntKind.max, IntKind.bits, IntKind.signed] at h
 omega
def letter (c : Int) : Bool := decide (97 ≤ c ∧ c ≤ 122)
theorem l04Letter_eq (c : Int) : spec_l04Letter.f c = some (letter c) := by
 unfold spec_l04Letter.f letter
 by_cases h : 97 ≤ c
 ·rw [if_pos (by omega)]; simp [h]
 ·rw [if_neg (by omega)]; simp [h]
theorem isLetter_eq (c : Int) : impl_isLetter.f c = some (letter c) := by
 unfold impl_isLetter.f letter
 by_cases h : 97 ≤ c
 ·rw [if_pos (by omega)]; simp [h]
 ·rw [if_neg (by omega)]; simp [h]
theorem in_eq (a b c : Int) : spec_l00In.f a b c = some (decide (b ≤ a ∧ a ≤ c)) := by
 unfold spec_l00In.f
 by_cases h : b ≤ a
 ·rw [if_pos (by omega)]; simp [h]
 ·rw [if_neg (by omega)]; simp [h]
theorem within_eq (a b c : Int) : impl_within.f a b c = some (decide (b ≤ a ∧ a ≤ c)) := by
 unfold impl_within.f
 by_cases h : b ≤ a
 ·rw [if_pos (by omega)]; simp [h]
 ·rw [if_neg (by omega)]; simp [h]
def lettersFrom (s : ByteArray) : Nat → Nat → Bool
 | 0, _ => true
 | d + 1, i => letter (bt s (i : Int)) && lettersFrom s d (i + 1)
def wordOk (s : ByteArray) : Bool := lettersFrom s s.size 0 && decide (1 ≤ (s.size : Int) ∧ (s.size : Int) ≤ 12)
theorem l04Word_l0 (s : ByteArray) (hs : s.size ≤ 4611686018427387900) : ∀ (d i k : Nat), i + d = s.size → d < k → spec_l04Word.l0 k s (i : Int) = some (lettersFrom s d i && decide (1 ≤ (s.size : Int) ∧ (s.size : Int) ≤ 12)) := by
 intro d
 induction d with
 | zero =>
  intro i k hi hk
  obtain ⟨k, rfl⟩ : ∃ m, k = m + 1 := ⟨k - 1, by omega⟩
  simp only [spec_l04Word.l0]
  rw [if_neg (by omega), in_eq]
  simp [lettersFrom]
 | succ d ih =>
  intro i k hi hk
  obtain ⟨k, rfl⟩ : ∃ m, k = m + 1 := ⟨k - 1, by omega⟩
  simp only [spec_l04Word.l0]
  rw [if_pos (by omega), if_pos (by omega), l04Letter_eq, Option.bind_some, wrap_nat i (by omega), ih (i + 1) k (by omega) (by omega)]
  by_cases h : letter (bt s (i : Int)) = true <;> simp [lettersFrom, h]
theorem l04Word_eq (s : ByteArray) (hs : s.size ≤ 4611686018427387900) (k : Nat) (hk : s.size < k) : spec_l04Word.f k s = some (wordOk s) := by
 unfold spec_l04Word.f wordOk
 exact l04Word_l0 s hs s.size 0 k (by omega) hk
theorem isWord_l0 (s : ByteArray) (hs : s.size ≤ 4611686018427387900) : ∀ (d i k : Nat), i + d = s.size → d < k → impl_IsWord.l0 k s (s.size : Int) (i : Int) = some (lettersFrom s d i && decide (1 ≤ (s.size : Int) ∧ (s.size : Int) ≤ 12)) := by
 intro d
 induction d with
 | zero =>
  intro i k hi hk
  obtain ⟨k, rfl⟩ : ∃ m, k = m + 1 := ⟨k - 1, by omega⟩
  simp only [impl_IsWord.l0]
  rw [if_neg (by omega), within_eq]
  simp [lettersFrom]
 | succ d ih =>
  intro i k hi hk
  obtain ⟨k, rfl⟩ : ∃ m, k = m + 1 := ⟨k - 1, by omega⟩
  simp only [impl_IsWord.l0]
  rw [if_pos (by omega), if_pos (by omega), if_pos (by omega), isLetter_eq, Option.bind_some, wrap_nat i (by omega), ih (i + 1) k (by omega) (by omega)]
  by_cases h : letter (bt s (i : Int)) = true <;> simp [lettersFrom, h]
theorem isWord_eq (s : ByteArray) (hs : s.size ≤ 4611686018427387900) (k : Nat) (hk : s.size < k) : impl_IsWord.f k s = some (wordOk s) := by
 unfold impl_IsWord.f wordOk
 exact isWord_l0 s hs s.size 0 k (by omega) hk
theorem wordOk_size (s : ByteArray) (h : wordOk s = true) : 1 ≤ s.size ∧ s.size ≤ 12 := by
 simp only [wordOk, Bool.and_eq_true, decide_eq_true_eq] at h
 omega
theorem lettersFrom_get (s : ByteArray) : ∀ (d i j : Nat), lettersFrom s d i = true → i ≤ j → j < i + d → letter (bt s (j : Int)) = true
 | 0, i, j, _, h1, h2 => by omega
 | d + 1, i, j, h, h1, h2 => by
  simp only [lettersFrom, Bool.and_eq_true] at h
  by_cases e : j = i
  ·subst e; exact h.1
  ·exact lettersFrom_get s d (i + 1) j h.2 (by omega) (by omega)
theorem wordOk_get (s : ByteArray) (h : wordOk s = true) (j : Nat) (hj : j < s.size) : 97 ≤ bt s (j : Int) ∧ bt s (j : Int) ≤ 122 := by
 simp only [wordOk, Bool.and_eq_true] at h
 have := lettersFrom_get s s.size 0 j h.1 (by omega) (by omega)
 simpa [letter] using this

def habitOk (t a b : Int) : Bool :=
 if t = 0 ∨ t = 3 then decide (a = 0) && decide (b = 0) else if t = 1 then letter a && letter b && decide (a ≠ b) else if t = 2 ∨ t = 4 then letter a && decide (b = 0) else false
theorem l04Habit_eq (t a b : Int) (k : Nat) (hk : 0 < k) : spec_l04Habit.f k t a b = some (habitOk t a b) := by
 obtain ⟨k, rfl⟩ : ∃ m, k = m + 1 := ⟨k - 1, by omega⟩
 unfold spec_l04Habit.f habitOk
 simp only [spec_l04Habit.j0, l04Letter_eq, Option.bind_some]
 by_cases h0 : t = 0
 ·subst h0
  by_cases ha : a = 0 <;> simp [ha] <;> rfl
 ·by_cases h3 : t = 3
  ·subst h3
   by_cases ha : a = 0 <;> simp [ha] <;> rfl
  ·by_cases h1 : t = 1
   ·subst h1
    by_cases la : letter a = true <;> by_cases lb : letter b = true <;> simp [la, lb] <;> rfl
   ·by_cases h2 : t = 2
    ·subst h2
     by_cases la : letter a = true <;> simp [la] <;> rfl
    ·by_cases h4 : t = 4
     ·subst h4
      by_cases la : letter a = true <;> simp [la] <;> rfl
     ·simp [h0, h1, h2, h3, h4]
theorem validHabit_eq (t a b : Int) : impl_ValidHabit.f t a b = some (habitOk t a b) := by
 unfold impl_ValidHabit.f habitOk
 simp only [isLetter_eq, Option.bind_some]
 by_cases h0 : t = 0
 ·subst h0
  by_cases ha : a = 0 <;> simp [ha] <;> rfl
 ·by_cases h3 : t = 3
  ·subst h3
   by_cases ha : a = 0 <;> simp [ha] <;> rfl
  ·by_cases h1 : t = 1
   ·subst h1
    by_cases la : letter a = true <;> by_cases lb : letter b = true <;> simp [la, lb] <;> rfl
   ·by_cases h2 : t = 2
    ·subst h2
     by_cases la : letter a = true <;> simp [la] <;> rfl
    ·by_cases h4 : t = 4
     ·subst h4
      by_cases la : letter a = true <;> simp [la] <;> rfl
     ·simp [h0, h1, h2, h3, h4]

theorem repl_one (a b : UInt8) : ∀ s : List UInt8, Go.Lib.replaceK [a] [b] (Go.Lib.count s [a]) s = s.map (fun c => if c = a then b else c)
 | [] => by
  have : Go.Lib.count [] [a] = 0 := by rw [Go.Lib.count_one]; rfl
  rw [this]; rfl
 | x :: l => by
  have ih := repl_one a b l
  by_cases e : x = a
  ·subst e
   have hi : Go.Lib.index (x :: l) [x] = ((0 : Nat) : Int) := by
    unfold Go.Lib.index
    rw [if_pos (by simp)]
    rfl
   rw [Go.Lib.count_cons_eq, Nat.add_comm 1, Go.Lib.replaceK_hit _ _ _ _ 0 hi]
   simp only [List.take_zero, List.nil_append, List.length_cons, List.length_nil, Nat.zero_add, List.drop_one, List.tail_cons, List.map_cons]
   rw [ih, if_pos trivial]
   rfl
  ·rw [Go.Lib.count_cons_ne x a l e]
   cases hk : Go.Lib.count l [a] with
   | zero =>
    rw [hk] at ih
    simp only [Go.Lib.replaceK] at ih ⊢
    rw [List.map_cons, if_neg e, ← ih]
   | succ k =>
    rw [hk] at ih
    obtain ⟨i, hi⟩ := Go.Lib.index_of_count (s := l) (old := [a]) (by omega)
    have hx : Go.Lib.index (x :: l) [a] = ((i + 1 : Nat) : Int) := by
     unfold Go.Lib.index
     rw [if_neg (by simp [List.isPrefixOf, Ne.symm e]), hi, if_neg (by simp)]
     omega
    rw [Go.Lib.replaceK_hit _ _ _ _ _ hx, List.map_cons, if_neg e, ← ih, Go.Lib.replaceK_hit _ _ _ _ _ hi]
    simp
theorem replAll_one (a b : UInt8) (s : List UInt8) : Go.Lib.replaceAll s [a] [b] = s.map (fun c => if c = a then b else c) := by
 unfold Go.Lib.replaceAll Go.Lib.replace Go.Lib.replaceNum
 by_cases e : a = b
 ·subst e
  rw [if_pos (by simp)]
  have : (fun c : UInt8 => if c = a then a else c) = id := by funext c; by_cases h : c = a <;> simp [h]
  rw [this, List.map_id]
 ·rw [if_neg (by simp [e]), if_pos (Or.inl (by decide)), repl_one]
theorem swap_bytes (A B : Int) (hA : 0 ≤ A ∧ A ≤ 255) (hB : 0 ≤ B ∧ B ≤ 255) (w : ByteArray) :
  (⟨(Go.Lib.replaceAll w.data.toList (strOfNums [A]).data.toList (strOfNums [B]).data.toList).toArray⟩ : ByteArray) = strOfNums ((bytesOf w).map (Go.Proofs.YtobickehjnogjaaGreatDoor.H.swap1 A B)) := by
 have e1 : (strOfNums [A]).data.toList = [UInt8.ofNat A.toNat] := rfl
 have e2 : (strOfNums [B]).data.toList = [UInt8.ofNat B.toNat] := rfl
 rw [e1, e2, replAll_one]
 unfold strOfNums bytesOf
 rw [List.map_map, List.map_map]
 congr 2
 apply List.map_congr_left
 intro c _
 simp only [Function.comp, Go.Proofs.YtobickehjnogjaaGreatDoor.H.swap1]
 have hc : ((c.toNat : Int) = A) ↔ c = UInt8.ofNat A.toNat := by
  constructor
  ·intro h
   rw [← h]; simp
  ·intro h
   rw [h, UInt8.toNat_ofNat']
   omega
 by_cases h : (c.toNat : Int) = A
 ·rw [if_pos h, if_pos (hc.1 h)]
 ·rw [if_neg h, if_neg (fun z => h (hc.2 z))]
  simp
def dropB (A : Int) (w : ByteArray) : ByteArray :=
 if Go.Lib.indexByte w.data.toList A.toNat.toUInt8 ≥ 0 then w.extract 0 (Go.Lib.indexByte w.data.toList A.toNat.toUInt8).toNat ++ w.extract ((Go.Lib.indexByte w.data.toList A.toNat.toUInt8).toNat + 1) w.size else w
def hearF (f A B : Int) (w : ByteArray) : ByteArray :=
 if f = 1 then strOfNums ((bytesOf w).map (Go.Proofs.YtobickehjnogjaaGreatDoor.H.swap1 A B))
 else if f = 2 then (if w.size = 1 then w else dropB A w)
 else if f = 3 then (if w.size < 12 then w ++ w.extract (w.size - 1) w.size else w)
 else if f = 4 then (if bt w 0 = A then strOfNums (bytesOf w).reverse else w)
 else w
theorem bt_list (w : ByteArray) (i : Nat) (h : i < w.size) : bt w (i : Int) = ((w.data.toList.getD i 0).toNat : Int) := by
 have h2 : i < w.data.toList.length := by rw [data_length]; exact h
 rw [← rd_bytesOf, rd_nat, List.getD_eq_getElem?_getD, List.getD_eq_getElem?_getD, List.getElem?_eq_getElem (by rw [bytesOf_length]; exact h), List.getElem?_eq_getElem h2]
 simp [bytesOf]
theorem indexByte_lt : ∀ (l : List UInt8) (c : UInt8), Go.Lib.indexByte l c < (l.length : Int) ∨ l = []
 | [], _ => Or.inr rfl
 | b :: l, c => by
  left
  unfold Go.Lib.indexByte
  rcases indexByte_lt l c with h | h
  ·split
   ·simp only [List.length_cons]; omega
   ·split
    ·simp only [List.length_cons]; omega
    ·simp only [List.length_cons]; omega
  ·subst h
   split
   ·simp
   ·simp [Go.Lib.indexByte]
theorem indexByte_bound (w : ByteArray) (c : UInt8) (h : 0 ≤ Go.Lib.indexByte w.data.toList c) : Go.Lib.indexByte w.data.toList c < (w.size : Int) := by
 rcases indexByte_lt w.data.toList c with g | g
 ·rw [data_length] at g; exact g
 ·rw [g] at h; simp [Go.Lib.indexByte] at h
def dropAt (w : ByteArray) (i : Nat) (q : Int) : ByteArray := if q ≥ 0 then w.extract 0 (i + q.toNat) ++ w.extract (i + q.toNat + 1) w.size else w
theorem specDrop_l0 (w : ByteArray) (A : Int) (hA : 0 ≤ A ∧ A ≤ 255) (hw : w.size ≤ 1048576) : ∀ (d i k : Nat), i + d = w.size → d < k →
  spec_l04Drop.l0 k w A (i : Int) = some (dropAt w i (Go.Lib.indexByte (w.data.toList.drop i) A.toNat.toUInt8)) := by
 intro d
 induction d with
 | zero =>
  intro i k hi hk
  obtain ⟨k, rfl⟩ : ∃ m, k = m + 1 := ⟨k - 1, by omega⟩
  simp only [spec_l04Drop.l0]
  rw [if_neg (by omega), List.drop_eq_nil_of_le (by rw [data_length]; omega)]
  simp [Go.Lib.indexByte, dropAt]
 | succ d ih =>
  intro i k hi hk
  obtain ⟨k, rfl⟩ : ∃ m, k = m + 1 := ⟨k - 1, by omega⟩
  have hl : i < w.data.toList.length := by rw [data_length]; omega
  have hd := drop_getD (0 : UInt8) w.data.toList i hl
  have hb := bt_list w i (by omega)
  have hc : (bt w (i : Int) = A) ↔ (w.data.toList.getD i 0 == A.toNat.toUInt8) = true := by
   rw [hb, beq_iff_eq]
   generalize w.data.toList.getD i 0 = c
   constructor
   ·intro h; rw [← h]; simp
   ·intro h; rw [h]; simp; omega
  simp only [spec_l04Drop.l0]
  rw [if_pos (by omega), if_pos (by omega), hd, wrap_nat i (by omega)]
  simp only [Go.Lib.indexByte]
  by_cases e : bt w (i : Int) = A
  ·rw [if_pos e, if_pos (hc.1 e), if_pos (by omega), if_pos (by omega), if_pos (by omega)]
   have hs : (w.extract 0 (i : Int).toNat).size + (w.extract ((i + 1 : Nat) : Int).toNat w.size).size ≤ 9223372036854775807 := by
    simp only [ByteArray.size_extract]; omega
   rw [if_pos hs]
   unfold dropAt
   rw [if_pos (by decide)]
   simp
  ·rw [if_neg e, if_neg (fun z => e (hc.2 z)), ih (i + 1) k (by omega) (by omega)]
   generalize hq : Go.Lib.indexByte (w.data.toList.drop (i + 1)) A.toNat.toUInt8 = q
   have hge : -1 ≤ q := by rw [← hq]; exact Go.Lib.indexByte_ge _ _
   by_cases g : q = -1
   ·subst g; rfl
   ·have e1 : (q == -1) = false := beq_eq_false_iff_ne.2 g
    rw [e1, if_neg (by decide)]
    unfold dropAt
    rw [if_pos (show q ≥ 0 by omega), if_pos (show q + 1 ≥ 0 by omega)]
    rw [show i + 1 + q.toNat = i + (q + 1).toNat by omega]
theorem specDrop_eq (w : ByteArray) (A : Int) (hA : 0 ≤ A ∧ A ≤ 255) (hw : w.size ≤ 1048576) (k : Nat) (hk : w.size < k) : spec_l04Drop.f k w A = some (if w.size = 1 then w else dropB A w) := by
 unfold spec_l04Drop.f dropB
 by_cases h : w.size = 1
 ·rw [if_pos (by omega), if_pos h]
 ·rw [if_neg (by omega), if_neg h]
  have := specDrop_l0 w A hA hw w.size 0 k (by omega) hk
  rw [show ((0 : Nat) : Int) = 0 from rfl, List.drop_zero] at this
  rw [this]
  unfold dropAt
  simp only [Nat.zero_add]
theorem specTurn_l0 (w : ByteArray) (hw : w.size ≤ 1048576) : ∀ (j k : Nat) (xs : List Int), j ≤ w.size → j < k → xs.length + j ≤ 1048576 → spec_l04Turn.l0 k w xs ((j : Int) - 1) = some (strOfNums (xs ++ ((bytesOf w).take j).reverse)) := by
 intro j
 induction j with
 | zero =>
  intro k xs hj hk hx
  obtain ⟨k, rfl⟩ : ∃ m, k = m + 1 := ⟨k - 1, by omega⟩
  simp only [spec_l04Turn.l0]
  rw [if_neg (by omega)]
  simp
 | succ j ih =>
  intro k xs hj hk hx
  obtain ⟨k, rfl⟩ : ∃ m, k = m + 1 := ⟨k - 1, by omega⟩
  simp only [spec_l04Turn.l0]
  have e : (((j + 1 : Nat) : Int) - 1) = (j : Int) := by omega
  rw [e, if_pos (by omega), if_pos (by omega), if_pos (by omega), if_pos (by omega), wrap64_id _ (by omega) (by omega), ih k _ (by omega) (by omega) (by simp; omega)]
  have ht := take_getD 0 (bytesOf w) j (by rw [bytesOf_length]; omega)
  rw [ht, ← rd_nat, rd_bytesOf]
  simp
theorem specTurn_eq (w : ByteArray) (hw : w.size ≤ 524288) (k : Nat) (hk : w.size < k) : spec_l04Turn.f k w = some (strOfNums (bytesOf w).reverse) := by
 unfold spec_l04Turn.f
 rw [wrap64_id _ (by omega) (by omega), specTurn_l0 w (by omega) w.size k [] (by omega) hk (by simp; omega), List.take_of_length_le (by rw [bytesOf_length]; omega), List.nil_append]
theorem specHear_eq (f A B : Int) (hA : 0 ≤ A ∧ A ≤ 255) (w : ByteArray) (h1 : 1 ≤ w.size) (h2 : w.size ≤ 12) (k : Nat) (hk : 20 < k) : spec_l04Hear.f k f A B w = some (hearF f A B w) := by
 obtain ⟨k, rfl⟩ : ∃ m, k = m + 1 := ⟨k - 1, by omega⟩
 have hs : w.size + (w.extract (w.size - 1) w.size).size ≤ 9223372036854775807 := by simp only [ByteArray.size_extract]; omega
 have hsz : wrap64 ((w.size : Int) - 1) = (w.size : Int) - 1 := wrap64_id _ (by omega) (by omega)
 have hn : ((w.size : Int) - 1).toNat = w.size - 1 := by omega
 unfold spec_l04Hear.f hearF spec_l04Swap.f
 by_cases c1 : f = 1
 ·rw [if_pos c1, if_pos c1, if_pos (by omega)]; rfl
 ·rw [if_neg c1, if_neg c1]
  by_cases c2 : f = 2
  ·rw [if_pos c2, if_pos c2, specDrop_eq w A hA (by omega) _ (by omega)]; rfl
  ·rw [if_neg c2, if_neg c2]
   have hj : spec_l04Hear.j0 (k + 1) w false f A B = some (if f = 4 then (if bt w 0 = A then strOfNums (bytesOf w).reverse else w) else w) := by
    simp only [spec_l04Hear.j0]
    rw [if_neg (by decide)]
    by_cases c4 : f = 4
    ·rw [if_pos c4, if_pos c4, if_pos (by omega)]
     by_cases c5 : bt w 0 = A
     ·rw [if_pos c5, if_pos c5, specTurn_eq w (by omega) k (by omega)]; rfl
     ·rw [if_neg c5, if_neg c5]
    ·rw [if_neg c4, if_neg c4]
   by_cases c3 : f = 3
   ·rw [if_pos c3, if_pos c3]
    by_cases c6 : w.size < 12
    ·rw [if_pos c6, decide_eq_true (by omega)]
     simp only [spec_l04Hear.j0, hsz, hn]
     rw [if_pos trivial, if_pos (by omega), if_pos (by omega), if_pos hs]
    ·rw [if_neg c6, decide_eq_false (by omega), hj, if_neg (by omega)]
   ·rw [if_neg c3, if_neg c3, hj]
theorem implHear_eq (f A B m : Int) (hA : 0 ≤ A ∧ A ≤ 255) (hB : 0 ≤ B ∧ B ≤ 255) (w : ByteArray) (h1 : 1 ≤ w.size) (h2 : w.size ≤ 12) : impl_Habit_hear.f f A B w m = some (hearF f A B w) := by
 have hs : w.size + (w.extract (w.size - 1) w.size).size ≤ 9223372036854775807 := by simp only [ByteArray.size_extract]; omega
 have hsz : wrap64 ((w.size : Int) - 1) = (w.size : Int) - 1 := wrap64_id _ (by omega) (by omega)
 have hn : ((w.size : Int) - 1).toNat = w.size - 1 := by omega
 have s1 : ∀ x : Int, (strOfNums [x]).size = 1 := fun _ => rfl
 unfold impl_Habit_hear.f hearF
 by_cases c1 : f = 1
 ·rw [if_pos c1, if_pos c1]
  unfold strings_ReplaceAll.f
  rw [if_pos (by omega), if_pos (s1 A), if_pos (by rw [s1 B]; omega), swap_bytes A B hA hB w]
  rfl
 ·rw [if_neg c1, if_neg c1]
  by_cases c2 : f = 2
  ·rw [if_pos c2, if_pos c2]
   unfold strings_IndexByte.f dropB
   rw [Option.bind_some]
   have hb := indexByte_bound w A.toNat.toUInt8
   generalize Go.Lib.indexByte w.data.toList A.toNat.toUInt8 = q at hb
   by_cases g : q ≥ 0
   ·have hq := hb g
    rw [if_pos g, if_pos g]
    by_cases c : w.size = 1
    ·rw [if_neg (by omega), if_pos c]
    ·have hw1 : wrap64 (q + 1) = q + 1 := wrap64_id _ (by omega) (by omega)
     have hn2 : (q + 1).toNat = q.toNat + 1 := by omega
     have hs2 : (w.extract 0 q.toNat).size + (w.extract (q.toNat + 1) w.size).size ≤ 9223372036854775807 := by simp only [ByteArray.size_extract]; omega
     rw [hw1, hn2, if_pos (by omega), if_pos g, if_pos (by omega), if_pos (by omega), if_pos (by omega), if_pos hs2, if_neg c]
   ·rw [if_neg g, if_neg g]
    by_cases c : w.size = 1
    ·rw [if_pos c]
    ·rw [if_neg c]
  ·rw [if_neg c2, if_neg c2]
   by_cases c3 : f = 3
   ·rw [if_pos c3, if_pos c3]
    by_cases c6 : w.size < 12
    ·rw [if_pos c6, if_pos (by omega), hsz, hn, if_pos (by omega), if_pos (by omega), if_pos hs]
    ·rw [if_neg c6, if_neg (by omega)]
   ·rw [if_neg c3, if_neg c3]
    by_cases c4 : f = 4
    ·rw [if_pos c4, if_pos c4, if_pos (by omega)]
     by_cases c5 : bt w 0 = A
     ·rw [if_pos c5, if_pos c5]
      unfold impl_turned.f
      rw [if_pos (by omega)]
      rfl
     ·rw [if_neg c5, if_neg c5]
    ·rw [if_neg c4, if_neg c4]

theorem wordOk_iff (w : ByteArray) : wordOk w = true ↔ (1 ≤ w.size ∧ w.size ≤ 12) ∧ ∀ x ∈ bytesOf w, letter x = true := by
 constructor
 ·intro h
  refine ⟨wordOk_size w h, fun x hx => ?_⟩
  obtain ⟨j, hj, rfl⟩ := List.mem_iff_getElem.1 hx
  have hj' : j < w.size := by rwa [bytesOf_length] at hj
  have h2 := wordOk_get w h j hj'
  rw [← rd_bytesOf, rd_nat, List.getD_eq_getElem?_getD, List.getElem?_eq_getElem hj] at h2
  simpa [letter] using h2
 ·intro ⟨hs, hl⟩
  have hf : ∀ d i, i + d = w.size → lettersFrom w d i = true := by
   intro d
   induction d with
   | zero => intro i _; rfl
   | succ d ih =>
    intro i hi
    unfold lettersFrom
    rw [Bool.and_eq_true]
    refine ⟨?_, ih (i + 1) (by omega)⟩
    have hj : i < (bytesOf w).length := by rw [bytesOf_length]; omega
    have := hl _ (List.getElem_mem hj)
    rw [← rd_bytesOf, rd_nat, List.getD_eq_getElem?_getD, List.getElem?_eq_getElem hj]
    exact this
  unfold wordOk
  rw [hf w.size 0 (by omega), Bool.true_and]
  exact decide_eq_true (by omega)
theorem bytesOf_strOfNums (xs : List Int) (h : ∀ x ∈ xs, 0 ≤ x ∧ x ≤ 255) : bytesOf (strOfNums xs) = xs := by
 apply List.ext_getElem?
 intro j
 unfold bytesOf strOfNums
 simp only [List.toList_toArray, List.map_map, List.getElem?_map]
 cases hq : xs[j]? with
 | none => rfl
 | some x =>
  have hx := h x (List.mem_of_getElem? hq)
  obtain ⟨n, rfl⟩ := Int.eq_ofNat_of_zero_le hx.1
  simp
  omega
theorem bytesOf_append (a b : ByteArray) : bytesOf (a ++ b) = bytesOf a ++ bytesOf b := by
 unfold bytesOf
 simp
theorem mem_extract (w : ByteArray) (i j : Nat) (x : Int) (h : x ∈ bytesOf (w.extract i j)) : x ∈ bytesOf w := by
 unfold bytesOf at h ⊢
 obtain ⟨b, hb, rfl⟩ := List.mem_map.1 h
 refine List.mem_map.2 ⟨b, ?_, rfl⟩
 rw [ByteArray.data_extract, Array.toList_extract] at hb
 exact List.mem_of_mem_drop (List.mem_of_mem_take hb)
theorem hearF_word (f A B : Int) (hk : habitOk f A B = true) (w : ByteArray) (h : wordOk w = true) (hok : 1 ≤ (hearF f A B w).size ∧ (hearF f A B w).size ≤ 12) : wordOk (hearF f A B w) = true := by
 have hb := ((wordOk_iff w).1 h).2
 rw [wordOk_iff]
 refine ⟨hok, ?_⟩
 have hr : ∀ x ∈ bytesOf w, 0 ≤ x ∧ x ≤ 255 := fun x hx => by
  have := hb x hx
  simp only [letter, decide_eq_true_eq] at this
  omega
 unfold hearF
 by_cases f1 : f = 1
 ·rw [if_pos f1]
  have hB : letter B = true := by
   subst f1
   unfold habitOk at hk
   rw [if_neg (by decide), if_pos rfl, Bool.and_eq_true, Bool.and_eq_true] at hk
   exact hk.1.2
  have hall : ∀ y ∈ (bytesOf w).map (Go.Proofs.YtobickehjnogjaaGreatDoor.H.swap1 A B), letter y = true := by
   intro y hy
   obtain ⟨x, hx, rfl⟩ := List.mem_map.1 hy
   unfold Go.Proofs.YtobickehjnogjaaGreatDoor.H.swap1
   by_cases e : x = A
   ·rw [if_pos e]; exact hB
   ·rw [if_neg e]; exact hb x hx
  rw [bytesOf_strOfNums _ (fun y hy => by
   have := hall y hy
   simp only [letter, decide_eq_true_eq] at this
   omega)]
  exact hall
 ·rw [if_neg f1]
  by_cases f2 : f = 2
  ·rw [if_pos f2]
   by_cases s1 : w.size = 1
   ·rw [if_pos s1]; exact hb
   ·rw [if_neg s1]
    unfold dropB
    split
    ·intro x hx
     rw [bytesOf_append, List.mem_append] at hx
     rcases hx with hx | hx
     ·exact hb x (mem_extract _ _ _ _ hx)
     ·exact hb x (mem_extract _ _ _ _ hx)
    ·exact hb
  ·rw [if_neg f2]
   by_cases f3 : f = 3
   ·rw [if_pos f3]
    split
    ·intro x hx
     rw [bytesOf_append, List.mem_append] at hx
     rcases hx with hx | hx
     ·exact hb x hx
     ·exact hb x (mem_extract _ _ _ _ hx)
    ·exact hb
   ·rw [if_neg f3]
    by_cases f4 : f = 4
    ·rw [if_pos f4]
     split
     ·rw [bytesOf_strOfNums _ (fun y hy => hr y (List.mem_reverse.1 hy))]
      exact fun x hx => hb x (List.mem_reverse.1 hx)
     ·exact hb
    ·rw [if_neg f4]; exact hb

theorem rdS_nat (l : List ByteArray) (i : Nat) : rdOf ByteArray.empty l (i : Int) = l.getD i ByteArray.empty := by simp [rdOf]
theorem drop_rdS (l : List ByteArray) (i : Nat) (h : i < l.length) : l.drop i = rdOf ByteArray.empty l (i : Int) :: l.drop (i + 1) := by
 rw [drop_getD ByteArray.empty l i h, rdS_nat]
theorem toList_inj (a b : ByteArray) : a.toList = b.toList ↔ a = b := by
 constructor
 ·intro h
  rw [ByteArray.toList_eq, ByteArray.toList_eq] at h
  have h2 : a.data.toList = b.data.toList := h
  cases a; cases b
  simp at h2
  rw [h2]
 ·intro h; rw [h]
def habitsOk (l : List S40) : Bool := l.all (fun h => habitOk h.f0 h.f1 h.f2)
def wordsOk (l : List ByteArray) : Bool := l.all wordOk
theorem drop_hab (l : List S40) (i : Nat) (h : i < l.length) : l.drop i = rd_T40 l (i : Int) :: l.drop (i + 1) := by
 rw [drop_getD z40 l i h]; simp [rd_T40]
def codeA (hs : List S40) (ws : List ByteArray) : Int :=
 if habitsOk hs = true ∧ wordsOk ws = true then if hs.length ≤ 30 then if ws.length ≤ 40 then 0 else 3 else 3 else 1
theorem asked_l1 (hs : List S40) (ws : List ByteArray) (hw : ws.length ≤ 2097152) (hb : ∀ s ∈ ws, s.size ≤ 2097152) : ∀ (d i k : Nat), i + d = ws.length → d + 2097152 < k → spec_l04Asked.l1 k hs ws (i : Int) = some (if wordsOk (ws.drop i) = true then if hs.length ≤ 30 then if ws.length ≤ 40 then 0 else 3 else 3 else 1) := by
 intro d
 induction d with
 | zero =>
  intro i k hi hk
  obtain ⟨k, rfl⟩ : ∃ m, k = m + 1 := ⟨k - 1, by omega⟩
  simp only [spec_l04Asked.l1]
  rw [if_neg (by omega), List.drop_eq_nil_of_le (by omega), show wordsOk [] = true from rfl, if_pos rfl]
  by_cases h1 : hs.length ≤ 30
  ·by_cases h2 : ws.length ≤ 40
   ·rw [if_neg (by omega), if_neg (by omega), if_pos h1, if_pos h2]
   ·rw [if_neg (by omega), if_pos (by omega), if_pos h1, if_neg h2]
  ·rw [if_pos (by omega), if_neg h1]
 | succ d ih =>
  intro i k hi hk
  obtain ⟨k, rfl⟩ : ∃ m, k = m + 1 := ⟨k - 1, by omega⟩
  have hm : rdOf ByteArray.empty ws (i : Int) ∈ ws := by
   rw [rdS_nat, List.getD_eq_getElem?_getD, List.getElem?_eq_getElem (by omega)]
   exact List.getElem_mem _
  have hsz := hb _ hm
  simp only [spec_l04Asked.l1]
  rw [if_pos (by omega), if_pos (by omega), l04Word_eq _ (by omega) k (by omega), Option.bind_some, wrap_nat i (by omega), ih (i + 1) k (by omega) (by omega), drop_rdS ws i (by omega)]
  by_cases h : wordOk (rdOf ByteArray.empty ws (i : Int)) = true <;> simp [wordsOk, h]
theorem asked_l0 (hs : List S40) (ws : List ByteArray) (hh : hs.length ≤ 1048576) (hw : ws.length ≤ 2097152) (hb : ∀ s ∈ ws, s.size ≤ 2097152) : ∀ (d i k : Nat), i + d = hs.length → d + 4194310 < k → spec_l04Asked.l0 k hs ws (i : Int) = some (if habitsOk (hs.drop i) = true ∧ wordsOk ws = true then if hs.length ≤ 30 then if ws.length ≤ 40 then 0 else 3 else 3 else 1) := by
 intro d
 induction d with
 | zero =>
  intro i k hi hk
  obtain ⟨k, rfl⟩ : ∃ m, k = m + 1 := ⟨k - 1, by omega⟩
  have h := asked_l1 hs ws hw hb ws.length 0 k (by omega) (by omega)
  rw [show ((0 : Nat) : Int) = 0 from rfl, List.drop_zero] at h
  simp only [spec_l04Asked.l0]
  rw [if_neg (by omega), List.drop_eq_nil_of_le (by omega), h]
  simp [habitsOk]
 | succ d ih =>
  intro i k hi hk
  obtain ⟨k, rfl⟩ : ∃ m, k = m + 1 := ⟨k - 1, by omega⟩
  simp only [spec_l04Asked.l0]
  rw [if_pos (by omega), if_pos (by omega), l04Habit_eq _ _ _ k (by omega), Option.bind_some, wrap_nat i (by omega), ih (i + 1) k (by omega) (by omega), drop_hab hs i (by omega)]
  by_cases h : habitOk (rd_T40 hs (i : Int)).f0 (rd_T40 hs (i : Int)).f1 (rd_T40 hs (i : Int)).f2 = true <;> simp [habitsOk, h]
theorem asked_eq (hs : List S40) (ws : List ByteArray) (hh : hs.length ≤ 1048576) (hw : ws.length ≤ 2097152) (hb : ∀ s ∈ ws, s.size ≤ 2097152) (k : Nat) (hk : 5242890 < k) : spec_l04Asked.f k hs ws = some (codeA hs ws) := by
 unfold spec_l04Asked.f codeA
 have h := asked_l0 hs ws hh hw hb hs.length 0 k (by omega) (by omega)
 rw [show ((0 : Nat) : Int) = 0 from rfl, List.drop_zero] at h
 exact h
theorem findH_l0 (l : List S40) (hl : l.length ≤ 1048576) : ∀ (d i k : Nat), i + d = l.length → d < k → ∃ r : Int, slices_IndexFunc_Habit_at_chainCode_1.l0 k l (l.length : Int) (i : Int) = some r ∧ decide (r ≥ 0) = !habitsOk (l.drop i) := by
 intro d
 induction d with
 | zero =>
  intro i k hi hk
  obtain ⟨k, rfl⟩ : ∃ m, k = m + 1 := ⟨k - 1, by omega⟩
  refine ⟨-1, ?_, ?_⟩
  ·simp only [slices_IndexFunc_Habit_at_chainCode_1.l0]
   rw [if_neg (by omega)]
  ·rw [List.drop_eq_nil_of_le (by omega)]; simp [habitsOk]
 | succ d ih =>
  intro i k hi hk
  obtain ⟨k, rfl⟩ : ∃ m, k = m + 1 := ⟨k - 1, by omega⟩
  simp only [slices_IndexFunc_Habit_at_chainCode_1.l0, impl_chainCode_1.f]
  rw [if_pos (by omega), if_pos (by omega), if_pos (by omega), validHabit_eq, Option.bind_some, Option.bind_some, drop_hab l i (by omega), wrap_nat i (by omega)]
  by_cases h : habitOk (rd_T40 l (i : Int)).f0 (rd_T40 l (i : Int)).f1 (rd_T40 l (i : Int)).f2 = true
  ·obtain ⟨r, h1, h2⟩ := ih (i + 1) k (by omega) (by omega)
   refine ⟨r, by rw [if_neg (by simp [h])]; exact h1, ?_⟩
   rw [h2]; simp [habitsOk, h]
  ·refine ⟨(i : Int), by rw [if_pos (by simpa using h)], ?_⟩
   simp only [habitsOk, List.all_cons, Bool.eq_false_iff.2 h, Bool.false_and, Bool.not_false]
   exact decide_eq_true (by omega)
theorem findW_l0 (l : List ByteArray) (hl : l.length ≤ 2097153) (hb : ∀ s ∈ l, s.size ≤ 2097152) : ∀ (d i k : Nat), i + d = l.length → d + 2097152 < k → ∃ r : Int, slices_IndexFunc_Sstring_string_at_chainCode_2.l0 k l (l.length : Int) (i : Int) = some r ∧ decide (r ≥ 0) = !wordsOk (l.drop i) := by
 intro d
 induction d with
 | zero =>
  intro i k hi hk
  obtain ⟨k, rfl⟩ : ∃ m, k = m + 1 := ⟨k - 1, by omega⟩
  refine ⟨-1, ?_, ?_⟩
  ·simp only [slices_IndexFunc_Sstring_string_at_chainCode_2.l0]
   rw [if_neg (by omega)]
  ·rw [List.drop_eq_nil_of_le (by omega)]; simp [wordsOk]
 | succ d ih =>
  intro i k hi hk
  obtain ⟨k, rfl⟩ : ∃ m, k = m + 1 := ⟨k - 1, by omega⟩
  have hm : rdOf ByteArray.empty l (i : Int) ∈ l := by
   rw [rdS_nat, List.getD_eq_getElem?_getD, List.getElem?_eq_getElem (by omega)]
   exact List.getElem_mem _
  have hsz := hb _ hm
  simp only [slices_IndexFunc_Sstring_string_at_chainCode_2.l0, impl_chainCode_2.f]
  rw [if_pos (by omega), if_pos (by omega), if_pos (by omega), isWord_eq _ (by omega) k (by omega), Option.bind_some, Option.bind_some, drop_rdS l i (by omega), wrap_nat i (by omega)]
  by_cases h : wordOk (rdOf ByteArray.empty l (i : Int)) = true
  ·obtain ⟨r, h1, h2⟩ := ih (i + 1) k (by omega) (by omega)
   refine ⟨r, by rw [if_neg (by simp [h])]; exact h1, ?_⟩
   rw [h2]; simp [wordsOk, h]
  ·refine ⟨(i : Int), by rw [if_pos (by simpa using h)], ?_⟩
   simp only [wordsOk, List.all_cons, Bool.eq_false_iff.2 h, Bool.false_and, Bool.not_false]
   exact decide_eq_true (by omega)
def codeH (hs : List S40) (ws : List ByteArray) : Int :=
 if habitsOk hs = true ∧ wordsOk ws = true then if hs.length ≤ 30 then 0 else 3 else 1
theorem chainCode_eq (hs : List S40) (ws : List ByteArray) (hh : hs.length ≤ 1048576) (hw : ws.length ≤ 2097153) (hb : ∀ s ∈ ws, s.size ≤ 2097152) (k : Nat) (hk : 5242890 < k) : impl_chainCode.f k hs ws = some (codeH hs ws) := by
 unfold impl_chainCode.f codeH slices_ContainsFunc_Habit_at_chainCode_1.f slices_IndexFunc_Habit_at_chainCode_1.f slices_ContainsFunc_Sstring_string_at_chainCode_2.f slices_IndexFunc_Sstring_string_at_chainCode_2.f impl_unless.f
 obtain ⟨r, h1, h2⟩ := findH_l0 hs hh hs.length 0 k (by omega) (by omega)
 obtain ⟨q, g1, g2⟩ := findW_l0 ws hw hb ws.length 0 k (by omega) (by omega)
 rw [show ((0 : Nat) : Int) = 0 from rfl] at h1 g1
 rw [List.drop_zero] at h2 g2
 simp only [h1, g1, Option.bind_some, h2, g2]
 by_cases e1 : habitsOk hs = true <;> by_cases e2 : wordsOk ws = true <;> by_cases e3 : hs.length ≤ 30
 all_goals first
  | (have e4 : (hs.length : Int) ≤ 30 := (by omega); simp [e1, e2, e3, e4])
  | (have e4 : ¬ (hs.length : Int) ≤ 30 := (by omega); simp [e1, e2, e3, e4])
instance decHabit : DecidableEq S40 := fun x y =>
 if h : x.f0 = y.f0 ∧ x.f1 = y.f1 ∧ x.f2 = y.f2 then isTrue (by obtain ⟨a, b, c⟩ := x; obtain ⟨a', b', c'⟩ := y; simp only at h; rw [h.1, h.2.1, h.2.2]) else isFalse (fun e => h (by rw [e]; exact ⟨rfl, rfl, rfl⟩))
def habR (h : S40) : Prop := (0 ≤ h.f1 ∧ h.f1 ≤ 255) ∧ (0 ≤ h.f2 ∧ h.f2 ≤ 255)
theorem mem_hab (s : List S40) (i : Nat) (h : i < s.length) : rd_T40 s (i : Int) ∈ s := by
 have h2 : rd_T40 s (i : Int) = s.getD i z40 := by simp [rd_T40]
 rw [h2, List.getD_eq_getElem?_getD, List.getElem?_eq_getElem h]
 exact List.getElem_mem _
def hearH (h : S40) (w : ByteArray) : ByteArray := hearF h.f0 h.f1 h.f2 w
def okW (w : ByteArray) : Prop := 1 ≤ w.size ∧ w.size ≤ 12
theorem hearF_ok (f A B : Int) (w : ByteArray) (h : okW w) : okW (hearF f A B w) := by
 unfold okW at h ⊢
 unfold hearF
 split
 ·rw [strOfNums_size, List.length_map, bytesOf_length]; exact h
 ·split
  ·split
   ·exact h
   ·unfold dropB
    split
    ·rename_i h2 hq
     have hb := indexByte_bound w A.toNat.toUInt8 hq
     simp only [ByteArray.size_append, ByteArray.size_extract]
     omega
    ·exact h
  ·split
   ·split
    ·simp only [ByteArray.size_append, ByteArray.size_extract]
     omega
    ·exact h
   ·split
    ·split
     ·rw [strOfNums_size, List.length_reverse, bytesOf_length]; exact h
     ·exact h
    ·exact h
def passF (hs : List S40) (w : ByteArray) : ByteArray := hs.foldl (fun w h => hearH h w) w
def saidF : List S40 → ByteArray → List ByteArray
 | [], _ => []
 | h :: r, w => hearH h w :: saidF r (hearH h w)
theorem saidF_length : ∀ (hs : List S40) (w : ByteArray), (saidF hs w).length = hs.length
 | [], _ => rfl
 | h :: r, w => by simp [saidF, saidF_length r]
theorem saidF_last : ∀ (hs : List S40) (w : ByteArray), (w :: saidF hs w).getD hs.length ByteArray.empty = passF hs w
 | [], w => rfl
 | h :: r, w => by
  have := saidF_last r (hearH h w)
  simp only [saidF, List.length_cons, passF, List.foldl_cons]
  exact this
theorem specPass_l0 (hs : List S40) (hl : hs.length ≤ 1048576) (hr : ∀ h ∈ hs, habR h) : ∀ (d i k : Nat) (w : ByteArray), i + d = hs.length → d + 30 < k → okW w → spec_l04Pass.l0 k hs w (i : Int) = some (passF (hs.drop i) w) := by
 intro d
 induction d with
 | zero =>
  intro i k w hi hk hw
  obtain ⟨k, rfl⟩ : ∃ m, k = m + 1 := ⟨k - 1, by omega⟩
  simp only [spec_l04Pass.l0]
  rw [if_neg (by omega), List.drop_eq_nil_of_le (by omega)]
  rfl
 | succ d ih =>
  intro i k w hi hk hw
  obtain ⟨k, rfl⟩ : ∃ m, k = m + 1 := ⟨k - 1, by omega⟩
  have hh := hr _ (mem_hab hs i (by omega))
  simp only [spec_l04Pass.l0]
  rw [if_pos (by omega), if_pos (by omega), specHear_eq _ _ _ hh.1 w hw.1 hw.2 k (by omega), Option.bind_some, wrap_nat i (by omega), ih (i + 1) k _ (by omega) (by omega) (hearF_ok _ _ _ w hw), drop_hab hs i (by omega)]
  rfl
theorem specPass_eq (hs : List S40) (hl : hs.length ≤ 1048576) (hr : ∀ h ∈ hs, habR h) (w : ByteArray) (hw : okW w) (k : Nat) (hk : hs.length + 30 < k) : spec_l04Pass.f k hs w = some (passF hs w) := by
 unfold spec_l04Pass.f
 have := specPass_l0 hs hl hr hs.length 0 k w (by omega) hk hw
 rw [show ((0 : Nat) : Int) = 0 from rfl, List.drop_zero] at this
 exact this
theorem specSaid_l0 (hs : List S40) (hl : hs.length ≤ 1048576) (hr : ∀ h ∈ hs, habR h) : ∀ (d i k : Nat) (w : ByteArray) (xs : List ByteArray), i + d = hs.length → d + 30 < k → okW w → xs.length ≤ i + 1 → spec_l04Said.l0 k hs w xs (i : Int) = some (xs ++ saidF (hs.drop i) w) := by
 intro d
 induction d with
 | zero =>
  intro i k w xs hi hk hw hx
  obtain ⟨k, rfl⟩ : ∃ m, k = m + 1 := ⟨k - 1, by omega⟩
  simp only [spec_l04Said.l0]
  rw [if_neg (by omega), List.drop_eq_nil_of_le (by omega)]
  simp [saidF]
 | succ d ih =>
  intro i k w xs hi hk hw hx
  obtain ⟨k, rfl⟩ : ∃ m, k = m + 1 := ⟨k - 1, by omega⟩
  have hh := hr _ (mem_hab hs i (by omega))
  simp only [spec_l04Said.l0]
  rw [if_pos (by omega), if_pos (by omega), specHear_eq _ _ _ hh.1 w hw.1 hw.2 k (by omega), Option.bind_some, if_pos (by omega), wrap_nat i (by omega), ih (i + 1) k _ _ (by omega) (by omega) (hearF_ok _ _ _ w hw) (by simp; omega), drop_hab hs i (by omega)]
  simp [saidF, hearH]
theorem specSaid_eq (hs : List S40) (hl : hs.length ≤ 1048576) (hr : ∀ h ∈ hs, habR h) (w : ByteArray) (hw : okW w) (k : Nat) (hk : hs.length + 30 < k) : spec_l04Said.f k hs w = some (w :: saidF hs w) := by
 unfold spec_l04Said.f
 have := specSaid_l0 hs hl hr hs.length 0 k w [w] (by omega) hk hw (by simp)
 rw [show ((0 : Nat) : Int) = 0 from rfl, List.drop_zero] at this
 exact this
theorem implHeard_l0 (hs : List S40) (m : Int) (hl : hs.length ≤ 1048576) (hr : ∀ h ∈ hs, habR h) : ∀ (d i k : Nat) (w : ByteArray) (xs : List ByteArray), i + d = hs.length → d < k → okW w → xs.length ≤ i + 1 → impl_heard.l0 k w xs hs (hs.length : Int) (i : Int) m = some (xs ++ saidF (hs.drop i) w) := by
 intro d
 induction d with
 | zero =>
  intro i k w xs hi hk hw hx
  obtain ⟨k, rfl⟩ : ∃ m, k = m + 1 := ⟨k - 1, by omega⟩
  simp only [impl_heard.l0]
  rw [if_neg (by omega), List.drop_eq_nil_of_le (by omega)]
  simp [saidF]
 | succ d ih =>
  intro i k w xs hi hk hw hx
  obtain ⟨k, rfl⟩ : ∃ m, k = m + 1 := ⟨k - 1, by omega⟩
  have hh := hr _ (mem_hab hs i (by omega))
  simp only [impl_heard.l0]
  rw [if_pos (by omega), if_pos (by omega), if_pos (by omega), implHear_eq _ _ _ m hh.1 hh.2 w hw.1 hw.2, Option.bind_some, if_pos (by omega), wrap_nat i (by omega), ih (i + 1) k _ _ (by omega) (by omega) (hearF_ok _ _ _ w hw) (by simp; omega), drop_hab hs i (by omega)]
  simp [saidF, hearH]
theorem implHeard_eq (hs : List S40) (m : Int) (hl : hs.length ≤ 1048576) (hr : ∀ h ∈ hs, habR h) (w : ByteArray) (hw : okW w) (k : Nat) (hk : hs.length < k) : impl_heard.f k hs w m = some (w :: saidF hs w) := by
 unfold impl_heard.f
 have := implHeard_l0 hs m hl hr hs.length 0 k w [w] (by omega) hk hw (by simp)
 rw [show ((0 : Nat) : Int) = 0 from rfl, List.drop_zero] at this
 exact this
theorem implPassed_eq (hs : List S40) (m : Int) (hl : hs.length ≤ 1048576) (hr : ∀ h ∈ hs, habR h) (w : ByteArray) (hw : okW w) (k : Nat) (hk : hs.length < k) : impl_passed.f k hs w m = some (passF hs w) := by
 unfold impl_passed.f
 rw [implHeard_eq hs m hl hr w hw k hk, Option.bind_some, if_pos (by omega), if_pos (by simp [saidF_length]; omega), rdS_nat, saidF_last]
theorem codeA_one (hs : List S40) (w : ByteArray) : codeA hs [w] = codeH hs [w] := by
 unfold codeA codeH
 by_cases a : habitsOk hs = true ∧ wordsOk [w] = true
 ·rw [if_pos a, if_pos a]
  by_cases b : hs.length ≤ 30
  ·rw [if_pos b, if_pos b, if_pos (by simp)]
  ·rw [if_neg b, if_neg b]
 ·rw [if_neg a, if_neg a]
theorem codeH_facts (hs : List S40) (ws : List ByteArray) (h : codeH hs ws = 0) : hs.length ≤ 30 ∧ ∀ w ∈ ws, okW w := by
 unfold codeH at h
 by_cases a : habitsOk hs = true ∧ wordsOk ws = true
 ·rw [if_pos a] at h
  by_cases b : hs.length ≤ 30
  ·exact ⟨b, fun w hw => wordOk_size w (List.all_eq_true.1 a.2 w hw)⟩
  ·rw [if_neg b] at h; exact absurd h (by decide)
 ·rw [if_neg a] at h; exact absurd h (by decide)

def srcOk (c : List Int) : Prop := c.length ≤ 4096 ∧ ∀ x ∈ c, 0 ≤ x ∧ x ≤ 255
theorem and64_255 (x : Int) (h0 : 0 ≤ x) (h1 : x < 18446744073709551616) : Go.bits .and .u64 x 255 = x % 256 := by
 have := Go.bits_mask .u64 64 (by decide) (fun n a b => wrap_u64_id n a (by simpa using b)) 8 (by decide) x h0 (by omega)
 simpa using this
theorem wrap_u64_range (x : Int) : 0 ≤ IntKind.u64.wrap x ∧ IntKind.u64.wrap x < 18446744073709551616 := by
 rw [wrap_u64]
 omega
theorem next_eq (c : List Int) (hc : srcOk c) (a s : Int) (ha : 0 ≤ a ∧ a ≤ 1000000) : ∃ v s', spec_l00Src_next.f c a s = some (v, a + 1, s') ∧ 0 ≤ v ∧ v ≤ 255 := by
 have hw : wrap64 (a + 1) = a + 1 := wrap64_id _ (by omega) (by omega)
 have hb : ∀ X : Int, 0 ≤ wrap64 (Go.bits .and .u64 (IntKind.u64.wrap X / 1099511627776) 255) ∧ wrap64 (Go.bits .and .u64 (IntKind.u64.wrap X / 1099511627776) 255) ≤ 255 := by
  intro X
  have h := wrap_u64_range X
  rw [and64_255 _ (by omega) (by omega), wrap64_id _ (by omega) (by omega)]
  omega
 unfold spec_l00Src_next.f
 rw [hw]
 by_cases h1 : a < (c.length : Int)
 ·rw [if_pos h1, if_pos ha.1]
  have hr : 0 ≤ rd c a ∧ rd c a ≤ 255 := by
   obtain ⟨i, rfl⟩ := Int.eq_ofNat_of_zero_le ha.1
   rw [rd_nat, List.getD_eq_getElem?_getD, List.getElem?_eq_getElem (by omega)]
   exact hc.2 _ (List.getElem_mem _)
  by_cases h2 : a + 1 ≤ (c.length : Int)
  ·rw [if_pos h2, wrap64_id (rd c a) (by omega) (by omega)]
   exact ⟨_, _, rfl, hr.1, hr.2⟩
  ·rw [if_neg h2]
   exact ⟨_, _, rfl, hb _⟩
 ·rw [if_neg h1]
  by_cases h2 : a + 1 ≤ (c.length : Int)
  ·rw [if_pos h2]
   exact ⟨_, _, rfl, by decide, by decide⟩
  ·rw [if_neg h2]
   exact ⟨_, _, rfl, hb _⟩
theorem pick_eq (c : List Int) (hc : srcOk c) (a s n : Int) (ha : 0 ≤ a ∧ a ≤ 1000000) (hn : 2 ≤ n ∧ n ≤ 200) : ∃ v s', spec_l00Src_pick.f c a s n = some (v, a + 1, s') ∧ 0 ≤ v ∧ v ≤ n - 1 := by
 obtain ⟨v, s', e, h0, h1⟩ := next_eq c hc a s ha
 unfold spec_l00Src_pick.f
 rw [if_neg (by omega), e]
 simp only [Option.bind_some]
 rw [if_neg (by omega), if_neg (by omega), Int.tmod_eq_emod_of_nonneg h0]
 exact ⟨_, _, rfl, Int.emod_nonneg _ (by omega), by have := Int.emod_lt_of_pos v (show 0 < n by omega); omega⟩
theorem i8_id (n : Int) (h : 0 ≤ n ∧ n ≤ 100) : IntKind.i8.wrap n = n := by
 simp [IntKind.wrap, IntKind.bits, IntKind.signed]
 omega
theorem way_eq (c : List Int) (hc : srcOk c) (a s : Int) (ha : 0 ≤ a ∧ a ≤ 900000) (k : Nat) (hk : 2 ≤ k) : ∃ f A B a' s', spec_l04Way.f k c a s = some (f, A, B, a', s') ∧ habitOk f A B = true ∧ (0 ≤ A ∧ A ≤ 255) ∧ (0 ≤ B ∧ B ≤ 255) ∧ a ≤ a' ∧ a' ≤ a + 3 := by
 obtain ⟨k, rfl⟩ : ∃ m, k = m + 1 := ⟨k - 1, by omega⟩
 obtain ⟨v, s1, e1, v0, v1⟩ := pick_eq c hc a s 5 (by omega) (by decide)
 obtain ⟨p, s2, e2, p0, p1⟩ := pick_eq c hc (a + 1) s1 3 (by omega) (by decide)
 obtain ⟨q, s3, e3, q0, q1⟩ := pick_eq c hc (a + 1 + 1) s2 2 (by omega) (by decide)
 have hA : (wrap64 (97 + p)) % 256 = 97 + p := by rw [wrap64_id _ (by omega) (by omega)]; omega
 have l1 : letter (97 + p) = true := decide_eq_true (by omega)
 unfold spec_l04Way.f
 rw [e1]
 simp only [Option.bind_some]
 rw [i8_id v (by omega)]
 simp only [spec_l04Way.j0]
 by_cases c1 : v = 1
 ·subst c1
  rw [if_pos rfl, if_pos trivial, e2]
  simp only [Option.bind_some]
  rw [if_pos trivial, e3]
  simp only [Option.bind_some]
  have a1 : (97 + p - 97) % 256 = p := by omega
  have a2 : (p + 1) % 256 = p + 1 := by omega
  have a3 : q % 256 = q := by omega
  have a4 : (p + 1 + q) % 256 = p + 1 + q := by omega
  rw [hA, a1, a2, a3, a4]
  refine ⟨_, _, _, _, _, rfl, ?_, by omega, by omega, by omega, by omega⟩
  have l2 : letter (97 + (p + 1 + q) % 3) = true := decide_eq_true (by omega)
  unfold habitOk
  rw [if_neg (by decide), if_pos rfl, l1, l2, Bool.true_and, Bool.true_and]
  exact decide_eq_true (by omega)
 ·rw [if_neg c1]
  by_cases c2 : v = 2
  ·subst c2
   rw [if_pos rfl, if_pos trivial, e2]
   simp only [Option.bind_some]
   rw [if_neg (by decide), hA]
   refine ⟨_, _, _, _, _, rfl, ?_, by omega, by omega, by omega, by omega⟩
   unfold habitOk
   rw [if_neg (by decide), if_neg (by decide), if_pos (by decide), l1]
   rfl
  ·rw [if_neg c2]
   by_cases c4 : v = 4
   ·subst c4
    rw [if_pos (by decide), e2]
    simp only [Option.bind_some]
    rw [if_neg (by decide), hA]
    refine ⟨_, _, _, _, _, rfl, ?_, by omega, by omega, by omega, by omega⟩
    unfold habitOk
    rw [if_neg (by decide), if_neg (by decide), if_pos (by decide), l1]
    rfl
   ·rw [if_neg (by simpa using c4), if_neg c1]
    refine ⟨_, _, _, _, _, rfl, ?_, by decide, by decide, by omega, by omega⟩
    unfold habitOk
    rw [if_pos (by omega)]
    rfl
theorem drawn_l0 (c : List Int) (hc : srcOk c) (L : Nat) (hL : L ≤ 12) : ∀ (d i k : Nat) (xs : List Int) (a s : Int), i + d = L → d < k → xs.length = i → 0 ≤ a → a + d ≤ 1000000 → (∀ x ∈ xs, 97 ≤ x ∧ x ≤ 122) → ∃ ys s', spec_l04Drawn.l0 k (L : Int) xs c a s = some (strOfNums ys, a + d, s') ∧ ys.length = L ∧ ∀ x ∈ ys, 97 ≤ x ∧ x ≤ 122 := by
 intro d
 induction d with
 | zero =>
  intro i k xs a s hi hk hx h0 h1 hb
  obtain ⟨k, rfl⟩ : ∃ m, k = m + 1 := ⟨k - 1, by omega⟩
  simp only [spec_l04Drawn.l0]
  rw [if_neg (by omega)]
  exact ⟨xs, s, by simp, by omega, hb⟩
 | succ d ih =>
  intro i k xs a s hi hk hx h0 h1 hb
  obtain ⟨k, rfl⟩ : ∃ m, k = m + 1 := ⟨k - 1, by omega⟩
  obtain ⟨p, s2, e2, p0, p1⟩ := pick_eq c hc a s 3 (by omega) (by decide)
  have hA : (wrap64 (97 + p)) % 256 = 97 + p := by rw [wrap64_id _ (by omega) (by omega)]; omega
  simp only [spec_l04Drawn.l0]
  rw [if_pos (by omega), e2]
  simp only [Option.bind_some]
  rw [if_pos (by omega), hA]
  obtain ⟨ys, s', e, h2, h3⟩ := ih (i + 1) k (xs ++ [97 + p]) (a + 1) s2 (by omega) (by omega) (by simp [hx]) (by omega) (by omega) (fun x hx => by
   rcases List.mem_append.1 hx with h | h
   ·exact hb x h
   ·rw [List.mem_singleton.1 h]; omega)
  refine ⟨ys, s', ?_, h2, h3⟩
  rw [e]
  congr 3
  omega
theorem strOfNums_len (xs : List Int) : (strOfNums xs).size = xs.length := strOfNums_size xs
theorem drawn_eq (c : List Int) (hc : srcOk c) (a s : Int) (L : Nat) (hL : 1 ≤ L ∧ L ≤ 12) (ha : 0 ≤ a ∧ a ≤ 900000) (k : Nat) (hk : 20 ≤ k) : ∃ w s', spec_l04Drawn.f k c a s (L : Int) = some (w, a + L, s') ∧ wordOk w = true := by
 unfold spec_l04Drawn.f
 obtain ⟨ys, s', e, h2, h3⟩ := drawn_l0 c hc L hL.2 L 0 k [] a s (by omega) (by omega) rfl (by omega) (by omega) (by simp)
 refine ⟨_, _, e, ?_⟩
 rw [wordOk_iff, strOfNums_len, h2, bytesOf_strOfNums _ (fun x hx => by have := h3 x hx; omega)]
 exact ⟨hL, fun x hx => decide_eq_true (h3 x hx)⟩
theorem habits_l0 (c : List Int) (hc : srcOk c) : ∀ (d k : Nat) (xs : List S40) (a s : Int), d + 10 < k → d ≤ 100 → xs.length + d ≤ 100 → 0 ≤ a → a + 3 * d ≤ 900000 → (∀ h ∈ xs, habitOk h.f0 h.f1 h.f2 = true ∧ habR h) → ∃ ys, spec_P6Habits.l0 k xs (d : Int) c a s = some ys ∧ ys.length = xs.length + d ∧ ∀ h ∈ ys, habitOk h.f0 h.f1 h.f2 = true ∧ habR h := by
 intro d
 induction d with
 | zero =>
  intro k xs a s hk hd hl h0 h1 hb
  obtain ⟨k, rfl⟩ : ∃ m, k = m + 1 := ⟨k - 1, by omega⟩
  simp only [spec_P6Habits.l0]
  rw [if_neg (by omega)]
  exact ⟨xs, rfl, by omega, hb⟩
 | succ d ih =>
  intro k xs a s hk hd hl h0 h1 hb
  obtain ⟨k, rfl⟩ : ∃ m, k = m + 1 := ⟨k - 1, by omega⟩
  obtain ⟨f, A, B, a', s', e, w1, w2, w3, w4, w5⟩ := way_eq c hc a s (by omega) k (by omega)
  simp only [spec_P6Habits.l0]
  rw [if_pos (by omega), e]
  simp only [Option.bind_some]
  rw [if_pos (by omega), wrap64_id _ (by omega) (by omega), show ((d + 1 : Nat) : Int) - 1 = (d : Int) by omega]
  obtain ⟨ys, e2, h2, h3⟩ := ih k (xs ++ [⟨f, A, B⟩]) a' s' (by omega) (by omega) (by simp; omega) (by omega) (by omega) (fun h hh => by
   rcases List.mem_append.1 hh with q | q
   ·exact hb h q
   ·rw [List.mem_singleton.1 q]; exact ⟨w1, w2, w3⟩)
  exact ⟨ys, e2, by rw [h2]; simp; omega, h3⟩
theorem p6habits_eq (c : List Int) (hc : srcOk c) (k : Nat) (hk : 200 ≤ k) : ∃ ys, spec_P6Habits.f k c = some ys ∧ ys.length ≤ 5 ∧ ∀ h ∈ ys, habitOk h.f0 h.f1 h.f2 = true ∧ habR h := by
 unfold spec_P6Habits.f spec_l00From.f
 simp only [Option.bind_some]
 obtain ⟨v, s', e, v0, v1⟩ := pick_eq c hc 0 0 6 (by decide) (by decide)
 rw [e]
 simp only [Option.bind_some]
 obtain ⟨d, rfl⟩ := Int.eq_ofNat_of_zero_le v0
 obtain ⟨ys, e2, h2, h3⟩ := habits_l0 c hc d k [] (0 + 1) s' (by omega) (by omega) (by simp; omega) (by decide) (by omega) (by simp)
 exact ⟨ys, e2, by rw [h2]; simp; omega, h3⟩
theorem p6word_eq (c : List Int) (hc : srcOk c) (k : Nat) (hk : 200 ≤ k) : ∃ w, spec_P6Word.f k c = some w ∧ wordOk w = true := by
 unfold spec_P6Word.f spec_l00From.f spec_l04One.f
 simp only [Option.bind_some]
 obtain ⟨v, s', e, v0, v1⟩ := pick_eq c hc 0 0 6 (by decide) (by decide)
 rw [e]
 simp only [Option.bind_some]
 rw [wrap64_id (1 + v) (by omega) (by omega)]
 obtain ⟨L, hL⟩ := Int.eq_ofNat_of_zero_le (show 0 ≤ 1 + v by omega)
 rw [hL]
 obtain ⟨w, s2, e2, w1⟩ := drawn_eq c hc (0 + 1) s' L (by omega) (by decide) k (by omega)
 rw [e2]
 exact ⟨w, rfl, w1⟩

def picks (q : Nat → Bool) : Nat → Nat → List Int
 | 0, _ => []
 | d + 1, i => if q i = true then (i : Int) :: picks q d (i + 1) else picks q d (i + 1)
theorem picks_length (q : Nat → Bool) : ∀ d i, (picks q d i).length ≤ d
 | 0, _ => by simp [picks]
 | d + 1, i => by
  have := picks_length q d (i + 1)
  unfold picks
  split <;> simp <;> omega

/-! Words and habits that are drawn: what they answer -/
theorem mem_picks (q : Nat → Bool) : ∀ (d i j : Nat), ((j : Int) ∈ picks q d i) ↔ (i ≤ j ∧ j < i + d ∧ q j = true)
 | 0, i, j => by
  constructor
  ·intro h; exact absurd h (by simp [picks])
  ·rintro ⟨h1, h2, _⟩; omega
 | d + 1, i, j => by
  have ih := mem_picks q d (i + 1) j
  unfold picks
  by_cases e : q i = true
  ·rw [if_pos e, List.mem_cons, ih]
   constructor
   ·rintro (h | ⟨h1, h2, h3⟩)
    ·have : j = i := by omega
     subst this
     exact ⟨by omega, by omega, e⟩
    ·exact ⟨by omega, by omega, h3⟩
   ·rintro ⟨h1, h2, h3⟩
    by_cases h : j = i
    ·left; rw [h]
    ·right; exact ⟨by omega, by omega, h3⟩
  ·rw [if_neg e, ih]
   constructor
   ·rintro ⟨h1, h2, h3⟩; exact ⟨by omega, by omega, h3⟩
   ·rintro ⟨h1, h2, h3⟩
    have : j ≠ i := fun h => e (h ▸ h3)
    exact ⟨by omega, by omega, h3⟩
theorem has_l0 (l : List Int) (a : Int) (hl : l.length ≤ 1048576) : ∀ (d i k : Nat), i + d = l.length → d < k → spec_l00Has.l0 k l a (i : Int) = some (decide (a ∈ l.drop i)) := by
 intro d
 induction d with
 | zero =>
  intro i k hi hk
  obtain ⟨k, rfl⟩ : ∃ m, k = m + 1 := ⟨k - 1, by omega⟩
  simp only [spec_l00Has.l0]
  rw [if_neg (by omega), List.drop_eq_nil_of_le (by omega)]
  simp
 | succ d ih =>
  intro i k hi hk
  obtain ⟨k, rfl⟩ : ∃ m, k = m + 1 := ⟨k - 1, by omega⟩
  simp only [spec_l00Has.l0]
  have hd : l.drop i = rd l (i : Int) :: l.drop (i + 1) := by rw [rd_nat]; exact drop_getD 0 l i (by omega)
  rw [if_pos (by omega), if_pos (by omega), hd, wrap_nat i (by omega)]
  by_cases e : rd l (i : Int) = a
  ·rw [if_pos e]; simp [e]
  ·rw [if_neg e, ih (i + 1) k (by omega) (by omega)]
   congr 1
   apply decide_eq_decide.2
   rw [List.mem_cons]
   constructor
   ·exact Or.inr
   ·rintro (h | h)
    ·exact absurd h.symm e
    ·exact h
theorem has_picks (q : Nat → Bool) (n i k : Nat) (hn : n ≤ 1000) (hi : i < n) (hk : 1000 < k) : spec_HasNumber.f k (picks q n 0) (i : Int) = some (q i) := by
 have hp := picks_length q n 0
 unfold spec_HasNumber.f spec_l00Has.f
 have := has_l0 (picks q n 0) (i : Int) (by omega) (picks q n 0).length 0 k (by omega) (by omega)
 rw [show ((0 : Nat) : Int) = 0 from rfl, List.drop_zero] at this
 rw [this, Option.bind_some]
 congr 1
 have hm := mem_picks q n 0 i
 cases e : q i with
 | true => exact decide_eq_true (hm.2 ⟨by omega, by omega, e⟩)
 | false => exact decide_eq_false (fun z => by have := (hm.1 z).2.2; rw [e] at this; exact absurd this (by decide))
theorem same_l0 (l : List Int) (hl : l.length ≤ 1048576) : ∀ (d i k : Nat), i + d = l.length → d < k → spec_l00Same.l0 k l l (i : Int) = some true := by
 intro d
 induction d with
 | zero =>
  intro i k hi hk
  obtain ⟨k, rfl⟩ : ∃ m, k = m + 1 := ⟨k - 1, by omega⟩
  simp only [spec_l00Same.l0]
  rw [if_neg (by omega)]
 | succ d ih =>
  intro i k hi hk
  obtain ⟨k, rfl⟩ : ∃ m, k = m + 1 := ⟨k - 1, by omega⟩
  simp only [spec_l00Same.l0]
  rw [if_pos (by omega), if_pos (by omega), if_pos (by omega), if_pos trivial, wrap_nat i (by omega), ih (i + 1) k (by omega) (by omega)]
theorem same_eq (l : List Int) (hl : l.length ≤ 1000) (k : Nat) (hk : 1000 < k) : spec_SameNumbers.f k l l = some true := by
 unfold spec_SameNumbers.f spec_l00Same.f
 rw [if_pos rfl]
 have := same_l0 l (by omega) l.length 0 k (by omega) (by omega)
 rw [show ((0 : Nat) : Int) = 0 from rfl] at this
 rw [this, Option.bind_some]
def habOk (h : S40) : Prop := habitOk h.f0 h.f1 h.f2 = true ∧ habR h
theorem codeH_zero (hs : List S40) (ws : List ByteArray) (hl : hs.length ≤ 30) (hh : ∀ h ∈ hs, habOk h) (hw : ∀ w ∈ ws, wordOk w = true) : codeH hs ws = 0 := by
 have a : habitsOk hs = true := List.all_eq_true.2 (fun h m => (hh h m).1)
 have b : wordsOk ws = true := List.all_eq_true.2 hw
 unfold codeH
 rw [if_pos ⟨a, b⟩, if_pos hl]
theorem codeA_zero (hs : List S40) (ws : List ByteArray) (hl : hs.length ≤ 30) (hl2 : ws.length ≤ 40) (hh : ∀ h ∈ hs, habOk h) (hw : ∀ w ∈ ws, wordOk w = true) : codeA hs ws = 0 := by
 have a : habitsOk hs = true := List.all_eq_true.2 (fun h m => (hh h m).1)
 have b : wordsOk ws = true := List.all_eq_true.2 hw
 unfold codeA
 rw [if_pos ⟨a, b⟩, if_pos hl, if_pos hl2]
theorem word_sz (ws : List ByteArray) (hw : ∀ w ∈ ws, wordOk w = true) : ∀ s ∈ ws, s.size ≤ 2097152 := fun s hs => by
 have := wordOk_size s (hw s hs); omega
theorem one_ok (w : ByteArray) (h : wordOk w = true) : ∀ s ∈ [w], wordOk s = true := fun s hs => by rw [List.mem_singleton.1 hs]; exact h
theorem implPassOn_eq (hs : List S40) (m : Int) (hl : hs.length ≤ 30) (hh : ∀ h ∈ hs, habOk h) (w : ByteArray) (hw : wordOk w = true) (k : Nat) (hk : 6000000 ≤ k) : impl_PassOn.f k hs w m = some (passF hs w, 0) := by
 unfold impl_PassOn.f
 rw [chainCode_eq hs [w] (by omega) (by simp) (word_sz _ (one_ok w hw)) k (by omega), codeH_zero hs [w] hl hh (one_ok w hw), Option.bind_some, if_pos rfl, implPassed_eq hs m (by omega) (fun h q => (hh h q).2) w (wordOk_size w hw) k (by omega), Option.bind_some]
theorem specPassOn_eq (hs : List S40) (hl : hs.length ≤ 30) (hh : ∀ h ∈ hs, habOk h) (w : ByteArray) (hw : wordOk w = true) (k : Nat) (hk : 6000000 ≤ k) : spec_PassOn.f k hs w = some (passF hs w, 0) := by
 unfold spec_PassOn.f
 rw [asked_eq hs [w] (by omega) (by simp) (word_sz _ (one_ok w hw)) k (by omega), codeA_zero hs [w] hl (by simp) hh (one_ok w hw), Option.bind_some, if_pos rfl, specPass_eq hs (by omega) (fun h q => (hh h q).2) w (wordOk_size w hw) k (by omega), Option.bind_some]
theorem implHear1_eq (h : S40) (m : Int) (hh : habOk h) (w : ByteArray) (hw : wordOk w = true) (k : Nat) (hk : 100 ≤ k) : impl_Hear.f k h.f0 h.f1 h.f2 w m = some (hearH h w, 0) := by
 have hs := wordOk_size w hw
 unfold impl_Hear.f
 rw [validHabit_eq, hh.1, Option.bind_some, if_pos rfl, isWord_eq w (by omega) k (by omega), hw, Option.bind_some, if_pos rfl, implHear_eq _ _ _ m hh.2.1 hh.2.2 w hs.1 hs.2, Option.bind_some]
 rfl
theorem passF_word (hs : List S40) (hh : ∀ h ∈ hs, habOk h) : ∀ w, wordOk w = true → wordOk (passF hs w) = true := by
 unfold passF
 induction hs with
 | nil => intro w h; exact h
 | cons h r ih => intro w hw; exact ih (fun x hx => hh x (List.mem_cons_of_mem _ hx)) _ (hearF_word _ _ _ (hh h List.mem_cons_self).1 w hw (hearF_ok _ _ _ w (wordOk_size w hw)))

def spF (c : UInt8) : List UInt8 → List UInt8 → List (List UInt8)
 | cur, [] => [cur]
 | cur, b :: l => if b = c then cur :: spF c [] l else spF c (cur ++ [b]) l
theorem spF_hit (c : UInt8) (cur l : List UInt8) : spF c cur (c :: l) = cur :: spF c [] l := by
 conv => lhs; unfold spF
 rw [if_pos rfl]
theorem spF_miss (c b : UInt8) (h : b ≠ c) (cur l : List UInt8) : spF c cur (b :: l) = spF c (cur ++ [b]) l := by
 conv => lhs; unfold spF
 rw [if_neg h]
theorem spF_nil (c : UInt8) (cur : List UInt8) : spF c cur [] = [cur] := rfl
theorem spF_len (c : UInt8) (l : List UInt8) : ∀ cur : List UInt8, (spF c cur l).length = l.count c + 1 := by
 induction l with
 | nil => intro cur; rfl
 | cons b l ih =>
  intro cur
  by_cases h : b = c
  ·subst h
   rw [spF_hit, List.length_cons, ih, List.count_cons_self]
  ·rw [spF_miss c b h, ih, List.count_cons_of_ne h]
theorem spIdx (c : UInt8) (l : List UInt8) : ∀ pre : List UInt8, c ∉ pre → Go.Lib.index (pre ++ c :: l) [c] = (pre.length : Int) := by
 intro pre
 induction pre with
 | nil => intro _; simp [Go.Lib.index, List.isPrefixOf]
 | cons b pre ih =>
  intro h
  have hb : ¬ c = b := fun e => h (by rw [e]; exact List.mem_cons_self)
  have hp : c ∉ pre := fun e => h (List.mem_cons_of_mem _ e)
  have := ih hp
  rw [List.cons_append, Go.Lib.index, this]
  have h1 : List.isPrefixOf [c] (b :: (pre ++ c :: l)) = false := by simp [List.isPrefixOf, hb]
  rw [h1]
  have h2 : ¬ (((pre.length : Int) == -1) = true) := fun e => by have := beq_iff_eq.1 e; omega
  rw [if_neg (by simp), if_neg h2, List.length_cons]
  omega
theorem splitK_eq (c : UInt8) (l : List UInt8) : ∀ pre : List UInt8, c ∉ pre → Go.Lib.splitK [c] 0 (l.count c) (pre ++ l) = spF c pre l := by
 induction l with
 | nil => intro pre _; rw [List.append_nil]; rfl
 | cons b l ih =>
  intro pre h
  by_cases e : b = c
  ·subst e
   rw [List.count_cons_self, Go.Lib.splitK, spIdx b l pre h, spF_hit]
   have h2 : ¬ (((pre.length : Int) == -1) = true) := fun e => by have := beq_iff_eq.1 e; omega
   rw [if_neg h2]
   have hi := ih [] (by simp)
   rw [List.nil_append] at hi
   rw [← hi]
   simp
  ·rw [List.count_cons_of_ne e, spF_miss c b e, ← ih (pre ++ [b]) (by simp [h]; exact fun x => e x.symm)]
   rw [List.append_assoc]
   rfl
def mkB (l : List UInt8) : ByteArray := ⟨l.toArray⟩
theorem mkB_data (s : ByteArray) : mkB s.data.toList = s := by
 cases s
 simp [mkB]
theorem splitB_eq (c : UInt8) (s : ByteArray) : Go.Lib.splitB ⟨#[c]⟩ 0 (Go.Lib.countB s ⟨#[c]⟩) s = (spF c [] s.data.toList).map mkB := by
 have h1 := Go.Lib.splitB_data ⟨#[c]⟩ 0 (Go.Lib.countB s ⟨#[c]⟩) s
 have h2 : Go.Lib.countB s ⟨#[c]⟩ = s.data.toList.count c := Go.Lib.count_one c s.data.toList
 have h3 := splitK_eq c s.data.toList [] (by simp)
 rw [List.nil_append] at h3
 rw [h2] at h1 ⊢
 have h1 := h1.trans h3
 rw [← h1, List.map_map]
 have : (mkB ∘ fun x : ByteArray => x.data.toList) = id := funext fun x => mkB_data x
 rw [this, List.map_id]
theorem implSplit_eq (c : UInt8) (s : ByteArray) (m : Int) (hs : s.size ≤ 1048576) : strings_Split.f s ⟨#[c]⟩ m = some ((spF c [] s.data.toList).map mkB) := by
 unfold strings_Split.f
 rw [if_pos ⟨by omega, Nat.le_refl 1⟩, splitB_eq]
def hText (t a b : Int) : ByteArray := Go.Proofs.YtobickehjnogjaaGreatDoor.H.putB (Go.Proofs.YtobickehjnogjaaGreatDoor.H.putB (Go.Proofs.YtobickehjnogjaaGreatDoor.H.kindName t) a) b
def namesB : List ByteArray := [(⟨#[110, 111, 110, 101]⟩ : ByteArray), (⟨#[115, 119, 97, 112]⟩ : ByteArray), (⟨#[100, 114, 111, 112]⟩ : ByteArray), (⟨#[100, 111, 117, 98, 108, 101]⟩ : ByteArray), (⟨#[116, 117, 114, 110]⟩ : ByteArray)]
def pickB (W : List ByteArray) (i : Int) : Int := if (W.length : Int) > i then (if ((rdOf ByteArray.empty W i).size : Int) = 1 then bt (rdOf ByteArray.empty W i) 0 else 0) else 0
def hitOk (s : ByteArray) (t a b : Int) : Bool := habitOk t a b && decide (hText t a b = s)
def idxN (x : ByteArray) : Int := if x = rdOf ByteArray.empty namesB 0 then 0 else if x = rdOf ByteArray.empty namesB 1 then 1 else if x = rdOf ByteArray.empty namesB 2 then 2 else if x = rdOf ByteArray.empty namesB 3 then 3 else if x = rdOf ByteArray.empty namesB 4 then 4 else -1
theorem idx_step (x : ByteArray) (t u : Int) (k : Nat) (h0 : 0 ≤ t) (h5 : t < 5) (hu : u = t + 1) :
  slices_Index_Sstring_string.l0 (k + 1) namesB x 5 t = if x = rdOf ByteArray.empty namesB t then some t else slices_Index_Sstring_string.l0 k namesB x 5 u := by
 have e5 : ((namesB.length : Nat) : Int) = 5 := rfl
 have hw : wrap64 (t + 1) = u := by unfold wrap64; omega
 simp only [slices_Index_Sstring_string.l0, e5, hw]
 rw [if_pos h5, if_pos h0, if_pos h5]
 by_cases h : x = rdOf ByteArray.empty namesB t
 ·rw [if_pos ((toList_inj _ _).2 h), if_pos h]
 ·rw [if_neg (fun e => h ((toList_inj _ _).1 e)), if_neg h]
theorem idx_eq (x : ByteArray) (k : Nat) (hk : 10 < k) : slices_Index_Sstring_string.f k namesB x = some (idxN x) := by
 obtain ⟨m, rfl⟩ : ∃ m, k = m + 6 := ⟨k - 6, by omega⟩
 have hl : slices_Index_Sstring_string.l0 (m + 1) namesB x 5 5 = some (-1) := by
  simp only [slices_Index_Sstring_string.l0]
  rw [if_neg (by decide)]
 show slices_Index_Sstring_string.l0 (m + 6) namesB x 5 0 = _
 rw [idx_step x 0 1 (m + 5) (by decide) (by decide) rfl, idx_step x 1 2 (m + 4) (by decide) (by decide) rfl, idx_step x 2 3 (m + 3) (by decide) (by decide) rfl, idx_step x 3 4 (m + 2) (by decide) (by decide) rfl, idx_step x 4 5 (m + 1) (by decide) (by decide) rfl, hl]
 unfold idxN
 repeat (split; · rfl)
 rfl
def finH (s : ByteArray) (t a b : Int) : Option (Int × Int × Int × Int) := if s.toList = ([] : List UInt8) then (some (0, 0, 0, 5)) else ((impl_HabitText.f t a b).bind fun t166 => (if t166.toList = s.toList then (some (t, a, b, 0)) else (some (0, 0, 0, 5))))
theorem impl_tail (s : ByteArray) (Y : List ByteArray) (t x1 x2 a b : Int) (hY : Y.length ≤ 2000000) : ∀ (d i k : Nat), 2 ≤ i → i + d = Y.length → d < k →
  impl_ReadHabit.l0 k s Y (Y.length : Int) (i : Int) t x1 x2 a b = finH s t a b := by
 intro d
 induction d with
 | zero =>
  intro i k h2 hi hk
  obtain ⟨k, rfl⟩ : ∃ m, k = m + 1 := ⟨k - 1, by omega⟩
  simp only [impl_ReadHabit.l0]
  rw [if_neg (by omega)]
  rfl
 | succ d ih =>
  intro i k h2 hi hk
  obtain ⟨k, rfl⟩ : ∃ m, k = m + 1 := ⟨k - 1, by omega⟩
  simp only [impl_ReadHabit.l0]
  rw [if_pos (by omega), if_pos (by omega), if_pos (by omega), if_neg (by omega), wrap_nat i (by omega)]
  exact ih (i + 1) k (by omega) (by omega) (by omega)
theorem impl_end (s : ByteArray) (Y : List ByteArray) (t x1 x2 a b : Int) (i : Int) (k : Nat) (hi : ¬ i < (Y.length : Int)) : impl_ReadHabit.l0 (k + 1) s Y (Y.length : Int) i t x1 x2 a b = finH s t a b := by
 simp only [impl_ReadHabit.l0]
 rw [if_neg hi]
 rfl
theorem impl_one (s : ByteArray) (Y : List ByteArray) (t x1 x2 a b : Int) (hY : Y.length ≤ 2000000) (k : Nat) (hk : Y.length < k) :
  impl_ReadHabit.l0 (k + 1) s Y (Y.length : Int) 1 t x1 x2 a b = finH s t a (if (Y.length : Int) > 1 then (if ((rdOf ByteArray.empty Y 1).size : Int) = 1 then bt (rdOf ByteArray.empty Y 1) 0 else b) else b) := by
 by_cases h : (Y.length : Int) > 1
 ·have hw : wrap64 ((1 : Int) + 1) = ((2 : Nat) : Int) := by unfold wrap64; omega
  have ht := fun b' => impl_tail s Y t x1 x2 a b' hY (Y.length - 2) 2 k (Nat.le_refl _) (by omega) (by omega)
  simp only [impl_ReadHabit.l0, hw]
  rw [if_pos (by omega), if_pos (by decide), if_pos (by omega), if_pos (by decide), if_pos h]
  by_cases h1 : ((rdOf ByteArray.empty Y 1).size : Int) = 1
  ·rw [if_pos h1, if_pos (by omega), if_neg (by decide), if_pos trivial, if_pos h1, ht]
  ·rw [if_neg h1, if_neg h1, ht]
 ·rw [impl_end s Y t x1 x2 a b 1 k (by omega), if_neg h]
theorem impl_zero (s : ByteArray) (Y : List ByteArray) (t x1 x2 : Int) (hY : Y.length ≤ 2000000) (k : Nat) (hk : Y.length < k) :
  impl_ReadHabit.l0 (k + 2) s Y (Y.length : Int) 0 t x1 x2 0 0 = finH s t (if (Y.length : Int) > 0 then (if ((rdOf ByteArray.empty Y 0).size : Int) = 1 then bt (rdOf ByteArray.empty Y 0) 0 else 0) else 0) (if (Y.length : Int) > 1 then (if ((rdOf ByteArray.empty Y 1).size : Int) = 1 then bt (rdOf ByteArray.empty Y 1) 0 else 0) else 0) := by
 by_cases h : (Y.length : Int) > 0
 ·have hw : wrap64 ((0 : Int) + 1) = (1 : Int) := by unfold wrap64; omega
  have ht := fun a' => impl_one s Y t x1 x2 a' 0 hY k hk
  conv => lhs; unfold impl_ReadHabit.l0
  simp only [hw]
  rw [if_pos (by omega), if_pos (by decide), if_pos (by omega), if_pos (by decide), if_pos h]
  by_cases h1 : ((rdOf ByteArray.empty Y 0).size : Int) = 1
  ·rw [if_pos h1, if_pos (by omega), if_pos trivial, if_pos h1, ht]
  ·rw [if_neg h1, if_neg h1, ht]
 ·rw [impl_end s Y t x1 x2 0 0 0 (k + 1) (by omega), if_neg h, if_neg (by omega)]
theorem kind_rng (t a b : Int) (h : habitOk t a b = true) : 0 ≤ t ∧ t < 5 := by
 unfold habitOk at h
 by_cases c0 : t = 0 ∨ t = 3
 ·omega
 ·rw [if_neg c0] at h
  by_cases c1 : t = 1
  ·omega
  ·rw [if_neg c1] at h
   by_cases c2 : t = 2 ∨ t = 4
   ·omega
   ·rw [if_neg c2] at h; exact absurd h (by decide)
theorem finH_eq (s : ByteArray) (t a b : Int) : finH s t a b = if s ≠ ByteArray.empty ∧ hitOk s t a b = true then some (t, a, b, 0) else some (0, 0, 0, 5) := by
 have hE : ByteArray.empty.toList = ([] : List UInt8) := by rw [ByteArray.toList_eq]; rfl
 unfold finH impl_HabitText.f
 by_cases h : s = ByteArray.empty
 ·rw [if_pos (by rw [h]; exact hE), if_neg (fun x => x.1 h)]
 ·have hn : ¬ s.toList = ([] : List UInt8) := fun e => h ((toList_inj s ByteArray.empty).1 (e.trans hE.symm))
  rw [if_neg hn, validHabit_eq, Option.bind_some]
  by_cases v : habitOk t a b = true
  ·obtain ⟨h0, h5⟩ := kind_rng t a b v
   rw [if_pos v, if_pos h0, if_pos h5, Option.bind_some]
   unfold hitOk
   rw [v, Bool.true_and]
   show (if (hText t a b).toList = s.toList then _ else _) = _
   by_cases e : hText t a b = s
   ·rw [if_pos ((toList_inj _ _).2 e), if_pos ⟨h, by simpa using e⟩]
   ·rw [if_neg (fun x => e ((toList_inj _ _).1 x)), if_neg (fun x => e (by simpa using x.2))]
  ·rw [if_neg v, Option.bind_some, if_neg (fun x => h ((toList_inj (⟨#[]⟩ : ByteArray) s).1 x).symm), if_neg (fun x => by
    have := x.2
    unfold hitOk at this
    rw [Bool.and_eq_true] at this
    exact v this.1)]
theorem letter_ne (a : Int) (h : letter a = true) : UInt8.ofNat a.toNat ≠ 32 := by
 intro e
 have h2 : 97 ≤ a ∧ a ≤ 122 := by simpa [letter] using h
 have h1 := congrArg UInt8.toNat e
 rw [UInt8.toNat_ofNat'] at h1
 have h3 : (32 : UInt8).toNat = 32 := rfl
 rw [h3] at h1
 omega
theorem letter_nz (a : Int) (h : letter a = true) : a ≠ 0 := by
 intro e
 subst e
 exact absurd h (by decide)
theorem put_zero (x : ByteArray) : Go.Proofs.YtobickehjnogjaaGreatDoor.H.putB x 0 = x := by
 unfold Go.Proofs.YtobickehjnogjaaGreatDoor.H.putB
 rw [if_pos rfl]
theorem put_size (x : ByteArray) (a : Int) : x.size ≤ (Go.Proofs.YtobickehjnogjaaGreatDoor.H.putB x a).size := by
 unfold Go.Proofs.YtobickehjnogjaaGreatDoor.H.putB
 by_cases h : a = 0
 ·rw [if_pos h]; exact Nat.le_refl _
 ·rw [if_neg h, ByteArray.size_append]; exact Nat.le_add_right _ _
theorem text_ne (t a b : Int) (h0 : 0 ≤ t) (h5 : t < 5) : hText t a b ≠ ByteArray.empty := by
 intro e
 have h1 := congrArg ByteArray.size e
 have h2 := put_size (Go.Proofs.YtobickehjnogjaaGreatDoor.H.kindName t) a
 have h3 := put_size (Go.Proofs.YtobickehjnogjaaGreatDoor.H.putB (Go.Proofs.YtobickehjnogjaaGreatDoor.H.kindName t) a) b
 have h4 : 4 ≤ (Go.Proofs.YtobickehjnogjaaGreatDoor.H.kindName t).size := by
  have : t = 0 ∨ t = 1 ∨ t = 2 ∨ t = 3 ∨ t = 4 := by omega
  rcases this with rfl | rfl | rfl | rfl | rfl <;> decide
 have h5 : (hText t a b).size = (Go.Proofs.YtobickehjnogjaaGreatDoor.H.putB (Go.Proofs.YtobickehjnogjaaGreatDoor.H.putB (Go.Proofs.YtobickehjnogjaaGreatDoor.H.kindName t) a) b).size := rfl
 have h6 : ByteArray.empty.size = 0 := rfl
 omega
theorem idx_i8 (x : ByteArray) : IntKind.i8.wrap (idxN x) = idxN x := by
 unfold idxN
 repeat (split; · decide)
 decide
theorem implRead_eq (s : ByteArray) (mx : Int) (hsz : s.size ≤ 1048576) (k : Nat) (hk : 2000000 ≤ k) (t a b : Int) (ht : idxN (rdOf ByteArray.empty ((spF 32 [] s.data.toList).map mkB) 0) = t) (ha : pickB ((spF 32 [] s.data.toList).map mkB) 1 = a) (hb : pickB ((spF 32 [] s.data.toList).map mkB) 2 = b) :
  impl_ReadHabit.f k s mx = if s ≠ ByteArray.empty ∧ hitOk s t a b = true then some (t, a, b, 0) else some (0, 0, 0, 5) := by
 subst ht; subst ha; subst hb
 obtain ⟨W, hWd⟩ : ∃ W, W = (spF 32 [] s.data.toList).map mkB := ⟨_, rfl⟩
 have hWl : W.length = s.data.toList.count 32 + 1 := by rw [hWd, List.length_map, spF_len]
 have hW2 : W.length ≤ 1048577 := by
  have := List.count_le_length (a := (32 : UInt8)) (l := s.data.toList)
  have h2 : s.data.toList.length = s.size := rfl
  omega
 unfold impl_ReadHabit.f
 rw [implSplit_eq 32 s mx hsz, Option.bind_some, ← hWd, show impl_habitWords.f = some namesB from rfl, Option.bind_some, if_pos (by omega), idx_eq _ k (by omega), Option.bind_some, if_pos (by omega), Option.bind_some, idx_i8]
 have hdl : (W.drop (1 : Int).toNat).length = W.length - 1 := by rw [List.length_drop]; rfl
 have hd0 : rdOf ByteArray.empty (W.drop (1 : Int).toNat) 0 = rdOf ByteArray.empty W 1 := by simp [rdOf]
 have hd1 : rdOf ByteArray.empty (W.drop (1 : Int).toNat) 1 = rdOf ByteArray.empty W 2 := by simp [rdOf]
 obtain ⟨m, rfl⟩ : ∃ m, k = m + 2 := ⟨k - 2, by omega⟩
 rw [impl_zero s (W.drop (1 : Int).toNat) _ 0 0 (by omega) m (by omega), hd0, hd1, hdl]
 have hA : (if ((W.length - 1 : Nat) : Int) > 0 then (if ((rdOf ByteArray.empty W 1).size : Int) = 1 then bt (rdOf ByteArray.empty W 1) 0 else 0) else 0) = pickB W 1 := by
  unfold pickB
  by_cases h : (W.length : Int) > 1
  ·rw [if_pos (by omega), if_pos h]
  ·rw [if_neg (by omega), if_neg h]
 have hB : (if ((W.length - 1 : Nat) : Int) > 1 then (if ((rdOf ByteArray.empty W 2).size : Int) = 1 then bt (rdOf ByteArray.empty W 2) 0 else 0) else 0) = pickB W 2 := by
  unfold pickB
  by_cases h : (W.length : Int) > 2
  ·rw [if_pos (by omega), if_pos h]
  ·rw [if_neg (by omega), if_neg h]
 rw [hA, hB, finH_eq]
theorem spF_run (c : UInt8) : ∀ (pre cur l : List UInt8), c ∉ pre → spF c cur (pre ++ c :: l) = (cur ++ pre) :: spF c [] l
 | [], cur, l, _ => by rw [List.nil_append, spF_hit, List.append_nil]
 | b :: pre, cur, l, h => by
  rw [List.cons_append, spF_miss c b (fun e => h (by rw [e]; exact List.mem_cons_self)), spF_run c pre _ l (fun m => h (List.mem_cons_of_mem _ m)), List.append_assoc]
  rfl
theorem spF_last (c : UInt8) : ∀ (pre cur : List UInt8), c ∉ pre → spF c cur pre = [cur ++ pre]
 | [], cur, _ => by rw [spF_nil, List.append_nil]
 | b :: pre, cur, h => by
  rw [spF_miss c b (fun e => h (by rw [e]; exact List.mem_cons_self)), spF_last c pre _ (fun m => h (List.mem_cons_of_mem _ m)), List.append_assoc]
  rfl
theorem one_letter (a : Int) (h : letter a = true) : (32 : UInt8) ∉ [UInt8.ofNat a.toNat] ∧ (mkB [UInt8.ofNat a.toNat]).size = 1 ∧ bt (mkB [UInt8.ofNat a.toNat]) 0 = a := by
 refine ⟨fun m => letter_ne a h (List.mem_singleton.1 m).symm, rfl, ?_⟩
 have h2 : 97 ≤ a ∧ a ≤ 122 := by simpa [letter] using h
 have e : bt (mkB [UInt8.ofNat a.toNat]) 0 = ((UInt8.ofNat a.toNat).toNat : Int) := rfl
 rw [e, UInt8.toNat_ofNat']
 omega
theorem put_list (x : ByteArray) (a : Int) (h : letter a = true) : (Go.Proofs.YtobickehjnogjaaGreatDoor.H.putB x a).data.toList = x.data.toList ++ 32 :: [UInt8.ofNat a.toNat] := by
 unfold Go.Proofs.YtobickehjnogjaaGreatDoor.H.putB
 rw [if_neg (letter_nz a h), ByteArray.data_append, Array.toList_append, ByteArray.data_append, Array.toList_append]
 rfl
theorem kind_list (t : Int) (h0 : 0 ≤ t) (h5 : t < 5) : (32 : UInt8) ∉ (Go.Proofs.YtobickehjnogjaaGreatDoor.H.kindName t).data.toList ∧ idxN (mkB (Go.Proofs.YtobickehjnogjaaGreatDoor.H.kindName t).data.toList) = t := by
 have : t = 0 ∨ t = 1 ∨ t = 2 ∨ t = 3 ∨ t = 4 := by omega
 rcases this with rfl | rfl | rfl | rfl | rfl <;> exact ⟨by decide, by decide⟩
theorem readback (t a b : Int) (h : habitOk t a b = true) : idxN (rdOf ByteArray.empty ((spF 32 [] (hText t a b).data.toList).map mkB) 0) = t ∧ pickB ((spF 32 [] (hText t a b).data.toList).map mkB) 1 = a ∧ pickB ((spF 32 [] (hText t a b).data.toList).map mkB) 2 = b := by
 obtain ⟨h0, h5⟩ := kind_rng t a b h
 obtain ⟨k1, k2⟩ := kind_list t h0 h5
 unfold hText
 generalize (Go.Proofs.YtobickehjnogjaaGreatDoor.H.kindName t) = K at k1 k2 ⊢
 unfold habitOk at h
 by_cases c0 : t = 0 ∨ t = 3
 ·rw [if_pos c0, Bool.and_eq_true] at h
  obtain rfl := of_decide_eq_true h.1
  obtain rfl := of_decide_eq_true h.2
  rw [put_zero, put_zero, spF_last 32 _ _ k1, List.nil_append]
  exact ⟨k2, rfl, rfl⟩
 ·rw [if_neg c0] at h
  by_cases c1 : t = 1
  ·rw [if_pos c1, Bool.and_eq_true, Bool.and_eq_true] at h
   have hA := one_letter a h.1.1
   have hB := one_letter b h.1.2
   rw [put_list _ b h.1.2, put_list _ a h.1.1, List.append_assoc, List.cons_append, spF_run 32 _ _ _ k1, spF_run 32 _ _ _ hA.1, spF_last 32 _ _ hB.1, List.nil_append, List.nil_append, List.nil_append]
   refine ⟨k2, ?_, ?_⟩
   ·show (if (3 : Int) > 1 then (if ((mkB [UInt8.ofNat a.toNat]).size : Int) = 1 then bt (mkB [UInt8.ofNat a.toNat]) 0 else 0) else 0) = a
    rw [if_pos (by decide), if_pos (by rw [hA.2.1]; rfl), hA.2.2]
   ·show (if (3 : Int) > 2 then (if ((mkB [UInt8.ofNat b.toNat]).size : Int) = 1 then bt (mkB [UInt8.ofNat b.toNat]) 0 else 0) else 0) = b
    rw [if_pos (by decide), if_pos (by rw [hB.2.1]; rfl), hB.2.2]
  ·rw [if_neg c1] at h
   by_cases c2 : t = 2 ∨ t = 4
   ·rw [if_pos c2, Bool.and_eq_true] at h
    obtain rfl := of_decide_eq_true h.2
    have hA := one_letter a h.1
    rw [put_zero, put_list _ a h.1, spF_run 32 _ _ _ k1, spF_last 32 _ _ hA.1, List.nil_append, List.nil_append]
    refine ⟨k2, ?_, rfl⟩
    show (if (2 : Int) > 1 then (if ((mkB [UInt8.ofNat a.toNat]).size : Int) = 1 then bt (mkB [UInt8.ofNat a.toNat]) 0 else 0) else 0) = a
    rw [if_pos (by decide), if_pos (by rw [hA.2.1]; rfl), hA.2.2]
   ·rw [if_neg c2] at h; exact absurd h (by decide)
theorem hText_size (t a b : Int) (h : habitOk t a b = true) : (hText t a b).size ≤ 1048576 := by
 obtain ⟨h0, h5⟩ := kind_rng t a b h
 have h1 : (Go.Proofs.YtobickehjnogjaaGreatDoor.H.kindName t).size ≤ 6 := Go.Proofs.YtobickehjnogjaaGreatDoor.H.kindName_size t
 have hp : ∀ (x : ByteArray) (c : Int), (Go.Proofs.YtobickehjnogjaaGreatDoor.H.putB x c).size ≤ x.size + 2 := by
  intro x c
  unfold Go.Proofs.YtobickehjnogjaaGreatDoor.H.putB
  split
  ·omega
  ·rw [ByteArray.size_append, ByteArray.size_append]
   have e1 : (⟨#[32]⟩ : ByteArray).size = 1 := rfl
   have e2 : (strOfNums [c]).size = 1 := rfl
   omega
 have h2 := hp (Go.Proofs.YtobickehjnogjaaGreatDoor.H.kindName t) a
 have h3 := hp (Go.Proofs.YtobickehjnogjaaGreatDoor.H.putB (Go.Proofs.YtobickehjnogjaaGreatDoor.H.kindName t) a) b
 unfold hText
 omega
theorem implText_eq (t a b : Int) (h : habitOk t a b = true) : impl_HabitText.f t a b = some (hText t a b) := by
 obtain ⟨h0, h5⟩ := kind_rng t a b h
 unfold impl_HabitText.f
 rw [validHabit_eq, Option.bind_some, if_pos h, if_pos h0, if_pos h5]
 rfl
theorem read_text (t a b mx : Int) (h : habitOk t a b = true) (k : Nat) (hk : 2000000 ≤ k) : impl_ReadHabit.f k (hText t a b) mx = some (t, a, b, 0) := by
 obtain ⟨r1, r2, r3⟩ := readback t a b h
 obtain ⟨h0, h5⟩ := kind_rng t a b h
 rw [implRead_eq (hText t a b) mx (hText_size t a b h) k hk t a b r1 r2 r3, if_pos ⟨text_ne t a b h0 h5, by unfold hitOk; rw [h]; exact decide_eq_true rfl⟩]

/-! ChangedBy, both -/
def chQ (L : List ByteArray) (i : Nat) : Bool := !((rdOf ByteArray.empty L (i : Int)).toList == (rdOf ByteArray.empty L ((i + 1 : Nat) : Int)).toList)
theorem specCh_l0 (hs : List S40) (hl : hs.length ≤ 1048576) (L : List ByteArray) (hL : L.length = hs.length + 1) : ∀ (d i k : Nat) (xs : List Int), i + d = hs.length → d < k → xs.length ≤ i → spec_ChangedBy.l0 k hs xs L (i : Int) = some (xs ++ picks (chQ L) d i, 0) := by
 intro d
 induction d with
 | zero =>
  intro i k xs hi hk hx
  obtain ⟨k, rfl⟩ : ∃ m, k = m + 1 := ⟨k - 1, by omega⟩
  simp only [spec_ChangedBy.l0]
  rw [if_neg (by omega)]
  simp [picks]
 | succ d ih =>
  intro i k xs hi hk hx
  obtain ⟨k, rfl⟩ : ∃ m, k = m + 1 := ⟨k - 1, by omega⟩
  simp only [spec_ChangedBy.l0]
  rw [if_pos (by omega), if_pos (by omega), if_pos (by omega), wrap_nat i (by omega), if_pos (by omega), if_pos (by omega)]
  unfold picks
  by_cases e : (rdOf ByteArray.empty L (i : Int)).toList = (rdOf ByteArray.empty L ((i + 1 : Nat) : Int)).toList
  ·have e' : ¬ chQ L i = true := by unfold chQ; rw [beq_iff_eq.2 e]; decide
   rw [if_pos e, if_neg e', ih (i + 1) k _ (by omega) (by omega) (by omega)]
  ·have e' : chQ L i = true := by unfold chQ; rw [beq_eq_false_iff_ne.2 e]; decide
   rw [if_neg e, if_pos (by omega), if_pos e', ih (i + 1) k _ (by omega) (by omega) (by simp; omega)]
   simp
theorem implCh_l0 (n : Nat) (hl : n ≤ 1048576) (L : List ByteArray) (hL : L.length = n + 1) : ∀ (d i k : Nat) (xs : List Int), i + d = n → d < k → xs.length ≤ i → impl_ChangedBy.l0 k L xs (n : Int) (i : Int) = some (xs ++ picks (chQ L) d i, 0) := by
 intro d
 induction d with
 | zero =>
  intro i k xs hi hk hx
  obtain ⟨k, rfl⟩ : ∃ m, k = m + 1 := ⟨k - 1, by omega⟩
  simp only [impl_ChangedBy.l0]
  rw [if_neg (by omega)]
  simp [picks]
 | succ d ih =>
  intro i k xs hi hk hx
  obtain ⟨k, rfl⟩ : ∃ m, k = m + 1 := ⟨k - 1, by omega⟩
  simp only [impl_ChangedBy.l0]
  rw [if_pos (by omega), if_pos (by omega), if_pos (by omega), wrap_nat i (by omega), if_pos (by omega), if_pos (by omega)]
  unfold picks
  by_cases e : (rdOf ByteArray.empty L (i : Int)).toList = (rdOf ByteArray.empty L ((i + 1 : Nat) : Int)).toList
  ·have e' : ¬ chQ L i = true := by unfold chQ; rw [beq_iff_eq.2 e]; decide
   rw [if_pos e, if_neg e', ih (i + 1) k _ (by omega) (by omega) (by omega)]
  ·have e' : chQ L i = true := by unfold chQ; rw [beq_eq_false_iff_ne.2 e]; decide
   rw [if_neg e, if_pos (by omega), if_pos e', ih (i + 1) k _ (by omega) (by omega) (by simp; omega)]
   simp
def finC (hs : List S40) (w : ByteArray) : List Int × Int :=
 if codeH hs [w] = 0 then (picks (chQ (w :: saidF hs w)) hs.length 0, 0) else ([], codeH hs [w])
theorem specC_fin (hs : List S40) (hq : hs.length ≤ 1048576) (hr : ∀ h ∈ hs, habR h) (w : ByteArray) (hb : ∀ s ∈ [w], s.size ≤ 2097152) (k : Nat) (hk : 6000000 ≤ k) : spec_ChangedBy.f k hs w = some (finC hs w) := by
 unfold spec_ChangedBy.f finC
 rw [Option.bind_some, asked_eq hs [w] hq (by simp) hb k (by omega), codeA_one, Option.bind_some]
 by_cases c : codeH hs [w] = 0
 ·obtain ⟨c1, c2⟩ := codeH_facts hs [w] c
  have := specCh_l0 hs hq (w :: saidF hs w) (by simp [saidF_length]) hs.length 0 k [] (by omega) (by omega) (by simp)
  rw [show ((0 : Nat) : Int) = 0 from rfl] at this
  rw [if_pos c, if_pos c, specSaid_eq hs hq hr w (c2 w (by simp)) k (by omega), Option.bind_some, this]; rfl
 ·rw [if_neg c, if_neg c]
theorem implC_fin (hs : List S40) (m : Int) (hq : hs.length ≤ 1048576) (hr : ∀ h ∈ hs, habR h) (w : ByteArray) (hb : ∀ s ∈ [w], s.size ≤ 2097152) (k : Nat) (hk : 6000000 ≤ k) : impl_ChangedBy.f k hs w m = some (finC hs w) := by
 unfold impl_ChangedBy.f finC
 rw [chainCode_eq hs [w] hq (by simp) hb k (by omega), Option.bind_some]
 by_cases c : codeH hs [w] = 0
 ·obtain ⟨c1, c2⟩ := codeH_facts hs [w] c
  have := implCh_l0 hs.length hq (w :: saidF hs w) (by simp [saidF_length]) hs.length 0 k [] (by omega) (by omega) (by simp)
  rw [show ((0 : Nat) : Int) = 0 from rfl] at this
  rw [if_pos c, if_pos c, implHeard_eq hs m hq hr w (c2 w (by simp)) k (by omega), Option.bind_some, this]; rfl
 ·rw [if_neg c, if_neg c]

/-! Lists of strings, strictly ordered: there is one for each set. -/
def kb (s : ByteArray) : List UInt8 := s.data.toList
theorem kb_inj {a b : ByteArray} (h : kb a = kb b) : a = b := by
 unfold kb at h
 cases a; cases b
 simp at h
 rw [h]
theorem less_kb (a b : ByteArray) : Op.bytesLess a.toList b.toList = decide (kb a < kb b) := by
 rw [ByteArray.toList_eq, ByteArray.toList_eq]
 exact Go.Proofs.bytesLess_eq _ _
def SS (l : List ByteArray) : Prop := l.Pairwise (fun a b => kb a < kb b)
theorem SS_nodup {l : List ByteArray} (h : SS l) : l.Nodup := by
 refine List.Pairwise.imp (fun {a b} hab => ?_) h
 intro e
 subst e
 exact List.lt_irrefl _ hab
theorem SS_one {a b : List ByteArray} (ha : SS a) (hb : SS b) (h : ∀ x, x ∈ a ↔ x ∈ b) : a = b :=
 List.Perm.eq_of_pairwise (fun x y _ _ h1 h2 => absurd (List.lt_trans h1 h2) (List.lt_irrefl _)) ha hb ((List.perm_ext_iff_of_nodup (SS_nodup ha) (SS_nodup hb)).2 h)
theorem get_bang {α : Type} [Inhabited α] (l : List α) (i : Nat) (h : i < l.length) : l.toArray[i]! = l[i] := by
 rw [List.getElem!_toArray, getElem!_pos l i h]
theorem compact_lt (zs : List (List UInt8)) (h : zs.Pairwise (fun a b => a ≤ b)) : (Go.Lib.compact zs).Pairwise (fun a b => a < b) := by
 unfold Go.Lib.compact Go.Lib.compactUpTo
 rw [List.pairwise_map]
 have hp : ((List.range zs.length).filter (Go.Lib.keeps zs.toArray)).Pairwise (· < ·) := List.Pairwise.filter _ List.pairwise_lt_range
 refine List.Pairwise.imp_of_mem (fun {i j} hi hj hij => ?_) hp
 rw [List.mem_filter, List.mem_range] at hi hj
 have hk := hj.2
 unfold Go.Lib.keeps at hk
 rw [decide_eq_true_eq] at hk
 have hk2 : zs.toArray[j]! ≠ zs.toArray[j - 1]! := hk.resolve_left (by omega)
 rw [get_bang zs j hj.1, get_bang zs (j - 1) (by omega)] at hk2
 rw [get_bang zs i hi.1, get_bang zs j hj.1]
 have h1 : zs[j - 1]'(by omega) ≤ zs[j] := List.pairwise_iff_getElem.1 h (j - 1) j (by omega) hj.1 (by omega)
 have h2 : zs[i] ≤ zs[j - 1]'(by omega) := by
  by_cases e : i = j - 1
  ·subst e; exact List.le_refl _
  ·exact List.pairwise_iff_getElem.1 h i (j - 1) hi.1 (by omega) (by omega)
 refine List.lt_of_le_of_lt h2 ?_
 rcases List.le_iff_lt_or_eq.1 h1 with g | g
 ·exact g
 ·exact absurd g.symm hk2
theorem compact_mem (zs : List (List UInt8)) (x : List UInt8) : x ∈ Go.Lib.compact zs ↔ x ∈ zs := by
 unfold Go.Lib.compact Go.Lib.compactUpTo
 rw [List.mem_map]
 constructor
 ·rintro ⟨j, hj, rfl⟩
  rw [List.mem_filter, List.mem_range] at hj
  rw [get_bang zs j hj.1]
  exact List.getElem_mem _
 ·intro hx
  obtain ⟨j, hj, rfl⟩ := List.mem_iff_getElem.1 hx
  have key : ∀ n, n < zs.length → ∃ m, m < zs.length ∧ Go.Lib.keeps zs.toArray m = true ∧ zs.toArray[m]! = zs.toArray[n]! := by
   intro n
   induction n with
   | zero => intro h; exact ⟨0, h, by unfold Go.Lib.keeps; exact decide_eq_true (Or.inl rfl), rfl⟩
   | succ n ih =>
    intro h
    by_cases e : zs.toArray[n + 1]! = zs.toArray[n]!
    ·obtain ⟨m, h1, h2, h3⟩ := ih (by omega)
     exact ⟨m, h1, h2, h3.trans e.symm⟩
    ·exact ⟨n + 1, h, by unfold Go.Lib.keeps; exact decide_eq_true (Or.inr e), rfl⟩
  obtain ⟨m, h1, h2, h3⟩ := key j hj
  refine ⟨m, ?_, by rw [h3, get_bang zs j hj]⟩
  rw [List.mem_filter, List.mem_range]
  exact ⟨h1, h2⟩
/-- What Sort and Compact make of a list. -/
def sorted1 (l : List ByteArray) : List ByteArray := Go.Proofs.YtobickehjnogjaaGreatDoor.H.unB (Go.Lib.compact (Go.Proofs.YtobickehjnogjaaGreatDoor.H.sortB l))
theorem sortB_le (l : List ByteArray) : (Go.Proofs.YtobickehjnogjaaGreatDoor.H.sortB l).Pairwise (fun a b => a ≤ b) := by
 have h := List.pairwise_mergeSort (le := fun x y : List UInt8 => decide (x ≤ y)) (fun a b c h1 h2 => decide_eq_true (List.le_trans (of_decide_eq_true h1) (of_decide_eq_true h2))) (fun a b => by
  rcases List.le_total a b with h | h
  ·simp [h]
  ·simp [h]) (Go.Proofs.YtobickehjnogjaaGreatDoor.H.bytesL l)
 exact List.Pairwise.imp (fun h => of_decide_eq_true h) h
theorem sorted1_SS (l : List ByteArray) : SS (sorted1 l) := by
 unfold SS sorted1 Go.Proofs.YtobickehjnogjaaGreatDoor.H.unB
 rw [List.pairwise_map]
 exact compact_lt _ (sortB_le l)
theorem sorted1_mem (l : List ByteArray) (x : ByteArray) : x ∈ sorted1 l ↔ x ∈ l := by
 unfold sorted1 Go.Proofs.YtobickehjnogjaaGreatDoor.H.unB
 rw [List.mem_map]
 constructor
 ·rintro ⟨b, hb, rfl⟩
  rw [compact_mem] at hb
  unfold Go.Proofs.YtobickehjnogjaaGreatDoor.H.sortB at hb
  rw [List.mem_mergeSort] at hb
  unfold Go.Proofs.YtobickehjnogjaaGreatDoor.H.bytesL at hb
  obtain ⟨y, hy, rfl⟩ := List.mem_map.1 hb
  exact hy
 ·intro hx
  refine ⟨x.data.toList, ?_, rfl⟩
  rw [compact_mem]
  unfold Go.Proofs.YtobickehjnogjaaGreatDoor.H.sortB
  rw [List.mem_mergeSort]
  unfold Go.Proofs.YtobickehjnogjaaGreatDoor.H.bytesL
  exact List.mem_map.2 ⟨x, hx, rfl⟩
/-- The reference's insertion: one more element, or the list as it was. -/
theorem put_l0 (l : List ByteArray) (w : ByteArray) (hl : l.length ≤ 1048576) (hs : SS l) : ∀ (d i k : Nat), i + d = l.length → d < k → (∀ x ∈ l.take i, kb x < kb w) →
  ∃ r, spec_l04Put.l0 k l w (i : Int) = some r ∧ SS r ∧ (∀ x, x ∈ r ↔ x ∈ l ∨ x = w) ∧ r.length ≤ l.length + 1 := by
 intro d
 induction d with
 | zero =>
  intro i k hi hk hlt
  obtain ⟨k, rfl⟩ : ∃ m, k = m + 1 := ⟨k - 1, by omega⟩
  have hi2 : i = l.length := by omega
  have ht : l.take i = l := List.take_of_length_le (by omega)
  simp only [spec_l04Put.l0]
  rw [if_neg (by omega), Option.bind_some, if_pos (by omega), if_pos (by omega), Int.toNat_natCast, ht, List.drop_eq_nil_of_le (by omega)]
  simp only [Option.bind_some, List.nil_append, List.length_nil, Nat.zero_add, List.append_nil]
  rw [if_pos (by omega), if_pos (by omega), if_pos (by simp; omega)]
  rw [ht] at hlt
  refine ⟨_, rfl, ?_, fun x => by simp, by simp⟩
  unfold SS
  rw [List.pairwise_append]
  exact ⟨hs, List.pairwise_singleton _ _, fun a ha b hb => by rw [List.mem_singleton] at hb; rw [hb]; exact hlt a ha⟩
 | succ d ih =>
  intro i k hi hk hlt
  obtain ⟨k, rfl⟩ : ∃ m, k = m + 1 := ⟨k - 1, by omega⟩
  have hil : i < l.length := by omega
  have hd := drop_rdS l i hil
  have htk : l.take (i + 1) = l.take i ++ [rdOf ByteArray.empty l (i : Int)] := by rw [take_getD ByteArray.empty l i hil, rdS_nat]
  simp only [spec_l04Put.l0]
  rw [if_pos (by omega), if_pos (by omega), less_kb]
  generalize rdOf ByteArray.empty l (i : Int) = u at hd htk
  have hmu : u ∈ l := by
   have : u ∈ l.drop i := by rw [hd]; exact List.mem_cons_self
   exact List.mem_of_mem_drop this
  by_cases c : kb u < kb w
  ·rw [if_pos (decide_eq_true c), wrap_nat i (by omega)]
   exact ih (i + 1) k (by omega) (by omega) (fun x hx => by
    rw [htk, List.mem_append, List.mem_singleton] at hx
    rcases hx with hx | hx
    ·exact hlt x hx
    ·rw [hx]; exact c)
  ·rw [if_neg (by rw [decide_eq_true_eq]; exact c)]
   by_cases e : u = w
   ·rw [if_pos ((toList_inj u w).2 e)]
    exact ⟨l, rfl, hs, fun x => ⟨fun h => Or.inl h, fun h => h.elim id (fun h => by rw [h, ← e]; exact hmu)⟩, by omega⟩
   ·rw [if_neg (fun z => e ((toList_inj u w).1 z)), Option.bind_some, if_pos (by omega), Int.toNat_natCast]
    simp only [Option.bind_some, List.nil_append, List.length_nil, Nat.zero_add]
    have hlen : (l.take i).length = i := by rw [List.length_take]; omega
    rw [if_pos (by omega), if_pos (by omega), if_pos (by simp; omega)]
    refine ⟨_, rfl, ?_, fun x => ?_, ?_⟩
    ·have hwu : kb w < kb u := by
      rcases List.le_iff_lt_or_eq.1 (show kb w ≤ kb u from c) with g | g
      ·exact g
      ·exact absurd (kb_inj g).symm e
     have hsp : SS (l.take i ++ l.drop i) := by rw [List.take_append_drop]; exact hs
     unfold SS at hsp ⊢
     rw [List.pairwise_append] at hsp
     have hcons := hsp.2.1
     rw [hd, List.pairwise_cons] at hcons
     have hwd : ∀ y ∈ l.drop i, kb w < kb y := by
      intro y hy
      rw [hd] at hy
      rcases List.mem_cons.1 hy with rfl | hy
      ·exact hwu
      ·exact List.lt_trans hwu (hcons.1 y hy)
     rw [List.pairwise_append, List.pairwise_append]
     refine ⟨⟨hsp.1, List.pairwise_singleton _ _, fun a ha b hb => by rw [List.mem_singleton] at hb; rw [hb]; exact hlt a ha⟩, hsp.2.1, fun a ha b hb => ?_⟩
     rw [List.mem_append, List.mem_singleton] at ha
     rcases ha with ha | ha
     ·exact hsp.2.2 a ha b hb
     ·rw [ha]; exact hwd b hb
    ·have hm : x ∈ l ↔ x ∈ l.take i ∨ x ∈ l.drop i := by rw [← List.mem_append, List.take_append_drop]
     rw [hm]
     simp only [List.mem_append, List.mem_singleton]
     constructor
     ·rintro ((h | h) | h)
      ·exact Or.inl (Or.inl h)
      ·exact Or.inr h
      ·exact Or.inl (Or.inr h)
     ·rintro ((h | h) | h)
      ·exact Or.inl (Or.inl h)
      ·exact Or.inr h
      ·exact Or.inl (Or.inr h)
    ·simp; omega
theorem put_eq (l : List ByteArray) (w : ByteArray) (hl : l.length ≤ 1048576) (hs : SS l) (k : Nat) (hk : l.length < k) :
  ∃ r, spec_l04Put.f k l w = some r ∧ SS r ∧ (∀ x, x ∈ r ↔ x ∈ l ∨ x = w) ∧ r.length ≤ l.length + 1 := by
 unfold spec_l04Put.f
 exact put_l0 l w hl hs l.length 0 k (by omega) hk (fun x hx => by simp at hx)

/-! Words of which a habit makes a word: the tests, and what Sort, Compact and DeleteFunc leave. -/
def okP (f A B : Int) (w s : ByteArray) : Bool := wordOk s && decide (hearF f A B s = w)
theorem tried_eq (f A B : Int) (hA : 0 ≤ A ∧ A ≤ 255) (l : List ByteArray) (hl : l.length ≤ 1000000) (hs : SS l) (s w : ByteArray) (hz : s.size ≤ 1000) (k : Nat) (hk : 1001100 < k) :
  ∃ r, spec_l04Tried.f k l f A B s w = some r ∧ SS r ∧ (∀ x, x ∈ r ↔ x ∈ l ∨ (x = s ∧ okP f A B w s = true)) ∧ r.length ≤ l.length + 1 := by
 unfold spec_l04Tried.f okP
 rw [l04Word_eq s (by omega) k (by omega), Option.bind_some]
 by_cases c : wordOk s = true
 ·have hz2 := wordOk_size s c
  rw [if_pos c, specHear_eq f A B hA s hz2.1 hz2.2 k (by omega), Option.bind_some]
  by_cases e : hearF f A B s = w
  ·obtain ⟨r, h1, h2, h3, h4⟩ := put_eq l s (by omega) hs k (by omega)
   rw [if_pos ((toList_inj _ _).2 e), h1]
   refine ⟨r, rfl, h2, fun x => ?_, h4⟩
   rw [h3 x]
   simp [c, e]
  ·rw [if_neg (fun z => e ((toList_inj _ _).1 z))]
   refine ⟨l, rfl, hs, fun x => ?_, by omega⟩
   simp [e]
 ·rw [if_neg c]
  refine ⟨l, rfl, hs, fun x => ?_, by omega⟩
  simp [c]
theorem past1_eq (f A B m : Int) (hA : 0 ≤ A ∧ A ≤ 255) (hB : 0 ≤ B ∧ B ≤ 255) (s w : ByteArray) (hz : s.size ≤ 1000) (k : Nat) (hk : 1000 < k) : impl_Habit_pasts_1.f k s f A B w m = some (!okP f A B w s) := by
 unfold impl_Habit_pasts_1.f okP
 rw [isWord_eq s (by omega) k (by omega), Option.bind_some]
 by_cases c : wordOk s = true
 ·have hz2 := wordOk_size s c
  rw [if_pos c, implHear_eq f A B m hA hB s hz2.1 hz2.2, Option.bind_some, c, Bool.true_and]
  by_cases e : hearF f A B s = w
  ·rw [e]; simp
  ·have e2 : (hearF f A B s).toList ≠ w.toList := fun z => e ((toList_inj _ _).1 z)
   simp [e, e2]
 ·rw [if_neg c]; simp [c]
theorem keepO_filter (p : ByteArray → Option Bool) (g : ByteArray → Bool) : ∀ ts : List ByteArray, (∀ s ∈ ts, p s = some (!g s)) → Go.Proofs.YtobickehjnogjaaGreatDoor.H.keepO p ts = some (ts.filter g)
 | [], _ => rfl
 | x :: r, h => by
  have ih := keepO_filter p g r (fun s hs => h s (List.mem_cons_of_mem _ hs))
  unfold Go.Proofs.YtobickehjnogjaaGreatDoor.H.keepO
  rw [h x List.mem_cons_self, ih, Option.bind_some, Option.bind_some, List.filter_cons]
  cases g x <;> rfl
theorem idx_l0 (f A B m : Int) (w : ByteArray) (g : ByteArray → Bool) (K : Nat) (l : List ByteArray) (hl : l.length ≤ 1000000) (hp : ∀ s ∈ l, ∀ k, K < k → impl_Habit_pasts_1.f k s f A B w m = some (!g s)) (k0 : Nat) (hk0 : K < k0) :
  ∀ (d i k : Nat), i + d = l.length → d + K < k → (∀ s ∈ l.take i, g s = true) →
  ∃ r, slices_IndexFunc_Sstring_string_at_pasts_1.l0 k l (l.length : Int) (i : Int) f A B w m = some r ∧ Go.Proofs.YtobickehjnogjaaGreatDoor.H.delRest (fun s => impl_Habit_pasts_1.f k0 s f A B w m) l r = some (l.filter g) := by
 intro d
 induction d with
 | zero =>
  intro i k hi hk hg
  obtain ⟨k, rfl⟩ : ∃ m, k = m + 1 := ⟨k - 1, by omega⟩
  simp only [slices_IndexFunc_Sstring_string_at_pasts_1.l0]
  rw [if_neg (by omega)]
  rw [List.take_of_length_le (by omega)] at hg
  refine ⟨-1, rfl, ?_⟩
  unfold Go.Proofs.YtobickehjnogjaaGreatDoor.H.delRest
  rw [if_pos rfl, List.filter_eq_self.2 hg]
 | succ d ih =>
  intro i k hi hk hg
  obtain ⟨k, rfl⟩ : ∃ m, k = m + 1 := ⟨k - 1, by omega⟩
  have hil : i < l.length := by omega
  have hd := drop_rdS l i hil
  have htk : l.take (i + 1) = l.take i ++ [rdOf ByteArray.empty l (i : Int)] := by rw [take_getD ByteArray.empty l i hil, rdS_nat]
  simp only [slices_IndexFunc_Sstring_string_at_pasts_1.l0]
  rw [if_pos (by omega), if_pos (by omega), if_pos (by omega)]
  generalize rdOf ByteArray.empty l (i : Int) = u at hd htk
  have hmu : u ∈ l := by
   have : u ∈ l.drop i := by rw [hd]; exact List.mem_cons_self
   exact List.mem_of_mem_drop this
  rw [hp u hmu k (by omega), Option.bind_some]
  cases hgu : g u with
  | false =>
   rw [if_pos (show (!false) = true from rfl)]
   refine ⟨(i : Int), rfl, ?_⟩
   unfold Go.Proofs.YtobickehjnogjaaGreatDoor.H.delRest
   rw [if_neg (by omega), if_pos ⟨by omega, by omega⟩, Int.toNat_natCast, keepO_filter _ g (l.drop (i + 1)) (fun s hs => hp s (List.mem_of_mem_drop hs) k0 hk0), Option.map_some]
   conv => rhs; rw [← List.take_append_drop i l, List.filter_append, List.filter_eq_self.2 hg, hd, List.filter_cons, hgu]
   rfl
  | true =>
   rw [if_neg (by simp), wrap_nat i (by omega)]
   exact ih (i + 1) k (by omega) (by omega) (fun s hs => by
    rw [htk, List.mem_append, List.mem_singleton] at hs
    rcases hs with hs | hs
    ·exact hg s hs
    ·rw [hs]; exact hgu)
theorem unB_len (s : List (List UInt8)) : (Go.Proofs.YtobickehjnogjaaGreatDoor.H.unB s).length = s.length := List.length_map _
theorem pastsf_eq (f A B m : Int) (hA : 0 ≤ A ∧ A ≤ 255) (hB : 0 ≤ B ∧ B ≤ 255) (w : ByteArray) (ts : List ByteArray) (k : Nat) (ht : impl_Habit_tries.f k f A B w = some ts) (h0 : 0 < ts.length) (h1 : ts.length ≤ 1000000) (hz : ∀ s ∈ ts, s.size ≤ 1000) (hk : 1001100 < k) :
  impl_Habit_pasts.f k f A B w m = some (sorted1 (ts.filter (okP f A B w))) := by
 unfold impl_Habit_pasts.f
 rw [ht, Option.bind_some, if_pos h0]
 obtain ⟨r, e1, e2⟩ := idx_l0 f A B m w (okP f A B w) 1000 ts h1 (fun s hs k hk => past1_eq f A B m hA hB s w (hz s hs) k hk) k (by omega) ts.length 0 k (by omega) (by omega) (fun s hs => by simp at hs)
 unfold slices_IndexFunc_Sstring_string_at_pasts_1.f
 rw [show ((0 : Nat) : Int) = 0 from rfl] at e1
 rw [e1, Option.bind_some, e2, Option.bind_some, if_pos (by have := List.length_filter_le (okP f A B w) ts; omega)]
 rfl

/-! The program's tries. -/
def TLs (A B : Int) (w : List Int) : Nat → List (List Int)
 | 0 => [[]]
 | i + 1 => (TLs A B w i).flatMap (fun s => (s ++ [w.getD i 0]) :: (if w.getD i 0 = B then [s ++ [A]] else []))
theorem strN_append (a b : List Int) : strOfNums (a ++ b) = strOfNums a ++ strOfNums b := by
 unfold strOfNums
 apply ByteArray.ext
 simp
theorem strN_size (a : List Int) : (strOfNums a).size = a.length := by
 unfold strOfNums
 show (List.toArray _).size = _
 simp
theorem strN_bytes (w : ByteArray) : strOfNums (bytesOf w) = w := by
 unfold strOfNums bytesOf
 rw [List.map_map, show ((fun n : Int => UInt8.ofNat n.toNat) ∘ fun b : UInt8 => (b.toNat : Int)) = id from funext (fun b => by simp), List.map_id]
theorem ext_one (w : ByteArray) (i : Nat) (h : i < w.size) : w.extract i (i + 1) = strOfNums [bt w (i : Int)] := by
 rw [bt_list w i h]
 unfold strOfNums
 apply ByteArray.ext
 have h2 : i < w.data.toList.length := by rw [data_length]; exact h
 have h3 : (w.data.extract i (i + 1)).toList = [w.data.toList.getD i 0] := by
  rw [Array.toList_extract]
  simp only [List.extract_eq_take_drop, Nat.add_sub_cancel_left]
  rw [drop_getD (0 : UInt8) w.data.toList i h2]
  rfl
 apply Array.ext'
 rw [ByteArray.data_extract, h3]
 simp
theorem TLs_len (A B : Int) (w : List Int) : ∀ i s, s ∈ TLs A B w i → s.length = i
 | 0, s, h => by simp [TLs] at h; simp [h]
 | i + 1, s, h => by
  unfold TLs at h
  rw [List.mem_flatMap] at h
  obtain ⟨t, ht, h⟩ := h
  have ih := TLs_len A B w i t ht
  rcases List.mem_cons.1 h with rfl | h
  ·simp [ih]
  ·split at h
   ·rw [List.mem_singleton] at h; rw [h]; simp [ih]
   ·simp at h
theorem TLs_count (A B : Int) (w : List Int) : ∀ i, 1 ≤ (TLs A B w i).length ∧ (TLs A B w i).length ≤ 2 ^ i
 | 0 => by simp [TLs]
 | i + 1 => by
  have ih := TLs_count A B w i
  unfold TLs
  have h : ∀ L : List (List Int), L.length ≤ (L.flatMap (fun s => (s ++ [w.getD i 0]) :: (if w.getD i 0 = B then [s ++ [A]] else []))).length ∧ (L.flatMap (fun s => (s ++ [w.getD i 0]) :: (if w.getD i 0 = B then [s ++ [A]] else []))).length ≤ 2 * L.length := by
   intro L
   induction L with
   | nil => simp
   | cons a L ih =>
    rw [List.flatMap_cons, List.length_append, List.length_cons, List.length_cons]
    split
    ·rename_i e; simp only [e, if_true] at ih ⊢; simp at ih ⊢; omega
    ·rename_i e; simp only [e, if_false] at ih ⊢; simp at ih ⊢; omega
  have h2 := h (TLs A B w i)
  rw [Nat.pow_succ]
  omega
theorem TLs_mem (A B : Int) (w : List Int) : ∀ i s, s ∈ TLs A B w i ↔ s.length = i ∧ ∀ j, j < i → s.getD j 0 = w.getD j 0 ∨ (w.getD j 0 = B ∧ s.getD j 0 = A)
 | 0, s => by simp [TLs]
 | i + 1, s => by
  unfold TLs
  rw [List.mem_flatMap]
  constructor
  ·rintro ⟨t, ht, h⟩
   obtain ⟨hl, hj⟩ := (TLs_mem A B w i t).1 ht
   have key : ∀ c, s = t ++ [c] → (c = w.getD i 0 ∨ (w.getD i 0 = B ∧ c = A)) → s.length = i + 1 ∧ ∀ j, j < i + 1 → s.getD j 0 = w.getD j 0 ∨ (w.getD j 0 = B ∧ s.getD j 0 = A) := by
    rintro c rfl hc
    refine ⟨by simp [hl], fun j hj2 => ?_⟩
    by_cases e : j < i
    ·rw [show (t ++ [c]).getD j 0 = t.getD j 0 by rw [List.getD_eq_getElem?_getD, List.getElem?_append_left (by omega), List.getD_eq_getElem?_getD]]
     exact hj j e
    ·obtain rfl : j = i := by omega
     rw [show (t ++ [c]).getD j 0 = c by rw [List.getD_eq_getElem?_getD, List.getElem?_append_right (by omega), hl, Nat.sub_self]; rfl]
     exact hc
   rcases List.mem_cons.1 h with h | h
   ·exact key _ h (Or.inl rfl)
   ·split at h
    ·rename_i e
     rw [List.mem_singleton] at h
     exact key A h (Or.inr ⟨e, rfl⟩)
    ·simp at h
  ·rintro ⟨hl, hj⟩
   refine ⟨s.take i, (TLs_mem A B w i _).2 ⟨by rw [List.length_take]; omega, fun j hj2 => ?_⟩, ?_⟩
   ·have := hj j (by omega)
    rwa [show (s.take i).getD j 0 = s.getD j 0 by rw [List.getD_eq_getElem?_getD, List.getElem?_take, if_pos hj2, List.getD_eq_getElem?_getD]]
   ·have e1 : s = s.take i ++ [s.getD i 0] := by
     have := take_getD 0 s i (by omega)
     rw [List.take_of_length_le (by omega)] at this
     exact this
    rcases hj i (by omega) with h | ⟨h1, h2⟩
    ·rw [← h, ← e1]; exact List.mem_cons_self
    ·rw [if_pos h1, ← h2, ← e1]; exact List.mem_cons_of_mem _ (List.mem_singleton.2 rfl)
theorem TLs_nodup (A B : Int) (hAB : A ≠ B) (w : List Int) : ∀ i, (TLs A B w i).Nodup
 | 0 => by simp [TLs]
 | i + 1 => by
  have ih := TLs_nodup A B hAB w i
  unfold TLs
  unfold List.Nodup at ih ⊢
  rw [List.pairwise_flatMap]
  refine ⟨fun s hs => ?_, ?_⟩
  ·split
   ·rename_i e
    rw [List.pairwise_cons]
    refine ⟨fun a ha => ?_, List.pairwise_singleton _ _⟩
    rw [List.mem_singleton] at ha
    rw [ha, e]
    intro z
    have := List.append_cancel_left z
    simp at this
    exact hAB this.symm
   ·exact List.pairwise_singleton _ _
  ·refine List.Pairwise.imp_of_mem (fun {a b} ha hb hab => ?_) ih
   have la := TLs_len A B w i a ha
   have lb := TLs_len A B w i b hb
   have key : ∀ s x, x ∈ (s ++ [w.getD i 0]) :: (if w.getD i 0 = B then [s ++ [A]] else []) → ∃ c, x = s ++ [c] := by
    intro s x hx
    rcases List.mem_cons.1 hx with h | h
    ·exact ⟨_, h⟩
    ·split at h
     ·exact ⟨A, List.mem_singleton.1 h⟩
     ·simp at h
   intro x hx y hy e
   obtain ⟨c, rfl⟩ := key a x hx
   obtain ⟨c', rfl⟩ := key b y hy
   exact hab (List.append_inj_left e (by omega))
/-- So many B's, so many words. -/
def countB (B : Int) (w : List Int) (i : Nat) : Nat := ((List.range i).filter (fun j => decide (w.getD j 0 = B))).length
theorem TLs_pow (A B : Int) (w : List Int) : ∀ i, (TLs A B w i).length = 2 ^ countB B w i
 | 0 => by simp [TLs, countB]
 | i + 1 => by
  have ih := TLs_pow A B w i
  have hc : countB B w (i + 1) = countB B w i + (if w.getD i 0 = B then 1 else 0) := by
   unfold countB
   rw [List.range_succ, List.filter_append, List.length_append]
   congr 1
   by_cases e : w.getD i 0 = B
   ·rw [if_pos e, List.filter_cons, if_pos (decide_eq_true e)]; rfl
   ·rw [if_neg e, List.filter_cons, if_neg (by rw [decide_eq_true_eq]; exact e)]; rfl
  rw [hc]
  clear hc
  unfold TLs
  by_cases e : w.getD i 0 = B
  ·rw [if_pos e, Nat.pow_succ, ← ih]
   generalize TLs A B w i = L
   induction L with
   | nil => rfl
   | cons a L ih2 => rw [List.flatMap_cons, List.length_append, ih2, if_pos e]; simp only [List.length_cons, List.length_nil]; omega
  ·rw [if_neg e, Nat.add_zero, ← ih]
   generalize TLs A B w i = L
   induction L with
   | nil => rfl
   | cons a L ih2 => rw [List.flatMap_cons, List.length_append, ih2, if_neg e]; simp only [List.length_cons, List.length_nil]; omega
theorem tries_l1 (f A B : Int) (w : ByteArray) (hw : w.size ≤ 12) (i : Nat) (hi : i < w.size) (L : List (List Int)) (hL : ∀ s ∈ L, s.length ≤ 12) (hn : L.length ≤ 5000) : ∀ (d j k : Nat) (acc : List ByteArray), j + d = L.length → acc.length ≤ 2 * j →
  impl_Habit_tries.l1 (k + d + 1) w (i : Int) acc (w.size : Int) (i : Int) (L.map strOfNums) (L.length : Int) (j : Int) f A B
   = impl_Habit_tries.l0 k w (acc ++ ((L.drop j).flatMap (fun s => (s ++ [bt w (i : Int)]) :: (if bt w (i : Int) = B then [s ++ [A]] else []))).map strOfNums) (w.size : Int) ((i + 1 : Nat) : Int) f A B := by
 intro d
 induction d with
 | zero =>
  intro j k acc hj ha
  simp only [impl_Habit_tries.l1, Nat.add_zero]
  rw [if_neg (by omega), List.drop_eq_nil_of_le (by omega), wrap_nat i (by omega)]
  simp
 | succ d ih =>
  intro j k acc hj ha
  have hjl : j < L.length := by omega
  have hr : rdOf ByteArray.empty (L.map strOfNums) (j : Int) = strOfNums L[j] := by
   rw [rdS_nat, List.getD_eq_getElem?_getD, List.getElem?_map, List.getElem?_eq_getElem hjl]; rfl
  have hs := hL L[j] (List.getElem_mem hjl)
  rw [List.drop_eq_getElem_cons hjl, show k + (d + 1) + 1 = (k + d + 1) + 1 by omega]
  have ih2 := fun j acc => ih j k acc
  clear ih
  generalize k + d + 1 = M at ih2 ⊢
  simp only [impl_Habit_tries.l1, List.length_map]
  rw [hr]
  generalize L[j] = s at hs
  have e1 : w.extract i (i + 1) = strOfNums [bt w (i : Int)] := ext_one w i hi
  rw [if_pos (by omega), if_pos (by omega), if_pos (by omega), if_pos (by omega), wrap_nat i (by omega), if_pos (by omega), if_pos (by omega), Int.toNat_natCast, Int.toNat_natCast, e1, strN_size, strN_size, if_pos (by simp; omega), if_pos (by omega), Option.bind_some, if_pos (by omega), wrap_nat j (by omega), ← strN_append]
  by_cases e : bt w (i : Int) = B
  ·rw [if_pos e, Option.bind_some, strN_size, if_pos (by simp; omega), if_pos (by simp; omega), ← strN_append, ih2 (j + 1) _ (by omega) (by simp; omega)]
   simp [e]
  ·rw [if_neg e, ih2 (j + 1) _ (by omega) (by simp; omega)]
   simp [e]
theorem bt_getD (w : ByteArray) (i : Nat) : (bytesOf w).getD i 0 = bt w (i : Int) := by rw [← rd_bytesOf, rd_nat]
theorem tries_l0 (f A B : Int) (w : ByteArray) (hw : w.size ≤ 12) : ∀ (d i k q : Nat), i + d = w.size → q = d * 5010 → q < k →
  impl_Habit_tries.l0 k w ((TLs A B (bytesOf w) i).map strOfNums) (w.size : Int) (i : Int) f A B = some ((TLs A B (bytesOf w) w.size).map strOfNums) := by
 intro d
 induction d with
 | zero =>
  intro i k q hi _ hk
  obtain ⟨k, rfl⟩ : ∃ m, k = m + 1 := ⟨k - 1, by omega⟩
  obtain rfl : i = w.size := by omega
  simp only [impl_Habit_tries.l0]
  rw [if_neg (by omega)]
 | succ d ih =>
  intro i k q hi hq hk
  rw [Nat.succ_mul] at hq
  have ih3 := fun i k => ih i k (d * 5010)
  clear ih
  generalize d * 5010 = q2 at hq ih3
  obtain ⟨k, rfl⟩ : ∃ m, k = m + 1 := ⟨k - 1, by omega⟩
  have hc := TLs_count A B (bytesOf w) i
  have hp : 2 ^ i ≤ 2 ^ 12 := Nat.pow_le_pow_right (by decide) (by omega)
  simp only [impl_Habit_tries.l0, List.length_map]
  rw [if_pos (by omega)]
  obtain ⟨k2, hk2⟩ : ∃ k2, k = k2 + (TLs A B (bytesOf w) i).length + 1 := ⟨k - (TLs A B (bytesOf w) i).length - 1, by omega⟩
  rw [hk2]
  have h := tries_l1 f A B w hw i (by omega) (TLs A B (bytesOf w) i) (fun s hs => by have := TLs_len A B (bytesOf w) i s hs; omega) (by omega) (TLs A B (bytesOf w) i).length 0 k2 [] (by omega) (by simp)
  rw [show ((0 : Nat) : Int) = 0 from rfl, List.drop_zero, List.nil_append] at h
  rw [h]
  have h2 := ih3 (i + 1) k2 (by omega) rfl (by omega)
  rw [← h2]
  conv => rhs; unfold TLs
  rw [bt_getD]
def insL (A : Int) (w : ByteArray) (i : Nat) : ByteArray := (w.extract 0 i ++ strOfNums [A]) ++ w.extract i w.size
theorem tries_l2 (f A B : Int) (w : ByteArray) (hw : w.size ≤ 12) : ∀ (d i k : Nat) (acc : List ByteArray), i + d = w.size + 1 → d < k → acc.length ≤ i + 2 →
  impl_Habit_tries.l2 k w acc ((w.size : Int) + 1) (i : Int) f A B = some (acc ++ (List.range' i d).map (insL A w)) := by
 intro d
 induction d with
 | zero =>
  intro i k acc hi hk ha
  obtain ⟨k, rfl⟩ : ∃ m, k = m + 1 := ⟨k - 1, by omega⟩
  simp only [impl_Habit_tries.l2]
  rw [if_neg (by omega)]
  simp
 | succ d ih =>
  intro i k acc hi hk ha
  obtain ⟨k, rfl⟩ : ∃ m, k = m + 1 := ⟨k - 1, by omega⟩
  simp only [impl_Habit_tries.l2, Option.bind_some]
  have s1 : (strOfNums [A]).size = 1 := rfl
  rw [if_pos (by omega), if_pos (by omega), if_pos (by omega), s1, Int.toNat_natCast, if_pos (by simp only [ByteArray.size_extract]; omega), if_pos (by simp only [ByteArray.size_extract]; omega), if_pos (by omega), wrap_nat i (by omega), ih (i + 1) k _ (by omega) (by omega) (by simp; omega), List.range'_succ]
  simp [insL]
def triesL (f A B : Int) (w : ByteArray) : List ByteArray :=
 if f = 1 then (TLs A B (bytesOf w) w.size).map strOfNums
 else if f = 2 then [w, strOfNums (bytesOf w).reverse] ++ (List.range' 0 (w.size + 1)).map (insL A w)
 else if f = 3 then [w, strOfNums (bytesOf w).reverse] ++ [w.extract 0 (w.size - 1)]
 else [w, strOfNums (bytesOf w).reverse]
theorem tries_eq (f A B : Int) (w : ByteArray) (h1 : 1 ≤ w.size) (h2 : w.size ≤ 12) (k : Nat) (hk : 100000 < k) : impl_Habit_tries.f k f A B w = some (triesL f A B w) := by
 unfold impl_Habit_tries.f impl_turned.f triesL
 rw [if_pos (by omega), Option.bind_some, Option.bind_some]
 by_cases c1 : f = 1
 ·rw [if_pos c1, if_pos c1]
  have hq : w.size * 5010 ≤ 12 * 5010 := Nat.mul_le_mul_right _ h2
  have h := tries_l0 f A B w h2 w.size 0 k _ (by omega) rfl (Nat.lt_of_le_of_lt hq (by omega))
  rw [show ((0 : Nat) : Int) = 0 from rfl] at h
  exact h
 ·rw [if_neg c1, if_neg c1]
  by_cases c2 : f = 2
  ·rw [if_pos c2, if_pos c2, wrap64_id _ (by omega) (by omega)]
   have h := tries_l2 f A B w h2 (w.size + 1) 0 k [w, strOfNums (bytesOf w).reverse] (by omega) (by omega) (by simp)
   rw [show ((0 : Nat) : Int) = 0 from rfl] at h
   exact h
  ·rw [if_neg c2, if_neg c2]
   by_cases c3 : f = 3
   ·rw [if_pos c3, if_pos c3, wrap64_id _ (by omega) (by omega), if_pos (by omega), if_pos (by omega), if_pos (by simp)]
    rw [show ((w.size : Int) - 1).toNat = w.size - 1 by omega]
   ·rw [if_neg c3, if_neg c3]
theorem insL_size (A : Int) (w : ByteArray) (i : Nat) (h : i ≤ w.size) : (insL A w i).size = w.size + 1 := by
 have s1 : (strOfNums [A]).size = 1 := rfl
 unfold insL
 rw [ByteArray.size_append, ByteArray.size_append, s1]
 simp only [ByteArray.size_extract]
 omega
theorem rev_size (w : ByteArray) : (strOfNums (bytesOf w).reverse).size = w.size := by rw [strN_size, List.length_reverse, bytesOf_length]
theorem triesL_facts (f A B : Int) (w : ByteArray) (h1 : 1 ≤ w.size) (h2 : w.size ≤ 12) : 0 < (triesL f A B w).length ∧ (triesL f A B w).length ≤ 5000 ∧ ∀ s ∈ triesL f A B w, s.size ≤ 100 := by
 unfold triesL
 split
 ·have hc := TLs_count A B (bytesOf w) w.size
  have hp : 2 ^ w.size ≤ 2 ^ 12 := Nat.pow_le_pow_right (by decide) h2
  refine ⟨by rw [List.length_map]; omega, by rw [List.length_map]; omega, fun s hs => ?_⟩
  obtain ⟨t, ht, rfl⟩ := List.mem_map.1 hs
  rw [strN_size, TLs_len A B _ _ t ht]; omega
 ·have hr := rev_size w
  split
  ·refine ⟨by simp, by simp; omega, fun s hs => ?_⟩
   simp only [List.mem_append, List.mem_cons, List.not_mem_nil, or_false, List.mem_map, List.mem_range'_1] at hs
   rcases hs with (rfl | rfl) | ⟨i, hi, rfl⟩
   ·omega
   ·omega
   ·rw [insL_size A w i (by omega)]; omega
  ·split
   ·refine ⟨by simp, by simp, fun s hs => ?_⟩
    simp only [List.mem_append, List.mem_cons, List.not_mem_nil, or_false] at hs
    rcases hs with (rfl | rfl) | rfl
    ·omega
    ·omega
    ·simp only [ByteArray.size_extract]; omega
   ·refine ⟨by simp, by simp, fun s hs => ?_⟩
    simp only [List.mem_cons, List.not_mem_nil, or_false] at hs
    rcases hs with rfl | rfl <;> omega
theorem implPasts_eq (f A B m : Int) (hA : 0 ≤ A ∧ A ≤ 255) (hB : 0 ≤ B ∧ B ≤ 255) (w : ByteArray) (h1 : 1 ≤ w.size) (h2 : w.size ≤ 12) (k : Nat) (hk : 1001100 < k) :
  impl_Habit_pasts.f k f A B w m = some (sorted1 ((triesL f A B w).filter (okP f A B w))) := by
 obtain ⟨z1, z2, z3⟩ := triesL_facts f A B w h1 h2
 exact pastsf_eq f A B m hA hB w _ k (tries_eq f A B w h1 h2 k (by omega)) z1 (by omega) (fun s hs => by have := z3 s hs; omega) hk

/-! The reference's words, where nothing is swapped. -/
theorem dropB_size (A : Int) (w : ByteArray) : (dropB A w).size ≤ w.size := by
 unfold dropB
 split
 ·rw [ByteArray.size_append]
  simp only [ByteArray.size_extract]
  omega
 ·omega
theorem hearF_size (f A B : Int) (s : ByteArray) (h3 : f ≠ 3) : (hearF f A B s).size ≤ s.size := by
 unfold hearF
 split
 ·rw [strN_size, List.length_map, bytesOf_length]; omega
 ·split
  ·split
   ·omega
   ·exact dropB_size A s
  ·try rw [if_neg h3]
   split
   ·split
    ·rw [rev_size]; omega
    ·omega
   ·omega
def specC (f A : Int) (w x : ByteArray) : Prop := x = w ∨ x = strOfNums (bytesOf w).reverse ∨ x = w.extract 0 (w.size - 1) ∨ (f = 2 ∧ ∃ q, q < w.size + 1 ∧ x = insL A w q)
theorem spec_l0 (f A B : Int) (hA : 0 ≤ A ∧ A ≤ 255) (hf : f ≠ 1) (w : ByteArray) (hw : w.size ≤ 12) : ∀ (d i k : Nat) (l : List ByteArray), i + d = w.size + 1 → d + 1001200 < k → SS l → l.length ≤ i + 3 →
  ∃ r, spec_l04Pasts.l0 k w l (i : Int) f A B = some (r, decide ((r.length : Int) ≤ 300)) ∧ SS r ∧ (∀ x, x ∈ r ↔ x ∈ l ∨ (okP f A B w x = true ∧ ∃ q, i ≤ q ∧ q < w.size + 1 ∧ x = insL A w q)) := by
 intro d
 induction d with
 | zero =>
  intro i k l hi hk hs hl
  obtain ⟨k, rfl⟩ : ∃ m, k = m + 2 := ⟨k - 2, by omega⟩
  simp only [spec_l04Pasts.l0, spec_l04Pasts.j1]
  rw [if_neg (by omega), if_neg hf]
  exact ⟨l, rfl, hs, fun x => ⟨fun h => Or.inl h, fun h => h.elim id (fun ⟨_, q, h1, h2, _⟩ => by omega)⟩⟩
 | succ d ih =>
  intro i k l hi hk hs hl
  obtain ⟨k, rfl⟩ : ∃ m, k = m + 1 := ⟨k - 1, by omega⟩
  have s1 : (strOfNums [A]).size = 1 := rfl
  have hins := insL_size A w i (by omega)
  simp only [spec_l04Pasts.l0, Option.bind_some]
  rw [if_pos (by omega), if_pos (by omega), s1, Int.toNat_natCast, if_pos (by simp only [ByteArray.size_extract]; omega), if_pos (by simp only [ByteArray.size_extract]; omega)]
  rw [show (w.extract 0 i ++ strOfNums [A]) ++ w.extract i w.size = insL A w i from rfl]
  obtain ⟨r, h1, h2, h3, h4⟩ := tried_eq f A B hA l (by omega) hs (insL A w i) w (by omega) k (by omega)
  rw [h1, Option.bind_some, wrap_nat i (by omega)]
  obtain ⟨r2, g1, g2, g3⟩ := ih (i + 1) k r (by omega) (by omega) h2 (by omega)
  refine ⟨r2, g1, g2, fun x => ?_⟩
  rw [g3 x, h3 x]
  constructor
  ·rintro ((h | ⟨rfl, h⟩) | ⟨h, q, q1, q2, q3⟩)
   ·exact Or.inl h
   ·exact Or.inr ⟨h, i, by omega, by omega, rfl⟩
   ·exact Or.inr ⟨h, q, by omega, q2, q3⟩
  ·rintro (h | ⟨h, q, q1, q2, q3⟩)
   ·exact Or.inl (Or.inl h)
   ·by_cases e : q = i
    ·subst e; exact Or.inl (Or.inr ⟨q3, q3 ▸ h⟩)
    ·exact Or.inr ⟨h, q, by omega, q2, q3⟩
theorem specPasts_ne (f A B : Int) (hA : 0 ≤ A ∧ A ≤ 255) (hf : f ≠ 1) (w : ByteArray) (h1 : 1 ≤ w.size) (hw : w.size ≤ 12) (k : Nat) (hk : 1001300 < k) :
  ∃ r, spec_l04Pasts.f k f A B w = some (r, decide ((r.length : Int) ≤ 300)) ∧ SS r ∧ (∀ x, x ∈ r ↔ okP f A B w x = true ∧ specC f A w x) := by
 have hrs := rev_size w
 unfold spec_l04Pasts.f
 obtain ⟨r1, a1, a2, a3, a4⟩ := tried_eq f A B hA [] (by simp) List.Pairwise.nil w w (by omega) k (by omega)
 rw [a1, Option.bind_some, specTurn_eq w (by omega) k (by omega), Option.bind_some]
 obtain ⟨r2, b1, b2, b3, b4⟩ := tried_eq f A B hA r1 (by simp at a4; omega) a2 (strOfNums (bytesOf w).reverse) w (by omega) k (by omega)
 rw [b1, Option.bind_some, wrap64_id _ (by omega) (by omega), if_pos (by omega), if_pos (by omega), show ((w.size : Int) - 1).toNat = w.size - 1 by omega]
 obtain ⟨r3, c1, c2, c3, c4⟩ := tried_eq f A B hA r2 (by simp at a4; omega) b2 (w.extract 0 (w.size - 1)) w (by simp only [ByteArray.size_extract]; omega) k (by omega)
 rw [c1, Option.bind_some]
 simp only [List.length_nil, Nat.zero_add] at a4
 have hm : ∀ x, x ∈ r3 ↔ okP f A B w x = true ∧ (x = w ∨ x = strOfNums (bytesOf w).reverse ∨ x = w.extract 0 (w.size - 1)) := by
  intro x
  rw [c3 x, b3 x, a3 x]
  constructor
  ·rintro (((h | ⟨rfl, h⟩) | ⟨rfl, h⟩) | ⟨rfl, h⟩)
   ·simp at h
   ·exact ⟨h, Or.inl rfl⟩
   ·exact ⟨h, Or.inr (Or.inl rfl)⟩
   ·exact ⟨h, Or.inr (Or.inr rfl)⟩
  ·rintro ⟨h, e | e | e⟩
   ·exact Or.inl (Or.inl (Or.inr ⟨e, e ▸ h⟩))
   ·exact Or.inl (Or.inr ⟨e, e ▸ h⟩)
   ·exact Or.inr ⟨e, e ▸ h⟩
 by_cases c : f = 2
 ·rw [if_pos c]
  obtain ⟨r, g1, g2, g3⟩ := spec_l0 f A B hA hf w hw (w.size + 1) 0 k r3 (by omega) (by omega) c2 (by omega)
  refine ⟨r, g1, g2, fun x => ?_⟩
  rw [g3 x, hm x]
  unfold specC
  constructor
  ·rintro (⟨h, e | e | e⟩ | ⟨h, q, _, q2, q3⟩)
   ·exact ⟨h, Or.inl e⟩
   ·exact ⟨h, Or.inr (Or.inl e)⟩
   ·exact ⟨h, Or.inr (Or.inr (Or.inl e))⟩
   ·exact ⟨h, Or.inr (Or.inr (Or.inr ⟨c, q, q2, q3⟩))⟩
  ·rintro ⟨h, e | e | e | ⟨_, q, q2, q3⟩⟩
   ·exact Or.inl ⟨h, Or.inl e⟩
   ·exact Or.inl ⟨h, Or.inr (Or.inl e)⟩
   ·exact Or.inl ⟨h, Or.inr (Or.inr e)⟩
   ·exact Or.inr ⟨h, q, Nat.zero_le _, q2, q3⟩
 ·rw [if_neg c]
  obtain ⟨k, rfl⟩ : ∃ m, k = m + 1 := ⟨k - 1, by omega⟩
  simp only [spec_l04Pasts.j1]
  rw [if_neg hf]
  refine ⟨r3, rfl, c2, fun x => ?_⟩
  rw [hm x]
  unfold specC
  constructor
  ·rintro ⟨h, e | e | e⟩
   ·exact ⟨h, Or.inl e⟩
   ·exact ⟨h, Or.inr (Or.inl e)⟩
   ·exact ⟨h, Or.inr (Or.inr (Or.inl e))⟩
  ·rintro ⟨h, e | e | e | ⟨e, _⟩⟩
   ·exact ⟨h, Or.inl e⟩
   ·exact ⟨h, Or.inr (Or.inl e)⟩
   ·exact ⟨h, Or.inr (Or.inr e)⟩
   ·exact absurd e c
theorem okP_size (f A B : Int) (hf : f ≠ 3) (w s : ByteArray) (h : okP f A B w s = true) : w.size ≤ s.size := by
 unfold okP at h
 rw [Bool.and_eq_true, decide_eq_true_eq] at h
 rw [← h.2]
 exact hearF_size f A B s hf
theorem cands_ne (f A B : Int) (hf : f ≠ 1) (w : ByteArray) (h1 : 1 ≤ w.size) (x : ByteArray) (hx : okP f A B w x = true) : specC f A w x ↔ x ∈ triesL f A B w := by
 unfold specC triesL
 rw [if_neg hf]
 have hcut : f ≠ 3 → x ≠ w.extract 0 (w.size - 1) := by
  intro h3 e
  have := okP_size f A B h3 w x hx
  rw [e] at this
  simp only [ByteArray.size_extract] at this
  omega
 by_cases c2 : f = 2
 ·rw [if_pos c2]
  simp only [List.mem_append, List.mem_cons, List.not_mem_nil, or_false, List.mem_map, List.mem_range'_1]
  constructor
  ·rintro (h | h | h | ⟨_, q, q1, q2⟩)
   ·exact Or.inl (Or.inl h)
   ·exact Or.inl (Or.inr h)
   ·exact absurd h (hcut (by omega))
   ·exact Or.inr ⟨q, ⟨by omega, by omega⟩, q2.symm⟩
  ·rintro ((h | h) | ⟨q, ⟨_, q1⟩, q2⟩)
   ·exact Or.inl h
   ·exact Or.inr (Or.inl h)
   ·exact Or.inr (Or.inr (Or.inr ⟨c2, q, by omega, q2.symm⟩))
 ·rw [if_neg c2]
  by_cases c3 : f = 3
  ·rw [if_pos c3]
   simp only [List.mem_append, List.mem_cons, List.not_mem_nil, or_false]
   constructor
   ·rintro (h | h | h | ⟨h, _⟩)
    ·exact Or.inl (Or.inl h)
    ·exact Or.inl (Or.inr h)
    ·exact Or.inr h
    ·exact absurd h c2
   ·rintro ((h | h) | h)
    ·exact Or.inl h
    ·exact Or.inr (Or.inl h)
    ·exact Or.inr (Or.inr (Or.inl h))
  ·rw [if_neg c3]
   simp only [List.mem_cons, List.not_mem_nil, or_false]
   constructor
   ·rintro (h | h | h | ⟨h, _⟩)
    ·exact Or.inl h
    ·exact Or.inr h
    ·exact absurd h (hcut c3)
    ·exact absurd h c2
   ·rintro (h | h)
    ·exact Or.inl h
    ·exact Or.inr (Or.inl h)
def pastsR (f A B : Int) (w : ByteArray) : List ByteArray := sorted1 ((triesL f A B w).filter (okP f A B w))
theorem pastsR_len (f A B : Int) (w : ByteArray) (h1 : 1 ≤ w.size) (h2 : w.size ≤ 12) : (pastsR f A B w).length ≤ 5000 := by
 have := (triesL_facts f A B w h1 h2).2.1
 have h3 := List.length_filter_le (okP f A B w) (triesL f A B w)
 have h4 := Go.Lib.compact_length_le (Go.Proofs.YtobickehjnogjaaGreatDoor.H.sortB ((triesL f A B w).filter (okP f A B w)))
 rw [Go.Proofs.YtobickehjnogjaaGreatDoor.H.sortB_length] at h4
 unfold pastsR sorted1
 rw [unB_len]
 omega
theorem pastsR_mem (f A B : Int) (w x : ByteArray) : x ∈ pastsR f A B w ↔ x ∈ triesL f A B w ∧ okP f A B w x = true := by
 unfold pastsR
 rw [sorted1_mem, List.mem_filter]
theorem both_ne (f A B : Int) (hA : 0 ≤ A ∧ A ≤ 255) (hf : f ≠ 1) (w : ByteArray) (h1 : 1 ≤ w.size) (hw : w.size ≤ 12) (k : Nat) (hk : 1001300 < k) :
  spec_l04Pasts.f k f A B w = some (pastsR f A B w, decide (((pastsR f A B w).length : Int) ≤ 300)) := by
 obtain ⟨r, e1, e2, e3⟩ := specPasts_ne f A B hA hf w h1 hw k hk
 have : r = pastsR f A B w := SS_one e2 (sorted1_SS _) (fun x => by
  rw [e3 x, pastsR_mem]
  constructor
  ·rintro ⟨h, g⟩; exact ⟨(cands_ne f A B hf w h1 x h).1 g, h⟩
  ·rintro ⟨g, h⟩; exact ⟨h, (cands_ne f A B hf w h1 x h).2 g⟩)
 rw [e1, this]

/-! The reference's words, where letters are swapped: one for each set of places. -/
def posL (B : Int) (w : List Int) (i : Nat) : List Int := ((List.range i).filter (fun j => decide (w.getD j 0 = B))).map (fun (j : Nat) => (j : Int))
theorem posL_succ (B : Int) (w : List Int) (i : Nat) : posL B w (i + 1) = posL B w i ++ (if w.getD i 0 = B then [(i : Int)] else []) := by
 unfold posL
 rw [List.range_succ, List.filter_append, List.map_append]
 congr 1
 by_cases e : w.getD i 0 = B
 ·rw [if_pos e, List.filter_cons, if_pos (decide_eq_true e)]; rfl
 ·rw [if_neg e, List.filter_cons, if_neg (by rw [decide_eq_true_eq]; exact e)]; rfl
theorem posL_len (B : Int) (w : List Int) (i : Nat) : (posL B w i).length = countB B w i := List.length_map _
theorem posL_le (B : Int) (w : List Int) (i : Nat) : (posL B w i).length ≤ i := by
 rw [posL_len]
 unfold countB
 have := List.length_filter_le (fun j => decide (w.getD j 0 = B)) (List.range i)
 rwa [List.length_range] at this
theorem posL_mem (B : Int) (w : List Int) (i : Nat) (p : Int) : p ∈ posL B w i ↔ ∃ j : Nat, p = (j : Int) ∧ j < i ∧ w.getD j 0 = B := by
 unfold posL
 rw [List.mem_map]
 constructor
 ·rintro ⟨j, hj, rfl⟩
  rw [List.mem_filter, List.mem_range, decide_eq_true_eq] at hj
  exact ⟨j, rfl, hj.1, hj.2⟩
 ·rintro ⟨j, rfl, h1, h2⟩
  refine ⟨j, ?_, rfl⟩
  rw [List.mem_filter, List.mem_range, decide_eq_true_eq]
  exact ⟨h1, h2⟩
theorem spec_l1 (f A B : Int) (hAB : A ≠ B) (w : ByteArray) (hw : w.size ≤ 12) (l : List ByteArray) : ∀ (d i k : Nat), i + d = w.size → (∀ j, i ≤ j → j < w.size → bt w (j : Int) ≠ A) →
  spec_l04Pasts.l1 (k + d + 1) w l (posL B (bytesOf w) i) (i : Int) f A B = if ((posL B (bytesOf w) w.size).length : Int) > 8 then some (l, false) else spec_l04Pasts.l2 k w l (posL B (bytesOf w) w.size) 0 f A B := by
 intro d
 induction d with
 | zero =>
  intro i k hi hn
  obtain rfl : i = w.size := by omega
  simp only [spec_l04Pasts.l1, Nat.add_zero]
  rw [if_neg (by omega)]
 | succ d ih =>
  intro i k hi hn
  have h := ih (i + 1) k (by omega) (fun j h1 h2 => hn j (by omega) h2)
  have hA := hn i (Nat.le_refl _) (by omega)
  have hle := posL_le B (bytesOf w) i
  rw [posL_succ, bt_getD] at h
  rw [show k + (d + 1) + 1 = (k + d + 1) + 1 by omega]
  clear ih
  generalize k + d + 1 = M at h ⊢
  simp only [spec_l04Pasts.l1]
  rw [if_pos (by omega), if_pos (by omega), wrap_nat i (by omega)]
  by_cases e : bt w (i : Int) = B
  ·rw [if_pos e] at h ⊢
   rw [if_pos (by omega), if_neg hA, h]
  ·rw [if_neg e, List.append_nil] at h
   rw [if_neg e, if_neg hA, h]
theorem spec_l1A (f A B : Int) (w : ByteArray) (hw : w.size ≤ 12) (l : List ByteArray) : ∀ (d i k : Nat) (ps : List Int), i + d = w.size → d < k → ps.length ≤ i → (∃ j, i ≤ j ∧ j < w.size ∧ bt w (j : Int) = A) →
  spec_l04Pasts.l1 k w l ps (i : Int) f A B = some (l, true) := by
 intro d
 induction d with
 | zero =>
  intro i k ps hi hk hp ⟨j, h1, h2, _⟩
  omega
 | succ d ih =>
  intro i k ps hi hk hp ⟨j, h1, h2, h3⟩
  obtain ⟨k, rfl⟩ : ∃ m, k = m + 1 := ⟨k - 1, by omega⟩
  simp only [spec_l04Pasts.l1]
  rw [if_pos (by omega), if_pos (by omega), wrap_nat i (by omega)]
  by_cases eA : bt w (i : Int) = A
  ·by_cases e : bt w (i : Int) = B
   ·rw [if_pos e, if_pos (by omega), if_pos eA]
   ·rw [if_neg e, if_pos eA]
  ·have hj : ∃ j, i + 1 ≤ j ∧ j < w.size ∧ bt w (j : Int) = A := ⟨j, by
    by_cases e : i = j
    ·subst e; exact absurd h3 eA
    ·omega, h2, h3⟩
   by_cases e : bt w (i : Int) = B
   ·rw [if_pos e, if_pos (by omega), if_neg eA]
    exact ih (i + 1) k _ (by omega) (by omega) (by simp; omega) hj
   ·rw [if_neg e, if_neg eA]
    exact ih (i + 1) k _ (by omega) (by omega) (by omega) hj
/-- One set of places. -/
def setW (A : Int) (x : Nat) : List Int → Nat → List Int → List Int
 | [], _, out => out
 | p :: ps, kk, out => setW A x ps (kk + 1) (if x / 2 ^ kk % 2 = 1 then out.set p.toNat A else out)
theorem setW_len (A : Int) (x : Nat) : ∀ ps kk out, (setW A x ps kk out).length = out.length
 | [], _, _ => rfl
 | p :: ps, kk, out => by
  unfold setW
  rw [setW_len A x ps (kk + 1)]
  split
  ·rw [List.length_set]
  ·rfl
theorem setW_get (A : Int) (x j : Nat) : ∀ (ps : List Int) (kk : Nat) (out : List Int), j < out.length → (∀ p ∈ ps, 0 ≤ p) →
  ((∃ t, ps[t]? = some (j : Int) ∧ x / 2 ^ (kk + t) % 2 = 1) ∧ (setW A x ps kk out).getD j 0 = A) ∨ (¬ (∃ t, ps[t]? = some (j : Int) ∧ x / 2 ^ (kk + t) % 2 = 1) ∧ (setW A x ps kk out).getD j 0 = out.getD j 0)
 | [], kk, out, hj, _ => Or.inr ⟨fun ⟨t, h, _⟩ => by simp at h, rfl⟩
 | p :: ps, kk, out, hj, hp => by
  unfold setW
  have h0 := hp p List.mem_cons_self
  have ih := setW_get A x j ps (kk + 1) (if x / 2 ^ kk % 2 = 1 then out.set p.toNat A else out) (by split; rw [List.length_set]; exact hj; exact hj) (fun q hq => hp q (List.mem_cons_of_mem _ hq))
  rcases ih with ⟨⟨t, h1, h2⟩, h3⟩ | ⟨h1, h2⟩
  ·exact Or.inl ⟨⟨t + 1, by rw [List.getElem?_cons_succ]; exact h1, by rw [show kk + (t + 1) = kk + 1 + t by omega]; exact h2⟩, h3⟩
  ·by_cases e : p = (j : Int) ∧ x / 2 ^ kk % 2 = 1
   ·refine Or.inl ⟨⟨0, by rw [e.1]; rfl, e.2⟩, ?_⟩
    rw [h2, if_pos e.2, e.1, Int.toNat_natCast, List.getD_eq_getElem?_getD, List.getElem?_set_self hj]
    rfl
   ·refine Or.inr ⟨fun ⟨t, g1, g2⟩ => ?_, ?_⟩
    ·cases t with
     | zero =>
      rw [List.getElem?_cons_zero] at g1
      exact e ⟨Option.some.inj g1, g2⟩
     | succ t =>
      rw [List.getElem?_cons_succ] at g1
      exact h1 ⟨t, g1, by rw [show kk + 1 + t = kk + (t + 1) by omega]; exact g2⟩
    ·rw [h2]
     by_cases c : x / 2 ^ kk % 2 = 1
     ·rw [if_pos c, List.getD_eq_getElem?_getD, List.getElem?_set_ne (fun z => e ⟨by omega, c⟩), List.getD_eq_getElem?_getD]
     ·rw [if_neg c]
theorem and_one64 (x : Int) (h₀ : 0 ≤ x) (h₁ : x < 65536) : Go.bits .and .i64 x 1 = x % 2 := by
 have := Go.bits_mask .i64 32 (by decide) (fun n h1 h2 => by simp [IntKind.wrap, IntKind.bits, IntKind.signed]; omega) 1 (by decide) x h₀ (by omega)
 simpa using this
theorem shr_nat (x j : Nat) (hj : j ≤ 64) : shr .i64 (x : Int) (IntKind.u64.wrap (j : Int)) = ((x / 2 ^ j : Nat) : Int) := by
 rw [wrap_u64_id _ (by omega) (by omega)]
 unfold shr
 rw [Int.toNat_natCast, show min j IntKind.i64.bits = j from Nat.min_eq_left hj]
 simp
theorem shl_nat : ∀ p : Nat, p < 9 → shl .i64 1 (IntKind.u64.wrap (p : Int)) = ((2 ^ p : Nat) : Int) := by decide
theorem spec_l3 (f A B : Int) (w : ByteArray) (l : List ByteArray) (x : Nat) (hx : x < 65536) (ps : List Int) (hps : ps.length ≤ 12) : ∀ (d j k : Nat) (out : List Int), j + d = ps.length → (∀ p ∈ ps, 0 ≤ p ∧ p < (out.length : Int)) →
  spec_l04Pasts.l3 (k + d + 1) w l ps (x : Int) out (j : Int) f A B = (spec_l04Put.f k l (strOfNums (setW A x (ps.drop j) j out))).bind fun t => spec_l04Pasts.l2 k w t ps (wrap64 ((x : Int) + 1)) f A B := by
 intro d
 induction d with
 | zero =>
  intro j k out hj hp
  simp only [spec_l04Pasts.l3, Nat.add_zero]
  rw [if_neg (by omega), List.drop_eq_nil_of_le (by omega)]
  rfl
 | succ d ih =>
  intro j k out hj hp
  have hjl : j < ps.length := by omega
  have hdr := drop_rd ps j hjl
  have hb : x / 2 ^ j < 65536 := Nat.lt_of_le_of_lt (Nat.div_le_self _ _) hx
  have hmem : rd ps (j : Int) ∈ ps := by
   have : rd ps (j : Int) ∈ ps.drop j := by rw [hdr]; exact List.mem_cons_self
   exact List.mem_of_mem_drop this
  have hr := hp _ hmem
  have ih2 := fun out => ih (j + 1) k out (by omega)
  rw [hdr, show k + (d + 1) + 1 = (k + d + 1) + 1 by omega]
  clear ih
  generalize k + d + 1 = M at ih2 ⊢
  unfold setW
  simp only [spec_l04Pasts.l3]
  rw [if_pos (by omega), shr_nat x j (by omega)]
  generalize x / 2 ^ j = z at hb ⊢
  rw [and_one64 _ (by omega) (by omega), wrap_u64_id _ (by omega) (by omega), if_pos (by omega), wrap_nat j (by omega)]
  by_cases c : z % 2 = 1
  ·rw [if_pos c, if_pos (by omega), if_pos (by omega), if_pos hr.1, if_pos hr.2]
   exact ih2 _ (fun p h => by rw [List.length_set]; exact hp p h)
  ·rw [if_neg c, if_neg (by omega)]
   exact ih2 out hp
def wset (A : Int) (w : ByteArray) (ps : List Int) (x : Nat) : ByteArray := strOfNums (setW A x ps 0 (bytesOf w))
theorem spec_l2 (f A B : Int) (w : ByteArray) (hw : w.size ≤ 12) (ps : List Int) (hps : ps.length ≤ 8) (hp : ∀ p ∈ ps, 0 ≤ p ∧ p < (w.size : Int)) : ∀ (d x k q : Nat) (l : List ByteArray), x + d = 2 ^ ps.length → q = d * 20 → q + 1001200 < k → SS l → l.length ≤ x →
  ∃ r, spec_l04Pasts.l2 k w l ps (x : Int) f A B = some (r, decide ((r.length : Int) ≤ 300)) ∧ SS r ∧ (∀ y, y ∈ r ↔ y ∈ l ∨ ∃ z, x ≤ z ∧ z < 2 ^ ps.length ∧ y = wset A w ps z) := by
 have hpow : 2 ^ ps.length ≤ 2 ^ 8 := Nat.pow_le_pow_right (by decide) hps
 intro d
 induction d with
 | zero =>
  intro x k q l hi _ hk hs hl
  obtain ⟨k, rfl⟩ : ∃ m, k = m + 1 := ⟨k - 1, by omega⟩
  simp only [spec_l04Pasts.l2]
  rw [shl_nat _ (by omega), wrap_u64_id _ (by omega) (by omega), if_pos (by omega), if_neg (by omega)]
  exact ⟨l, rfl, hs, fun y => ⟨fun h => Or.inl h, fun h => h.elim id (fun ⟨z, h1, h2, _⟩ => by omega)⟩⟩
 | succ d ih =>
  intro x k q l hi hq hk hs hl
  rw [Nat.succ_mul] at hq
  have ih2 := fun x k l => ih x k (d * 20) l
  clear ih
  generalize d * 20 = q2 at hq ih2
  obtain ⟨k, rfl⟩ : ∃ m, k = m + 1 := ⟨k - 1, by omega⟩
  simp only [spec_l04Pasts.l2]
  rw [shl_nat _ (by omega), wrap_u64_id _ (by omega) (by omega), if_pos (by omega), if_pos (by omega), if_pos (by omega), if_pos (by omega)]
  obtain ⟨k2, hk2⟩ : ∃ k2, k = k2 + ps.length + 1 := ⟨k - ps.length - 1, by omega⟩
  rw [hk2]
  have h := spec_l3 f A B w l x (by omega) ps (by omega) ps.length 0 k2 (bytesOf w) (by omega) (by rw [bytesOf_length]; exact hp)
  rw [show ((0 : Nat) : Int) = 0 from rfl, List.drop_zero] at h
  rw [h, wrap_nat x (by omega)]
  obtain ⟨r, h1, h2, h3, h4⟩ := put_eq l (wset A w ps x) (by omega) hs k2 (by omega)
  rw [show strOfNums (setW A x ps 0 (bytesOf w)) = wset A w ps x from rfl, h1, Option.bind_some]
  obtain ⟨r2, g1, g2, g3⟩ := ih2 (x + 1) k2 r (by omega) rfl (by omega) h2 (by omega)
  refine ⟨r2, g1, g2, fun y => ?_⟩
  rw [g3 y, h3 y]
  constructor
  ·rintro ((h | h) | ⟨z, z1, z2, z3⟩)
   ·exact Or.inl h
   ·exact Or.inr ⟨x, by omega, by omega, h⟩
   ·exact Or.inr ⟨z, by omega, z2, z3⟩
  ·rintro (h | ⟨z, z1, z2, z3⟩)
   ·exact Or.inl (Or.inl h)
   ·by_cases e : z = x
    ·subst e; exact Or.inl (Or.inr z3)
    ·exact Or.inr ⟨z, by omega, z2, z3⟩
theorem bits_of (g : Nat → Bool) : ∀ p, ∃ x, x < 2 ^ p ∧ ∀ k, k < p → (x / 2 ^ k % 2 = 1 ↔ g k = true)
 | 0 => ⟨0, by decide, fun k h => by omega⟩
 | p + 1 => by
  obtain ⟨x, h1, h2⟩ := bits_of g p
  have hpos : 0 < 2 ^ p := Nat.pow_pos (by decide)
  have hlow : ∀ k, k < p → (x + 2 ^ p) / 2 ^ k % 2 = x / 2 ^ k % 2 := by
   intro k hk
   have e : 2 ^ p = 2 ^ k * (2 * 2 ^ (p - k - 1)) := by
    rw [← Nat.mul_assoc, ← Nat.pow_succ, ← Nat.pow_add]
    congr 1
    omega
   rw [e, Nat.add_mul_div_left _ _ (Nat.pow_pos (by decide))]
   omega
  cases hg : g p with
  | true =>
   refine ⟨x + 2 ^ p, by rw [Nat.pow_succ]; omega, fun k hk => ?_⟩
   by_cases e : k < p
   ·rw [hlow k e]; exact h2 k e
   ·obtain rfl : k = p := by omega
    have : (x + 2 ^ k) / 2 ^ k = 1 := by rw [Nat.add_div_right _ hpos, Nat.div_eq_of_lt h1]
    rw [this, hg]
    simp
  | false =>
   refine ⟨x, by rw [Nat.pow_succ]; omega, fun k hk => ?_⟩
   by_cases e : k < p
   ·exact h2 k e
   ·obtain rfl : k = p := by omega
    rw [Nat.div_eq_of_lt h1, hg]
    simp

/-! Both are one. -/
theorem bytes_rng (y : ByteArray) : ∀ x ∈ bytesOf y, 0 ≤ x ∧ x ≤ 255 := by
 intro x hx
 unfold bytesOf at hx
 obtain ⟨b, _, rfl⟩ := List.mem_map.1 hx
 have := b.toNat_lt
 omega
theorem getD_mem (s : List Int) (j : Nat) (h : j < s.length) : s.getD j 0 = s[j] := by rw [List.getD_eq_getElem?_getD, List.getElem?_eq_getElem h]; rfl
theorem TLs_rng (A B : Int) (hA : 0 ≤ A ∧ A ≤ 255) (w : ByteArray) (s : List Int) (hs : s ∈ TLs A B (bytesOf w) w.size) : ∀ x ∈ s, 0 ≤ x ∧ x ≤ 255 := by
 intro x hx
 obtain ⟨hl, hj⟩ := (TLs_mem A B (bytesOf w) w.size s).1 hs
 obtain ⟨j, hjl, rfl⟩ := List.mem_iff_getElem.1 hx
 rcases hj j (by omega) with h | ⟨_, h⟩
 ·rw [getD_mem s j hjl, getD_mem _ j (by rw [bytesOf_length]; omega)] at h
  rw [h]
  exact bytes_rng w _ (List.getElem_mem _)
 ·rw [getD_mem s j hjl] at h
  rw [h]; exact hA
theorem letter_rng {x : Int} (h : letter x = true) : 0 ≤ x ∧ x ≤ 255 := by
 simp only [letter, decide_eq_true_eq] at h
 omega
theorem swap_ok (A B : Int) (hA : letter A = true) (w : ByteArray) (hw : wordOk w = true) (hn : ∀ j, j < w.size → bt w (j : Int) ≠ A) (s : List Int) (hs : s ∈ TLs A B (bytesOf w) w.size) : okP 1 A B w (strOfNums s) = true := by
 have hAr := letter_rng hA
 have hr := TLs_rng A B hAr w s hs
 obtain ⟨hl, hj⟩ := (TLs_mem A B (bytesOf w) w.size s).1 hs
 have hwo := (wordOk_iff w).1 hw
 unfold okP
 rw [Bool.and_eq_true]
 constructor
 ·rw [wordOk_iff, strN_size, hl, bytesOf_strOfNums s hr]
  refine ⟨hwo.1, fun x hx => ?_⟩
  obtain ⟨j, hjl, rfl⟩ := List.mem_iff_getElem.1 hx
  rcases hj j (by omega) with h | ⟨_, h⟩
  ·rw [getD_mem s j hjl, getD_mem _ j (by rw [bytesOf_length]; omega)] at h
   rw [h]
   exact hwo.2 _ (List.getElem_mem _)
  ·rw [getD_mem s j hjl] at h
   rw [h]; exact hA
 ·refine decide_eq_true ?_
  unfold hearF
  rw [if_pos rfl, bytesOf_strOfNums s hr]
  have hm : s.map (Go.Proofs.YtobickehjnogjaaGreatDoor.H.swap1 A B) = bytesOf w := by
   apply List.ext_getElem
   ·rw [List.length_map, hl, bytesOf_length]
   ·intro j h1 h2
    rw [List.length_map] at h1
    rw [List.getElem_map]
    have hb : (bytesOf w)[j] = bt w (j : Int) := by rw [← bt_getD, getD_mem _ j h2]
    have hwj := hn j (by omega)
    have hg := getD_mem s j h1
    have hg2 := getD_mem (bytesOf w) j h2
    rw [← hb] at hwj
    unfold Go.Proofs.YtobickehjnogjaaGreatDoor.H.swap1
    rcases hj j (by omega) with h | ⟨h3, h4⟩
    ·rw [hg, hg2] at h
     rw [h, if_neg hwj]
    ·rw [hg] at h4
     rw [hg2] at h3
     rw [if_pos h4, h3]
  rw [hm, strN_bytes]
theorem okP_noA (A B : Int) (hAB : A ≠ B) (hB : 0 ≤ B ∧ B ≤ 255) (w y : ByteArray) (j : Nat) (hj : j < w.size) (h : bt w (j : Int) = A) : okP 1 A B w y = false := by
 cases hc : okP 1 A B w y with
 | false => rfl
 | true =>
  exfalso
  unfold okP at hc
  rw [Bool.and_eq_true, decide_eq_true_eq] at hc
  have h2 := hc.2
  unfold hearF at h2
  rw [if_pos rfl] at h2
  have h3 := congrArg bytesOf h2
  rw [bytesOf_strOfNums _ (fun x hx => by
   obtain ⟨z, hz, rfl⟩ := List.mem_map.1 hx
   unfold Go.Proofs.YtobickehjnogjaaGreatDoor.H.swap1
   split
   ·exact hB
   ·exact bytes_rng y z hz)] at h3
  have hjl : j < (bytesOf w).length := by rw [bytesOf_length]; exact hj
  have hm : A ∈ bytesOf w := by
   rw [← h, ← bt_getD, getD_mem _ j hjl]
   exact List.getElem_mem _
  rw [← h3] at hm
  obtain ⟨z, _, hz⟩ := List.mem_map.1 hm
  unfold Go.Proofs.YtobickehjnogjaaGreatDoor.H.swap1 at hz
  split at hz
  ·exact hAB hz.symm
  ·rename_i e; exact e hz
theorem posL_all (B : Int) (w : ByteArray) : ∀ p ∈ posL B (bytesOf w) w.size, 0 ≤ p ∧ p < (w.size : Int) := by
 intro p hp
 obtain ⟨j, rfl, h1, _⟩ := (posL_mem B (bytesOf w) w.size p).1 hp
 omega
theorem wset_mem (A B : Int) (w : ByteArray) (y : ByteArray) :
  (∃ z, z < 2 ^ (posL B (bytesOf w) w.size).length ∧ y = wset A w (posL B (bytesOf w) w.size) z) ↔ ∃ s, s ∈ TLs A B (bytesOf w) w.size ∧ y = strOfNums s := by
 have hpos : ∀ p ∈ posL B (bytesOf w) w.size, 0 ≤ p := fun p hp => (posL_all B w p hp).1
 have hget := fun x j (hj : j < (bytesOf w).length) => setW_get A x j (posL B (bytesOf w) w.size) 0 (bytesOf w) hj hpos
 have hbl := bytesOf_length w
 constructor
 ·rintro ⟨z, hz, rfl⟩
  refine ⟨setW A z (posL B (bytesOf w) w.size) 0 (bytesOf w), ?_, rfl⟩
  rw [TLs_mem, setW_len]
  refine ⟨hbl, fun j hj => ?_⟩
  rcases hget z j (by omega) with ⟨⟨t, h1, _⟩, h2⟩ | ⟨_, h2⟩
  ·obtain ⟨j', e, _, h4⟩ := (posL_mem B (bytesOf w) w.size _).1 (List.mem_of_getElem? h1)
   obtain rfl : j = j' := by omega
   exact Or.inr ⟨h4, h2⟩
  ·exact Or.inl h2
 ·rintro ⟨s, hs, rfl⟩
  obtain ⟨hl, hj⟩ := (TLs_mem A B (bytesOf w) w.size s).1 hs
  obtain ⟨z, hz, hb⟩ := bits_of (fun t => decide (s.getD ((posL B (bytesOf w) w.size).getD t 0).toNat 0 = A)) (posL B (bytesOf w) w.size).length
  refine ⟨z, hz, ?_⟩
  unfold wset
  congr 1
  apply List.ext_getElem
  ·rw [setW_len, hl, hbl]
  ·intro j h1 h2
   have hw := hget z j (by omega)
   rw [← getD_mem _ j h1, ← getD_mem _ j h2]
   rcases hw with ⟨⟨t, g1, g2⟩, g3⟩ | ⟨g1, g2⟩
   ·have htl : t < (posL B (bytesOf w) w.size).length := (List.getElem?_eq_some_iff.1 g1).1
    have := (hb t htl).1 (by simpa using g2)
    rw [decide_eq_true_eq, show (posL B (bytesOf w) w.size).getD t 0 = (j : Int) by rw [List.getD_eq_getElem?_getD, g1]; rfl, Int.toNat_natCast] at this
    rw [g3, this]
   ·rw [g2]
    rcases hj j (by omega) with h | ⟨h3, h4⟩
    ·exact h
    ·exfalso
     have hm : (j : Int) ∈ posL B (bytesOf w) w.size := (posL_mem B (bytesOf w) w.size _).2 ⟨j, rfl, by omega, h3⟩
     obtain ⟨t, htl, ht⟩ := List.mem_iff_getElem.1 hm
     have ht2 : (posL B (bytesOf w) w.size)[t]? = some (j : Int) := by rw [List.getElem?_eq_getElem htl, ht]
     refine g1 ⟨t, ht2, ?_⟩
     rw [Nat.zero_add]
     refine (hb t htl).2 (decide_eq_true ?_)
     rw [show (posL B (bytesOf w) w.size).getD t 0 = (j : Int) by rw [List.getD_eq_getElem?_getD, ht2]; rfl, Int.toNat_natCast]
     exact h4
theorem sorted1_len (l : List ByteArray) (h : l.Nodup) : (sorted1 l).length = l.length :=
 ((List.perm_ext_iff_of_nodup (SS_nodup (sorted1_SS l)) h).2 (sorted1_mem l)).length_eq
theorem both_one (A B : Int) (hA : letter A = true) (hB : letter B = true) (hAB : A ≠ B) (w : ByteArray) (hw : wordOk w = true) (k : Nat) (hk : 1100000 < k) :
  ∃ l b, spec_l04Pasts.f k 1 A B w = some (l, b) ∧ ((b = true ∧ l = pastsR 1 A B w ∧ (pastsR 1 A B w).length ≤ 300) ∨ (b = false ∧ 300 < (pastsR 1 A B w).length)) := by
 have hAr := letter_rng hA
 have hBr := letter_rng hB
 have hsz := wordOk_size w hw
 have hrs := rev_size w
 unfold spec_l04Pasts.f
 obtain ⟨r1, a1, a2, a3, a4⟩ := tried_eq 1 A B hAr [] (by simp) List.Pairwise.nil w w (by omega) k (by omega)
 rw [a1, Option.bind_some, specTurn_eq w (by omega) k (by omega), Option.bind_some]
 obtain ⟨r2, b1, b2, b3, b4⟩ := tried_eq 1 A B hAr r1 (by simp at a4; omega) a2 (strOfNums (bytesOf w).reverse) w (by omega) k (by omega)
 rw [b1, Option.bind_some, wrap64_id _ (by omega) (by omega), if_pos (by omega), if_pos (by omega), show ((w.size : Int) - 1).toNat = w.size - 1 by omega]
 obtain ⟨r3, c1, c2, c3, c4⟩ := tried_eq 1 A B hAr r2 (by simp at a4; omega) b2 (w.extract 0 (w.size - 1)) w (by simp only [ByteArray.size_extract]; omega) k (by omega)
 rw [c1, Option.bind_some, if_neg (by decide)]
 obtain ⟨k, rfl⟩ : ∃ m, k = m + w.size + 2 := ⟨k - w.size - 2, by omega⟩
 rw [show k + w.size + 2 = (k + w.size + 1) + 1 by omega]
 simp only [spec_l04Pasts.j1]
 rw [if_pos trivial]
 by_cases hc : ∃ j, j < w.size ∧ bt w (j : Int) = A
 ·obtain ⟨j, hj1, hj2⟩ := hc
  have h := spec_l1A 1 A B w hsz.2 [] w.size 0 (k + w.size + 1) [] (by omega) (by omega) (by simp) ⟨j, Nat.zero_le _, hj1, hj2⟩
  rw [show ((0 : Nat) : Int) = 0 from rfl] at h
  rw [h]
  have he : pastsR 1 A B w = [] := List.eq_nil_iff_forall_not_mem.2 (fun x hx => by
   have := ((pastsR_mem 1 A B w x).1 hx).2
   rw [okP_noA A B hAB hBr w x j hj1 hj2] at this
   exact absurd this (by decide))
  exact ⟨[], true, rfl, Or.inl ⟨rfl, he.symm, by rw [he]; simp⟩⟩
 ·have hn : ∀ j, j < w.size → bt w (j : Int) ≠ A := fun j h1 h2 => hc ⟨j, h1, h2⟩
  have h := spec_l1 1 A B hAB w hsz.2 [] w.size 0 k (by omega) (fun j _ h => hn j h)
  rw [show ((0 : Nat) : Int) = 0 from rfl, show posL B (bytesOf w) 0 = [] from rfl] at h
  rw [h]
  have htl : triesL 1 A B w = (TLs A B (bytesOf w) w.size).map strOfNums := by unfold triesL; rw [if_pos rfl]
  have hall : (triesL 1 A B w).filter (okP 1 A B w) = triesL 1 A B w := List.filter_eq_self.2 (fun y hy => by
   rw [htl] at hy
   obtain ⟨s, hs, rfl⟩ := List.mem_map.1 hy
   exact swap_ok A B hA w hw hn s hs)
  by_cases hp : ((posL B (bytesOf w) w.size).length : Int) > 8
  ·rw [if_pos hp]
   refine ⟨[], false, rfl, Or.inr ⟨rfl, ?_⟩⟩
   unfold pastsR
   rw [hall, sorted1_len, htl, List.length_map, TLs_pow, ← posL_len]
   ·have : 2 ^ 9 ≤ 2 ^ (posL B (bytesOf w) w.size).length := Nat.pow_le_pow_right (by decide) (by omega)
    omega
   ·rw [htl]
    unfold List.Nodup
    rw [List.pairwise_map]
    refine List.Pairwise.imp_of_mem (fun {a b} ha hb hab => ?_) (TLs_nodup A B hAB (bytesOf w) w.size)
    intro e
    have e2 := congrArg bytesOf e
    rw [bytesOf_strOfNums a (TLs_rng A B hAr w a ha), bytesOf_strOfNums b (TLs_rng A B hAr w b hb)] at e2
    exact hab e2
  ·rw [if_neg hp]
   have hpow : 2 ^ (posL B (bytesOf w) w.size).length ≤ 2 ^ 8 := Nat.pow_le_pow_right (by decide) (by omega)
   have hq : 2 ^ (posL B (bytesOf w) w.size).length * 20 ≤ 2 ^ 8 * 20 := Nat.mul_le_mul_right _ hpow
   obtain ⟨r, e1, e2, e3⟩ := spec_l2 1 A B w hsz.2 (posL B (bytesOf w) w.size) (by omega) (posL_all B w) (2 ^ (posL B (bytesOf w) w.size).length) 0 k _ [] (by omega) rfl (by
    generalize 2 ^ (posL B (bytesOf w) w.size).length * 20 = z at hq
    omega) List.Pairwise.nil (by simp)
   rw [show ((0 : Nat) : Int) = 0 from rfl] at e1
   have hr : r = pastsR 1 A B w := SS_one e2 (sorted1_SS _) (fun y => by
    rw [e3 y]
    unfold pastsR
    rw [sorted1_mem, hall, htl, List.mem_map]
    have hwm := wset_mem A B w y
    constructor
    ·rintro (h | ⟨z, _, z2, z3⟩)
     ·simp at h
     ·obtain ⟨s, s1, s2⟩ := hwm.1 ⟨z, z2, z3⟩
      exact ⟨s, s1, s2.symm⟩
    ·rintro ⟨s, s1, s2⟩
     obtain ⟨z, z2, z3⟩ := hwm.2 ⟨s, s1, s2.symm⟩
     exact Or.inr ⟨z, Nat.zero_le _, z2, z3⟩)
   rw [e1, hr]
   by_cases h3 : ((pastsR 1 A B w).length : Int) ≤ 300
   ·exact ⟨_, _, rfl, Or.inl ⟨decide_eq_true h3, rfl, by omega⟩⟩
   ·exact ⟨_, _, rfl, Or.inr ⟨decide_eq_false h3, by omega⟩⟩
theorem both_eq (f A B : Int) (hAr : 0 ≤ A ∧ A ≤ 255) (hh : habitOk f A B = true) (w : ByteArray) (hw : wordOk w = true) (k : Nat) (hk : 1100000 < k) :
  ∃ l b, spec_l04Pasts.f k f A B w = some (l, b) ∧ ((b = true ∧ l = pastsR f A B w ∧ (pastsR f A B w).length ≤ 300) ∨ (b = false ∧ 300 < (pastsR f A B w).length)) := by
 have hsz := wordOk_size w hw
 by_cases c : f = 1
 ·subst c
  unfold habitOk at hh
  rw [if_neg (by decide), if_pos rfl, Bool.and_eq_true, Bool.and_eq_true, decide_eq_true_eq] at hh
  exact both_one A B hh.1.1 hh.1.2 hh.2 w hw k hk
 ·rw [both_ne f A B hAr c w hsz.1 hsz.2 k (by omega)]
  by_cases h3 : ((pastsR f A B w).length : Int) ≤ 300
  ·exact ⟨_, _, rfl, Or.inl ⟨decide_eq_true h3, rfl, by omega⟩⟩
  ·exact ⟨_, _, rfl, Or.inr ⟨decide_eq_false h3, by omega⟩⟩

/-! PastsOf, both -/
def pastsV (f A B : Int) (w : ByteArray) : List ByteArray × Int :=
 if habitOk f A B = true ∧ wordOk w = true then (if (pastsR f A B w).length ≤ 300 then (pastsR f A B w, 0) else ([], 3)) else ([], 1)
theorem specPO_eq (f A B : Int) (hA : 0 ≤ A ∧ A ≤ 255) (w : ByteArray) (hz : w.size ≤ 1048576) (k : Nat) (hk : 6000000 < k) : spec_PastsOf.f k f A B w = some (pastsV f A B w) := by
 unfold spec_PastsOf.f pastsV
 rw [asked_eq _ _ (by simp) (by simp) (fun s hs => by rw [List.mem_singleton] at hs; rw [hs]; omega) k (by omega), Option.bind_some]
 have hc : codeA [⟨f, A, B⟩] [w] = if habitOk f A B = true ∧ wordOk w = true then 0 else 1 := by
  unfold codeA habitsOk wordsOk
  simp
 rw [hc]
 by_cases c : habitOk f A B = true ∧ wordOk w = true
 ·rw [if_pos c, if_pos c, if_pos rfl]
  obtain ⟨l, b, e1, e2⟩ := both_eq f A B hA c.1 w c.2 k (by omega)
  rw [e1, Option.bind_some]
  rcases e2 with ⟨rfl, rfl, h⟩ | ⟨rfl, h⟩
  ·rw [if_pos rfl, if_pos h]
  ·rw [if_neg (by simp), if_neg (by omega)]
 ·rw [if_neg c, if_neg c, if_neg (by decide)]
theorem implPO_eq (f A B m : Int) (hA : 0 ≤ A ∧ A ≤ 255) (hB : 0 ≤ B ∧ B ≤ 255) (w : ByteArray) (hz : w.size ≤ 1048576) (k : Nat) (hk : 6000000 < k) : impl_PastsOf.f k f A B w m = some (pastsV f A B w) := by
 obtain ⟨k, rfl⟩ : ∃ m, k = m + 1 := ⟨k - 1, by omega⟩
 unfold impl_PastsOf.f pastsV
 rw [validHabit_eq, Option.bind_some]
 by_cases c : habitOk f A B = true
 ·rw [if_pos c, isWord_eq w (by omega) (k + 1) (by omega), Option.bind_some]
  simp only [impl_PastsOf.j0]
  by_cases d : wordOk w = true
  ·have hs := wordOk_size w d
   rw [if_neg (by simp [d]), if_pos ⟨c, d⟩, implPasts_eq f A B m hA hB w hs.1 hs.2 k (by omega), Option.bind_some]
   rw [show sorted1 ((triesL f A B w).filter (okP f A B w)) = pastsR f A B w from rfl]
   by_cases h : (pastsR f A B w).length ≤ 300
   ·rw [if_neg (by omega), if_pos h]
   ·rw [if_pos (by omega), if_neg h]
  ·rw [if_pos (by simp [d]), if_neg (fun z => d z.2)]
 ·rw [if_neg c, if_neg (fun z => c z.1)]
  simp only [impl_PastsOf.j0]
  rw [if_pos trivial]
theorem pastsV_len (f A B : Int) (w : ByteArray) : (pastsV f A B w).1.length ≤ 300 := by
 unfold pastsV
 split
 ·split
  ·assumption
  ·simp
 ·simp

/-! The first words: the program's fold and the reference's. -/
theorem len_sub (a b : List ByteArray) (ha : a.Nodup) (hb : b.Nodup) (h : ∀ x ∈ a, x ∈ b) : a.length ≤ b.length := by
 classical
 have hp : (b.filter (fun x => decide (x ∈ a))).Perm a := (List.perm_ext_iff_of_nodup (List.Pairwise.filter _ hb) ha).2 (fun x => by
  rw [List.mem_filter, decide_eq_true_eq]
  exact ⟨fun h => h.2, fun h2 => ⟨h x h2, h2⟩⟩)
 rw [← hp.length_eq]
 exact List.length_filter_le _ _
def pR (x : S40) (s : ByteArray) : List ByteArray := pastsR x.f0 x.f1 x.f2 s
def stepR (x : S40) (now : List ByteArray) : List ByteArray := sorted1 (now.flatMap (pR x))
def foldR : List S40 → List ByteArray → List ByteArray × Int
 | [], now => (now, 0)
 | x :: r, now => if 300 < (stepR x now).length then ([], 3) else foldR r (stepR x now)
def okH (x : S40) : Prop := habitOk x.f0 x.f1 x.f2 = true ∧ (0 ≤ x.f1 ∧ x.f1 ≤ 255) ∧ (0 ≤ x.f2 ∧ x.f2 ≤ 255)
theorem pR_ok (x : S40) (s y : ByteArray) (h : y ∈ pR x s) : wordOk y = true := by
 have := ((pastsR_mem x.f0 x.f1 x.f2 s y).1 h).2
 unfold okP at this
 rw [Bool.and_eq_true] at this
 exact this.1
theorem stepR_ok (x : S40) (now : List ByteArray) : ∀ y ∈ stepR x now, wordOk y = true := by
 intro y hy
 unfold stepR at hy
 rw [sorted1_mem, List.mem_flatMap] at hy
 obtain ⟨s, _, h⟩ := hy
 exact pR_ok x s y h
theorem spec_fl2 (hs : List S40) (now : List ByteArray) (x8 x10 : Int) (more : List ByteArray) (hm : more.length ≤ 300) : ∀ (d j k : Nat) (acc : List ByteArray), j + d = more.length → 1100000 < k → SS acc → acc.length ≤ 100000 + j →
  ∃ acc', spec_FirstWords.l2 (k + d + 1) hs now x8 acc x10 more (j : Int) = spec_FirstWords.l1 k hs now x8 acc' (wrap64 (x10 + 1)) ∧ SS acc' ∧ (∀ y, y ∈ acc' ↔ y ∈ acc ∨ y ∈ more.drop j) ∧ acc'.length ≤ acc.length + d := by
 intro d
 induction d with
 | zero =>
  intro j k acc hj hk hs1 ha
  refine ⟨acc, ?_, hs1, fun y => ?_, by omega⟩
  ·simp only [spec_FirstWords.l2, Nat.add_zero]
   rw [if_neg (by omega)]
  ·rw [List.drop_eq_nil_of_le (by omega)]; simp
 | succ d ih =>
  intro j k acc hj hk hs1 ha
  have hjl : j < more.length := by omega
  have hd := drop_rdS more j hjl
  obtain ⟨r, e1, e2, e3, e4⟩ := put_eq acc (rdOf ByteArray.empty more (j : Int)) (by omega) hs1 (k + d + 1) (by omega)
  obtain ⟨acc', g1, g2, g3, g4⟩ := ih (j + 1) k r (by omega) hk e2 (by omega)
  refine ⟨acc', ?_, g2, fun y => ?_, by omega⟩
  ·rw [show k + (d + 1) + 1 = (k + d + 1) + 1 by omega]
   clear ih
   generalize k + d + 1 = M at e1 g1 ⊢
   simp only [spec_FirstWords.l2]
   rw [if_pos (by omega), if_pos (by omega), e1, Option.bind_some, wrap_nat j (by omega)]
   exact g1
  ·rw [g3 y, e3 y, hd, List.mem_cons]
   constructor
   ·rintro ((h | h) | h)
    ·exact Or.inl h
    ·exact Or.inr (Or.inl h)
    ·exact Or.inr (Or.inr h)
   ·rintro (h | h | h)
    ·exact Or.inl (Or.inl h)
    ·exact Or.inl (Or.inr h)
    ·exact Or.inr h
theorem spec_fl1 (hs : List S40) (i : Nat) (hi : i < hs.length) (hil : hs.length ≤ 30) (hx : okH (rd_T40 hs (i : Int))) (rest : List S40) (q0 : Nat) (hrec : ∀ k now, q0 + 1200000 < k → (∀ s ∈ now, wordOk s = true) → now.length ≤ 300 → spec_FirstWords.l0 k hs now ((i : Int) - 1) = some (foldR rest now))
  (now : List ByteArray) (hn : now.length ≤ 300) (hok : ∀ s ∈ now, wordOk s = true) : ∀ (d j k q : Nat) (acc : List ByteArray), j + d = now.length → q = d * 400 → q0 + q + 1200010 < k → SS acc → acc.length ≤ j * 300 → (∀ y, y ∈ acc ↔ y ∈ (now.take j).flatMap (pR (rd_T40 hs (i : Int)))) →
  spec_FirstWords.l1 k hs now (i : Int) acc (j : Int) = some (foldR (rd_T40 hs (i : Int) :: rest) now) := by
 intro d
 induction d with
 | zero =>
  intro j k q acc hj _ hk hs1 ha hm
  obtain ⟨k, rfl⟩ : ∃ m, k = m + 1 := ⟨k - 1, by omega⟩
  have ha2 : acc = stepR (rd_T40 hs (i : Int)) now := SS_one hs1 (sorted1_SS _) (fun y => by
   rw [hm y]
   unfold stepR
   rw [sorted1_mem, List.take_of_length_le (by omega)])
  simp only [spec_FirstWords.l1, foldR]
  rw [if_neg (by omega), wrap64_id _ (by omega) (by omega), ← ha2]
  by_cases c : 300 < acc.length
  ·rw [if_pos (by omega), if_pos c]
  ·rw [if_neg (by omega), if_neg c]
   exact hrec k acc (by omega) (by rw [ha2]; exact stepR_ok _ _) (by omega)
 | succ d ih =>
  intro j k q acc hj hq hk hs1 ha hm
  rw [Nat.succ_mul] at hq
  have ih2 := fun j k acc => ih j k (d * 400) acc
  clear ih
  generalize d * 400 = q2 at hq ih2
  have hjl : j < now.length := by omega
  have hr : rdOf ByteArray.empty now (j : Int) = now[j] := by rw [rdS_nat, List.getD_eq_getElem?_getD, List.getElem?_eq_getElem hjl]; rfl
  have hw := hok now[j] (List.getElem_mem hjl)
  obtain ⟨k, rfl⟩ : ∃ m, k = m + 1 := ⟨k - 1, by omega⟩
  obtain ⟨l, b, e1, e2⟩ := both_eq (rd_T40 hs (i : Int)).f0 (rd_T40 hs (i : Int)).f1 (rd_T40 hs (i : Int)).f2 hx.2.1 hx.1 now[j] hw k (by omega)
  simp only [spec_FirstWords.l1]
  rw [if_pos (by omega), if_pos (by omega), if_pos (by omega), if_pos (by omega), hr, e1, Option.bind_some]
  rcases e2 with ⟨rfl, rfl, h⟩ | ⟨rfl, h⟩
  ·rw [if_pos rfl]
   have h2 : (pR (rd_T40 hs (i : Int)) now[j]).length ≤ 300 := h
   obtain ⟨k2, rfl⟩ : ∃ k2, k = k2 + (pR (rd_T40 hs (i : Int)) now[j]).length + 1 := ⟨k - (pR (rd_T40 hs (i : Int)) now[j]).length - 1, by omega⟩
   have hj3 : j * 300 ≤ 300 * 300 := Nat.mul_le_mul_right _ (by omega)
   obtain ⟨acc', g1, g2, g3, g4⟩ := spec_fl2 hs now (i : Int) (j : Int) (pR (rd_T40 hs (i : Int)) now[j]) h2 (pR (rd_T40 hs (i : Int)) now[j]).length 0 k2 acc (by omega) (by omega) hs1 (by omega)
   rw [show ((0 : Nat) : Int) = 0 from rfl] at g1
   refine Eq.trans g1 ?_
   rw [wrap_nat j (by omega)]
   refine ih2 (j + 1) k2 acc' (by omega) rfl (by omega) g2 (by rw [Nat.succ_mul]; omega) (fun y => ?_)
   rw [g3 y, hm y, List.drop_zero, List.take_succ_eq_append_getElem hjl, List.flatMap_append, List.mem_append, List.flatMap_cons, List.flatMap_nil, List.append_nil]
  ·rw [if_neg (by simp)]
   simp only [foldR]
   rw [if_pos]
   have h2 : (pR (rd_T40 hs (i : Int)) now[j]).length ≤ (stepR (rd_T40 hs (i : Int)) now).length := len_sub _ _ (SS_nodup (sorted1_SS _)) (SS_nodup (sorted1_SS _)) (fun y hy => by
    unfold stepR
    rw [sorted1_mem, List.mem_flatMap]
    exact ⟨_, List.getElem_mem hjl, hy⟩)
   have h3 : 300 < (pR (rd_T40 hs (i : Int)) now[j]).length := h
   omega
theorem take_hab (hs : List S40) (i : Nat) (h : i < hs.length) : (hs.take (i + 1)).reverse = rd_T40 hs (i : Int) :: (hs.take i).reverse := by
 rw [take_getD z40 hs i h, List.reverse_append]
 simp [rd_T40]
theorem spec_fl0 (C : Nat) (hC : C = 130000) (hs : List S40) (hil : hs.length ≤ 30) (hx : ∀ x ∈ hs, okH x) : ∀ (d k q : Nat) (now : List ByteArray), d ≤ hs.length → q = d * C → q + 1200010 < k → (∀ s ∈ now, wordOk s = true) → now.length ≤ 300 →
  spec_FirstWords.l0 k hs now ((d : Int) - 1) = some (foldR (hs.take d).reverse now) := by
 intro d
 induction d with
 | zero =>
  intro k q now hd _ hk hok hn
  obtain ⟨k, rfl⟩ : ∃ m, k = m + 1 := ⟨k - 1, by omega⟩
  simp only [spec_FirstWords.l0]
  rw [if_neg (by omega)]
  rfl
 | succ d ih =>
  intro k q now hd hq hk hok hn
  rw [Nat.succ_mul] at hq
  have ih2 := fun k now => ih k (d * C) now
  clear ih
  generalize d * C = q2 at hq ih2
  obtain ⟨k, rfl⟩ : ∃ m, k = m + 1 := ⟨k - 1, by omega⟩
  have hmem : rd_T40 hs (d : Int) ∈ hs := by
   have : rd_T40 hs (d : Int) ∈ (hs.take (d + 1)).reverse := by rw [take_hab hs d (by omega)]; exact List.mem_cons_self
   exact List.mem_of_mem_take (List.mem_reverse.1 this)
  obtain ⟨z, hz⟩ : ∃ z, z = now.length * 400 := ⟨_, rfl⟩
  have hn4 : z ≤ 120000 := by omega
  obtain ⟨q3, hq3⟩ : ∃ q3, q3 = q2 + 10 := ⟨_, rfl⟩
  have h1 := spec_fl1 hs d (by omega) hil (hx _ hmem) (hs.take d).reverse q3 (fun k now hk h1 h2 => ih2 k now (by omega) rfl (by omega) h1 h2) now hn hok now.length 0 k z [] (by omega) hz (by clear hz; omega) List.Pairwise.nil (by simp) (fun y => by simp)
  simp only [spec_FirstWords.l0]
  rw [show (((d + 1 : Nat) : Int) - 1) = (d : Int) by omega, if_pos (by omega), take_hab hs d (by omega)]
  exact h1

/-! FirstWords, both -/
theorem foldR_len : ∀ (xs : List S40) (now : List ByteArray), now.length ≤ 300 → (foldR xs now).1.length ≤ 300
 | [], now, h => h
 | x :: r, now, h => by
  unfold foldR
  split
  ·simp
  ·exact foldR_len r _ (by omega)
def fwF (hs : List S40) (w : ByteArray) : List ByteArray × Int := if codeH hs [w] = 0 then foldR hs.reverse [w] else ([], codeH hs [w])
theorem fwF_len (hs : List S40) (w : ByteArray) : (fwF hs w).1.length ≤ 300 := by
 unfold fwF
 split
 ·exact foldR_len _ _ (by simp)
 ·simp
theorem codeH_ok (hs : List S40) (w : ByteArray) (h : codeH hs [w] = 0) : hs.length ≤ 30 ∧ (∀ x ∈ hs, habitOk x.f0 x.f1 x.f2 = true) ∧ wordOk w = true := by
 unfold codeH at h
 by_cases a : habitsOk hs = true ∧ wordsOk [w] = true
 ·rw [if_pos a] at h
  by_cases b : hs.length ≤ 30
  ·refine ⟨b, fun x hx => ?_, ?_⟩
   ·have := a.1
    unfold habitsOk at this
    exact List.all_eq_true.1 this x hx
   ·have := a.2
    unfold wordsOk at this
    exact List.all_eq_true.1 this w (List.mem_singleton.2 rfl)
  ·rw [if_neg b] at h; exact absurd h (by decide)
 ·rw [if_neg a] at h; exact absurd h (by decide)
theorem specFW_eq (hs : List S40) (hq : hs.length ≤ 1048576) (hr : ∀ h ∈ hs, habR h) (w : ByteArray) (hb : ∀ s ∈ [w], s.size ≤ 2097152) (k : Nat) (hk : 10000000 ≤ k) : spec_FirstWords.f k hs w = some (fwF hs w) := by
 unfold spec_FirstWords.f fwF
 rw [asked_eq hs [w] hq (by simp) hb k (by omega), codeA_one, Option.bind_some]
 by_cases c : codeH hs [w] = 0
 ·obtain ⟨c1, c2, c3⟩ := codeH_ok hs w c
  obtain ⟨C, hC⟩ : ∃ C, C = 130000 := ⟨_, rfl⟩
  have hC2 : hs.length * C ≤ 30 * C := Nat.mul_le_mul_right _ c1
  obtain ⟨q, hq2⟩ : ∃ q, q = hs.length * C := ⟨_, rfl⟩
  have h := spec_fl0 C hC hs c1 (fun x hx => ⟨c2 x hx, (hr x hx).1, (hr x hx).2⟩) hs.length k q [w] (Nat.le_refl _) hq2 (by rw [← hq2] at hC2; omega) (fun s hs => by rw [List.mem_singleton] at hs; rw [hs]; exact c3) (by simp)
  rw [if_pos c, if_pos c, wrap64_id _ (by omega) (by omega), h, List.take_length]
 ·rw [if_neg c, if_neg c]
theorem goodW_iff (s : ByteArray) : impl_FirstWords.goodW s ↔ wordOk s = true := by
 unfold impl_FirstWords.goodW
 constructor
 ·rintro ⟨h1, h2, h3⟩
  rw [wordOk_iff]
  refine ⟨⟨h1, h2⟩, fun x hx => ?_⟩
  obtain ⟨j, hj, rfl⟩ := List.mem_iff_getElem.1 hx
  have hj2 : j < s.size := by rwa [bytesOf_length] at hj
  have := h3 j hj2
  rw [← bt_getD, getD_mem _ j hj] at this
  unfold letter
  exact decide_eq_true this
 ·intro h
  have hs := wordOk_size s h
  exact ⟨hs.1, hs.2, fun j hj => wordOk_get s h j hj⟩
theorem fold_one (k : Nat) (m : Int) (hk : 1100000 < k) : ∀ (xs : List S40) (now : List ByteArray), (∀ x ∈ xs, okH x) → (∀ s ∈ now, wordOk s = true) → impl_FirstWords.fold k m xs now = foldR xs now
 | [], _, _, _ => rfl
 | x :: r, now, hx, hn => by
  have h0 := hx x List.mem_cons_self
  have e : impl_FirstWords.step k m x now = stepR x now := by
   unfold impl_FirstWords.step stepR sorted1
   have : ∀ l : List ByteArray, (∀ s ∈ l, wordOk s = true) → impl_FirstWords.cat k m x l = l.flatMap (pR x) := by
    intro l
    induction l with
    | nil => intro _; rfl
    | cons s r ih =>
     intro hl
     have hs := wordOk_size s (hl s List.mem_cons_self)
     have ih2 := ih (fun y hy => hl y (List.mem_cons_of_mem _ hy))
     unfold impl_FirstWords.cat at ih2 ⊢
     rw [List.flatMap_cons, List.flatMap_cons, ih2, implPasts_eq x.f0 x.f1 x.f2 m h0.2.1 h0.2.2 s hs.1 hs.2 k (by omega)]
     rfl
   rw [this now hn]
  unfold impl_FirstWords.fold foldR
  rw [e]
  split
  ·rfl
  ·exact fold_one k m hk r _ (fun y hy => hx y (List.mem_cons_of_mem _ hy)) (stepR_ok x now)
theorem implFW_eq (hs : List S40) (m : Int) (hq : hs.length ≤ 1048576) (hr : ∀ h ∈ hs, habR h) (w : ByteArray) (hb : ∀ s ∈ [w], s.size ≤ 2097152) (k : Nat) (hk : 10000000 ≤ k) : impl_FirstWords.f k hs w m = some (fwF hs w) := by
 unfold impl_FirstWords.f fwF
 rw [chainCode_eq hs [w] hq (by simp) hb k (by omega), Option.bind_some]
 by_cases c : codeH hs [w] = 0
 ·obtain ⟨c1, c2, c3⟩ := codeH_ok hs w c
  have hT : impl_FirstWords.goodW w ∧ impl_FirstWords.T k hs m := by
   refine ⟨(goodW_iff w).2 c3, c1, fun x hx s hs2 => ?_⟩
   have hsw := (goodW_iff s).1 hs2
   have hz := wordOk_size s hsw
   exact ⟨_, implPasts_eq x.f0 x.f1 x.f2 m (hr x hx).1 (hr x hx).2 s hz.1 hz.2 k (by omega), pastsR_len x.f0 x.f1 x.f2 s hz.1 hz.2, fun y hy => (goodW_iff y).2 (pR_ok x s y hy)⟩
  rw [if_pos c, if_pos c, if_pos hT, fold_one k m (by omega) hs.reverse [w] (fun x hx => ⟨c2 x (List.mem_reverse.1 hx), (hr x (List.mem_reverse.1 hx)).1, (hr x (List.mem_reverse.1 hx)).2⟩) (fun s hs => by rw [List.mem_singleton] at hs; rw [hs]; exact c3)]
 ·rw [if_neg c, if_neg c]

/-! Each word of which a habit makes a word is among its tries. -/
theorem kb_append (a b : ByteArray) : kb (a ++ b) = kb a ++ kb b := by unfold kb; simp
theorem kb_extract (w : ByteArray) (i j : Nat) : kb (w.extract i j) = ((kb w).drop i).take (j - i) := by
 unfold kb
 rw [ByteArray.data_extract, Array.toList_extract, List.extract_eq_take_drop]
theorem kb_len (w : ByteArray) : (kb w).length = w.size := data_length w
theorem index_hit : ∀ (l : List UInt8) (c : UInt8), 0 ≤ Go.Lib.indexByte l c → l[(Go.Lib.indexByte l c).toNat]? = some c
 | [], c, h => by simp [Go.Lib.indexByte] at h
 | b :: l, c, h => by
  have ih := index_hit l c
  unfold Go.Lib.indexByte at h ⊢
  by_cases e : (b == c) = true
  ·rw [if_pos e]
   rw [beq_iff_eq] at e
   rw [e]; rfl
  ·rw [if_neg e] at h ⊢
   have hge := Go.Lib.indexByte_ge l c
   generalize Go.Lib.indexByte l c = q at h hge ih ⊢
   by_cases g : q = -1
   ·subst g; exact absurd h (by decide)
   ·have e1 : (q == -1) = false := beq_eq_false_iff_ne.2 g
    rw [e1, if_neg (by decide)]
    have hq : 0 ≤ q := by omega
    rw [show (q + 1).toNat = q.toNat + 1 by omega, List.getElem?_cons_succ]
    exact ih hq
theorem tries_all (f A B : Int) (hA : 0 ≤ A ∧ A ≤ 255) (hB : 0 ≤ B ∧ B ≤ 255) (s : ByteArray) (hs : 1 ≤ s.size) : s ∈ triesL f A B (hearF f A B s) := by
 unfold triesL
 by_cases c1 : f = 1
 ·rw [if_pos c1]
  unfold hearF
  rw [if_pos c1]
  refine List.mem_map.2 ⟨bytesOf s, ?_, strN_bytes s⟩
  have hb : bytesOf (strOfNums ((bytesOf s).map (Go.Proofs.YtobickehjnogjaaGreatDoor.H.swap1 A B))) = (bytesOf s).map (Go.Proofs.YtobickehjnogjaaGreatDoor.H.swap1 A B) := bytesOf_strOfNums _ (fun x hx => by
   obtain ⟨z, hz, rfl⟩ := List.mem_map.1 hx
   unfold Go.Proofs.YtobickehjnogjaaGreatDoor.H.swap1
   split
   ·exact hB
   ·exact bytes_rng s z hz)
  rw [TLs_mem, hb, strN_size, List.length_map]
  refine ⟨rfl, fun j hj => ?_⟩
  rw [getD_mem (bytesOf s) j hj, getD_mem ((bytesOf s).map (Go.Proofs.YtobickehjnogjaaGreatDoor.H.swap1 A B)) j (by rw [List.length_map]; exact hj), List.getElem_map]
  unfold Go.Proofs.YtobickehjnogjaaGreatDoor.H.swap1
  by_cases e : (bytesOf s)[j] = A
  ·rw [if_pos e]; exact Or.inr ⟨rfl, e⟩
  ·rw [if_neg e]; exact Or.inl rfl
 ·rw [if_neg c1]
  unfold hearF
  rw [if_neg c1]
  by_cases c2 : f = 2
  ·rw [if_pos c2, if_pos c2]
   by_cases z : s.size = 1
   ·rw [if_pos z]; simp
   ·rw [if_neg z]
    unfold dropB
    by_cases g : Go.Lib.indexByte s.data.toList A.toNat.toUInt8 ≥ 0
    ·rw [if_pos g]
     have hb := indexByte_bound s A.toNat.toUInt8 g
     have hh := index_hit s.data.toList A.toNat.toUInt8 g
     generalize hi : (Go.Lib.indexByte s.data.toList A.toNat.toUInt8).toNat = i at hh
     have hil : i < s.size := by omega
     refine List.mem_append.2 (Or.inr (List.mem_map.2 ⟨i, ?_, ?_⟩))
     ·rw [List.mem_range'_1, ByteArray.size_append]
      simp only [ByteArray.size_extract]
      omega
     ·apply kb_inj
      have hl := kb_len s
      have hk : kb (strOfNums [A]) = [A.toNat.toUInt8] := rfl
      have hsz : (s.extract 0 i ++ s.extract (i + 1) s.size).size = s.size - 1 := by
       rw [ByteArray.size_append]
       simp only [ByteArray.size_extract]
       omega
      unfold insL
      rw [hsz, kb_append, kb_append, hk, kb_extract, kb_extract, kb_append, kb_extract, kb_extract, List.drop_zero, List.drop_zero, Nat.sub_zero]
      have e1 : (List.take i (kb s) ++ List.take (s.size - (i + 1)) (List.drop (i + 1) (kb s))).take i = List.take i (kb s) := by
       rw [List.take_append_of_le_length (by rw [List.length_take]; omega), List.take_take, Nat.min_self]
      have e2 : (List.take i (kb s) ++ List.take (s.size - (i + 1)) (List.drop (i + 1) (kb s))).drop i = List.drop (i + 1) (kb s) := by
       rw [List.drop_append_of_le_length (by rw [List.length_take]; omega), List.drop_eq_nil_of_le (by rw [List.length_take]; omega), List.nil_append, List.take_of_length_le (by rw [List.length_drop]; omega)]
      have e4 : (List.drop (i + 1) (kb s)).take (s.size - 1 - i) = List.drop (i + 1) (kb s) := List.take_of_length_le (by rw [List.length_drop]; omega)
      rw [e1, e2, e4]
      have e3 : (kb s).drop i = A.toNat.toUInt8 :: (kb s).drop (i + 1) := by
       have hlt : i < (kb s).length := by omega
       rw [List.drop_eq_getElem_cons hlt]
       have h5 : (kb s)[i]? = some A.toNat.toUInt8 := hh
       rw [List.getElem?_eq_getElem hlt] at h5
       rw [Option.some.inj h5]
      conv => rhs; rw [← List.take_append_drop i (kb s), e3]
      simp
    ·rw [if_neg g]; simp
  ·rw [if_neg c2, if_neg c2]
   by_cases c3 : f = 3
   ·rw [if_pos c3, if_pos c3]
    by_cases z : s.size < 12
    ·rw [if_pos z]
     refine List.mem_append.2 (Or.inr (List.mem_singleton.2 ?_))
     apply kb_inj
     have hl := kb_len s
     have hsz : (s ++ s.extract (s.size - 1) s.size).size = s.size + 1 := by
      rw [ByteArray.size_append]
      simp only [ByteArray.size_extract]
      omega
     rw [hsz, kb_extract, kb_append, List.drop_zero, Nat.sub_zero, Nat.add_sub_cancel, List.take_append_of_le_length (by omega), List.take_of_length_le (by omega)]
    ·rw [if_neg z]; simp
   ·rw [if_neg c3, if_neg c3]
    by_cases c4 : f = 4
    ·rw [if_pos c4]
     by_cases z : bt s 0 = A
     ·rw [if_pos z, bytesOf_strOfNums _ (fun y hy => bytes_rng s y (List.mem_reverse.1 hy)), List.reverse_reverse, strN_bytes]
      simp
     ·rw [if_neg z]; simp
    ·rw [if_neg c4]; simp

/-! The first words: each word that the habits make into what is heard, and no other. -/
theorem pR_iff (x : S40) (hx : okH x) (s y : ByteArray) : y ∈ pR x s ↔ wordOk y = true ∧ hearH x y = s := by
 unfold pR
 rw [pastsR_mem]
 unfold okP hearH
 rw [Bool.and_eq_true, decide_eq_true_eq]
 constructor
 ·exact fun h => h.2
 ·rintro ⟨h1, h2⟩
  refine ⟨?_, h1, h2⟩
  rw [← h2]
  exact tries_all x.f0 x.f1 x.f2 hx.2.1 hx.2.2 y (wordOk_size y h1).1
theorem pR_SS (x : S40) (s : ByteArray) : SS (pR x s) := sorted1_SS _
theorem hearH_word (x : S40) (hx : okH x) (y : ByteArray) (h : wordOk y = true) : wordOk (hearH x y) = true := hearF_word _ _ _ hx.1 y h (hearF_ok _ _ _ y (wordOk_size y h))
theorem foldR_has : ∀ (xs : List S40) (hx : ∀ x ∈ xs, okH x) (now : List ByteArray), (∀ s ∈ now, wordOk s = true) → SS now → (((foldR xs now).2 = 3 ∧ (foldR xs now).1 = []) ∨ ((foldR xs now).2 = 0 ∧ SS (foldR xs now).1 ∧ ∀ y, y ∈ (foldR xs now).1 ↔ wordOk y = true ∧ passF xs.reverse y ∈ now))
 | [], _, now, hn, hs => Or.inr ⟨rfl, hs, fun y => ⟨fun h => ⟨hn y h, h⟩, fun h => h.2⟩⟩
 | x :: r, hx, now, hn, hs => by
  unfold foldR
  by_cases c : 300 < (stepR x now).length
  ·rw [if_pos c]; exact Or.inl ⟨rfl, rfl⟩
  ·rw [if_neg c]
   rcases foldR_has r (fun y hy => hx y (List.mem_cons_of_mem _ hy)) (stepR x now) (stepR_ok x now) (sorted1_SS _) with h | ⟨h1, h2, h3⟩
   ·exact Or.inl h
   ·refine Or.inr ⟨h1, h2, fun y => ?_⟩
    rw [h3 y]
    have hx0 := hx x List.mem_cons_self
    have e : passF (x :: r).reverse y = hearH x (passF r.reverse y) := by
     unfold passF
     rw [List.reverse_cons, List.foldl_append]
     rfl
    rw [e]
    unfold stepR
    rw [sorted1_mem, List.mem_flatMap]
    constructor
    ·rintro ⟨g1, s, g2, g3⟩
     rw [pR_iff x hx0] at g3
     rw [g3.2]
     exact ⟨g1, g2⟩
    ·rintro ⟨g1, g2⟩
     refine ⟨g1, _, g2, (pR_iff x hx0 _ _).2 ⟨?_, rfl⟩⟩
     have hok : ∀ (l : List S40), (∀ x ∈ l, okH x) → ∀ w, wordOk w = true → wordOk (passF l w) = true := by
      intro l
      induction l with
      | nil => intro _ w h; exact h
      | cons a l ih => intro ha w h; exact ih (fun z hz => ha z (List.mem_cons_of_mem _ hz)) _ (hearH_word a (ha a List.mem_cons_self) w h)
     exact hok r.reverse (fun z hz => hx z (List.mem_cons_of_mem _ (List.mem_reverse.1 hz))) y g1

def itr {α : Type} (f : α → α) : Nat → α → α
 | 0, x => x
 | n + 1, x => itr f n (f x)
theorem itr_succ {α : Type} (f : α → α) : ∀ (n : Nat) (x : α), itr f (n + 1) x = f (itr f n x)
 | 0, _ => rfl
 | n + 1, x => itr_succ f n (f x)
theorem itr_add {α : Type} (f : α → α) : ∀ (n m : Nat) (x : α), itr f (n + m) x = itr f m (itr f n x)
 | 0, m, x => by rw [Nat.zero_add]; rfl
 | n + 1, m, x => by rw [show n + 1 + m = (n + m) + 1 by omega]; exact itr_add f n m (f x)
theorem nodup_len {α : Type} [DecidableEq α] : ∀ (S T : List α), S.Nodup → (∀ x ∈ S, x ∈ T) → S.length ≤ T.length
 | [], T, _, _ => Nat.zero_le _
 | a :: S, T, h, hs => by
  rw [List.nodup_cons] at h
  have ha := hs a List.mem_cons_self
  have h2 := nodup_len S (T.erase a) h.2 (fun x hx => (List.mem_erase_of_ne (fun e => h.1 (by rw [← e]; exact hx))).2 (hs x (List.mem_cons_of_mem _ hx)))
  rw [List.length_erase_of_mem ha] at h2
  have : 0 < T.length := List.length_pos_of_mem ha
  rw [List.length_cons]
  omega
theorem nodup_of_sub {α : Type} [DecidableEq α] : ∀ (S T : List α), S.Nodup → (∀ x ∈ S, x ∈ T) → T.length ≤ S.length → T.Nodup
 | [], T, _, _, hl => by
  have : T = [] := List.eq_nil_of_length_eq_zero (by simpa using hl)
  rw [this]; exact List.nodup_nil
 | a :: S, T, h, hs, hl => by
  have hf := h
  rw [List.nodup_cons] at h
  have ha := hs a List.mem_cons_self
  have hp : 0 < T.length := List.length_pos_of_mem ha
  have hsub : ∀ x ∈ S, x ∈ T.erase a := fun x hx => (List.mem_erase_of_ne (fun e => h.1 (by rw [← e]; exact hx))).2 (hs x (List.mem_cons_of_mem _ hx))
  have hle := List.length_erase_of_mem ha
  rw [List.length_cons] at hl
  have h2 := nodup_of_sub S (T.erase a) h.2 hsub (by omega)
  have hna : a ∉ T.erase a := by
   intro hin
   have := nodup_len (a :: S) (T.erase a) hf (fun x hx => by
    rcases List.mem_cons.1 hx with rfl | hx
    ·exact hin
    ·exact hsub x hx)
   rw [List.length_cons] at this
   have := nodup_len S (T.erase a) h.2 hsub
   omega
  exact (List.perm_cons_erase ha).nodup_iff.2 (List.nodup_cons.2 ⟨hna, h2⟩)
theorem least_of {P : Nat → Prop} : ∀ n, P n → ∃ m, P m ∧ ∀ k, k < m → ¬ P k := by
 intro n
 induction n using Nat.strongRecOn with
 | _ n ih =>
  intro h
  by_cases c : ∃ k, k < n ∧ P k
  ·obtain ⟨k, hk, hp⟩ := c
   exact ih k hk hp
  ·exact ⟨n, h, fun k hk hp => c ⟨k, hk, hp⟩⟩
theorem not_nodup {α : Type} (g : Nat → α) : ∀ (n : Nat), ¬ ((List.range n).map g).Nodup → ∃ i j, i < j ∧ j < n ∧ g i = g j := by
 intro n h
 rw [List.nodup_iff_pairwise_ne, List.pairwise_map] at h
 by_cases c : ∃ i j, i < j ∧ j < n ∧ g i = g j
 ·exact c
 ·exfalso
  apply h
  rw [List.pairwise_iff_getElem]
  intro i j hi hj hij
  rw [List.length_range] at hi hj
  simp only [List.getElem_range]
  exact fun e => c ⟨i, j, hij, hj, e⟩
def Bd (s : Nat) : Nat := [1, 2, 3, 4, 6, 9, 12, 18, 27, 36, 54, 81, 108, 162, 243, 324, 486, 729, 972, 1458, 2187, 2916, 4374, 6561, 8748, 13122, 19683].getD s 0
theorem Bd_step : ∀ s, s < 26 → Bd s + 1 ≤ Bd (s + 1) := by decide
theorem Bd_mul : ∀ s, s < 27 → ∀ c, c < s → (c + 1) * Bd (s - (c + 1)) ≤ Bd s := by decide
theorem Bd_pos : ∀ s, s < 27 → 1 ≤ Bd s := by decide
theorem code_of {α : Type} [DecidableEq α] (f : α → α) : ∀ (s : Nat), s ≤ 26 → ∀ (S : List α), S.Nodup → S.length ≤ s → (∀ x ∈ S, f x ∈ S) →
  ∃ M : Nat → Nat, (∀ n, M n < Bd s) ∧ ∀ n m, M n = M m → ∀ x ∈ S, itr f n x = itr f m x := by
 intro s
 induction s using Nat.strongRecOn with
 | _ s ih =>
  intro hs S hn hl hc
  cases S with
  | nil => exact ⟨fun _ => 0, fun _ => Bd_pos s (by omega), fun _ _ _ x hx => absurd hx (by simp)⟩
  | cons x0 R =>
   obtain ⟨s, rfl⟩ : ∃ t, s = t + 1 := ⟨s - 1, by rw [List.length_cons] at hl; omega⟩
   obtain ⟨S, hS⟩ : ∃ S, S = x0 :: R := ⟨_, rfl⟩
   have hx0 : x0 ∈ S := by rw [hS]; exact List.mem_cons_self
   rw [← hS] at hn hl hc ⊢
   clear hS
   by_cases hA : ∃ y, y ∈ S ∧ ∀ x ∈ S, f x ≠ y
   ·obtain ⟨y, hy, hne⟩ := hA
    have hle := List.length_erase_of_mem hy
    have hnd : (S.erase y).Nodup := hn.sublist List.erase_sublist
    have hmem : ∀ x ∈ S, f x ∈ S.erase y := fun x hx => (List.mem_erase_of_ne (hne x hx)).2 (hc x hx)
    obtain ⟨M, hM1, hM2⟩ := ih s (by omega) (by omega) (S.erase y) hnd (by omega) (fun x hx => hmem x (List.mem_of_mem_erase hx))
    have hstep := Bd_step s (by omega)
    refine ⟨fun n => if n = 0 then Bd s else M (n - 1), fun n => ?_, fun n m h x hx => ?_⟩
    ·dsimp only
     split
     ·omega
     ·have := hM1 (n - 1); omega
    ·dsimp only at h
     cases n with
     | zero =>
      cases m with
      | zero => rfl
      | succ m => rw [if_pos rfl, if_neg (by omega)] at h; have := hM1 (m + 1 - 1); omega
     | succ n =>
      cases m with
      | zero => rw [if_pos rfl, if_neg (by omega)] at h; have := hM1 (n + 1 - 1); omega
      | succ m =>
       rw [if_neg (by omega), if_neg (by omega)] at h
       exact hM2 n m h (f x) (hmem x hx)
   ·have hsur : ∀ y ∈ S, ∃ x ∈ S, f x = y := by
     intro y hy
     by_cases c : ∃ x ∈ S, f x = y
     ·exact c
     ·exact absurd ⟨y, hy, fun x hx e => c ⟨x, hx, e⟩⟩ hA
    have hnm : (S.map f).Nodup := nodup_of_sub S (S.map f) hn (fun y hy => by
     obtain ⟨x, hx, rfl⟩ := hsur y hy
     exact List.mem_map.2 ⟨x, hx, rfl⟩) (by rw [List.length_map]; exact Nat.le_refl _)
    have hinj : ∀ a ∈ S, ∀ b ∈ S, f a = f b → a = b := by
     intro a ha b hb e
     obtain ⟨i, hi, rfl⟩ := List.getElem_of_mem ha
     obtain ⟨j, hj, rfl⟩ := List.getElem_of_mem hb
     have h2 : (S.map f)[i]'(by rw [List.length_map]; exact hi) = (S.map f)[j]'(by rw [List.length_map]; exact hj) := by rw [List.getElem_map, List.getElem_map]; exact e
     have := (List.getElem_inj hnm).1 h2
     subst this
     rfl
    have hit : ∀ n x, x ∈ S → itr f n x ∈ S := by
     intro n
     induction n with
     | zero => intro x hx; exact hx
     | succ n ihn => intro x hx; exact ihn (f x) (hc x hx)
    have hpeel : ∀ i d, itr f i x0 = itr f (i + d) x0 → itr f d x0 = x0 := by
     intro i
     induction i with
     | zero => intro d h; rw [Nat.zero_add] at h; exact h.symm
     | succ i ihi =>
      intro d h
      rw [show i + 1 + d = (i + d) + 1 by omega, itr_succ, itr_succ] at h
      exact ihi d (hinj _ (hit i x0 hx0) _ (hit (i + d) x0 hx0) h)
    have hret : ∃ c, 0 < c ∧ itr f c x0 = x0 := by
     have : ¬ ((List.range (S.length + 1)).map (fun i => itr f i x0)).Nodup := by
      intro h
      have := nodup_len _ S h (fun y hy => by
       obtain ⟨i, _, rfl⟩ := List.mem_map.1 hy
       exact hit i x0 hx0)
      rw [List.length_map, List.length_range] at this
      omega
     obtain ⟨i, j, hij, _, e⟩ := not_nodup _ _ this
     refine ⟨j - i, by omega, hpeel i (j - i) ?_⟩
     rw [show i + (j - i) = j by omega]
     exact e
    obtain ⟨c1, hc1⟩ := hret
    obtain ⟨c, ⟨hcp, hcx⟩, hmin⟩ := least_of (P := fun c => 0 < c ∧ itr f c x0 = x0) c1 hc1
    obtain ⟨C, hC⟩ : ∃ C, C = (List.range c).map (fun i => itr f i x0) := ⟨_, rfl⟩
    have hCm : ∀ y, y ∈ C ↔ ∃ i, i < c ∧ itr f i x0 = y := by
     intro y
     rw [hC, List.mem_map]
     constructor
     ·rintro ⟨i, hi, e⟩; exact ⟨i, List.mem_range.1 hi, e⟩
     ·rintro ⟨i, hi, e⟩; exact ⟨i, List.mem_range.2 hi, e⟩
    have hCn : C.Nodup := by
     by_cases h : C.Nodup
     ·exact h
     ·rw [hC] at h
      obtain ⟨i, j, hij, hj, e⟩ := not_nodup _ _ h
      have := hpeel i (j - i) (by rw [show i + (j - i) = j by omega]; exact e)
      exact absurd ⟨by omega, this⟩ (hmin (j - i) (by omega))
    have hCl : C.length = c := by rw [hC, List.length_map, List.length_range]
    have hCS : ∀ y ∈ C, y ∈ S := by
     intro y hy
     obtain ⟨i, _, rfl⟩ := (hCm y).1 hy
     exact hit i x0 hx0
    obtain ⟨S', hS'⟩ : ∃ S', S' = S.filter (fun y => decide (y ∉ C)) := ⟨_, rfl⟩
    have hS'm : ∀ y, y ∈ S' ↔ y ∈ S ∧ y ∉ C := by
     intro y; rw [hS', List.mem_filter, decide_eq_true_iff]
    have hS'n : S'.Nodup := by rw [hS']; exact hn.sublist List.filter_sublist
    have hS'l : C.length + S'.length ≤ S.length := by
     have h := nodup_len (C ++ S') S (by
      rw [List.nodup_append]
      exact ⟨hCn, hS'n, fun a ha b hb e => ((hS'm b).1 hb).2 (by rw [← e]; exact ha)⟩) (fun y hy => by
      rcases List.mem_append.1 hy with h | h
      ·exact hCS y h
      ·exact ((hS'm y).1 h).1)
     rwa [List.length_append] at h
    have hS'c : ∀ x ∈ S', f x ∈ S' := by
     intro x hx
     obtain ⟨h1, h2⟩ := (hS'm x).1 hx
     refine (hS'm _).2 ⟨hc x h1, fun h3 => h2 ?_⟩
     obtain ⟨i, hi, e⟩ := (hCm _).1 h3
     cases i with
     | zero =>
      obtain ⟨c', rfl⟩ : ∃ c', c = c' + 1 := ⟨c - 1, by omega⟩
      rw [itr_succ] at hcx
      have e2 : f x = f (itr f c' x0) := by rw [hcx, ← e]; rfl
      have := hinj _ h1 _ (hit c' x0 hx0) e2
      exact (hCm x).2 ⟨c', by omega, this.symm⟩
     | succ i =>
      rw [itr_succ] at e
      have := hinj _ h1 _ (hit i x0 hx0) e.symm
      exact (hCm x).2 ⟨i, by omega, this.symm⟩
    obtain ⟨M, hM1, hM2⟩ := ih (s + 1 - c) (by omega) (by omega) S' hS'n (by omega) hS'c
    have hb := Bd_mul (s + 1) (by omega) (c - 1) (by omega)
    rw [show c - 1 + 1 = c by omega] at hb
    have hper : ∀ n, itr f n x0 = itr f (n % c) x0 := by
     intro n
     induction n using Nat.strongRecOn with
     | _ n ihn =>
      by_cases h : n < c
      ·rw [Nat.mod_eq_of_lt h]
      ·rw [Nat.mod_eq_sub_mod (by omega), ← ihn (n - c) (by omega)]
       have := itr_add f c (n - c) x0
       rw [show c + (n - c) = n by omega, hcx] at this
       exact this
    refine ⟨fun n => n % c + c * M n, fun n => ?_, fun n m h x hx => ?_⟩
    ·have h1 := Nat.mod_lt n hcp
     have h2 := hM1 n
     have h3 : c * M n + c ≤ c * Bd (s + 1 - c) := by
      have := Nat.mul_le_mul_left c (show M n + 1 ≤ Bd (s + 1 - c) from h2)
      rwa [Nat.mul_add, Nat.mul_one] at this
     dsimp only
     omega
    ·dsimp only at h
     have e1 : n % c = m % c := by
      have := congrArg (· % c) h
      simpa [Nat.add_mul_mod_self_left] using this
     have e2 : M n = M m := by
      rw [e1] at h
      exact Nat.eq_of_mul_eq_mul_left hcp (Nat.add_left_cancel h)
     by_cases hxC : x ∈ C
     ·obtain ⟨i, hi, rfl⟩ := (hCm x).1 hxC
      rw [← itr_add, ← itr_add, Nat.add_comm i n, Nat.add_comm i m, itr_add, itr_add, hper n, hper m, e1]
     ·exact hM2 n m e2 x ((hS'm x).2 ⟨hx, hxC⟩)
theorem pigeon (c : Nat → Nat) (N : Nat) (h : ∀ n, c n < N) : ∃ i j, i < j ∧ j ≤ N ∧ c i = c j := by
 have : ¬ ((List.range (N + 1)).map c).Nodup := by
  intro hn
  have := nodup_len _ (List.range N) hn (fun y hy => by
   obtain ⟨i, _, rfl⟩ := List.mem_map.1 hy
   exact List.mem_range.2 (h i))
  rw [List.length_map, List.length_range, List.length_range] at this
  omega
 obtain ⟨i, j, h1, h2, h3⟩ := not_nodup c _ this
 exact ⟨i, j, h1, by omega, h3⟩

def addI : Nat → List Nat → List Nat
 | _, [] => []
 | i, x :: t => (x + i) :: addI (i + 1) t
theorem addI_inj : ∀ (p q : List Nat) (i : Nat), addI i p = addI i q → p = q
 | [], [], _, _ => rfl
 | [], _ :: _, _, h => by simp [addI] at h
 | _ :: _, [], _, h => by simp [addI] at h
 | x :: t, y :: u, i, h => by
  simp only [addI, List.cons.injEq] at h
  have := addI_inj t u (i + 1) h.2
  rw [this, show x = y by omega]
theorem addI_low : ∀ (p : List Nat) (i a y : Nat), (∀ x ∈ p, a ≤ x) → y ∈ addI i p → a + i ≤ y
 | [], _, _, _, _, h => by simp [addI] at h
 | x :: t, i, a, y, ha, h => by
  simp only [addI, List.mem_cons] at h
  rcases h with rfl | h
  ·have := ha x List.mem_cons_self; omega
  ·have := addI_low t (i + 1) a y (fun z hz => ha z (List.mem_cons_of_mem _ hz)) h; omega
theorem addI_high : ∀ (p : List Nat) (i b y : Nat), (∀ x ∈ p, x < b) → y ∈ addI i p → y < b + i + p.length
 | [], _, _, _, _, h => by simp [addI] at h
 | x :: t, i, b, y, ha, h => by
  simp only [addI, List.mem_cons] at h
  rw [List.length_cons]
  rcases h with rfl | h
  ·have := ha x List.mem_cons_self; omega
  ·have := addI_high t (i + 1) b y (fun z hz => ha z (List.mem_cons_of_mem _ hz)) h; omega
theorem addI_inc : ∀ (p : List Nat) (i : Nat), p.Pairwise (· ≤ ·) → (addI i p).Pairwise (· < ·)
 | [], _, _ => List.Pairwise.nil
 | x :: t, i, h => by
  rw [List.pairwise_cons] at h
  simp only [addI]
  rw [List.pairwise_cons]
  exact ⟨fun y hy => by have := addI_low t (i + 1) x y h.1 hy; omega, addI_inc t (i + 1) h.2⟩
theorem inc_ext : ∀ (p q : List Nat), p.Pairwise (· < ·) → q.Pairwise (· < ·) → (∀ x, x ∈ p ↔ x ∈ q) → p = q
 | [], [], _, _, _ => rfl
 | [], y :: _, _, _, h => by have := (h y).2 List.mem_cons_self; simp at this
 | x :: _, [], _, _, h => by have := (h x).1 List.mem_cons_self; simp at this
 | x :: t, y :: u, hp, hq, h => by
  rw [List.pairwise_cons] at hp hq
  have e : x = y := by
   rcases List.mem_cons.1 ((h x).1 List.mem_cons_self) with e | e
   ·exact e
   ·rcases List.mem_cons.1 ((h y).2 List.mem_cons_self) with e2 | e2
    ·exact e2.symm
    ·have a := hq.1 x e; have b := hp.1 y e2; omega
  subst e
  rw [inc_ext t u hp.2 hq.2 (fun z => by
   constructor
   ·intro hz
    rcases List.mem_cons.1 ((h z).1 (List.mem_cons_of_mem _ hz)) with rfl | g
    ·exact absurd (hp.1 z hz) (Nat.lt_irrefl _)
    ·exact g
   ·intro hz
    rcases List.mem_cons.1 ((h z).2 (List.mem_cons_of_mem _ hz)) with rfl | g
    ·exact absurd (hq.1 z hz) (Nat.lt_irrefl _)
    ·exact g)]
def mask : List Nat → Nat
 | [] => 0
 | x :: t => 2 ^ x ||| mask t
theorem mask_bit : ∀ (p : List Nat) (y : Nat), (mask p).testBit y = true ↔ y ∈ p
 | [], y => by simp [mask]
 | x :: t, y => by
  simp only [mask, Nat.testBit_or, Bool.or_eq_true, Nat.testBit_two_pow, decide_eq_true_iff, List.mem_cons, mask_bit t y]
  constructor
  ·rintro (h | h)
   ·exact Or.inl h.symm
   ·exact Or.inr h
  ·rintro (h | h)
   ·exact Or.inl h.symm
   ·exact Or.inr h
theorem mask_lt : ∀ (p : List Nat) (b : Nat), (∀ x ∈ p, x < b) → mask p < 2 ^ b
 | [], b, _ => by simp only [mask]; exact Nat.two_pow_pos b
 | x :: t, b, h => by
  simp only [mask]
  exact Nat.or_lt_two_pow (Nat.pow_lt_pow_right (by decide) (h x List.mem_cons_self)) (mask_lt t b (fun z hz => h z (List.mem_cons_of_mem _ hz)))
def Sh (p : List Nat) : Prop := p.length ≤ 12 ∧ (∀ x ∈ p, x < 12) ∧ (p.Pairwise (· ≤ ·) ∨ p.reverse.Pairwise (· ≤ ·))
open Classical in
noncomputable def shC (p : List Nat) : Nat := if p.Pairwise (· ≤ ·) then 2 * mask (addI 0 p) else 2 * mask (addI 0 p.reverse) + 1
theorem mask_inj (p q : List Nat) (hp : p.Pairwise (· ≤ ·)) (hq : q.Pairwise (· ≤ ·)) (h : mask (addI 0 p) = mask (addI 0 q)) : p = q :=
 addI_inj p q 0 (inc_ext _ _ (addI_inc p 0 hp) (addI_inc q 0 hq) (fun x => by rw [← mask_bit, ← mask_bit, h]))
theorem mask_12 (p : List Nat) (h1 : p.length ≤ 12) (h2 : ∀ x ∈ p, x < 12) : mask (addI 0 p) < 2 ^ 24 :=
 mask_lt _ 24 (fun y hy => by have := addI_high p 0 12 y h2 hy; omega)
theorem shC_lt (p : List Nat) (h : Sh p) : shC p < 2 ^ 25 := by
 unfold shC
 have a := mask_12 p h.1 h.2.1
 have b := mask_12 p.reverse (by rw [List.length_reverse]; exact h.1) (fun x hx => h.2.1 x (List.mem_reverse.1 hx))
 rw [show (2 : Nat) ^ 25 = 2 * 2 ^ 24 from rfl]
 split <;> omega
theorem shC_inj (p q : List Nat) (hp : Sh p) (hq : Sh q) (h : shC p = shC q) : p = q := by
 unfold shC at h
 by_cases a : p.Pairwise (· ≤ ·)
 ·by_cases b : q.Pairwise (· ≤ ·)
  ·rw [if_pos a, if_pos b] at h
   exact mask_inj p q a b (by omega)
  ·rw [if_pos a, if_neg b] at h; omega
 ·by_cases b : q.Pairwise (· ≤ ·)
  ·rw [if_neg a, if_pos b] at h; omega
  ·rw [if_neg a, if_neg b] at h
   have a2 := hp.2.2.resolve_left a
   have b2 := hq.2.2.resolve_left b
   have := mask_inj _ _ a2 b2 (by omega)
   exact List.reverse_inj.1 this
theorem Sh_erase {p : List Nat} (h : Sh p) (i : Nat) : Sh (p.eraseIdx i) := by
 refine ⟨Nat.le_trans (List.eraseIdx_sublist p i).length_le h.1, fun x hx => h.2.1 x ((List.eraseIdx_sublist p i).subset hx), ?_⟩
 rcases h.2.2 with g | g
 ·exact Or.inl (g.sublist (List.eraseIdx_sublist p i))
 ·exact Or.inr (g.sublist (List.reverse_sublist.2 (List.eraseIdx_sublist p i)))
theorem Sh_rev {p : List Nat} (h : Sh p) : Sh p.reverse :=
 ⟨by rw [List.length_reverse]; exact h.1, fun x hx => h.2.1 x (List.mem_reverse.1 hx), by rw [List.reverse_reverse]; exact h.2.2.symm⟩
theorem Sh_double {r : List Nat} {l : Nat} (h : Sh (r ++ [l])) (hl : (r ++ [l]).length < 12) : Sh (r ++ [l] ++ [l]) := by
 refine ⟨by rw [List.length_append]; simp only [List.length_singleton]; omega, fun x hx => ?_, ?_⟩
 ·rcases List.mem_append.1 hx with g | g
  ·exact h.2.1 x g
  ·rw [List.mem_singleton.1 g]; exact h.2.1 l (by simp)
 ·rcases h.2.2 with g | g
  ·left
   rw [List.pairwise_append]
   refine ⟨g, by simp, fun a ha b hb => ?_⟩
   rw [List.mem_singleton.1 hb]
   rw [List.pairwise_append] at g
   rcases List.mem_append.1 ha with k | k
   ·exact g.2.2 a k l (by simp)
   ·rw [List.mem_singleton.1 k]; exact Nat.le_refl _
  ·right
   rw [List.reverse_append, List.reverse_append] at *
   simp only [List.reverse_singleton, List.singleton_append] at *
   rw [List.pairwise_cons]
   refine ⟨fun a ha => ?_, g⟩
   rw [List.pairwise_cons] at g
   rcases List.mem_cons.1 ha with rfl | k
   ·exact Nat.le_refl _
   ·exact g.1 a k
theorem Sh_start (n : Nat) (h : n ≤ 12) : Sh (List.range n) :=
 ⟨by rw [List.length_range]; exact h, fun x hx => by have := List.mem_range.1 hx; omega, Or.inl (List.pairwise_lt_range.imp (fun h => Nat.le_of_lt h))⟩

def swH (h : S40) (x : Int) : Int := if h.f0 = 1 then Go.Proofs.YtobickehjnogjaaGreatDoor.H.swap1 h.f1 h.f2 x else x
def swAll (hs : List S40) (x : Int) : Int := hs.foldl (fun x h => swH h x) x
theorem swH_letter (h : S40) (hk : habitOk h.f0 h.f1 h.f2 = true) (x : Int) (hx : letter x = true) : letter (swH h x) = true := by
 unfold swH
 by_cases f1 : h.f0 = 1
 ·rw [if_pos f1]
  unfold habitOk at hk
  rw [if_neg (by omega), if_pos f1, Bool.and_eq_true, Bool.and_eq_true] at hk
  unfold Go.Proofs.YtobickehjnogjaaGreatDoor.H.swap1
  by_cases e : x = h.f1
  ·rw [if_pos e]; exact hk.1.2
  ·rw [if_neg e]; exact hx
 ·rw [if_neg f1]; exact hx
theorem swAll_letter : ∀ (hs : List S40), habitsOk hs = true → ∀ x, letter x = true → letter (swAll hs x) = true
 | [], _, x, hx => hx
 | h :: r, hk, x, hx => by
  unfold habitsOk at hk
  rw [List.all_cons, Bool.and_eq_true] at hk
  exact swAll_letter r hk.2 _ (swH_letter h hk.1 x hx)
theorem bytesOf_extract (w : ByteArray) (i j : Nat) : bytesOf (w.extract i j) = ((bytesOf w).take j).drop i := by
 unfold bytesOf
 rw [ByteArray.data_extract, Array.toList_extract]
 rw [List.extract_eq_take_drop, List.map_take, List.map_drop, List.drop_take]
theorem hear_shape (h : S40) (w : ByteArray) (hw : okW w) (g : Nat → Int) (hg : ∀ i, letter (g i) = true) (hg2 : ∀ i, letter (swH h (g i)) = true) (p : List Nat) (hp : Sh p) (e : bytesOf w = p.map g) :
  ∃ q, Sh q ∧ bytesOf (hearH h w) = q.map (fun i => swH h (g i)) := by
 have hlen : p.length = w.size := by have := congrArg List.length e; rw [bytesOf_length, List.length_map] at this; exact this.symm
 unfold hearH hearF
 by_cases f1 : h.f0 = 1
 ·refine ⟨p, hp, ?_⟩
  have hs : swH h = Go.Proofs.YtobickehjnogjaaGreatDoor.H.swap1 h.f1 h.f2 := by funext x; unfold swH; rw [if_pos f1]
  rw [if_pos f1, e, List.map_map, bytesOf_strOfNums]
  ·apply List.map_congr_left; intro i _; rw [hs]; rfl
  ·intro x hx
   obtain ⟨i, _, rfl⟩ := List.mem_map.1 hx
   have := hg2 i
   rw [hs] at this
   simp only [letter, decide_eq_true_eq] at this
   simp only [Function.comp]
   omega
 ·have hs : (fun i => swH h (g i)) = g := by funext i; unfold swH; rw [if_neg f1]
  rw [if_neg f1, hs]
  by_cases f2 : h.f0 = 2
  ·rw [if_pos f2]
   by_cases s1 : w.size = 1
   ·rw [if_pos s1]; exact ⟨p, hp, e⟩
   ·rw [if_neg s1]
    unfold dropB
    split
    ·refine ⟨p.eraseIdx (Go.Lib.indexByte w.data.toList h.f1.toNat.toUInt8).toNat, Sh_erase hp _, ?_⟩
     rw [bytesOf_append, bytesOf_extract, bytesOf_extract, List.drop_zero, List.take_of_length_le (i := w.size) (by rw [bytesOf_length]; exact Nat.le_refl _), ← List.eraseIdx_eq_take_drop_succ, e]
     first | rw [List.eraseIdx_map] | rw [← List.eraseIdx_map] | rw [← List.map_eraseIdx] | simp [List.eraseIdx_eq_take_drop_succ]
    ·exact ⟨p, hp, e⟩
  ·rw [if_neg f2]
   by_cases f3 : h.f0 = 3
   ·rw [if_pos f3]
    split
    ·rename_i h12
     obtain ⟨r, l, rfl⟩ : ∃ r l, p = r ++ [l] := by
      have hne : p ≠ [] := by intro z; rw [z] at hlen; have := hw.1; simp at hlen; omega
      exact ⟨p.dropLast, p.getLast hne, (List.dropLast_concat_getLast hne).symm⟩
     refine ⟨r ++ [l] ++ [l], Sh_double hp (by omega), ?_⟩
     rw [bytesOf_append, bytesOf_extract, List.take_of_length_le (by rw [bytesOf_length]; exact Nat.le_refl _), e, List.map_append (l₁ := r ++ [l])]
     congr 1
     rw [List.length_append, List.length_singleton] at hlen
     rw [List.map_append, List.drop_append_of_le_length (by rw [List.length_map]; omega), List.drop_eq_nil_of_le (by rw [List.length_map]; omega), List.nil_append]
    ·exact ⟨p, hp, e⟩
   ·rw [if_neg f3]
    by_cases f4 : h.f0 = 4
    ·rw [if_pos f4]
     split
     ·refine ⟨p.reverse, Sh_rev hp, ?_⟩
      rw [bytesOf_strOfNums, e, List.map_reverse]
      intro x hx
      rw [List.mem_reverse, e] at hx
      obtain ⟨i, _, rfl⟩ := List.mem_map.1 hx
      have := hg i
      simp only [letter, decide_eq_true_eq] at this
      omega
     ·exact ⟨p, hp, e⟩
    ·rw [if_neg f4]; exact ⟨p, hp, e⟩
theorem pass_shape : ∀ (hs : List S40) (_ : habitsOk hs = true) (w : ByteArray) (_ : okW w) (g : Nat → Int) (_ : ∀ i, letter (g i) = true) (p : List Nat) (_ : Sh p) (_ : bytesOf w = p.map g),
  ∃ q, Sh q ∧ bytesOf (passF hs w) = q.map (fun i => swAll hs (g i))
 | [], _, w, _, g, _, p, hp, e => ⟨p, hp, e⟩
 | h :: r, hk, w, hw, g, hg, p, hp, e => by
  unfold habitsOk at hk
  rw [List.all_cons, Bool.and_eq_true] at hk
  have hg2 : ∀ i, letter (swH h (g i)) = true := fun i => swH_letter h hk.1 _ (hg i)
  obtain ⟨q, hq, e2⟩ := hear_shape h w hw g hg hg2 p hp e
  exact pass_shape r hk.2 (hearH h w) (hearF_ok _ _ _ w hw) (fun i => swH h (g i)) hg2 q hq e2
theorem passF_ok : ∀ (hs : List S40) (w : ByteArray), okW w → okW (passF hs w)
 | [], _, h => h
 | h :: r, w, hw => passF_ok r (hearH h w) (hearF_ok _ _ _ w hw)
theorem bytesOf_inj (v w : ByteArray) (h : bytesOf v = bytesOf w) : v = w := by
 have : v.data.toList = w.data.toList := by
  unfold bytesOf at h
  refine List.map_inj_right (f := fun b : UInt8 => (b.toNat : Int)) (fun a b e => ?_) |>.1 h
  exact UInt8.toNat_inj.1 (by exact_mod_cast e)
 exact ByteArray.ext (Array.toList_inj.1 this)
def lettersL : List Int := (List.range 26).map (fun i : Nat => 97 + (i : Int))
theorem lettersL_mem (x : Int) : x ∈ lettersL ↔ letter x = true := by
 unfold lettersL
 rw [List.mem_map]
 simp only [letter, decide_eq_true_eq]
 constructor
 ·rintro ⟨i, hi, rfl⟩; have := List.mem_range.1 hi; omega
 ·intro h; exact ⟨(x - 97).toNat, List.mem_range.2 (by omega), by omega⟩
/-- Passed on again and again, a word comes again within 660451885057 rounds. -/
theorem orbit_rep (hs : List S40) (hk : habitsOk hs = true) (w : ByteArray) (hw : wordOk w = true) : ∃ i j, i < j ∧ j ≤ 660451885056 ∧ itr (passF hs) i w = itr (passF hs) j w := by
 obtain ⟨hsz, hlt⟩ := (wordOk_iff w).1 hw
 obtain ⟨M, hM1, hM2⟩ := code_of (swAll hs) 26 (Nat.le_refl _) lettersL (by decide +kernel) (by decide +kernel) (fun x hx => (lettersL_mem _).2 (swAll_letter hs hk x ((lettersL_mem x).1 hx)))
 have hit : ∀ n x, letter x = true → letter (itr (swAll hs) n x) = true := by
  intro n
  induction n with
  | zero => intro x hx; exact hx
  | succ n ih => intro x hx; exact ih _ (swAll_letter hs hk x hx)
 obtain ⟨g0, hg0⟩ : ∃ g0 : Nat → Int, g0 = fun i => (bytesOf w).getD i 97 := ⟨_, rfl⟩
 have hgl : ∀ i, letter (g0 i) = true := by
  intro i
  rw [hg0]
  dsimp only
  rw [List.getD_eq_getElem?_getD]
  cases hq : (bytesOf w)[i]? with
  | none => rfl
  | some x => exact hlt x (List.mem_of_getElem? hq)
 have hst : ∀ n, ∃ p, Sh p ∧ okW (itr (passF hs) n w) ∧ bytesOf (itr (passF hs) n w) = p.map (fun i => itr (swAll hs) n (g0 i)) := by
  intro n
  induction n with
  | zero =>
   refine ⟨List.range w.size, Sh_start _ hsz.2, hsz, ?_⟩
   apply List.ext_getElem?
   intro i
   rw [List.getElem?_map]
   by_cases h : i < w.size
   ·rw [List.getElem?_range h, List.getElem?_eq_getElem (by rw [bytesOf_length]; exact h)]
    simp only [Option.map_some, itr, hg0, List.getD_eq_getElem?_getD]
    rw [List.getElem?_eq_getElem (by rw [bytesOf_length]; exact h)]
    rfl
   ·have h0 : (bytesOf (itr (passF hs) 0 w))[i]? = none := List.getElem?_eq_none (by rw [bytesOf_length]; show w.size ≤ i; omega)
    rw [h0, List.getElem?_eq_none (by rw [List.length_range]; omega)]
    rfl
  | succ n ih =>
   obtain ⟨p, hp, ho, e⟩ := ih
   obtain ⟨q, hq, e2⟩ := pass_shape hs hk _ ho (fun i => itr (swAll hs) n (g0 i)) (fun i => hit n _ (hgl i)) p hp e
   refine ⟨q, hq, by rw [itr_succ]; exact passF_ok hs _ ho, ?_⟩
   rw [itr_succ, e2]
   apply List.map_congr_left
   intro i _
   rw [itr_succ]
 obtain ⟨P, hP⟩ : ∃ P : Nat → List Nat, ∀ n, Sh (P n) ∧ okW (itr (passF hs) n w) ∧ bytesOf (itr (passF hs) n w) = (P n).map (fun i => itr (swAll hs) n (g0 i)) := ⟨fun n => Classical.choose (hst n), fun n => Classical.choose_spec (hst n)⟩
 obtain ⟨i, j, h1, h2, h3⟩ := pigeon (fun n => M n * 2 ^ 25 + shC (P n)) 660451885056 (fun n => by
  have a := hM1 n
  have b := shC_lt (P n) (hP n).1
  have c : Bd 26 = 19683 := rfl
  have d : (2 : Nat) ^ 25 = 33554432 := rfl
  rw [c] at a
  rw [d] at b ⊢
  omega)
 refine ⟨i, j, h1, h2, bytesOf_inj _ _ ?_⟩
 have b1 := shC_lt (P i) (hP i).1
 have b2 := shC_lt (P j) (hP j).1
 have d : (2 : Nat) ^ 25 = 33554432 := rfl
 rw [d] at h3 b1 b2
 have e1 : M i = M j := by omega
 have e2 : shC (P i) = shC (P j) := by omega
 rw [(hP i).2.2, (hP j).2.2, shC_inj _ _ (hP i).1 (hP j).1 e2]
 apply List.map_congr_left
 intro a _
 exact hM2 i j e1 _ ((lettersL_mem _).2 (hgl a))

/-! RoundUntil, the parts -/
def wn (hs : List S40) (w : ByteArray) (n : Nat) : ByteArray := itr (passF hs) n w
def saidN (hs : List S40) (w : ByteArray) (n : Nat) : List ByteArray := (List.range n).map (wn hs w)
theorem saidN_length (hs : List S40) (w : ByteArray) (n : Nat) : (saidN hs w n).length = n := by simp [saidN]
theorem saidN_succ (hs : List S40) (w : ByteArray) (n : Nat) : saidN hs w n ++ [wn hs w n] = saidN hs w (n + 1) := by simp [saidN, List.range_succ]
theorem saidN_rd (hs : List S40) (w : ByteArray) (n k : Nat) (h : k < n) : rdOf ByteArray.empty (saidN hs w n) (k : Int) = wn hs w k := by
 rw [rdS_nat, List.getD_eq_getElem?_getD]
 simp [saidN, h]
theorem wn_succ (hs : List S40) (w : ByteArray) (n : Nat) : wn hs w (n + 1) = passF hs (wn hs w n) := itr_succ _ n w
theorem wn_ok (hs : List S40) (w : ByteArray) (hw : okW w) : ∀ n, okW (wn hs w n)
 | 0 => hw
 | n + 1 => by rw [wn_succ]; exact passF_ok hs _ (wn_ok hs w hw n)
structure FirstRep (hs : List S40) (w : ByteArray) (n0 k0 : Nat) : Prop where
 lt : k0 < n0
 le : n0 ≤ 660451885056
 eq : wn hs w k0 = wn hs w n0
 no : ∀ n, n < n0 → ∀ k, k < n → wn hs w k ≠ wn hs w n
 un : ∀ k, k < n0 → wn hs w k = wn hs w n0 → k = k0
theorem firstRep (hs : List S40) (hk : habitsOk hs = true) (w : ByteArray) (hw : wordOk w = true) : ∃ n0 k0, FirstRep hs w n0 k0 := by
 obtain ⟨i, j, h1, h2, h3⟩ := orbit_rep hs hk w hw
 obtain ⟨n0, ⟨hle, k0, hk0, he⟩, hmin⟩ := least_of (P := fun n => n ≤ 660451885056 ∧ ∃ k, k < n ∧ wn hs w k = wn hs w n) j ⟨h2, i, h1, h3⟩
 have hno : ∀ n, n < n0 → ∀ k, k < n → wn hs w k ≠ wn hs w n := fun n hn k hk2 e => hmin n hn ⟨by omega, k, hk2, e⟩
 refine ⟨n0, k0, hk0, hle, he, hno, fun k hk2 e => ?_⟩
 rcases Nat.lt_trichotomy k k0 with h | h | h
 ·exact absurd (e.trans he.symm) (hno k0 hk0 k h)
 ·exact h
 ·exact absurd (he.trans e.symm) (hno k hk2 k0 h)
theorem specRound_hit (hs : List S40) (w : ByteArray) (n0 k0 : Nat) (F : FirstRep hs w n0 k0) : ∀ (d i k : Nat), i + d = k0 → d < k → spec_RoundUntil.l1 k hs (wn hs w n0) (saidN hs w n0) (n0 : Int) (i : Int) = some ((n0 : Int), (n0 : Int) - (k0 : Int), 0) := by
 have hle := F.le
 have hlt := F.lt
 intro d
 induction d with
 | zero =>
  intro i k hi hk
  obtain ⟨k, rfl⟩ : ∃ m, k = m + 1 := ⟨k - 1, by omega⟩
  obtain rfl : i = k0 := by omega
  simp only [spec_RoundUntil.l1]
  rw [saidN_length, if_pos (by omega), if_pos (by omega), saidN_rd hs w n0 i hlt, if_pos ((toList_inj _ _).2 F.eq), wrap64_id _ (by omega) (by omega)]
 | succ d ih =>
  intro i k hi hk
  obtain ⟨k, rfl⟩ : ∃ m, k = m + 1 := ⟨k - 1, by omega⟩
  have hne : ¬ wn hs w i = wn hs w n0 := fun e => by have := F.un i (by omega) e; omega
  simp only [spec_RoundUntil.l1]
  rw [saidN_length, if_pos (by omega), if_pos (by omega), saidN_rd hs w n0 i (by omega), if_neg (fun e => hne ((toList_inj _ _).1 e)), wrap_nat i (by omega)]
  exact ih (i + 1) k (by omega) (by omega)
theorem specRound_miss (hs : List S40) (w : ByteArray) (n0 k0 : Nat) (F : FirstRep hs w n0 k0) (n : Nat) (hn : n < n0) : ∀ (d i k : Nat), i + d = n → d < k → spec_RoundUntil.l1 k hs (wn hs w n) (saidN hs w n) (n : Int) (i : Int) = spec_RoundUntil.l0 (k - (d + 1)) hs (wn hs w n) (saidN hs w (n + 1)) ((n + 1 : Nat) : Int) := by
 have hle := F.le
 have hlt := F.lt
 intro d
 induction d with
 | zero =>
  intro i k hi hk
  obtain ⟨k, rfl⟩ : ∃ m, k = m + 1 := ⟨k - 1, by omega⟩
  simp only [spec_RoundUntil.l1]
  rw [saidN_length, if_neg (by omega), if_pos (by omega), saidN_succ, wrap_nat n (by omega)]
  rfl
 | succ d ih =>
  intro i k hi hk
  obtain ⟨k, rfl⟩ : ∃ m, k = m + 1 := ⟨k - 1, by omega⟩
  simp only [spec_RoundUntil.l1]
  rw [saidN_length, if_pos (by omega), if_pos (by omega), saidN_rd hs w n i (by omega), if_neg (fun e => F.no n hn i (by omega) ((toList_inj _ _).1 e)), wrap_nat i (by omega), show k + 1 - (d + 1 + 1) = k - (d + 1) by omega]
  exact ih (i + 1) k (by omega) (by omega)
theorem specRound_l0 (hs : List S40) (hl : hs.length ≤ 30) (hr : ∀ h ∈ hs, habR h) (w : ByteArray) (hw : okW w) (n0 k0 : Nat) (F : FirstRep hs w n0 k0) (Q : Nat) (hQ : n0 + 200 ≤ Q) : ∀ (d n k : Nat), n + 1 + d = n0 → d * Q + Q < k → spec_RoundUntil.l0 k hs (wn hs w n) (saidN hs w (n + 1)) ((n + 1 : Nat) : Int) = some ((n0 : Int), (n0 : Int) - (k0 : Int), 0) := by
 intro d
 induction d with
 | zero =>
  intro n k hi hk
  rw [Nat.zero_mul] at hk
  obtain ⟨k, rfl⟩ : ∃ m, k = m + 1 := ⟨k - 1, by omega⟩
  have hlt := F.lt
  obtain rfl : n0 = n + 1 := by omega
  simp only [spec_RoundUntil.l0]
  rw [specPass_eq hs (by omega) hr _ (wn_ok hs w hw n) k (by omega), Option.bind_some, ← wn_succ]
  have := specRound_hit hs w (n + 1) k0 F k0 0 k (by omega) (by omega)
  rw [show ((0 : Nat) : Int) = 0 from rfl] at this
  exact this
 | succ d ih =>
  intro n k hi hk
  rw [Nat.succ_mul] at hk
  obtain ⟨D, hD⟩ : ∃ D, D = d * Q := ⟨_, rfl⟩
  have ih2 := fun n k (h1 : n + 1 + d = n0) (h2 : D + Q < k) => ih n k h1 (by rw [← hD]; exact h2)
  rw [← hD] at hk
  clear hD ih
  obtain ⟨k, rfl⟩ : ∃ m, k = m + 1 := ⟨k - 1, by omega⟩
  simp only [spec_RoundUntil.l0]
  rw [specPass_eq hs (by omega) hr _ (wn_ok hs w hw n) k (by omega), Option.bind_some, ← wn_succ]
  have := specRound_miss hs w n0 k0 F (n + 1) (by omega) (n + 1) 0 k (by omega) (by omega)
  rw [show ((0 : Nat) : Int) = 0 from rfl] at this
  rw [this]
  exact ih2 (n + 1) _ (by omega) (by omega)
theorem idx_none (hs : List S40) (w : ByteArray) (n0 k0 : Nat) (F : FirstRep hs w n0 k0) (n : Nat) (hn : n < n0) : Go.Proofs.YtobickehjnogjaaGreatDoor.H.roundIdx (saidN hs w n) (wn hs w n) = none := by
 unfold Go.Proofs.YtobickehjnogjaaGreatDoor.H.roundIdx
 rw [List.findIdx?_eq_none_iff]
 intro y hy
 obtain ⟨i, hi, rfl⟩ := List.mem_map.1 hy
 exact decide_eq_false (F.no n hn i (List.mem_range.1 hi))
theorem idx_some (hs : List S40) (w : ByteArray) (n0 k0 : Nat) (F : FirstRep hs w n0 k0) : Go.Proofs.YtobickehjnogjaaGreatDoor.H.roundIdx (saidN hs w n0) (wn hs w n0) = some k0 := by
 unfold Go.Proofs.YtobickehjnogjaaGreatDoor.H.roundIdx
 rw [List.findIdx?_eq_some_iff_getElem]
 have hlt := F.lt
 refine ⟨by rw [saidN_length]; exact hlt, ?_, fun j hj => ?_⟩
 ·simp only [saidN, List.getElem_map, List.getElem_range]
  exact decide_eq_true F.eq
 ·simp only [saidN, List.getElem_map, List.getElem_range]
  simp only [decide_eq_true_eq]
  intro e
  have := F.un j (by omega) e
  omega
theorem implRound (hs : List S40) (w : ByteArray) (hw : okW w) (n0 k0 : Nat) (F : FirstRep hs w n0 k0) (G : ByteArray → Option ByteArray) (hG : ∀ x, okW x → G x = some (passF hs x)) : ∀ (d n k : Nat), n + d = n0 → d < k → Go.Proofs.YtobickehjnogjaaGreatDoor.H.roundF G k (saidN hs w n) (wn hs w n) = some ((n0 : Int), (n0 : Int) - (k0 : Int)) := by
 intro d
 induction d with
 | zero =>
  intro n k hi hk
  obtain ⟨k, rfl⟩ : ∃ m, k = m + 1 := ⟨k - 1, by omega⟩
  obtain rfl : n = n0 := by omega
  simp only [Go.Proofs.YtobickehjnogjaaGreatDoor.H.roundF]
  rw [idx_some hs w n k0 F]
  simp only [saidN_length]
 | succ d ih =>
  intro n k hi hk
  obtain ⟨k, rfl⟩ : ∃ m, k = m + 1 := ⟨k - 1, by omega⟩
  simp only [Go.Proofs.YtobickehjnogjaaGreatDoor.H.roundF]
  rw [idx_none hs w n0 k0 F n (by omega)]
  simp only
  rw [hG _ (wn_ok hs w hw n), Option.bind_some, saidN_succ, ← wn_succ]
  exact ih (n + 1) k (by omega) (by omega)

theorem same_w0 (l : List ByteArray) (hl : l.length ≤ 1048576) : ∀ (d i k : Nat), i + d = l.length → d < k → spec_SameWords.l0 k l l (i : Int) = some true := by
 intro d
 induction d with
 | zero =>
  intro i k hi hk
  obtain ⟨k, rfl⟩ : ∃ m, k = m + 1 := ⟨k - 1, by omega⟩
  simp only [spec_SameWords.l0]
  rw [if_neg (by omega)]
 | succ d ih =>
  intro i k hi hk
  obtain ⟨k, rfl⟩ : ∃ m, k = m + 1 := ⟨k - 1, by omega⟩
  simp only [spec_SameWords.l0]
  rw [if_pos (by omega), if_pos (by omega), if_pos (by omega), if_pos trivial, wrap_nat i (by omega), ih (i + 1) k (by omega) (by omega)]
theorem same_w (l : List ByteArray) (hl : l.length ≤ 100000) (k : Nat) (hk : 100000 < k) : spec_SameWords.f k l l = some true := by
 unfold spec_SameWords.f
 rw [if_pos rfl]
 have := same_w0 l (by omega) l.length 0 k (by omega) (by omega)
 rwa [show ((0 : Nat) : Int) = 0 from rfl] at this
theorem has_w0 (l : List ByteArray) (w : ByteArray) (hl : l.length ≤ 1048576) : ∀ (d i k : Nat), i + d = l.length → d < k → w ∈ l.drop i → spec_HasWord.l0 k l w (i : Int) = some true := by
 intro d
 induction d with
 | zero =>
  intro i k hi hk hm
  rw [List.drop_eq_nil_of_le (by omega)] at hm
  exact absurd hm (by simp)
 | succ d ih =>
  intro i k hi hk hm
  obtain ⟨k, rfl⟩ : ∃ m, k = m + 1 := ⟨k - 1, by omega⟩
  simp only [spec_HasWord.l0]
  have hd := drop_rdS l i (by omega)
  rw [hd, List.mem_cons] at hm
  rw [if_pos (by omega), if_pos (by omega), wrap_nat i (by omega)]
  by_cases e : rdOf ByteArray.empty l (i : Int) = w
  ·rw [if_pos ((toList_inj _ _).2 e)]
  ·rw [if_neg (fun z => e ((toList_inj _ _).1 z))]
   exact ih (i + 1) k (by omega) (by omega) (hm.elim (fun z => absurd z.symm e) id)
theorem has_w (l : List ByteArray) (w : ByteArray) (h : w ∈ l) (hl : l.length ≤ 100000) (k : Nat) (hk : 100000 < k) : spec_HasWord.f k l w = some true := by
 unfold spec_HasWord.f
 have := has_w0 l w (by omega) l.length 0 k (by omega) (by omega) (by rw [List.drop_zero]; exact h)
 rwa [show ((0 : Nat) : Int) = 0 from rfl] at this
theorem said_step : ∀ (hs : List S40) (w : ByteArray) (j : Nat), j < hs.length → (w :: saidF hs w).getD (j + 1) ByteArray.empty = hearH (hs.getD j z40) ((w :: saidF hs w).getD j ByteArray.empty)
 | [], _, j, h => absurd h (by simp)
 | x :: r, w, 0, _ => rfl
 | x :: r, w, j + 1, h => said_step r (hearH x w) j (by simpa using h)
def sd (hs : List S40) (w : ByteArray) (j : Nat) : ByteArray := rdOf ByteArray.empty (w :: saidF hs w) (j : Int)
theorem sd_succ (hs : List S40) (w : ByteArray) (j : Nat) (h : j < hs.length) : sd hs w (j + 1) = hearH (rd_T40 hs (j : Int)) (sd hs w j) := by
 unfold sd
 rw [rdS_nat, rdS_nat, said_step hs w j h]
 simp [rd_T40]
theorem sd_last (hs : List S40) (w : ByteArray) : sd hs w hs.length = passF hs w := by
 unfold sd
 rw [rdS_nat, saidF_last]
theorem okH_of {x : S40} (h : habOk x) : okH x := ⟨h.1, h.2.1, h.2.2⟩
theorem sd_ok (hs : List S40) (hh : ∀ h ∈ hs, habOk h) (w : ByteArray) (hw : wordOk w = true) : ∀ j, j ≤ hs.length → wordOk (sd hs w j) = true
 | 0, _ => hw
 | j + 1, h => by
  rw [sd_succ hs w j (by omega)]
  exact hearH_word _ (okH_of (hh _ (mem_hab hs j (by omega)))) _ (sd_ok hs hh w hw j (by omega))
theorem ss_lt (l : List ByteArray) (h : SS l) (j : Nat) (hj : j + 1 < l.length) : Op.bytesLess (rdOf ByteArray.empty l (j : Int)).toList (rdOf ByteArray.empty l ((j + 1 : Nat) : Int)).toList = true := by
 rw [less_kb, rdS_nat, rdS_nat, List.getD_eq_getElem?_getD, List.getD_eq_getElem?_getD, List.getElem?_eq_getElem hj, List.getElem?_eq_getElem (show j < l.length by omega)]
 exact decide_eq_true (List.pairwise_iff_getElem.1 h j (j + 1) (by omega) hj (by omega))
theorem rd_in (l : List ByteArray) (j : Nat) (h : j < l.length) : rdOf ByteArray.empty l (j : Int) ∈ l := by
 rw [rdS_nat, List.getD_eq_getElem?_getD, List.getElem?_eq_getElem h]
 exact List.getElem_mem h
theorem round_both (hs : List S40) (m : Int) (hl : hs.length ≤ 30) (hh : ∀ h ∈ hs, habOk h) (w : ByteArray) (hw : wordOk w = true) : ∃ n0 k0, FirstRep hs w n0 k0 ∧ ∀ k, 660451886000000000000000000 ≤ k → spec_RoundUntil.f k hs w = some ((n0 : Int), (n0 : Int) - (k0 : Int), 0) ∧ impl_RoundUntil.f k hs w m = some ((n0 : Int), (n0 : Int) - (k0 : Int), 0) := by
 have hok : habitsOk hs = true := List.all_eq_true.2 (fun h q => (hh h q).1)
 obtain ⟨n0, k0, F⟩ := firstRep hs hok w hw
 refine ⟨n0, k0, F, fun k hk => ?_⟩
 have hle := F.le
 have hlt := F.lt
 have hw2 := wordOk_size w hw
 have hr : ∀ h ∈ hs, habR h := fun h q => (hh h q).2
 have hsz : w.size ≤ maxLen := by simp only [maxLen]; omega
 have hb := word_sz _ (one_ok w hw)
 have hq : hs.length ≤ 1048576 := by omega
 have e1 := specRound_l0 hs hl hr w hw2 n0 k0 F 660451885300 (by omega) (n0 - 1) 0 k (by omega) (by
  have := Nat.mul_le_mul_right 660451885300 (show n0 - 1 ≤ 660451885055 by omega)
  omega)
 have e2 := implRound hs w hw2 n0 k0 F (impl_RoundUntil.F k hs m) (fun x hx => by
  unfold impl_RoundUntil.F
  rw [implPassed_eq hs m hq hr x hx k (by omega), Option.bind_some]
  have := passF_ok hs x hx
  rw [if_pos (by have := this.2; simp only [maxLen]; omega)]) n0 0 (min k 4611686018427387900) (by omega) (by omega)
 have s0 : saidN hs w (0 + 1) = [w] := rfl
 have s1 : saidN hs w 0 = [] := rfl
 have s2 : wn hs w 0 = w := rfl
 rw [s0, s2, show ((0 + 1 : Nat) : Int) = 1 from rfl] at e1
 rw [s1, s2] at e2
 unfold spec_RoundUntil.f impl_RoundUntil.f
 rw [asked_eq hs [w] hq (by simp) hb k (by omega), chainCode_eq hs [w] hq (by simp) hb k (by omega), codeA_zero hs [w] hl (by simp) hh (one_ok w hw), codeH_zero hs [w] hl hh (one_ok w hw)]
 simp only [Option.bind_some]
 rw [if_pos trivial, if_pos trivial, if_pos hsz, e1, e2]
 exact ⟨rfl, rfl⟩
def wthen (hs : List S40) (w : ByteArray) (k0 n : Nat) : ByteArray := wn hs w (min n k0)
theorem wn_word (hs : List S40) (w : ByteArray) (hh : ∀ h ∈ hs, habOk h) (hw : wordOk w = true) : ∀ n, wordOk (wn hs w n) = true
 | 0 => hw
 | n + 1 => by rw [wn_succ]; exact passF_word hs hh _ (wn_word hs w hh hw n)
theorem wh_l3 (hs : List S40) (hl : hs.length ≤ 30) (hh : ∀ h ∈ hs, habOk h) (w : ByteArray) (hw : wordOk w = true) (n0 k0 : Nat) (F : FirstRep hs w n0 k0) : ∀ (d n k : Nat), n + d = n0 → d + 6000100 < k → laws_FnWhispers.l3 k hs (n0 : Int) ((n0 : Int) - (k0 : Int)) (wn hs w n) (wthen hs w k0 n) (n : Int) = some true := by
 have hlt := F.lt
 have hle := F.le
 intro d
 induction d with
 | zero =>
  intro n k hi hk
  obtain ⟨k, rfl⟩ : ∃ q, k = q + 1 := ⟨k - 1, by omega⟩
  obtain rfl : n = n0 := by omega
  simp only [laws_FnWhispers.l3]
  rw [if_neg (by omega)]
  have e : wthen hs w k0 n = wn hs w n := by
   unfold wthen
   rw [Nat.min_eq_right (by omega), F.eq]
  rw [e]
  simp
 | succ d ih =>
  intro n k hi hk
  obtain ⟨k, rfl⟩ : ∃ q, k = q + 1 := ⟨k - 1, by omega⟩
  have h := ih (n + 1) k (by omega) (by omega)
  simp only [laws_FnWhispers.l3]
  rw [if_pos (by omega), specPassOn_eq hs hl hh _ (wn_word hs w hh hw n) k (by omega), Option.bind_some]
  dsimp only
  rw [if_pos rfl, wrap64_id _ (by omega) (by omega), wrap_nat n (by omega), ← wn_succ]
  by_cases c : (n : Int) < (n0 : Int) - ((n0 : Int) - (k0 : Int))
  ·rw [if_pos c]
   have e : wthen hs w k0 (n + 1) = wn hs w (n + 1) := by unfold wthen; rw [Nat.min_eq_left (by omega)]
   rw [e] at h
   exact h
  ·rw [if_neg c]
   have e : wthen hs w k0 (n + 1) = wthen hs w k0 n := by unfold wthen; rw [Nat.min_eq_right (by omega), Nat.min_eq_right (by omega)]
   rw [e] at h
   exact h
theorem wh_tail (hs : List S40) (m : Int) (hl : hs.length ≤ 30) (hh : ∀ h ∈ hs, habOk h) (w : ByteArray) (hw : wordOk w = true) (k : Nat) (hk : 660451886000000000000000010 ≤ k) : ((impl_RoundUntil.f k hs w m).bind fun bt553 => ((spec_RoundUntil.f k hs w).bind fun bt556 => (if bt553.2.2 = bt556.2.2 then (if bt553.2.2 = 0 then (if bt553.1 = bt556.1 then (if bt553.2.1 = bt556.2.1 then (if bt556.2.1 < 1 then (laws_FnWhispers.j7 k hs w bt556.1 bt556.2.1 true) else (laws_FnWhispers.j7 k hs w bt556.1 bt556.2.1 (decide (bt556.2.1 > bt556.1)))) else (laws_FnWhispers.j7 k hs w bt556.1 bt556.2.1 true)) else (laws_FnWhispers.j7 k hs w bt556.1 bt556.2.1 true)) else (laws_FnWhispers.j7 k hs w bt556.1 bt556.2.1 true)) else (laws_FnWhispers.j7 k hs w bt556.1 bt556.2.1 true)))) = some true := by
 obtain ⟨n0, k0, F, h⟩ := round_both hs m hl hh w hw
 have hlt := F.lt
 have hle := F.le
 obtain ⟨e1, e2⟩ := h k (by omega)
 rw [e1, e2]
 simp only [Option.bind_some, if_true]
 obtain ⟨k, rfl⟩ : ∃ q, k = q + 1 := ⟨k - 1, by omega⟩
 rw [if_neg (by omega), decide_eq_false (by omega)]
 simp only [laws_FnWhispers.j7]
 rw [if_neg (by decide)]
 have h3 := wh_l3 hs hl hh w hw n0 k0 F n0 0 k (by omega) (by omega)
 rw [show ((0 : Nat) : Int) = 0 from rfl] at h3
 have e4 : wthen hs w k0 0 = w := by unfold wthen; rw [Nat.zero_min]; rfl
 rw [e4] at h3
 exact h3
theorem wh_l2 (hs : List S40) (m : Int) (hl : hs.length ≤ 30) (hh : ∀ h ∈ hs, habOk h) (w : ByteArray) (hw : wordOk w = true) (l : List ByteArray) (hs2 : SS l) (hn : l.length ≤ 300) (hm : ∀ y ∈ l, wordOk y = true ∧ passF hs y = passF hs w) : ∀ (d j k : Nat), j + d = l.length → d + 660451886000000000000000020 ≤ k → laws_FnWhispers.l2 k hs w (passF hs w) l (j : Int) m = some true := by
 intro d
 induction d with
 | zero =>
  intro j k hi hk
  obtain ⟨k, rfl⟩ : ∃ q, k = q + 1 := ⟨k - 1, by omega⟩
  simp only [laws_FnWhispers.l2]
  rw [if_neg (by omega)]
  exact wh_tail hs m hl hh w hw k (by omega)
 | succ d ih =>
  intro j k hi hk
  obtain ⟨k, rfl⟩ : ∃ q, k = q + 1 := ⟨k - 1, by omega⟩
  have h := ih (j + 1) k (by omega) (by omega)
  obtain ⟨y1, y2⟩ := hm _ (rd_in l j (by omega))
  simp only [laws_FnWhispers.l2]
  rw [if_pos (by omega), if_pos (by omega), implPassOn_eq hs m hl hh _ y1 k (by omega), Option.bind_some]
  dsimp only
  rw [if_pos rfl, y2, if_pos rfl, wrap_nat j (by omega), h]
  by_cases c : (j : Int) > 0
  ·obtain ⟨i, rfl⟩ : ∃ i, j = i + 1 := ⟨j - 1, by omega⟩
   have e : wrap64 (((i + 1 : Nat) : Int) - 1) = (i : Int) := by rw [wrap64_id _ (by omega) (by omega)]; omega
   rw [if_pos c, e, if_pos (by omega), if_pos (by omega), ss_lt l hs2 i (by omega), if_pos rfl]
  ·rw [if_neg c]
theorem fwF_facts (hs : List S40) (hl : hs.length ≤ 30) (hh : ∀ h ∈ hs, habOk h) (w : ByteArray) (hw : wordOk w = true) : ((fwF hs w).2 = 3 ∧ (fwF hs w).1 = []) ∨ ((fwF hs w).2 = 0 ∧ SS (fwF hs w).1 ∧ ∀ y, y ∈ (fwF hs w).1 ↔ wordOk y = true ∧ passF hs y = w) := by
 unfold fwF
 rw [if_pos (codeH_zero hs [w] hl hh (one_ok w hw))]
 have h := foldR_has hs.reverse (fun x hx => okH_of (hh x (List.mem_reverse.1 hx))) [w] (one_ok w hw) (List.pairwise_singleton _ _)
 rw [List.reverse_reverse] at h
 rcases h with h | ⟨h1, h2, h3⟩
 ·exact Or.inl h
 ·refine Or.inr ⟨h1, h2, fun y => ?_⟩
  rw [h3 y, List.mem_singleton]
theorem wh_first (hs : List S40) (m : Int) (hl : hs.length ≤ 30) (hh : ∀ h ∈ hs, habOk h) (w : ByteArray) (hw : wordOk w = true) (k : Nat) (hk : 660451886000000000000000400 ≤ k) : ((impl_FirstWords.f k hs (passF hs w) m).bind fun bt538 => ((spec_FirstWords.f k hs (passF hs w)).bind fun bt542 => (if bt538.2 = bt542.2 then ((spec_SameWords.f k bt538.1 bt542.1).bind fun t546 => (if t546 = true then (if bt538.2 = 0 then ((spec_HasWord.f k bt542.1 w).bind fun t547 => (laws_FnWhispers.j5 k hs w (passF hs w) bt542.1 (!t547) m)) else (if bt538.2 = 3 then (laws_FnWhispers.j5 k hs w (passF hs w) bt542.1 false m) else (laws_FnWhispers.j5 k hs w (passF hs w) bt542.1 true m))) else (laws_FnWhispers.j5 k hs w (passF hs w) bt542.1 true m))) else (laws_FnWhispers.j5 k hs w (passF hs w) bt542.1 true m)))) = some true := by
 have hv := passF_word hs hh w hw
 have hr : ∀ h ∈ hs, habR h := fun h q => (hh h q).2
 have hb := word_sz _ (one_ok _ hv)
 have hn := fwF_len hs (passF hs w)
 rw [implFW_eq hs m (by omega) hr _ hb k (by omega), specFW_eq hs (by omega) hr _ hb k (by omega)]
 simp only [Option.bind_some, if_true]
 rw [same_w _ (by omega) k (by omega)]
 simp only [Option.bind_some, if_true]
 obtain ⟨k, rfl⟩ : ∃ q, k = q + 1 := ⟨k - 1, by omega⟩
 have hend : ∀ l : List ByteArray, SS l → l.length ≤ 300 → (∀ y ∈ l, wordOk y = true ∧ passF hs y = passF hs w) → laws_FnWhispers.j5 (k + 1) hs w (passF hs w) l false m = some true := by
  intro l g1 g2 g3
  simp only [laws_FnWhispers.j5]
  rw [if_neg (by decide)]
  have := wh_l2 hs m hl hh w hw l g1 g2 g3 l.length 0 k (by omega) (by omega)
  rwa [show ((0 : Nat) : Int) = 0 from rfl] at this
 rcases fwF_facts hs hl hh (passF hs w) hv with ⟨h1, h2⟩ | ⟨h1, h2, h3⟩
 ·rw [h1, h2, if_neg (by decide), if_pos rfl]
  exact hend [] List.Pairwise.nil (by simp) (fun y hy => by simp at hy)
 ·rw [h1, if_pos rfl, has_w _ w ((h3 w).2 ⟨hw, rfl⟩) (by omega) (k + 1) (by omega), Option.bind_some]
  exact hend _ h2 hn (fun y hy => (h3 y).1 hy)
theorem wh_l1 (hs : List S40) (m : Int) (hl : hs.length ≤ 30) (hh : ∀ h ∈ hs, habOk h) (w : ByteArray) (hw : wordOk w = true) (i : Nat) (hi : i < hs.length) (p : List ByteArray) (hp : p = pR (rd_T40 hs (i : Int)) (sd hs w (i + 1))) (hn : p.length ≤ 300) (K : Nat) (ys : List Int) (hrec : ∀ k, K ≤ k → laws_FnWhispers.l0 k hs w (passF hs w) (w :: saidF hs w) ys ((i + 1 : Nat) : Int) m = some true) : ∀ (d j k : Nat), j + d = p.length → K + d + 6000100 < k →
  laws_FnWhispers.l1 k hs w (passF hs w) (w :: saidF hs w) ys (i : Int) p (j : Int) (rd_T40 hs (i : Int)).f0 (rd_T40 hs (i : Int)).f1 (rd_T40 hs (i : Int)).f2 m = some true := by
 have hx := hh _ (mem_hab hs i hi)
 have hlen : (w :: saidF hs w).length = hs.length + 1 := by rw [List.length_cons, saidF_length]
 intro d
 induction d with
 | zero =>
  intro j k hj hk
  obtain ⟨k, rfl⟩ : ∃ q, k = q + 1 := ⟨k - 1, by omega⟩
  simp only [laws_FnWhispers.l1]
  rw [if_neg (by omega), wrap_nat i (by omega)]
  exact hrec k (by omega)
 | succ d ih =>
  intro j k hj hk
  obtain ⟨k, rfl⟩ : ∃ q, k = q + 1 := ⟨k - 1, by omega⟩
  have h := ih (j + 1) k (by omega) (by omega)
  have hy := rd_in p j (by omega)
  rw [hp, pR_iff _ (okH_of hx), ← hp] at hy
  have es : rdOf ByteArray.empty (w :: saidF hs w) ((i + 1 : Nat) : Int) = sd hs w (i + 1) := rfl
  simp only [laws_FnWhispers.l1]
  rw [if_pos (by omega), if_pos (by omega), implHear1_eq _ m hx _ hy.1 k (by omega), Option.bind_some, hy.2]
  dsimp only
  rw [if_pos rfl, wrap_nat i (by omega), if_pos (by omega), if_pos (by rw [hlen]; omega), es, if_pos rfl, wrap_nat j (by omega), h]
  by_cases c : (j : Int) > 0
  ·obtain ⟨q, rfl⟩ : ∃ q, j = q + 1 := ⟨j - 1, by omega⟩
   have e : wrap64 (((q + 1 : Nat) : Int) - 1) = (q : Int) := by rw [wrap64_id _ (by omega) (by omega)]; omega
   rw [if_pos c, e, if_pos (by omega), if_pos (by omega), ss_lt p (by rw [hp]; exact pR_SS _ _) q (by omega), if_pos rfl]
  ·rw [if_neg c]
theorem pastsV_ok (x : S40) (hx : habOk x) (s : ByteArray) (hs : wordOk s = true) : (pastsV x.f0 x.f1 x.f2 s = (pR x s, 0) ∧ (pR x s).length ≤ 300) ∨ pastsV x.f0 x.f1 x.f2 s = ([], 3) := by
 unfold pastsV
 rw [if_pos ⟨hx.1, hs⟩]
 by_cases c : (pastsR x.f0 x.f1 x.f2 s).length ≤ 300
 ·rw [if_pos c]; exact Or.inl ⟨rfl, c⟩
 ·rw [if_neg c]; exact Or.inr rfl
theorem wh_l0 (hs : List S40) (m : Int) (hl : hs.length ≤ 30) (hh : ∀ h ∈ hs, habOk h) (w : ByteArray) (hw : wordOk w = true) : ∀ (d i k : Nat), i + d = hs.length → d * 7000000 + 660451886000000000000001000 ≤ k →
  laws_FnWhispers.l0 k hs w (passF hs w) (w :: saidF hs w) (picks (chQ (w :: saidF hs w)) hs.length 0) (i : Int) m = some true := by
 have hlen : (w :: saidF hs w).length = hs.length + 1 := by rw [List.length_cons, saidF_length]
 intro d
 induction d with
 | zero =>
  intro i k hi hk
  obtain ⟨k, rfl⟩ : ∃ q, k = q + 1 := ⟨k - 1, by omega⟩
  simp only [laws_FnWhispers.l0]
  rw [if_neg (by omega)]
  exact wh_first hs m hl hh w hw k (by omega)
 | succ d ih =>
  intro i k hi hk
  obtain ⟨k, rfl⟩ : ∃ q, k = q + 2 := ⟨k - 2, by omega⟩
  have hil : i < hs.length := by omega
  have hkk : d * 7000000 + 660451886000000000000001000 ≤ k := by
   refine Nat.le_of_add_le_add_right (b := 2) (Nat.le_trans ?_ hk)
   rw [Nat.succ_mul]
   generalize d * 7000000 = z
   generalize 660451886000000000000001000 = B
   omega
  have hx := hh _ (mem_hab hs i hil)
  have hs0 := sd_ok hs hh w hw i (by omega)
  have hs1 := sd_ok hs hh w hw (i + 1) (by omega)
  have hz0 := wordOk_size _ hs0
  have hz1 := wordOk_size _ hs1
  have hnx := sd_succ hs w i hil
  have e0 : rdOf ByteArray.empty (w :: saidF hs w) (i : Int) = sd hs w i := rfl
  have e1 : rdOf ByteArray.empty (w :: saidF hs w) ((i + 1 : Nat) : Int) = sd hs w (i + 1) := rfl
  have hch : chQ (w :: saidF hs w) i = !((sd hs w i).toList == (sd hs w (i + 1)).toList) := rfl
  have hrec : ∀ k, d * 7000000 + 660451886000000000000001000 ≤ k → laws_FnWhispers.l0 k hs w (passF hs w) (w :: saidF hs w) (picks (chQ (w :: saidF hs w)) hs.length 0) ((i + 1 : Nat) : Int) m = some true := fun k hk => ih (i + 1) k (by omega) hk
  have hl1 := fun p hp hn => wh_l1 hs m hl hh w hw i hil p hp hn (d * 7000000 + 660451886000000000000001000) (picks (chQ (w :: saidF hs w)) hs.length 0) hrec
  have hhas := has_picks (chQ (w :: saidF hs w)) hs.length i (k + 1) (by omega) hil (by omega)
  have hpV := pastsV_ok _ hx _ hs1
  have hpl := pastsV_len (rd_T40 hs (i : Int)).f0 (rd_T40 hs (i : Int)).f1 (rd_T40 hs (i : Int)).f2 (sd hs w (i + 1))
  have hpm : (pR (rd_T40 hs (i : Int)) (sd hs w (i + 1))) = (pR (rd_T40 hs (i : Int)) (sd hs w (i + 1))) → sd hs w i ∈ pR (rd_T40 hs (i : Int)) (sd hs w (i + 1)) := fun _ => (pR_iff _ (okH_of hx) _ _).2 ⟨hs0, hnx.symm⟩
  have hpm := hpm rfl
  have hp1 := fun (q : List ByteArray) (hq : q = pR (rd_T40 hs (i : Int)) (sd hs w (i + 1))) (hn : q.length ≤ 300) => hl1 q hq hn q.length 0 k (by omega) (by omega)
  clear ih hl1
  have hR := read_text (rd_T40 hs (i : Int)).f0 (rd_T40 hs (i : Int)).f1 (rd_T40 hs (i : Int)).f2 m hx.1 (k + 1) (by omega)
  have hT := implText_eq (rd_T40 hs (i : Int)).f0 (rd_T40 hs (i : Int)).f1 (rd_T40 hs (i : Int)).f2 hx.1
  have hH := implHear1_eq _ m hx _ hs0 (k + 1) (by omega)
  have hPI := implPO_eq (rd_T40 hs (i : Int)).f0 (rd_T40 hs (i : Int)).f1 (rd_T40 hs (i : Int)).f2 m hx.2.1 hx.2.2 (sd hs w (i + 1)) (by omega) (k + 1) (by omega)
  have hPS := specPO_eq (rd_T40 hs (i : Int)).f0 (rd_T40 hs (i : Int)).f1 (rd_T40 hs (i : Int)).f2 hx.2.1 (sd hs w (i + 1)) (by omega) (k + 1) (by omega)
  have hsame := same_w (pastsV (rd_T40 hs (i : Int)).f0 (rd_T40 hs (i : Int)).f1 (rd_T40 hs (i : Int)).f2 (sd hs w (i + 1))).1 (by omega) (k + 1) (by omega)
  have hVH := validHabit_eq (rd_T40 hs (i : Int)).f0 (rd_T40 hs (i : Int)).f1 (rd_T40 hs (i : Int)).f2
  rw [hx.1] at hVH
  rw [← hnx] at hH
  simp only [laws_FnWhispers.l0]
  rw [if_pos (by omega), if_pos (by omega), hT, Option.bind_some, hR, Option.bind_some, if_pos (by rw [hlen]; omega), e0, hH, Option.bind_some, wrap_nat i (by omega), if_pos (by omega), if_pos (by rw [hlen]; omega), e1, hPI, Option.bind_some, hPS, Option.bind_some]
  generalize hv : pastsV (rd_T40 hs (i : Int)).f0 (rd_T40 hs (i : Int)).f1 (rd_T40 hs (i : Int)).f2 (sd hs w (i + 1)) = v at hpV hsame
  dsimp only
  rw [if_pos rfl, if_neg (by simp), hVH, Option.bind_some, if_pos rfl, if_pos rfl, if_pos rfl, hhas, Option.bind_some, if_neg (by rw [hch]; exact fun z => absurd z (by show ¬ ((!((sd hs w i).toList == (sd hs w (i + 1)).toList)) != (!((sd hs w i).toList == (sd hs w (i + 1)).toList))) = true; simp)), if_pos rfl, hsame, Option.bind_some, if_pos rfl]
  simp only [laws_FnWhispers.j3]
  rcases hpV with ⟨rfl, hn⟩ | rfl
  ·dsimp only
   rw [if_pos rfl, if_neg (by decide), if_pos rfl, if_pos (by omega), if_pos (by rw [hlen]; omega), e0, has_w _ _ hpm (by omega) k (by omega), Option.bind_some, if_pos rfl]
   have := hp1 _ rfl hn
   rwa [show ((0 : Nat) : Int) = 0 from rfl] at this
  ·dsimp only
   rw [if_neg (show ¬ ((3 : Int) = 0) by decide), if_neg (show ¬ (((3 : Int) != 3) = true) by decide), if_neg (show ¬ ((3 : Int) = 0) by decide), wrap_nat i (by omega)]
   exact hrec k hkk
theorem no_change (hs : List S40) (w : ByteArray) (h : picks (chQ (w :: saidF hs w)) hs.length 0 = []) : passF hs w = w := by
 have key : ∀ j, j ≤ hs.length → sd hs w j = w := by
  intro j
  induction j with
  | zero => intro _; rfl
  | succ j ih =>
   intro hj
   have hj0 := ih (by omega)
   have hn : ¬ ((j : Int) ∈ picks (chQ (w :: saidF hs w)) hs.length 0) := by rw [h]; simp
   rw [mem_picks] at hn
   have hq : ¬ chQ (w :: saidF hs w) j = true := fun e => hn ⟨by omega, by omega, e⟩
   have he : chQ (w :: saidF hs w) j = !((sd hs w j).toList == (sd hs w (j + 1)).toList) := rfl
   rw [he] at hq
   have h2 : (sd hs w j).toList = (sd hs w (j + 1)).toList := by
    by_cases e : (sd hs w j).toList = (sd hs w (j + 1)).toList
    ·exact e
    ·rw [beq_eq_false_iff_ne.2 e] at hq; exact absurd rfl hq
   exact ((toList_inj _ _).1 h2).symm.trans hj0
 rw [← sd_last]
 exact key hs.length (Nat.le_refl _)
theorem wh_j0 (hs : List S40) (m : Int) (hl : hs.length ≤ 30) (hh : ∀ h ∈ hs, habOk h) (w : ByteArray) (hw : wordOk w = true) (c0 c1 : List Int) (k : Nat) (hk : 660451886000000001000000000 ≤ k) (e1 : spec_P6Habits.f (k + 1) c0 = some hs) (e2 : spec_P6Word.f (k + 1) c1 = some w) : laws_FnWhispers.j0 (k + 2) c0 c1 false m = some true := by
 have hlen : (w :: saidF hs w).length = hs.length + 1 := by rw [List.length_cons, saidF_length]
 have hr : ∀ h ∈ hs, habR h := fun h q => (hh h q).2
 have hb := word_sz _ (one_ok w hw)
 have hq : hs.length ≤ 1048576 := by omega
 have hcH := codeH_zero hs [w] hl hh (one_ok w hw)
 have hcA := codeA_zero hs [w] hl (by simp) hh (one_ok w hw)
 have hw2 := wordOk_size w hw
 have hv := passF_word hs hh w hw
 have hv2 := wordOk_size _ hv
 have hpl := picks_length (chQ (w :: saidF hs w)) hs.length 0
 have a1 : impl_HeardAll.f (k + 1) hs w m = some (w :: saidF hs w, 0) := by
  unfold impl_HeardAll.f
  rw [chainCode_eq hs [w] hq (by simp) hb _ (by omega), hcH, Option.bind_some, if_pos rfl, implHeard_eq hs m hq hr w hw2 _ (by omega), Option.bind_some]
 have a2 : spec_HeardAll.f (k + 1) hs w = some (w :: saidF hs w, 0) := by
  unfold spec_HeardAll.f
  rw [asked_eq hs [w] hq (by simp) hb _ (by omega), hcA, Option.bind_some, if_pos rfl, specSaid_eq hs hq hr w hw2 _ (by omega), Option.bind_some]
 have a3 := implC_fin hs m hq hr w hb (k + 1) (by omega)
 have a4 := specC_fin hs hq hr w hb (k + 1) (by omega)
 have hf : finC hs w = (picks (chQ (w :: saidF hs w)) hs.length 0, 0) := by unfold finC; rw [if_pos hcH]
 rw [hf] at a3 a4
 have el : rdOf ByteArray.empty (w :: saidF hs w) (hs.length : Int) = passF hs w := sd_last hs w
 have ez : rdOf ByteArray.empty (w :: saidF hs w) 0 = w := rfl
 have hend : laws_FnWhispers.j1 (k + 1) hs w (passF hs w) (w :: saidF hs w) (picks (chQ (w :: saidF hs w)) hs.length 0) false m = some true := by
  simp only [laws_FnWhispers.j1]
  rw [if_neg (by decide)]
  have := wh_l0 hs m hl hh w hw hs.length 0 k (by omega) (by omega)
  rwa [show ((0 : Nat) : Int) = 0 from rfl] at this
 have hsm := same_w (w :: saidF hs w) (by omega) (k + 1) (by omega)
 have hsn := same_eq (picks (chQ (w :: saidF hs w)) hs.length 0) (by omega) (k + 1) (by omega)
 have hwd := isWord_eq (passF hs w) (by omega) (k + 1) (by omega)
 rw [hv] at hwd
 simp only [laws_FnWhispers.j0]
 rw [if_neg (by decide), e1, Option.bind_some, e2, Option.bind_some, implPassOn_eq hs m hl hh w hw (k + 1) (by omega), Option.bind_some, specPassOn_eq hs hl hh w hw (k + 1) (by omega), Option.bind_some, a1, Option.bind_some, a2, Option.bind_some, a3, Option.bind_some, a4, Option.bind_some]
 dsimp only
 rw [if_pos rfl, if_pos rfl, if_pos rfl, hwd, Option.bind_some, if_pos rfl, if_pos rfl, if_pos rfl, hsm, Option.bind_some, if_pos rfl, if_pos (by rw [hlen, wrap64_id _ (by omega) (by omega)]; omega), if_pos (by omega), ez, if_pos rfl, if_pos (by omega), if_pos (by omega), el, if_pos rfl, if_pos rfl, if_pos rfl, hsn, Option.bind_some, if_pos rfl]
 by_cases c : ((picks (chQ (w :: saidF hs w)) hs.length 0).length : Int) = 0
 ·have hn := no_change hs w (List.eq_nil_of_length_eq_zero (by omega))
  rw [if_pos c]
  have e5 : ((passF hs w).toList != w.toList) = false := by rw [hn]; simp
  rw [e5]
  exact hend
 ·rw [if_neg c]
  exact hend
theorem main : laws_FnWhispers.Pure := by
 intro l0 l1 m h0 h1
 refine rounds_of 660451886000000002000000000 fun k hk => ?_
 obtain ⟨k, rfl⟩ : ∃ q, k = q + 2 := ⟨k - 2, by omega⟩
 have j0t : ∀ a b, laws_FnWhispers.j0 (k + 2) a b true m = some true := fun a b => by
  simp only [laws_FnWhispers.j0]
  rw [if_pos trivial]
 unfold laws_FnWhispers.f laws_f6big.f
 rw [Option.bind_some]
 by_cases c0 : (l0.length : Int) > 4096
 ·rw [if_pos (decide_eq_true c0), j0t]
 ·rw [if_neg (by simpa using c0), Option.bind_some]
  by_cases c1 : (l1.length : Int) > 4096
  ·rw [decide_eq_true c1, j0t]
  ·rw [decide_eq_false c1]
   have s0 : srcOk l0 := ⟨by omega, fun x hx => wf_u8 (h0.2 x hx)⟩
   have s1 : srcOk l1 := ⟨by omega, fun x hx => wf_u8 (h1.2 x hx)⟩
   obtain ⟨hs, e1, hs1, hs2⟩ := p6habits_eq l0 s0 (k + 1) (by omega)
   obtain ⟨w, e2, w1⟩ := p6word_eq l1 s1 (k + 1) (by omega)
   exact wh_j0 hs m (by omega) hs2 w w1 l0 l1 k (by omega) e1 e2

end Go.Proofs.YtobickehjnogjaaGreatDoor.PureFnWhispers
namespace Go.Proofs.YtobickehjnogjaaGreatDoor.Pure
theorem FnWhispers : Go.Proofs.YtobickehjnogjaaGreatDoor.P.laws_FnWhispers.Pure := Go.Proofs.YtobickehjnogjaaGreatDoor.PureFnWhispers.main
end Go.Proofs.YtobickehjnogjaaGreatDoor.Pure
