/- For every list of habits and every text the program's FirstWords returns the reference's words and code, in memory of its own, and leaves the habits as they were; no condition. -/
import Derived.Test.YtgnnpgallnafcaaDoorP11
import Derived.Laws.BitsLemmas
import Derived.Sort.Walk0
namespace Go.Proofs.YtgnnpgallnafcaaDoor.PureFnExactFirstWords
open Go.RowKit Go.Proofs.YtgnnpgallnafcaaDoor.P Go.Proofs.YtgnnpgallnafcaaDoorW.PrintWords Go.Proofs.YtgnnpgallnafcaaDoorW.PrintLast
set_option linter.unusedSimpArgs false
set_option linter.unusedVariables false

theorem wrap64_id (x : Int) (h0 : -9223372036854775808 ≤ x) (h1 : x ≤ 9223372036854775807) : wrap64 x = x := by unfold wrap64; omega
theorem wrap_nat (n : Nat) (h : n < 4611686018427387904) : wrap64 ((n : Int) + 1) = ((n + 1 : Nat) : Int) := by
  rw [wrap64_id _ (by omega) (by omega)]; omega
theorem rd_nat (l : List Int) (i : Nat) : rd l (i : Int) = l.getD i 0 := by simp [rd]
theorem drop_rd (l : List Int) (i : Nat) (h : i < l.length) : l.drop i = rd l (i : Int) :: l.drop (i + 1) := by
  rw [List.drop_eq_getElem_cons h, rd_nat, List.getD_eq_getElem?_getD, List.getElem?_eq_getElem h]; rfl
theorem drop_getD {α : Type} (z : α) (l : List α) (i : Nat) (h : i < l.length) : l.drop i = l.getD i z :: l.drop (i + 1) := by
  rw [List.drop_eq_getElem_cons h, List.getD_eq_getElem?_getD, List.getElem?_eq_getElem h]; rfl
theorem take_getD {α : Type} (z : α) (l : List α) (i : Nat) (h : i < l.length) : l.take (i + 1) = l.take i ++ [l.getD i z] := by
  rw [List.take_succ_eq_append_getElem h, List.getD_eq_getElem?_getD, List.getElem?_eq_getElem h]; rfl
theorem set_rep {α : Type} (a : List α) (i d : Nat) (z v : α) (h : a.length = i) : (a ++ List.replicate (d + 1) z).set i v = (a ++ [v]) ++ List.replicate d z := by
  subst h
  rw [List.set_append_right _ _ (Nat.le_refl _), Nat.sub_self, List.replicate_succ, List.set_cons_zero]
  simp
theorem set_drop {α : Type} (a g : List α) (i : Nat) (v : α) (h : a.length = i) (hg : i < g.length) : (a ++ g.drop i).set i v = (a ++ [v]) ++ g.drop (i + 1) := by
  subst h
  rw [List.set_append_right _ _ (Nat.le_refl _), Nat.sub_self, List.drop_eq_getElem_cons hg, List.set_cons_zero]
  simp
theorem getD_range_map {α : Type} (z : α) (f : Nat → α) (n i : Nat) (h : i < n) : ((List.range n).map f).getD i z = f i := by
  rw [List.getD_eq_getElem?_getD, List.getElem?_map, List.getElem?_range h]; rfl
theorem rounds_of (B : Nat) {α : Type} {F : Nat → Option α} {v : α} (h : ∀ k, B ≤ k → F k = some v) : ∃ k, F k = some v := ⟨B, h B (Nat.le_refl _)⟩

theorem wrap_u64 (n : Int) : IntKind.u64.wrap n = n % 18446744073709551616 := by simp [IntKind.wrap, IntKind.bits, IntKind.signed]
theorem wrap_u64_id (n : Int) (h0 : 0 ≤ n) (h1 : n < 18446744073709551616) : IntKind.u64.wrap n = n := by rw [wrap_u64]; omega
theorem wf_u8 {a : Int} (h : (Lit.int .u8 a).wf = true) : 0 ≤ a ∧ a ≤ 255 := by
  simp [Lit.wf, IntKind.min, IntKind.max, IntKind.bits, IntKind.signed] at h
  omega
def letter (c : Int) : Bool := decide (97 ≤ c ∧ c ≤ 122)
theorem l04Letter_eq (c : Int) : spec_l04Letter.f c = some (letter c) := by
  unfold spec_l04Letter.f letter
  by_cases h : 97 ≤ c
  · rw [if_pos (by omega)]; simp [h]
  · rw [if_neg (by omega)]; simp [h]
theorem isLetter_eq (c : Int) : impl_isLetter.f c = some (letter c) := by
  unfold impl_isLetter.f letter
  by_cases h : 97 ≤ c
  · rw [if_pos (by omega)]; simp [h]
  · rw [if_neg (by omega)]; simp [h]
theorem in_eq (a b c : Int) : spec_l00In.f a b c = some (decide (b ≤ a ∧ a ≤ c)) := by
  unfold spec_l00In.f
  by_cases h : b ≤ a
  · rw [if_pos (by omega)]; simp [h]
  · rw [if_neg (by omega)]; simp [h]
theorem within_eq (a b c : Int) : impl_within.f a b c = some (decide (b ≤ a ∧ a ≤ c)) := by
  unfold impl_within.f
  by_cases h : b ≤ a
  · rw [if_pos (by omega)]; simp [h]
  · rw [if_neg (by omega)]; simp [h]
def lettersFrom (s : ByteArray) : Nat → Nat → Bool
  | 0, _ => true
  | d + 1, i => letter (bt s (i : Int)) && lettersFrom s d (i + 1)
def wordOk (s : ByteArray) : Bool := lettersFrom s s.size 0 && decide (1 ≤ (s.size : Int) ∧ (s.size : Int) ≤ 12)
theorem l04Word_l0 (s : ByteArray) (hs : s.size ≤ 4611686018427387900) : ∀ (d i k : Nat), i + d = s.size → d < k → spec_l04Word.l0 k s (i : Int) = some (lettersFrom s d i && decide (1 ≤ (s.size : Int) ∧ (s.size : Int) ≤ 12)) := by
  intro d
  induction d with
  | zero =>
    intro i k hi hk
    obtain ⟨k, rfl⟩ : ∃ m, k = m + 1 := ⟨k - 1, by omega⟩
    simp only [spec_l04Word.l0]
    rw [if_neg (by omega), in_eq]
    simp [lettersFrom]
  | succ d ih =>
    intro i k hi hk
    obtain ⟨k, rfl⟩ : ∃ m, k = m + 1 := ⟨k - 1, by omega⟩
    simp only [spec_l04Word.l0]
    rw [if_pos (by omega), if_pos (by omega), l04Letter_eq, Option.bind_some, wrap_nat i (by omega), ih (i + 1) k (by omega) (by omega)]
    by_cases h : letter (bt s (i : Int)) = true <;> simp [lettersFrom, h]
theorem l04Word_eq (s : ByteArray) (hs : s.size ≤ 4611686018427387900) (k : Nat) (hk : s.size < k) : spec_l04Word.f k s = some (wordOk s) := by
  unfold spec_l04Word.f wordOk
  exact l04Word_l0 s hs s.size 0 k (by omega) hk
theorem isWord_l0 (s : ByteArray) (hs : s.size ≤ 4611686018427387900) : ∀ (d i k : Nat), i + d = s.size → d < k → impl_IsWord.l0 k s (s.size : Int) (i : Int) = some (lettersFrom s d i && decide (1 ≤ (s.size : Int) ∧ (s.size : Int) ≤ 12)) := by
  intro d
  induction d with
  | zero =>
    intro i k hi hk
    obtain ⟨k, rfl⟩ : ∃ m, k = m + 1 := ⟨k - 1, by omega⟩
    simp only [impl_IsWord.l0]
    rw [if_neg (by omega), within_eq]
    simp [lettersFrom]
  | succ d ih =>
    intro i k hi hk
    obtain ⟨k, rfl⟩ : ∃ m, k = m + 1 := ⟨k - 1, by omega⟩
    simp only [impl_IsWord.l0]
    rw [if_pos (by omega), if_pos (by omega), if_pos (by omega), isLetter_eq, Option.bind_some, wrap_nat i (by omega), ih (i + 1) k (by omega) (by omega)]
    by_cases h : letter (bt s (i : Int)) = true <;> simp [lettersFrom, h]
theorem isWord_eq (s : ByteArray) (hs : s.size ≤ 4611686018427387900) (k : Nat) (hk : s.size < k) : impl_IsWord.f k s = some (wordOk s) := by
  unfold impl_IsWord.f wordOk
  exact isWord_l0 s hs s.size 0 k (by omega) hk
theorem wordOk_size (s : ByteArray) (h : wordOk s = true) : 1 ≤ s.size ∧ s.size ≤ 12 := by
  simp only [wordOk, Bool.and_eq_true, decide_eq_true_eq] at h
  omega
theorem lettersFrom_get (s : ByteArray) : ∀ (d i j : Nat), lettersFrom s d i = true → i ≤ j → j < i + d → letter (bt s (j : Int)) = true
  | 0, i, j, _, h1, h2 => by omega
  | d + 1, i, j, h, h1, h2 => by
    simp only [lettersFrom, Bool.and_eq_true] at h
    by_cases e : j = i
    · subst e; exact h.1
    · exact lettersFrom_get s d (i + 1) j h.2 (by omega) (by omega)
theorem wordOk_get (s : ByteArray) (h : wordOk s = true) (j : Nat) (hj : j < s.size) : 97 ≤ bt s (j : Int) ∧ bt s (j : Int) ≤ 122 := by
  simp only [wordOk, Bool.and_eq_true] at h
  have := lettersFrom_get s s.size 0 j h.1 (by omega) (by omega)
  simpa [letter] using this

def habitOk (t a b : Int) : Bool :=
  if t = 0 ∨ t = 3 then decide (a = 0) && decide (b = 0) else if t = 1 then letter a && letter b && decide (a ≠ b) else if t = 2 ∨ t = 4 then letter a && decide (b = 0) else false
theorem l04Habit_eq (t a b : Int) (k : Nat) (hk : 0 < k) : spec_l04Habit.f k t a b = some (habitOk t a b) := by
  obtain ⟨k, rfl⟩ : ∃ m, k = m + 1 := ⟨k - 1, by omega⟩
  unfold spec_l04Habit.f habitOk
  simp only [spec_l04Habit.j0, l04Letter_eq, Option.bind_some]
  by_cases h0 : t = 0
  · subst h0
    by_cases ha : a = 0 <;> simp [ha] <;> rfl
  · by_cases h3 : t = 3
    · subst h3
      by_cases ha : a = 0 <;> simp [ha] <;> rfl
    · by_cases h1 : t = 1
      · subst h1
        by_cases la : letter a = true <;> by_cases lb : letter b = true <;> simp [la, lb] <;> rfl
      · by_cases h2 : t = 2
        · subst h2
          by_cases la : letter a = true <;> simp [la] <;> rfl
        · by_cases h4 : t = 4
          · subst h4
            by_cases la : letter a = true <;> simp [la] <;> rfl
          · simp [h0, h1, h2, h3, h4]
theorem validHabit_eq (t a b : Int) : impl_ValidHabit.f t a b = some (habitOk t a b) := by
  unfold impl_ValidHabit.f habitOk
  simp only [isLetter_eq, Option.bind_some]
  by_cases h0 : t = 0
  · subst h0
    by_cases ha : a = 0 <;> simp [ha] <;> rfl
  · by_cases h3 : t = 3
    · subst h3
      by_cases ha : a = 0 <;> simp [ha] <;> rfl
    · by_cases h1 : t = 1
      · subst h1
        by_cases la : letter a = true <;> by_cases lb : letter b = true <;> simp [la, lb] <;> rfl
      · by_cases h2 : t = 2
        · subst h2
          by_cases la : letter a = true <;> simp [la] <;> rfl
        · by_cases h4 : t = 4
          · subst h4
            by_cases la : letter a = true <;> simp [la] <;> rfl
          · simp [h0, h1, h2, h3, h4]

theorem repl_one (a b : UInt8) : ∀ s : List UInt8, Go.Lib.replaceK [a] [b] (Go.Lib.count s [a]) s = s.map (fun c => if c = a then b else c)
  | [] => by
    have : Go.Lib.count [] [a] = 0 := by rw [Go.Lib.count_one]; rfl
    rw [this]; rfl
  | x :: l => by
    have ih := repl_one a b l
    by_cases e : x = a
    · subst e
      have hi : Go.Lib.index (x :: l) [x] = ((0 : Nat) : Int) := by
        unfold Go.Lib.index
        rw [if_pos (by simp)]
        rfl
      rw [Go.Lib.count_cons_eq, Nat.add_comm 1, Go.Lib.replaceK_hit _ _ _ _ 0 hi]
      simp only [List.take_zero, List.nil_append, List.length_cons, List.length_nil, Nat.zero_add, List.drop_one, List.tail_cons, List.map_cons]
      rw [ih, if_pos trivial]
      rfl
    · rw [Go.Lib.count_cons_ne x a l e]
      cases hk : Go.Lib.count l [a] with
      | zero =>
        rw [hk] at ih
        simp only [Go.Lib.replaceK] at ih ⊢
        rw [List.map_cons, if_neg e, ← ih]
      | succ k =>
        rw [hk] at ih
        obtain ⟨i, hi⟩ := Go.Lib.index_of_count (s := l) (old := [a]) (by omega)
        have hx : Go.Lib.index (x :: l) [a] = ((i + 1 : Nat) : Int) := by
          unfold Go.Lib.index
          rw [if_neg (by simp [List.isPrefixOf, Ne.symm e]), hi, if_neg (by simp)]
          omega
        rw [Go.Lib.replaceK_hit _ _ _ _ _ hx, List.map_cons, if_neg e, ← ih, Go.Lib.replaceK_hit _ _ _ _ _ hi]
        simp
theorem replAll_one (a b : UInt8) (s : List UInt8) : Go.Lib.replaceAll s [a] [b] = s.map (fun c => if c = a then b else c) := by
  unfold Go.Lib.replaceAll Go.Lib.replace Go.Lib.replaceNum
  by_cases e : a = b
  · subst e
    rw [if_pos (by simp)]
    have : (fun c : UInt8 => if c = a then a else c) = id := by funext c; by_cases h : c = a <;> simp [h]
    rw [this, List.map_id]
  · rw [if_neg (by simp [e]), if_pos (Or.inl (by decide)), repl_one]
theorem swap_bytes (A B : Int) (hA : 0 ≤ A ∧ A ≤ 255) (hB : 0 ≤ B ∧ B ≤ 255) (w : ByteArray) :
    (⟨(Go.Lib.replaceAll w.data.toList (strOfNums [A]).data.toList (strOfNums [B]).data.toList).toArray⟩ : ByteArray) = strOfNums ((bytesOf w).map (Go.Proofs.YtgnnpgallnafcaaDoor.H.swap1 A B)) := by
  have e1 : (strOfNums [A]).data.toList = [UInt8.ofNat A.toNat] := rfl
  have e2 : (strOfNums [B]).data.toList = [UInt8.ofNat B.toNat] := rfl
  rw [e1, e2, replAll_one]
  unfold strOfNums bytesOf
  rw [List.map_map, List.map_map]
  congr 2
  apply List.map_congr_left
  intro c _
  simp only [Function.comp, Go.Proofs.YtgnnpgallnafcaaDoor.H.swap1]
  have hc : ((c.toNat : Int) = A) ↔ c = UInt8.ofNat A.toNat := by
    constructor
    · intro h
      rw [← h]; simp
    · intro h
      rw [h, UInt8.toNat_ofNat']
      omega
  by_cases h : (c.toNat : Int) = A
  · rw [if_pos h, if_pos (hc.1 h)]
  · rw [if_neg h, if_neg (fun z => h (hc.2 z))]
    simp
def dropB (A : Int) (w : ByteArray) : ByteArray :=
  if Go.Lib.indexByte w.data.toList A.toNat.toUInt8 ≥ 0 then w.extract 0 (Go.Lib.indexByte w.data.toList A.toNat.toUInt8).toNat ++ w.extract ((Go.Lib.indexByte w.data.toList A.toNat.toUInt8).toNat + 1) w.size else w
def hearF (f A B : Int) (w : ByteArray) : ByteArray :=
  if f = 1 then strOfNums ((bytesOf w).map (Go.Proofs.YtgnnpgallnafcaaDoor.H.swap1 A B))
  else if f = 2 then (if w.size = 1 then w else dropB A w)
  else if f = 3 then (if w.size < 12 then w ++ w.extract (w.size - 1) w.size else w)
  else if f = 4 then (if bt w 0 = A then strOfNums (bytesOf w).reverse else w)
  else w
theorem bt_list (w : ByteArray) (i : Nat) (h : i < w.size) : bt w (i : Int) = ((w.data.toList.getD i 0).toNat : Int) := by
  have h2 : i < w.data.toList.length := by rw [data_length]; exact h
  rw [← rd_bytesOf, rd_nat, List.getD_eq_getElem?_getD, List.getD_eq_getElem?_getD, List.getElem?_eq_getElem (by rw [bytesOf_length]; exact h), List.getElem?_eq_getElem h2]
  simp [bytesOf]
theorem indexByte_lt : ∀ (l : List UInt8) (c : UInt8), Go.Lib.indexByte l c < (l.length : Int) ∨ l = []
  | [], _ => Or.inr rfl
  | b :: l, c => by
    left
    unfold Go.Lib.indexByte
    rcases indexByte_lt l c with h | h
    · split
      · simp only [List.length_cons]; omega
      · split
        · simp only [List.length_cons]; omega
        · simp only [List.length_cons]; omega
    · subst h
      split
      · simp
      · simp [Go.Lib.indexByte]
theorem indexByte_bound (w : ByteArray) (c : UInt8) (h : 0 ≤ Go.Lib.indexByte w.data.toList c) : Go.Lib.indexByte w.data.toList c < (w.size : Int) := by
  rcases indexByte_lt w.data.toList c with g | g
  · rw [data_length] at g; exact g
  · rw [g] at h; simp [Go.Lib.indexByte] at h
def dropAt (w : ByteArray) (i : Nat) (q : Int) : ByteArray := if q ≥ 0 then w.extract 0 (i + q.toNat) ++ w.extract (i + q.toNat + 1) w.size else w
theorem specDrop_l0 (w : ByteArray) (A : Int) (hA : 0 ≤ A ∧ A ≤ 255) (hw : w.size ≤ 1048576) : ∀ (d i k : Nat), i + d = w.size → d < k →
    spec_l04Drop.l0 k w A (i : Int) = some (dropAt w i (Go.Lib.indexByte (w.data.toList.drop i) A.toNat.toUInt8)) := by
  intro d
  induction d with
  | zero =>
    intro i k hi hk
    obtain ⟨k, rfl⟩ : ∃ m, k = m + 1 := ⟨k - 1, by omega⟩
    simp only [spec_l04Drop.l0]
    rw [if_neg (by omega), List.drop_eq_nil_of_le (by rw [data_length]; omega)]
    simp [Go.Lib.indexByte, dropAt]
  | succ d ih =>
    intro i k hi hk
    obtain ⟨k, rfl⟩ : ∃ m, k = m + 1 := ⟨k - 1, by omega⟩
    have hl : i < w.data.toList.length := by rw [data_length]; omega
    have hd := drop_getD (0 : UInt8) w.data.toList i hl
    have hb := bt_list w i (by omega)
    have hc : (bt w (i : Int) = A) ↔ (w.data.toList.getD i 0 == A.toNat.toUInt8) = true := by
      rw [hb, beq_iff_eq]
      generalize w.data.toList.getD i 0 = c
      constructor
      · intro h; rw [← h]; simp
      · intro h; rw [h]; simp; omega
    simp only [spec_l04Drop.l0]
    rw [if_pos (by omega), if_pos (by omega), hd, wrap_nat i (by omega)]
    simp only [Go.Lib.indexByte]
    by_cases e : bt w (i : Int) = A
    · rw [if_pos e, if_pos (hc.1 e), if_pos (by omega), if_pos (by omega), if_pos (by omega)]
      have hs : (w.extract 0 (i : Int).toNat).size + (w.extract ((i + 1 : Nat) : Int).toNat w.size).size ≤ 9223372036854775807 := by
        simp only [ByteArray.size_extract]; omega
      rw [if_pos hs]
      unfold dropAt
      rw [if_pos (by decide)]
      simp
    · rw [if_neg e, if_neg (fun z => e (hc.2 z)), ih (i + 1) k (by omega) (by omega)]
      generalize hq : Go.Lib.indexByte (w.data.toList.drop (i + 1)) A.toNat.toUInt8 = q
      have hge : -1 ≤ q := by rw [← hq]; exact Go.Lib.indexByte_ge _ _
      by_cases g : q = -1
      · subst g; rfl
      · have e1 : (q == -1) = false := beq_eq_false_iff_ne.2 g
        rw [e1, if_neg (by decide)]
        unfold dropAt
        rw [if_pos (show q ≥ 0 by omega), if_pos (show q + 1 ≥ 0 by omega)]
        rw [show i + 1 + q.toNat = i + (q + 1).toNat by omega]
theorem specDrop_eq (w : ByteArray) (A : Int) (hA : 0 ≤ A ∧ A ≤ 255) (hw : w.size ≤ 1048576) (k : Nat) (hk : w.size < k) : spec_l04Drop.f k w A = some (if w.size = 1 then w else dropB A w) := by
  unfold spec_l04Drop.f dropB
  by_cases h : w.size = 1
  · rw [if_pos (by omega), if_pos h]
  · rw [if_neg (by omega), if_neg h]
    have := specDrop_l0 w A hA hw w.size 0 k (by omega) hk
    rw [show ((0 : Nat) : Int) = 0 from rfl, List.drop_zero] at this
    rw [this]
    unfold dropAt
    simp only [Nat.zero_add]
theorem specTurn_l0 (w : ByteArray) (hw : w.size ≤ 1048576) : ∀ (j k : Nat) (xs : List Int), j ≤ w.size → j < k → xs.length + j ≤ 1048576 → spec_l04Turn.l0 k w xs ((j : Int) - 1) = some (strOfNums (xs ++ ((bytesOf w).take j).reverse)) := by
  intro j
  induction j with
  | zero =>
    intro k xs hj hk hx
    obtain ⟨k, rfl⟩ : ∃ m, k = m + 1 := ⟨k - 1, by omega⟩
    simp only [spec_l04Turn.l0]
    rw [if_neg (by omega)]
    simp
  | succ j ih =>
    intro k xs hj hk hx
    obtain ⟨k, rfl⟩ : ∃ m, k = m + 1 := ⟨k - 1, by omega⟩
    simp only [spec_l04Turn.l0]
    have e : (((j + 1 : Nat) : Int) - 1) = (j : Int) := by omega
    rw [e, if_pos (by omega), if_pos (by omega), if_pos (by omega), if_pos (by omega), wrap64_id _ (by omega) (by omega), ih k _ (by omega) (by omega) (by simp; omega)]
    have ht := take_getD 0 (bytesOf w) j (by rw [bytesOf_length]; omega)
    rw [ht, ← rd_nat, rd_bytesOf]
    simp
theorem specTurn_eq (w : ByteArray) (hw : w.size ≤ 524288) (k : Nat) (hk : w.size < k) : spec_l04Turn.f k w = some (strOfNums (bytesOf w).reverse) := by
  unfold spec_l04Turn.f
  rw [wrap64_id _ (by omega) (by omega), specTurn_l0 w (by omega) w.size k [] (by omega) hk (by simp; omega), List.take_of_length_le (by rw [bytesOf_length]; omega), List.nil_append]
theorem specHear_eq (f A B : Int) (hA : 0 ≤ A ∧ A ≤ 255) (w : ByteArray) (h1 : 1 ≤ w.size) (h2 : w.size ≤ 12) (k : Nat) (hk : 20 < k) : spec_l04Hear.f k f A B w = some (hearF f A B w) := by
  obtain ⟨k, rfl⟩ : ∃ m, k = m + 1 := ⟨k - 1, by omega⟩
  have hs : w.size + (w.extract (w.size - 1) w.size).size ≤ 9223372036854775807 := by simp only [ByteArray.size_extract]; omega
  have hsz : wrap64 ((w.size : Int) - 1) = (w.size : Int) - 1 := wrap64_id _ (by omega) (by omega)
  have hn : ((w.size : Int) - 1).toNat = w.size - 1 := by omega
  unfold spec_l04Hear.f hearF spec_l04Swap.f
  by_cases c1 : f = 1
  · rw [if_pos c1, if_pos c1, if_pos (by omega)]; rfl
  · rw [if_neg c1, if_neg c1]
    by_cases c2 : f = 2
    · rw [if_pos c2, if_pos c2, specDrop_eq w A hA (by omega) _ (by omega)]; rfl
    · rw [if_neg c2, if_neg c2]
      have hj : spec_l04Hear.j0 (k + 1) w false f A B = some (if f = 4 then (if bt w 0 = A then strOfNums (bytesOf w).reverse else w) else w) := by
        simp only [spec_l04Hear.j0]
        rw [if_neg (by decide)]
        by_cases c4 : f = 4
        · rw [if_pos c4, if_pos c4, if_pos (by omega)]
          by_cases c5 : bt w 0 = A
          · rw [if_pos c5, if_pos c5, specTurn_eq w (by omega) k (by omega)]; rfl
          · rw [if_neg c5, if_neg c5]
        · rw [if_neg c4, if_neg c4]
      by_cases c3 : f = 3
      · rw [if_pos c3, if_pos c3]
        by_cases c6 : w.size < 12
        · rw [if_pos c6, decide_eq_true (by omega)]
          simp only [spec_l04Hear.j0, hsz, hn]
          rw [if_pos trivial, if_pos (by omega), if_pos (by omega), if_pos hs]
        · rw [if_neg c6, decide_eq_false (by omega), hj, if_neg (by omega)]
      · rw [if_neg c3, if_neg c3, hj]
theorem implHear_eq (f A B m : Int) (hA : 0 ≤ A ∧ A ≤ 255) (hB : 0 ≤ B ∧ B ≤ 255) (w : ByteArray) (h1 : 1 ≤ w.size) (h2 : w.size ≤ 12) : impl_Habit_hear.f f A B w m = some (hearF f A B w) := by
  have hs : w.size + (w.extract (w.size - 1) w.size).size ≤ 9223372036854775807 := by simp only [ByteArray.size_extract]; omega
  have hsz : wrap64 ((w.size : Int) - 1) = (w.size : Int) - 1 := wrap64_id _ (by omega) (by omega)
  have hn : ((w.size : Int) - 1).toNat = w.size - 1 := by omega
  have s1 : ∀ x : Int, (strOfNums [x]).size = 1 := fun _ => rfl
  unfold impl_Habit_hear.f hearF
  by_cases c1 : f = 1
  · rw [if_pos c1, if_pos c1]
    unfold strings_ReplaceAll.f
    rw [if_pos (by omega), if_pos (s1 A), if_pos (by rw [s1 B]; omega), swap_bytes A B hA hB w]
    rfl
  · rw [if_neg c1, if_neg c1]
    by_cases c2 : f = 2
    · rw [if_pos c2, if_pos c2]
      unfold strings_IndexByte.f dropB
      rw [Option.bind_some]
      have hb := indexByte_bound w A.toNat.toUInt8
      generalize Go.Lib.indexByte w.data.toList A.toNat.toUInt8 = q at hb
      by_cases g : q ≥ 0
      · have hq := hb g
        rw [if_pos g, if_pos g]
        by_cases c : w.size = 1
        · rw [if_neg (by omega), if_pos c]
        · have hw1 : wrap64 (q + 1) = q + 1 := wrap64_id _ (by omega) (by omega)
          have hn2 : (q + 1).toNat = q.toNat + 1 := by omega
          have hs2 : (w.extract 0 q.toNat).size + (w.extract (q.toNat + 1) w.size).size ≤ 9223372036854775807 := by simp only [ByteArray.size_extract]; omega
          rw [hw1, hn2, if_pos (by omega), if_pos g, if_pos (by omega), if_pos (by omega), if_pos (by omega), if_pos hs2, if_neg c]
      · rw [if_neg g, if_neg g]
        by_cases c : w.size = 1
        · rw [if_pos c]
        · rw [if_neg c]
    · rw [if_neg c2, if_neg c2]
      by_cases c3 : f = 3
      · rw [if_pos c3, if_pos c3]
        by_cases c6 : w.size < 12
        · rw [if_pos c6, if_pos (by omega), hsz, hn, if_pos (by omega), if_pos (by omega), if_pos hs]
        · rw [if_neg c6, if_neg (by omega)]
      · rw [if_neg c3, if_neg c3]
        by_cases c4 : f = 4
        · rw [if_pos c4, if_pos c4, if_pos (by omega)]
          by_cases c5 : bt w 0 = A
          · rw [if_pos c5, if_pos c5]
            unfold impl_turned.f
            rw [if_pos (by omega)]
            rfl
          · rw [if_neg c5, if_neg c5]
        · rw [if_neg c4, if_neg c4]

theorem rdS_nat (l : List ByteArray) (i : Nat) : rdOf ByteArray.empty l (i : Int) = l.getD i ByteArray.empty := by simp [rdOf]
theorem drop_rdS (l : List ByteArray) (i : Nat) (h : i < l.length) : l.drop i = rdOf ByteArray.empty l (i : Int) :: l.drop (i + 1) := by
  rw [drop_getD ByteArray.empty l i h, rdS_nat]
theorem toList_inj (a b : ByteArray) : a.toList = b.toList ↔ a = b := by
  constructor
  · intro h
    rw [ByteArray.toList_eq, ByteArray.toList_eq] at h
    have h2 : a.data.toList = b.data.toList := h
    cases a; cases b
    simp at h2
    rw [h2]
  · intro h; rw [h]
theorem eqStringS_l0 (a b : List ByteArray) (hab : a.length = b.length) (hl : a.length ≤ 1048576) : ∀ (d i k : Nat), i + d = a.length → d < k → laws_eqStringS.l0 k a b (i : Int) = some (decide (a.drop i = b.drop i)) := by
  intro d
  induction d with
  | zero =>
    intro i k hi hk
    obtain ⟨k, rfl⟩ : ∃ m, k = m + 1 := ⟨k - 1, by omega⟩
    simp only [laws_eqStringS.l0]
    rw [if_neg (by omega), List.drop_eq_nil_of_le (by omega), List.drop_eq_nil_of_le (by omega)]
    simp
  | succ d ih =>
    intro i k hi hk
    obtain ⟨k, rfl⟩ : ∃ m, k = m + 1 := ⟨k - 1, by omega⟩
    simp only [laws_eqStringS.l0]
    rw [if_pos (by omega), if_pos (by omega), if_pos (by omega), drop_rdS a i (by omega), drop_rdS b i (by omega)]
    by_cases e : rdOf ByteArray.empty a (i : Int) = rdOf ByteArray.empty b (i : Int)
    · rw [if_pos ((toList_inj _ _).2 e), wrap_nat i (by omega), ih (i + 1) k (by omega) (by omega)]
      simp [e]
    · rw [if_neg (fun h => e ((toList_inj _ _).1 h))]
      simp [e]
theorem eqStringS_eq (a b : List ByteArray) (hl : a.length ≤ 1048576) (k : Nat) (hk : a.length < k) : laws_eqStringS.f k a b = some (decide (a = b)) := by
  unfold laws_eqStringS.f
  by_cases h : a.length = b.length
  · rw [if_pos (by omega)]
    have := eqStringS_l0 a b h hl a.length 0 k (by omega) hk
    simpa using this
  · rw [if_neg (by omega)]
    have : a ≠ b := fun e => h (by rw [e])
    simp [this]

/-! Lists of strings, strictly ordered: there is one for each set. -/
def kb (s : ByteArray) : List UInt8 := s.data.toList
theorem kb_inj {a b : ByteArray} (h : kb a = kb b) : a = b := by
  unfold kb at h
  cases a; cases b
  simp at h
  rw [h]
theorem less_kb (a b : ByteArray) : Op.bytesLess a.toList b.toList = decide (kb a < kb b) := by
  rw [ByteArray.toList_eq, ByteArray.toList_eq]
  exact Go.Proofs.bytesLess_eq _ _
def SS (l : List ByteArray) : Prop := l.Pairwise (fun a b => kb a < kb b)
theorem SS_nodup {l : List ByteArray} (h : SS l) : l.Nodup := by
  refine List.Pairwise.imp (fun {a b} hab => ?_) h
  intro e
  subst e
  exact List.lt_irrefl _ hab
theorem SS_one {a b : List ByteArray} (ha : SS a) (hb : SS b) (h : ∀ x, x ∈ a ↔ x ∈ b) : a = b :=
  List.Perm.eq_of_pairwise (fun x y _ _ h1 h2 => absurd (List.lt_trans h1 h2) (List.lt_irrefl _)) ha hb ((List.perm_ext_iff_of_nodup (SS_nodup ha) (SS_nodup hb)).2 h)
theorem get_bang {α : Type} [Inhabited α] (l : List α) (i : Nat) (h : i < l.length) : l.toArray[i]! = l[i] := by
  rw [List.getElem!_toArray, getElem!_pos l i h]
theorem compact_lt (zs : List (List UInt8)) (h : zs.Pairwise (fun a b => a ≤ b)) : (Go.Lib.compact zs).Pairwise (fun a b => a < b) := by
  unfold Go.Lib.compact Go.Lib.compactUpTo
  rw [List.pairwise_map]
  have hp : ((List.range zs.length).filter (Go.Lib.keeps zs.toArray)).Pairwise (· < ·) := List.Pairwise.filter _ List.pairwise_lt_range
  refine List.Pairwise.imp_of_mem (fun {i j} hi hj hij => ?_) hp
  rw [List.mem_filter, List.mem_range] at hi hj
  have hk := hj.2
  unfold Go.Lib.keeps at hk
  rw [decide_eq_true_eq] at hk
  have hk2 : zs.toArray[j]! ≠ zs.toArray[j - 1]! := hk.resolve_left (by omega)
  rw [get_bang zs j hj.1, get_bang zs (j - 1) (by omega)] at hk2
  rw [get_bang zs i hi.1, get_bang zs j hj.1]
  have h1 : zs[j - 1]'(by omega) ≤ zs[j] := List.pairwise_iff_getElem.1 h (j - 1) j (by omega) hj.1 (by omega)
  have h2 : zs[i] ≤ zs[j - 1]'(by omega) := by
    by_cases e : i = j - 1
    · subst e; exact List.le_refl _
    · exact List.pairwise_iff_getElem.1 h i (j - 1) hi.1 (by omega) (by omega)
  refine List.lt_of_le_of_lt h2 ?_
  rcases List.le_iff_lt_or_eq.1 h1 with g | g
  · exact g
  · exact absurd g.symm hk2
theorem compact_mem (zs : List (List UInt8)) (x : List UInt8) : x ∈ Go.Lib.compact zs ↔ x ∈ zs := by
  unfold Go.Lib.compact Go.Lib.compactUpTo
  rw [List.mem_map]
  constructor
  · rintro ⟨j, hj, rfl⟩
    rw [List.mem_filter, List.mem_range] at hj
    rw [get_bang zs j hj.1]
    exact List.getElem_mem _
  · intro hx
    obtain ⟨j, hj, rfl⟩ := List.mem_iff_getElem.1 hx
    have key : ∀ n, n < zs.length → ∃ m, m < zs.length ∧ Go.Lib.keeps zs.toArray m = true ∧ zs.toArray[m]! = zs.toArray[n]! := by
      intro n
      induction n with
      | zero => intro h; exact ⟨0, h, by unfold Go.Lib.keeps; exact decide_eq_true (Or.inl rfl), rfl⟩
      | succ n ih =>
        intro h
        by_cases e : zs.toArray[n + 1]! = zs.toArray[n]!
        · obtain ⟨m, h1, h2, h3⟩ := ih (by omega)
          exact ⟨m, h1, h2, h3.trans e.symm⟩
        · exact ⟨n + 1, h, by unfold Go.Lib.keeps; exact decide_eq_true (Or.inr e), rfl⟩
    obtain ⟨m, h1, h2, h3⟩ := key j hj
    refine ⟨m, ?_, by rw [h3, get_bang zs j hj]⟩
    rw [List.mem_filter, List.mem_range]
    exact ⟨h1, h2⟩
/-- What Sort and Compact make of a list. -/
def sorted1 (l : List ByteArray) : List ByteArray := Go.Proofs.YtgnnpgallnafcaaDoor.H.unB (Go.Lib.compact (Go.Proofs.YtgnnpgallnafcaaDoor.H.sortB l))
theorem sortB_le (l : List ByteArray) : (Go.Proofs.YtgnnpgallnafcaaDoor.H.sortB l).Pairwise (fun a b => a ≤ b) := by
  have h := List.pairwise_mergeSort (le := fun x y : List UInt8 => decide (x ≤ y)) (fun a b c h1 h2 => decide_eq_true (List.le_trans (of_decide_eq_true h1) (of_decide_eq_true h2))) (fun a b => by
    rcases List.le_total a b with h | h
    · simp [h]
    · simp [h]) (Go.Proofs.YtgnnpgallnafcaaDoor.H.bytesL l)
  exact List.Pairwise.imp (fun h => of_decide_eq_true h) h
theorem sorted1_SS (l : List ByteArray) : SS (sorted1 l) := by
  unfold SS sorted1 Go.Proofs.YtgnnpgallnafcaaDoor.H.unB
  rw [List.pairwise_map]
  exact compact_lt _ (sortB_le l)
theorem sorted1_mem (l : List ByteArray) (x : ByteArray) : x ∈ sorted1 l ↔ x ∈ l := by
  unfold sorted1 Go.Proofs.YtgnnpgallnafcaaDoor.H.unB
  rw [List.mem_map]
  constructor
  · rintro ⟨b, hb, rfl⟩
    rw [compact_mem] at hb
    unfold Go.Proofs.YtgnnpgallnafcaaDoor.H.sortB at hb
    rw [List.mem_mergeSort] at hb
    unfold Go.Proofs.YtgnnpgallnafcaaDoor.H.bytesL at hb
    obtain ⟨y, hy, rfl⟩ := List.mem_map.1 hb
    exact hy
  · intro hx
    refine ⟨x.data.toList, ?_, rfl⟩
    rw [compact_mem]
    unfold Go.Proofs.YtgnnpgallnafcaaDoor.H.sortB
    rw [List.mem_mergeSort]
    unfold Go.Proofs.YtgnnpgallnafcaaDoor.H.bytesL
    exact List.mem_map.2 ⟨x, hx, rfl⟩
/-- The reference's insertion: one more element, or the list as it was. -/
theorem put_l0 (l : List ByteArray) (w : ByteArray) (hl : l.length ≤ 1048576) (hs : SS l) : ∀ (d i k : Nat), i + d = l.length → d < k → (∀ x ∈ l.take i, kb x < kb w) →
    ∃ r, spec_l04Put.l0 k l w (i : Int) = some r ∧ SS r ∧ (∀ x, x ∈ r ↔ x ∈ l ∨ x = w) ∧ r.length ≤ l.length + 1 := by
  intro d
  induction d with
  | zero =>
    intro i k hi hk hlt
    obtain ⟨k, rfl⟩ : ∃ m, k = m + 1 := ⟨k - 1, by omega⟩
    have hi2 : i = l.length := by omega
    have ht : l.take i = l := List.take_of_length_le (by omega)
    simp only [spec_l04Put.l0]
    rw [if_neg (by omega), Option.bind_some, if_pos (by omega), if_pos (by omega), Int.toNat_natCast, ht, List.drop_eq_nil_of_le (by omega)]
    simp only [Option.bind_some, List.nil_append, List.length_nil, Nat.zero_add, List.append_nil]
    rw [if_pos (by omega), if_pos (by omega), if_pos (by simp; omega)]
    rw [ht] at hlt
    refine ⟨_, rfl, ?_, fun x => by simp, by simp⟩
    unfold SS
    rw [List.pairwise_append]
    exact ⟨hs, List.pairwise_singleton _ _, fun a ha b hb => by rw [List.mem_singleton] at hb; rw [hb]; exact hlt a ha⟩
  | succ d ih =>
    intro i k hi hk hlt
    obtain ⟨k, rfl⟩ : ∃ m, k = m + 1 := ⟨k - 1, by omega⟩
    have hil : i < l.length := by omega
    have hd := drop_rdS l i hil
    have htk : l.take (i + 1) = l.take i ++ [rdOf ByteArray.empty l (i : Int)] := by rw [take_getD ByteArray.empty l i hil, rdS_nat]
    simp only [spec_l04Put.l0]
    rw [if_pos (by omega), if_pos (by omega), less_kb]
    generalize rdOf ByteArray.empty l (i : Int) = u at hd htk
    have hmu : u ∈ l := by
      have : u ∈ l.drop i := by rw [hd]; exact List.mem_cons_self
      exact List.mem_of_mem_drop this
    by_cases c : kb u < kb w
    · rw [if_pos (decide_eq_true c), wrap_nat i (by omega)]
      exact ih (i + 1) k (by omega) (by omega) (fun x hx => by
        rw [htk, List.mem_append, List.mem_singleton] at hx
        rcases hx with hx | hx
        · exact hlt x hx
        · rw [hx]; exact c)
    · rw [if_neg (by rw [decide_eq_true_eq]; exact c)]
      by_cases e : u = w
      · rw [if_pos ((toList_inj u w).2 e)]
        exact ⟨l, rfl, hs, fun x => ⟨fun h => Or.inl h, fun h => h.elim id (fun h => by rw [h, ← e]; exact hmu)⟩, by omega⟩
      · rw [if_neg (fun z => e ((toList_inj u w).1 z)), Option.bind_some, if_pos (by omega), Int.toNat_natCast]
        simp only [Option.bind_some, List.nil_append, List.length_nil, Nat.zero_add]
        have hlen : (l.take i).length = i := by rw [List.length_take]; omega
        rw [if_pos (by omega), if_pos (by omega), if_pos (by simp; omega)]
        refine ⟨_, rfl, ?_, fun x => ?_, ?_⟩
        · have hwu : kb w < kb u := by
            rcases List.le_iff_lt_or_eq.1 (show kb w ≤ kb u from c) with g | g
            · exact g
            · exact absurd (kb_inj g).symm e
          have hsp : SS (l.take i ++ l.drop i) := by rw [List.take_append_drop]; exact hs
          unfold SS at hsp ⊢
          rw [List.pairwise_append] at hsp
          have hcons := hsp.2.1
          rw [hd, List.pairwise_cons] at hcons
          have hwd : ∀ y ∈ l.drop i, kb w < kb y := by
            intro y hy
            rw [hd] at hy
            rcases List.mem_cons.1 hy with rfl | hy
            · exact hwu
            · exact List.lt_trans hwu (hcons.1 y hy)
          rw [List.pairwise_append, List.pairwise_append]
          refine ⟨⟨hsp.1, List.pairwise_singleton _ _, fun a ha b hb => by rw [List.mem_singleton] at hb; rw [hb]; exact hlt a ha⟩, hsp.2.1, fun a ha b hb => ?_⟩
          rw [List.mem_append, List.mem_singleton] at ha
          rcases ha with ha | ha
          · exact hsp.2.2 a ha b hb
          · rw [ha]; exact hwd b hb
        · have hm : x ∈ l ↔ x ∈ l.take i ∨ x ∈ l.drop i := by rw [← List.mem_append, List.take_append_drop]
          rw [hm]
          simp only [List.mem_append, List.mem_singleton]
          constructor
          · rintro ((h | h) | h)
            · exact Or.inl (Or.inl h)
            · exact Or.inr h
            · exact Or.inl (Or.inr h)
          · rintro ((h | h) | h)
            · exact Or.inl (Or.inl h)
            · exact Or.inr h
            · exact Or.inl (Or.inr h)
        · simp; omega
theorem put_eq (l : List ByteArray) (w : ByteArray) (hl : l.length ≤ 1048576) (hs : SS l) (k : Nat) (hk : l.length < k) :
    ∃ r, spec_l04Put.f k l w = some r ∧ SS r ∧ (∀ x, x ∈ r ↔ x ∈ l ∨ x = w) ∧ r.length ≤ l.length + 1 := by
  unfold spec_l04Put.f
  exact put_l0 l w hl hs l.length 0 k (by omega) hk (fun x hx => by simp at hx)

theorem wordOk_iff (w : ByteArray) : wordOk w = true ↔ (1 ≤ w.size ∧ w.size ≤ 12) ∧ ∀ x ∈ bytesOf w, letter x = true := by
  constructor
  · intro h
    refine ⟨wordOk_size w h, fun x hx => ?_⟩
    obtain ⟨j, hj, rfl⟩ := List.mem_iff_getElem.1 hx
    have hj' : j < w.size := by rwa [bytesOf_length] at hj
    have h2 := wordOk_get w h j hj'
    rw [← rd_bytesOf, rd_nat, List.getD_eq_getElem?_getD, List.getElem?_eq_getElem hj] at h2
    simpa [letter] using h2
  · intro ⟨hs, hl⟩
    have hf : ∀ d i, i + d = w.size → lettersFrom w d i = true := by
      intro d
      induction d with
      | zero => intro i _; rfl
      | succ d ih =>
        intro i hi
        unfold lettersFrom
        rw [Bool.and_eq_true]
        refine ⟨?_, ih (i + 1) (by omega)⟩
        have hj : i < (bytesOf w).length := by rw [bytesOf_length]; omega
        have := hl _ (List.getElem_mem hj)
        rw [← rd_bytesOf, rd_nat, List.getD_eq_getElem?_getD, List.getElem?_eq_getElem hj]
        exact this
    unfold wordOk
    rw [hf w.size 0 (by omega), Bool.true_and]
    exact decide_eq_true (by omega)
theorem bytesOf_strOfNums (xs : List Int) (h : ∀ x ∈ xs, 0 ≤ x ∧ x ≤ 255) : bytesOf (strOfNums xs) = xs := by
  apply List.ext_getElem?
  intro j
  unfold bytesOf strOfNums
  simp only [List.toList_toArray, List.map_map, List.getElem?_map]
  cases hq : xs[j]? with
  | none => rfl
  | some x =>
    have hx := h x (List.mem_of_getElem? hq)
    obtain ⟨n, rfl⟩ := Int.eq_ofNat_of_zero_le hx.1
    simp
    omega
def okP (f A B : Int) (w s : ByteArray) : Bool := wordOk s && decide (hearF f A B s = w)
theorem tried_eq (f A B : Int) (hA : 0 ≤ A ∧ A ≤ 255) (l : List ByteArray) (hl : l.length ≤ 1000000) (hs : SS l) (s w : ByteArray) (hz : s.size ≤ 1000) (k : Nat) (hk : 1001100 < k) :
    ∃ r, spec_l04Tried.f k l f A B s w = some r ∧ SS r ∧ (∀ x, x ∈ r ↔ x ∈ l ∨ (x = s ∧ okP f A B w s = true)) ∧ r.length ≤ l.length + 1 := by
  unfold spec_l04Tried.f okP
  rw [l04Word_eq s (by omega) k (by omega), Option.bind_some]
  by_cases c : wordOk s = true
  · have hz2 := wordOk_size s c
    rw [if_pos c, specHear_eq f A B hA s hz2.1 hz2.2 k (by omega), Option.bind_some]
    by_cases e : hearF f A B s = w
    · obtain ⟨r, h1, h2, h3, h4⟩ := put_eq l s (by omega) hs k (by omega)
      rw [if_pos ((toList_inj _ _).2 e), h1]
      refine ⟨r, rfl, h2, fun x => ?_, h4⟩
      rw [h3 x]
      simp [c, e]
    · rw [if_neg (fun z => e ((toList_inj _ _).1 z))]
      refine ⟨l, rfl, hs, fun x => ?_, by omega⟩
      simp [e]
  · rw [if_neg c]
    refine ⟨l, rfl, hs, fun x => ?_, by omega⟩
    simp [c]
theorem past1_eq (f A B m : Int) (hA : 0 ≤ A ∧ A ≤ 255) (hB : 0 ≤ B ∧ B ≤ 255) (s w : ByteArray) (hz : s.size ≤ 1000) (k : Nat) (hk : 1000 < k) : impl_Habit_pasts_1.f k s f A B w m = some (!okP f A B w s) := by
  unfold impl_Habit_pasts_1.f okP
  rw [isWord_eq s (by omega) k (by omega), Option.bind_some]
  by_cases c : wordOk s = true
  · have hz2 := wordOk_size s c
    rw [if_pos c, implHear_eq f A B m hA hB s hz2.1 hz2.2, Option.bind_some, c, Bool.true_and]
    by_cases e : hearF f A B s = w
    · rw [e]; simp
    · have e2 : (hearF f A B s).toList ≠ w.toList := fun z => e ((toList_inj _ _).1 z)
      simp [e, e2]
  · rw [if_neg c]; simp [c]
theorem keepO_filter (p : ByteArray → Option Bool) (g : ByteArray → Bool) : ∀ ts : List ByteArray, (∀ s ∈ ts, p s = some (!g s)) → Go.Proofs.YtgnnpgallnafcaaDoor.H.keepO p ts = some (ts.filter g)
  | [], _ => rfl
  | x :: r, h => by
    have ih := keepO_filter p g r (fun s hs => h s (List.mem_cons_of_mem _ hs))
    unfold Go.Proofs.YtgnnpgallnafcaaDoor.H.keepO
    rw [h x List.mem_cons_self, ih, Option.bind_some, Option.bind_some, List.filter_cons]
    cases g x <;> rfl
theorem idx_l0 (f A B m : Int) (w : ByteArray) (g : ByteArray → Bool) (K : Nat) (l : List ByteArray) (hl : l.length ≤ 1000000) (hp : ∀ s ∈ l, ∀ k, K < k → impl_Habit_pasts_1.f k s f A B w m = some (!g s)) (k0 : Nat) (hk0 : K < k0) :
    ∀ (d i k : Nat), i + d = l.length → d + K < k → (∀ s ∈ l.take i, g s = true) →
    ∃ r, slices_IndexFunc_Sstring_string_at_pasts_1.l0 k l (l.length : Int) (i : Int) f A B w m = some r ∧ Go.Proofs.YtgnnpgallnafcaaDoor.H.delRest (fun s => impl_Habit_pasts_1.f k0 s f A B w m) l r = some (l.filter g) := by
  intro d
  induction d with
  | zero =>
    intro i k hi hk hg
    obtain ⟨k, rfl⟩ : ∃ m, k = m + 1 := ⟨k - 1, by omega⟩
    simp only [slices_IndexFunc_Sstring_string_at_pasts_1.l0]
    rw [if_neg (by omega)]
    rw [List.take_of_length_le (by omega)] at hg
    refine ⟨-1, rfl, ?_⟩
    unfold Go.Proofs.YtgnnpgallnafcaaDoor.H.delRest
    rw [if_pos rfl, List.filter_eq_self.2 hg]
  | succ d ih =>
    intro i k hi hk hg
    obtain ⟨k, rfl⟩ : ∃ m, k = m + 1 := ⟨k - 1, by omega⟩
    have hil : i < l.length := by omega
    have hd := drop_rdS l i hil
    have htk : l.take (i + 1) = l.take i ++ [rdOf ByteArray.empty l (i : Int)] := by rw [take_getD ByteArray.empty l i hil, rdS_nat]
    simp only [slices_IndexFunc_Sstring_string_at_pasts_1.l0]
    rw [if_pos (by omega), if_pos (by omega), if_pos (by omega)]
    generalize rdOf ByteArray.empty l (i : Int) = u at hd htk
    have hmu : u ∈ l := by
      have : u ∈ l.drop i := by rw [hd]; exact List.mem_cons_self
      exact List.mem_of_mem_drop this
    rw [hp u hmu k (by omega), Option.bind_some]
    cases hgu : g u with
    | false =>
      rw [if_pos (show (!false) = true from rfl)]
      refine ⟨(i : Int), rfl, ?_⟩
      unfold Go.Proofs.YtgnnpgallnafcaaDoor.H.delRest
      rw [if_neg (by omega), if_pos ⟨by omega, by omega⟩, Int.toNat_natCast, keepO_filter _ g (l.drop (i + 1)) (fun s hs => hp s (List.mem_of_mem_drop hs) k0 hk0), Option.map_some]
      conv => rhs; rw [← List.take_append_drop i l, List.filter_append, List.filter_eq_self.2 hg, hd, List.filter_cons, hgu]
      rfl
    | true =>
      rw [if_neg (by simp), wrap_nat i (by omega)]
      exact ih (i + 1) k (by omega) (by omega) (fun s hs => by
        rw [htk, List.mem_append, List.mem_singleton] at hs
        rcases hs with hs | hs
        · exact hg s hs
        · rw [hs]; exact hgu)
theorem unB_len (s : List (List UInt8)) : (Go.Proofs.YtgnnpgallnafcaaDoor.H.unB s).length = s.length := List.length_map _
theorem pastsf_eq (f A B m : Int) (hA : 0 ≤ A ∧ A ≤ 255) (hB : 0 ≤ B ∧ B ≤ 255) (w : ByteArray) (ts : List ByteArray) (k : Nat) (ht : impl_Habit_tries.f k f A B w = some ts) (h0 : 0 < ts.length) (h1 : ts.length ≤ 1000000) (hz : ∀ s ∈ ts, s.size ≤ 1000) (hk : 1001100 < k) :
    impl_Habit_pasts.f k f A B w m = some (sorted1 (ts.filter (okP f A B w))) := by
  unfold impl_Habit_pasts.f
  rw [ht, Option.bind_some, if_pos h0]
  obtain ⟨r, e1, e2⟩ := idx_l0 f A B m w (okP f A B w) 1000 ts h1 (fun s hs k hk => past1_eq f A B m hA hB s w (hz s hs) k hk) k (by omega) ts.length 0 k (by omega) (by omega) (fun s hs => by simp at hs)
  unfold slices_IndexFunc_Sstring_string_at_pasts_1.f
  rw [show ((0 : Nat) : Int) = 0 from rfl] at e1
  rw [e1, Option.bind_some, e2, Option.bind_some, if_pos (by have := List.length_filter_le (okP f A B w) ts; omega)]
  rfl

/-! The program's tries. -/
def TLs (A B : Int) (w : List Int) : Nat → List (List Int)
  | 0 => [[]]
  | i + 1 => (TLs A B w i).flatMap (fun s => (s ++ [w.getD i 0]) :: (if w.getD i 0 = B then [s ++ [A]] else []))
theorem strN_append (a b : List Int) : strOfNums (a ++ b) = strOfNums a ++ strOfNums b := by
  unfold strOfNums
  apply ByteArray.ext
  simp
theorem strN_size (a : List Int) : (strOfNums a).size = a.length := by
  unfold strOfNums
  show (List.toArray _).size = _
  simp
theorem strN_bytes (w : ByteArray) : strOfNums (bytesOf w) = w := by
  unfold strOfNums bytesOf
  rw [List.map_map, show ((fun n : Int => UInt8.ofNat n.toNat) ∘ fun b : UInt8 => (b.toNat : Int)) = id from funext (fun b => by simp), List.map_id]
theorem ext_one (w : ByteArray) (i : Nat) (h : i < w.size) : w.extract i (i + 1) = strOfNums [bt w (i : Int)] := by
  rw [bt_list w i h]
  unfold strOfNums
  apply ByteArray.ext
  have h2 : i < w.data.toList.length := by rw [data_length]; exact h
  have h3 : (w.data.extract i (i + 1)).toList = [w.data.toList.getD i 0] := by
    rw [Array.toList_extract]
    simp only [List.extract_eq_take_drop, Nat.add_sub_cancel_left]
    rw [drop_getD (0 : UInt8) w.data.toList i h2]
    rfl
  apply Array.ext'
  rw [ByteArray.data_extract, h3]
  simp
theorem TLs_len (A B : Int) (w : List Int) : ∀ i s, s ∈ TLs A B w i → s.length = i
  | 0, s, h => by simp [TLs] at h; simp [h]
  | i + 1, s, h => by
    unfold TLs at h
    rw [List.mem_flatMap] at h
    obtain ⟨t, ht, h⟩ := h
    have ih := TLs_len A B w i t ht
    rcases List.mem_cons.1 h with rfl | h
    · simp [ih]
    · split at h
      · rw [List.mem_singleton] at h; rw [h]; simp [ih]
      · simp at h
theorem TLs_count (A B : Int) (w : List Int) : ∀ i, 1 ≤ (TLs A B w i).length ∧ (TLs A B w i).length ≤ 2 ^ i
  | 0 => by simp [TLs]
  | i + 1 => by
    have ih := TLs_count A B w i
    unfold TLs
    have h : ∀ L : List (List Int), L.length ≤ (L.flatMap (fun s => (s ++ [w.getD i 0]) :: (if w.getD i 0 = B then [s ++ [A]] else []))).length ∧ (L.flatMap (fun s => (s ++ [w.getD i 0]) :: (if w.getD i 0 = B then [s ++ [A]] else []))).length ≤ 2 * L.length := by
      intro L
      induction L with
      | nil => simp
      | cons a L ih =>
        rw [List.flatMap_cons, List.length_append, List.length_cons, List.length_cons]
        split
        · rename_i e; simp only [e, if_true] at ih ⊢; simp at ih ⊢; omega
        · rename_i e; simp only [e, if_false] at ih ⊢; simp at ih ⊢; omega
    have h2 := h (TLs A B w i)
    rw [Nat.pow_succ]
    omega
theorem TLs_mem (A B : Int) (w : List Int) : ∀ i s, s ∈ TLs A B w i ↔ s.length = i ∧ ∀ j, j < i → s.getD j 0 = w.getD j 0 ∨ (w.getD j 0 = B ∧ s.getD j 0 = A)
  | 0, s => by simp [TLs]
  | i + 1, s => by
    unfold TLs
    rw [List.mem_flatMap]
    constructor
    · rintro ⟨t, ht, h⟩
      obtain ⟨hl, hj⟩ := (TLs_mem A B w i t).1 ht
      have key : ∀ c, s = t ++ [c] → (c = w.getD i 0 ∨ (w.getD i 0 = B ∧ c = A)) → s.length = i + 1 ∧ ∀ j, j < i + 1 → s.getD j 0 = w.getD j 0 ∨ (w.getD j 0 = B ∧ s.getD j 0 = A) := by
        rintro c rfl hc
        refine ⟨by simp [hl], fun j hj2 => ?_⟩
        by_cases e : j < i
        · rw [show (t ++ [c]).getD j 0 = t.getD j 0 by rw [List.getD_eq_getElem?_getD, List.getElem?_append_left (by omega), List.getD_eq_getElem?_getD]]
          exact hj j e
        · obtain rfl : j = i := by omega
          rw [show (t ++ [c]).getD j 0 = c by rw [List.getD_eq_getElem?_getD, List.getElem?_append_right (by omega), hl, Nat.sub_self]; rfl]
          exact hc
      rcases List.mem_cons.1 h with h | h
      · exact key _ h (Or.inl rfl)
      · split at h
        · rename_i e
          rw [List.mem_singleton] at h
          exact key A h (Or.inr ⟨e, rfl⟩)
        · simp at h
    · rintro ⟨hl, hj⟩
      refine ⟨s.take i, (TLs_mem A B w i _).2 ⟨by rw [List.length_take]; omega, fun j hj2 => ?_⟩, ?_⟩
      · have := hj j (by omega)
        rwa [show (s.take i).getD j 0 = s.getD j 0 by rw [List.getD_eq_getElem?_getD, List.getElem?_take, if_pos hj2, List.getD_eq_getElem?_getD]]
      · have e1 : s = s.take i ++ [s.getD i 0] := by
          have := take_getD 0 s i (by omega)
          rw [List.take_of_length_le (by omega)] at this
          exact this
        rcases hj i (by omega) with h | ⟨h1, h2⟩
        · rw [← h, ← e1]; exact List.mem_cons_self
        · rw [if_pos h1, ← h2, ← e1]; exact List.mem_cons_of_mem _ (List.mem_singleton.2 rfl)
theorem TLs_nodup (A B : Int) (hAB : A ≠ B) (w : List Int) : ∀ i, (TLs A B w i).Nodup
  | 0 => by simp [TLs]
  | i + 1 => by
    have ih := TLs_nodup A B hAB w i
    unfold TLs
    unfold List.Nodup at ih ⊢
    rw [List.pairwise_flatMap]
    refine ⟨fun s hs => ?_, ?_⟩
    · split
      · rename_i e
        rw [List.pairwise_cons]
        refine ⟨fun a ha => ?_, List.pairwise_singleton _ _⟩
        rw [List.mem_singleton] at ha
        rw [ha, e]
        intro z
        have := List.append_cancel_left z
        simp at this
        exact hAB this.symm
      · exact List.pairwise_singleton _ _
    · refine List.Pairwise.imp_of_mem (fun {a b} ha hb hab => ?_) ih
      have la := TLs_len A B w i a ha
      have lb := TLs_len A B w i b hb
      have key : ∀ s x, x ∈ (s ++ [w.getD i 0]) :: (if w.getD i 0 = B then [s ++ [A]] else []) → ∃ c, x = s ++ [c] := by
        intro s x hx
        rcases List.mem_cons.1 hx with h | h
        · exact ⟨_, h⟩
        · split at h
          · exact ⟨A, List.mem_singleton.1 h⟩
          · simp at h
      intro x hx y hy e
      obtain ⟨c, rfl⟩ := key a x hx
      obtain ⟨c', rfl⟩ := key b y hy
      exact hab (List.append_inj_left e (by omega))
/-- So many B's, so many words. -/
def countB (B : Int) (w : List Int) (i : Nat) : Nat := ((List.range i).filter (fun j => decide (w.getD j 0 = B))).length
theorem TLs_pow (A B : Int) (w : List Int) : ∀ i, (TLs A B w i).length = 2 ^ countB B w i
  | 0 => by simp [TLs, countB]
  | i + 1 => by
    have ih := TLs_pow A B w i
    have hc : countB B w (i + 1) = countB B w i + (if w.getD i 0 = B then 1 else 0) := by
      unfold countB
      rw [List.range_succ, List.filter_append, List.length_append]
      congr 1
      by_cases e : w.getD i 0 = B
      · rw [if_pos e, List.filter_cons, if_pos (decide_eq_true e)]; rfl
      · rw [if_neg e, List.filter_cons, if_neg (by rw [decide_eq_true_eq]; exact e)]; rfl
    rw [hc]
    clear hc
    unfold TLs
    by_cases e : w.getD i 0 = B
    · rw [if_pos e, Nat.pow_succ, ← ih]
      generalize TLs A B w i = L
      induction L with
      | nil => rfl
      | cons a L ih2 => rw [List.flatMap_cons, List.length_append, ih2, if_pos e]; simp only [List.length_cons, List.length_nil]; omega
    · rw [if_neg e, Nat.add_zero, ← ih]
      generalize TLs A B w i = L
      induction L with
      | nil => rfl
      | cons a L ih2 => rw [List.flatMap_cons, List.length_append, ih2, if_neg e]; simp only [List.length_cons, List.length_nil]; omega
theorem tries_l1 (f A B : Int) (w : ByteArray) (hw : w.size ≤ 12) (i : Nat) (hi : i < w.size) (L : List (List Int)) (hL : ∀ s ∈ L, s.length ≤ 12) (hn : L.length ≤ 5000) : ∀ (d j k : Nat) (acc : List ByteArray), j + d = L.length → acc.length ≤ 2 * j →
    impl_Habit_tries.l1 (k + d + 1) w (i : Int) acc (w.size : Int) (i : Int) (L.map strOfNums) (L.length : Int) (j : Int) f A B
      = impl_Habit_tries.l0 k w (acc ++ ((L.drop j).flatMap (fun s => (s ++ [bt w (i : Int)]) :: (if bt w (i : Int) = B then [s ++ [A]] else []))).map strOfNums) (w.size : Int) ((i + 1 : Nat) : Int) f A B := by
  intro d
  induction d with
  | zero =>
    intro j k acc hj ha
    simp only [impl_Habit_tries.l1, Nat.add_zero]
    rw [if_neg (by omega), List.drop_eq_nil_of_le (by omega), wrap_nat i (by omega)]
    simp
  | succ d ih =>
    intro j k acc hj ha
    have hjl : j < L.length := by omega
    have hr : rdOf ByteArray.empty (L.map strOfNums) (j : Int) = strOfNums L[j] := by
      rw [rdS_nat, List.getD_eq_getElem?_getD, List.getElem?_map, List.getElem?_eq_getElem hjl]; rfl
    have hs := hL L[j] (List.getElem_mem hjl)
    rw [List.drop_eq_getElem_cons hjl, show k + (d + 1) + 1 = (k + d + 1) + 1 by omega]
    have ih2 := fun j acc => ih j k acc
    clear ih
    generalize k + d + 1 = M at ih2 ⊢
    simp only [impl_Habit_tries.l1, List.length_map]
    rw [hr]
    generalize L[j] = s at hs
    have e1 : w.extract i (i + 1) = strOfNums [bt w (i : Int)] := ext_one w i hi
    rw [if_pos (by omega), if_pos (by omega), if_pos (by omega), if_pos (by omega), wrap_nat i (by omega), if_pos (by omega), if_pos (by omega), Int.toNat_natCast, Int.toNat_natCast, e1, strN_size, strN_size, if_pos (by simp; omega), if_pos (by omega), Option.bind_some, if_pos (by omega), wrap_nat j (by omega), ← strN_append]
    by_cases e : bt w (i : Int) = B
    · rw [if_pos e, Option.bind_some, strN_size, if_pos (by simp; omega), if_pos (by simp; omega), ← strN_append, ih2 (j + 1) _ (by omega) (by simp; omega)]
      simp [e]
    · rw [if_neg e, ih2 (j + 1) _ (by omega) (by simp; omega)]
      simp [e]
theorem bt_getD (w : ByteArray) (i : Nat) : (bytesOf w).getD i 0 = bt w (i : Int) := by rw [← rd_bytesOf, rd_nat]
theorem tries_l0 (f A B : Int) (w : ByteArray) (hw : w.size ≤ 12) : ∀ (d i k q : Nat), i + d = w.size → q = d * 5010 → q < k →
    impl_Habit_tries.l0 k w ((TLs A B (bytesOf w) i).map strOfNums) (w.size : Int) (i : Int) f A B = some ((TLs A B (bytesOf w) w.size).map strOfNums) := by
  intro d
  induction d with
  | zero =>
    intro i k q hi _ hk
    obtain ⟨k, rfl⟩ : ∃ m, k = m + 1 := ⟨k - 1, by omega⟩
    obtain rfl : i = w.size := by omega
    simp only [impl_Habit_tries.l0]
    rw [if_neg (by omega)]
  | succ d ih =>
    intro i k q hi hq hk
    rw [Nat.succ_mul] at hq
    have ih3 := fun i k => ih i k (d * 5010)
    clear ih
    generalize d * 5010 = q2 at hq ih3
    obtain ⟨k, rfl⟩ : ∃ m, k = m + 1 := ⟨k - 1, by omega⟩
    have hc := TLs_count A B (bytesOf w) i
    have hp : 2 ^ i ≤ 2 ^ 12 := Nat.pow_le_pow_right (by decide) (by omega)
    simp only [impl_Habit_tries.l0, List.length_map]
    rw [if_pos (by omega)]
    obtain ⟨k2, hk2⟩ : ∃ k2, k = k2 + (TLs A B (bytesOf w) i).length + 1 := ⟨k - (TLs A B (bytesOf w) i).length - 1, by omega⟩
    rw [hk2]
    have h := tries_l1 f A B w hw i (by omega) (TLs A B (bytesOf w) i) (fun s hs => by have := TLs_len A B (bytesOf w) i s hs; omega) (by omega) (TLs A B (bytesOf w) i).length 0 k2 [] (by omega) (by simp)
    rw [show ((0 : Nat) : Int) = 0 from rfl, List.drop_zero, List.nil_append] at h
    rw [h]
    have h2 := ih3 (i + 1) k2 (by omega) rfl (by omega)
    rw [← h2]
    conv => rhs; unfold TLs
    rw [bt_getD]
def insL (A : Int) (w : ByteArray) (i : Nat) : ByteArray := (w.extract 0 i ++ strOfNums [A]) ++ w.extract i w.size
theorem tries_l2 (f A B : Int) (w : ByteArray) (hw : w.size ≤ 12) : ∀ (d i k : Nat) (acc : List ByteArray), i + d = w.size + 1 → d < k → acc.length ≤ i + 2 →
    impl_Habit_tries.l2 k w acc ((w.size : Int) + 1) (i : Int) f A B = some (acc ++ (List.range' i d).map (insL A w)) := by
  intro d
  induction d with
  | zero =>
    intro i k acc hi hk ha
    obtain ⟨k, rfl⟩ : ∃ m, k = m + 1 := ⟨k - 1, by omega⟩
    simp only [impl_Habit_tries.l2]
    rw [if_neg (by omega)]
    simp
  | succ d ih =>
    intro i k acc hi hk ha
    obtain ⟨k, rfl⟩ : ∃ m, k = m + 1 := ⟨k - 1, by omega⟩
    simp only [impl_Habit_tries.l2, Option.bind_some]
    have s1 : (strOfNums [A]).size = 1 := rfl
    rw [if_pos (by omega), if_pos (by omega), if_pos (by omega), s1, Int.toNat_natCast, if_pos (by simp only [ByteArray.size_extract]; omega), if_pos (by simp only [ByteArray.size_extract]; omega), if_pos (by omega), wrap_nat i (by omega), ih (i + 1) k _ (by omega) (by omega) (by simp; omega), List.range'_succ]
    simp [insL]
def triesL (f A B : Int) (w : ByteArray) : List ByteArray :=
  if f = 1 then (TLs A B (bytesOf w) w.size).map strOfNums
  else if f = 2 then [w, strOfNums (bytesOf w).reverse] ++ (List.range' 0 (w.size + 1)).map (insL A w)
  else if f = 3 then [w, strOfNums (bytesOf w).reverse] ++ [w.extract 0 (w.size - 1)]
  else [w, strOfNums (bytesOf w).reverse]
theorem tries_eq (f A B : Int) (w : ByteArray) (h1 : 1 ≤ w.size) (h2 : w.size ≤ 12) (k : Nat) (hk : 100000 < k) : impl_Habit_tries.f k f A B w = some (triesL f A B w) := by
  unfold impl_Habit_tries.f impl_turned.f triesL
  rw [if_pos (by omega), Option.bind_some, Option.bind_some]
  by_cases c1 : f = 1
  · rw [if_pos c1, if_pos c1]
    have hq : w.size * 5010 ≤ 12 * 5010 := Nat.mul_le_mul_right _ h2
    have h := tries_l0 f A B w h2 w.size 0 k _ (by omega) rfl (Nat.lt_of_le_of_lt hq (by omega))
    rw [show ((0 : Nat) : Int) = 0 from rfl] at h
    exact h
  · rw [if_neg c1, if_neg c1]
    by_cases c2 : f = 2
    · rw [if_pos c2, if_pos c2, wrap64_id _ (by omega) (by omega)]
      have h := tries_l2 f A B w h2 (w.size + 1) 0 k [w, strOfNums (bytesOf w).reverse] (by omega) (by omega) (by simp)
      rw [show ((0 : Nat) : Int) = 0 from rfl] at h
      exact h
    · rw [if_neg c2, if_neg c2]
      by_cases c3 : f = 3
      · rw [if_pos c3, if_pos c3, wrap64_id _ (by omega) (by omega), if_pos (by omega), if_pos (by omega), if_pos (by simp)]
        rw [show ((w.size : Int) - 1).toNat = w.size - 1 by omega]
      · rw [if_neg c3, if_neg c3]
theorem insL_size (A : Int) (w : ByteArray) (i : Nat) (h : i ≤ w.size) : (insL A w i).size = w.size + 1 := by
  have s1 : (strOfNums [A]).size = 1 := rfl
  unfold insL
  rw [ByteArray.size_append, ByteArray.size_append, s1]
  simp only [ByteArray.size_extract]
  omega
theorem rev_size (w : ByteArray) : (strOfNums (bytesOf w).reverse).size = w.size := by rw [strN_size, List.length_reverse, bytesOf_length]
theorem triesL_facts (f A B : Int) (w : ByteArray) (h1 : 1 ≤ w.size) (h2 : w.size ≤ 12) : 0 < (triesL f A B w).length ∧ (triesL f A B w).length ≤ 5000 ∧ ∀ s ∈ triesL f A B w, s.size ≤ 100 := by
  unfold triesL
  split
  · have hc := TLs_count A B (bytesOf w) w.size
    have hp : 2 ^ w.size ≤ 2 ^ 12 := Nat.pow_le_pow_right (by decide) h2
    refine ⟨by rw [List.length_map]; omega, by rw [List.length_map]; omega, fun s hs => ?_⟩
    obtain ⟨t, ht, rfl⟩ := List.mem_map.1 hs
    rw [strN_size, TLs_len A B _ _ t ht]; omega
  · have hr := rev_size w
    split
    · refine ⟨by simp, by simp; omega, fun s hs => ?_⟩
      simp only [List.mem_append, List.mem_cons, List.not_mem_nil, or_false, List.mem_map, List.mem_range'_1] at hs
      rcases hs with (rfl | rfl) | ⟨i, hi, rfl⟩
      · omega
      · omega
      · rw [insL_size A w i (by omega)]; omega
    · split
      · refine ⟨by simp, by simp, fun s hs => ?_⟩
        simp only [List.mem_append, List.mem_cons, List.not_mem_nil, or_false] at hs
        rcases hs with (rfl | rfl) | rfl
        · omega
        · omega
        · simp only [ByteArray.size_extract]; omega
      · refine ⟨by simp, by simp, fun s hs => ?_⟩
        simp only [List.mem_cons, List.not_mem_nil, or_false] at hs
        rcases hs with rfl | rfl <;> omega
theorem implPasts_eq (f A B m : Int) (hA : 0 ≤ A ∧ A ≤ 255) (hB : 0 ≤ B ∧ B ≤ 255) (w : ByteArray) (h1 : 1 ≤ w.size) (h2 : w.size ≤ 12) (k : Nat) (hk : 1001100 < k) :
    impl_Habit_pasts.f k f A B w m = some (sorted1 ((triesL f A B w).filter (okP f A B w))) := by
  obtain ⟨z1, z2, z3⟩ := triesL_facts f A B w h1 h2
  exact pastsf_eq f A B m hA hB w _ k (tries_eq f A B w h1 h2 k (by omega)) z1 (by omega) (fun s hs => by have := z3 s hs; omega) hk

/-! The reference's words, where nothing is swapped. -/
theorem dropB_size (A : Int) (w : ByteArray) : (dropB A w).size ≤ w.size := by
  unfold dropB
  split
  · rw [ByteArray.size_append]
    simp only [ByteArray.size_extract]
    omega
  · omega
theorem hearF_size (f A B : Int) (s : ByteArray) (h3 : f ≠ 3) : (hearF f A B s).size ≤ s.size := by
  unfold hearF
  split
  · rw [strN_size, List.length_map, bytesOf_length]; omega
  · split
    · split
      · omega
      · exact dropB_size A s
    · try rw [if_neg h3]
      split
      · split
        · rw [rev_size]; omega
        · omega
      · omega
def specC (f A : Int) (w x : ByteArray) : Prop := x = w ∨ x = strOfNums (bytesOf w).reverse ∨ x = w.extract 0 (w.size - 1) ∨ (f = 2 ∧ ∃ q, q < w.size + 1 ∧ x = insL A w q)
theorem spec_l0 (f A B : Int) (hA : 0 ≤ A ∧ A ≤ 255) (hf : f ≠ 1) (w : ByteArray) (hw : w.size ≤ 12) : ∀ (d i k : Nat) (l : List ByteArray), i + d = w.size + 1 → d + 1001200 < k → SS l → l.length ≤ i + 3 →
    ∃ r, spec_l04Pasts.l0 k w l (i : Int) f A B = some (r, decide ((r.length : Int) ≤ 300)) ∧ SS r ∧ (∀ x, x ∈ r ↔ x ∈ l ∨ (okP f A B w x = true ∧ ∃ q, i ≤ q ∧ q < w.size + 1 ∧ x = insL A w q)) := by
  intro d
  induction d with
  | zero =>
    intro i k l hi hk hs hl
    obtain ⟨k, rfl⟩ : ∃ m, k = m + 2 := ⟨k - 2, by omega⟩
    simp only [spec_l04Pasts.l0, spec_l04Pasts.j1]
    rw [if_neg (by omega), if_neg hf]
    exact ⟨l, rfl, hs, fun x => ⟨fun h => Or.inl h, fun h => h.elim id (fun ⟨_, q, h1, h2, _⟩ => by omega)⟩⟩
  | succ d ih =>
    intro i k l hi hk hs hl
    obtain ⟨k, rfl⟩ : ∃ m, k = m + 1 := ⟨k - 1, by omega⟩
    have s1 : (strOfNums [A]).size = 1 := rfl
    have hins := insL_size A w i (by omega)
    simp only [spec_l04Pasts.l0, Option.bind_some]
    rw [if_pos (by omega), if_pos (by omega), s1, Int.toNat_natCast, if_pos (by simp only [ByteArray.size_extract]; omega), if_pos (by simp only [ByteArray.size_extract]; omega)]
    rw [show (w.extract 0 i ++ strOfNums [A]) ++ w.extract i w.size = insL A w i from rfl]
    obtain ⟨r, h1, h2, h3, h4⟩ := tried_eq f A B hA l (by omega) hs (insL A w i) w (by omega) k (by omega)
    rw [h1, Option.bind_some, wrap_nat i (by omega)]
    obtain ⟨r2, g1, g2, g3⟩ := ih (i + 1) k r (by omega) (by omega) h2 (by omega)
    refine ⟨r2, g1, g2, fun x => ?_⟩
    rw [g3 x, h3 x]
    constructor
    · rintro ((h | ⟨rfl, h⟩) | ⟨h, q, q1, q2, q3⟩)
      · exact Or.inl h
      · exact Or.inr ⟨h, i, by omega, by omega, rfl⟩
      · exact Or.inr ⟨h, q, by omega, q2, q3⟩
    · rintro (h | ⟨h, q, q1, q2, q3⟩)
      · exact Or.inl (Or.inl h)
      · by_cases e : q = i
        · subst e; exact Or.inl (Or.inr ⟨q3, q3 ▸ h⟩)
        · exact Or.inr ⟨h, q, by omega, q2, q3⟩
theorem specPasts_ne (f A B : Int) (hA : 0 ≤ A ∧ A ≤ 255) (hf : f ≠ 1) (w : ByteArray) (h1 : 1 ≤ w.size) (hw : w.size ≤ 12) (k : Nat) (hk : 1001300 < k) :
    ∃ r, spec_l04Pasts.f k f A B w = some (r, decide ((r.length : Int) ≤ 300)) ∧ SS r ∧ (∀ x, x ∈ r ↔ okP f A B w x = true ∧ specC f A w x) := by
  have hrs := rev_size w
  unfold spec_l04Pasts.f
  obtain ⟨r1, a1, a2, a3, a4⟩ := tried_eq f A B hA [] (by simp) List.Pairwise.nil w w (by omega) k (by omega)
  rw [a1, Option.bind_some, specTurn_eq w (by omega) k (by omega), Option.bind_some]
  obtain ⟨r2, b1, b2, b3, b4⟩ := tried_eq f A B hA r1 (by simp at a4; omega) a2 (strOfNums (bytesOf w).reverse) w (by omega) k (by omega)
  rw [b1, Option.bind_some, wrap64_id _ (by omega) (by omega), if_pos (by omega), if_pos (by omega), show ((w.size : Int) - 1).toNat = w.size - 1 by omega]
  obtain ⟨r3, c1, c2, c3, c4⟩ := tried_eq f A B hA r2 (by simp at a4; omega) b2 (w.extract 0 (w.size - 1)) w (by simp only [ByteArray.size_extract]; omega) k (by omega)
  rw [c1, Option.bind_some]
  simp only [List.length_nil, Nat.zero_add] at a4
  have hm : ∀ x, x ∈ r3 ↔ okP f A B w x = true ∧ (x = w ∨ x = strOfNums (bytesOf w).reverse ∨ x = w.extract 0 (w.size - 1)) := by
    intro x
    rw [c3 x, b3 x, a3 x]
    constructor
    · rintro (((h | ⟨rfl, h⟩) | ⟨rfl, h⟩) | ⟨rfl, h⟩)
      · simp at h
      · exact ⟨h, Or.inl rfl⟩
      · exact ⟨h, Or.inr (Or.inl rfl)⟩
      · exact ⟨h, Or.inr (Or.inr rfl)⟩
    · rintro ⟨h, e | e | e⟩
      · exact Or.inl (Or.inl (Or.inr ⟨e, e ▸ h⟩))
      · exact Or.inl (Or.inr ⟨e, e ▸ h⟩)
      · exact Or.inr ⟨e, e ▸ h⟩
  by_cases c : f = 2
  · rw [if_pos c]
    obtain ⟨r, g1, g2, g3⟩ := spec_l0 f A B hA hf w hw (w.size + 1) 0 k r3 (by omega) (by omega) c2 (by omega)
    refine ⟨r, g1, g2, fun x => ?_⟩
    rw [g3 x, hm x]
    unfold specC
    constructor
    · rintro (⟨h, e | e | e⟩ | ⟨h, q, _, q2, q3⟩)
      · exact ⟨h, Or.inl e⟩
      · exact ⟨h, Or.inr (Or.inl e)⟩
      · exact ⟨h, Or.inr (Or.inr (Or.inl e))⟩
      · exact ⟨h, Or.inr (Or.inr (Or.inr ⟨c, q, q2, q3⟩))⟩
    · rintro ⟨h, e | e | e | ⟨_, q, q2, q3⟩⟩
      · exact Or.inl ⟨h, Or.inl e⟩
      · exact Or.inl ⟨h, Or.inr (Or.inl e)⟩
      · exact Or.inl ⟨h, Or.inr (Or.inr e)⟩
      · exact Or.inr ⟨h, q, Nat.zero_le _, q2, q3⟩
  · rw [if_neg c]
    obtain ⟨k, rfl⟩ : ∃ m, k = m + 1 := ⟨k - 1, by omega⟩
    simp only [spec_l04Pasts.j1]
    rw [if_neg hf]
    refine ⟨r3, rfl, c2, fun x => ?_⟩
    rw [hm x]
    unfold specC
    constructor
    · rintro ⟨h, e | e | e⟩
      · exact ⟨h, Or.inl e⟩
      · exact ⟨h, Or.inr (Or.inl e)⟩
      · exact ⟨h, Or.inr (Or.inr (Or.inl e))⟩
    · rintro ⟨h, e | e | e | ⟨e, _⟩⟩
      · exact ⟨h, Or.inl e⟩
      · exact ⟨h, Or.inr (Or.inl e)⟩
      · exact ⟨h, Or.inr (Or.inr e)⟩
      · exact absurd e c
theorem okP_size (f A B : Int) (hf : f ≠ 3) (w s : ByteArray) (h : okP f A B w s = true) : w.size ≤ s.size := by
  unfold okP at h
  rw [Bool.and_eq_true, decide_eq_true_eq] at h
  rw [← h.2]
  exact hearF_size f A B s hf
theorem cands_ne (f A B : Int) (hf : f ≠ 1) (w : ByteArray) (h1 : 1 ≤ w.size) (x : ByteArray) (hx : okP f A B w x = true) : specC f A w x ↔ x ∈ triesL f A B w := by
  unfold specC triesL
  rw [if_neg hf]
  have hcut : f ≠ 3 → x ≠ w.extract 0 (w.size - 1) := by
    intro h3 e
    have := okP_size f A B h3 w x hx
    rw [e] at this
    simp only [ByteArray.size_extract] at this
    omega
  by_cases c2 : f = 2
  · rw [if_pos c2]
    simp only [List.mem_append, List.mem_cons, List.not_mem_nil, or_false, List.mem_map, List.mem_range'_1]
    constructor
    · rintro (h | h | h | ⟨_, q, q1, q2⟩)
      · exact Or.inl (Or.inl h)
      · exact Or.inl (Or.inr h)
      · exact absurd h (hcut (by omega))
      · exact Or.inr ⟨q, ⟨by omega, by omega⟩, q2.symm⟩
    · rintro ((h | h) | ⟨q, ⟨_, q1⟩, q2⟩)
      · exact Or.inl h
      · exact Or.inr (Or.inl h)
      · exact Or.inr (Or.inr (Or.inr ⟨c2, q, by omega, q2.symm⟩))
  · rw [if_neg c2]
    by_cases c3 : f = 3
    · rw [if_pos c3]
      simp only [List.mem_append, List.mem_cons, List.not_mem_nil, or_false]
      constructor
      · rintro (h | h | h | ⟨h, _⟩)
        · exact Or.inl (Or.inl h)
        · exact Or.inl (Or.inr h)
        · exact Or.inr h
        · exact absurd h c2
      · rintro ((h | h) | h)
        · exact Or.inl h
        · exact Or.inr (Or.inl h)
        · exact Or.inr (Or.inr (Or.inl h))
    · rw [if_neg c3]
      simp only [List.mem_cons, List.not_mem_nil, or_false]
      constructor
      · rintro (h | h | h | ⟨h, _⟩)
        · exact Or.inl h
        · exact Or.inr h
        · exact absurd h (hcut c3)
        · exact absurd h c2
      · rintro (h | h)
        · exact Or.inl h
        · exact Or.inr (Or.inl h)
def pastsR (f A B : Int) (w : ByteArray) : List ByteArray := sorted1 ((triesL f A B w).filter (okP f A B w))
theorem pastsR_len (f A B : Int) (w : ByteArray) (h1 : 1 ≤ w.size) (h2 : w.size ≤ 12) : (pastsR f A B w).length ≤ 5000 := by
  have := (triesL_facts f A B w h1 h2).2.1
  have h3 := List.length_filter_le (okP f A B w) (triesL f A B w)
  have h4 := Go.Lib.compact_length_le (Go.Proofs.YtgnnpgallnafcaaDoor.H.sortB ((triesL f A B w).filter (okP f A B w)))
  rw [Go.Proofs.YtgnnpgallnafcaaDoor.H.sortB_length] at h4
  unfold pastsR sorted1
  rw [unB_len]
  omega
theorem pastsR_mem (f A B : Int) (w x : ByteArray) : x ∈ pastsR f A B w ↔ x ∈ triesL f A B w ∧ okP f A B w x = true := by
  unfold pastsR
  rw [sorted1_mem, List.mem_filter]
theorem both_ne (f A B : Int) (hA : 0 ≤ A ∧ A ≤ 255) (hf : f ≠ 1) (w : ByteArray) (h1 : 1 ≤ w.size) (hw : w.size ≤ 12) (k : Nat) (hk : 1001300 < k) :
    spec_l04Pasts.f k f A B w = some (pastsR f A B w, decide (((pastsR f A B w).length : Int) ≤ 300)) := by
  obtain ⟨r, e1, e2, e3⟩ := specPasts_ne f A B hA hf w h1 hw k hk
  have : r = pastsR f A B w := SS_one e2 (sorted1_SS _) (fun x => by
    rw [e3 x, pastsR_mem]
    constructor
    · rintro ⟨h, g⟩; exact ⟨(cands_ne f A B hf w h1 x h).1 g, h⟩
    · rintro ⟨g, h⟩; exact ⟨h, (cands_ne f A B hf w h1 x h).2 g⟩)
  rw [e1, this]

/-! The reference's words, where letters are swapped: one for each set of places. -/
def posL (B : Int) (w : List Int) (i : Nat) : List Int := ((List.range i).filter (fun j => decide (w.getD j 0 = B))).map (fun (j : Nat) => (j : Int))
theorem posL_succ (B : Int) (w : List Int) (i : Nat) : posL B w (i + 1) = posL B w i ++ (if w.getD i 0 = B then [(i : Int)] else []) := by
  unfold posL
  rw [List.range_succ, List.filter_append, List.map_append]
  congr 1
  by_cases e : w.getD i 0 = B
  · rw [if_pos e, List.filter_cons, if_pos (decide_eq_true e)]; rfl
  · rw [if_neg e, List.filter_cons, if_neg (by rw [decide_eq_true_eq]; exact e)]; rfl
theorem posL_len (B : Int) (w : List Int) (i : Nat) : (posL B w i).length = countB B w i := List.length_map _
theorem posL_le (B : Int) (w : List Int) (i : Nat) : (posL B w i).length ≤ i := by
  rw [posL_len]
  unfold countB
  have := List.length_filter_le (fun j => decide (w.getD j 0 = B)) (List.range i)
  rwa [List.length_range] at this
theorem posL_mem (B : Int) (w : List Int) (i : Nat) (p : Int) : p ∈ posL B w i ↔ ∃ j : Nat, p = (j : Int) ∧ j < i ∧ w.getD j 0 = B := by
  unfold posL
  rw [List.mem_map]
  constructor
  · rintro ⟨j, hj, rfl⟩
    rw [List.mem_filter, List.mem_range, decide_eq_true_eq] at hj
    exact ⟨j, rfl, hj.1, hj.2⟩
  · rintro ⟨j, rfl, h1, h2⟩
    refine ⟨j, ?_, rfl⟩
    rw [List.mem_filter, List.mem_range, decide_eq_true_eq]
    exact ⟨h1, h2⟩
theorem spec_l1 (f A B : Int) (hAB : A ≠ B) (w : ByteArray) (hw : w.size ≤ 12) (l : List ByteArray) : ∀ (d i k : Nat), i + d = w.size → (∀ j, i ≤ j → j < w.size → bt w (j : Int) ≠ A) →
    spec_l04Pasts.l1 (k + d + 1) w l (posL B (bytesOf w) i) (i : Int) f A B = if ((posL B (bytesOf w) w.size).length : Int) > 8 then some (l, false) else spec_l04Pasts.l2 k w l (posL B (bytesOf w) w.size) 0 f A B := by
  intro d
  induction d with
  | zero =>
    intro i k hi hn
    obtain rfl : i = w.size := by omega
    simp only [spec_l04Pasts.l1, Nat.add_zero]
    rw [if_neg (by omega)]
  | succ d ih =>
    intro i k hi hn
    have h := ih (i + 1) k (by omega) (fun j h1 h2 => hn j (by omega) h2)
    have hA := hn i (Nat.le_refl _) (by omega)
    have hle := posL_le B (bytesOf w) i
    rw [posL_succ, bt_getD] at h
    rw [show k + (d + 1) + 1 = (k + d + 1) + 1 by omega]
    clear ih
    generalize k + d + 1 = M at h ⊢
    simp only [spec_l04Pasts.l1]
    rw [if_pos (by omega), if_pos (by omega), wrap_nat i (by omega)]
    by_cases e : bt w (i : Int) = B
    · rw [if_pos e] at h ⊢
      rw [if_pos (by omega), if_neg hA, h]
    · rw [if_neg e, List.append_nil] at h
      rw [if_neg e, if_neg hA, h]
theorem spec_l1A (f A B : Int) (w : ByteArray) (hw : w.size ≤ 12) (l : List ByteArray) : ∀ (d i k : Nat) (ps : List Int), i + d = w.size → d < k → ps.length ≤ i → (∃ j, i ≤ j ∧ j < w.size ∧ bt w (j : Int) = A) →
    spec_l04Pasts.l1 k w l ps (i : Int) f A B = some (l, true) := by
  intro d
  induction d with
  | zero =>
    intro i k ps hi hk hp ⟨j, h1, h2, _⟩
    omega
  | succ d ih =>
    intro i k ps hi hk hp ⟨j, h1, h2, h3⟩
    obtain ⟨k, rfl⟩ : ∃ m, k = m + 1 := ⟨k - 1, by omega⟩
    simp only [spec_l04Pasts.l1]
    rw [if_pos (by omega), if_pos (by omega), wrap_nat i (by omega)]
    by_cases eA : bt w (i : Int) = A
    · by_cases e : bt w (i : Int) = B
      · rw [if_pos e, if_pos (by omega), if_pos eA]
      · rw [if_neg e, if_pos eA]
    · have hj : ∃ j, i + 1 ≤ j ∧ j < w.size ∧ bt w (j : Int) = A := ⟨j, by
        by_cases e : i = j
        · subst e; exact absurd h3 eA
        · omega, h2, h3⟩
      by_cases e : bt w (i : Int) = B
      · rw [if_pos e, if_pos (by omega), if_neg eA]
        exact ih (i + 1) k _ (by omega) (by omega) (by simp; omega) hj
      · rw [if_neg e, if_neg eA]
        exact ih (i + 1) k _ (by omega) (by omega) (by omega) hj
/-- One set of places. -/
def setW (A : Int) (x : Nat) : List Int → Nat → List Int → List Int
  | [], _, out => out
  | p :: ps, kk, out => setW A x ps (kk + 1) (if x / 2 ^ kk % 2 = 1 then out.set p.toNat A else out)
theorem setW_len (A : Int) (x : Nat) : ∀ ps kk out, (setW A x ps kk out).length = out.length
  | [], _, _ => rfl
  | p :: ps, kk, out => by
    unfold setW
    rw [setW_len A x ps (kk + 1)]
    split
    · rw [List.length_set]
    · rfl
theorem setW_get (A : Int) (x j : Nat) : ∀ (ps : List Int) (kk : Nat) (out : List Int), j < out.length → (∀ p ∈ ps, 0 ≤ p) →
    ((∃ t, ps[t]? = some (j : Int) ∧ x / 2 ^ (kk + t) % 2 = 1) ∧ (setW A x ps kk out).getD j 0 = A) ∨ (¬ (∃ t, ps[t]? = some (j : Int) ∧ x / 2 ^ (kk + t) % 2 = 1) ∧ (setW A x ps kk out).getD j 0 = out.getD j 0)
  | [], kk, out, hj, _ => Or.inr ⟨fun ⟨t, h, _⟩ => by simp at h, rfl⟩
  | p :: ps, kk, out, hj, hp => by
    unfold setW
    have h0 := hp p List.mem_cons_self
    have ih := setW_get A x j ps (kk + 1) (if x / 2 ^ kk % 2 = 1 then out.set p.toNat A else out) (by split; rw [List.length_set]; exact hj; exact hj) (fun q hq => hp q (List.mem_cons_of_mem _ hq))
    rcases ih with ⟨⟨t, h1, h2⟩, h3⟩ | ⟨h1, h2⟩
    · exact Or.inl ⟨⟨t + 1, by rw [List.getElem?_cons_succ]; exact h1, by rw [show kk + (t + 1) = kk + 1 + t by omega]; exact h2⟩, h3⟩
    · by_cases e : p = (j : Int) ∧ x / 2 ^ kk % 2 = 1
      · refine Or.inl ⟨⟨0, by rw [e.1]; rfl, e.2⟩, ?_⟩
        rw [h2, if_pos e.2, e.1, Int.toNat_natCast, List.getD_eq_getElem?_getD, List.getElem?_set_self hj]
        rfl
      · refine Or.inr ⟨fun ⟨t, g1, g2⟩ => ?_, ?_⟩
        · cases t with
          | zero =>
            rw [List.getElem?_cons_zero] at g1
            exact e ⟨Option.some.inj g1, g2⟩
          | succ t =>
            rw [List.getElem?_cons_succ] at g1
            exact h1 ⟨t, g1, by rw [show kk + 1 + t = kk + (t + 1) by omega]; exact g2⟩
        · rw [h2]
          by_cases c : x / 2 ^ kk % 2 = 1
          · rw [if_pos c, List.getD_eq_getElem?_getD, List.getElem?_set_ne (fun z => e ⟨by omega, c⟩), List.getD_eq_getElem?_getD]
          · rw [if_neg c]
theorem and_one64 (x : Int) (h₀ : 0 ≤ x) (h₁ : x < 65536) : Go.bits .and .i64 x 1 = x % 2 := by
  have := Go.bits_mask .i64 32 (by decide) (fun n h1 h2 => by simp [IntKind.wrap, IntKind.bits, IntKind.signed]; omega) 1 (by decide) x h₀ (by omega)
  simpa using this
theorem shr_nat (x j : Nat) (hj : j ≤ 64) : shr .i64 (x : Int) (IntKind.u64.wrap (j : Int)) = ((x / 2 ^ j : Nat) : Int) := by
  rw [wrap_u64_id _ (by omega) (by omega)]
  unfold shr
  rw [Int.toNat_natCast, show min j IntKind.i64.bits = j from Nat.min_eq_left hj]
  simp
theorem shl_nat : ∀ p : Nat, p < 9 → shl .i64 1 (IntKind.u64.wrap (p : Int)) = ((2 ^ p : Nat) : Int) := by decide
theorem spec_l3 (f A B : Int) (w : ByteArray) (l : List ByteArray) (x : Nat) (hx : x < 65536) (ps : List Int) (hps : ps.length ≤ 12) : ∀ (d j k : Nat) (out : List Int), j + d = ps.length → (∀ p ∈ ps, 0 ≤ p ∧ p < (out.length : Int)) →
    spec_l04Pasts.l3 (k + d + 1) w l ps (x : Int) out (j : Int) f A B = (spec_l04Put.f k l (strOfNums (setW A x (ps.drop j) j out))).bind fun t => spec_l04Pasts.l2 k w t ps (wrap64 ((x : Int) + 1)) f A B := by
  intro d
  induction d with
  | zero =>
    intro j k out hj hp
    simp only [spec_l04Pasts.l3, Nat.add_zero]
    rw [if_neg (by omega), List.drop_eq_nil_of_le (by omega)]
    rfl
  | succ d ih =>
    intro j k out hj hp
    have hjl : j < ps.length := by omega
    have hdr := drop_rd ps j hjl
    have hb : x / 2 ^ j < 65536 := Nat.lt_of_le_of_lt (Nat.div_le_self _ _) hx
    have hmem : rd ps (j : Int) ∈ ps := by
      have : rd ps (j : Int) ∈ ps.drop j := by rw [hdr]; exact List.mem_cons_self
      exact List.mem_of_mem_drop this
    have hr := hp _ hmem
    have ih2 := fun out => ih (j + 1) k out (by omega)
    rw [hdr, show k + (d + 1) + 1 = (k + d + 1) + 1 by omega]
    clear ih
    generalize k + d + 1 = M at ih2 ⊢
    unfold setW
    simp only [spec_l04Pasts.l3]
    rw [if_pos (by omega), shr_nat x j (by omega)]
    generalize x / 2 ^ j = z at hb ⊢
    rw [and_one64 _ (by omega) (by omega), wrap_u64_id _ (by omega) (by omega), if_pos (by omega), wrap_nat j (by omega)]
    by_cases c : z % 2 = 1
    · rw [if_pos c, if_pos (by omega), if_pos (by omega), if_pos hr.1, if_pos hr.2]
      exact ih2 _ (fun p h => by rw [List.length_set]; exact hp p h)
    · rw [if_neg c, if_neg (by omega)]
      exact ih2 out hp
def wset (A : Int) (w : ByteArray) (ps : List Int) (x : Nat) : ByteArray := strOfNums (setW A x ps 0 (bytesOf w))
theorem spec_l2 (f A B : Int) (w : ByteArray) (hw : w.size ≤ 12) (ps : List Int) (hps : ps.length ≤ 8) (hp : ∀ p ∈ ps, 0 ≤ p ∧ p < (w.size : Int)) : ∀ (d x k q : Nat) (l : List ByteArray), x + d = 2 ^ ps.length → q = d * 20 → q + 1001200 < k → SS l → l.length ≤ x →
    ∃ r, spec_l04Pasts.l2 k w l ps (x : Int) f A B = some (r, decide ((r.length : Int) ≤ 300)) ∧ SS r ∧ (∀ y, y ∈ r ↔ y ∈ l ∨ ∃ z, x ≤ z ∧ z < 2 ^ ps.length ∧ y = wset A w ps z) := by
  have hpow : 2 ^ ps.length ≤ 2 ^ 8 := Nat.pow_le_pow_right (by decide) hps
  intro d
  induction d with
  | zero =>
    intro x k q l hi _ hk hs hl
    obtain ⟨k, rfl⟩ : ∃ m, k = m + 1 := ⟨k - 1, by omega⟩
    simp only [spec_l04Pasts.l2]
    rw [shl_nat _ (by omega), wrap_u64_id _ (by omega) (by omega), if_pos (by omega), if_neg (by omega)]
    exact ⟨l, rfl, hs, fun y => ⟨fun h => Or.inl h, fun h => h.elim id (fun ⟨z, h1, h2, _⟩ => by omega)⟩⟩
  | succ d ih =>
    intro x k q l hi hq hk hs hl
    rw [Nat.succ_mul] at hq
    have ih2 := fun x k l => ih x k (d * 20) l
    clear ih
    generalize d * 20 = q2 at hq ih2
    obtain ⟨k, rfl⟩ : ∃ m, k = m + 1 := ⟨k - 1, by omega⟩
    simp only [spec_l04Pasts.l2]
    rw [shl_nat _ (by omega), wrap_u64_id _ (by omega) (by omega), if_pos (by omega), if_pos (by omega), if_pos (by omega), if_pos (by omega)]
    obtain ⟨k2, hk2⟩ : ∃ k2, k = k2 + ps.length + 1 := ⟨k - ps.length - 1, by omega⟩
    rw [hk2]
    have h := spec_l3 f A B w l x (by omega) ps (by omega) ps.length 0 k2 (bytesOf w) (by omega) (by rw [bytesOf_length]; exact hp)
    rw [show ((0 : Nat) : Int) = 0 from rfl, List.drop_zero] at h
    rw [h, wrap_nat x (by omega)]
    obtain ⟨r, h1, h2, h3, h4⟩ := put_eq l (wset A w ps x) (by omega) hs k2 (by omega)
    rw [show strOfNums (setW A x ps 0 (bytesOf w)) = wset A w ps x from rfl, h1, Option.bind_some]
    obtain ⟨r2, g1, g2, g3⟩ := ih2 (x + 1) k2 r (by omega) rfl (by omega) h2 (by omega)
    refine ⟨r2, g1, g2, fun y => ?_⟩
    rw [g3 y, h3 y]
    constructor
    · rintro ((h | h) | ⟨z, z1, z2, z3⟩)
      · exact Or.inl h
      · exact Or.inr ⟨x, by omega, by omega, h⟩
      · exact Or.inr ⟨z, by omega, z2, z3⟩
    · rintro (h | ⟨z, z1, z2, z3⟩)
      · exact Or.inl (Or.inl h)
      · by_cases e : z = x
        · subst e; exact Or.inl (Or.inr z3)
        · exact Or.inr ⟨z, by omega, z2, z3⟩
theorem bits_of (g : Nat → Bool) : ∀ p, ∃ x, x < 2 ^ p ∧ ∀ k, k < p → (x / 2 ^ k % 2 = 1 ↔ g k = true)
  | 0 => ⟨0, by decide, fun k h => by omega⟩
  | p + 1 => by
    obtain ⟨x, h1, h2⟩ := bits_of g p
    have hpos : 0 < 2 ^ p := Nat.pow_pos (by decide)
    have hlow : ∀ k, k < p → (x + 2 ^ p) / 2 ^ k % 2 = x / 2 ^ k % 2 := by
      intro k hk
      have e : 2 ^ p = 2 ^ k * (2 * 2 ^ (p - k - 1)) := by
        rw [← Nat.mul_assoc, ← Nat.pow_succ, ← Nat.pow_add]
        congr 1
        omega
      rw [e, Nat.add_mul_div_left _ _ (Nat.pow_pos (by decide))]
      omega
    cases hg : g p with
    | true =>
      refine ⟨x + 2 ^ p, by rw [Nat.pow_succ]; omega, fun k hk => ?_⟩
      by_cases e : k < p
      · rw [hlow k e]; exact h2 k e
      · obtain rfl : k = p := by omega
        have : (x + 2 ^ k) / 2 ^ k = 1 := by rw [Nat.add_div_right _ hpos, Nat.div_eq_of_lt h1]
        rw [this, hg]
        simp
    | false =>
      refine ⟨x, by rw [Nat.pow_succ]; omega, fun k hk => ?_⟩
      by_cases e : k < p
      · exact h2 k e
      · obtain rfl : k = p := by omega
        rw [Nat.div_eq_of_lt h1, hg]
        simp

/-! Both are one. -/
theorem bytes_rng (y : ByteArray) : ∀ x ∈ bytesOf y, 0 ≤ x ∧ x ≤ 255 := by
  intro x hx
  unfold bytesOf at hx
  obtain ⟨b, _, rfl⟩ := List.mem_map.1 hx
  have := b.toNat_lt
  omega
theorem getD_mem (s : List Int) (j : Nat) (h : j < s.length) : s.getD j 0 = s[j] := by rw [List.getD_eq_getElem?_getD, List.getElem?_eq_getElem h]; rfl
theorem TLs_rng (A B : Int) (hA : 0 ≤ A ∧ A ≤ 255) (w : ByteArray) (s : List Int) (hs : s ∈ TLs A B (bytesOf w) w.size) : ∀ x ∈ s, 0 ≤ x ∧ x ≤ 255 := by
  intro x hx
  obtain ⟨hl, hj⟩ := (TLs_mem A B (bytesOf w) w.size s).1 hs
  obtain ⟨j, hjl, rfl⟩ := List.mem_iff_getElem.1 hx
  rcases hj j (by omega) with h | ⟨_, h⟩
  · rw [getD_mem s j hjl, getD_mem _ j (by rw [bytesOf_length]; omega)] at h
    rw [h]
    exact bytes_rng w _ (List.getElem_mem _)
  · rw [getD_mem s j hjl] at h
    rw [h]; exact hA
theorem letter_rng {x : Int} (h : letter x = true) : 0 ≤ x ∧ x ≤ 255 := by
  simp only [letter, decide_eq_true_eq] at h
  omega
theorem swap_ok (A B : Int) (hA : letter A = true) (w : ByteArray) (hw : wordOk w = true) (hn : ∀ j, j < w.size → bt w (j : Int) ≠ A) (s : List Int) (hs : s ∈ TLs A B (bytesOf w) w.size) : okP 1 A B w (strOfNums s) = true := by
  have hAr := letter_rng hA
  have hr := TLs_rng A B hAr w s hs
  obtain ⟨hl, hj⟩ := (TLs_mem A B (bytesOf w) w.size s).1 hs
  have hwo := (wordOk_iff w).1 hw
  unfold okP
  rw [Bool.and_eq_true]
  constructor
  · rw [wordOk_iff, strN_size, hl, bytesOf_strOfNums s hr]
    refine ⟨hwo.1, fun x hx => ?_⟩
    obtain ⟨j, hjl, rfl⟩ := List.mem_iff_getElem.1 hx
    rcases hj j (by omega) with h | ⟨_, h⟩
    · rw [getD_mem s j hjl, getD_mem _ j (by rw [bytesOf_length]; omega)] at h
      rw [h]
      exact hwo.2 _ (List.getElem_mem _)
    · rw [getD_mem s j hjl] at h
      rw [h]; exact hA
  · refine decide_eq_true ?_
    unfold hearF
    rw [if_pos rfl, bytesOf_strOfNums s hr]
    have hm : s.map (Go.Proofs.YtgnnpgallnafcaaDoor.H.swap1 A B) = bytesOf w := by
      apply List.ext_getElem
      · rw [List.length_map, hl, bytesOf_length]
      · intro j h1 h2
        rw [List.length_map] at h1
        rw [List.getElem_map]
        have hb : (bytesOf w)[j] = bt w (j : Int) := by rw [← bt_getD, getD_mem _ j h2]
        have hwj := hn j (by omega)
        have hg := getD_mem s j h1
        have hg2 := getD_mem (bytesOf w) j h2
        rw [← hb] at hwj
        unfold Go.Proofs.YtgnnpgallnafcaaDoor.H.swap1
        rcases hj j (by omega) with h | ⟨h3, h4⟩
        · rw [hg, hg2] at h
          rw [h, if_neg hwj]
        · rw [hg] at h4
          rw [hg2] at h3
          rw [if_pos h4, h3]
    rw [hm, strN_bytes]
theorem okP_noA (A B : Int) (hAB : A ≠ B) (hB : 0 ≤ B ∧ B ≤ 255) (w y : ByteArray) (j : Nat) (hj : j < w.size) (h : bt w (j : Int) = A) : okP 1 A B w y = false := by
  cases hc : okP 1 A B w y with
  | false => rfl
  | true =>
    exfalso
    unfold okP at hc
    rw [Bool.and_eq_true, decide_eq_true_eq] at hc
    have h2 := hc.2
    unfold hearF at h2
    rw [if_pos rfl] at h2
    have h3 := congrArg bytesOf h2
    rw [bytesOf_strOfNums _ (fun x hx => by
      obtain ⟨z, hz, rfl⟩ := List.mem_map.1 hx
      unfold Go.Proofs.YtgnnpgallnafcaaDoor.H.swap1
      split
      · exact hB
      · exact bytes_rng y z hz)] at h3
    have hjl : j < (bytesOf w).length := by rw [bytesOf_length]; exact hj
    have hm : A ∈ bytesOf w := by
      rw [← h, ← bt_getD, getD_mem _ j hjl]
      exact List.getElem_mem _
    rw [← h3] at hm
    obtain ⟨z, _, hz⟩ := List.mem_map.1 hm
    unfold Go.Proofs.YtgnnpgallnafcaaDoor.H.swap1 at hz
    split at hz
    · exact hAB hz.symm
    · rename_i e; exact e hz
theorem posL_all (B : Int) (w : ByteArray) : ∀ p ∈ posL B (bytesOf w) w.size, 0 ≤ p ∧ p < (w.size : Int) := by
  intro p hp
  obtain ⟨j, rfl, h1, _⟩ := (posL_mem B (bytesOf w) w.size p).1 hp
  omega
theorem wset_mem (A B : Int) (w : ByteArray) (y : ByteArray) :
    (∃ z, z < 2 ^ (posL B (bytesOf w) w.size).length ∧ y = wset A w (posL B (bytesOf w) w.size) z) ↔ ∃ s, s ∈ TLs A B (bytesOf w) w.size ∧ y = strOfNums s := by
  have hpos : ∀ p ∈ posL B (bytesOf w) w.size, 0 ≤ p := fun p hp => (posL_all B w p hp).1
  have hget := fun x j (hj : j < (bytesOf w).length) => setW_get A x j (posL B (bytesOf w) w.size) 0 (bytesOf w) hj hpos
  have hbl := bytesOf_length w
  constructor
  · rintro ⟨z, hz, rfl⟩
    refine ⟨setW A z (posL B (bytesOf w) w.size) 0 (bytesOf w), ?_, rfl⟩
    rw [TLs_mem, setW_len]
    refine ⟨hbl, fun j hj => ?_⟩
    rcases hget z j (by omega) with ⟨⟨t, h1, _⟩, h2⟩ | ⟨_, h2⟩
    · obtain ⟨j', e, _, h4⟩ := (posL_mem B (bytesOf w) w.size _).1 (List.mem_of_getElem? h1)
      obtain rfl : j = j' := by omega
      exact Or.inr ⟨h4, h2⟩
    · exact Or.inl h2
  · rintro ⟨s, hs, rfl⟩
    obtain ⟨hl, hj⟩ := (TLs_mem A B (bytesOf w) w.size s).1 hs
    obtain ⟨z, hz, hb⟩ := bits_of (fun t => decide (s.getD ((posL B (bytesOf w) w.size).getD t 0).toNat 0 = A)) (posL B (bytesOf w) w.size).length
    refine ⟨z, hz, ?_⟩
    unfold wset
    congr 1
    apply List.ext_getElem
    · rw [setW_len, hl, hbl]
    · intro j h1 h2
      have hw := hget z j (by omega)
      rw [← getD_mem _ j h1, ← getD_mem _ j h2]
      rcases hw with ⟨⟨t, g1, g2⟩, g3⟩ | ⟨g1, g2⟩
      · have htl : t < (posL B (bytesOf w) w.size).length := (List.getElem?_eq_some_iff.1 g1).1
        have := (hb t htl).1 (by simpa using g2)
        rw [decide_eq_true_eq, show (posL B (bytesOf w) w.size).getD t 0 = (j : Int) by rw [List.getD_eq_getElem?_getD, g1]; rfl, Int.toNat_natCast] at this
        rw [g3, this]
      · rw [g2]
        rcases hj j (by omega) with h | ⟨h3, h4⟩
        · exact h
        · exfalso
          have hm : (j : Int) ∈ posL B (bytesOf w) w.size := (posL_mem B (bytesOf w) w.size _).2 ⟨j, rfl, by omega, h3⟩
          obtain ⟨t, htl, ht⟩ := List.mem_iff_getElem.1 hm
          have ht2 : (posL B (bytesOf w) w.size)[t]? = some (j : Int) := by rw [List.getElem?_eq_getElem htl, ht]
          refine g1 ⟨t, ht2, ?_⟩
          rw [Nat.zero_add]
          refine (hb t htl).2 (decide_eq_true ?_)
          rw [show (posL B (bytesOf w) w.size).getD t 0 = (j : Int) by rw [List.getD_eq_getElem?_getD, ht2]; rfl, Int.toNat_natCast]
          exact h4
theorem sorted1_len (l : List ByteArray) (h : l.Nodup) : (sorted1 l).length = l.length :=
  ((List.perm_ext_iff_of_nodup (SS_nodup (sorted1_SS l)) h).2 (sorted1_mem l)).length_eq
theorem both_one (A B : Int) (hA : letter A = true) (hB : letter B = true) (hAB : A ≠ B) (w : ByteArray) (hw : wordOk w = true) (k : Nat) (hk : 1100000 < k) :
    ∃ l b, spec_l04Pasts.f k 1 A B w = some (l, b) ∧ ((b = true ∧ l = pastsR 1 A B w ∧ (pastsR 1 A B w).length ≤ 300) ∨ (b = false ∧ 300 < (pastsR 1 A B w).length)) := by
  have hAr := letter_rng hA
  have hBr := letter_rng hB
  have hsz := wordOk_size w hw
  have hrs := rev_size w
  unfold spec_l04Pasts.f
  obtain ⟨r1, a1, a2, a3, a4⟩ := tried_eq 1 A B hAr [] (by simp) List.Pairwise.nil w w (by omega) k (by omega)
  rw [a1, Option.bind_some, specTurn_eq w (by omega) k (by omega), Option.bind_some]
  obtain ⟨r2, b1, b2, b3, b4⟩ := tried_eq 1 A B hAr r1 (by simp at a4; omega) a2 (strOfNums (bytesOf w).reverse) w (by omega) k (by omega)
  rw [b1, Option.bind_some, wrap64_id _ (by omega) (by omega), if_pos (by omega), if_pos (by omega), show ((w.size : Int) - 1).toNat = w.size - 1 by omega]
  obtain ⟨r3, c1, c2, c3, c4⟩ := tried_eq 1 A B hAr r2 (by simp at a4; omega) b2 (w.extract 0 (w.size - 1)) w (by simp only [ByteArray.size_extract]; omega) k (by omega)
  rw [c1, Option.bind_some, if_neg (by decide)]
  obtain ⟨k, rfl⟩ : ∃ m, k = m + w.size + 2 := ⟨k - w.size - 2, by omega⟩
  rw [show k + w.size + 2 = (k + w.size + 1) + 1 by omega]
  simp only [spec_l04Pasts.j1]
  rw [if_pos trivial]
  by_cases hc : ∃ j, j < w.size ∧ bt w (j : Int) = A
  · obtain ⟨j, hj1, hj2⟩ := hc
    have h := spec_l1A 1 A B w hsz.2 [] w.size 0 (k + w.size + 1) [] (by omega) (by omega) (by simp) ⟨j, Nat.zero_le _, hj1, hj2⟩
    rw [show ((0 : Nat) : Int) = 0 from rfl] at h
    rw [h]
    have he : pastsR 1 A B w = [] := List.eq_nil_iff_forall_not_mem.2 (fun x hx => by
      have := ((pastsR_mem 1 A B w x).1 hx).2
      rw [okP_noA A B hAB hBr w x j hj1 hj2] at this
      exact absurd this (by decide))
    exact ⟨[], true, rfl, Or.inl ⟨rfl, he.symm, by rw [he]; simp⟩⟩
  · have hn : ∀ j, j < w.size → bt w (j : Int) ≠ A := fun j h1 h2 => hc ⟨j, h1, h2⟩
    have h := spec_l1 1 A B hAB w hsz.2 [] w.size 0 k (by omega) (fun j _ h => hn j h)
    rw [show ((0 : Nat) : Int) = 0 from rfl, show posL B (bytesOf w) 0 = [] from rfl] at h
    rw [h]
    have htl : triesL 1 A B w = (TLs A B (bytesOf w) w.size).map strOfNums := by unfold triesL; rw [if_pos rfl]
    have hall : (triesL 1 A B w).filter (okP 1 A B w) = triesL 1 A B w := List.filter_eq_self.2 (fun y hy => by
      rw [htl] at hy
      obtain ⟨s, hs, rfl⟩ := List.mem_map.1 hy
      exact swap_ok A B hA w hw hn s hs)
    by_cases hp : ((posL B (bytesOf w) w.size).length : Int) > 8
    · rw [if_pos hp]
      refine ⟨[], false, rfl, Or.inr ⟨rfl, ?_⟩⟩
      unfold pastsR
      rw [hall, sorted1_len, htl, List.length_map, TLs_pow, ← posL_len]
      · have : 2 ^ 9 ≤ 2 ^ (posL B (bytesOf w) w.size).length := Nat.pow_le_pow_right (by decide) (by omega)
        omega
      · rw [htl]
        unfold List.Nodup
        rw [List.pairwise_map]
        refine List.Pairwise.imp_of_mem (fun {a b} ha hb hab => ?_) (TLs_nodup A B hAB (bytesOf w) w.size)
        intro e
        have e2 := congrArg bytesOf e
        rw [bytesOf_strOfNums a (TLs_rng A B hAr w a ha), bytesOf_strOfNums b (TLs_rng A B hAr w b hb)] at e2
        exact hab e2
    · rw [if_neg hp]
      have hpow : 2 ^ (posL B (bytesOf w) w.size).length ≤ 2 ^ 8 := Nat.pow_le_pow_right (by decide) (by omega)
      have hq : 2 ^ (posL B (bytesOf w) w.size).length * 20 ≤ 2 ^ 8 * 20 := Nat.mul_le_mul_right _ hpow
      obtain ⟨r, e1, e2, e3⟩ := spec_l2 1 A B w hsz.2 (posL B (bytesOf w) w.size) (by omega) (posL_all B w) (2 ^ (posL B (bytesOf w) w.size).length) 0 k _ [] (by omega) rfl (by
        generalize 2 ^ (posL B (bytesOf w) w.size).length * 20 = z at hq
        omega) List.Pairwise.nil (by simp)
      rw [show ((0 : Nat) : Int) = 0 from rfl] at e1
      have hr : r = pastsR 1 A B w := SS_one e2 (sorted1_SS _) (fun y => by
        rw [e3 y]
        unfold pastsR
        rw [sorted1_mem, hall, htl, List.mem_map]
        have hwm := wset_mem A B w y
        constructor
        · rintro (h | ⟨z, _, z2, z3⟩)
          · simp at h
          · obtain ⟨s, s1, s2⟩ := hwm.1 ⟨z, z2, z3⟩
            exact ⟨s, s1, s2.symm⟩
        · rintro ⟨s, s1, s2⟩
          obtain ⟨z, z2, z3⟩ := hwm.2 ⟨s, s1, s2.symm⟩
          exact Or.inr ⟨z, Nat.zero_le _, z2, z3⟩)
      rw [e1, hr]
      by_cases h3 : ((pastsR 1 A B w).length : Int) ≤ 300
      · exact ⟨_, _, rfl, Or.inl ⟨decide_eq_true h3, rfl, by omega⟩⟩
      · exact ⟨_, _, rfl, Or.inr ⟨decide_eq_false h3, by omega⟩⟩
theorem both_eq (f A B : Int) (hAr : 0 ≤ A ∧ A ≤ 255) (hh : habitOk f A B = true) (w : ByteArray) (hw : wordOk w = true) (k : Nat) (hk : 1100000 < k) :
    ∃ l b, spec_l04Pasts.f k f A B w = some (l, b) ∧ ((b = true ∧ l = pastsR f A B w ∧ (pastsR f A B w).length ≤ 300) ∨ (b = false ∧ 300 < (pastsR f A B w).length)) := by
  have hsz := wordOk_size w hw
  by_cases c : f = 1
  · subst c
    unfold habitOk at hh
    rw [if_neg (by decide), if_pos rfl, Bool.and_eq_true, Bool.and_eq_true, decide_eq_true_eq] at hh
    exact both_one A B hh.1.1 hh.1.2 hh.2 w hw k hk
  · rw [both_ne f A B hAr c w hsz.1 hsz.2 k (by omega)]
    by_cases h3 : ((pastsR f A B w).length : Int) ≤ 300
    · exact ⟨_, _, rfl, Or.inl ⟨decide_eq_true h3, rfl, by omega⟩⟩
    · exact ⟨_, _, rfl, Or.inr ⟨decide_eq_false h3, by omega⟩⟩

def habitsOk (l : List S28) : Bool := l.all (fun h => habitOk h.f0 h.f1 h.f2)
def wordsOk (l : List ByteArray) : Bool := l.all wordOk
theorem drop_hab (l : List S28) (i : Nat) (h : i < l.length) : l.drop i = rd_T28 l (i : Int) :: l.drop (i + 1) := by
  rw [drop_getD z28 l i h]; simp [rd_T28]
def codeA (hs : List S28) (ws : List ByteArray) : Int :=
  if habitsOk hs = true ∧ wordsOk ws = true then if hs.length ≤ 30 then if ws.length ≤ 40 then 0 else 3 else 3 else 1
theorem asked_l1 (hs : List S28) (ws : List ByteArray) (hw : ws.length ≤ 2097152) (hb : ∀ s ∈ ws, s.size ≤ 2097152) : ∀ (d i k : Nat), i + d = ws.length → d + 2097152 < k → spec_l04Asked.l1 k hs ws (i : Int) = some (if wordsOk (ws.drop i) = true then if hs.length ≤ 30 then if ws.length ≤ 40 then 0 else 3 else 3 else 1) := by
  intro d
  induction d with
  | zero =>
    intro i k hi hk
    obtain ⟨k, rfl⟩ : ∃ m, k = m + 1 := ⟨k - 1, by omega⟩
    simp only [spec_l04Asked.l1]
    rw [if_neg (by omega), List.drop_eq_nil_of_le (by omega), show wordsOk [] = true from rfl, if_pos rfl]
    by_cases h1 : hs.length ≤ 30
    · by_cases h2 : ws.length ≤ 40
      · rw [if_neg (by omega), if_neg (by omega), if_pos h1, if_pos h2]
      · rw [if_neg (by omega), if_pos (by omega), if_pos h1, if_neg h2]
    · rw [if_pos (by omega), if_neg h1]
  | succ d ih =>
    intro i k hi hk
    obtain ⟨k, rfl⟩ : ∃ m, k = m + 1 := ⟨k - 1, by omega⟩
    have hm : rdOf ByteArray.empty ws (i : Int) ∈ ws := by
      rw [rdS_nat, List.getD_eq_getElem?_getD, List.getElem?_eq_getElem (by omega)]
      exact List.getElem_mem _
    have hsz := hb _ hm
    simp only [spec_l04Asked.l1]
    rw [if_pos (by omega), if_pos (by omega), l04Word_eq _ (by omega) k (by omega), Option.bind_some, wrap_nat i (by omega), ih (i + 1) k (by omega) (by omega), drop_rdS ws i (by omega)]
    by_cases h : wordOk (rdOf ByteArray.empty ws (i : Int)) = true <;> simp [wordsOk, h]
theorem asked_l0 (hs : List S28) (ws : List ByteArray) (hh : hs.length ≤ 1048576) (hw : ws.length ≤ 2097152) (hb : ∀ s ∈ ws, s.size ≤ 2097152) : ∀ (d i k : Nat), i + d = hs.length → d + 4194310 < k → spec_l04Asked.l0 k hs ws (i : Int) = some (if habitsOk (hs.drop i) = true ∧ wordsOk ws = true then if hs.length ≤ 30 then if ws.length ≤ 40 then 0 else 3 else 3 else 1) := by
  intro d
  induction d with
  | zero =>
    intro i k hi hk
    obtain ⟨k, rfl⟩ : ∃ m, k = m + 1 := ⟨k - 1, by omega⟩
    have h := asked_l1 hs ws hw hb ws.length 0 k (by omega) (by omega)
    rw [show ((0 : Nat) : Int) = 0 from rfl, List.drop_zero] at h
    simp only [spec_l04Asked.l0]
    rw [if_neg (by omega), List.drop_eq_nil_of_le (by omega), h]
    simp [habitsOk]
  | succ d ih =>
    intro i k hi hk
    obtain ⟨k, rfl⟩ : ∃ m, k = m + 1 := ⟨k - 1, by omega⟩
    simp only [spec_l04Asked.l0]
    rw [if_pos (by omega), if_pos (by omega), l04Habit_eq _ _ _ k (by omega), Option.bind_some, wrap_nat i (by omega), ih (i + 1) k (by omega) (by omega), drop_hab hs i (by omega)]
    by_cases h : habitOk (rd_T28 hs (i : Int)).f0 (rd_T28 hs (i : Int)).f1 (rd_T28 hs (i : Int)).f2 = true <;> simp [habitsOk, h]
theorem asked_eq (hs : List S28) (ws : List ByteArray) (hh : hs.length ≤ 1048576) (hw : ws.length ≤ 2097152) (hb : ∀ s ∈ ws, s.size ≤ 2097152) (k : Nat) (hk : 5242890 < k) : spec_l04Asked.f k hs ws = some (codeA hs ws) := by
  unfold spec_l04Asked.f codeA
  have h := asked_l0 hs ws hh hw hb hs.length 0 k (by omega) (by omega)
  rw [show ((0 : Nat) : Int) = 0 from rfl, List.drop_zero] at h
  exact h
theorem findH_l0 (l : List S28) (hl : l.length ≤ 1048576) : ∀ (d i k : Nat), i + d = l.length → d < k → ∃ r : Int, slices_IndexFunc_Habit_at_chainCode_1.l0 k l (l.length : Int) (i : Int) = some r ∧ decide (r ≥ 0) = !habitsOk (l.drop i) := by
  intro d
  induction d with
  | zero =>
    intro i k hi hk
    obtain ⟨k, rfl⟩ : ∃ m, k = m + 1 := ⟨k - 1, by omega⟩
    refine ⟨-1, ?_, ?_⟩
    · simp only [slices_IndexFunc_Habit_at_chainCode_1.l0]
      rw [if_neg (by omega)]
    · rw [List.drop_eq_nil_of_le (by omega)]; simp [habitsOk]
  | succ d ih =>
    intro i k hi hk
    obtain ⟨k, rfl⟩ : ∃ m, k = m + 1 := ⟨k - 1, by omega⟩
    simp only [slices_IndexFunc_Habit_at_chainCode_1.l0, impl_chainCode_1.f]
    rw [if_pos (by omega), if_pos (by omega), if_pos (by omega), validHabit_eq, Option.bind_some, Option.bind_some, drop_hab l i (by omega), wrap_nat i (by omega)]
    by_cases h : habitOk (rd_T28 l (i : Int)).f0 (rd_T28 l (i : Int)).f1 (rd_T28 l (i : Int)).f2 = true
    · obtain ⟨r, h1, h2⟩ := ih (i + 1) k (by omega) (by omega)
      refine ⟨r, by rw [if_neg (by simp [h])]; exact h1, ?_⟩
      rw [h2]; simp [habitsOk, h]
    · refine ⟨(i : Int), by rw [if_pos (by simpa using h)], ?_⟩
      simp only [habitsOk, List.all_cons, Bool.eq_false_iff.2 h, Bool.false_and, Bool.not_false]
      exact decide_eq_true (by omega)
theorem findW_l0 (l : List ByteArray) (hl : l.length ≤ 2097153) (hb : ∀ s ∈ l, s.size ≤ 2097152) : ∀ (d i k : Nat), i + d = l.length → d + 2097152 < k → ∃ r : Int, slices_IndexFunc_Sstring_string_at_chainCode_2.l0 k l (l.length : Int) (i : Int) = some r ∧ decide (r ≥ 0) = !wordsOk (l.drop i) := by
  intro d
  induction d with
  | zero =>
    intro i k hi hk
    obtain ⟨k, rfl⟩ : ∃ m, k = m + 1 := ⟨k - 1, by omega⟩
    refine ⟨-1, ?_, ?_⟩
    · simp only [slices_IndexFunc_Sstring_string_at_chainCode_2.l0]
      rw [if_neg (by omega)]
    · rw [List.drop_eq_nil_of_le (by omega)]; simp [wordsOk]
  | succ d ih =>
    intro i k hi hk
    obtain ⟨k, rfl⟩ : ∃ m, k = m + 1 := ⟨k - 1, by omega⟩
    have hm : rdOf ByteArray.empty l (i : Int) ∈ l := by
      rw [rdS_nat, List.getD_eq_getElem?_getD, List.getElem?_eq_getElem (by omega)]
      exact List.getElem_mem _
    have hsz := hb _ hm
    simp only [slices_IndexFunc_Sstring_string_at_chainCode_2.l0, impl_chainCode_2.f]
    rw [if_pos (by omega), if_pos (by omega), if_pos (by omega), isWord_eq _ (by omega) k (by omega), Option.bind_some, Option.bind_some, drop_rdS l i (by omega), wrap_nat i (by omega)]
    by_cases h : wordOk (rdOf ByteArray.empty l (i : Int)) = true
    · obtain ⟨r, h1, h2⟩ := ih (i + 1) k (by omega) (by omega)
      refine ⟨r, by rw [if_neg (by simp [h])]; exact h1, ?_⟩
      rw [h2]; simp [wordsOk, h]
    · refine ⟨(i : Int), by rw [if_pos (by simpa using h)], ?_⟩
      simp only [wordsOk, List.all_cons, Bool.eq_false_iff.2 h, Bool.false_and, Bool.not_false]
      exact decide_eq_true (by omega)
def codeH (hs : List S28) (ws : List ByteArray) : Int :=
  if habitsOk hs = true ∧ wordsOk ws = true then if hs.length ≤ 30 then 0 else 3 else 1
theorem chainCode_eq (hs : List S28) (ws : List ByteArray) (hh : hs.length ≤ 1048576) (hw : ws.length ≤ 2097153) (hb : ∀ s ∈ ws, s.size ≤ 2097152) (k : Nat) (hk : 5242890 < k) : impl_chainCode.f k hs ws = some (codeH hs ws) := by
  unfold impl_chainCode.f codeH slices_ContainsFunc_Habit_at_chainCode_1.f slices_IndexFunc_Habit_at_chainCode_1.f slices_ContainsFunc_Sstring_string_at_chainCode_2.f slices_IndexFunc_Sstring_string_at_chainCode_2.f impl_unless.f
  obtain ⟨r, h1, h2⟩ := findH_l0 hs hh hs.length 0 k (by omega) (by omega)
  obtain ⟨q, g1, g2⟩ := findW_l0 ws hw hb ws.length 0 k (by omega) (by omega)
  rw [show ((0 : Nat) : Int) = 0 from rfl] at h1 g1
  rw [List.drop_zero] at h2 g2
  simp only [h1, g1, Option.bind_some, h2, g2]
  by_cases e1 : habitsOk hs = true <;> by_cases e2 : wordsOk ws = true <;> by_cases e3 : hs.length ≤ 30
  all_goals first
    | (have e4 : (hs.length : Int) ≤ 30 := by omega
       simp [e1, e2, e3, e4])
    | (have e4 : ¬ (hs.length : Int) ≤ 30 := by omega
       simp [e1, e2, e3, e4])
theorem len_sub (a b : List ByteArray) (ha : a.Nodup) (hb : b.Nodup) (h : ∀ x ∈ a, x ∈ b) : a.length ≤ b.length := by
  classical
  have hp : (b.filter (fun x => decide (x ∈ a))).Perm a := (List.perm_ext_iff_of_nodup (List.Pairwise.filter _ hb) ha).2 (fun x => by
    rw [List.mem_filter, decide_eq_true_eq]
    exact ⟨fun h => h.2, fun h2 => ⟨h x h2, h2⟩⟩)
  rw [← hp.length_eq]
  exact List.length_filter_le _ _
def pR (x : S28) (s : ByteArray) : List ByteArray := pastsR x.f0 x.f1 x.f2 s
def stepR (x : S28) (now : List ByteArray) : List ByteArray := sorted1 (now.flatMap (pR x))
def foldR : List S28 → List ByteArray → List ByteArray × Int
  | [], now => (now, 0)
  | x :: r, now => if 300 < (stepR x now).length then ([], 3) else foldR r (stepR x now)
def okH (x : S28) : Prop := habitOk x.f0 x.f1 x.f2 = true ∧ (0 ≤ x.f1 ∧ x.f1 ≤ 255) ∧ (0 ≤ x.f2 ∧ x.f2 ≤ 255)
theorem pR_ok (x : S28) (s y : ByteArray) (h : y ∈ pR x s) : wordOk y = true := by
  have := ((pastsR_mem x.f0 x.f1 x.f2 s y).1 h).2
  unfold okP at this
  rw [Bool.and_eq_true] at this
  exact this.1
theorem stepR_ok (x : S28) (now : List ByteArray) : ∀ y ∈ stepR x now, wordOk y = true := by
  intro y hy
  unfold stepR at hy
  rw [sorted1_mem, List.mem_flatMap] at hy
  obtain ⟨s, _, h⟩ := hy
  exact pR_ok x s y h
theorem spec_fl2 (hs : List S28) (now : List ByteArray) (x8 x10 : Int) (more : List ByteArray) (hm : more.length ≤ 300) : ∀ (d j k : Nat) (acc : List ByteArray), j + d = more.length → 1100000 < k → SS acc → acc.length ≤ 100000 + j →
    ∃ acc', spec_FirstWords.l2 (k + d + 1) hs now x8 acc x10 more (j : Int) = spec_FirstWords.l1 k hs now x8 acc' (wrap64 (x10 + 1)) ∧ SS acc' ∧ (∀ y, y ∈ acc' ↔ y ∈ acc ∨ y ∈ more.drop j) ∧ acc'.length ≤ acc.length + d := by
  intro d
  induction d with
  | zero =>
    intro j k acc hj hk hs1 ha
    refine ⟨acc, ?_, hs1, fun y => ?_, by omega⟩
    · simp only [spec_FirstWords.l2, Nat.add_zero]
      rw [if_neg (by omega)]
    · rw [List.drop_eq_nil_of_le (by omega)]; simp
  | succ d ih =>
    intro j k acc hj hk hs1 ha
    have hjl : j < more.length := by omega
    have hd := drop_rdS more j hjl
    obtain ⟨r, e1, e2, e3, e4⟩ := put_eq acc (rdOf ByteArray.empty more (j : Int)) (by omega) hs1 (k + d + 1) (by omega)
    obtain ⟨acc', g1, g2, g3, g4⟩ := ih (j + 1) k r (by omega) hk e2 (by omega)
    refine ⟨acc', ?_, g2, fun y => ?_, by omega⟩
    · rw [show k + (d + 1) + 1 = (k + d + 1) + 1 by omega]
      clear ih
      generalize k + d + 1 = M at e1 g1 ⊢
      simp only [spec_FirstWords.l2]
      rw [if_pos (by omega), if_pos (by omega), e1, Option.bind_some, wrap_nat j (by omega)]
      exact g1
    · rw [g3 y, e3 y, hd, List.mem_cons]
      constructor
      · rintro ((h | h) | h)
        · exact Or.inl h
        · exact Or.inr (Or.inl h)
        · exact Or.inr (Or.inr h)
      · rintro (h | h | h)
        · exact Or.inl (Or.inl h)
        · exact Or.inl (Or.inr h)
        · exact Or.inr h
theorem spec_fl1 (hs : List S28) (i : Nat) (hi : i < hs.length) (hil : hs.length ≤ 30) (hx : okH (rd_T28 hs (i : Int))) (rest : List S28) (q0 : Nat) (hrec : ∀ k now, q0 + 1200000 < k → (∀ s ∈ now, wordOk s = true) → now.length ≤ 300 → spec_FirstWords.l0 k hs now ((i : Int) - 1) = some (foldR rest now))
    (now : List ByteArray) (hn : now.length ≤ 300) (hok : ∀ s ∈ now, wordOk s = true) : ∀ (d j k q : Nat) (acc : List ByteArray), j + d = now.length → q = d * 400 → q0 + q + 1200010 < k → SS acc → acc.length ≤ j * 300 → (∀ y, y ∈ acc ↔ y ∈ (now.take j).flatMap (pR (rd_T28 hs (i : Int)))) →
    spec_FirstWords.l1 k hs now (i : Int) acc (j : Int) = some (foldR (rd_T28 hs (i : Int) :: rest) now) := by
  intro d
  induction d with
  | zero =>
    intro j k q acc hj _ hk hs1 ha hm
    obtain ⟨k, rfl⟩ : ∃ m, k = m + 1 := ⟨k - 1, by omega⟩
    have ha2 : acc = stepR (rd_T28 hs (i : Int)) now := SS_one hs1 (sorted1_SS _) (fun y => by
      rw [hm y]
      unfold stepR
      rw [sorted1_mem, List.take_of_length_le (by omega)])
    simp only [spec_FirstWords.l1, foldR]
    rw [if_neg (by omega), wrap64_id _ (by omega) (by omega), ← ha2]
    by_cases c : 300 < acc.length
    · rw [if_pos (by omega), if_pos c]
    · rw [if_neg (by omega), if_neg c]
      exact hrec k acc (by omega) (by rw [ha2]; exact stepR_ok _ _) (by omega)
  | succ d ih =>
    intro j k q acc hj hq hk hs1 ha hm
    rw [Nat.succ_mul] at hq
    have ih2 := fun j k acc => ih j k (d * 400) acc
    clear ih
    generalize d * 400 = q2 at hq ih2
    have hjl : j < now.length := by omega
    have hr : rdOf ByteArray.empty now (j : Int) = now[j] := by rw [rdS_nat, List.getD_eq_getElem?_getD, List.getElem?_eq_getElem hjl]; rfl
    have hw := hok now[j] (List.getElem_mem hjl)
    obtain ⟨k, rfl⟩ : ∃ m, k = m + 1 := ⟨k - 1, by omega⟩
    obtain ⟨l, b, e1, e2⟩ := both_eq (rd_T28 hs (i : Int)).f0 (rd_T28 hs (i : Int)).f1 (rd_T28 hs (i : Int)).f2 hx.2.1 hx.1 now[j] hw k (by omega)
    simp only [spec_FirstWords.l1]
    rw [if_pos (by omega), if_pos (by omega), if_pos (by omega), if_pos (by omega), hr, e1, Option.bind_some]
    rcases e2 with ⟨rfl, rfl, h⟩ | ⟨rfl, h⟩
    · rw [if_pos rfl]
      have h2 : (pR (rd_T28 hs (i : Int)) now[j]).length ≤ 300 := h
      obtain ⟨k2, rfl⟩ : ∃ k2, k = k2 + (pR (rd_T28 hs (i : Int)) now[j]).length + 1 := ⟨k - (pR (rd_T28 hs (i : Int)) now[j]).length - 1, by omega⟩
      have hj3 : j * 300 ≤ 300 * 300 := Nat.mul_le_mul_right _ (by omega)
      obtain ⟨acc', g1, g2, g3, g4⟩ := spec_fl2 hs now (i : Int) (j : Int) (pR (rd_T28 hs (i : Int)) now[j]) h2 (pR (rd_T28 hs (i : Int)) now[j]).length 0 k2 acc (by omega) (by omega) hs1 (by omega)
      rw [show ((0 : Nat) : Int) = 0 from rfl] at g1
      refine Eq.trans g1 ?_
      rw [wrap_nat j (by omega)]
      refine ih2 (j + 1) k2 acc' (by omega) rfl (by omega) g2 (by rw [Nat.succ_mul]; omega) (fun y => ?_)
      rw [g3 y, hm y, List.drop_zero, List.take_succ_eq_append_getElem hjl, List.flatMap_append, List.mem_append, List.flatMap_cons, List.flatMap_nil, List.append_nil]
    · rw [if_neg (by simp)]
      simp only [foldR]
      rw [if_pos]
      have h2 : (pR (rd_T28 hs (i : Int)) now[j]).length ≤ (stepR (rd_T28 hs (i : Int)) now).length := len_sub _ _ (SS_nodup (sorted1_SS _)) (SS_nodup (sorted1_SS _)) (fun y hy => by
        unfold stepR
        rw [sorted1_mem, List.mem_flatMap]
        exact ⟨_, List.getElem_mem hjl, hy⟩)
      have h3 : 300 < (pR (rd_T28 hs (i : Int)) now[j]).length := h
      omega
theorem take_hab (hs : List S28) (i : Nat) (h : i < hs.length) : (hs.take (i + 1)).reverse = rd_T28 hs (i : Int) :: (hs.take i).reverse := by
  rw [take_getD z28 hs i h, List.reverse_append]
  simp [rd_T28]
theorem spec_fl0 (C : Nat) (hC : C = 130000) (hs : List S28) (hil : hs.length ≤ 30) (hx : ∀ x ∈ hs, okH x) : ∀ (d k q : Nat) (now : List ByteArray), d ≤ hs.length → q = d * C → q + 1200010 < k → (∀ s ∈ now, wordOk s = true) → now.length ≤ 300 →
    spec_FirstWords.l0 k hs now ((d : Int) - 1) = some (foldR (hs.take d).reverse now) := by
  intro d
  induction d with
  | zero =>
    intro k q now hd _ hk hok hn
    obtain ⟨k, rfl⟩ : ∃ m, k = m + 1 := ⟨k - 1, by omega⟩
    simp only [spec_FirstWords.l0]
    rw [if_neg (by omega)]
    rfl
  | succ d ih =>
    intro k q now hd hq hk hok hn
    rw [Nat.succ_mul] at hq
    have ih2 := fun k now => ih k (d * C) now
    clear ih
    generalize d * C = q2 at hq ih2
    obtain ⟨k, rfl⟩ : ∃ m, k = m + 1 := ⟨k - 1, by omega⟩
    have hmem : rd_T28 hs (d : Int) ∈ hs := by
      have : rd_T28 hs (d : Int) ∈ (hs.take (d + 1)).reverse := by rw [take_hab hs d (by omega)]; exact List.mem_cons_self
      exact List.mem_of_mem_take (List.mem_reverse.1 this)
    obtain ⟨z, hz⟩ : ∃ z, z = now.length * 400 := ⟨_, rfl⟩
    have hn4 : z ≤ 120000 := by omega
    obtain ⟨q3, hq3⟩ : ∃ q3, q3 = q2 + 10 := ⟨_, rfl⟩
    have h1 := spec_fl1 hs d (by omega) hil (hx _ hmem) (hs.take d).reverse q3 (fun k now hk h1 h2 => ih2 k now (by omega) rfl (by omega) h1 h2) now hn hok now.length 0 k z [] (by omega) hz (by clear hz; omega) List.Pairwise.nil (by simp) (fun y => by simp)
    simp only [spec_FirstWords.l0]
    rw [show (((d + 1 : Nat) : Int) - 1) = (d : Int) by omega, if_pos (by omega), take_hab hs d (by omega)]
    exact h1

def cvHabit (x : S24) : S28 := ⟨x.f0, x.f1, x.f2⟩
theorem toHabitS_l0 (l : List S24) (hl : l.length ≤ 1048576) : ∀ (d i k : Nat), i + d = l.length → d < k → laws_toHabitS.l0 k l ((l.map cvHabit).take i ++ List.replicate d z28) (i : Int) = some (l.map cvHabit) := by
  intro d
  induction d with
  | zero =>
    intro i k hi hk
    obtain ⟨k, rfl⟩ : ∃ m, k = m + 1 := ⟨k - 1, by omega⟩
    simp only [laws_toHabitS.l0]
    rw [if_neg (by omega), List.take_of_length_le (by simp; omega)]
    simp
  | succ d ih =>
    intro i k hi hk
    obtain ⟨k, rfl⟩ : ∃ m, k = m + 1 := ⟨k - 1, by omega⟩
    have hlen : (((l.map cvHabit).take i ++ List.replicate (d + 1) z28).length : Int) = l.length := by simp; omega
    have hg : (l.map cvHabit).getD i z28 = cvHabit (rd_T24 l (i : Int)) := by
      simp [rd_T24, List.getD_eq_getElem?_getD, List.getElem?_map, List.getElem?_eq_getElem (show i < l.length by omega)]
    have hstep := set_rep ((l.map cvHabit).take i) i d z28 (cvHabit (rd_T24 l (i : Int))) (by simp; omega)
    rw [← hg, ← take_getD z28 (l.map cvHabit) i (by simp; omega), hg] at hstep
    simp only [laws_toHabitS.l0, laws_toHabit.f, Option.bind_some]
    rw [if_pos (by omega), if_pos (by omega), if_pos (by rw [hlen]; omega), wrap_nat i (by omega), Int.toNat_natCast]
    exact (congrArg (fun o => laws_toHabitS.l0 k l o ((i + 1 : Nat) : Int)) hstep).trans (ih (i + 1) k (by omega) (by omega))
theorem toHabitS_eq (l : List S24) (hl : l.length ≤ 1048576) (k : Nat) (hk : l.length < k) : laws_toHabitS.f k l = some (l.map cvHabit) := by
  unfold laws_toHabitS.f
  rw [if_pos (by omega), if_pos (by omega)]
  have := toHabitS_l0 l hl l.length 0 k (by omega) hk
  simpa using this

instance decHabit : DecidableEq S28 := fun x y =>
  if h : x.f0 = y.f0 ∧ x.f1 = y.f1 ∧ x.f2 = y.f2 then isTrue (by obtain ⟨a, b, c⟩ := x; obtain ⟨a', b', c'⟩ := y; simp only at h; rw [h.1, h.2.1, h.2.2]) else isFalse (fun e => h (by rw [e]; exact ⟨rfl, rfl, rfl⟩))
theorem eqHabit_eq (x y : S28) : laws_eqHabit.f x.f0 x.f1 x.f2 y.f0 y.f1 y.f2 = some (decide (x = y)) := by
  obtain ⟨a, b, c⟩ := x
  obtain ⟨a', b', c'⟩ := y
  unfold laws_eqHabit.f
  by_cases h1 : a = a' <;> by_cases h2 : b = b' <;> by_cases h3 : c = c' <;> simp [h1, h2, h3]
theorem eqHabitS_l0 (a b : List S28) (hab : a.length = b.length) (hl : a.length ≤ 1048576) : ∀ (d i k : Nat), i + d = a.length → d < k → laws_eqHabitS.l0 k a b (i : Int) = some (decide (a.drop i = b.drop i)) := by
  intro d
  induction d with
  | zero =>
    intro i k hi hk
    obtain ⟨k, rfl⟩ : ∃ m, k = m + 1 := ⟨k - 1, by omega⟩
    simp only [laws_eqHabitS.l0]
    rw [if_neg (by omega), List.drop_eq_nil_of_le (by omega), List.drop_eq_nil_of_le (by omega)]
    simp
  | succ d ih =>
    intro i k hi hk
    obtain ⟨k, rfl⟩ : ∃ m, k = m + 1 := ⟨k - 1, by omega⟩
    have ha : a.drop i = rd_T28 a (i : Int) :: a.drop (i + 1) := by
      rw [drop_getD z28 a i (by omega)]; simp [rd_T28]
    have hb : b.drop i = rd_T28 b (i : Int) :: b.drop (i + 1) := by
      rw [drop_getD z28 b i (by omega)]; simp [rd_T28]
    simp only [laws_eqHabitS.l0]
    rw [if_pos (by omega), if_pos (by omega), if_pos (by omega), ha, hb]
    rw [eqHabit_eq (rd_T28 a (i : Int)) (rd_T28 b (i : Int))]
    simp only [Option.bind_some]
    by_cases e : rd_T28 a (i : Int) = rd_T28 b (i : Int)
    · rw [decide_eq_true e, if_pos rfl, wrap_nat i (by omega), ih (i + 1) k (by omega) (by omega)]
      simp [e]
    · rw [decide_eq_false e, if_neg (by decide)]
      simp [e]
theorem eqHabitS_eq (a b : List S28) (hl : a.length ≤ 1048576) (k : Nat) (hk : a.length < k) : laws_eqHabitS.f k a b = some (decide (a = b)) := by
  unfold laws_eqHabitS.f
  by_cases h : a.length = b.length
  · rw [if_pos (by omega)]
    have := eqHabitS_l0 a b h hl a.length 0 k (by omega) hk
    simpa using this
  · rw [if_neg (by omega)]
    have : a ≠ b := fun e => h (by rw [e])
    simp [this]

theorem szHabitS_eq (l : List S24) (a : Int) (h0 : 0 ≤ a) (h1 : a ≤ 1048576) (hl : l.length ≤ 9223372036854775807) : laws_szHabitS.f l a = some (if a < l.length then -1 else a - l.length) := by
  unfold laws_szHabitS.f
  rw [wrap64_id _ (by omega) (by omega)]
  by_cases h : a < (l.length : Int)
  · rw [if_pos (by omega), if_pos h]
  · rw [if_neg (by omega), if_neg h]

theorem markHab_pos (m : List S28) (hl : m.length ≤ 1048576) : ∀ (d i k : Nat) (x : List S28) (a : Int), x.length = m.length → i + d = m.length → d < k → 0 ≤ a → a ≤ 4194304 + 3 * (i : Int) → ∃ v, laws_markHabitS.l0 k x a (i : Int) = some v ∧ 0 ≤ v.1 := by
  intro d
  induction d with
  | zero =>
    intro i k x a hx hi hk ha _
    obtain ⟨k, rfl⟩ : ∃ m, k = m + 1 := ⟨k - 1, by omega⟩
    simp only [laws_markHabitS.l0]
    rw [if_neg (by omega)]
    exact ⟨_, rfl, ha⟩
  | succ d ih =>
    intro i k x a hx hi hk ha h3
    obtain ⟨k, rfl⟩ : ∃ m, k = m + 1 := ⟨k - 1, by omega⟩
    simp only [laws_markHabitS.l0, Option.bind_some]
    rw [if_pos (by omega), if_pos (by omega), wrap_nat i (by omega)]
    have w1 : wrap64 (a + 1) = a + 1 := wrap64_id _ (by omega) (by omega)
    have w2 : wrap64 (a + 1 + 1) = a + 1 + 1 := wrap64_id _ (by omega) (by omega)
    have w3 : wrap64 (a + 1 + 1 + 1) = a + 1 + 1 + 1 := wrap64_id _ (by omega) (by omega)
    rw [w1, w2, w3]
    exact ih (i + 1) k _ _ (by simp [hx]) (by omega) (by omega) (by omega) (by omega)
theorem markHab_eq (m : List S28) (hl : m.length ≤ 1048576) (k : Nat) (hk : m.length < k) : ∃ v, laws_markHabitS.f k m 1 = some v ∧ 0 ≤ v.1 := by
  unfold laws_markHabitS.f
  have := markHab_pos m hl m.length 0 k m 1 rfl (by omega) hk (by decide) (by omega)
  exact this
def habR (h : S28) : Prop := (0 ≤ h.f1 ∧ h.f1 ≤ 255) ∧ (0 ≤ h.f2 ∧ h.f2 ≤ 255)
theorem cvH_rng (l : List S24) (hw : ∀ x ∈ l, ((Lit.int .i8 x.f0).wf = true) ∧ ((Lit.int .u8 x.f1).wf = true) ∧ ((Lit.int .u8 x.f2).wf = true)) : ∀ h ∈ l.map cvHabit, habR h := by
  intro r hr
  obtain ⟨x, hx, rfl⟩ := List.mem_map.1 hr
  obtain ⟨_, h1, h2⟩ := hw x hx
  exact ⟨wf_u8 h1, wf_u8 h2⟩
theorem codeA_one (hs : List S28) (w : ByteArray) : codeA hs [w] = codeH hs [w] := by
  unfold codeA codeH
  by_cases a : habitsOk hs = true ∧ wordsOk [w] = true
  · rw [if_pos a, if_pos a]
    by_cases b : hs.length ≤ 30
    · rw [if_pos b, if_pos b, if_pos (by simp)]
    · rw [if_neg b, if_neg b]
  · rw [if_neg a, if_neg a]
def mtF : Nat → Int → ByteArray → ByteArray
  | 0, _, s => s
  | d + 1, n, s => if n > 0 then mtF d (Int.tdiv n 10) (strOfNums [(wrap64 (48 + Int.tmod n 10)) % 256] ++ s) else (⟨#[109]⟩ : ByteArray) ++ s
theorem markText_l0 : ∀ (d k : Nat) (n : Int) (s : ByteArray), 0 ≤ n → n ≤ 9223372036854775807 → n < 10 ^ d → d < k → s.size + d ≤ 1000 → laws_markText.l0 k n s = some (mtF (d + 1) n s) := by
  intro d
  induction d with
  | zero =>
    intro k n s h0 h9 h1 hk hs
    obtain ⟨k, rfl⟩ : ∃ m, k = m + 1 := ⟨k - 1, by omega⟩
    have : n = 0 := by simp at h1; omega
    subst this
    simp only [laws_markText.l0, mtF]
    rw [if_neg (by decide), if_pos (by omega), if_neg (by decide)]
  | succ d ih =>
    intro k n s h0 h9 h1 hk hs
    obtain ⟨k, rfl⟩ : ∃ m, k = m + 1 := ⟨k - 1, by omega⟩
    have hz : ∀ x : Int, (strOfNums [x]).size = 1 := fun _ => rfl
    unfold mtF
    simp only [laws_markText.l0, Option.bind_some]
    by_cases h : n > 0
    · have hd : Int.tdiv n 10 = n / 10 := Int.tdiv_eq_ediv_of_nonneg h0
      have hb : n / 10 < 10 ^ d := by
        have e : (10 : Int) ^ (d + 1) = 10 ^ d * 10 := Int.pow_succ 10 d
        rw [e] at h1
        generalize (10 : Int) ^ d = z at h1
        omega
      have hw : wrap64 (Int.tdiv n 10) = Int.tdiv n 10 := by rw [hd]; exact wrap64_id _ (by omega) (by omega)
      rw [if_pos h, if_pos h, if_pos (by rw [hz]; omega), hw]
      exact ih k _ _ (by rw [hd]; omega) (by rw [hd]; omega) (by rw [hd]; exact hb) (by omega) (by rw [ByteArray.size_append, hz]; omega)
    · rw [if_neg h, if_neg h, if_pos (by omega)]
def markT (n : Int) : ByteArray := if n ≤ 0 then ⟨#[109, 48]⟩ else mtF 10 n ⟨#[]⟩
theorem markText_eq (n : Int) (h1 : n < 1000000000) (k : Nat) (hk : 9 < k) : laws_markText.f k n = some (markT n) := by
  unfold laws_markText.f markT
  by_cases h : n ≤ 0
  · rw [if_pos h, if_pos h]
  · rw [if_neg h, if_neg h]
    exact markText_l0 9 k n ⟨#[]⟩ (by omega) (by omega) (by omega) hk (by decide)
def marksT (m : Int) (n : Nat) : List ByteArray := (List.range n).map (fun (j : Nat) => markT (m + (j : Int)))
theorem marksT_length (m : Int) (n : Nat) : (marksT m n).length = n := by simp [marksT]
theorem markStringS_l0 (m : Int) (h0 : 0 ≤ m) (h1 : m ≤ 4194304) (g : List ByteArray) (hl : g.length ≤ 1048576) : ∀ (d i k : Nat), i + d = g.length → d + 10 < k → laws_markStringS.l0 k ((marksT m g.length).take i ++ g.drop i) (m + (i : Int)) (i : Int) = some (m + (g.length : Int), marksT m g.length) := by
  intro d
  induction d with
  | zero =>
    intro i k hi hk
    obtain ⟨k, rfl⟩ : ∃ m, k = m + 1 := ⟨k - 1, by omega⟩
    obtain rfl : i = g.length := by omega
    simp only [laws_markStringS.l0]
    rw [List.drop_eq_nil_of_le (Nat.le_refl _), List.take_of_length_le (by rw [marksT_length]; omega), List.append_nil, if_neg (by rw [marksT_length]; omega)]
  | succ d ih =>
    intro i k hi hk
    obtain ⟨k, rfl⟩ : ∃ m, k = m + 1 := ⟨k - 1, by omega⟩
    have hlen : (((marksT m g.length).take i ++ g.drop i).length : Int) = g.length := by simp [marksT_length]; omega
    have hstep := set_drop ((marksT m g.length).take i) g i (markT (m + (i : Int))) (by simp [marksT_length]; omega) (by omega)
    have hg : (marksT m g.length).getD i ByteArray.empty = markT (m + (i : Int)) := getD_range_map ByteArray.empty _ _ _ (by omega)
    rw [← hg, ← take_getD ByteArray.empty (marksT m g.length) i (by rw [marksT_length]; omega), hg] at hstep
    simp only [laws_markStringS.l0]
    rw [if_pos (by rw [hlen]; omega), markText_eq _ (by omega) k (by omega), Option.bind_some, if_pos (by omega), wrap_nat i (by omega), Int.toNat_natCast, wrap64_id _ (by omega) (by omega), hstep]
    have := ih (i + 1) k (by omega) (by omega)
    rw [show m + ((i + 1 : Nat) : Int) = m + (i : Int) + 1 by omega] at this
    exact this
theorem markStringS_eq (m : Int) (h0 : 0 ≤ m) (h1 : m ≤ 4194304) (g : List ByteArray) (hl : g.length ≤ 1048576) (k : Nat) (hk : g.length + 10 < k) : laws_markStringS.f k g m = some (m + (g.length : Int), marksT m g.length) := by
  unfold laws_markStringS.f
  have := markStringS_l0 m h0 h1 g hl g.length 0 k (by omega) hk
  simpa using this
theorem heldStringS_l0 (m : Int) (h0 : 0 ≤ m) (h1 : m ≤ 4194304) (n : Nat) (hl : n ≤ 1048576) : ∀ (d i k : Nat), i + d = n → d + 10 < k → laws_heldStringS.l0 k (marksT m n) (m + (i : Int)) (i : Int) = some (m + (n : Int)) := by
  intro d
  induction d with
  | zero =>
    intro i k hi hk
    obtain ⟨k, rfl⟩ : ∃ m, k = m + 1 := ⟨k - 1, by omega⟩
    obtain rfl : i = n := by omega
    simp only [laws_heldStringS.l0]
    rw [if_neg (by rw [marksT_length]; omega)]
  | succ d ih =>
    intro i k hi hk
    obtain ⟨k, rfl⟩ : ∃ m, k = m + 1 := ⟨k - 1, by omega⟩
    have hg : rdOf ByteArray.empty (marksT m n) (i : Int) = markT (m + (i : Int)) := by
      rw [rdS_nat]; exact getD_range_map ByteArray.empty _ _ _ (by omega)
    simp only [laws_heldStringS.l0]
    rw [if_pos (by rw [marksT_length]; omega), if_pos (by omega), markText_eq _ (by omega) k (by omega), Option.bind_some, hg, if_pos rfl, wrap_nat i (by omega), wrap64_id _ (by omega) (by omega)]
    have := ih (i + 1) k (by omega) (by omega)
    rw [show m + ((i + 1 : Nat) : Int) = m + (i : Int) + 1 by omega] at this
    exact this
theorem heldStringS_eq (m : Int) (h0 : 0 ≤ m) (h1 : m ≤ 4194304) (n : Nat) (hl : n ≤ 1048576) (k : Nat) (hk : n + 10 < k) : laws_heldStringS.f k (marksT m n) m = some (m + (n : Int)) := by
  unfold laws_heldStringS.f
  have := heldStringS_l0 m h0 h1 n hl n 0 k (by omega) hk
  simpa using this

theorem foldR_len : ∀ (xs : List S28) (now : List ByteArray), now.length ≤ 300 → (foldR xs now).1.length ≤ 300
  | [], now, h => h
  | x :: r, now, h => by
    unfold foldR
    split
    · simp
    · exact foldR_len r _ (by omega)
def fwF (hs : List S28) (w : ByteArray) : List ByteArray × Int := if codeH hs [w] = 0 then foldR hs.reverse [w] else ([], codeH hs [w])
theorem fwF_len (hs : List S28) (w : ByteArray) : (fwF hs w).1.length ≤ 300 := by
  unfold fwF
  split
  · exact foldR_len _ _ (by simp)
  · simp
theorem codeH_ok (hs : List S28) (w : ByteArray) (h : codeH hs [w] = 0) : hs.length ≤ 30 ∧ (∀ x ∈ hs, habitOk x.f0 x.f1 x.f2 = true) ∧ wordOk w = true := by
  unfold codeH at h
  by_cases a : habitsOk hs = true ∧ wordsOk [w] = true
  · rw [if_pos a] at h
    by_cases b : hs.length ≤ 30
    · refine ⟨b, fun x hx => ?_, ?_⟩
      · have := a.1
        unfold habitsOk at this
        exact List.all_eq_true.1 this x hx
      · have := a.2
        unfold wordsOk at this
        exact List.all_eq_true.1 this w (List.mem_singleton.2 rfl)
    · rw [if_neg b] at h; exact absurd h (by decide)
  · rw [if_neg a] at h; exact absurd h (by decide)
theorem specFW_eq (hs : List S28) (hq : hs.length ≤ 1048576) (hr : ∀ h ∈ hs, habR h) (w : ByteArray) (hb : ∀ s ∈ [w], s.size ≤ 2097152) (k : Nat) (hk : 10000000 ≤ k) : spec_FirstWords.f k hs w = some (fwF hs w) := by
  unfold spec_FirstWords.f fwF
  rw [asked_eq hs [w] hq (by simp) hb k (by omega), codeA_one, Option.bind_some]
  by_cases c : codeH hs [w] = 0
  · obtain ⟨c1, c2, c3⟩ := codeH_ok hs w c
    obtain ⟨C, hC⟩ : ∃ C, C = 130000 := ⟨_, rfl⟩
    have hC2 : hs.length * C ≤ 30 * C := Nat.mul_le_mul_right _ c1
    obtain ⟨q, hq2⟩ : ∃ q, q = hs.length * C := ⟨_, rfl⟩
    have h := spec_fl0 C hC hs c1 (fun x hx => ⟨c2 x hx, (hr x hx).1, (hr x hx).2⟩) hs.length k q [w] (Nat.le_refl _) hq2 (by rw [← hq2] at hC2; omega) (fun s hs => by rw [List.mem_singleton] at hs; rw [hs]; exact c3) (by simp)
    rw [if_pos c, if_pos c, wrap64_id _ (by omega) (by omega), h, List.take_length]
  · rw [if_neg c, if_neg c]
theorem goodW_iff (s : ByteArray) : impl_FirstWords.goodW s ↔ wordOk s = true := by
  unfold impl_FirstWords.goodW
  constructor
  · rintro ⟨h1, h2, h3⟩
    rw [wordOk_iff]
    refine ⟨⟨h1, h2⟩, fun x hx => ?_⟩
    obtain ⟨j, hj, rfl⟩ := List.mem_iff_getElem.1 hx
    have hj2 : j < s.size := by rwa [bytesOf_length] at hj
    have := h3 j hj2
    rw [← bt_getD, getD_mem _ j hj] at this
    unfold letter
    exact decide_eq_true this
  · intro h
    have hs := wordOk_size s h
    exact ⟨hs.1, hs.2, fun j hj => wordOk_get s h j hj⟩
theorem fold_one (k : Nat) (m : Int) (hk : 1100000 < k) : ∀ (xs : List S28) (now : List ByteArray), (∀ x ∈ xs, okH x) → (∀ s ∈ now, wordOk s = true) → impl_FirstWords.fold k m xs now = foldR xs now
  | [], _, _, _ => rfl
  | x :: r, now, hx, hn => by
    have h0 := hx x List.mem_cons_self
    have e : impl_FirstWords.step k m x now = stepR x now := by
      unfold impl_FirstWords.step stepR sorted1
      have : ∀ l : List ByteArray, (∀ s ∈ l, wordOk s = true) → impl_FirstWords.cat k m x l = l.flatMap (pR x) := by
        intro l
        induction l with
        | nil => intro _; rfl
        | cons s r ih =>
          intro hl
          have hs := wordOk_size s (hl s List.mem_cons_self)
          have ih2 := ih (fun y hy => hl y (List.mem_cons_of_mem _ hy))
          unfold impl_FirstWords.cat at ih2 ⊢
          rw [List.flatMap_cons, List.flatMap_cons, ih2, implPasts_eq x.f0 x.f1 x.f2 m h0.2.1 h0.2.2 s hs.1 hs.2 k (by omega)]
          rfl
      rw [this now hn]
    unfold impl_FirstWords.fold foldR
    rw [e]
    split
    · rfl
    · exact fold_one k m hk r _ (fun y hy => hx y (List.mem_cons_of_mem _ hy)) (stepR_ok x now)
theorem implFW_eq (hs : List S28) (m : Int) (hq : hs.length ≤ 1048576) (hr : ∀ h ∈ hs, habR h) (w : ByteArray) (hb : ∀ s ∈ [w], s.size ≤ 2097152) (k : Nat) (hk : 10000000 ≤ k) : impl_FirstWords.f k hs w m = some (fwF hs w) := by
  unfold impl_FirstWords.f fwF
  rw [chainCode_eq hs [w] hq (by simp) hb k (by omega), Option.bind_some]
  by_cases c : codeH hs [w] = 0
  · obtain ⟨c1, c2, c3⟩ := codeH_ok hs w c
    have hT : impl_FirstWords.goodW w ∧ impl_FirstWords.T k hs m := by
      refine ⟨(goodW_iff w).2 c3, c1, fun x hx s hs2 => ?_⟩
      have hsw := (goodW_iff s).1 hs2
      have hz := wordOk_size s hsw
      exact ⟨_, implPasts_eq x.f0 x.f1 x.f2 m (hr x hx).1 (hr x hx).2 s hz.1 hz.2 k (by omega), pastsR_len x.f0 x.f1 x.f2 s hz.1 hz.2, fun y hy => (goodW_iff y).2 (pR_ok x s y hy)⟩
    rw [if_pos c, if_pos c, if_pos hT, fold_one k m (by omega) hs.reverse [w] (fun x hx => ⟨c2 x (List.mem_reverse.1 hx), (hr x (List.mem_reverse.1 hx)).1, (hr x (List.mem_reverse.1 hx)).2⟩) (fun s hs => by rw [List.mem_singleton] at hs; rw [hs]; exact c3)]
  · rw [if_neg c, if_neg c]
theorem main : laws_FnExactFirstWords.Pure := by
  intro l w m hl hw
  refine rounds_of 20000000 fun k hk => ?_
  unfold laws_FnExactFirstWords.f
  by_cases h : (w.size : Int) > 1048576
  · rw [if_pos h]
  · rw [if_neg h]
    · rw [szHabitS_eq l 1048576 (by decide) (by decide) hl.1, Option.bind_some]
      by_cases hm : (1048576 : Int) < (l.length : Int)
      · rw [if_pos hm, if_pos (by decide)]
      · have hq : (l.map cvHabit).length ≤ 1048576 := by rw [List.length_map]; omega
        have hr := cvH_rng l hl.2
        rw [if_neg hm, if_neg (by omega), toHabitS_eq l (by omega) k (by omega)]
        simp only [Option.bind_some]
        generalize hg : l.map cvHabit = hs at hq hr
        have hb : ∀ s ∈ [w], s.size ≤ 2097152 := by
          intro s hs; simp at hs
          subst hs; omega
        rw [specFW_eq hs hq hr w hb k (by omega), implFW_eq hs m hq hr w hb k (by omega)]
        simp only [Option.bind_some]
        have hfl := fwF_len hs w
        rw [eqStringS_eq _ _ (by omega) k (by omega)]
        simp only [Option.bind_some, decide_true, if_true]
        obtain ⟨k, rfl⟩ : ∃ m, k = m + 3 := ⟨k - 3, by omega⟩
        obtain ⟨u, hu, hu0⟩ := markHab_eq hs hq (k + 2) (by omega)
        simp only [laws_FnExactFirstWords.j0]
        rw [if_neg (by simp), toHabitS_eq l (by omega) _ (by omega), hg]
        simp only [Option.bind_some]
        rw [eqHabitS_eq hs hs hq _ (by omega)]
        simp only [Option.bind_some, decide_true, if_true]
        rw [hu]
        simp only [Option.bind_some]
        rw [if_neg (by omega), eqStringS_eq _ _ (by omega) _ (by omega)]
        simp only [Option.bind_some, decide_true, if_true, laws_FnExactFirstWords.j1]
        rw [if_neg (by simp), markStringS_eq 1 (by decide) (by decide) _ (by omega) _ (by omega)]
        simp only [Option.bind_some]
        rw [heldStringS_eq 1 (by decide) (by decide) _ (by omega) _ (by omega)]
        simp only [Option.bind_some]
        rw [if_neg (by omega), if_pos trivial, toHabitS_eq l (by omega) _ (by omega), hg]
        simp only [Option.bind_some]
        rw [implFW_eq hs m hq hr w hb _ (by omega)]
        simp only [Option.bind_some]
        rw [eqStringS_eq _ _ (by omega) _ (by omega)]
        simp only [Option.bind_some, decide_true, if_true, laws_FnExactFirstWords.j2]
        rw [if_neg (by simp), heldStringS_eq 1 (by decide) (by decide) _ (by omega) _ (by omega)]
        simp only [Option.bind_some]
        rw [if_neg (by omega), if_pos trivial]

end Go.Proofs.YtgnnpgallnafcaaDoor.PureFnExactFirstWords
namespace Go.Proofs.YtgnnpgallnafcaaDoor.Pure
theorem FnExactFirstWords : Go.Proofs.YtgnnpgallnafcaaDoor.P.laws_FnExactFirstWords.Pure := Go.Proofs.YtgnnpgallnafcaaDoor.PureFnExactFirstWords.main
end Go.Proofs.YtgnnpgallnafcaaDoor.Pure
