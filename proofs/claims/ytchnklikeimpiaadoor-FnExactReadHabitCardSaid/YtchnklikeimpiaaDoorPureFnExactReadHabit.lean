/- For every text of at most 2^20 bytes the program's ReadHabit returns the reference's habit and code; no condition. -/
import Derived.Test.YtchnklikeimpiaaDoorP9
import Derived.Laws.BitsLemmas
import Derived.Lib.SplitLaws
namespace Go.Proofs.YtchnklikeimpiaaDoor.PureFnExactReadHabit
open Go.RowKit Go.Proofs.YtchnklikeimpiaaDoor.P Go.Proofs.YtchnklikeimpiaaDoorW.PrintWords Go.Proofs.YtchnklikeimpiaaDoorW.PrintLast
set_option linter.unusedSimpArgs false
set_option linter.unusedVariables false

theorem wrap64_id (x : Int) (h0 : -9223372036854775808 ≤ x) (h1 : x ≤ 9223372036854775807) : wrap64 x = x := by unfold wrap64; omega
theorem wrap_nat (n : Nat) (h : n < 4611686018427387904) : wrap64 ((n : Int) + 1) = ((n + 1 : Nat) : Int) := by
  rw [wrap64_id _ (by omega) (by omega)]; omega
theorem rounds_of (B : Nat) {α : Type} {F : Nat → Option α} {v : α} (h : ∀ k, B ≤ k → F k = some v) : ∃ k, F k = some v := ⟨B, h B (Nat.le_refl _)⟩

def letter (c : Int) : Bool := decide (97 ≤ c ∧ c ≤ 122)
theorem l04Letter_eq (c : Int) : spec_l04Letter.f c = some (letter c) := by
  unfold spec_l04Letter.f letter
  by_cases h : 97 ≤ c
  · rw [if_pos (by omega)]; simp [h]
  · rw [if_neg (by omega)]; simp [h]
theorem isLetter_eq (c : Int) : impl_isLetter.f c = some (letter c) := by
  unfold impl_isLetter.f letter
  by_cases h : 97 ≤ c
  · rw [if_pos (by omega)]; simp [h]
  · rw [if_neg (by omega)]; simp [h]
def habitOk (t a b : Int) : Bool :=
  if t = 0 ∨ t = 3 then decide (a = 0) && decide (b = 0) else if t = 1 then letter a && letter b && decide (a ≠ b) else if t = 2 ∨ t = 4 then letter a && decide (b = 0) else false
theorem l04Habit_eq (t a b : Int) (k : Nat) (hk : 0 < k) : spec_l04Habit.f k t a b = some (habitOk t a b) := by
  obtain ⟨k, rfl⟩ : ∃ m, k = m + 1 := ⟨k - 1, by omega⟩
  unfold spec_l04Habit.f habitOk
  simp only [spec_l04Habit.j0, l04Letter_eq, Option.bind_some]
  by_cases h0 : t = 0
  · subst h0
    by_cases ha : a = 0 <;> simp [ha] <;> rfl
  · by_cases h3 : t = 3
    · subst h3
      by_cases ha : a = 0 <;> simp [ha] <;> rfl
    · by_cases h1 : t = 1
      · subst h1
        by_cases la : letter a = true <;> by_cases lb : letter b = true <;> simp [la, lb] <;> rfl
      · by_cases h2 : t = 2
        · subst h2
          by_cases la : letter a = true <;> simp [la] <;> rfl
        · by_cases h4 : t = 4
          · subst h4
            by_cases la : letter a = true <;> simp [la] <;> rfl
          · simp [h0, h1, h2, h3, h4]
theorem validHabit_eq (t a b : Int) : impl_ValidHabit.f t a b = some (habitOk t a b) := by
  unfold impl_ValidHabit.f habitOk
  simp only [isLetter_eq, Option.bind_some]
  by_cases h0 : t = 0
  · subst h0
    by_cases ha : a = 0 <;> simp [ha] <;> rfl
  · by_cases h3 : t = 3
    · subst h3
      by_cases ha : a = 0 <;> simp [ha] <;> rfl
    · by_cases h1 : t = 1
      · subst h1
        by_cases la : letter a = true <;> by_cases lb : letter b = true <;> simp [la, lb] <;> rfl
      · by_cases h2 : t = 2
        · subst h2
          by_cases la : letter a = true <;> simp [la] <;> rfl
        · by_cases h4 : t = 4
          · subst h4
            by_cases la : letter a = true <;> simp [la] <;> rfl
          · simp [h0, h1, h2, h3, h4]

theorem cat_assoc (a b c : ByteArray) : a ++ b ++ c = a ++ (b ++ c) := ByteArray.append_assoc
theorem specText_eq (t a b : Int) (h : habitOk t a b = true) : spec_l04Text.f t a b = some (Go.Proofs.YtchnklikeimpiaaDoor.H.putB (Go.Proofs.YtchnklikeimpiaaDoor.H.putB (Go.Proofs.YtchnklikeimpiaaDoor.H.kindName t) a) b) ∧ 0 ≤ t ∧ t < 5 := by
  have s1 : ∀ x : Int, (strOfNums [x]).size = 1 := fun _ => rfl
  have e1 : (⟨#[115, 119, 97, 112, 32]⟩ : ByteArray) = ⟨#[115, 119, 97, 112]⟩ ++ ⟨#[32]⟩ := rfl
  have e2 : (⟨#[100, 114, 111, 112, 32]⟩ : ByteArray) = ⟨#[100, 114, 111, 112]⟩ ++ ⟨#[32]⟩ := rfl
  have e4 : (⟨#[116, 117, 114, 110, 32]⟩ : ByteArray) = ⟨#[116, 117, 114, 110]⟩ ++ ⟨#[32]⟩ := rfl
  have hl : ∀ x, letter x = true → x ≠ 0 := by
    intro x hx e
    subst e
    exact absurd hx (by decide)
  unfold habitOk at h
  unfold spec_l04Text.f Go.Proofs.YtchnklikeimpiaaDoor.H.putB Go.Proofs.YtchnklikeimpiaaDoor.H.kindName
  simp only [Option.bind_some, s1]
  by_cases h0 : t = 0
  · subst h0
    simp only [true_or, if_true, Bool.and_eq_true, decide_eq_true_eq] at h
    simp [h.1, h.2]
  · by_cases h3 : t = 3
    · subst h3
      simp only [or_true, if_true, Bool.and_eq_true, decide_eq_true_eq] at h
      simp [h.1, h.2]
    · rw [if_neg (by omega)] at h
      by_cases h1 : t = 1
      · subst h1
        rw [if_pos rfl, Bool.and_eq_true, Bool.and_eq_true] at h
        have ha := hl a h.1.1
        have hb := hl b h.1.2
        refine ⟨?_, by decide, by decide⟩
        rw [if_pos rfl, if_pos (by decide), if_pos (by decide), if_pos (by decide), if_neg hb, if_neg ha, if_neg (by decide), if_pos rfl, e1]
        simp only [cat_assoc]
      · rw [if_neg h1] at h
        by_cases h2 : t = 2
        · subst h2
          rw [if_pos (by decide), Bool.and_eq_true, decide_eq_true_eq] at h
          have ha := hl a h.1
          refine ⟨?_, by decide, by decide⟩
          rw [if_neg (by decide), if_pos rfl, if_pos (by decide), if_pos h.2, if_neg ha, if_neg (by decide), if_neg (by decide), if_pos rfl, e2]
          simp only [cat_assoc]
        · by_cases h4 : t = 4
          · subst h4
            rw [if_pos (by decide), Bool.and_eq_true, decide_eq_true_eq] at h
            have ha := hl a h.1
            refine ⟨?_, by decide, by decide⟩
            rw [if_neg (by decide), if_neg (by decide), if_neg (by decide), if_pos rfl, if_pos (by decide), if_pos h.2, if_neg ha, if_neg (by decide), if_neg (by decide), if_neg (by decide), if_neg (by decide), e4]
            simp only [cat_assoc]
          · rw [if_neg (by omega)] at h
            exact absurd h (by decide)

def spF (c : UInt8) : List UInt8 → List UInt8 → List (List UInt8)
  | cur, [] => [cur]
  | cur, b :: l => if b = c then cur :: spF c [] l else spF c (cur ++ [b]) l
theorem spF_hit (c : UInt8) (cur l : List UInt8) : spF c cur (c :: l) = cur :: spF c [] l := by
  conv => lhs; unfold spF
  rw [if_pos rfl]
theorem spF_miss (c b : UInt8) (h : b ≠ c) (cur l : List UInt8) : spF c cur (b :: l) = spF c (cur ++ [b]) l := by
  conv => lhs; unfold spF
  rw [if_neg h]
theorem spF_nil (c : UInt8) (cur : List UInt8) : spF c cur [] = [cur] := rfl
theorem spF_len (c : UInt8) (l : List UInt8) : ∀ cur : List UInt8, (spF c cur l).length = l.count c + 1 := by
  induction l with
  | nil => intro cur; rfl
  | cons b l ih =>
    intro cur
    by_cases h : b = c
    · subst h
      rw [spF_hit, List.length_cons, ih, List.count_cons_self]
    · rw [spF_miss c b h, ih, List.count_cons_of_ne h]
theorem spIdx (c : UInt8) (l : List UInt8) : ∀ pre : List UInt8, c ∉ pre → Go.Lib.index (pre ++ c :: l) [c] = (pre.length : Int) := by
  intro pre
  induction pre with
  | nil => intro _; simp [Go.Lib.index, List.isPrefixOf]
  | cons b pre ih =>
    intro h
    have hb : ¬ c = b := fun e => h (by rw [e]; exact List.mem_cons_self)
    have hp : c ∉ pre := fun e => h (List.mem_cons_of_mem _ e)
    have := ih hp
    rw [List.cons_append, Go.Lib.index, this]
    have h1 : List.isPrefixOf [c] (b :: (pre ++ c :: l)) = false := by simp [List.isPrefixOf, hb]
    rw [h1]
    have h2 : ¬ (((pre.length : Int) == -1) = true) := fun e => by have := beq_iff_eq.1 e; omega
    rw [if_neg (by simp), if_neg h2, List.length_cons]
    omega
theorem splitK_eq (c : UInt8) (l : List UInt8) : ∀ pre : List UInt8, c ∉ pre → Go.Lib.splitK [c] 0 (l.count c) (pre ++ l) = spF c pre l := by
  induction l with
  | nil => intro pre _; rw [List.append_nil]; rfl
  | cons b l ih =>
    intro pre h
    by_cases e : b = c
    · subst e
      rw [List.count_cons_self, Go.Lib.splitK, spIdx b l pre h, spF_hit]
      have h2 : ¬ (((pre.length : Int) == -1) = true) := fun e => by have := beq_iff_eq.1 e; omega
      rw [if_neg h2]
      have hi := ih [] (by simp)
      rw [List.nil_append] at hi
      rw [← hi]
      simp
    · rw [List.count_cons_of_ne e, spF_miss c b e, ← ih (pre ++ [b]) (by simp [h]; exact fun x => e x.symm)]
      rw [List.append_assoc]
      rfl
def mkB (l : List UInt8) : ByteArray := ⟨l.toArray⟩
theorem mkB_data (s : ByteArray) : mkB s.data.toList = s := by
  cases s
  simp [mkB]
theorem splitB_eq (c : UInt8) (s : ByteArray) : Go.Lib.splitB ⟨#[c]⟩ 0 (Go.Lib.countB s ⟨#[c]⟩) s = (spF c [] s.data.toList).map mkB := by
  have h1 := Go.Lib.splitB_data ⟨#[c]⟩ 0 (Go.Lib.countB s ⟨#[c]⟩) s
  have h2 : Go.Lib.countB s ⟨#[c]⟩ = s.data.toList.count c := Go.Lib.count_one c s.data.toList
  have h3 := splitK_eq c s.data.toList [] (by simp)
  rw [List.nil_append] at h3
  rw [h2] at h1 ⊢
  have h1 := h1.trans h3
  rw [← h1, List.map_map]
  have : (mkB ∘ fun x : ByteArray => x.data.toList) = id := funext fun x => mkB_data x
  rw [this, List.map_id]
theorem implSplit_eq (c : UInt8) (s : ByteArray) (m : Int) (hs : s.size ≤ 1048576) : strings_Split.f s ⟨#[c]⟩ m = some ((spF c [] s.data.toList).map mkB) := by
  unfold strings_Split.f
  rw [if_pos ⟨by omega, Nat.le_refl 1⟩, splitB_eq]
theorem ext_eq (s : ByteArray) (a b : Nat) : s.extract a b = mkB ((s.data.toList.drop a).take (b - a)) := by
  apply ByteArray.ext
  unfold mkB
  apply Array.ext'
  rw [ByteArray.data_extract, Array.toList_extract]
theorem drop_cons (s : ByteArray) (j : Nat) (h : j < s.size) : s.data.toList.drop j = s[j] :: s.data.toList.drop (j + 1) := by
  have h' : j < s.data.toList.length := h
  rw [List.drop_eq_getElem_cons h']
  rfl
theorem take_ext (s : ByteArray) (i j : Nat) (hij : i ≤ j) (h : j < s.size) : (s.data.toList.drop i).take (j + 1 - i) = (s.data.toList.drop i).take (j - i) ++ [s[j]] := by
  have h' : j - i < (s.data.toList.drop i).length := by
    rw [List.length_drop]
    have : s.data.toList.length = s.size := rfl
    omega
  have e : j + 1 - i = (j - i) + 1 := by omega
  rw [e, List.take_add_one, List.getElem?_eq_getElem h', List.getElem_drop]
  have e2 : i + (j - i) = j := by omega
  simp only [e2, Option.toList_some]
  rfl
theorem specSplit_l0 (c : UInt8) (s : ByteArray) (hs : s.size ≤ 1048576) : ∀ (d i j k : Nat) (acc : List ByteArray), j + d = s.size → i ≤ j → d < k → acc.length + d ≤ 2000000 →
    spec_l01Split.l0 k s (c.toNat : Int) acc (i : Int) (j : Int) = some (acc ++ (spF c ((s.data.toList.drop i).take (j - i)) (s.data.toList.drop j)).map mkB) := by
  intro d
  induction d with
  | zero =>
    intro i j k acc hj hij hk ha
    obtain ⟨k, rfl⟩ : ∃ m, k = m + 1 := ⟨k - 1, by omega⟩
    simp only [spec_l01Split.l0]
    rw [if_neg (by omega), if_pos (by omega), if_pos (by omega), if_pos (by omega)]
    have hd : s.data.toList.drop j = [] := List.drop_eq_nil_of_le (by have : s.data.toList.length = s.size := rfl; omega)
    rw [hd, spF_nil, ext_eq]
    have : s.size - (i : Int).toNat = j - i := by omega
    rw [this]
    rfl
  | succ d ih =>
    intro i j k acc hj hij hk ha
    obtain ⟨k, rfl⟩ : ∃ m, k = m + 1 := ⟨k - 1, by omega⟩
    have hlt : j < s.size := by omega
    have hb : bt s (j : Int) = ((s[j]).toNat : Int) := (bt_at s (j : Int) (by simpa using hlt)).symm
    have hw : wrap64 ((j : Int) + 1) = ((j + 1 : Nat) : Int) := by unfold wrap64; omega
    simp only [spec_l01Split.l0]
    rw [if_pos (by omega), if_pos (by omega), hb, hw, drop_cons s j hlt]
    by_cases e : s[j] = c
    · rw [if_pos (by rw [e]), if_pos (by omega), if_pos (by omega), if_pos (by omega), if_pos (by omega)]
      rw [ih (j + 1) (j + 1) k _ (by omega) (Nat.le_refl _) (by omega) (by rw [List.length_append, List.length_singleton]; omega)]
      rw [Nat.sub_self, List.take_zero, e, spF_hit, List.map_cons, ext_eq]
      have : (j : Int).toNat - (i : Int).toNat = j - i := by omega
      rw [this, List.append_assoc]
      rfl
    · rw [if_neg (by intro h; exact e (UInt8.toNat_inj.1 (by omega)))]
      rw [ih i (j + 1) k acc (by omega) (by omega) (by omega) (by omega)]
      rw [spF_miss c _ e, take_ext s i j hij hlt]
theorem specSplit_eq (c : UInt8) (s : ByteArray) (hs : s.size ≤ 1048576) (k : Nat) (hk : s.size < k) : spec_l01Split.f k s (c.toNat : Int) = some ((spF c [] s.data.toList).map mkB) := by
  unfold spec_l01Split.f
  have := specSplit_l0 c s hs s.size 0 0 k [] (by omega) (Nat.le_refl _) hk (by simp; omega)
  simpa using this

theorem toList_inj (a b : ByteArray) : a.toList = b.toList ↔ a = b := by
  constructor
  · intro h
    rw [ByteArray.toList_eq, ByteArray.toList_eq] at h
    have h2 : a.data.toList = b.data.toList := h
    cases a; cases b
    simp at h2
    rw [h2]
  · intro h; rw [h]
def hText (t a b : Int) : ByteArray := Go.Proofs.YtchnklikeimpiaaDoor.H.putB (Go.Proofs.YtchnklikeimpiaaDoor.H.putB (Go.Proofs.YtchnklikeimpiaaDoor.H.kindName t) a) b
def namesB : List ByteArray := [(⟨#[110, 111, 110, 101]⟩ : ByteArray), (⟨#[115, 119, 97, 112]⟩ : ByteArray), (⟨#[100, 114, 111, 112]⟩ : ByteArray), (⟨#[100, 111, 117, 98, 108, 101]⟩ : ByteArray), (⟨#[116, 117, 114, 110]⟩ : ByteArray)]
def lettersI : List Int := [0, 2, 1, 0, 1]
def pickB (W : List ByteArray) (i : Int) : Int := if (W.length : Int) > i then (if ((rdOf ByteArray.empty W i).size : Int) = 1 then bt (rdOf ByteArray.empty W i) 0 else 0) else 0
def hitOk (s : ByteArray) (t a b : Int) : Bool := habitOk t a b && decide (hText t a b = s)
theorem spec_j5 (s : ByteArray) (W : List ByteArray) (t a b : Int) (m : Nat) (hm : 0 < m) (h0 : 0 ≤ t) (h5 : t < 5) :
    spec_ReadHabit.j5 (m + 1) s W namesB lettersI t t a b = if hitOk s t a b = true then some (t, a, b, 0) else spec_ReadHabit.l0 m s W namesB lettersI (t + 1) := by
  have hw : wrap64 (t + 1) = t + 1 := by unfold wrap64; omega
  simp only [spec_ReadHabit.j5]
  rw [l04Habit_eq t a b m hm, Option.bind_some, hw]
  unfold hitOk
  by_cases h : habitOk t a b = true
  · obtain ⟨e, _, _⟩ := specText_eq t a b h
    have e : spec_l04Text.f t a b = some (hText t a b) := e
    rw [if_pos h, e, Option.bind_some, h, Bool.true_and]
    by_cases hs : hText t a b = s
    · rw [if_pos ((toList_inj _ _).2 hs), if_pos (by simpa using hs)]
    · rw [if_neg (fun x => hs ((toList_inj _ _).1 x)), if_neg (by simpa using hs)]
  · rw [if_neg h, if_neg (by simp [h])]
theorem spec_j3 (s : ByteArray) (W : List ByteArray) (t a : Int) (m : Nat) :
    spec_ReadHabit.j3 (m + 3) s W namesB lettersI t t a 0 = spec_ReadHabit.j5 (m + 1) s W namesB lettersI t t a (pickB W 2) := by
  simp only [spec_ReadHabit.j3, spec_ReadHabit.j4, pickB]
  by_cases h : (W.length : Int) > 2
  · rw [if_pos h, if_pos (by omega), if_pos h]
    by_cases h1 : ((rdOf ByteArray.empty W 2).size : Int) = 1
    · rw [if_pos (beq_iff_eq.2 h1), if_pos (by omega), if_pos (by omega), if_pos h1]
    · rw [if_neg (fun e => h1 (beq_iff_eq.1 e)), if_neg h1, if_pos h]
  · rw [if_neg h, if_neg (by decide), if_neg h]
theorem spec_j1 (s : ByteArray) (W : List ByteArray) (t : Int) (m : Nat) (h0 : 0 ≤ t) (h5 : t < 5) :
    spec_ReadHabit.j1 (m + 5) s W namesB lettersI t false = spec_ReadHabit.j3 (m + 3) s W namesB lettersI t t (pickB W 1) 0 := by
  have hi : IntKind.i8.wrap t = t := by
    have : t = 0 ∨ t = 1 ∨ t = 2 ∨ t = 3 ∨ t = 4 := by omega
    rcases this with rfl | rfl | rfl | rfl | rfl <;> decide
  simp only [spec_ReadHabit.j1, spec_ReadHabit.j2, pickB, hi]
  rw [if_neg (by decide)]
  by_cases h : (W.length : Int) > 1
  · rw [if_pos h, if_pos (by omega), if_pos h]
    by_cases h1 : ((rdOf ByteArray.empty W 1).size : Int) = 1
    · rw [if_pos (beq_iff_eq.2 h1), if_pos (by omega), if_pos (by omega), if_pos h1]
    · rw [if_neg (fun e => h1 (beq_iff_eq.1 e)), if_neg h1, if_pos h]
  · rw [if_neg h, if_neg (by decide), if_neg h]
def hereOk (s : ByteArray) (W : List ByteArray) (t : Int) : Bool := decide (rdOf ByteArray.empty W 0 = rdOf ByteArray.empty namesB t) && (decide ((W.length : Int) = rd lettersI t + 1) && hitOk s t (pickB W 1) (pickB W 2))
theorem spec_round (s : ByteArray) (W : List ByteArray) (hW : 0 < W.length) (t : Int) (k : Nat) (hk : 10 < k) (h0 : 0 ≤ t) (h5 : t < 5) :
    ∃ q, k ≤ q + 6 ∧ spec_ReadHabit.l0 k s W namesB lettersI t = if hereOk s W t = true then some (t, pickB W 1, pickB W 2, 0) else spec_ReadHabit.l0 q s W namesB lettersI (t + 1) := by
  obtain ⟨m, rfl⟩ : ∃ m, k = m + 6 := ⟨k - 6, by omega⟩
  have hw : wrap64 (t + 1) = t + 1 := by unfold wrap64; omega
  have hr : 0 ≤ rd lettersI t ∧ rd lettersI t ≤ 2 := by
    have : t = 0 ∨ t = 1 ∨ t = 2 ∨ t = 3 ∨ t = 4 := by omega
    rcases this with rfl | rfl | rfl | rfl | rfl <;> exact ⟨by simp [rd, lettersI], by simp [rd, lettersI]⟩
  have hl : wrap64 (rd lettersI t + 1) = rd lettersI t + 1 := by unfold wrap64; omega
  have e5 : ((namesB.length : Nat) : Int) = 5 := rfl
  have e6 : ((lettersI.length : Nat) : Int) = 5 := rfl
  have hj : spec_ReadHabit.j1 (m + 5) s W namesB lettersI t true = spec_ReadHabit.l0 (m + 4) s W namesB lettersI (t + 1) := by
    simp only [spec_ReadHabit.j1, hw]
    rw [if_pos trivial]
  simp only [spec_ReadHabit.l0, e5, e6, hl]
  rw [if_pos h5, if_pos (by omega), if_pos h0]
  by_cases hn : rdOf ByteArray.empty W 0 = rdOf ByteArray.empty namesB t
  · rw [if_pos ((toList_inj _ _).2 hn), if_pos h5]
    by_cases hc : (W.length : Int) = rd lettersI t + 1
    · have hf : ((W.length : Int) != rd lettersI t + 1) = false := by simp [hc]
      refine ⟨m, by omega, ?_⟩
      rw [hf, spec_j1 s W t m h0 h5, spec_j3, spec_j5 s W t _ _ m (by omega) h0 h5]
      unfold hereOk
      rw [decide_eq_true hn, decide_eq_true hc, Bool.true_and, Bool.true_and]
    · have hf : ((W.length : Int) != rd lettersI t + 1) = true := by simp [hc]
      refine ⟨m + 4, by omega, ?_⟩
      rw [hf, hj, if_neg (by simp [hereOk, hc])]
  · refine ⟨m + 4, by omega, ?_⟩
    rw [if_neg (fun x => hn ((toList_inj _ _).1 x)), hj, if_neg (by simp [hereOk, hn])]
def idxN (x : ByteArray) : Int := if x = rdOf ByteArray.empty namesB 0 then 0 else if x = rdOf ByteArray.empty namesB 1 then 1 else if x = rdOf ByteArray.empty namesB 2 then 2 else if x = rdOf ByteArray.empty namesB 3 then 3 else if x = rdOf ByteArray.empty namesB 4 then 4 else -1
theorem idx_step (x : ByteArray) (t u : Int) (k : Nat) (h0 : 0 ≤ t) (h5 : t < 5) (hu : u = t + 1) :
    slices_Index_Sstring_string.l0 (k + 1) namesB x 5 t = if x = rdOf ByteArray.empty namesB t then some t else slices_Index_Sstring_string.l0 k namesB x 5 u := by
  have e5 : ((namesB.length : Nat) : Int) = 5 := rfl
  have hw : wrap64 (t + 1) = u := by unfold wrap64; omega
  simp only [slices_Index_Sstring_string.l0, e5, hw]
  rw [if_pos h5, if_pos h0, if_pos h5]
  by_cases h : x = rdOf ByteArray.empty namesB t
  · rw [if_pos ((toList_inj _ _).2 h), if_pos h]
  · rw [if_neg (fun e => h ((toList_inj _ _).1 e)), if_neg h]
theorem idx_eq (x : ByteArray) (k : Nat) (hk : 10 < k) : slices_Index_Sstring_string.f k namesB x = some (idxN x) := by
  obtain ⟨m, rfl⟩ : ∃ m, k = m + 6 := ⟨k - 6, by omega⟩
  have hl : slices_Index_Sstring_string.l0 (m + 1) namesB x 5 5 = some (-1) := by
    simp only [slices_Index_Sstring_string.l0]
    rw [if_neg (by decide)]
  show slices_Index_Sstring_string.l0 (m + 6) namesB x 5 0 = _
  rw [idx_step x 0 1 (m + 5) (by decide) (by decide) rfl, idx_step x 1 2 (m + 4) (by decide) (by decide) rfl, idx_step x 2 3 (m + 3) (by decide) (by decide) rfl, idx_step x 3 4 (m + 2) (by decide) (by decide) rfl, idx_step x 4 5 (m + 1) (by decide) (by decide) rfl, hl]
  unfold idxN
  repeat (split; · rfl)
  rfl
def finH (s : ByteArray) (t a b : Int) : Option (Int × Int × Int × Int) := if s.toList = ([] : List UInt8) then (some (0, 0, 0, 5)) else ((impl_HabitText.f t a b).bind fun t166 => (if t166.toList = s.toList then (some (t, a, b, 0)) else (some (0, 0, 0, 5))))
theorem impl_tail (s : ByteArray) (Y : List ByteArray) (t x1 x2 a b : Int) (hY : Y.length ≤ 2000000) : ∀ (d i k : Nat), 2 ≤ i → i + d = Y.length → d < k →
    impl_ReadHabit.l0 k s Y (Y.length : Int) (i : Int) t x1 x2 a b = finH s t a b := by
  intro d
  induction d with
  | zero =>
    intro i k h2 hi hk
    obtain ⟨k, rfl⟩ : ∃ m, k = m + 1 := ⟨k - 1, by omega⟩
    simp only [impl_ReadHabit.l0]
    rw [if_neg (by omega)]
    rfl
  | succ d ih =>
    intro i k h2 hi hk
    obtain ⟨k, rfl⟩ : ∃ m, k = m + 1 := ⟨k - 1, by omega⟩
    simp only [impl_ReadHabit.l0]
    rw [if_pos (by omega), if_pos (by omega), if_pos (by omega), if_neg (by omega), wrap_nat i (by omega)]
    exact ih (i + 1) k (by omega) (by omega) (by omega)
theorem impl_end (s : ByteArray) (Y : List ByteArray) (t x1 x2 a b : Int) (i : Int) (k : Nat) (hi : ¬ i < (Y.length : Int)) : impl_ReadHabit.l0 (k + 1) s Y (Y.length : Int) i t x1 x2 a b = finH s t a b := by
  simp only [impl_ReadHabit.l0]
  rw [if_neg hi]
  rfl
theorem impl_one (s : ByteArray) (Y : List ByteArray) (t x1 x2 a b : Int) (hY : Y.length ≤ 2000000) (k : Nat) (hk : Y.length < k) :
    impl_ReadHabit.l0 (k + 1) s Y (Y.length : Int) 1 t x1 x2 a b = finH s t a (if (Y.length : Int) > 1 then (if ((rdOf ByteArray.empty Y 1).size : Int) = 1 then bt (rdOf ByteArray.empty Y 1) 0 else b) else b) := by
  by_cases h : (Y.length : Int) > 1
  · have hw : wrap64 ((1 : Int) + 1) = ((2 : Nat) : Int) := by unfold wrap64; omega
    have ht := fun b' => impl_tail s Y t x1 x2 a b' hY (Y.length - 2) 2 k (Nat.le_refl _) (by omega) (by omega)
    simp only [impl_ReadHabit.l0, hw]
    rw [if_pos (by omega), if_pos (by decide), if_pos (by omega), if_pos (by decide), if_pos h]
    by_cases h1 : ((rdOf ByteArray.empty Y 1).size : Int) = 1
    · rw [if_pos h1, if_pos (by omega), if_neg (by decide), if_pos trivial, if_pos h1, ht]
    · rw [if_neg h1, if_neg h1, ht]
  · rw [impl_end s Y t x1 x2 a b 1 k (by omega), if_neg h]
theorem impl_zero (s : ByteArray) (Y : List ByteArray) (t x1 x2 : Int) (hY : Y.length ≤ 2000000) (k : Nat) (hk : Y.length < k) :
    impl_ReadHabit.l0 (k + 2) s Y (Y.length : Int) 0 t x1 x2 0 0 = finH s t (if (Y.length : Int) > 0 then (if ((rdOf ByteArray.empty Y 0).size : Int) = 1 then bt (rdOf ByteArray.empty Y 0) 0 else 0) else 0) (if (Y.length : Int) > 1 then (if ((rdOf ByteArray.empty Y 1).size : Int) = 1 then bt (rdOf ByteArray.empty Y 1) 0 else 0) else 0) := by
  by_cases h : (Y.length : Int) > 0
  · have hw : wrap64 ((0 : Int) + 1) = (1 : Int) := by unfold wrap64; omega
    have ht := fun a' => impl_one s Y t x1 x2 a' 0 hY k hk
    conv => lhs; unfold impl_ReadHabit.l0
    simp only [hw]
    rw [if_pos (by omega), if_pos (by decide), if_pos (by omega), if_pos (by decide), if_pos h]
    by_cases h1 : ((rdOf ByteArray.empty Y 0).size : Int) = 1
    · rw [if_pos h1, if_pos (by omega), if_pos trivial, if_pos h1, ht]
    · rw [if_neg h1, if_neg h1, ht]
  · rw [impl_end s Y t x1 x2 0 0 0 (k + 1) (by omega), if_neg h, if_neg (by omega)]
theorem finH_eq (s : ByteArray) (t a b : Int) : finH s t a b = if s ≠ ByteArray.empty ∧ hitOk s t a b = true then some (t, a, b, 0) else some (0, 0, 0, 5) := by
  have hE : ByteArray.empty.toList = ([] : List UInt8) := by rw [ByteArray.toList_eq]; rfl
  unfold finH impl_HabitText.f
  by_cases h : s = ByteArray.empty
  · rw [if_pos (by rw [h]; exact hE), if_neg (fun x => x.1 h)]
  · have hn : ¬ s.toList = ([] : List UInt8) := fun e => h ((toList_inj s ByteArray.empty).1 (e.trans hE.symm))
    rw [if_neg hn, validHabit_eq, Option.bind_some]
    by_cases v : habitOk t a b = true
    · obtain ⟨_, h0, h5⟩ := specText_eq t a b v
      rw [if_pos v, if_pos h0, if_pos h5, Option.bind_some]
      unfold hitOk
      rw [v, Bool.true_and]
      show (if (hText t a b).toList = s.toList then _ else _) = _
      by_cases e : hText t a b = s
      · rw [if_pos ((toList_inj _ _).2 e), if_pos ⟨h, by simpa using e⟩]
      · rw [if_neg (fun x => e ((toList_inj _ _).1 x)), if_neg (fun x => e (by simpa using x.2))]
    · rw [if_neg v, Option.bind_some, if_neg (fun x => h ((toList_inj (⟨#[]⟩ : ByteArray) s).1 x).symm), if_neg (fun x => by
        have := x.2
        unfold hitOk at this
        rw [Bool.and_eq_true] at this
        exact v this.1)]
theorem letter_ne (a : Int) (h : letter a = true) : UInt8.ofNat a.toNat ≠ 32 := by
  intro e
  have h2 : 97 ≤ a ∧ a ≤ 122 := by simpa [letter] using h
  have h1 := congrArg UInt8.toNat e
  rw [UInt8.toNat_ofNat'] at h1
  have h3 : (32 : UInt8).toNat = 32 := rfl
  rw [h3] at h1
  omega
theorem letter_nz (a : Int) (h : letter a = true) : a ≠ 0 := by
  intro e
  subst e
  exact absurd h (by decide)
def cB (x : ByteArray) : Nat := x.data.toList.count 32
theorem cB_app (x y : ByteArray) : cB (x ++ y) = cB x + cB y := by
  unfold cB
  rw [ByteArray.data_append, Array.toList_append, List.count_append]
theorem cB_num (a : Int) (h : letter a = true) : cB (strOfNums [a]) = 0 := by
  show ([UInt8.ofNat a.toNat] : List UInt8).count 32 = 0
  rw [List.count_cons_of_ne (letter_ne a h)]
  rfl
theorem cB_put (x : ByteArray) (a : Int) (h : letter a = true) : cB (Go.Proofs.YtchnklikeimpiaaDoor.H.putB x a) = cB x + 1 := by
  unfold Go.Proofs.YtchnklikeimpiaaDoor.H.putB
  rw [if_neg (letter_nz a h), cB_app, cB_app, cB_num a h]
  rfl
theorem put_zero (x : ByteArray) : Go.Proofs.YtchnklikeimpiaaDoor.H.putB x 0 = x := by
  unfold Go.Proofs.YtchnklikeimpiaaDoor.H.putB
  rw [if_pos rfl]
theorem put_size (x : ByteArray) (a : Int) : x.size ≤ (Go.Proofs.YtchnklikeimpiaaDoor.H.putB x a).size := by
  unfold Go.Proofs.YtchnklikeimpiaaDoor.H.putB
  by_cases h : a = 0
  · rw [if_pos h]; exact Nat.le_refl _
  · rw [if_neg h, ByteArray.size_append]; exact Nat.le_add_right _ _
theorem text_ne (t a b : Int) (h0 : 0 ≤ t) (h5 : t < 5) : hText t a b ≠ ByteArray.empty := by
  intro e
  have h1 := congrArg ByteArray.size e
  have h2 := put_size (Go.Proofs.YtchnklikeimpiaaDoor.H.kindName t) a
  have h3 := put_size (Go.Proofs.YtchnklikeimpiaaDoor.H.putB (Go.Proofs.YtchnklikeimpiaaDoor.H.kindName t) a) b
  have h4 : 4 ≤ (Go.Proofs.YtchnklikeimpiaaDoor.H.kindName t).size := by
    have : t = 0 ∨ t = 1 ∨ t = 2 ∨ t = 3 ∨ t = 4 := by omega
    rcases this with rfl | rfl | rfl | rfl | rfl <;> decide
  have h5 : (hText t a b).size = (Go.Proofs.YtchnklikeimpiaaDoor.H.putB (Go.Proofs.YtchnklikeimpiaaDoor.H.putB (Go.Proofs.YtchnklikeimpiaaDoor.H.kindName t) a) b).size := rfl
  have h6 : ByteArray.empty.size = 0 := rfl
  omega
theorem kind_c (t : Int) (h0 : 0 ≤ t) (h5 : t < 5) : cB (Go.Proofs.YtchnklikeimpiaaDoor.H.kindName t) = 0 := by
  have : t = 0 ∨ t = 1 ∨ t = 2 ∨ t = 3 ∨ t = 4 := by omega
  rcases this with rfl | rfl | rfl | rfl | rfl <;> decide
theorem text_count (t a b : Int) (h : habitOk t a b = true) : ((hText t a b).data.toList.count 32 : Int) = rd lettersI t := by
  show ((cB (Go.Proofs.YtchnklikeimpiaaDoor.H.putB (Go.Proofs.YtchnklikeimpiaaDoor.H.putB (Go.Proofs.YtchnklikeimpiaaDoor.H.kindName t) a) b) : Nat) : Int) = _
  unfold habitOk at h
  by_cases h03 : t = 0 ∨ t = 3
  · rw [if_pos h03, Bool.and_eq_true] at h
    obtain rfl := of_decide_eq_true h.1
    obtain rfl := of_decide_eq_true h.2
    rw [put_zero, put_zero, kind_c t (by omega) (by omega)]
    rcases h03 with rfl | rfl <;> simp [rd, lettersI]
  · rw [if_neg h03] at h
    by_cases h1 : t = 1
    · rw [if_pos h1, Bool.and_eq_true, Bool.and_eq_true] at h
      rw [cB_put _ b h.1.2, cB_put _ a h.1.1, kind_c t (by omega) (by omega), h1]
      simp [rd, lettersI]
    · rw [if_neg h1] at h
      by_cases h24 : t = 2 ∨ t = 4
      · rw [if_pos h24, Bool.and_eq_true] at h
        obtain rfl := of_decide_eq_true h.2
        rw [put_zero, cB_put _ a h.1, kind_c t (by omega) (by omega)]
        rcases h24 with rfl | rfl <;> simp [rd, lettersI]
      · rw [if_neg h24] at h
        exact absurd h (by decide)
theorem idx_self (x : ByteArray) (h : 0 ≤ idxN x) : x = rdOf ByteArray.empty namesB (idxN x) := by
  unfold idxN at h ⊢
  by_cases h0 : x = rdOf ByteArray.empty namesB 0
  · rw [if_pos h0]; exact h0
  rw [if_neg h0] at h ⊢
  by_cases h1 : x = rdOf ByteArray.empty namesB 1
  · rw [if_pos h1]; exact h1
  rw [if_neg h1] at h ⊢
  by_cases h2 : x = rdOf ByteArray.empty namesB 2
  · rw [if_pos h2]; exact h2
  rw [if_neg h2] at h ⊢
  by_cases h3 : x = rdOf ByteArray.empty namesB 3
  · rw [if_pos h3]; exact h3
  rw [if_neg h3] at h ⊢
  by_cases h4 : x = rdOf ByteArray.empty namesB 4
  · rw [if_pos h4]; exact h4
  rw [if_neg h4] at h
  exact absurd h (by decide)
theorem idx_i8 (x : ByteArray) : IntKind.i8.wrap (idxN x) = idxN x := by
  unfold idxN
  repeat (split; · decide)
  decide
theorem idx_here (s : ByteArray) (W : List ByteArray) (t : Int) (h0 : 0 ≤ t) (h5 : t < 5) (h : rdOf ByteArray.empty W 0 = rdOf ByteArray.empty namesB t) : idxN (rdOf ByteArray.empty W 0) = t := by
  rw [h]
  have : t = 0 ∨ t = 1 ∨ t = 2 ∨ t = 3 ∨ t = 4 := by omega
  rcases this with rfl | rfl | rfl | rfl | rfl <;> decide
theorem spec_end (s : ByteArray) (W : List ByteArray) (k : Nat) (hk : 0 < k) : spec_ReadHabit.l0 k s W namesB lettersI 5 = some (0, 0, 0, 5) := by
  obtain ⟨m, rfl⟩ : ∃ m, k = m + 1 := ⟨k - 1, by omega⟩
  have e5 : ((namesB.length : Nat) : Int) = 5 := rfl
  simp only [spec_ReadHabit.l0, e5]
  rw [if_neg (by decide)]
theorem here_idx (s : ByteArray) (W : List ByteArray) (t : Int) (h0 : 0 ≤ t) (h5 : t < 5) (h : hereOk s W t = true) : idxN (rdOf ByteArray.empty W 0) = t := by
  unfold hereOk at h
  rw [Bool.and_eq_true] at h
  exact idx_here s W t h0 h5 (of_decide_eq_true h.1)
def resN (s : ByteArray) (W : List ByteArray) : Int × Int × Int × Int := if 0 ≤ idxN (rdOf ByteArray.empty W 0) ∧ hereOk s W (idxN (rdOf ByteArray.empty W 0)) = true then (idxN (rdOf ByteArray.empty W 0), pickB W 1, pickB W 2, 0) else (0, 0, 0, 5)
theorem spec_all (s : ByteArray) (W : List ByteArray) (hW : 0 < W.length) : ∀ (d : Nat) (t : Int) (k : Nat), t + d = 5 → 0 ≤ t → d * 6 + 20 < k → (∀ u : Int, 0 ≤ u → u < t → hereOk s W u = false) →
    spec_ReadHabit.l0 k s W namesB lettersI t = some (resN s W) := by
  intro d
  induction d with
  | zero =>
    intro t k ht h0 hk hno
    obtain rfl : t = 5 := by omega
    rw [spec_end s W k (by omega)]
    unfold resN
    rw [if_neg]
    intro x
    have h5 : idxN (rdOf ByteArray.empty W 0) < 5 := by unfold idxN; repeat (split; · decide)
                                                        decide
    rw [hno _ x.1 h5] at x
    exact absurd x.2 (by decide)
  | succ d ih =>
    intro t k ht h0 hk hno
    obtain ⟨q, q1, q2⟩ := spec_round s W hW t k (by omega) h0 (by omega)
    rw [q2]
    by_cases h : hereOk s W t = true
    · have hi := here_idx s W t h0 (by omega) h
      rw [if_pos h]
      unfold resN
      rw [hi, if_pos ⟨h0, h⟩]
    · rw [if_neg h]
      refine ih (t + 1) q (by omega) (by omega) (by omega) (fun u h1 h2 => ?_)
      by_cases e : u = t
      · rw [e]; exact Bool.eq_false_iff.mpr h
      · exact hno u h1 (by omega)
theorem main : laws_FnExactReadHabit.Pure := by
  intro s mx hs
  refine rounds_of 2000000 fun k hk => ?_
  unfold laws_FnExactReadHabit.f
  by_cases hbig : (s.size : Int) > 1048576
  · rw [if_pos hbig]
  rw [if_neg hbig]
  have hsz : s.size ≤ 1048576 := by omega
  obtain ⟨W, hWd⟩ : ∃ W, W = (spF 32 [] s.data.toList).map mkB := ⟨_, rfl⟩
  have hWl : W.length = s.data.toList.count 32 + 1 := by rw [hWd, List.length_map, spF_len]
  have hW2 : W.length ≤ 1048577 := by
    have := List.count_le_length (a := (32 : UInt8)) (l := s.data.toList)
    have h2 : s.data.toList.length = s.size := rfl
    omega
  have e1 : spec_ReadHabit.f k s = some (resN s W) := by
    unfold spec_ReadHabit.f
    have h1 := specSplit_eq 32 s hsz k (by omega)
    have h2 : ((32 : UInt8).toNat : Int) = 32 := rfl
    rw [h2] at h1
    rw [h1, Option.bind_some, ← hWd]
    exact spec_all s W (by omega) 5 0 k rfl (by decide) (by omega) (fun u h1 h2 => absurd h1 (by omega))
  have e2 : impl_ReadHabit.f k s mx = some (resN s W) := by
    unfold impl_ReadHabit.f
    rw [implSplit_eq 32 s mx hsz, Option.bind_some, ← hWd, show impl_habitWords.f = some namesB from rfl, Option.bind_some, if_pos (by omega), idx_eq _ k (by omega), Option.bind_some, if_pos (by omega), Option.bind_some, idx_i8]
    have hdl : (W.drop (1 : Int).toNat).length = W.length - 1 := by rw [List.length_drop]; rfl
    have hd0 : rdOf ByteArray.empty (W.drop (1 : Int).toNat) 0 = rdOf ByteArray.empty W 1 := by simp [rdOf]
    have hd1 : rdOf ByteArray.empty (W.drop (1 : Int).toNat) 1 = rdOf ByteArray.empty W 2 := by simp [rdOf]
    obtain ⟨m, rfl⟩ : ∃ m, k = m + 2 := ⟨k - 2, by omega⟩
    rw [impl_zero s (W.drop (1 : Int).toNat) _ 0 0 (by omega) m (by omega), hd0, hd1, hdl]
    have hA : (if ((W.length - 1 : Nat) : Int) > 0 then (if ((rdOf ByteArray.empty W 1).size : Int) = 1 then bt (rdOf ByteArray.empty W 1) 0 else 0) else 0) = pickB W 1 := by
      unfold pickB
      by_cases h : (W.length : Int) > 1
      · rw [if_pos (by omega), if_pos h]
      · rw [if_neg (by omega), if_neg h]
    have hB : (if ((W.length - 1 : Nat) : Int) > 1 then (if ((rdOf ByteArray.empty W 2).size : Int) = 1 then bt (rdOf ByteArray.empty W 2) 0 else 0) else 0) = pickB W 2 := by
      unfold pickB
      by_cases h : (W.length : Int) > 2
      · rw [if_pos (by omega), if_pos h]
      · rw [if_neg (by omega), if_neg h]
    rw [hA, hB, finH_eq]
    have hs0 := idx_self (rdOf ByteArray.empty W 0)
    unfold resN hereOk
    generalize idxN (rdOf ByteArray.empty W 0) = t at hs0 ⊢
    by_cases hh : hitOk s t (pickB W 1) (pickB W 2) = true
    · have hq := hh
      unfold hitOk at hq
      rw [Bool.and_eq_true] at hq
      have he := of_decide_eq_true hq.2
      obtain ⟨_, h0, h5⟩ := specText_eq t _ _ hq.1
      have hc := text_count t _ _ hq.1
      rw [he] at hc
      have hne := text_ne t (pickB W 1) (pickB W 2) h0 h5
      rw [he] at hne
      rw [if_pos ⟨hne, hh⟩, if_pos ⟨h0, by rw [decide_eq_true (hs0 h0), decide_eq_true (by omega), hh]; rfl⟩]
    · rw [if_neg (fun x => hh x.2), if_neg (fun x => hh (by
        have := x.2
        rw [Bool.and_eq_true, Bool.and_eq_true] at this
        exact this.2.2))]
  rw [e1, e2, Option.bind_some, Option.bind_some]
  unfold laws_eqHabit.f
  rw [if_pos rfl, if_pos rfl, if_pos rfl, Option.bind_some, if_pos rfl, if_pos rfl]

end Go.Proofs.YtchnklikeimpiaaDoor.PureFnExactReadHabit
namespace Go.Proofs.YtchnklikeimpiaaDoor.Pure
theorem FnExactReadHabit : Go.Proofs.YtchnklikeimpiaaDoor.P.laws_FnExactReadHabit.Pure := Go.Proofs.YtchnklikeimpiaaDoor.PureFnExactReadHabit.main
end Go.Proofs.YtchnklikeimpiaaDoor.Pure
