/- For every text the program's ReadLog returns the reference's log and code, in memory of its own; no condition. -/
import Derived.Test.YtchnklikeimpiaaDoorP14
import Derived.Laws.BitsLemmas
import Derived.Lib.ItoaLen
import Derived.Lib.ItoaNum
import Derived.Lib.ParseIntBTie
import Derived.Lib.SplitLaws
namespace Go.Proofs.YtchnklikeimpiaaDoor.PureFnExactReadLog
open Go.RowKit Go.Proofs.YtchnklikeimpiaaDoor.P Go.Proofs.YtchnklikeimpiaaDoorW.PrintWords Go.Proofs.YtchnklikeimpiaaDoorW.PrintLast
set_option linter.unusedSimpArgs false
set_option linter.unusedVariables false

theorem wrap64_id (x : Int) (h0 : -9223372036854775808 ≤ x) (h1 : x ≤ 9223372036854775807) : wrap64 x = x := by unfold wrap64; omega
theorem wrap_nat (n : Nat) (h : n < 4611686018427387904) : wrap64 ((n : Int) + 1) = ((n + 1 : Nat) : Int) := by
  rw [wrap64_id _ (by omega) (by omega)]; omega
theorem rd_nat (l : List Int) (i : Nat) : rd l (i : Int) = l.getD i 0 := by simp [rd]
theorem drop_rd (l : List Int) (i : Nat) (h : i < l.length) : l.drop i = rd l (i : Int) :: l.drop (i + 1) := by
  rw [List.drop_eq_getElem_cons h, rd_nat, List.getD_eq_getElem?_getD, List.getElem?_eq_getElem h]; rfl
theorem drop_getD {α : Type} (z : α) (l : List α) (i : Nat) (h : i < l.length) : l.drop i = l.getD i z :: l.drop (i + 1) := by
  rw [List.drop_eq_getElem_cons h, List.getD_eq_getElem?_getD, List.getElem?_eq_getElem h]; rfl
theorem take_getD {α : Type} (z : α) (l : List α) (i : Nat) (h : i < l.length) : l.take (i + 1) = l.take i ++ [l.getD i z] := by
  rw [List.take_succ_eq_append_getElem h, List.getD_eq_getElem?_getD, List.getElem?_eq_getElem h]; rfl
theorem set_drop {α : Type} (a g : List α) (i : Nat) (v : α) (h : a.length = i) (hg : i < g.length) : (a ++ g.drop i).set i v = (a ++ [v]) ++ g.drop (i + 1) := by
  subst h
  rw [List.set_append_right _ _ (Nat.le_refl _), Nat.sub_self, List.drop_eq_getElem_cons hg, List.set_cons_zero]
  simp
theorem getD_range_map {α : Type} (z : α) (f : Nat → α) (n i : Nat) (h : i < n) : ((List.range n).map f).getD i z = f i := by
  rw [List.getD_eq_getElem?_getD, List.getElem?_map, List.getElem?_range h]; rfl
theorem rounds_of (B : Nat) {α : Type} {F : Nat → Option α} {v : α} (h : ∀ k, B ≤ k → F k = some v) : ∃ k, F k = some v := ⟨B, h B (Nat.le_refl _)⟩

def spF (c : UInt8) : List UInt8 → List UInt8 → List (List UInt8)
  | cur, [] => [cur]
  | cur, b :: l => if b = c then cur :: spF c [] l else spF c (cur ++ [b]) l
theorem spF_hit (c : UInt8) (cur l : List UInt8) : spF c cur (c :: l) = cur :: spF c [] l := by
  conv => lhs; unfold spF
  rw [if_pos rfl]
theorem spF_miss (c b : UInt8) (h : b ≠ c) (cur l : List UInt8) : spF c cur (b :: l) = spF c (cur ++ [b]) l := by
  conv => lhs; unfold spF
  rw [if_neg h]
theorem spF_nil (c : UInt8) (cur : List UInt8) : spF c cur [] = [cur] := rfl
theorem spF_len (c : UInt8) (l : List UInt8) : ∀ cur : List UInt8, (spF c cur l).length = l.count c + 1 := by
  induction l with
  | nil => intro cur; rfl
  | cons b l ih =>
    intro cur
    by_cases h : b = c
    · subst h
      rw [spF_hit, List.length_cons, ih, List.count_cons_self]
    · rw [spF_miss c b h, ih, List.count_cons_of_ne h]
theorem spIdx (c : UInt8) (l : List UInt8) : ∀ pre : List UInt8, c ∉ pre → Go.Lib.index (pre ++ c :: l) [c] = (pre.length : Int) := by
  intro pre
  induction pre with
  | nil => intro _; simp [Go.Lib.index, List.isPrefixOf]
  | cons b pre ih =>
    intro h
    have hb : ¬ c = b := fun e => h (by rw [e]; exact List.mem_cons_self)
    have hp : c ∉ pre := fun e => h (List.mem_cons_of_mem _ e)
    have := ih hp
    rw [List.cons_append, Go.Lib.index, this]
    have h1 : List.isPrefixOf [c] (b :: (pre ++ c :: l)) = false := by simp [List.isPrefixOf, hb]
    rw [h1]
    have h2 : ¬ (((pre.length : Int) == -1) = true) := fun e => by have := beq_iff_eq.1 e; omega
    rw [if_neg (by simp), if_neg h2, List.length_cons]
    omega
theorem splitK_eq (c : UInt8) (l : List UInt8) : ∀ pre : List UInt8, c ∉ pre → Go.Lib.splitK [c] 0 (l.count c) (pre ++ l) = spF c pre l := by
  induction l with
  | nil => intro pre _; rw [List.append_nil]; rfl
  | cons b l ih =>
    intro pre h
    by_cases e : b = c
    · subst e
      rw [List.count_cons_self, Go.Lib.splitK, spIdx b l pre h, spF_hit]
      have h2 : ¬ (((pre.length : Int) == -1) = true) := fun e => by have := beq_iff_eq.1 e; omega
      rw [if_neg h2]
      have hi := ih [] (by simp)
      rw [List.nil_append] at hi
      rw [← hi]
      simp
    · rw [List.count_cons_of_ne e, spF_miss c b e, ← ih (pre ++ [b]) (by simp [h]; exact fun x => e x.symm)]
      rw [List.append_assoc]
      rfl
def mkB (l : List UInt8) : ByteArray := ⟨l.toArray⟩
theorem mkB_data (s : ByteArray) : mkB s.data.toList = s := by
  cases s
  simp [mkB]
theorem splitB_eq (c : UInt8) (s : ByteArray) : Go.Lib.splitB ⟨#[c]⟩ 0 (Go.Lib.countB s ⟨#[c]⟩) s = (spF c [] s.data.toList).map mkB := by
  have h1 := Go.Lib.splitB_data ⟨#[c]⟩ 0 (Go.Lib.countB s ⟨#[c]⟩) s
  have h2 : Go.Lib.countB s ⟨#[c]⟩ = s.data.toList.count c := Go.Lib.count_one c s.data.toList
  have h3 := splitK_eq c s.data.toList [] (by simp)
  rw [List.nil_append] at h3
  rw [h2] at h1 ⊢
  have h1 := h1.trans h3
  rw [← h1, List.map_map]
  have : (mkB ∘ fun x : ByteArray => x.data.toList) = id := funext fun x => mkB_data x
  rw [this, List.map_id]
theorem implSplit_eq (c : UInt8) (s : ByteArray) (m : Int) (hs : s.size ≤ 1048576) : strings_Split.f s ⟨#[c]⟩ m = some ((spF c [] s.data.toList).map mkB) := by
  unfold strings_Split.f
  rw [if_pos ⟨by omega, Nat.le_refl 1⟩, splitB_eq]
theorem ext_eq (s : ByteArray) (a b : Nat) : s.extract a b = mkB ((s.data.toList.drop a).take (b - a)) := by
  apply ByteArray.ext
  unfold mkB
  apply Array.ext'
  rw [ByteArray.data_extract, Array.toList_extract]
theorem drop_cons (s : ByteArray) (j : Nat) (h : j < s.size) : s.data.toList.drop j = s[j] :: s.data.toList.drop (j + 1) := by
  have h' : j < s.data.toList.length := h
  rw [List.drop_eq_getElem_cons h']
  rfl
theorem take_ext (s : ByteArray) (i j : Nat) (hij : i ≤ j) (h : j < s.size) : (s.data.toList.drop i).take (j + 1 - i) = (s.data.toList.drop i).take (j - i) ++ [s[j]] := by
  have h' : j - i < (s.data.toList.drop i).length := by
    rw [List.length_drop]
    have : s.data.toList.length = s.size := rfl
    omega
  have e : j + 1 - i = (j - i) + 1 := by omega
  rw [e, List.take_add_one, List.getElem?_eq_getElem h', List.getElem_drop]
  have e2 : i + (j - i) = j := by omega
  simp only [e2, Option.toList_some]
  rfl
theorem specSplit_l0 (c : UInt8) (s : ByteArray) (hs : s.size ≤ 1048576) : ∀ (d i j k : Nat) (acc : List ByteArray), j + d = s.size → i ≤ j → d < k → acc.length + d ≤ 2000000 →
    spec_l01Split.l0 k s (c.toNat : Int) acc (i : Int) (j : Int) = some (acc ++ (spF c ((s.data.toList.drop i).take (j - i)) (s.data.toList.drop j)).map mkB) := by
  intro d
  induction d with
  | zero =>
    intro i j k acc hj hij hk ha
    obtain ⟨k, rfl⟩ : ∃ m, k = m + 1 := ⟨k - 1, by omega⟩
    simp only [spec_l01Split.l0]
    rw [if_neg (by omega), if_pos (by omega), if_pos (by omega), if_pos (by omega)]
    have hd : s.data.toList.drop j = [] := List.drop_eq_nil_of_le (by have : s.data.toList.length = s.size := rfl; omega)
    rw [hd, spF_nil, ext_eq]
    have : s.size - (i : Int).toNat = j - i := by omega
    rw [this]
    rfl
  | succ d ih =>
    intro i j k acc hj hij hk ha
    obtain ⟨k, rfl⟩ : ∃ m, k = m + 1 := ⟨k - 1, by omega⟩
    have hlt : j < s.size := by omega
    have hb : bt s (j : Int) = ((s[j]).toNat : Int) := (bt_at s (j : Int) (by simpa using hlt)).symm
    have hw : wrap64 ((j : Int) + 1) = ((j + 1 : Nat) : Int) := by unfold wrap64; omega
    simp only [spec_l01Split.l0]
    rw [if_pos (by omega), if_pos (by omega), hb, hw, drop_cons s j hlt]
    by_cases e : s[j] = c
    · rw [if_pos (by rw [e]), if_pos (by omega), if_pos (by omega), if_pos (by omega), if_pos (by omega)]
      rw [ih (j + 1) (j + 1) k _ (by omega) (Nat.le_refl _) (by omega) (by rw [List.length_append, List.length_singleton]; omega)]
      rw [Nat.sub_self, List.take_zero, e, spF_hit, List.map_cons, ext_eq]
      have : (j : Int).toNat - (i : Int).toNat = j - i := by omega
      rw [this, List.append_assoc]
      rfl
    · rw [if_neg (by intro h; exact e (UInt8.toNat_inj.1 (by omega)))]
      rw [ih i (j + 1) k acc (by omega) (by omega) (by omega) (by omega)]
      rw [spF_miss c _ e, take_ext s i j hij hlt]
theorem specSplit_eq (c : UInt8) (s : ByteArray) (hs : s.size ≤ 1048576) (k : Nat) (hk : s.size < k) : spec_l01Split.f k s (c.toNat : Int) = some ((spF c [] s.data.toList).map mkB) := by
  unfold spec_l01Split.f
  have := specSplit_l0 c s hs s.size 0 0 k [] (by omega) (Nat.le_refl _) hk (by simp; omega)
  simpa using this

def dval (l : List UInt8) : Nat := l.foldl (fun a c => 10 * a + (c.toNat - 48)) 0
theorem dval_snoc (l : List UInt8) (c : UInt8) : dval (l ++ [c]) = 10 * dval l + (c.toNat - 48) := by simp [dval]
def isD (c : UInt8) : Prop := 48 ≤ c.toNat ∧ c.toNat ≤ 57
theorem ofNat_dig (d : Nat) (h : d < 10) : (UInt8.ofNat (48 + d)).toNat = 48 + d := by simp [UInt8.toNat_ofNat']; omega
theorem head_app {α : Type} (a b : List α) (h : a ≠ []) : (a ++ b).head? = a.head? := by
  cases a with
  | nil => exact absurd rfl h
  | cons x r => rfl
theorem dec_dig : ∀ (u : Nat) (c : UInt8), c ∈ Go.Lib.decDigits u → isD c := by
  intro u
  induction u using Nat.strongRecOn with
  | _ u ih =>
    intro c hc
    by_cases h : u < 10
    · rw [Go.Lib.decDigits, dif_pos h] at hc
      obtain rfl := List.mem_singleton.1 hc
      unfold isD; rw [ofNat_dig u h]; omega
    · rw [Go.Lib.decDigits, dif_neg h] at hc
      rcases List.mem_append.1 hc with q | q
      · exact ih (u / 10) (by omega) c q
      · obtain rfl := List.mem_singleton.1 q
        unfold isD; rw [ofNat_dig (u % 10) (by omega)]; omega
theorem dec_ne : ∀ u : Nat, Go.Lib.decDigits u ≠ [] := by
  intro u h
  have := Go.Lib.decDigits_length u
  rw [h] at this
  have h2 := Go.Lib.nDigits_pos u
  simp at this; omega
theorem dec_val : ∀ (u : Nat), dval (Go.Lib.decDigits u) = u := by
  intro u
  induction u using Nat.strongRecOn with
  | _ u ih =>
    by_cases h : u < 10
    · rw [Go.Lib.decDigits, dif_pos h]
      have := ofNat_dig u h
      simp only [dval, List.foldl]; omega
    · rw [Go.Lib.decDigits, dif_neg h, dval_snoc, ih (u / 10) (by omega), ofNat_dig (u % 10) (by omega)]; omega
theorem dec_head : ∀ (u : Nat), 10 ≤ u → ∀ c, (Go.Lib.decDigits u).head? = some c → 49 ≤ c.toNat := by
  intro u
  induction u using Nat.strongRecOn with
  | _ u ih =>
    intro hu c hc
    rw [Go.Lib.decDigits, dif_neg (by omega)] at hc
    have hne := dec_ne (u / 10)
    rw [head_app _ _ hne] at hc
    by_cases h : u / 10 < 10
    · rw [Go.Lib.decDigits, dif_pos h] at hc
      obtain rfl := Option.some.inj hc
      rw [ofNat_dig (u / 10) h]; omega
    · exact ih (u / 10) (by omega) (by omega) c hc
theorem canon_dec : ∀ (n : Nat) (l : List UInt8), l.length = n → l ≠ [] → (∀ c ∈ l, isD c) → (∀ c, l.head? = some c → 1 < l.length → 49 ≤ c.toNat) → Go.Lib.decDigits (dval l) = l := by
  intro n
  induction n with
  | zero => intro l hl hne; exact absurd (List.length_eq_zero_iff.1 hl) hne
  | succ n ih =>
    intro l hl hne hd hh
    rcases List.eq_nil_or_concat l with q | ⟨xs, c, rfl⟩
    · exact absurd q hne
    · rw [List.concat_eq_append] at *
      have hc : isD c := hd c (by simp)
      unfold isD at hc
      have hcc : UInt8.ofNat (48 + (c.toNat - 48)) = c := by
        rw [show 48 + (c.toNat - 48) = c.toNat by omega]; exact UInt8.ofNat_toNat
      by_cases hx : xs = []
      · subst hx
        rw [dval_snoc]
        simp only [dval, List.foldl, List.nil_append]
        rw [Go.Lib.decDigits, dif_pos (by omega), show 48 + (10 * 0 + (c.toNat - 48)) = 48 + (c.toNat - 48) by omega, hcc]
      · have hxl : xs.length = n := by simpa using hl
        have hxp : 0 < xs.length := List.length_pos_iff.2 hx
        have h9 : ∀ d, xs.head? = some d → 49 ≤ d.toNat := fun d hd1 => hh d (by rw [head_app _ _ hx]; exact hd1) (by simp; omega)
        have ih1 := ih xs hxl hx (fun d hd1 => hd d (by simp [hd1])) (fun d hd1 _ => h9 d hd1)
        have hpos : 1 ≤ dval xs := by
          rcases Nat.eq_zero_or_pos (dval xs) with z | z
          · rw [z] at ih1
            have e : xs = [48] := by rw [← ih1]; rw [Go.Lib.decDigits, dif_pos (by omega)]; rfl
            have := h9 48 (by rw [e]; rfl)
            exact absurd this (by decide)
          · exact z
        rw [dval_snoc, Go.Lib.decDigits, dif_neg (by omega), show (10 * dval xs + (c.toNat - 48)) / 10 = dval xs by omega, show (10 * dval xs + (c.toNat - 48)) % 10 = c.toNat - 48 by omega, ih1, hcc]
theorem pM_snoc (M : Nat) (c : UInt8) : ∀ (l : List UInt8) (acc : Nat), Go.Lib.parseUintM M acc (l ++ [c]) = match Go.Lib.parseUintM M acc l with | .ok a => Go.Lib.parseUintM M a [c] | e => e
  | [], acc => rfl
  | d :: r, acc => by
    simp only [List.cons_append, Go.Lib.parseUintM]
    split
    · split
      · rfl
      · split
        · rfl
        · exact pM_snoc M c r _
    · rfl
theorem pM_dec : ∀ (u : Nat), u ≤ 18446744073709551615 → Go.Lib.parseUintM 18446744073709551615 0 (Go.Lib.decDigits u) = .ok u := by
  intro u
  induction u using Nat.strongRecOn with
  | _ u ih =>
    intro hu
    by_cases h : u < 10
    · rw [Go.Lib.decDigits, dif_pos h]
      have hd := ofNat_dig u h
      simp only [Go.Lib.parseUintM, hd]
      rw [if_pos (by omega), if_neg (by omega), if_neg (by omega)]; congr 1; omega
    · rw [Go.Lib.decDigits, dif_neg h, pM_snoc, ih (u / 10) (by omega) (by omega)]
      have hd := ofNat_dig (u % 10) (by omega)
      simp only [Go.Lib.parseUintM, hd]
      rw [if_pos (by omega), if_neg (by omega), if_neg (by omega)]; congr 1; omega
theorem pI_dec (u : Nat) (hu : u ≤ 9223372036854775807) : Go.Lib.parseIntB 64 (Go.Lib.decDigits u) = .ok (u : Int) := by
  have hp := pM_dec u (by omega)
  have hne := dec_ne u
  have hdg := dec_dig u
  generalize Go.Lib.decDigits u = l at hp hne hdg
  cases l with
  | nil => exact absurd rfl hne
  | cons c r =>
    have hc : isD c := hdg c (by simp)
    unfold isD at hc
    rw [Go.Lib.parseIntB_plain 64 c r (by omega) (by omega)]
    have e : (2 : Nat) ^ 64 - 1 = 18446744073709551615 := by decide
    have e2 : (2 : Nat) ^ (64 - 1) = 9223372036854775808 := by decide
    simp only [Go.Lib.parseUintB, e, hp, e2]
    simp only [Go.Lib.signlessC]
    simp only [reduceCtorEq, if_false]
    rw [if_neg (by omega)]
theorem itoa_nat (u : Nat) : Go.Lib.itoa (u : Int) = Go.Lib.decDigits u := by
  unfold Go.Lib.itoa; rw [if_neg (by omega)]; simp
theorem parseIt (l : List UInt8) (v : Int) (h0 : 0 ≤ v) (h : Go.Lib.itoa v = l) : l = Go.Lib.decDigits v.toNat := by
  rw [← h, ← itoa_nat, Int.toNat_of_nonneg h0]
theorem dec_len (u : Nat) (n : Nat) : (Go.Lib.decDigits u).length ≤ n ↔ (u < 10 ^ n ∧ 1 ≤ n) := by
  rw [Go.Lib.decDigits_length]
  constructor
  · intro h
    exact ⟨Nat.lt_of_lt_of_le (Go.Lib.lt_pow_nDigits u) (Nat.pow_le_pow_right (by decide) h), Nat.le_trans (Go.Lib.nDigits_pos u) h⟩
  · rintro ⟨h, hn⟩
    induction n generalizing u with
    | zero => omega
    | succ n ih =>
      by_cases q : u < 10
      · rw [Go.Lib.nDigits_small q]; omega
      · rw [Go.Lib.nDigits_big q]
        rcases Nat.eq_zero_or_pos n with z | z
        · subst z; simp at h; omega
        · have := ih (u / 10) (by rw [Nat.pow_succ] at h; omega) z
          omega
theorem dval_lt : ∀ (n : Nat) (l : List UInt8), l.length = n → (∀ c ∈ l, isD c) → dval l < 10 ^ n := by
  intro n
  induction n with
  | zero => intro l hl _; rw [List.length_eq_zero_iff.1 hl]; decide
  | succ n ih =>
    intro l hl hd
    rcases List.eq_nil_or_concat l with q | ⟨xs, c, rfl⟩
    · rw [q] at hl; exact absurd hl (by simp)
    · rw [List.concat_eq_append] at *
      have hc : isD c := hd c (by simp)
      unfold isD at hc
      have h1 := ih xs (by simpa using hl) (fun d h => hd d (by simp [h]))
      rw [dval_snoc, Nat.pow_succ]; omega
def isDB (c : UInt8) : Bool := decide (48 ≤ c.toNat) && decide (c.toNat ≤ 57)
theorem isDB_iff (c : UInt8) : isDB c = true ↔ isD c := by simp [isDB, isD]
def isCan (l : List UInt8) : Bool := !l.isEmpty && (l.all isDB && (decide (l.length ≤ 1) || l.head? != some 48))
theorem isCan_dec (u : Nat) : isCan (Go.Lib.decDigits u) = true := by
  unfold isCan
  have h1 := dec_ne u
  have h2 : (Go.Lib.decDigits u).all isDB = true := by
    rw [List.all_eq_true]; intro c hc; exact (isDB_iff c).2 (dec_dig u c hc)
  rw [h2]
  have h3 : (Go.Lib.decDigits u).isEmpty = false := by
    cases h : Go.Lib.decDigits u with
    | nil => exact absurd h h1
    | cons a b => rfl
  rw [h3]
  by_cases h : u < 10
  · have : (Go.Lib.decDigits u).length ≤ 1 := by rw [Go.Lib.decDigits, dif_pos h]; exact Nat.le_refl _
    simp [this]
  · have h4 : (Go.Lib.decDigits u).head? ≠ some 48 := fun e => by
      have := dec_head u (by omega) 48 e
      exact absurd this (by decide)
    have : ((Go.Lib.decDigits u).head? != some 48) = true := bne_iff_ne.mpr h4
    rw [this]; simp
theorem isCan_val (l : List UInt8) (h : isCan l = true) : Go.Lib.decDigits (dval l) = l := by
  unfold isCan at h
  simp only [Bool.and_eq_true, Bool.not_eq_true', Bool.or_eq_true, decide_eq_true_eq] at h
  obtain ⟨h1, h2, h3⟩ := h
  rw [List.all_eq_true] at h2
  have hd : ∀ c ∈ l, isD c := fun c hc => (isDB_iff c).1 (h2 c hc)
  refine canon_dec l.length l rfl (fun e => by rw [e] at h1; exact absurd h1 (by decide)) hd (fun c hc hl => ?_)
  rcases h3 with h3 | h3
  · omega
  · have h4 : l.head? ≠ some 48 := bne_iff_ne.mp h3
    have hc1 : isD c := by
      cases l with
      | nil => exact absurd hc (by simp)
      | cons a r => obtain rfl := Option.some.inj hc; exact hd a (by simp)
    unfold isD at hc1
    have : c.toNat ≠ 48 := fun e => h4 (by rw [hc]; congr 1; exact UInt8.toNat_inj.1 e)
    omega
theorem numV_can (s : ByteArray) (most : Int) (hm : most ≤ 9223372036854775807) (h : isCan s.data.toList = true) (hle : (dval s.data.toList : Int) ≤ most) : Go.Proofs.YtchnklikeimpiaaDoor.H.numV s most = ((dval s.data.toList : Int), true) := by
  have hd := isCan_val _ h
  have hp := pI_dec (dval s.data.toList) (by omega)
  rw [hd] at hp
  unfold Go.Proofs.YtchnklikeimpiaaDoor.H.numV
  rw [hp]
  refine if_pos ⟨?_, by omega, hle⟩
  rw [itoa_nat, hd, ByteArray.toList_eq]
theorem numV_not (s : ByteArray) (most : Int) (h : ¬ (isCan s.data.toList = true ∧ (dval s.data.toList : Int) ≤ most)) : Go.Proofs.YtchnklikeimpiaaDoor.H.numV s most = (0, false) := by
  unfold Go.Proofs.YtchnklikeimpiaaDoor.H.numV
  split
  · rename_i v hv
    refine if_neg (fun ⟨h1, h2, h3⟩ => h ?_)
    have he : Go.Lib.itoa v = s.data.toList := by
      have : (⟨(Go.Lib.itoa v).toArray⟩ : ByteArray).toList = s.toList := h1
      rw [ByteArray.toList_eq, ByteArray.toList_eq] at this
      exact this
    have hl := parseIt _ v h2 he
    refine ⟨by rw [hl]; exact isCan_dec _, ?_⟩
    rw [hl, dec_val]; omega
  · rfl
def numS (l : List UInt8) : Int × Bool := if isCan l = true ∧ l.length ≤ 10 then ((dval l : Int), true) else (0, false)
theorem numV_S (s : ByteArray) (most : Int) (hm : most ≤ 9999999999) : Go.Proofs.YtchnklikeimpiaaDoor.H.numV s most = if (numS s.data.toList).2 = true ∧ (numS s.data.toList).1 ≤ most then numS s.data.toList else (0, false) := by
  by_cases h : isCan s.data.toList = true ∧ (dval s.data.toList : Int) ≤ most
  · rw [numV_can s most (by omega) h.1 h.2]
    have hl : s.data.toList.length ≤ 10 := by
      have := (dec_len (dval s.data.toList) 10).2 ⟨by omega, by decide⟩
      rw [isCan_val _ h.1] at this
      exact this
    have hn : numS s.data.toList = ((dval s.data.toList : Int), true) := if_pos ⟨h.1, hl⟩
    rw [hn, if_pos ⟨rfl, h.2⟩]
  · rw [numV_not s most h]
    by_cases c : isCan s.data.toList = true ∧ s.data.toList.length ≤ 10
    · have hn : numS s.data.toList = ((dval s.data.toList : Int), true) := if_pos c
      rw [hn, if_neg (fun x => h ⟨c.1, x.2⟩)]
    · have hn : numS s.data.toList = (0, false) := if_neg c
      rw [hn, if_neg (fun x => absurd x.1 (by decide))]
theorem numS_rng (l : List UInt8) : 0 ≤ (numS l).1 ∧ (numS l).1 ≤ 9999999999 := by
  unfold numS
  by_cases c : isCan l = true ∧ l.length ≤ 10
  · rw [if_pos c]
    have := (dec_len (dval l) 10).1 (by rw [isCan_val _ c.1]; exact c.2)
    have h2 := this.1
    refine ⟨by omega, ?_⟩
    show ((dval l : Nat) : Int) ≤ 9999999999
    omega
  · rw [if_neg c]; decide
theorem numV_rng (s : ByteArray) (most : Int) (h0 : 0 ≤ most) (hm : most ≤ 9999999999) : 0 ≤ (Go.Proofs.YtchnklikeimpiaaDoor.H.numV s most).1 ∧ (Go.Proofs.YtchnklikeimpiaaDoor.H.numV s most).1 ≤ most := by
  rw [numV_S s most hm]
  have := numS_rng s.data.toList
  by_cases c : (numS s.data.toList).2 = true ∧ (numS s.data.toList).1 ≤ most
  · rw [if_pos c]; exact ⟨this.1, c.2⟩
  · rw [if_neg c]; exact ⟨Int.le_refl _, h0⟩
theorem implNum_eq (s : ByteArray) (most : Int) (hs : s.size ≤ 1048576) : impl_number.f s most = some (Go.Proofs.YtchnklikeimpiaaDoor.H.numV s most) := by
  unfold impl_number.f
  rw [if_pos (by omega)]
theorem specNum_l0 (s : ByteArray) (hs : s.size ≤ 10) : ∀ (d i k : Nat), i + d = s.size → d < k → (∀ c ∈ s.data.toList.take i, isD c) → spec_l01Number.l0 k s (dval (s.data.toList.take i) : Int) (i : Int) = some (if (s.data.toList.drop i).all isDB = true then ((dval s.data.toList : Int), true) else (0, false)) := by
  intro d
  have hlen : s.data.toList.length = s.size := rfl
  induction d with
  | zero =>
    intro i k hi hk _
    obtain ⟨k, rfl⟩ : ∃ m, k = m + 1 := ⟨k - 1, by omega⟩
    simp only [spec_l01Number.l0]
    rw [if_neg (by omega), List.drop_eq_nil_of_le (by omega), List.take_of_length_le (by omega)]
    rfl
  | succ d ih =>
    intro i k hi hk hd
    obtain ⟨k, rfl⟩ : ∃ m, k = m + 1 := ⟨k - 1, by omega⟩
    have hlt : i < s.size := by omega
    have hb : bt s (i : Int) = ((s[i]).toNat : Int) := (bt_at s (i : Int) (by simpa using hlt)).symm
    have hdr : s.data.toList.drop i = s[i] :: s.data.toList.drop (i + 1) := by
      rw [List.drop_eq_getElem_cons (show i < s.data.toList.length from hlt)]; rfl
    have htk : s.data.toList.take (i + 1) = s.data.toList.take i ++ [s[i]] := by
      rw [List.take_succ_eq_append_getElem (show i < s.data.toList.length from hlt)]; rfl
    simp only [spec_l01Number.l0]
    rw [if_pos (by omega), if_pos (by omega), hb, hdr, List.all_cons]
    generalize hc : s[i] = c at *
    by_cases h1 : c.toNat < 48
    · have : isDB c = false := by simp [isDB]; omega
      rw [if_pos (by omega), this, Bool.false_and, if_neg (by decide)]
    rw [if_neg (by omega)]
    by_cases h2 : 57 < c.toNat
    · have : isDB c = false := by simp [isDB]; omega
      rw [if_pos (by omega), this, Bool.false_and, if_neg (by decide)]
    rw [if_neg (by omega)]
    have hcd : isD c := ⟨by omega, by omega⟩
    have : isDB c = true := (isDB_iff c).2 hcd
    rw [this, Bool.true_and]
    have hv := dval_lt i (s.data.toList.take i) (by rw [List.length_take]; omega) hd
    have hp : 10 ^ i ≤ 10 ^ 10 := Nat.pow_le_pow_right (by decide) (by omega)
    have hp10 : (10 : Nat) ^ 10 = 10000000000 := by decide
    have hw1 : wrap64 (10 * ((dval (s.data.toList.take i) : Nat) : Int)) = 10 * ((dval (s.data.toList.take i) : Nat) : Int) := wrap64_id _ (by omega) (by omega)
    have hm : ((c.toNat : Int) - 48) % 256 = ((c.toNat - 48 : Nat) : Int) := by omega
    have hw2 : wrap64 (10 * ((dval (s.data.toList.take i) : Nat) : Int) + ((c.toNat - 48 : Nat) : Int)) = ((dval (s.data.toList.take (i + 1)) : Nat) : Int) := by
      rw [wrap64_id _ (by omega) (by omega), htk, dval_snoc]; omega
    rw [hw1, hm, hw2, wrap_nat i (by omega)]
    exact ih (i + 1) k (by omega) (by omega) (fun x hx => by
      rw [htk] at hx
      rcases List.mem_append.1 hx with q | q
      · exact hd x q
      · rw [List.mem_singleton.1 q]; exact hcd)
theorem specNum_eq (s : ByteArray) (k : Nat) (hk : 20 < k) : spec_l01Number.f k s = some (numS s.data.toList) := by
  have hlen : s.data.toList.length = s.size := rfl
  have hts : s.toList = s.data.toList := ByteArray.toList_eq s
  obtain ⟨k, rfl⟩ : ∃ m, k = m + 1 := ⟨k - 1, by omega⟩
  unfold spec_l01Number.f
  simp only [spec_l01Number.j0]
  by_cases h0 : s.toList = ([] : List UInt8)
  · rw [if_pos h0, if_pos trivial]
    rw [hts] at h0
    unfold numS
    rw [h0, if_neg (by decide)]
  rw [if_neg h0]
  have hne : s.data.toList ≠ [] := by rw [← hts]; exact h0
  have hpos : 0 < s.size := by rw [← hlen]; exact List.length_pos_iff.2 hne
  by_cases h10 : (s.size : Int) > 10
  · rw [if_pos h10, if_pos trivial]
    unfold numS
    rw [if_neg (fun x => by have := x.2; omega)]
  rw [if_neg h10, if_pos (by omega)]
  have hl0 := specNum_l0 s (by omega) s.size 0 k (by omega) (by omega) (fun c hc => absurd hc (by simp))
  rw [List.take_zero, List.drop_zero] at hl0
  have hl0 : spec_l01Number.l0 k s 0 0 = some (if s.data.toList.all isDB = true then ((dval s.data.toList : Int), true) else (0, false)) := hl0
  have hb : bt s 0 = ((s[0]).toNat : Int) := (bt_at s 0 (by simpa using hpos)).symm
  have hh : s.data.toList.head? = some s[0] := by
    have : s.data.toList = s[0] :: s.data.toList.drop 1 := by
      have := List.drop_eq_getElem_cons (show 0 < s.data.toList.length from hpos)
      rw [List.drop_zero] at this
      exact this
    rw [this]; rfl
  have hem : s.data.toList.isEmpty = false := by
    cases h : s.data.toList with
    | nil => exact absurd h hne
    | cons a b => rfl
  by_cases h48 : bt s 0 = 48
  · rw [if_pos h48]
    have hc : s[0] = 48 := UInt8.toNat_inj.1 (by rw [hb] at h48; show (s[0]).toNat = 48; omega)
    by_cases h1 : (s.size : Int) > 1
    · rw [decide_eq_true h1, if_pos rfl]
      unfold numS isCan
      rw [hh, hc, decide_eq_false (by omega : ¬ s.data.toList.length ≤ 1), if_neg (by simp)]
    · rw [decide_eq_false h1, if_neg (by decide), hl0]
      unfold numS isCan
      rw [hem, decide_eq_true (by omega : s.data.toList.length ≤ 1)]
      have : s.data.toList.length ≤ 10 := by omega
      generalize s.data.toList = L at this ⊢
      simp [this]
  · rw [if_neg h48, if_neg (by decide), hl0]
    have hc : (s.data.toList.head? != some 48) = true := bne_iff_ne.mpr (fun e => h48 (by
      rw [hh] at e
      rw [hb, Option.some.inj e]; rfl))
    unfold numS isCan
    rw [hem, hc]
    have : s.data.toList.length ≤ 10 := by omega
    generalize s.data.toList = L at this ⊢
    simp [this]

def dB (n : Int) : ByteArray := ⟨(Go.Lib.itoa n).toArray⟩
theorem dB_size (n : Int) (h : 0 ≤ n ∧ n ≤ 100000) : (dB n).size ≤ 21 := by
  have := Go.Lib.itoa_length_le n (by omega) (by omega)
  simpa [dB, ByteArray.size] using this
theorem implDec_eq (n : Int) (h : 0 ≤ n ∧ n ≤ 100000) : impl_decimal.f n = some (dB n) := by
  unfold impl_decimal.f dB
  rw [if_pos (by omega)]
def joinB (sep : ByteArray) (xs : List ByteArray) : ByteArray := ⟨(Go.Lib.join (xs.map (·.data.toList)) sep.data.toList).toArray⟩
theorem joinB_nil (sep : ByteArray) : joinB sep [] = ⟨#[]⟩ := rfl
theorem joinB_fold (sep : ByteArray) : ∀ (r : List ByteArray) (a : ByteArray), r.foldl (fun a y => (a ++ sep) ++ y) a = ⟨(a.data.toList ++ Go.Lib.joinTail sep.data.toList (r.map (·.data.toList))).toArray⟩ := by
  intro r
  induction r with
  | nil => intro a; simp [Go.Lib.joinTail]
  | cons y r ih =>
    intro a
    rw [List.foldl_cons, ih]
    simp [Go.Lib.joinTail, ByteArray.data_append]
theorem joinB_cons (sep x : ByteArray) (r : List ByteArray) : joinB sep (x :: r) = r.foldl (fun a y => (a ++ sep) ++ y) x := by
  rw [joinB_fold]
  unfold joinB
  rw [List.map_cons, Go.Lib.join_cons]
theorem fold_size (sep : ByteArray) (hsep : sep.size = 1) : ∀ (r : List ByteArray) (a : ByteArray), (∀ x ∈ r, x.size ≤ 21) → (r.foldl (fun a y => (a ++ sep) ++ y) a).size ≤ a.size + 22 * r.length := by
  intro r
  induction r with
  | nil => intro a _; simp
  | cons y r ih =>
    intro a h
    rw [List.foldl_cons, List.length_cons]
    have h1 := ih ((a ++ sep) ++ y) (fun x hx => h x (List.mem_cons_of_mem _ hx))
    have h2 := h y (by simp)
    rw [ByteArray.size_append, ByteArray.size_append] at h1
    omega
theorem joinB_size (sep : ByteArray) (hsep : sep.size = 1) (xs : List ByteArray) (h : ∀ x ∈ xs, x.size ≤ 21) : (joinB sep xs).size ≤ 22 * xs.length := by
  cases xs with
  | nil => rw [joinB_nil]; simp [ByteArray.size]
  | cons x r =>
    rw [joinB_cons, List.length_cons]
    have h1 := fold_size sep hsep r x (fun y hy => h y (List.mem_cons_of_mem _ hy))
    have h2 := h x (by simp)
    omega
theorem implJoin_eq (xs : List ByteArray) (sep : ByteArray) (hl : xs.length ≤ 100000) (hs : (joinB sep xs).size ≤ 100000000) : strings_Join.f xs sep = some (joinB sep xs) := by
  unfold strings_Join.f
  have h1 : (Go.Lib.join (xs.map (·.data.toList)) sep.data.toList).length ≤ 100000000 := by simpa [joinB, ByteArray.size] using hs
  rw [if_pos ⟨by omega, by omega⟩]
  rfl

theorem wrap_u16 (n : Int) : IntKind.u16.wrap n = n % 65536 := by simp [IntKind.wrap, IntKind.bits, IntKind.signed]
theorem wrap_u64 (n : Int) : IntKind.u64.wrap n = n % 18446744073709551616 := by simp [IntKind.wrap, IntKind.bits, IntKind.signed]
theorem wraps_u16 (n : Int) (h₀ : 0 ≤ n) (h₁ : n < 2 ^ 16) : IntKind.u16.wrap n = n := by rw [wrap_u16]; omega
theorem wrap_u64_id (n : Int) (h0 : 0 ≤ n) (h1 : n < 18446744073709551616) : IntKind.u64.wrap n = n := by rw [wrap_u64]; omega
theorem and_one (x : Int) (h₀ : 0 ≤ x) (h₁ : x < 65536) : Go.bits .and .u16 x 1 = x % 2 := by
  have := Go.bits_mask .u16 16 (by decide) wraps_u16 1 (by decide) x h₀ (by omega)
  simpa using this
theorem shr_range (a n : Int) (h0 : 0 ≤ a) (h1 : a < 65536) : 0 ≤ shr .u16 a n ∧ shr .u16 a n < 65536 := by
  unfold shr
  have hp : (0 : Int) < 2 ^ min n.toNat IntKind.u16.bits := Int.pow_pos (by decide)
  constructor
  · exact Int.ediv_nonneg h0 (Int.le_of_lt hp)
  · exact Int.lt_of_le_of_lt (Int.ediv_le_self _ h0) h1
theorem in_eq (a b c : Int) : spec_l00In.f a b c = some (decide (b ≤ a ∧ a ≤ c)) := by
  unfold spec_l00In.f
  by_cases h : b ≤ a
  · rw [if_pos (by omega)]; simp [h]
  · rw [if_neg (by omega)]; simp [h]
theorem within_eq (a b c : Int) : impl_within.f a b c = some (decide (b ≤ a ∧ a ≤ c)) := by
  unfold impl_within.f
  by_cases h : b ≤ a
  · rw [if_pos (by omega)]; simp [h]
  · rw [if_neg (by omega)]; simp [h]
def isP (i : Int) : Bool := decide (0 ≤ i ∧ i ≤ 13)
theorem isP_iff (i : Int) : isP i = true ↔ 0 ≤ i ∧ i ≤ 13 := by simp [isP]
theorem l05Person_eq (i : Int) : spec_l05Person.f i = some (isP i) := by
  unfold spec_l05Person.f
  rw [in_eq]; rfl
theorem isPerson_eq (i : Int) : impl_isPerson.f i = some (isP i) := by
  unfold impl_isPerson.f
  rw [within_eq]; rfl
/-- Is number i in the set p? -/
def hasB (p i : Int) : Bool := shr .u16 p i % 2 == 1
def hasP (p i : Int) : Bool := isP i && hasB p i
theorem implHas_eq (p i : Int) (h0 : 0 ≤ p) (h1 : p < 65536) : impl_HasPerson.f p i = some (hasP p i) := by
  unfold impl_HasPerson.f
  rw [isPerson_eq, Option.bind_some]
  by_cases h : isP i = true
  · have := (isP_iff i).1 h
    rw [if_pos h, if_pos (by omega), and_one _ (shr_range p i h0 h1).1 (shr_range p i h0 h1).2]
    simp [hasP, h, hasB]
  · rw [if_neg h]
    simp [hasP, h]

def allB (p : Int) : Int := IntKind.u16.wrap (shl .u16 1 p - 1)
theorem l05All_eq (p : Int) (h0 : 0 ≤ p) (h1 : p < 18446744073709551616) : spec_l05All.f p = some (allB p) := by
  unfold spec_l05All.f
  rw [wrap_u64_id p h0 h1, if_pos h0]
  rfl
theorem everybody_eq (p : Int) (h0 : 0 ≤ p) : impl_everybody.f p = some (allB p) := by
  unfold impl_everybody.f
  rw [if_pos h0]
  rfl
def cntOk (c : Int) : Bool := decide (0 ≤ wrap64 c ∧ wrap64 c ≤ 100)
def okFrom (b : Int) : List Int → List Int → Bool
  | s :: ss, c :: cs => decide (Go.bits .andNot .u16 s b = 0) && cntOk c && okFrom s ss cs
  | _, _ => true
def okLog (p : Int) (s c : List Int) : Bool :=
  decide (1 ≤ p ∧ p ≤ 14) && decide (1 ≤ (s.length : Int) ∧ (s.length : Int) ≤ 12) && decide (s.length = c.length) && okFrom (allB p) s c
theorem l05Ok_l0 (p : Int) (s c : List Int) (hl : s.length ≤ 1048576) (hc : s.length = c.length) : ∀ (d i k : Nat) (b : Int), i + d = s.length → d < k → spec_l05Ok.l0 k b (i : Int) p s c = some (okFrom b (s.drop i) (c.drop i)) := by
  intro d
  induction d with
  | zero =>
    intro i k b hi hk
    obtain ⟨k, rfl⟩ : ∃ m, k = m + 1 := ⟨k - 1, by omega⟩
    simp only [spec_l05Ok.l0]
    rw [if_neg (by omega), List.drop_eq_nil_of_le (by omega)]
    simp [okFrom]
  | succ d ih =>
    intro i k b hi hk
    obtain ⟨k, rfl⟩ : ∃ m, k = m + 1 := ⟨k - 1, by omega⟩
    simp only [spec_l05Ok.l0]
    rw [if_pos (by omega), if_pos (by omega), if_pos (show (i : Int) < (c.length : Int) by omega), drop_rd s i (by omega), drop_rd c i (by omega), in_eq, Option.bind_some, wrap_nat i (by omega), ih (i + 1) k _ (by omega) (by omega)]
    by_cases h1 : Go.bits .andNot .u16 (rd s (i : Int)) b = 0 <;> by_cases h2 : 0 ≤ wrap64 (rd c (i : Int)) ∧ wrap64 (rd c (i : Int)) ≤ 100 <;> simp [okFrom, cntOk, h1, h2]
theorem l05Ok_eq (p : Int) (s c : List Int) (hl : s.length ≤ 1048576) (k : Nat) (hk : 1048578 < k) : spec_l05Ok.f k p s c = some (okLog p s c) := by
  unfold spec_l05Ok.f
  rw [in_eq, in_eq]
  simp only [Option.bind_some]
  obtain ⟨k, rfl⟩ : ∃ m, k = m + 1 := ⟨k - 1, by omega⟩
  by_cases h1 : 1 ≤ p ∧ p ≤ 14
  · by_cases h2 : 1 ≤ (s.length : Int) ∧ (s.length : Int) ≤ 12
    · rw [decide_eq_true h1, if_pos rfl, decide_eq_true h2, if_pos rfl]
      simp only [spec_l05Ok.j0]
      by_cases h3 : s.length = c.length
      · have := l05Ok_l0 p s c hl h3 s.length 0 k (allB p) (by omega) (by omega)
        rw [show ((0 : Nat) : Int) = 0 from rfl] at this
        rw [if_neg (by simp [h3]), l05All_eq p (by omega) (by omega), Option.bind_some, this]
        simp only [okLog, decide_eq_true h1, decide_eq_true h2, decide_eq_true h3, Bool.true_and, List.drop_zero]
      · rw [if_pos (by simp; omega)]
        simp [okLog, h3]
    · rw [decide_eq_true h1, if_pos rfl, decide_eq_false h2, if_neg (by decide)]
      simp only [spec_l05Ok.j0, if_true]
      simp [okLog, h2]
  · rw [decide_eq_false h1, if_neg (by decide)]
    simp only [spec_l05Ok.j0, if_true]
    simp [okLog, h1]
theorem okLog_iff (p : Int) (s c : List Int) (h : okLog p s c = true) : (1 ≤ p ∧ p ≤ 14) ∧ (1 ≤ s.length ∧ s.length ≤ 12) ∧ s.length = c.length := by
  simp only [okLog, Bool.and_eq_true, decide_eq_true_eq] at h
  omega
/-- Who was seen before station i. -/
def befB (p : Int) (s : List Int) (i : Nat) : Int := if i = 0 then allB p else s.getD (i - 1) 0
theorem before_eq (p : Int) (s c : List Int) (h0 : 0 ≤ p) (i : Nat) (hi : i ≤ s.length) (hl : s.length ≤ 1048576) : impl_Log_before.f p s c (i : Int) = some (befB p s i) := by
  unfold impl_Log_before.f befB
  by_cases h : i = 0
  · subst h
    rw [if_pos (show ((0 : Nat) : Int) = 0 from rfl), everybody_eq p h0, if_pos rfl]
    rfl
  · rw [if_neg (by omega), wrap64_id _ (by omega) (by omega), if_pos (by omega), if_pos (by omega), if_neg h]
    rw [show (i : Int) - 1 = ((i - 1 : Nat) : Int) by omega, rd_nat]
theorem implValid_l0 (p : Int) (s c : List Int) (hp : 0 ≤ p) (hl : s.length ≤ 1048576) (hc : s.length = c.length) : ∀ (d i k : Nat), i + d = s.length → d < k → impl_ValidLog.l0 k s (s.length : Int) (i : Int) p s c = some (okFrom (befB p s i) (s.drop i) (c.drop i)) := by
  intro d
  induction d with
  | zero =>
    intro i k hi hk
    obtain ⟨k, rfl⟩ : ∃ m, k = m + 1 := ⟨k - 1, by omega⟩
    simp only [impl_ValidLog.l0]
    rw [if_neg (by omega), List.drop_eq_nil_of_le (by omega)]
    simp [okFrom]
  | succ d ih =>
    intro i k hi hk
    obtain ⟨k, rfl⟩ : ∃ m, k = m + 1 := ⟨k - 1, by omega⟩
    have hb : befB p s (i + 1) = rd s (i : Int) := by
      unfold befB
      rw [if_neg (by omega), rd_nat]
      rfl
    simp only [impl_ValidLog.l0]
    rw [if_pos (by omega), if_pos (by omega), if_pos (by omega), before_eq p s c hp i (by omega) hl, Option.bind_some, if_pos (show (i : Int) < (c.length : Int) by omega), drop_rd s i (by omega), drop_rd c i (by omega), within_eq, Option.bind_some, wrap_nat i (by omega), ih (i + 1) k (by omega) (by omega), hb]
    by_cases h1 : Go.bits .andNot .u16 (rd s (i : Int)) (befB p s i) = 0 <;> by_cases h2 : 0 ≤ wrap64 (rd c (i : Int)) ∧ wrap64 (rd c (i : Int)) ≤ 100 <;> simp [okFrom, cntOk, h1, h2]
theorem implValid_eq (p : Int) (s c : List Int) (hl : s.length ≤ 1048576) (k : Nat) (hk : 1048578 < k) : impl_ValidLog.f k p s c = some (okLog p s c) := by
  unfold impl_ValidLog.f impl_size_People.f
  simp only [within_eq, Option.bind_some]
  obtain ⟨k, rfl⟩ : ∃ m, k = m + 1 := ⟨k - 1, by omega⟩
  by_cases h1 : 1 ≤ p ∧ p ≤ 14
  · by_cases h2 : 1 ≤ (s.length : Int) ∧ (s.length : Int) ≤ 12
    · rw [decide_eq_true h1, if_pos rfl, decide_eq_true h2, if_pos rfl]
      simp only [impl_ValidLog.j0]
      by_cases h3 : s.length = c.length
      · have := implValid_l0 p s c (by omega) hl h3 s.length 0 k (by omega) (by omega)
        rw [show ((0 : Nat) : Int) = 0 from rfl] at this
        rw [if_neg (by simp [h3]), this]
        simp only [okLog, decide_eq_true h1, decide_eq_true h2, decide_eq_true h3, Bool.true_and, List.drop_zero, befB, if_true]
      · rw [if_pos (by simp; omega)]
        simp [okLog, h3]
    · rw [decide_eq_true h1, if_pos rfl, decide_eq_false h2, if_neg (by decide)]
      simp only [impl_ValidLog.j0, if_true]
      simp [okLog, h2]
  · rw [decide_eq_false h1, if_neg (by decide)]
    simp only [impl_ValidLog.j0, if_true]
    simp [okLog, h1]

theorem eqPeopleS_l0 (a b : List Int) (hab : a.length = b.length) (hl : a.length ≤ 1048576) : ∀ (d i k : Nat), i + d = a.length → d < k → laws_eqPeopleS.l0 k a b (i : Int) = some (decide (a.drop i = b.drop i)) := by
  intro d
  induction d with
  | zero =>
    intro i k hi hk
    obtain ⟨k, rfl⟩ : ∃ m, k = m + 1 := ⟨k - 1, by omega⟩
    simp only [laws_eqPeopleS.l0]
    rw [if_neg (by omega), List.drop_eq_nil_of_le (by omega), List.drop_eq_nil_of_le (by omega)]
    simp
  | succ d ih =>
    intro i k hi hk
    obtain ⟨k, rfl⟩ : ∃ m, k = m + 1 := ⟨k - 1, by omega⟩
    have ha : a.drop i = rd a (i : Int) :: a.drop (i + 1) := by
      rw [drop_getD 0 a i (by omega)]; simp [rd]
    have hb : b.drop i = rd b (i : Int) :: b.drop (i + 1) := by
      rw [drop_getD 0 b i (by omega)]; simp [rd]
    simp only [laws_eqPeopleS.l0]
    rw [if_pos (by omega), if_pos (by omega), if_pos (by omega), ha, hb]
    by_cases e : rd a (i : Int) = rd b (i : Int)
    · rw [if_pos e, wrap_nat i (by omega), ih (i + 1) k (by omega) (by omega)]
      simp [e]
    · rw [if_neg e]
      simp [e]
theorem eqPeopleS_eq (a b : List Int) (hl : a.length ≤ 1048576) (k : Nat) (hk : a.length < k) : laws_eqPeopleS.f k a b = some (decide (a = b)) := by
  unfold laws_eqPeopleS.f
  by_cases h : a.length = b.length
  · rw [if_pos (by omega)]
    have := eqPeopleS_l0 a b h hl a.length 0 k (by omega) hk
    simpa using this
  · rw [if_neg (by omega)]
    have : a ≠ b := fun e => h (by rw [e])
    simp [this]

theorem eqInt16S_l0 (a b : List Int) (hab : a.length = b.length) (hl : a.length ≤ 1048576) : ∀ (d i k : Nat), i + d = a.length → d < k → laws_eqInt16S.l0 k a b (i : Int) = some (decide (a.drop i = b.drop i)) := by
  intro d
  induction d with
  | zero =>
    intro i k hi hk
    obtain ⟨k, rfl⟩ : ∃ m, k = m + 1 := ⟨k - 1, by omega⟩
    simp only [laws_eqInt16S.l0]
    rw [if_neg (by omega), List.drop_eq_nil_of_le (by omega), List.drop_eq_nil_of_le (by omega)]
    simp
  | succ d ih =>
    intro i k hi hk
    obtain ⟨k, rfl⟩ : ∃ m, k = m + 1 := ⟨k - 1, by omega⟩
    have ha : a.drop i = rd a (i : Int) :: a.drop (i + 1) := by
      rw [drop_getD 0 a i (by omega)]; simp [rd]
    have hb : b.drop i = rd b (i : Int) :: b.drop (i + 1) := by
      rw [drop_getD 0 b i (by omega)]; simp [rd]
    simp only [laws_eqInt16S.l0]
    rw [if_pos (by omega), if_pos (by omega), if_pos (by omega), ha, hb]
    by_cases e : rd a (i : Int) = rd b (i : Int)
    · rw [if_pos e, wrap_nat i (by omega), ih (i + 1) k (by omega) (by omega)]
      simp [e]
    · rw [if_neg e]
      simp [e]
theorem eqInt16S_eq (a b : List Int) (hl : a.length ≤ 1048576) (k : Nat) (hk : a.length < k) : laws_eqInt16S.f k a b = some (decide (a = b)) := by
  unfold laws_eqInt16S.f
  by_cases h : a.length = b.length
  · rw [if_pos (by omega)]
    have := eqInt16S_l0 a b h hl a.length 0 k (by omega) hk
    simpa using this
  · rw [if_neg (by omega)]
    have : a ≠ b := fun e => h (by rw [e])
    simp [this]

theorem eqLog_eq (p : Int) (s c : List Int) (q : Int) (t d : List Int) (hs : s.length ≤ 1048576) (hc : c.length ≤ 1048576) (k : Nat) (hk : 1048576 < k) : laws_eqLog.f k p s c q t d = some (decide (p = q ∧ s = t ∧ c = d)) := by
  unfold laws_eqLog.f
  rw [eqPeopleS_eq s t hs k (by omega), eqInt16S_eq c d hc k (by omega)]
  by_cases h1 : p = q <;> by_cases h2 : s = t <;> by_cases h3 : c = d <;> simp [h1, h2, h3]
/-- The numbers of a set from i on. -/
def listFrom (p : Int) : Nat → Nat → List Int
  | 0, _ => []
  | d + 1, i => if hasB p (i : Int) = true then (i : Int) :: listFrom p d (i + 1) else listFrom p d (i + 1)
def listP (p : Int) : List Int := listFrom p 14 0
theorem listFrom_length (p : Int) : ∀ d i, (listFrom p d i).length ≤ d
  | 0, _ => by simp [listFrom]
  | d + 1, i => by
    have := listFrom_length p d (i + 1)
    unfold listFrom
    split <;> simp <;> omega
theorem listP_length (p : Int) : (listP p).length ≤ 14 := listFrom_length p 14 0
theorem indices_l0 (p : Int) (h0 : 0 ≤ p) (h1 : p < 65536) : ∀ (d i k : Nat) (xs : List Int), i + d = 14 → d < k → xs.length ≤ i → impl_indices_at_ListPeople_1.l0 k xs 14 (i : Int) p = some (xs ++ listFrom p d i) := by
  intro d
  induction d with
  | zero =>
    intro i k xs hi hk hx
    obtain ⟨k, rfl⟩ : ∃ m, k = m + 1 := ⟨k - 1, by omega⟩
    simp only [impl_indices_at_ListPeople_1.l0]
    rw [if_neg (by omega)]
    simp [listFrom]
  | succ d ih =>
    intro i k xs hi hk hx
    obtain ⟨k, rfl⟩ : ∃ m, k = m + 1 := ⟨k - 1, by omega⟩
    simp only [impl_indices_at_ListPeople_1.l0, impl_ListPeople_1.f]
    have hh : hasP p (i : Int) = hasB p (i : Int) := by
      simp [hasP, (isP_iff (i : Int)).2 (by omega)]
    rw [if_pos (by omega), implHas_eq p i h0 h1, hh, Option.bind_some, Option.bind_some, wrap_nat i (by omega)]
    unfold listFrom
    by_cases h : hasB p (i : Int) = true
    · rw [if_pos h, if_pos (by omega), ih (i + 1) k _ (by omega) (by omega) (by simp; omega), if_pos h]
      simp
    · rw [if_neg h, ih (i + 1) k _ (by omega) (by omega) (by omega), if_neg h]
theorem ListPeople_eq (p : Int) (h0 : 0 ≤ p) (h1 : p < 65536) (k : Nat) (hk : 14 < k) : impl_ListPeople.f k p = some (listP p) := by
  unfold impl_ListPeople.f impl_indices_at_ListPeople_1.f
  have := indices_l0 p h0 h1 14 0 k [] (by omega) hk (by simp)
  rw [show ((0 : Nat) : Int) = 0 from rfl] at this
  rw [this]
  simp [listP]

theorem okFrom_cnt : ∀ (s c : List Int) (b : Int), okFrom b s c = true → ∀ i : Nat, i < s.length → i < c.length → cntOk (rd c (i : Int)) = true := by
  intro s
  induction s with
  | nil => intro c b _ i hi; simp at hi
  | cons x s ih =>
    intro c b h i hi hc
    cases c with
    | nil => simp at hc
    | cons y c =>
      unfold okFrom at h
      rw [Bool.and_eq_true, Bool.and_eq_true] at h
      cases i with
      | zero => rw [rd_nat]; exact h.1.2
      | succ i =>
        have := ih c x h.2 i (by simpa using hi) (by simpa using hc)
        rw [rd_nat] at this ⊢
        exact this
theorem listFrom_rng (p : Int) : ∀ (d i : Nat), ∀ x ∈ listFrom p d i, (i : Int) ≤ x ∧ x < (i : Int) + d := by
  intro d
  induction d with
  | zero => intro i x hx; simp [listFrom] at hx
  | succ d ih =>
    intro i x hx
    unfold listFrom at hx
    split at hx
    · rcases List.mem_cons.1 hx with rfl | hx
      · omega
      · have := ih (i + 1) x hx; omega
    · have := ih (i + 1) x hx; omega
theorem listP_rng (p : Int) (i : Nat) (h : i < (listP p).length) : 0 ≤ rd (listP p) (i : Int) ∧ rd (listP p) (i : Int) < 14 := by
  have hm : rd (listP p) (i : Int) ∈ listP p := by
    rw [rd_nat, List.getD_eq_getElem?_getD, List.getElem?_eq_getElem h]
    exact List.getElem_mem _
  have := listFrom_rng p 14 0 _ hm
  omega
def cm : ByteArray := ⟨#[44]⟩
def headB (n : Int) : ByteArray := ((⟨#[32]⟩ : ByteArray) ++ dB n) ++ (⟨#[47]⟩ : ByteArray)
def tailB (p : Int) : ByteArray := joinB cm ((listP p).map dB)
def txtF (s c : List Int) : Nat → Nat → ByteArray → ByteArray
  | 0, _, a => a
  | d + 1, i, a => txtF s c d (i + 1) (a ++ (headB (rd c (i : Int)) ++ tailB (rd s (i : Int))))
theorem mem_size (p : Int) : ∀ x ∈ (listP p).map dB, x.size ≤ 21 := fun x hx => by
  obtain ⟨n, hn, rfl⟩ := List.mem_map.1 hx
  have := listFrom_rng p 14 0 n hn
  exact dB_size _ (by omega)
theorem tailB_size (p : Int) : (tailB p).size ≤ 308 := by
  have := joinB_size cm rfl _ (mem_size p)
  rw [List.length_map] at this
  have := listP_length p
  unfold tailB
  omega
theorem headB_size (n : Int) (h : 0 ≤ n ∧ n ≤ 100) : (headB n).size ≤ 23 := by
  have := dB_size n (by omega)
  unfold headB
  rw [ByteArray.size_append, ByteArray.size_append, show (⟨#[32]⟩ : ByteArray).size = 1 from rfl, show (⟨#[47]⟩ : ByteArray).size = 1 from rfl]
  omega
theorem implL_l1 (p : Int) (s c : List Int) (hc : s.length = c.length) (hl : s.length ≤ 12) (x : Int) (i : Nat) (hi : i < s.length) (hn : wrap64 (rd c (i : Int)) = rd c (i : Int) ∧ 0 ≤ rd c (i : Int) ∧ rd c (i : Int) ≤ 100) (a : ByteArray) (ha : a.size ≤ 90000) : ∀ (d j k : Nat), j + d = (listP x).length → d + 20 < k → ∃ q, k ≤ q + d + 1 ∧ impl_LogText.l1 k a (i : Int) (((listP x).take j).map dB) s (s.length : Int) (i : Int) (listP x) ((listP x).length : Int) (j : Int) p s c = impl_LogText.l0 q (a ++ (headB (rd c (i : Int)) ++ tailB x)) s (s.length : Int) ((i + 1 : Nat) : Int) p s c := by
  have hL := listP_length x
  intro d
  induction d with
  | zero =>
    intro j k hj hk
    obtain ⟨k, rfl⟩ : ∃ m, k = m + 1 := ⟨k - 1, by omega⟩
    obtain ⟨n0, n1, n2⟩ := hn
    have hz := dB_size (rd c (i : Int)) (by omega)
    have ht := tailB_size x
    refine ⟨k, by omega, ?_⟩
    simp only [impl_LogText.l1]
    rw [if_neg (by omega), if_pos (by omega), if_pos (by omega), n0, implDec_eq _ (by omega), Option.bind_some, if_pos (by omega), if_pos (by omega), List.take_of_length_le (by omega)]
    rw [implJoin_eq ((listP x).map dB) ⟨#[44]⟩ (by rw [List.length_map]; omega) (by show (tailB x).size ≤ _; omega), Option.bind_some]
    rw [show joinB ⟨#[44]⟩ ((listP x).map dB) = tailB x from rfl, if_pos (by omega), if_pos (by omega), wrap_nat i (by omega)]
    rfl
  | succ d ih =>
    intro j k hj hk
    obtain ⟨k, rfl⟩ : ∃ m, k = m + 1 := ⟨k - 1, by omega⟩
    have hx := listP_rng x j (by omega)
    obtain ⟨q, q1, q2⟩ := ih (j + 1) k (by omega) (by omega)
    refine ⟨q, by omega, ?_⟩
    simp only [impl_LogText.l1]
    rw [if_pos (by omega), if_pos (by omega), if_pos (by omega), implDec_eq _ (by omega), Option.bind_some, if_pos (by rw [List.length_map, List.length_take]; omega), wrap_nat j (by omega)]
    have ht : ((listP x).take j).map dB ++ [dB (rd (listP x) (j : Int))] = ((listP x).take (j + 1)).map dB := by
      rw [take_getD 0 (listP x) j (by omega), List.map_append, rd_nat]; rfl
    rw [ht]
    exact q2
theorem implL_l0 (p : Int) (s c : List Int) (hl : s.length ≤ 12) (hc : s.length = c.length) (hs : ∀ i : Nat, i < s.length → 0 ≤ rd s (i : Int) ∧ rd s (i : Int) < 65536) (hn : ∀ i : Nat, i < s.length → wrap64 (rd c (i : Int)) = rd c (i : Int) ∧ 0 ≤ rd c (i : Int) ∧ rd c (i : Int) ≤ 100) : ∀ (d i k : Nat) (a : ByteArray), i + d = s.length → d * 20 + 100 < k → a.size + 800 * d ≤ 90000 → impl_LogText.l0 k a s (s.length : Int) (i : Int) p s c = some (txtF s c d i a) := by
  intro d
  induction d with
  | zero =>
    intro i k a hi hk ha
    obtain ⟨k, rfl⟩ : ∃ m, k = m + 1 := ⟨k - 1, by omega⟩
    simp only [impl_LogText.l0]
    rw [if_neg (by omega)]
    rfl
  | succ d ih =>
    intro i k a hi hk ha
    obtain ⟨k, rfl⟩ : ∃ m, k = m + 1 := ⟨k - 1, by have := Nat.zero_le (d * 20); rw [Nat.succ_mul] at hk; omega⟩
    obtain ⟨D, hD⟩ : ∃ D, D = d * 20 := ⟨_, rfl⟩
    obtain ⟨E, hE⟩ : ∃ E, E = 800 * d := ⟨_, rfl⟩
    rw [Nat.succ_mul, ← hD] at hk
    rw [Nat.mul_succ, ← hE] at ha
    have ih' : ∀ (i k : Nat) (a : ByteArray), i + d = s.length → D + 100 < k → a.size + E ≤ 90000 → _ := fun i k a h1 h2 h3 => ih i k a h1 (hD ▸ h2) (hE ▸ h3)
    clear ih hD hE
    have hni := hn i (by omega)
    have hh := headB_size (rd c (i : Int)) hni.2
    have ht := tailB_size (rd s (i : Int))
    have hsi := hs i (by omega)
    have hL := listP_length (rd s (i : Int))
    obtain ⟨q, q1, q2⟩ := implL_l1 p s c hc hl (rd s (i : Int)) i (by omega) hni a (by omega) (listP (rd s (i : Int))).length 0 k (by omega) (by omega)
    rw [List.take_zero, List.map_nil, show ((0 : Nat) : Int) = 0 from rfl] at q2
    simp only [impl_LogText.l0]
    rw [if_pos (by omega), if_pos (by omega), if_pos (by omega), ListPeople_eq _ hsi.1 hsi.2 k (by omega), Option.bind_some, q2]
    exact ih' (i + 1) q _ (by omega) (by omega) (by rw [ByteArray.size_append, ByteArray.size_append]; omega)
def logT (p : Int) (s c : List Int) : ByteArray := txtF s c s.length 0 (dB p ++ (⟨#[58]⟩ : ByteArray))
theorem implLogText_eq (p : Int) (s c : List Int) (hs0 : s.length ≤ 1048576) (hs2 : ∀ x ∈ s, 0 ≤ x ∧ x < 65536) (hc2 : ∀ x ∈ c, -32768 ≤ x ∧ x ≤ 32767) (k : Nat) (hk : 1100000 < k) : impl_LogText.f k p s c = some (if okLog p s c = true then logT p s c else (⟨#[]⟩ : ByteArray)) := by
  unfold impl_LogText.f
  rw [implValid_eq p s c hs0 k (by omega), Option.bind_some]
  by_cases h : okLog p s c = true
  · obtain ⟨h1, h2, h3⟩ := okLog_iff p s c h
    have hok : okFrom (allB p) s c = true := by
      simp only [okLog, Bool.and_eq_true] at h
      exact h.2
    have hsr : ∀ i : Nat, i < s.length → 0 ≤ rd s (i : Int) ∧ rd s (i : Int) < 65536 := fun i hi => by
      rw [rd_nat, List.getD_eq_getElem?_getD, List.getElem?_eq_getElem hi]
      exact hs2 _ (List.getElem_mem hi)
    have hnr : ∀ i : Nat, i < s.length → wrap64 (rd c (i : Int)) = rd c (i : Int) ∧ 0 ≤ rd c (i : Int) ∧ rd c (i : Int) ≤ 100 := fun i hi => by
      have hw : wrap64 (rd c (i : Int)) = rd c (i : Int) := by
        rw [rd_nat, List.getD_eq_getElem?_getD, List.getElem?_eq_getElem (by omega)]
        have := hc2 _ (List.getElem_mem (show i < c.length by omega))
        exact wrap64_id _ (by show _ ≤ c[i]; omega) (by show c[i] ≤ _; omega)
      have := okFrom_cnt s c _ hok i hi (by omega)
      unfold cntOk at this
      rw [decide_eq_true_eq, hw] at this
      exact ⟨hw, this⟩
    have hz := dB_size p (by omega)
    have hsz : (dB p ++ (⟨#[58]⟩ : ByteArray)).size = (dB p).size + 1 := by rw [ByteArray.size_append]; rfl
    have e2 := implL_l0 p s c (by omega) h3 hsr hnr s.length 0 k (dB p ++ (⟨#[58]⟩ : ByteArray)) (by omega) (by omega) (by omega)
    rw [show ((0 : Nat) : Int) = 0 from rfl] at e2
    rw [if_pos h, if_pos h, implDec_eq p (by omega), Option.bind_some, if_pos (by omega), e2]
    rfl
  · rw [if_neg h, if_neg h]

theorem hasB_iff (p : Int) (i : Nat) (hi : i ≤ 16) : hasB p (i : Int) = (p / 2 ^ i % 2 == 1) := by
  unfold hasB shr
  rw [Int.toNat_natCast, Nat.min_eq_left (by simpa [IntKind.bits] using hi)]
theorem shl_one (a : Nat) (ha : a < 16) : shl .u16 1 (a : Int) = ((2 ^ a : Nat) : Int) := by
  unfold shl
  have hb : IntKind.u16.bits = 16 := rfl
  rw [hb, Int.toNat_natCast, Nat.min_eq_left (by omega), wrap_u16]
  have h3 : 2 ^ a < 65536 := by
    calc 2 ^ a < 2 ^ 16 := Nat.pow_lt_pow_right (by decide) ha
      _ = 65536 := by decide
  have h2 : ((2 : Int) ^ a) = ((2 ^ a : Nat) : Int) := by push_cast; rfl
  rw [h2, Int.one_mul]
  generalize 2 ^ a = z at h3
  omega
theorem bit_nat (m i : Nat) : ((m : Int) / 2 ^ i % 2 == 1) = m.testBit i := by
  rw [Nat.testBit_eq_decide_div_mod_eq]
  have h2 : ((m : Int) / 2 ^ i % 2) = ((m / 2 ^ i % 2 : Nat) : Int) := by push_cast; rfl
  rw [h2]
  by_cases h : m / 2 ^ i % 2 = 1
  · simp [h]
  · have : ((m / 2 ^ i % 2 : Nat) : Int) ≠ 1 := by omega
    rw [decide_eq_false h]
    exact beq_eq_false_iff_ne.2 this
theorem inc_ext : ∀ (p q : List Nat), p.Pairwise (· < ·) → q.Pairwise (· < ·) → (∀ x, x ∈ p ↔ x ∈ q) → p = q
  | [], [], _, _, _ => rfl
  | [], y :: _, _, _, h => by have := (h y).2 List.mem_cons_self; simp at this
  | x :: _, [], _, _, h => by have := (h x).1 List.mem_cons_self; simp at this
  | x :: t, y :: u, hp, hq, h => by
    rw [List.pairwise_cons] at hp hq
    have e : x = y := by
      rcases List.mem_cons.1 ((h x).1 List.mem_cons_self) with e | e
      · exact e
      · rcases List.mem_cons.1 ((h y).2 List.mem_cons_self) with e2 | e2
        · exact e2.symm
        · have a := hq.1 x e; have b := hp.1 y e2; omega
    subst e
    rw [inc_ext t u hp.2 hq.2 (fun z => by
      constructor
      · intro hz
        rcases List.mem_cons.1 ((h z).1 (List.mem_cons_of_mem _ hz)) with rfl | g
        · exact absurd (hp.1 z hz) (Nat.lt_irrefl _)
        · exact g
      · intro hz
        rcases List.mem_cons.1 ((h z).2 (List.mem_cons_of_mem _ hz)) with rfl | g
        · exact absurd (hq.1 z hz) (Nat.lt_irrefl _)
        · exact g)]
def marksP (m : Int) (n : Nat) : List Int := (List.range n).map (fun (j : Nat) => IntKind.u16.wrap (m + (j : Int)))
theorem marksP_length (m : Int) (n : Nat) : (marksP m n).length = n := by simp [marksP]
theorem markPeopleS_l0 (m : Int) (h0 : 0 ≤ m) (h1 : m ≤ 4194304) (g : List Int) (hl : g.length ≤ 1048576) : ∀ (d i k : Nat), i + d = g.length → d < k → laws_markPeopleS.l0 k ((marksP m g.length).take i ++ g.drop i) (m + (i : Int)) (i : Int) = some (m + (g.length : Int), marksP m g.length) := by
  intro d
  induction d with
  | zero =>
    intro i k hi hk
    obtain ⟨k, rfl⟩ : ∃ m, k = m + 1 := ⟨k - 1, by omega⟩
    obtain rfl : i = g.length := by omega
    simp only [laws_markPeopleS.l0]
    rw [List.drop_eq_nil_of_le (Nat.le_refl _), List.take_of_length_le (by rw [marksP_length]; omega), List.append_nil, if_neg (by rw [marksP_length]; omega)]
  | succ d ih =>
    intro i k hi hk
    obtain ⟨k, rfl⟩ : ∃ m, k = m + 1 := ⟨k - 1, by omega⟩
    have hlen : (((marksP m g.length).take i ++ g.drop i).length : Int) = g.length := by simp [marksP_length]; omega
    have hstep := set_drop ((marksP m g.length).take i) g i (IntKind.u16.wrap (m + (i : Int))) (by simp [marksP_length]; omega) (by omega)
    have hg : (marksP m g.length).getD i 0 = IntKind.u16.wrap (m + (i : Int)) := getD_range_map 0 _ _ _ (by omega)
    rw [← hg, ← take_getD 0 (marksP m g.length) i (by rw [marksP_length]; omega), hg] at hstep
    simp only [laws_markPeopleS.l0]
    rw [if_pos (by rw [hlen]; omega), if_pos (by omega), wrap_nat i (by omega), Int.toNat_natCast, wrap64_id _ (by omega) (by omega), hstep]
    have := ih (i + 1) k (by omega) (by omega)
    rw [show m + ((i + 1 : Nat) : Int) = m + (i : Int) + 1 by omega] at this
    exact this
theorem markPeopleS_eq (m : Int) (h0 : 0 ≤ m) (h1 : m ≤ 4194304) (g : List Int) (hl : g.length ≤ 1048576) (k : Nat) (hk : g.length < k) : laws_markPeopleS.f k g m = some (m + (g.length : Int), marksP m g.length) := by
  unfold laws_markPeopleS.f
  have := markPeopleS_l0 m h0 h1 g hl g.length 0 k (by omega) hk
  simpa using this
theorem heldPeopleS_l0 (m : Int) (h0 : 0 ≤ m) (h1 : m ≤ 4194304) (n : Nat) (hl : n ≤ 1048576) : ∀ (d i k : Nat), i + d = n → d < k → laws_heldPeopleS.l0 k (marksP m n) (m + (i : Int)) (i : Int) = some (m + (n : Int)) := by
  intro d
  induction d with
  | zero =>
    intro i k hi hk
    obtain ⟨k, rfl⟩ : ∃ m, k = m + 1 := ⟨k - 1, by omega⟩
    obtain rfl : i = n := by omega
    simp only [laws_heldPeopleS.l0]
    rw [if_neg (by rw [marksP_length]; omega)]
  | succ d ih =>
    intro i k hi hk
    obtain ⟨k, rfl⟩ : ∃ m, k = m + 1 := ⟨k - 1, by omega⟩
    have hg : rd (marksP m n) (i : Int) = IntKind.u16.wrap (m + (i : Int)) := by
      rw [rd_nat]; exact getD_range_map 0 _ _ _ (by omega)
    simp only [laws_heldPeopleS.l0]
    rw [if_pos (by rw [marksP_length]; omega), if_pos (by omega), if_pos hg, wrap_nat i (by omega), wrap64_id _ (by omega) (by omega)]
    have := ih (i + 1) k (by omega) (by omega)
    rw [show m + ((i + 1 : Nat) : Int) = m + (i : Int) + 1 by omega] at this
    exact this
theorem heldPeopleS_eq (m : Int) (h0 : 0 ≤ m) (h1 : m ≤ 4194304) (n : Nat) (hl : n ≤ 1048576) (k : Nat) (hk : n < k) : laws_heldPeopleS.f k (marksP m n) m = some (m + (n : Int)) := by
  unfold laws_heldPeopleS.f
  have := heldPeopleS_l0 m h0 h1 n hl n 0 k (by omega) hk
  simpa using this

def marksI (m : Int) (n : Nat) : List Int := (List.range n).map (fun (j : Nat) => IntKind.i16.wrap (m + (j : Int)))
theorem marksI_length (m : Int) (n : Nat) : (marksI m n).length = n := by simp [marksI]
theorem markInt16S_l0 (m : Int) (h0 : 0 ≤ m) (h1 : m ≤ 4194304) (g : List Int) (hl : g.length ≤ 1048576) : ∀ (d i k : Nat), i + d = g.length → d < k → laws_markInt16S.l0 k ((marksI m g.length).take i ++ g.drop i) (m + (i : Int)) (i : Int) = some (m + (g.length : Int), marksI m g.length) := by
  intro d
  induction d with
  | zero =>
    intro i k hi hk
    obtain ⟨k, rfl⟩ : ∃ m, k = m + 1 := ⟨k - 1, by omega⟩
    obtain rfl : i = g.length := by omega
    simp only [laws_markInt16S.l0]
    rw [List.drop_eq_nil_of_le (Nat.le_refl _), List.take_of_length_le (by rw [marksI_length]; omega), List.append_nil, if_neg (by rw [marksI_length]; omega)]
  | succ d ih =>
    intro i k hi hk
    obtain ⟨k, rfl⟩ : ∃ m, k = m + 1 := ⟨k - 1, by omega⟩
    have hlen : (((marksI m g.length).take i ++ g.drop i).length : Int) = g.length := by simp [marksI_length]; omega
    have hstep := set_drop ((marksI m g.length).take i) g i (IntKind.i16.wrap (m + (i : Int))) (by simp [marksI_length]; omega) (by omega)
    have hg : (marksI m g.length).getD i 0 = IntKind.i16.wrap (m + (i : Int)) := getD_range_map 0 _ _ _ (by omega)
    rw [← hg, ← take_getD 0 (marksI m g.length) i (by rw [marksI_length]; omega), hg] at hstep
    simp only [laws_markInt16S.l0]
    rw [if_pos (by rw [hlen]; omega), if_pos (by omega), wrap_nat i (by omega), Int.toNat_natCast, wrap64_id _ (by omega) (by omega), hstep]
    have := ih (i + 1) k (by omega) (by omega)
    rw [show m + ((i + 1 : Nat) : Int) = m + (i : Int) + 1 by omega] at this
    exact this
theorem markInt16S_eq (m : Int) (h0 : 0 ≤ m) (h1 : m ≤ 4194304) (g : List Int) (hl : g.length ≤ 1048576) (k : Nat) (hk : g.length < k) : laws_markInt16S.f k g m = some (m + (g.length : Int), marksI m g.length) := by
  unfold laws_markInt16S.f
  have := markInt16S_l0 m h0 h1 g hl g.length 0 k (by omega) hk
  simpa using this
theorem heldInt16S_l0 (m : Int) (h0 : 0 ≤ m) (h1 : m ≤ 4194304) (n : Nat) (hl : n ≤ 1048576) : ∀ (d i k : Nat), i + d = n → d < k → laws_heldInt16S.l0 k (marksI m n) (m + (i : Int)) (i : Int) = some (m + (n : Int)) := by
  intro d
  induction d with
  | zero =>
    intro i k hi hk
    obtain ⟨k, rfl⟩ : ∃ m, k = m + 1 := ⟨k - 1, by omega⟩
    obtain rfl : i = n := by omega
    simp only [laws_heldInt16S.l0]
    rw [if_neg (by rw [marksI_length]; omega)]
  | succ d ih =>
    intro i k hi hk
    obtain ⟨k, rfl⟩ : ∃ m, k = m + 1 := ⟨k - 1, by omega⟩
    have hg : rd (marksI m n) (i : Int) = IntKind.i16.wrap (m + (i : Int)) := by
      rw [rd_nat]; exact getD_range_map 0 _ _ _ (by omega)
    simp only [laws_heldInt16S.l0]
    rw [if_pos (by rw [marksI_length]; omega), if_pos (by omega), if_pos hg, wrap_nat i (by omega), wrap64_id _ (by omega) (by omega)]
    have := ih (i + 1) k (by omega) (by omega)
    rw [show m + ((i + 1 : Nat) : Int) = m + (i : Int) + 1 by omega] at this
    exact this
theorem heldInt16S_eq (m : Int) (h0 : 0 ≤ m) (h1 : m ≤ 4194304) (n : Nat) (hl : n ≤ 1048576) (k : Nat) (hk : n < k) : laws_heldInt16S.f k (marksI m n) m = some (m + (n : Int)) := by
  unfold laws_heldInt16S.f
  have := heldInt16S_l0 m h0 h1 n hl n 0 k (by omega) hk
  simpa using this

theorem markLog_eq (m : Int) (h0 : 0 ≤ m) (h1 : m ≤ 1048576) (p : Int) (s c : List Int) (hs : s.length ≤ 1048576) (hc : c.length ≤ 1048576) (k : Nat) (hk : s.length < k ∧ c.length < k) :
    laws_markLog.f k p s c m = some (m + (s.length : Int) + (c.length : Int), marksP m s.length, marksI (m + (s.length : Int)) c.length) := by
  unfold laws_markLog.f
  rw [markPeopleS_eq m h0 (by omega) s hs k hk.1]
  simp only [Option.bind_some]
  rw [markInt16S_eq (m + (s.length : Int)) (by omega) (by omega) c hc k hk.2]
  simp only [Option.bind_some]
theorem heldLog_eq (m : Int) (h0 : 0 ≤ m) (h1 : m ≤ 1048576) (p : Int) (a b : Nat) (ha : a ≤ 1048576) (hb : b ≤ 1048576) (k : Nat) (hk : a < k ∧ b < k) :
    laws_heldLog.f k p (marksP m a) (marksI (m + (a : Int)) b) m = some (m + (a : Int) + (b : Int)) := by
  unfold laws_heldLog.f
  rw [heldPeopleS_eq m h0 (by omega) a ha k hk.1, Option.bind_some, if_neg (by omega), heldInt16S_eq (m + (a : Int)) (by omega) (by omega) b hb k hk.2, Option.bind_some, if_neg (by omega)]

theorem or_nat (m a : Nat) (hm : m < 65536) (ha : a < 16) : Go.bits .or .u16 (m : Int) (shl .u16 1 (a : Int)) = ((m ||| 2 ^ a : Nat) : Int) := by
  rw [shl_one a ha]
  unfold Go.bits
  simp only [BitVec.ofInt_natCast]
  rw [wrap_u16]
  have hb : IntKind.u16.bits = 16 := rfl
  have h3 : 2 ^ a < 2 ^ 16 := Nat.pow_lt_pow_right (by decide) ha
  have hm2 : m < 2 ^ 16 := hm
  rw [hb, BitVec.toNat_or, BitVec.toNat_ofNat, BitVec.toNat_ofNat, Nat.mod_eq_of_lt hm2, Nat.mod_eq_of_lt h3]
  have h4 : m ||| 2 ^ a < 2 ^ 16 := Nat.or_lt_two_pow hm2 h3
  have h5 : (2 : Nat) ^ 16 = 65536 := by decide
  rw [h5] at h4
  generalize m ||| 2 ^ a = z at h4
  omega
def foldOr : List Nat → Nat → Nat
  | [], x => x
  | a :: r, x => foldOr r (x ||| 2 ^ a)
theorem foldOr_bit (i : Nat) : ∀ (ks : List Nat) (x : Nat), (foldOr ks x).testBit i = (x.testBit i || decide (i ∈ ks))
  | [], x => by simp [foldOr]
  | a :: r, x => by
    rw [foldOr, foldOr_bit i r, Nat.testBit_or, Nat.testBit_two_pow]
    by_cases h : a = i
    · subst h; simp
    · have h2 : ¬ i = a := fun e => h e.symm
      simp [h, h2]
theorem foldOr_lt : ∀ (ks : List Nat) (x : Nat), x < 16384 → (∀ k ∈ ks, k < 14) → foldOr ks x < 16384
  | [], x, h, _ => h
  | a :: r, x, h, hk => by
    rw [foldOr]
    refine foldOr_lt r _ ?_ (fun k q => hk k (List.mem_cons_of_mem _ q))
    have h3 : 2 ^ a < 2 ^ 14 := Nat.pow_lt_pow_right (by decide) (hk a List.mem_cons_self)
    exact Nat.or_lt_two_pow (n := 14) h h3
def natP (m : Nat) : List Nat := (List.range 14).filter (fun i => m.testBit i)
theorem listFrom_nat (m : Nat) : ∀ (d i : Nat), i + d ≤ 14 → listFrom (m : Int) d i = ((List.range' i d).filter (fun j => m.testBit j)).map (fun j : Nat => (j : Int)) := by
  intro d
  induction d with
  | zero => intro i _; rfl
  | succ d ih =>
    intro i hi
    unfold listFrom
    rw [hasB_iff _ i (by omega), bit_nat, List.range'_succ, List.filter_cons, ih (i + 1) (by omega)]
    by_cases h : m.testBit i = true
    · rw [if_pos h, if_pos h, List.map_cons]
    · rw [if_neg h, if_neg h]
theorem listP_nat (m : Nat) : listP (m : Int) = (natP m).map (fun j : Nat => (j : Int)) := by
  unfold listP natP
  rw [listFrom_nat m 14 0 (by decide), List.range_eq_range']
theorem natP_sorted (m : Nat) : (natP m).Pairwise (· < ·) := List.Pairwise.filter _ List.pairwise_lt_range
theorem natP_lt (m : Nat) : ∀ k ∈ natP m, k < 14 := fun k hk => List.mem_range.1 (List.mem_filter.1 hk).1
theorem natP_foldOr (ks : List Nat) (hs : ks.Pairwise (· < ·)) (hl : ∀ k ∈ ks, k < 14) : natP (foldOr ks 0) = ks := by
  refine inc_ext _ _ (natP_sorted _) hs (fun x => ?_)
  unfold natP
  rw [List.mem_filter, List.mem_range, foldOr_bit, Nat.zero_testBit, Bool.false_or, decide_eq_true_eq]
  exact ⟨fun h => h.2, fun h => ⟨hl x h, h⟩⟩
theorem foldOr_natP (m : Nat) (h : m < 16384) : foldOr (natP m) 0 = m := by
  refine Nat.eq_of_testBit_eq (fun i => ?_)
  rw [foldOr_bit, Nat.zero_testBit, Bool.false_or]
  unfold natP
  by_cases hi : i < 14
  · by_cases hb : m.testBit i = true
    · rw [hb]; exact decide_eq_true (List.mem_filter.2 ⟨List.mem_range.2 hi, hb⟩)
    · rw [Bool.eq_false_iff.mpr hb]; exact decide_eq_false (fun q => hb (List.mem_filter.1 q).2)
  · have hb : m.testBit i = false := Nat.testBit_lt_two_pow (Nat.lt_of_lt_of_le h (by
      have : 2 ^ 14 ≤ 2 ^ i := Nat.pow_le_pow_right (by decide) (by omega)
      exact this))
    rw [hb]; exact decide_eq_false (fun q => hi (List.mem_range.1 (List.mem_filter.1 q).1))
/-! joins and splits -/
def jn (c : UInt8) (xs : List (List UInt8)) : List UInt8 := Go.Lib.join xs [c]
theorem jn_cons (c : UInt8) (x : List UInt8) (r : List (List UInt8)) : jn c (x :: r) = x ++ Go.Lib.joinTail [c] r := Go.Lib.join_cons x r [c]
theorem jt_cons (c : UInt8) (y : List UInt8) (r : List (List UInt8)) : Go.Lib.joinTail [c] (y :: r) = c :: (y ++ Go.Lib.joinTail [c] r) := by simp [Go.Lib.joinTail]
theorem jt_nil (c : UInt8) : Go.Lib.joinTail [c] [] = [] := rfl
theorem spF_free (c : UInt8) (l : List UInt8) : ∀ (x cur : List UInt8), c ∉ x → spF c cur (x ++ c :: l) = (cur ++ x) :: spF c [] l := by
  intro x
  induction x with
  | nil => intro cur _; rw [List.nil_append, spF_hit, List.append_nil]
  | cons b x ih =>
    intro cur h
    have hb : b ≠ c := fun e => h (by rw [e]; exact List.mem_cons_self)
    rw [List.cons_append, spF_miss c b hb, ih _ (fun q => h (List.mem_cons_of_mem _ q)), List.append_assoc]
    rfl
theorem spF_end (c : UInt8) : ∀ (x cur : List UInt8), c ∉ x → spF c cur x = [cur ++ x] := by
  intro x
  induction x with
  | nil => intro cur _; rw [spF_nil, List.append_nil]
  | cons b x ih =>
    intro cur h
    have hb : b ≠ c := fun e => h (by rw [e]; exact List.mem_cons_self)
    rw [spF_miss c b hb, ih _ (fun q => h (List.mem_cons_of_mem _ q)), List.append_assoc]
    rfl
theorem spF_jt (c : UInt8) : ∀ (r : List (List UInt8)) (x cur : List UInt8), c ∉ x → (∀ y ∈ r, c ∉ y) → spF c cur (x ++ Go.Lib.joinTail [c] r) = (cur ++ x) :: r := by
  intro r
  induction r with
  | nil => intro x cur h _; rw [jt_nil, List.append_nil, spF_end c x cur h]
  | cons y r ih =>
    intro x cur h hr
    rw [jt_cons, spF_free c _ x cur h, ih y [] (hr y List.mem_cons_self) (fun z q => hr z (List.mem_cons_of_mem _ q)), List.nil_append]
theorem spF_jn (c : UInt8) (xs : List (List UInt8)) (hne : xs ≠ []) (h : ∀ y ∈ xs, c ∉ y) : spF c [] (jn c xs) = xs := by
  cases xs with
  | nil => exact absurd rfl hne
  | cons x r => rw [jn_cons, spF_jt c r x [] (h x List.mem_cons_self) (fun z q => h z (List.mem_cons_of_mem _ q)), List.nil_append]
theorem spF_ne (c : UInt8) (l cur : List UInt8) : spF c cur l ≠ [] := fun e => by
  have := spF_len c l cur
  rw [e] at this
  simp at this
theorem jt_jn (c : UInt8) (r : List (List UInt8)) (h : r ≠ []) : Go.Lib.joinTail [c] r = c :: jn c r := by
  cases r with
  | nil => exact absurd rfl h
  | cons y r => rw [jt_cons, jn_cons]
theorem jn_spF (c : UInt8) : ∀ (l cur : List UInt8), jn c (spF c cur l) = cur ++ l := by
  intro l
  induction l with
  | nil => intro cur; rw [spF_nil, jn_cons, jt_nil]
  | cons b l ih =>
    intro cur
    by_cases e : b = c
    · subst e
      rw [spF_hit, jn_cons, jt_jn _ _ (spF_ne b l []), ih, List.nil_append]
    · rw [spF_miss c b e, ih, List.append_assoc]
      rfl
theorem spF_size (c : UInt8) (l : List UInt8) : ∀ (cur x : List UInt8), x ∈ spF c cur l → x.length ≤ cur.length + l.length := by
  induction l with
  | nil => intro cur x h; rw [spF_nil] at h; rw [List.mem_singleton.1 h]; simp
  | cons b l ih =>
    intro cur x h
    by_cases e : b = c
    · subst e
      rw [spF_hit] at h
      rcases List.mem_cons.1 h with q | q
      · rw [q]; simp
      · have := ih [] x q; simp at this ⊢; omega
    · rw [spF_miss c b e] at h
      have := ih _ x h
      simp at this ⊢; omega
/-! words -/
theorem dec_free (u : Nat) (c : UInt8) (hc : c.toNat < 48 ∨ 57 < c.toNat) : c ∉ Go.Lib.decDigits u := fun h => by
  have := dec_dig u c h
  unfold isD at this
  omega
theorem mk_data (l : List UInt8) : (mkB l).data.toList = l := rfl
theorem numS_dec (u : Nat) (h : u < 10000000000) : numS (Go.Lib.decDigits u) = ((u : Int), true) := by
  unfold numS
  rw [if_pos ⟨isCan_dec u, (dec_len u 10).2 ⟨by omega, by decide⟩⟩, dec_val]
theorem numS_true (a : List UInt8) (h : (numS a).2 = true) : ∃ u : Nat, a = Go.Lib.decDigits u ∧ u < 10000000000 ∧ numS a = ((u : Int), true) := by
  unfold numS at h ⊢
  by_cases c : isCan a = true ∧ a.length ≤ 10
  · have hv := isCan_val a c.1
    refine ⟨dval a, hv.symm, ?_, by rw [if_pos c]⟩
    have := (dec_len (dval a) 10).1 (by rw [hv]; exact c.2)
    exact this.1
  · rw [if_neg c] at h; exact absurd h (by decide)
theorem numV_dec (u : Nat) (most : Int) (hm : most ≤ 9223372036854775807) (h : (u : Int) ≤ most) : Go.Proofs.YtchnklikeimpiaaDoor.H.numV (mkB (Go.Lib.decDigits u)) most = ((u : Int), true) := by
  have := numV_can (mkB (Go.Lib.decDigits u)) most hm (by rw [mk_data]; exact isCan_dec u) (by rw [mk_data, dec_val]; exact h)
  rw [mk_data, dec_val] at this
  exact this
def tl (x : Nat) : List UInt8 := jn 44 ((natP x).map Go.Lib.decDigits)
def txtW (n x : Nat) : List UInt8 := Go.Lib.decDigits n ++ 47 :: tl x
def rdK : List (List UInt8) → Nat → Int → Option Nat
  | [], x, _ => some x
  | a :: r, x, last => if (numS a).2 = true then (if (numS a).1 ≤ last then none else (if isP (numS a).1 = true then rdK r (x ||| 2 ^ (numS a).1.toNat) (numS a).1 else none)) else none
theorem rdK_some : ∀ (r : List (List UInt8)) (x : Nat) (last : Int) (y : Nat), rdK r x last = some y → ∃ ks : List Nat, r = ks.map Go.Lib.decDigits ∧ ks.Pairwise (· < ·) ∧ (∀ k ∈ ks, last < (k : Int) ∧ k < 14) ∧ y = foldOr ks x
  | [], x, last, y, h => ⟨[], rfl, List.Pairwise.nil, fun k hk => absurd hk (by simp), (Option.some.inj h).symm⟩
  | a :: r, x, last, y, h => by
    unfold rdK at h
    by_cases c1 : (numS a).2 = true
    · rw [if_pos c1] at h
      obtain ⟨u, e1, _, e2⟩ := numS_true a c1
      rw [e2] at h
      by_cases c2 : ((u : Int), true).1 ≤ last
      · rw [if_pos c2] at h; exact absurd h (by simp)
      · rw [if_neg c2] at h
        by_cases c3 : isP ((u : Int), true).1 = true
        · rw [if_pos c3] at h
          have h3 := (isP_iff _).1 c3
          obtain ⟨ks, q1, q2, q3, q4⟩ := rdK_some r _ _ y h
          have c2' : ¬ (u : Int) ≤ last := c2
          have h3' : 0 ≤ (u : Int) ∧ (u : Int) ≤ 13 := h3
          refine ⟨u :: ks, by rw [List.map_cons, ← q1, ← e1], List.pairwise_cons.2 ⟨fun k hk => ?_, q2⟩, fun k hk => ?_, ?_⟩
          · have := (q3 k hk).1
            have h5 : (u : Int) < (k : Int) := this
            omega
          · rcases List.mem_cons.1 hk with q | q
            · subst q; omega
            · have h5 : (u : Int) < (k : Int) ∧ k < 14 := q3 k q
              omega
          · rw [q4]; rfl
        · rw [if_neg c3] at h; exact absurd h (by simp)
    · rw [if_neg c1] at h; exact absurd h (by simp)
theorem rdK_dec : ∀ (ks : List Nat) (x : Nat) (last : Int), ks.Pairwise (· < ·) → (∀ k ∈ ks, last < (k : Int) ∧ k < 14) → rdK (ks.map Go.Lib.decDigits) x last = some (foldOr ks x)
  | [], x, last, _, _ => rfl
  | u :: ks, x, last, hs, hk => by
    have h0 := hk u List.mem_cons_self
    have hs' := List.pairwise_cons.1 hs
    rw [List.map_cons]
    unfold rdK
    rw [numS_dec u (by omega), if_pos rfl, if_neg (show ¬ (u : Int) ≤ last by omega), if_pos ((isP_iff (u : Int)).2 (by omega))]
    exact rdK_dec ks _ _ hs'.2 (fun k q => ⟨by have := hs'.1 k q; show (u : Int) < (k : Int); omega, (hk k (List.mem_cons_of_mem _ q)).2⟩)
def lenK : List (List UInt8) → Nat → Nat
  | [], x => x
  | a :: r, x => if (Go.Proofs.YtchnklikeimpiaaDoor.H.numV (mkB a) 13).2 = true then lenK r (x ||| 2 ^ (Go.Proofs.YtchnklikeimpiaaDoor.H.numV (mkB a) 13).1.toNat) else lenK r x
theorem lenK_dec : ∀ (ks : List Nat) (x : Nat), (∀ k ∈ ks, k < 14) → lenK (ks.map Go.Lib.decDigits) x = foldOr ks x
  | [], x, _ => rfl
  | u :: ks, x, hk => by
    have h0 := hk u List.mem_cons_self
    rw [List.map_cons]
    unfold lenK
    rw [numV_dec u 13 (by decide) (by omega), if_pos rfl]
    exact lenK_dec ks _ (fun k q => hk k (List.mem_cons_of_mem _ q))
theorem lenK_lt : ∀ (r : List (List UInt8)) (x : Nat), x < 16384 → lenK r x < 16384
  | [], x, h => h
  | a :: r, x, h => by
    have hr := numV_rng (mkB a) 13 (by decide) (by decide)
    unfold lenK
    by_cases c : (Go.Proofs.YtchnklikeimpiaaDoor.H.numV (mkB a) 13).2 = true
    · rw [if_pos c]
      have h3 : 2 ^ (Go.Proofs.YtchnklikeimpiaaDoor.H.numV (mkB a) 13).1.toNat < 2 ^ 14 := Nat.pow_lt_pow_right (by decide) (by omega)
      exact lenK_lt r _ (Nat.or_lt_two_pow (n := 14) h h3)
    · rw [if_neg c]; exact lenK_lt r x h
def rdW (w : List UInt8) : Option (Nat × Nat) :=
  match spF 47 [] w with
  | [a, b] => if (numS a).2 = true ∧ (numS a).1 ≤ 100 then (if b = [] then some ((numS a).1.toNat, 0) else (rdK (spF 44 [] b) 0 (-1)).map (fun y => ((numS a).1.toNat, y))) else none
  | _ => none
theorem rdW_two (w a b : List UInt8) (h : spF 47 [] w = [a, b]) : rdW w = if (numS a).2 = true ∧ (numS a).1 ≤ 100 then (if b = [] then some ((numS a).1.toNat, 0) else (rdK (spF 44 [] b) 0 (-1)).map (fun y => ((numS a).1.toNat, y))) else none := by
  unfold rdW
  rw [h]
theorem rdW_some (w : List UInt8) (n x : Nat) (h : rdW w = some (n, x)) : n ≤ 100 ∧ x < 16384 ∧ w = txtW n x := by
  have hw := jn_spF 47 w []
  rw [List.nil_append] at hw
  unfold rdW at h
  split at h
  · rename_i a b hs
    rw [hs, jn_cons, jt_cons, jt_nil, List.append_nil] at hw
    by_cases c : (numS a).2 = true ∧ (numS a).1 ≤ 100
    · rw [if_pos c] at h
      obtain ⟨u, e1, _, e2⟩ := numS_true a c.1
      have hu : (u : Int) ≤ 100 := by have := c.2; rw [e2] at this; exact this
      rw [e2] at h
      by_cases cb : b = []
      · rw [if_pos cb] at h
        obtain ⟨rfl, rfl⟩ := Prod.mk.inj (Option.some.inj h)
        refine ⟨by show (u : Int).toNat ≤ 100; omega, by decide, ?_⟩
        rw [← hw, cb, e1]
        rfl
      · rw [if_neg cb] at h
        obtain ⟨y, hy, hz⟩ := Option.map_eq_some_iff.1 h
        obtain ⟨rfl, rfl⟩ := Prod.mk.inj hz
        obtain ⟨ks, q1, q2, q3, q4⟩ := rdK_some _ _ _ _ hy
        have hk14 : ∀ k ∈ ks, k < 14 := fun k hk => (q3 k hk).2
        have hb := jn_spF 44 b []
        rw [List.nil_append, q1] at hb
        refine ⟨by show (u : Int).toNat ≤ 100; omega, by rw [q4]; exact foldOr_lt ks 0 (by decide) hk14, ?_⟩
        rw [← hw, e1]
        unfold txtW tl
        rw [q4, natP_foldOr ks q2 hk14, hb]
        rfl
    · rw [if_neg c] at h; exact absurd h (by simp)
  · exact absurd h (by simp)
theorem jt_free (c : UInt8) (h44 : c ≠ 44) : ∀ (r : List (List UInt8)), (∀ y ∈ r, c ∉ y) → c ∉ Go.Lib.joinTail [44] r
  | [], _ => by rw [jt_nil]; simp
  | y :: r, h => by
    rw [jt_cons]
    intro q
    rcases List.mem_cons.1 q with q | q
    · exact h44 q
    · rcases List.mem_append.1 q with q | q
      · exact h y List.mem_cons_self q
      · exact jt_free c h44 r (fun z e => h z (List.mem_cons_of_mem _ e)) q
theorem tl_free (x : Nat) (c : UInt8) (h44 : c ≠ 44) (hc : c.toNat < 48 ∨ 57 < c.toNat) : c ∉ tl x := by
  unfold tl
  cases hk : (natP x).map Go.Lib.decDigits with
  | nil => show c ∉ ([] : List UInt8); simp
  | cons y r =>
    have hm : ∀ z ∈ y :: r, c ∉ z := fun z hz => by
      rw [← hk] at hz
      obtain ⟨u, _, rfl⟩ := List.mem_map.1 hz
      exact dec_free u c hc
    rw [jn_cons]
    intro q
    rcases List.mem_append.1 q with q | q
    · exact hm y List.mem_cons_self q
    · exact jt_free c h44 r (fun z e => hm z (List.mem_cons_of_mem _ e)) q
theorem txtW_free (n x : Nat) : (32 : UInt8) ∉ txtW n x := fun h => by
  unfold txtW at h
  rcases List.mem_append.1 h with q | q
  · exact dec_free n 32 (by decide) q
  · rcases List.mem_cons.1 q with q | q
    · exact absurd q (by decide)
    · exact tl_free x 32 (by decide) (by decide) q
theorem txtW_split (n x : Nat) : spF 47 [] (txtW n x) = [Go.Lib.decDigits n, tl x] := by
  unfold txtW
  rw [spF_free 47 _ _ [] (dec_free n 47 (by decide)), spF_end 47 (tl x) [] (tl_free x 47 (by decide) (by decide))]
  rfl
theorem tl_nil (x : Nat) (hx : x < 16384) (h : natP x = []) : x = 0 := by
  have := foldOr_natP x hx
  rw [h] at this
  exact this.symm
theorem tl_ne (x : Nat) (h : natP x ≠ []) : tl x ≠ [] ∧ spF 44 [] (tl x) = (natP x).map Go.Lib.decDigits := by
  have h2 := spF_jn 44 ((natP x).map Go.Lib.decDigits) (fun e => h (List.map_eq_nil_iff.1 e)) (fun y hy => by
    obtain ⟨u, _, rfl⟩ := List.mem_map.1 hy
    exact dec_free u 44 (by decide))
  refine ⟨?_, h2⟩
  unfold tl
  cases hk : natP x with
  | nil => exact absurd hk h
  | cons u r =>
    rw [List.map_cons, jn_cons]
    intro e
    exact dec_ne u (List.append_eq_nil_iff.1 e).1
theorem rdW_txt (n x : Nat) (hn : n ≤ 100) (hx : x < 16384) : rdW (txtW n x) = some (n, x) := by
  rw [rdW_two _ _ _ (txtW_split n x), numS_dec n (by omega), if_pos ⟨rfl, by show (n : Int) ≤ 100; omega⟩]
  by_cases h : natP x = []
  · have h0 := tl_nil x hx h
    have : tl x = [] := by unfold tl; rw [h]; rfl
    rw [if_pos this, h0]
    rfl
  · obtain ⟨h1, h2⟩ := tl_ne x h
    rw [if_neg h1, h2, rdK_dec (natP x) 0 (-1) (natP_sorted x) (fun k hk => ⟨by omega, natP_lt x k hk⟩), foldOr_natP x hx]
    rfl
def lenW (w : List UInt8) : Int × Nat := ((Go.Proofs.YtchnklikeimpiaaDoor.H.numV (mkB (Go.Lib.cut w [47]).1) 100).1, lenK (spF 44 [] (Go.Lib.cut w [47]).2.1) 0)
theorem lenW_rng (w : List UInt8) : (0 ≤ (lenW w).1 ∧ (lenW w).1 ≤ 100) ∧ (lenW w).2 < 16384 :=
  ⟨numV_rng _ 100 (by decide) (by decide), lenK_lt _ 0 (by decide)⟩
theorem cut_txt (a b : List UInt8) (h : (47 : UInt8) ∉ a) : Go.Lib.cut (a ++ 47 :: b) [47] = (a, b, true) := by
  unfold Go.Lib.cut
  rw [spIdx 47 b a h, if_pos (by omega), Int.toNat_natCast]
  have e1 : (a ++ 47 :: b).take a.length = a := by simp
  have e2 : (a ++ 47 :: b).drop (a.length + [(47 : UInt8)].length) = b := by
    rw [← List.drop_drop]
    simp
  rw [e1, e2]
theorem lenW_txt (n x : Nat) (hn : n ≤ 100) (hx : x < 16384) : lenW (txtW n x) = ((n : Int), x) := by
  unfold lenW txtW
  rw [cut_txt _ _ (dec_free n 47 (by decide)), numV_dec n 100 (by decide) (by omega)]
  by_cases h : natP x = []
  · have h0 := tl_nil x hx h
    have ht : tl x = [] := by unfold tl; rw [h]; rfl
    have hz : Go.Proofs.YtchnklikeimpiaaDoor.H.numV (mkB []) 13 = (0, false) := numV_not _ _ (fun x => absurd x.1 (by decide))
    show ((n : Int), lenK (spF 44 [] (tl x)) 0) = _
    rw [ht, spF_nil, h0]
    unfold lenK
    rw [hz, if_neg (by decide)]
    rfl
  · obtain ⟨h1, h2⟩ := tl_ne x h
    show ((n : Int), lenK (spF 44 [] (tl x)) 0) = _
    rw [h2, lenK_dec _ _ (natP_lt x), foldOr_natP x hx]
def rdAll : List (List UInt8) → Option (List (Nat × Nat))
  | [] => some []
  | w :: r => (rdW w).bind fun a => (rdAll r).bind fun l => some (a :: l)
theorem rdAll_some : ∀ (R : List (List UInt8)) (l : List (Nat × Nat)), rdAll R = some l → R = l.map (fun a => txtW a.1 a.2) ∧ ∀ a ∈ l, a.1 ≤ 100 ∧ a.2 < 16384
  | [], l, h => by obtain rfl := Option.some.inj h; exact ⟨rfl, fun a ha => absurd ha (by simp)⟩
  | w :: r, l, h => by
    unfold rdAll at h
    obtain ⟨⟨n, x⟩, h1, h⟩ := Option.bind_eq_some_iff.1 h
    obtain ⟨l', h2, h⟩ := Option.bind_eq_some_iff.1 h
    obtain rfl := Option.some.inj h
    obtain ⟨q1, q2⟩ := rdAll_some r l' h2
    obtain ⟨p1, p2, p3⟩ := rdW_some w n x h1
    refine ⟨by rw [List.map_cons, ← q1, p3], fun a ha => ?_⟩
    rcases List.mem_cons.1 ha with q | q
    · rw [q]; exact ⟨p1, p2⟩
    · exact q2 a q
theorem rdAll_txt : ∀ (l : List (Nat × Nat)), (∀ a ∈ l, a.1 ≤ 100 ∧ a.2 < 16384) → rdAll (l.map (fun a => txtW a.1 a.2)) = some l
  | [], _ => rfl
  | (n, x) :: l, h => by
    have h0 := h (n, x) List.mem_cons_self
    rw [List.map_cons]
    unfold rdAll
    rw [rdW_txt n x h0.1 h0.2, Option.bind_some, rdAll_txt l (fun a q => h a (List.mem_cons_of_mem _ q))]
    rfl
/-! the text -/
def sL (l : List (Nat × Nat)) : List Int := l.map (fun a => (a.2 : Int))
def cL (l : List (Nat × Nat)) : List Int := l.map (fun a => (a.1 : Int))
theorem dB_data (u : Nat) : (dB (u : Int)).data.toList = Go.Lib.decDigits u := by
  unfold dB
  rw [itoa_nat]
theorem tailB_data (x : Nat) : (tailB (x : Int)).data.toList = tl x := by
  unfold tailB joinB tl jn
  rw [listP_nat, List.map_map, List.map_map]
  have : (((fun x : ByteArray => x.data.toList) ∘ dB) ∘ fun j : Nat => (j : Int)) = Go.Lib.decDigits := funext fun u => dB_data u
  rw [this]
  rfl
theorem word_data (n x : Nat) : (headB (n : Int) ++ tailB (x : Int)).data.toList = 32 :: txtW n x := by
  have hd : ∀ a b : ByteArray, (a ++ b).data.toList = a.data.toList ++ b.data.toList := fun a b => by rw [ByteArray.data_append, Array.toList_append]
  unfold headB txtW
  rw [hd, hd, hd, dB_data, tailB_data]
  simp
theorem txtF_data (l : List (Nat × Nat)) : ∀ (d i : Nat) (a : ByteArray), i + d = l.length → (txtF (sL l) (cL l) d i a).data.toList = a.data.toList ++ Go.Lib.joinTail [32] ((l.drop i).map (fun a => txtW a.1 a.2)) := by
  intro d
  induction d with
  | zero => intro i a hi; rw [List.drop_eq_nil_of_le (by omega)]; show a.data.toList = _ ++ []; rw [List.append_nil]
  | succ d ih =>
    intro i a hi
    have hlt : i < l.length := by omega
    have hc : rd (cL l) (i : Int) = ((l[i].1 : Nat) : Int) := by rw [rd_nat]; simp [cL, List.getD_eq_getElem?_getD, hlt]
    have hs : rd (sL l) (i : Int) = ((l[i].2 : Nat) : Int) := by rw [rd_nat]; simp [sL, List.getD_eq_getElem?_getD, hlt]
    unfold txtF
    rw [ih (i + 1) _ (by omega), hc, hs, List.drop_eq_getElem_cons hlt, List.map_cons, jt_cons, ByteArray.data_append, Array.toList_append, word_data, List.append_assoc]
    rfl
theorem logT_data (u : Nat) (l : List (Nat × Nat)) : (logT (u : Int) (sL l) (cL l)).data.toList = jn 32 ((Go.Lib.decDigits u ++ [58]) :: l.map (fun a => txtW a.1 a.2)) := by
  unfold logT
  have hl : (sL l).length = l.length := by simp [sL]
  rw [hl, txtF_data l l.length 0 _ (by omega), jn_cons, List.drop_zero, ByteArray.data_append, Array.toList_append, dB_data]
/-! the program's functions -/
theorem rdM (E : List (List UInt8)) (j : Nat) (h : j < E.length) : rdOf ByteArray.empty (E.map mkB) (j : Int) = mkB (E[j]) := by
  simp [rdOf, List.getD_eq_getElem?_getD, h]
theorem i16_idc (n : Int) (h0 : 0 ≤ n) (h1 : n ≤ 100) : IntKind.i16.wrap n = n := by simp [IntKind.wrap, IntKind.bits, IntKind.signed]; omega
theorem mk_size (l : List UInt8) : (mkB l).size = l.length := by simp [mkB, ByteArray.size]
theorem specK_l0 (n : Int) (E : List (List UInt8)) (hE : E.length ≤ 1048577) : ∀ (d i k : Nat) (x : Nat) (last : Int), i + d = E.length → d + 50 < k → x < 16384 →
    spec_l05Read.l0 k n (x : Int) last (E.map mkB) (i : Int) = some (match rdK (E.drop i) x last with | some y => (n, (y : Int), true) | none => (0, 0, false)) := by
  intro d
  induction d with
  | zero =>
    intro i k x last hi hk hx
    obtain ⟨k, rfl⟩ : ∃ m, k = m + 1 := ⟨k - 1, by omega⟩
    simp only [spec_l05Read.l0]
    rw [if_neg (by rw [List.length_map]; omega), List.drop_eq_nil_of_le (by omega)]
    rfl
  | succ d ih =>
    intro i k x last hi hk hx
    obtain ⟨k, rfl⟩ : ∃ m, k = m + 1 := ⟨k - 1, by omega⟩
    have hlt : i < E.length := by omega
    simp only [spec_l05Read.l0]
    rw [if_pos (by rw [List.length_map]; omega), if_pos (by omega), rdM E i hlt, specNum_eq _ k (by omega), Option.bind_some, mk_data, List.drop_eq_getElem_cons hlt]
    unfold rdK
    by_cases c1 : (numS E[i]).2 = true
    · obtain ⟨u, _, _, e2⟩ := numS_true E[i] c1
      rw [if_pos c1, if_pos c1, e2]
      by_cases c2 : (u : Int) ≤ last
      · rw [if_pos c2, if_pos c2]
      · rw [if_neg c2, if_neg c2, l05Person_eq, Option.bind_some]
        by_cases c3 : isP (u : Int) = true
        · have h3 := (isP_iff _).1 c3
          rw [if_pos c3, if_pos c3, wrap_u64_id (u : Int) (by omega) (by omega), if_pos (by omega), or_nat x u (by omega) (by omega), wrap_nat i (by omega)]
          have h4 : 2 ^ u < 2 ^ 14 := Nat.pow_lt_pow_right (by decide) (by omega)
          exact ih (i + 1) k _ _ (by omega) (by omega) (Nat.or_lt_two_pow (n := 14) hx h4)
        · rw [if_neg c3, if_neg c3]
    · rw [if_neg c1, if_neg c1]
theorem spF_lenle (c : UInt8) (w : List UInt8) (h : w.length ≤ 1048576) : (spF c [] w).length ≤ 1048577 := by
  rw [spF_len]
  have := List.count_le_length (a := c) (l := w)
  omega
theorem specW_eq (w : List UInt8) (hw : w.length ≤ 1048576) (k : Nat) (hk : 1100000 < k) :
    spec_l05Read.f k (mkB w) = some (match rdW w with | some (n, x) => ((n : Int), (x : Int), true) | none => (0, 0, false)) := by
  unfold spec_l05Read.f
  have h1 := specSplit_eq 47 (mkB w) (by rw [mk_size]; omega) k (by rw [mk_size]; omega)
  have h2 : ((47 : UInt8).toNat : Int) = 47 := rfl
  rw [h2, mk_data] at h1
  rw [h1, Option.bind_some]
  by_cases c : ((List.map mkB (spF 47 [] w)).length : Int) = 2
  · rw [if_pos c, if_pos (by omega)]
    have hl : (spF 47 [] w).length = 2 := by rw [List.length_map] at c; omega
    obtain ⟨a, b, hab⟩ : ∃ a b, spF 47 [] w = [a, b] := by
      cases hs : spF 47 [] w with
      | nil => rw [hs] at hl; simp at hl
      | cons a r =>
        cases r with
        | nil => rw [hs] at hl; simp at hl
        | cons b r =>
          cases r with
          | nil => exact ⟨a, b, rfl⟩
          | cons z r => rw [hs] at hl; simp at hl
    have hb : b.length ≤ 1048576 := by
      have := spF_size 47 w [] b (by rw [hab]; simp)
      simp at this
      omega
    rw [rdW_two w a b hab, hab]
    have r0 : rdOf ByteArray.empty (List.map mkB [a, b]) 0 = mkB a := rfl
    have r1 : rdOf ByteArray.empty (List.map mkB [a, b]) 1 = mkB b := rfl
    rw [r0, specNum_eq _ k (by omega), Option.bind_some, mk_data]
    obtain ⟨k, rfl⟩ : ∃ m, k = m + 1 := ⟨k - 1, by omega⟩
    by_cases c1 : (numS a).2 = true
    · obtain ⟨u, _, hu, e2⟩ := numS_true a c1
      rw [if_pos c1, e2]
      by_cases c2 : (u : Int) ≤ 100
      · have hc2 : ((u : Int), true).2 = true ∧ ((u : Int), true).1 ≤ 100 := ⟨rfl, c2⟩
        have e0 : decide (((u : Int), true).1 > 100) = false := decide_eq_false (by show ¬ (u : Int) > 100; omega)
        rw [if_pos hc2, e0]
        simp only [spec_l05Read.j0]
        rw [if_neg (by decide), if_pos (by simp), r1]
        have hbt : (mkB b).toList = b := by rw [ByteArray.toList_eq, mk_data]
        rw [hbt]
        by_cases cb : b = []
        · rw [if_pos cb, if_pos cb]
          show some ((u : Int), (0 : Int), true) = some ((((u : Int).toNat : Nat) : Int), ((0 : Nat) : Int), true)
          rw [Int.toNat_natCast]
          rfl
        · rw [if_neg cb, if_neg cb]
          have h3 := specSplit_eq 44 (mkB b) (by rw [mk_size]; omega) k (by rw [mk_size]; omega)
          have h4 : ((44 : UInt8).toNat : Int) = 44 := rfl
          rw [h4, mk_data] at h3
          rw [h3, Option.bind_some]
          have := specK_l0 (u : Int) (spF 44 [] b) (spF_lenle 44 b hb) (spF 44 [] b).length 0 k 0 (-1) (by omega) (by have := spF_lenle 44 b hb; omega) (by decide)
          rw [List.drop_zero] at this
          have this : spec_l05Read.l0 k (u : Int) 0 (-1) (List.map mkB (spF 44 [] b)) 0 = _ := this
          rw [this]
          cases rdK (spF 44 [] b) 0 (-1) with
          | none => rfl
          | some y =>
            show some ((u : Int), (y : Int), true) = some ((((u : Int).toNat : Nat) : Int), (y : Int), true)
            rw [Int.toNat_natCast]
      · have hc2 : ¬ (((u : Int), true).2 = true ∧ ((u : Int), true).1 ≤ 100) := fun z => c2 z.2
        have e0 : decide (((u : Int), true).1 > 100) = true := decide_eq_true (by show (u : Int) > 100; omega)
        rw [if_neg hc2, e0]
        simp only [spec_l05Read.j0, if_true]
    · rw [if_neg c1, if_neg (fun z => c1 z.1)]
      simp only [spec_l05Read.j0, if_true]
  · rw [if_neg c]
    have hn : rdW w = none := by
      unfold rdW
      split
      · rename_i a b hs
        rw [hs] at c
        exact absurd rfl c
      · rfl
    rw [hn]
def errL : Int × List Int × List Int × Int := (0, ([] : List Int), ([] : List Int), 5)
theorem specRL_l0 (p : Int) (W : List (List UInt8)) (hW : W.length ≤ 1048577) (hs : ∀ w ∈ W, w.length ≤ 1048576) : ∀ (d i k : Nat) (S C : List Int), i + d = W.length → 1 ≤ i → d + 1200000 < k → S.length + 1 = i → C.length + 1 = i →
    spec_ReadLog.l0 k (W.map mkB) (i : Int) p S C = some (match rdAll (W.drop i) with | some l => (if okLog p (S ++ sL l) (C ++ cL l) = true then (p, S ++ sL l, C ++ cL l, 0) else errL) | none => errL) := by
  intro d
  induction d with
  | zero =>
    intro i k S C hi h1 hk hS hC
    obtain ⟨k, rfl⟩ : ∃ m, k = m + 1 := ⟨k - 1, by omega⟩
    simp only [spec_ReadLog.l0]
    rw [if_neg (by rw [List.length_map]; omega), l05Ok_eq p S C (by omega) k (by omega), Option.bind_some, List.drop_eq_nil_of_le (by omega)]
    show _ = some (if okLog p (S ++ []) (C ++ []) = true then (p, S ++ [], C ++ [], 0) else errL)
    rw [List.append_nil, List.append_nil]
    by_cases c : okLog p S C = true
    · rw [if_pos c, if_pos c]
    · rw [if_neg c, if_neg c]; rfl
  | succ d ih =>
    intro i k S C hi h1 hk hS hC
    obtain ⟨k, rfl⟩ : ∃ m, k = m + 1 := ⟨k - 1, by omega⟩
    have hlt : i < W.length := by omega
    have hl := hs W[i] (List.getElem_mem hlt)
    simp only [spec_ReadLog.l0]
    rw [if_pos (by rw [List.length_map]; omega), if_pos (by omega), rdM W i hlt, specW_eq _ hl k (by omega), Option.bind_some, List.drop_eq_getElem_cons hlt]
    unfold rdAll
    cases hr : rdW W[i] with
    | none => rfl
    | some a =>
      obtain ⟨n, x⟩ := a
      have hb := rdW_some _ n x hr
      have ih2 := ih (i + 1) k (S ++ [(x : Int)]) (C ++ [(n : Int)]) (by omega) (by omega) (by omega) (by simp; omega) (by simp; omega)
      show (if (true : Bool) = true then _ else _) = _
      rw [if_pos rfl, if_pos (by omega), if_pos (by omega), wrap_nat i (by omega)]
      show spec_ReadLog.l0 k (W.map mkB) ((i + 1 : Nat) : Int) p (S ++ [(x : Int)]) (C ++ [IntKind.i16.wrap (n : Int)]) = _
      rw [i16_idc (n : Int) (by omega) (by omega), ih2, Option.bind_some]
      cases rdAll (W.drop (i + 1)) with
      | none => rfl
      | some l =>
        show some (if okLog p ((S ++ [(x : Int)]) ++ sL l) ((C ++ [(n : Int)]) ++ cL l) = true then (p, (S ++ [(x : Int)]) ++ sL l, (C ++ [(n : Int)]) ++ cL l, 0) else errL) = some (if okLog p (S ++ (x : Int) :: sL l) (C ++ (n : Int) :: cL l) = true then (p, S ++ (x : Int) :: sL l, C ++ (n : Int) :: cL l, 0) else errL)
        rw [List.append_assoc, List.append_assoc]
        rfl
theorem implK_l1 (T : ByteArray) (n : Int) (R : List ByteArray) (rl : Int) (i : Nat) (hi : i < 4611686018427387904) (p : Int) (S C : List Int) (hS : S.length ≤ 1048577) (hC : C.length ≤ 1048577) (mx : Int) (E : List (List UInt8)) (hE : E.length ≤ 1048577) (hEs : ∀ e ∈ E, e.length ≤ 1048576) : ∀ (d j k x : Nat), j + d = E.length → d < k → x < 16384 →
    ∃ q, k ≤ q + d + 1 ∧ impl_ReadLog.l1 k T n (x : Int) R rl (i : Int) (E.map mkB) (E.length : Int) (j : Int) p S C mx = impl_ReadLog.l0 q T R rl ((i + 1 : Nat) : Int) p (S ++ [((lenK (E.drop j) x : Nat) : Int)]) (C ++ [IntKind.i16.wrap n]) mx := by
  intro d
  induction d with
  | zero =>
    intro j k x hj hk hx
    obtain ⟨k, rfl⟩ : ∃ m, k = m + 1 := ⟨k - 1, by omega⟩
    refine ⟨k, by omega, ?_⟩
    simp only [impl_ReadLog.l1]
    rw [if_neg (by omega), Option.bind_some, if_pos (by simp; omega), Option.bind_some, if_pos (by simp; omega), wrap_nat i (by omega), List.drop_eq_nil_of_le (by omega)]
    rfl
  | succ d ih =>
    intro j k x hj hk hx
    obtain ⟨k, rfl⟩ : ∃ m, k = m + 1 := ⟨k - 1, by omega⟩
    have hlt : j < E.length := by omega
    have hl := hEs E[j] (List.getElem_mem hlt)
    have hr := numV_rng (mkB E[j]) 13 (by decide) (by decide)
    rw [List.drop_eq_getElem_cons hlt]
    simp only [impl_ReadLog.l1]
    rw [if_pos (by omega), if_pos (by omega), if_pos (by rw [List.length_map]; omega), rdM E j hlt, implNum_eq _ 13 (by rw [mk_size]; omega), Option.bind_some]
    unfold lenK
    by_cases c : (Go.Proofs.YtchnklikeimpiaaDoor.H.numV (mkB E[j]) 13).2 = true
    · obtain ⟨u, hu⟩ := Int.eq_ofNat_of_zero_le hr.1
      rw [if_pos c, if_pos c, hu, if_pos (by omega), or_nat x u (by omega) (by omega), wrap_nat j (by omega), Int.toNat_natCast]
      have h4 : 2 ^ u < 2 ^ 14 := Nat.pow_lt_pow_right (by decide) (by omega)
      obtain ⟨q, q1, q2⟩ := ih (j + 1) k (x ||| 2 ^ u) (by omega) (by omega) (Nat.or_lt_two_pow (n := 14) hx h4)
      exact ⟨q, by omega, q2⟩
    · rw [if_neg c, if_neg c, wrap_nat j (by omega)]
      obtain ⟨q, q1, q2⟩ := ih (j + 1) k x (by omega) (by omega) hx
      exact ⟨q, by omega, q2⟩
def finL (T : ByteArray) (p : Int) (s c : List Int) : Int × List Int × List Int × Int := if T.data.toList ≠ [] ∧ okLog p s c = true ∧ (logT p s c).data.toList = T.data.toList then (p, s, c, 0) else errL
def sW (R : List (List UInt8)) : List Int := R.map (fun w => ((lenW w).2 : Int))
def cW (R : List (List UInt8)) : List Int := R.map (fun w => (lenW w).1)
theorem implRL_l0 (T : ByteArray) (p : Int) (mx : Int) (R : List (List UInt8)) (hR : R.length ≤ 1048576) (hs : ∀ w ∈ R, w.length ≤ 1048576) : ∀ (d i k : Nat) (S C : List Int), i + d = R.length → d * 1048600 + 3000000 < k → S.length = i → C.length = i → (∀ x ∈ S, 0 ≤ x ∧ x < 65536) → (∀ x ∈ C, -32768 ≤ x ∧ x ≤ 32767) →
    impl_ReadLog.l0 k T (R.map mkB) (R.length : Int) (i : Int) p S C mx = some (finL T p (S ++ sW (R.drop i)) (C ++ cW (R.drop i))) := by
  intro d
  induction d with
  | zero =>
    intro i k S C hi hk hS hC hS2 hC2
    obtain ⟨k, rfl⟩ : ∃ m, k = m + 1 := ⟨k - 1, by omega⟩
    simp only [impl_ReadLog.l0]
    rw [if_neg (by omega), List.drop_eq_nil_of_le (by omega)]
    show _ = some (finL T p (S ++ []) (C ++ []))
    rw [List.append_nil, List.append_nil, ByteArray.toList_eq]
    unfold finL
    by_cases c0 : T.data.toList = []
    · rw [if_pos c0, if_neg (fun z => z.1 c0)]; rfl
    · rw [if_neg c0, implLogText_eq p S C (by omega) hS2 hC2 k (by omega), Option.bind_some, ByteArray.toList_eq]
      by_cases c1 : okLog p S C = true
      · rw [if_pos c1]
        by_cases c2 : (logT p S C).data.toList = T.data.toList
        · rw [if_pos c2, if_pos ⟨c0, c1, c2⟩]
        · rw [if_neg c2, if_neg (fun z => c2 z.2.2)]; rfl
      · rw [if_neg c1, if_neg (fun z => c0 (by exact Eq.symm z)), if_neg (fun z => c1 z.2.1)]; rfl
  | succ d ih =>
    intro i k S C hi hk hS hC hS2 hC2
    obtain ⟨k, rfl⟩ : ∃ m, k = m + 1 := ⟨k - 1, by omega⟩
    have hlt : i < R.length := by omega
    rw [Nat.succ_mul] at hk
    generalize d * 1048600 = D at hk ih
    have hl := hs R[i] (List.getElem_mem hlt)
    have hcut : (Go.Lib.cut R[i] [47]).1.length ≤ R[i].length ∧ (Go.Lib.cut R[i] [47]).2.1.length ≤ R[i].length := by
      unfold Go.Lib.cut
      split
      · refine ⟨?_, ?_⟩
        · show (R[i].take _).length ≤ _
          rw [List.length_take]; omega
        · show (R[i].drop _).length ≤ _
          rw [List.length_drop]; omega
      · exact ⟨Nat.le_refl _, Nat.zero_le _⟩
    have hrg := lenW_rng R[i]
    simp only [impl_ReadLog.l0]
    rw [if_pos (by omega), if_pos (by omega), if_pos (by rw [List.length_map]; omega), rdM R i hlt]
    have hc : strings_Cut.f (mkB R[i]) (⟨#[47]⟩ : ByteArray) mx = some (mkB (Go.Lib.cut R[i] [47]).1, mkB (Go.Lib.cut R[i] [47]).2.1, (Go.Lib.cut R[i] [47]).2.2) := by
      unfold strings_Cut.f
      rw [if_pos (by rw [mk_size]; omega)]
      rfl
    rw [hc, Option.bind_some, implNum_eq _ 100 (by rw [mk_size]; omega), Option.bind_some, implSplit_eq 44 _ mx (by rw [mk_size]; omega), Option.bind_some, mk_data]
    have hb : (Go.Lib.cut R[i] [47]).2.1.length ≤ 1048576 := by omega
    have hEl := spF_lenle 44 (Go.Lib.cut R[i] [47]).2.1 hb
    obtain ⟨q, q1, q2⟩ := implK_l1 T (Go.Proofs.YtchnklikeimpiaaDoor.H.numV (mkB (Go.Lib.cut R[i] [47]).1) 100).1 (R.map mkB) (R.length : Int) i (by omega) p S C (by omega) (by omega) mx (spF 44 [] (Go.Lib.cut R[i] [47]).2.1) hEl (fun e he => by
      have := spF_size 44 _ [] e he
      simp at this
      omega) (spF 44 [] (Go.Lib.cut R[i] [47]).2.1).length 0 k 0 (by omega) (by omega) (by decide)
    rw [List.drop_zero] at q2
    have q3 : impl_ReadLog.l1 k T (Go.Proofs.YtchnklikeimpiaaDoor.H.numV (mkB (Go.Lib.cut R[i] [47]).1) 100).1 0 (R.map mkB) (R.length : Int) (i : Int) (List.map mkB (spF 44 [] (Go.Lib.cut R[i] [47]).2.1)) ((List.map mkB (spF 44 [] (Go.Lib.cut R[i] [47]).2.1)).length : Int) 0 p S C mx = impl_ReadLog.l0 q T (R.map mkB) (R.length : Int) ((i + 1 : Nat) : Int) p (S ++ [((lenW R[i]).2 : Int)]) (C ++ [(lenW R[i]).1]) mx := by
      rw [List.length_map]
      refine Eq.trans q2 ?_
      have hi16 : IntKind.i16.wrap (Go.Proofs.YtchnklikeimpiaaDoor.H.numV (mkB (Go.Lib.cut R[i] [47]).1) 100).1 = (lenW R[i]).1 := i16_idc _ hrg.1.1 hrg.1.2
      rw [hi16]
      rfl
    rw [q3, ih (i + 1) q _ _ (by omega) (by omega) (by simp; omega) (by simp; omega) (fun x hx => by
      rcases List.mem_append.1 hx with z | z
      · exact hS2 x z
      · rw [List.mem_singleton.1 z]; omega) (fun x hx => by
      rcases List.mem_append.1 hx with z | z
      · exact hC2 x z
      · rw [List.mem_singleton.1 z]; omega), List.append_assoc, List.append_assoc, List.drop_eq_getElem_cons hlt]
    rfl
def stripC (f : List UInt8) : Option (List UInt8) := if f.getLast? = some 58 then some f.dropLast else none
def specR (f : List UInt8) (R : List (List UInt8)) : Int × List Int × List Int × Int :=
  match stripC f with
  | some init => if (numS init).2 = true then (match rdAll R with | some l => (if okLog (numS init).1 (sL l) (cL l) = true then ((numS init).1, sL l, cL l, 0) else errL) | none => errL) else errL
  | none => errL
theorem bt_mk (l : List UInt8) (i : Nat) (h : i < l.length) : bt (mkB l) (i : Int) = (l[i].toNat : Int) := by
  have := (bt_at (mkB l) (i : Int) (by rw [mk_size]; omega)).symm
  rw [this]
  rfl
theorem specRL_eq (T : ByteArray) (hT : T.size ≤ 1048576) (f : List UInt8) (R : List (List UInt8)) (hW : spF 32 [] T.data.toList = f :: R) (k : Nat) (hk : 4000000 < k) : spec_ReadLog.f k T = some (specR f R) := by
  have hlen : T.data.toList.length = T.size := rfl
  have hWl : (f :: R).length ≤ 1048577 := by rw [← hW]; exact spF_lenle 32 _ (by omega)
  have hWs : ∀ w ∈ f :: R, w.length ≤ 1048576 := fun w hw => by
    rw [← hW] at hw
    have := spF_size 32 _ [] w hw
    simp only [List.length_nil] at this
    omega
  have hf := hWs f List.mem_cons_self
  have h1 := specSplit_eq 32 T hT k (by omega)
  have h2 : ((32 : UInt8).toNat : Int) = 32 := rfl
  rw [h2, hW] at h1
  have r0 : rdOf ByteArray.empty (List.map mkB (f :: R)) 0 = mkB f := rfl
  unfold spec_ReadLog.f
  rw [h1, Option.bind_some, r0, if_pos (by simp), mk_size]
  obtain ⟨k, rfl⟩ : ∃ m, k = m + 1 := ⟨k - 1, by omega⟩
  rcases List.eq_nil_or_concat f with q | ⟨init, c, rfl⟩
  · subst q
    have hw : wrap64 ((([] : List UInt8).length : Int) - 1) = -1 := by rw [wrap64_id _ (by simp) (by simp)]; rfl
    rw [hw, if_pos (by decide)]
    simp only [spec_ReadLog.j0, if_true]
    rfl
  · rw [List.concat_eq_append] at *
    have hfl : (init ++ [c]).length = init.length + 1 := by simp
    have hw : wrap64 (((init ++ [c]).length : Int) - 1) = (init.length : Int) := by rw [wrap64_id _ (by omega) (by omega)]; omega
    have hcat : (init ++ [c])[init.length]'(by omega) = c := by simp
    rw [hw, if_neg (by omega), if_pos (by omega), if_pos (by omega), bt_mk _ _ (by omega), hcat]
    have hg : (init ++ [c]).getLast? = some c := by simp
    unfold specR stripC
    rw [hg]
    by_cases h58 : c = 58
    · subst h58
      have e0 : (((58 : UInt8).toNat : Int) != 58) = false := rfl
      have hd : (init ++ [(58 : UInt8)]).dropLast = init := by simp
      rw [e0, if_pos rfl, hd]
      simp only [spec_ReadLog.j0]
      rw [if_neg (by decide), if_pos (by simp), if_pos (by omega), r0, mk_size, if_pos (by omega), ext_eq, mk_data]
      have he : ((init ++ [(58 : UInt8)]).drop 0).take ((init.length : Int).toNat - 0) = init := by simp
      rw [he, specNum_eq _ k (by omega), Option.bind_some, mk_data]
      by_cases c1 : (numS init).2 = true
      · have := specRL_l0 (numS init).1 ((init ++ [(58 : UInt8)]) :: R) hWl hWs R.length 1 k [] [] (by simp; omega) (by decide) (by simp at hWl; omega) rfl rfl
        have this : spec_ReadLog.l0 k (List.map mkB ((init ++ [(58 : UInt8)]) :: R)) 1 (numS init).1 [] [] = _ := this
        rw [if_pos c1, if_pos c1, this]
        have hd1 : ((init ++ [(58 : UInt8)]) :: R).drop 1 = R := rfl
        rw [hd1]
        cases rdAll R with
        | none => rfl
        | some l =>
          show some (if okLog (numS init).1 ([] ++ sL l) ([] ++ cL l) = true then ((numS init).1, [] ++ sL l, [] ++ cL l, (0 : Int)) else errL) = _
          rw [List.nil_append, List.nil_append]
      · rw [if_neg c1, if_neg c1]; rfl
    · have e0 : ((c.toNat : Int) != 58) = true := bne_iff_ne.mpr (fun e => h58 (UInt8.toNat_inj.1 (by show c.toNat = 58; omega)))
      rw [e0, if_neg (fun z => h58 (Option.some.inj z))]
      simp only [spec_ReadLog.j0, if_true]
      rfl
theorem trim_colon (l : List UInt8) : Go.Lib.trimSuffix (l ++ [58]) [58] = l := by
  unfold Go.Lib.trimSuffix Go.Lib.hasSuffix
  rw [if_pos (List.isSuffixOf_iff_suffix.2 ⟨l, rfl⟩)]
  simp
theorem both (T : ByteArray) (f : List UInt8) (R : List (List UInt8)) (hW : spF 32 [] T.data.toList = f :: R) :
    finL T (Go.Proofs.YtchnklikeimpiaaDoor.H.numV (mkB (Go.Lib.trimSuffix f [58])) 14).1 (sW R) (cW R) = specR f R := by
  have hj := jn_spF 32 T.data.toList []
  rw [hW, List.nil_append] at hj
  by_cases hc : T.data.toList ≠ [] ∧ okLog (Go.Proofs.YtchnklikeimpiaaDoor.H.numV (mkB (Go.Lib.trimSuffix f [58])) 14).1 (sW R) (cW R) = true ∧ (logT (Go.Proofs.YtchnklikeimpiaaDoor.H.numV (mkB (Go.Lib.trimSuffix f [58])) 14).1 (sW R) (cW R)).data.toList = T.data.toList
  · unfold finL
    rw [if_pos hc]
    obtain ⟨h1, h2, h3⟩ := hc
    obtain ⟨g1, _, _⟩ := okLog_iff _ _ _ h2
    generalize (Go.Proofs.YtchnklikeimpiaaDoor.H.numV (mkB (Go.Lib.trimSuffix f [58])) 14).1 = p at *
    obtain ⟨u, rfl⟩ := Int.eq_ofNat_of_zero_le (show 0 ≤ p by omega)
    obtain ⟨l, hl⟩ : ∃ l : List (Nat × Nat), l = R.map (fun w => ((lenW w).1.toNat, (lenW w).2)) := ⟨_, rfl⟩
    have hsl : sW R = sL l := by rw [hl]; unfold sW sL; rw [List.map_map]; rfl
    have hcl : cW R = cL l := by
      rw [hl]; unfold cW cL; rw [List.map_map]
      refine List.map_congr_left (fun w _ => ?_)
      have := (lenW_rng w).1.1
      show (lenW w).1 = (((lenW w).1.toNat : Nat) : Int)
      omega
    have hlr : ∀ a ∈ l, a.1 ≤ 100 ∧ a.2 < 16384 := fun a ha => by
      rw [hl] at ha
      obtain ⟨w, _, rfl⟩ := List.mem_map.1 ha
      have := lenW_rng w
      exact ⟨by show (lenW w).1.toNat ≤ 100; omega, this.2⟩
    rw [hsl, hcl] at h2 h3 ⊢
    rw [logT_data] at h3
    have hsp := spF_jn 32 ((Go.Lib.decDigits u ++ [58]) :: l.map (fun a => txtW a.1 a.2)) (by simp) (fun y hy => by
      rcases List.mem_cons.1 hy with q | q
      · rw [q]
        intro z
        rcases List.mem_append.1 z with z | z
        · exact dec_free u 32 (by decide) z
        · exact absurd (List.mem_singleton.1 z) (by decide)
      · obtain ⟨a, _, rfl⟩ := List.mem_map.1 q
        exact txtW_free a.1 a.2)
    rw [h3, hW] at hsp
    obtain ⟨e1, e2⟩ := List.cons.inj hsp
    have hst : stripC f = some (Go.Lib.decDigits u) := by
      rw [e1]; unfold stripC
      rw [if_pos (by simp)]
      simp
    unfold specR
    rw [hst]
    show _ = if (numS (Go.Lib.decDigits u)).2 = true then _ else _
    rw [numS_dec u (by omega), if_pos rfl, e2, rdAll_txt l hlr]
    show _ = if okLog (u : Int) (sL l) (cL l) = true then ((u : Int), sL l, cL l, (0 : Int)) else errL
    rw [if_pos h2]
  · unfold finL
    rw [if_neg hc]
    unfold specR
    cases hst : stripC f with
    | none => rfl
    | some init =>
      show errL = if (numS init).2 = true then _ else _
      by_cases c1 : (numS init).2 = true
      · rw [if_pos c1]
        cases hr : rdAll R with
        | none => rfl
        | some l =>
          show errL = if okLog (numS init).1 (sL l) (cL l) = true then ((numS init).1, sL l, cL l, (0 : Int)) else errL
          by_cases c2 : okLog (numS init).1 (sL l) (cL l) = true
          · exfalso
            apply hc
            obtain ⟨u, e1, _, e2⟩ := numS_true init c1
            rw [e2] at c2
            have c2 : okLog (u : Int) (sL l) (cL l) = true := c2
            obtain ⟨g1, _, _⟩ := okLog_iff _ _ _ c2
            obtain ⟨p1, p2⟩ := rdAll_some R l hr
            have hf : f = init ++ [58] := by
              unfold stripC at hst
              split at hst
              · rename_i hg
                have hi := Option.some.inj hst
                obtain ⟨ys, hy⟩ := List.getLast?_eq_some_iff.1 hg
                rw [hy] at hi ⊢
                have : (ys ++ [(58 : UInt8)]).dropLast = ys := by simp
                rw [this] at hi
                rw [hi]
              · exact absurd hst (by simp)
            have hn : Go.Proofs.YtchnklikeimpiaaDoor.H.numV (mkB (Go.Lib.trimSuffix f [58])) 14 = ((u : Int), true) := by
              rw [hf, trim_colon, e1]
              exact numV_dec u 14 (by decide) (by omega)
            have hsl : sW R = sL l := by
              rw [p1]; unfold sW sL; rw [List.map_map]
              refine List.map_congr_left (fun a ha => ?_)
              show ((lenW (txtW a.1 a.2)).2 : Int) = _
              rw [lenW_txt a.1 a.2 (p2 a ha).1 (p2 a ha).2]
            have hcl : cW R = cL l := by
              rw [p1]; unfold cW cL; rw [List.map_map]
              refine List.map_congr_left (fun a ha => ?_)
              show (lenW (txtW a.1 a.2)).1 = _
              rw [lenW_txt a.1 a.2 (p2 a ha).1 (p2 a ha).2]
            rw [hn, hsl, hcl]
            refine ⟨?_, c2, ?_⟩
            · rw [← hj, jn_cons, hf]
              intro z
              have := congrArg List.length z
              simp at this
            · show (logT (u : Int) (sL l) (cL l)).data.toList = _
              rw [logT_data, ← hj, hf, ← p1, e1]
          · rw [if_neg c2]
      · rw [if_neg c1]
theorem finL_len (T : ByteArray) (p : Int) (s c : List Int) : (finL T p s c).2.1.length ≤ 12 ∧ (finL T p s c).2.2.1.length ≤ 12 := by
  unfold finL
  by_cases h : T.data.toList ≠ [] ∧ okLog p s c = true ∧ (logT p s c).data.toList = T.data.toList
  · obtain ⟨h1, h2, h3⟩ := okLog_iff _ _ _ h.2.1
    rw [if_pos h]
    exact ⟨by show s.length ≤ 12; omega, by show c.length ≤ 12; omega⟩
  · rw [if_neg h]; exact ⟨Nat.zero_le _, Nat.zero_le _⟩
theorem main : laws_FnExactReadLog.Pure := by
  intro s mx hs
  refine rounds_of 2000000000000 fun k hk => ?_
  unfold laws_FnExactReadLog.f
  by_cases hbig : (s.size : Int) > 1048576
  · rw [if_pos hbig]
  rw [if_neg hbig]
  have hsz : s.size ≤ 1048576 := by omega
  have hlen : s.data.toList.length = s.size := rfl
  obtain ⟨f, R, hW⟩ : ∃ f R, spF 32 [] s.data.toList = f :: R := by
    cases h : spF 32 [] s.data.toList with
    | nil => exact absurd h (spF_ne 32 _ [])
    | cons f R => exact ⟨f, R, rfl⟩
  have hWl : (f :: R).length ≤ 1048577 := by rw [← hW]; exact spF_lenle 32 _ (by omega)
  have hRl : R.length ≤ 1048576 := by simp at hWl; omega
  have hWs : ∀ w ∈ f :: R, w.length ≤ 1048576 := fun w hw => by
    rw [← hW] at hw
    have := spF_size 32 _ [] w hw
    simp only [List.length_nil] at this
    omega
  have hf := hWs f List.mem_cons_self
  obtain ⟨Z, hZ⟩ : ∃ Z, Z = finL s (Go.Proofs.YtchnklikeimpiaaDoor.H.numV (mkB (Go.Lib.trimSuffix f [58])) 14).1 (sW R) (cW R) := ⟨_, rfl⟩
  have hZl : Z.2.1.length ≤ 12 ∧ Z.2.2.1.length ≤ 12 := by rw [hZ]; exact finL_len _ _ _ _
  have e1 : spec_ReadLog.f k s = some Z := by
    rw [specRL_eq s hsz f R hW k (by omega), hZ, both s f R hW]
  have e2 : ∀ k, 1900000000000 ≤ k → impl_ReadLog.f k s mx = some Z := fun k hk => by
    have r0 : rdOf ByteArray.empty (List.map mkB (f :: R)) 0 = mkB f := rfl
    have ht : strings_TrimSuffix.f (mkB f) (⟨#[58]⟩ : ByteArray) = some (mkB (Go.Lib.trimSuffix f [58])) := by
      unfold strings_TrimSuffix.f
      rw [if_pos (by rw [mk_size]; omega)]
      rfl
    have htl : (Go.Lib.trimSuffix f [58]).length ≤ 1048576 := by
      unfold Go.Lib.trimSuffix
      split
      · rw [List.length_take]; omega
      · exact hf
    unfold impl_ReadLog.f
    rw [implSplit_eq 32 s mx hsz, Option.bind_some, hW, if_pos (by simp), r0, ht, Option.bind_some, implNum_eq _ 14 (by rw [mk_size]; omega), Option.bind_some, if_pos (by simp; omega), Option.bind_some]
    have hd : (List.map mkB (f :: R)).drop (1 : Int).toNat = R.map mkB := rfl
    rw [hd, List.length_map]
    have := implRL_l0 s (Go.Proofs.YtchnklikeimpiaaDoor.H.numV (mkB (Go.Lib.trimSuffix f [58])) 14).1 mx R hRl (fun w q => hWs w (List.mem_cons_of_mem _ q)) R.length 0 k [] [] (by omega) (by omega) rfl rfl (fun x q => absurd q (by simp)) (fun x q => absurd q (by simp))
    rw [List.drop_zero, List.nil_append, List.nil_append] at this
    rw [hZ]
    exact this
  obtain ⟨v0, v1, v2, v3⟩ := Z
  simp only at hZl
  rw [e1, e2 k (by omega)]
  simp only [Option.bind_some]
  rw [eqLog_eq v0 v1 v2 v0 v1 v2 (by omega) (by omega) k (by omega)]
  simp only [Option.bind_some, and_self, decide_true, if_true]
  obtain ⟨k, rfl⟩ : ∃ m, k = m + 3 := ⟨k - 3, by omega⟩
  simp only [laws_FnExactReadLog.j0]
  rw [if_neg (by simp), markLog_eq 1 (by decide) (by decide) v0 v1 v2 (by omega) (by omega) _ (by omega)]
  simp only [Option.bind_some]
  rw [heldLog_eq 1 (by decide) (by decide) v0 v1.length v2.length (by omega) (by omega) _ (by omega)]
  simp only [Option.bind_some]
  rw [if_neg (by omega), if_pos trivial, e2 _ (by omega)]
  simp only [Option.bind_some]
  rw [eqLog_eq v0 v1 v2 v0 v1 v2 (by omega) (by omega) _ (by omega)]
  simp only [Option.bind_some, and_self, decide_true, if_true, laws_FnExactReadLog.j1]
  rw [if_neg (by simp), heldLog_eq 1 (by decide) (by decide) v0 v1.length v2.length (by omega) (by omega) _ (by omega)]
  simp only [Option.bind_some]
  rw [if_neg (by omega), if_pos trivial]

end Go.Proofs.YtchnklikeimpiaaDoor.PureFnExactReadLog
namespace Go.Proofs.YtchnklikeimpiaaDoor.Pure
theorem FnExactReadLog : Go.Proofs.YtchnklikeimpiaaDoor.P.laws_FnExactReadLog.Pure := Go.Proofs.YtchnklikeimpiaaDoor.PureFnExactReadLog.main
end Go.Proofs.YtchnklikeimpiaaDoor.Pure
