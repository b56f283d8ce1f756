/- For every text the program's ReadRope returns the reference's rope and code, in memory of its own; no condition. -/
import Derived.Test.YtchnklikeimpiaaDoorP17
import Derived.Laws.BitsLemmas
import Derived.Lib.ItoaNum
import Derived.Lib.ParseIntBTie
import Derived.Lib.SplitLaws
namespace Go.Proofs.YtchnklikeimpiaaDoor.PureFnExactReadRope
open Go.RowKit Go.Proofs.YtchnklikeimpiaaDoor.P Go.Proofs.YtchnklikeimpiaaDoorW.PrintWords Go.Proofs.YtchnklikeimpiaaDoorW.PrintLast
set_option linter.unusedSimpArgs false
set_option linter.unusedVariables false

theorem wrap64_id (x : Int) (h0 : -9223372036854775808 ≤ x) (h1 : x ≤ 9223372036854775807) : wrap64 x = x := by unfold wrap64; omega
theorem wrap_nat (n : Nat) (h : n < 4611686018427387904) : wrap64 ((n : Int) + 1) = ((n + 1 : Nat) : Int) := by
  rw [wrap64_id _ (by omega) (by omega)]; omega
theorem rd_nat (l : List Int) (i : Nat) : rd l (i : Int) = l.getD i 0 := by simp [rd]
theorem drop_getD {α : Type} (z : α) (l : List α) (i : Nat) (h : i < l.length) : l.drop i = l.getD i z :: l.drop (i + 1) := by
  rw [List.drop_eq_getElem_cons h, List.getD_eq_getElem?_getD, List.getElem?_eq_getElem h]; rfl
theorem take_getD {α : Type} (z : α) (l : List α) (i : Nat) (h : i < l.length) : l.take (i + 1) = l.take i ++ [l.getD i z] := by
  rw [List.take_succ_eq_append_getElem h, List.getD_eq_getElem?_getD, List.getElem?_eq_getElem h]; rfl
theorem set_drop {α : Type} (a g : List α) (i : Nat) (v : α) (h : a.length = i) (hg : i < g.length) : (a ++ g.drop i).set i v = (a ++ [v]) ++ g.drop (i + 1) := by
  subst h
  rw [List.set_append_right _ _ (Nat.le_refl _), Nat.sub_self, List.drop_eq_getElem_cons hg, List.set_cons_zero]
  simp
theorem getD_range_map {α : Type} (z : α) (f : Nat → α) (n i : Nat) (h : i < n) : ((List.range n).map f).getD i z = f i := by
  rw [List.getD_eq_getElem?_getD, List.getElem?_map, List.getElem?_range h]; rfl
theorem rounds_of (B : Nat) {α : Type} {F : Nat → Option α} {v : α} (h : ∀ k, B ≤ k → F k = some v) : ∃ k, F k = some v := ⟨B, h B (Nat.le_refl _)⟩

def spF (c : UInt8) : List UInt8 → List UInt8 → List (List UInt8)
  | cur, [] => [cur]
  | cur, b :: l => if b = c then cur :: spF c [] l else spF c (cur ++ [b]) l
theorem spF_hit (c : UInt8) (cur l : List UInt8) : spF c cur (c :: l) = cur :: spF c [] l := by
  conv => lhs; unfold spF
  rw [if_pos rfl]
theorem spF_miss (c b : UInt8) (h : b ≠ c) (cur l : List UInt8) : spF c cur (b :: l) = spF c (cur ++ [b]) l := by
  conv => lhs; unfold spF
  rw [if_neg h]
theorem spF_nil (c : UInt8) (cur : List UInt8) : spF c cur [] = [cur] := rfl
theorem spF_len (c : UInt8) (l : List UInt8) : ∀ cur : List UInt8, (spF c cur l).length = l.count c + 1 := by
  induction l with
  | nil => intro cur; rfl
  | cons b l ih =>
    intro cur
    by_cases h : b = c
    · subst h
      rw [spF_hit, List.length_cons, ih, List.count_cons_self]
    · rw [spF_miss c b h, ih, List.count_cons_of_ne h]
theorem spIdx (c : UInt8) (l : List UInt8) : ∀ pre : List UInt8, c ∉ pre → Go.Lib.index (pre ++ c :: l) [c] = (pre.length : Int) := by
  intro pre
  induction pre with
  | nil => intro _; simp [Go.Lib.index, List.isPrefixOf]
  | cons b pre ih =>
    intro h
    have hb : ¬ c = b := fun e => h (by rw [e]; exact List.mem_cons_self)
    have hp : c ∉ pre := fun e => h (List.mem_cons_of_mem _ e)
    have := ih hp
    rw [List.cons_append, Go.Lib.index, this]
    have h1 : List.isPrefixOf [c] (b :: (pre ++ c :: l)) = false := by simp [List.isPrefixOf, hb]
    rw [h1]
    have h2 : ¬ (((pre.length : Int) == -1) = true) := fun e => by have := beq_iff_eq.1 e; omega
    rw [if_neg (by simp), if_neg h2, List.length_cons]
    omega
theorem splitK_eq (c : UInt8) (l : List UInt8) : ∀ pre : List UInt8, c ∉ pre → Go.Lib.splitK [c] 0 (l.count c) (pre ++ l) = spF c pre l := by
  induction l with
  | nil => intro pre _; rw [List.append_nil]; rfl
  | cons b l ih =>
    intro pre h
    by_cases e : b = c
    · subst e
      rw [List.count_cons_self, Go.Lib.splitK, spIdx b l pre h, spF_hit]
      have h2 : ¬ (((pre.length : Int) == -1) = true) := fun e => by have := beq_iff_eq.1 e; omega
      rw [if_neg h2]
      have hi := ih [] (by simp)
      rw [List.nil_append] at hi
      rw [← hi]
      simp
    · rw [List.count_cons_of_ne e, spF_miss c b e, ← ih (pre ++ [b]) (by simp [h]; exact fun x => e x.symm)]
      rw [List.append_assoc]
      rfl
def mkB (l : List UInt8) : ByteArray := ⟨l.toArray⟩
theorem mkB_data (s : ByteArray) : mkB s.data.toList = s := by
  cases s
  simp [mkB]
theorem splitB_eq (c : UInt8) (s : ByteArray) : Go.Lib.splitB ⟨#[c]⟩ 0 (Go.Lib.countB s ⟨#[c]⟩) s = (spF c [] s.data.toList).map mkB := by
  have h1 := Go.Lib.splitB_data ⟨#[c]⟩ 0 (Go.Lib.countB s ⟨#[c]⟩) s
  have h2 : Go.Lib.countB s ⟨#[c]⟩ = s.data.toList.count c := Go.Lib.count_one c s.data.toList
  have h3 := splitK_eq c s.data.toList [] (by simp)
  rw [List.nil_append] at h3
  rw [h2] at h1 ⊢
  have h1 := h1.trans h3
  rw [← h1, List.map_map]
  have : (mkB ∘ fun x : ByteArray => x.data.toList) = id := funext fun x => mkB_data x
  rw [this, List.map_id]
theorem implSplit_eq (c : UInt8) (s : ByteArray) (m : Int) (hs : s.size ≤ 1048576) : strings_Split.f s ⟨#[c]⟩ m = some ((spF c [] s.data.toList).map mkB) := by
  unfold strings_Split.f
  rw [if_pos ⟨by omega, Nat.le_refl 1⟩, splitB_eq]
theorem ext_eq (s : ByteArray) (a b : Nat) : s.extract a b = mkB ((s.data.toList.drop a).take (b - a)) := by
  apply ByteArray.ext
  unfold mkB
  apply Array.ext'
  rw [ByteArray.data_extract, Array.toList_extract]
theorem drop_cons (s : ByteArray) (j : Nat) (h : j < s.size) : s.data.toList.drop j = s[j] :: s.data.toList.drop (j + 1) := by
  have h' : j < s.data.toList.length := h
  rw [List.drop_eq_getElem_cons h']
  rfl
theorem take_ext (s : ByteArray) (i j : Nat) (hij : i ≤ j) (h : j < s.size) : (s.data.toList.drop i).take (j + 1 - i) = (s.data.toList.drop i).take (j - i) ++ [s[j]] := by
  have h' : j - i < (s.data.toList.drop i).length := by
    rw [List.length_drop]
    have : s.data.toList.length = s.size := rfl
    omega
  have e : j + 1 - i = (j - i) + 1 := by omega
  rw [e, List.take_add_one, List.getElem?_eq_getElem h', List.getElem_drop]
  have e2 : i + (j - i) = j := by omega
  simp only [e2, Option.toList_some]
  rfl
theorem specSplit_l0 (c : UInt8) (s : ByteArray) (hs : s.size ≤ 1048576) : ∀ (d i j k : Nat) (acc : List ByteArray), j + d = s.size → i ≤ j → d < k → acc.length + d ≤ 2000000 →
    spec_l01Split.l0 k s (c.toNat : Int) acc (i : Int) (j : Int) = some (acc ++ (spF c ((s.data.toList.drop i).take (j - i)) (s.data.toList.drop j)).map mkB) := by
  intro d
  induction d with
  | zero =>
    intro i j k acc hj hij hk ha
    obtain ⟨k, rfl⟩ : ∃ m, k = m + 1 := ⟨k - 1, by omega⟩
    simp only [spec_l01Split.l0]
    rw [if_neg (by omega), if_pos (by omega), if_pos (by omega), if_pos (by omega)]
    have hd : s.data.toList.drop j = [] := List.drop_eq_nil_of_le (by have : s.data.toList.length = s.size := rfl; omega)
    rw [hd, spF_nil, ext_eq]
    have : s.size - (i : Int).toNat = j - i := by omega
    rw [this]
    rfl
  | succ d ih =>
    intro i j k acc hj hij hk ha
    obtain ⟨k, rfl⟩ : ∃ m, k = m + 1 := ⟨k - 1, by omega⟩
    have hlt : j < s.size := by omega
    have hb : bt s (j : Int) = ((s[j]).toNat : Int) := (bt_at s (j : Int) (by simpa using hlt)).symm
    have hw : wrap64 ((j : Int) + 1) = ((j + 1 : Nat) : Int) := by unfold wrap64; omega
    simp only [spec_l01Split.l0]
    rw [if_pos (by omega), if_pos (by omega), hb, hw, drop_cons s j hlt]
    by_cases e : s[j] = c
    · rw [if_pos (by rw [e]), if_pos (by omega), if_pos (by omega), if_pos (by omega), if_pos (by omega)]
      rw [ih (j + 1) (j + 1) k _ (by omega) (Nat.le_refl _) (by omega) (by rw [List.length_append, List.length_singleton]; omega)]
      rw [Nat.sub_self, List.take_zero, e, spF_hit, List.map_cons, ext_eq]
      have : (j : Int).toNat - (i : Int).toNat = j - i := by omega
      rw [this, List.append_assoc]
      rfl
    · rw [if_neg (by intro h; exact e (UInt8.toNat_inj.1 (by omega)))]
      rw [ih i (j + 1) k acc (by omega) (by omega) (by omega) (by omega)]
      rw [spF_miss c _ e, take_ext s i j hij hlt]
theorem specSplit_eq (c : UInt8) (s : ByteArray) (hs : s.size ≤ 1048576) (k : Nat) (hk : s.size < k) : spec_l01Split.f k s (c.toNat : Int) = some ((spF c [] s.data.toList).map mkB) := by
  unfold spec_l01Split.f
  have := specSplit_l0 c s hs s.size 0 0 k [] (by omega) (Nat.le_refl _) hk (by simp; omega)
  simpa using this

def dval (l : List UInt8) : Nat := l.foldl (fun a c => 10 * a + (c.toNat - 48)) 0
theorem dval_snoc (l : List UInt8) (c : UInt8) : dval (l ++ [c]) = 10 * dval l + (c.toNat - 48) := by simp [dval]
def isD (c : UInt8) : Prop := 48 ≤ c.toNat ∧ c.toNat ≤ 57
theorem ofNat_dig (d : Nat) (h : d < 10) : (UInt8.ofNat (48 + d)).toNat = 48 + d := by simp [UInt8.toNat_ofNat']; omega
theorem head_app {α : Type} (a b : List α) (h : a ≠ []) : (a ++ b).head? = a.head? := by
  cases a with
  | nil => exact absurd rfl h
  | cons x r => rfl
theorem dec_dig : ∀ (u : Nat) (c : UInt8), c ∈ Go.Lib.decDigits u → isD c := by
  intro u
  induction u using Nat.strongRecOn with
  | _ u ih =>
    intro c hc
    by_cases h : u < 10
    · rw [Go.Lib.decDigits, dif_pos h] at hc
      obtain rfl := List.mem_singleton.1 hc
      unfold isD; rw [ofNat_dig u h]; omega
    · rw [Go.Lib.decDigits, dif_neg h] at hc
      rcases List.mem_append.1 hc with q | q
      · exact ih (u / 10) (by omega) c q
      · obtain rfl := List.mem_singleton.1 q
        unfold isD; rw [ofNat_dig (u % 10) (by omega)]; omega
theorem dec_ne : ∀ u : Nat, Go.Lib.decDigits u ≠ [] := by
  intro u h
  have := Go.Lib.decDigits_length u
  rw [h] at this
  have h2 := Go.Lib.nDigits_pos u
  simp at this; omega
theorem dec_val : ∀ (u : Nat), dval (Go.Lib.decDigits u) = u := by
  intro u
  induction u using Nat.strongRecOn with
  | _ u ih =>
    by_cases h : u < 10
    · rw [Go.Lib.decDigits, dif_pos h]
      have := ofNat_dig u h
      simp only [dval, List.foldl]; omega
    · rw [Go.Lib.decDigits, dif_neg h, dval_snoc, ih (u / 10) (by omega), ofNat_dig (u % 10) (by omega)]; omega
theorem dec_head : ∀ (u : Nat), 10 ≤ u → ∀ c, (Go.Lib.decDigits u).head? = some c → 49 ≤ c.toNat := by
  intro u
  induction u using Nat.strongRecOn with
  | _ u ih =>
    intro hu c hc
    rw [Go.Lib.decDigits, dif_neg (by omega)] at hc
    have hne := dec_ne (u / 10)
    rw [head_app _ _ hne] at hc
    by_cases h : u / 10 < 10
    · rw [Go.Lib.decDigits, dif_pos h] at hc
      obtain rfl := Option.some.inj hc
      rw [ofNat_dig (u / 10) h]; omega
    · exact ih (u / 10) (by omega) (by omega) c hc
theorem canon_dec : ∀ (n : Nat) (l : List UInt8), l.length = n → l ≠ [] → (∀ c ∈ l, isD c) → (∀ c, l.head? = some c → 1 < l.length → 49 ≤ c.toNat) → Go.Lib.decDigits (dval l) = l := by
  intro n
  induction n with
  | zero => intro l hl hne; exact absurd (List.length_eq_zero_iff.1 hl) hne
  | succ n ih =>
    intro l hl hne hd hh
    rcases List.eq_nil_or_concat l with q | ⟨xs, c, rfl⟩
    · exact absurd q hne
    · rw [List.concat_eq_append] at *
      have hc : isD c := hd c (by simp)
      unfold isD at hc
      have hcc : UInt8.ofNat (48 + (c.toNat - 48)) = c := by
        rw [show 48 + (c.toNat - 48) = c.toNat by omega]; exact UInt8.ofNat_toNat
      by_cases hx : xs = []
      · subst hx
        rw [dval_snoc]
        simp only [dval, List.foldl, List.nil_append]
        rw [Go.Lib.decDigits, dif_pos (by omega), show 48 + (10 * 0 + (c.toNat - 48)) = 48 + (c.toNat - 48) by omega, hcc]
      · have hxl : xs.length = n := by simpa using hl
        have hxp : 0 < xs.length := List.length_pos_iff.2 hx
        have h9 : ∀ d, xs.head? = some d → 49 ≤ d.toNat := fun d hd1 => hh d (by rw [head_app _ _ hx]; exact hd1) (by simp; omega)
        have ih1 := ih xs hxl hx (fun d hd1 => hd d (by simp [hd1])) (fun d hd1 _ => h9 d hd1)
        have hpos : 1 ≤ dval xs := by
          rcases Nat.eq_zero_or_pos (dval xs) with z | z
          · rw [z] at ih1
            have e : xs = [48] := by rw [← ih1]; rw [Go.Lib.decDigits, dif_pos (by omega)]; rfl
            have := h9 48 (by rw [e]; rfl)
            exact absurd this (by decide)
          · exact z
        rw [dval_snoc, Go.Lib.decDigits, dif_neg (by omega), show (10 * dval xs + (c.toNat - 48)) / 10 = dval xs by omega, show (10 * dval xs + (c.toNat - 48)) % 10 = c.toNat - 48 by omega, ih1, hcc]
theorem pM_snoc (M : Nat) (c : UInt8) : ∀ (l : List UInt8) (acc : Nat), Go.Lib.parseUintM M acc (l ++ [c]) = match Go.Lib.parseUintM M acc l with | .ok a => Go.Lib.parseUintM M a [c] | e => e
  | [], acc => rfl
  | d :: r, acc => by
    simp only [List.cons_append, Go.Lib.parseUintM]
    split
    · split
      · rfl
      · split
        · rfl
        · exact pM_snoc M c r _
    · rfl
theorem pM_dec : ∀ (u : Nat), u ≤ 18446744073709551615 → Go.Lib.parseUintM 18446744073709551615 0 (Go.Lib.decDigits u) = .ok u := by
  intro u
  induction u using Nat.strongRecOn with
  | _ u ih =>
    intro hu
    by_cases h : u < 10
    · rw [Go.Lib.decDigits, dif_pos h]
      have hd := ofNat_dig u h
      simp only [Go.Lib.parseUintM, hd]
      rw [if_pos (by omega), if_neg (by omega), if_neg (by omega)]; congr 1; omega
    · rw [Go.Lib.decDigits, dif_neg h, pM_snoc, ih (u / 10) (by omega) (by omega)]
      have hd := ofNat_dig (u % 10) (by omega)
      simp only [Go.Lib.parseUintM, hd]
      rw [if_pos (by omega), if_neg (by omega), if_neg (by omega)]; congr 1; omega
theorem pI_dec (u : Nat) (hu : u ≤ 9223372036854775807) : Go.Lib.parseIntB 64 (Go.Lib.decDigits u) = .ok (u : Int) := by
  have hp := pM_dec u (by omega)
  have hne := dec_ne u
  have hdg := dec_dig u
  generalize Go.Lib.decDigits u = l at hp hne hdg
  cases l with
  | nil => exact absurd rfl hne
  | cons c r =>
    have hc : isD c := hdg c (by simp)
    unfold isD at hc
    rw [Go.Lib.parseIntB_plain 64 c r (by omega) (by omega)]
    have e : (2 : Nat) ^ 64 - 1 = 18446744073709551615 := by decide
    have e2 : (2 : Nat) ^ (64 - 1) = 9223372036854775808 := by decide
    simp only [Go.Lib.parseUintB, e, hp, e2]
    simp only [Go.Lib.signlessC]
    simp only [reduceCtorEq, if_false]
    rw [if_neg (by omega)]
theorem itoa_nat (u : Nat) : Go.Lib.itoa (u : Int) = Go.Lib.decDigits u := by
  unfold Go.Lib.itoa; rw [if_neg (by omega)]; simp
theorem parseIt (l : List UInt8) (v : Int) (h0 : 0 ≤ v) (h : Go.Lib.itoa v = l) : l = Go.Lib.decDigits v.toNat := by
  rw [← h, ← itoa_nat, Int.toNat_of_nonneg h0]
theorem dec_len (u : Nat) (n : Nat) : (Go.Lib.decDigits u).length ≤ n ↔ (u < 10 ^ n ∧ 1 ≤ n) := by
  rw [Go.Lib.decDigits_length]
  constructor
  · intro h
    exact ⟨Nat.lt_of_lt_of_le (Go.Lib.lt_pow_nDigits u) (Nat.pow_le_pow_right (by decide) h), Nat.le_trans (Go.Lib.nDigits_pos u) h⟩
  · rintro ⟨h, hn⟩
    induction n generalizing u with
    | zero => omega
    | succ n ih =>
      by_cases q : u < 10
      · rw [Go.Lib.nDigits_small q]; omega
      · rw [Go.Lib.nDigits_big q]
        rcases Nat.eq_zero_or_pos n with z | z
        · subst z; simp at h; omega
        · have := ih (u / 10) (by rw [Nat.pow_succ] at h; omega) z
          omega
theorem dval_lt : ∀ (n : Nat) (l : List UInt8), l.length = n → (∀ c ∈ l, isD c) → dval l < 10 ^ n := by
  intro n
  induction n with
  | zero => intro l hl _; rw [List.length_eq_zero_iff.1 hl]; decide
  | succ n ih =>
    intro l hl hd
    rcases List.eq_nil_or_concat l with q | ⟨xs, c, rfl⟩
    · rw [q] at hl; exact absurd hl (by simp)
    · rw [List.concat_eq_append] at *
      have hc : isD c := hd c (by simp)
      unfold isD at hc
      have h1 := ih xs (by simpa using hl) (fun d h => hd d (by simp [h]))
      rw [dval_snoc, Nat.pow_succ]; omega
def isDB (c : UInt8) : Bool := decide (48 ≤ c.toNat) && decide (c.toNat ≤ 57)
theorem isDB_iff (c : UInt8) : isDB c = true ↔ isD c := by simp [isDB, isD]
def isCan (l : List UInt8) : Bool := !l.isEmpty && (l.all isDB && (decide (l.length ≤ 1) || l.head? != some 48))
theorem isCan_dec (u : Nat) : isCan (Go.Lib.decDigits u) = true := by
  unfold isCan
  have h1 := dec_ne u
  have h2 : (Go.Lib.decDigits u).all isDB = true := by
    rw [List.all_eq_true]; intro c hc; exact (isDB_iff c).2 (dec_dig u c hc)
  rw [h2]
  have h3 : (Go.Lib.decDigits u).isEmpty = false := by
    cases h : Go.Lib.decDigits u with
    | nil => exact absurd h h1
    | cons a b => rfl
  rw [h3]
  by_cases h : u < 10
  · have : (Go.Lib.decDigits u).length ≤ 1 := by rw [Go.Lib.decDigits, dif_pos h]; exact Nat.le_refl _
    simp [this]
  · have h4 : (Go.Lib.decDigits u).head? ≠ some 48 := fun e => by
      have := dec_head u (by omega) 48 e
      exact absurd this (by decide)
    have : ((Go.Lib.decDigits u).head? != some 48) = true := bne_iff_ne.mpr h4
    rw [this]; simp
theorem isCan_val (l : List UInt8) (h : isCan l = true) : Go.Lib.decDigits (dval l) = l := by
  unfold isCan at h
  simp only [Bool.and_eq_true, Bool.not_eq_true', Bool.or_eq_true, decide_eq_true_eq] at h
  obtain ⟨h1, h2, h3⟩ := h
  rw [List.all_eq_true] at h2
  have hd : ∀ c ∈ l, isD c := fun c hc => (isDB_iff c).1 (h2 c hc)
  refine canon_dec l.length l rfl (fun e => by rw [e] at h1; exact absurd h1 (by decide)) hd (fun c hc hl => ?_)
  rcases h3 with h3 | h3
  · omega
  · have h4 : l.head? ≠ some 48 := bne_iff_ne.mp h3
    have hc1 : isD c := by
      cases l with
      | nil => exact absurd hc (by simp)
      | cons a r => obtain rfl := Option.some.inj hc; exact hd a (by simp)
    unfold isD at hc1
    have : c.toNat ≠ 48 := fun e => h4 (by rw [hc]; congr 1; exact UInt8.toNat_inj.1 e)
    omega
theorem numV_can (s : ByteArray) (most : Int) (hm : most ≤ 9223372036854775807) (h : isCan s.data.toList = true) (hle : (dval s.data.toList : Int) ≤ most) : Go.Proofs.YtchnklikeimpiaaDoor.H.numV s most = ((dval s.data.toList : Int), true) := by
  have hd := isCan_val _ h
  have hp := pI_dec (dval s.data.toList) (by omega)
  rw [hd] at hp
  unfold Go.Proofs.YtchnklikeimpiaaDoor.H.numV
  rw [hp]
  refine if_pos ⟨?_, by omega, hle⟩
  rw [itoa_nat, hd, ByteArray.toList_eq]
theorem numV_not (s : ByteArray) (most : Int) (h : ¬ (isCan s.data.toList = true ∧ (dval s.data.toList : Int) ≤ most)) : Go.Proofs.YtchnklikeimpiaaDoor.H.numV s most = (0, false) := by
  unfold Go.Proofs.YtchnklikeimpiaaDoor.H.numV
  split
  · rename_i v hv
    refine if_neg (fun ⟨h1, h2, h3⟩ => h ?_)
    have he : Go.Lib.itoa v = s.data.toList := by
      have : (⟨(Go.Lib.itoa v).toArray⟩ : ByteArray).toList = s.toList := h1
      rw [ByteArray.toList_eq, ByteArray.toList_eq] at this
      exact this
    have hl := parseIt _ v h2 he
    refine ⟨by rw [hl]; exact isCan_dec _, ?_⟩
    rw [hl, dec_val]; omega
  · rfl
def numS (l : List UInt8) : Int × Bool := if isCan l = true ∧ l.length ≤ 10 then ((dval l : Int), true) else (0, false)
theorem numV_S (s : ByteArray) (most : Int) (hm : most ≤ 9999999999) : Go.Proofs.YtchnklikeimpiaaDoor.H.numV s most = if (numS s.data.toList).2 = true ∧ (numS s.data.toList).1 ≤ most then numS s.data.toList else (0, false) := by
  by_cases h : isCan s.data.toList = true ∧ (dval s.data.toList : Int) ≤ most
  · rw [numV_can s most (by omega) h.1 h.2]
    have hl : s.data.toList.length ≤ 10 := by
      have := (dec_len (dval s.data.toList) 10).2 ⟨by omega, by decide⟩
      rw [isCan_val _ h.1] at this
      exact this
    have hn : numS s.data.toList = ((dval s.data.toList : Int), true) := if_pos ⟨h.1, hl⟩
    rw [hn, if_pos ⟨rfl, h.2⟩]
  · rw [numV_not s most h]
    by_cases c : isCan s.data.toList = true ∧ s.data.toList.length ≤ 10
    · have hn : numS s.data.toList = ((dval s.data.toList : Int), true) := if_pos c
      rw [hn, if_neg (fun x => h ⟨c.1, x.2⟩)]
    · have hn : numS s.data.toList = (0, false) := if_neg c
      rw [hn, if_neg (fun x => absurd x.1 (by decide))]
theorem numS_rng (l : List UInt8) : 0 ≤ (numS l).1 ∧ (numS l).1 ≤ 9999999999 := by
  unfold numS
  by_cases c : isCan l = true ∧ l.length ≤ 10
  · rw [if_pos c]
    have := (dec_len (dval l) 10).1 (by rw [isCan_val _ c.1]; exact c.2)
    have h2 := this.1
    refine ⟨by omega, ?_⟩
    show ((dval l : Nat) : Int) ≤ 9999999999
    omega
  · rw [if_neg c]; decide
theorem numV_rng (s : ByteArray) (most : Int) (h0 : 0 ≤ most) (hm : most ≤ 9999999999) : 0 ≤ (Go.Proofs.YtchnklikeimpiaaDoor.H.numV s most).1 ∧ (Go.Proofs.YtchnklikeimpiaaDoor.H.numV s most).1 ≤ most := by
  rw [numV_S s most hm]
  have := numS_rng s.data.toList
  by_cases c : (numS s.data.toList).2 = true ∧ (numS s.data.toList).1 ≤ most
  · rw [if_pos c]; exact ⟨this.1, c.2⟩
  · rw [if_neg c]; exact ⟨Int.le_refl _, h0⟩
theorem implNum_eq (s : ByteArray) (most : Int) (hs : s.size ≤ 1048576) : impl_number.f s most = some (Go.Proofs.YtchnklikeimpiaaDoor.H.numV s most) := by
  unfold impl_number.f
  rw [if_pos (by omega)]
theorem specNum_l0 (s : ByteArray) (hs : s.size ≤ 10) : ∀ (d i k : Nat), i + d = s.size → d < k → (∀ c ∈ s.data.toList.take i, isD c) → spec_l01Number.l0 k s (dval (s.data.toList.take i) : Int) (i : Int) = some (if (s.data.toList.drop i).all isDB = true then ((dval s.data.toList : Int), true) else (0, false)) := by
  intro d
  have hlen : s.data.toList.length = s.size := rfl
  induction d with
  | zero =>
    intro i k hi hk _
    obtain ⟨k, rfl⟩ : ∃ m, k = m + 1 := ⟨k - 1, by omega⟩
    simp only [spec_l01Number.l0]
    rw [if_neg (by omega), List.drop_eq_nil_of_le (by omega), List.take_of_length_le (by omega)]
    rfl
  | succ d ih =>
    intro i k hi hk hd
    obtain ⟨k, rfl⟩ : ∃ m, k = m + 1 := ⟨k - 1, by omega⟩
    have hlt : i < s.size := by omega
    have hb : bt s (i : Int) = ((s[i]).toNat : Int) := (bt_at s (i : Int) (by simpa using hlt)).symm
    have hdr : s.data.toList.drop i = s[i] :: s.data.toList.drop (i + 1) := by
      rw [List.drop_eq_getElem_cons (show i < s.data.toList.length from hlt)]; rfl
    have htk : s.data.toList.take (i + 1) = s.data.toList.take i ++ [s[i]] := by
      rw [List.take_succ_eq_append_getElem (show i < s.data.toList.length from hlt)]; rfl
    simp only [spec_l01Number.l0]
    rw [if_pos (by omega), if_pos (by omega), hb, hdr, List.all_cons]
    generalize hc : s[i] = c at *
    by_cases h1 : c.toNat < 48
    · have : isDB c = false := by simp [isDB]; omega
      rw [if_pos (by omega), this, Bool.false_and, if_neg (by decide)]
    rw [if_neg (by omega)]
    by_cases h2 : 57 < c.toNat
    · have : isDB c = false := by simp [isDB]; omega
      rw [if_pos (by omega), this, Bool.false_and, if_neg (by decide)]
    rw [if_neg (by omega)]
    have hcd : isD c := ⟨by omega, by omega⟩
    have : isDB c = true := (isDB_iff c).2 hcd
    rw [this, Bool.true_and]
    have hv := dval_lt i (s.data.toList.take i) (by rw [List.length_take]; omega) hd
    have hp : 10 ^ i ≤ 10 ^ 10 := Nat.pow_le_pow_right (by decide) (by omega)
    have hp10 : (10 : Nat) ^ 10 = 10000000000 := by decide
    have hw1 : wrap64 (10 * ((dval (s.data.toList.take i) : Nat) : Int)) = 10 * ((dval (s.data.toList.take i) : Nat) : Int) := wrap64_id _ (by omega) (by omega)
    have hm : ((c.toNat : Int) - 48) % 256 = ((c.toNat - 48 : Nat) : Int) := by omega
    have hw2 : wrap64 (10 * ((dval (s.data.toList.take i) : Nat) : Int) + ((c.toNat - 48 : Nat) : Int)) = ((dval (s.data.toList.take (i + 1)) : Nat) : Int) := by
      rw [wrap64_id _ (by omega) (by omega), htk, dval_snoc]; omega
    rw [hw1, hm, hw2, wrap_nat i (by omega)]
    exact ih (i + 1) k (by omega) (by omega) (fun x hx => by
      rw [htk] at hx
      rcases List.mem_append.1 hx with q | q
      · exact hd x q
      · rw [List.mem_singleton.1 q]; exact hcd)
theorem specNum_eq (s : ByteArray) (k : Nat) (hk : 20 < k) : spec_l01Number.f k s = some (numS s.data.toList) := by
  have hlen : s.data.toList.length = s.size := rfl
  have hts : s.toList = s.data.toList := ByteArray.toList_eq s
  obtain ⟨k, rfl⟩ : ∃ m, k = m + 1 := ⟨k - 1, by omega⟩
  unfold spec_l01Number.f
  simp only [spec_l01Number.j0]
  by_cases h0 : s.toList = ([] : List UInt8)
  · rw [if_pos h0, if_pos trivial]
    rw [hts] at h0
    unfold numS
    rw [h0, if_neg (by decide)]
  rw [if_neg h0]
  have hne : s.data.toList ≠ [] := by rw [← hts]; exact h0
  have hpos : 0 < s.size := by rw [← hlen]; exact List.length_pos_iff.2 hne
  by_cases h10 : (s.size : Int) > 10
  · rw [if_pos h10, if_pos trivial]
    unfold numS
    rw [if_neg (fun x => by have := x.2; omega)]
  rw [if_neg h10, if_pos (by omega)]
  have hl0 := specNum_l0 s (by omega) s.size 0 k (by omega) (by omega) (fun c hc => absurd hc (by simp))
  rw [List.take_zero, List.drop_zero] at hl0
  have hl0 : spec_l01Number.l0 k s 0 0 = some (if s.data.toList.all isDB = true then ((dval s.data.toList : Int), true) else (0, false)) := hl0
  have hb : bt s 0 = ((s[0]).toNat : Int) := (bt_at s 0 (by simpa using hpos)).symm
  have hh : s.data.toList.head? = some s[0] := by
    have : s.data.toList = s[0] :: s.data.toList.drop 1 := by
      have := List.drop_eq_getElem_cons (show 0 < s.data.toList.length from hpos)
      rw [List.drop_zero] at this
      exact this
    rw [this]; rfl
  have hem : s.data.toList.isEmpty = false := by
    cases h : s.data.toList with
    | nil => exact absurd h hne
    | cons a b => rfl
  by_cases h48 : bt s 0 = 48
  · rw [if_pos h48]
    have hc : s[0] = 48 := UInt8.toNat_inj.1 (by rw [hb] at h48; show (s[0]).toNat = 48; omega)
    by_cases h1 : (s.size : Int) > 1
    · rw [decide_eq_true h1, if_pos rfl]
      unfold numS isCan
      rw [hh, hc, decide_eq_false (by omega : ¬ s.data.toList.length ≤ 1), if_neg (by simp)]
    · rw [decide_eq_false h1, if_neg (by decide), hl0]
      unfold numS isCan
      rw [hem, decide_eq_true (by omega : s.data.toList.length ≤ 1)]
      have : s.data.toList.length ≤ 10 := by omega
      generalize s.data.toList = L at this ⊢
      simp [this]
  · rw [if_neg h48, if_neg (by decide), hl0]
    have hc : (s.data.toList.head? != some 48) = true := bne_iff_ne.mpr (fun e => h48 (by
      rw [hh] at e
      rw [hb, Option.some.inj e]; rfl))
    unfold numS isCan
    rw [hem, hc]
    have : s.data.toList.length ≤ 10 := by omega
    generalize s.data.toList = L at this ⊢
    simp [this]

theorem in_eq (a b c : Int) : spec_l00In.f a b c = some (decide (b ≤ a ∧ a ≤ c)) := by
  unfold spec_l00In.f
  by_cases h : b ≤ a
  · rw [if_pos (by omega)]; simp [h]
  · rw [if_neg (by omega)]; simp [h]
theorem within_eq (a b c : Int) : impl_within.f a b c = some (decide (b ≤ a ∧ a ≤ c)) := by
  unfold impl_within.f
  by_cases h : b ≤ a
  · rw [if_pos (by omega)]; simp [h]
  · rw [if_neg (by omega)]; simp [h]
def upFrom (l : List Int) : Nat → Nat → Bool
  | 0, _ => true
  | d + 1, i => !decide (rd l (i : Int) ≤ rd l ((i : Int) - 1)) && upFrom l d (i + 1)
def ropeOk (p : Int) (l : List Int) : Bool :=
  decide (1 ≤ p ∧ p ≤ 400) && (decide (2 ≤ l.length ∧ l.length ≤ 40) && (decide (rd l 0 = 0) && (decide (rd l ((l.length : Int) - 1) = p) && upFrom l (l.length - 1) 1)))
theorem specRope_l0 (l : List Int) (p : Int) (hl : l.length ≤ 1048576) : ∀ (d i k : Nat), 1 ≤ i → i + d = l.length → d < k → spec_l03Ok.l0 k (l.length : Int) (i : Int) p l = some (upFrom l d i) := by
  intro d
  induction d with
  | zero =>
    intro i k h1 hi hk
    obtain ⟨k, rfl⟩ : ∃ m, k = m + 1 := ⟨k - 1, by omega⟩
    simp only [spec_l03Ok.l0]
    rw [if_neg (by omega)]
    rfl
  | succ d ih =>
    intro i k h1 hi hk
    obtain ⟨k, rfl⟩ : ∃ m, k = m + 1 := ⟨k - 1, by omega⟩
    simp only [spec_l03Ok.l0]
    rw [wrap64_id ((i : Int) - 1) (by omega) (by omega), if_pos (by omega), if_pos (by omega), if_pos (by omega), if_pos (by omega), if_pos (by omega), wrap_nat i (by omega)]
    unfold upFrom
    by_cases e : rd l (i : Int) ≤ rd l ((i : Int) - 1)
    · rw [if_pos e, decide_eq_true e]; rfl
    · rw [if_neg e, decide_eq_false e, ih (i + 1) k (by omega) (by omega) (by omega)]; rfl
theorem specRope_eq (p : Int) (hp : -32768 ≤ p ∧ p ≤ 32767) (l : List Int) (hl : l.length ≤ 1048576) (k : Nat) (hk : 1048590 < k) : spec_l03Ok.f k p l = some (ropeOk p l) := by
  obtain ⟨k, rfl⟩ : ∃ m, k = m + 1 := ⟨k - 1, by omega⟩
  unfold spec_l03Ok.f ropeOk
  rw [wrap64_id p (by omega) (by omega), in_eq, Option.bind_some]
  simp only [spec_l03Ok.j0, if_true]
  by_cases c1 : 1 ≤ p ∧ p ≤ 400
  · rw [decide_eq_true c1, if_pos rfl]
    by_cases c2 : 2 ≤ l.length ∧ l.length ≤ 40
    · rw [decide_eq_true c2, if_neg (by omega), if_neg (by omega), if_pos (by omega), wrap64_id ((l.length : Int) - 1) (by omega) (by omega)]
      by_cases c3 : rd l 0 = 0
      · rw [if_pos c3, decide_eq_true c3, if_pos (by omega), if_pos (by omega)]
        by_cases c4 : rd l ((l.length : Int) - 1) = p
        · have := specRope_l0 l p hl (l.length - 1) 1 k (by omega) (by omega) (by omega)
          rw [show ((1 : Nat) : Int) = 1 from rfl] at this
          rw [decide_eq_true c4, if_neg (by simp [c4]), this]; rfl
        · rw [decide_eq_false c4, if_pos (by simp [c4])]; rfl
      · rw [if_neg c3, decide_eq_false c3]; rfl
    · rw [decide_eq_false c2]
      by_cases c5 : (l.length : Int) < 2
      · rw [if_pos c5]; rfl
      · rw [if_neg c5, if_pos (by omega)]; rfl
  · rw [decide_eq_false c1, if_neg (by decide)]; rfl
theorem implRope_l0 (l : List Int) (p : Int) (h2 : 2 ≤ l.length) (hl : l.length ≤ 1048576) : ∀ (d i k : Nat), 1 ≤ i → i + d = l.length → d < k → impl_ValidRope.l0 k (i : Int) p l = some (upFrom l d i && (decide (rd l 0 = 0) && decide (rd l ((l.length : Int) - 1) = p))) := by
  intro d
  induction d with
  | zero =>
    intro i k h1 hi hk
    obtain ⟨k, rfl⟩ : ∃ m, k = m + 1 := ⟨k - 1, by omega⟩
    simp only [impl_ValidRope.l0]
    rw [if_neg (by omega), if_pos (by omega), wrap64_id ((l.length : Int) - 1) (by omega) (by omega)]
    unfold upFrom
    by_cases c3 : rd l 0 = 0
    · rw [if_pos c3, decide_eq_true c3, if_pos (by omega), if_pos (by omega)]; rfl
    · rw [if_neg c3, decide_eq_false c3]; rfl
  | succ d ih =>
    intro i k h1 hi hk
    obtain ⟨k, rfl⟩ : ∃ m, k = m + 1 := ⟨k - 1, by omega⟩
    simp only [impl_ValidRope.l0]
    rw [wrap64_id ((i : Int) - 1) (by omega) (by omega), if_pos (by omega), if_pos (by omega), if_pos (by omega), if_pos (by omega), wrap_nat i (by omega)]
    conv => rhs; unfold upFrom
    by_cases e : rd l (i : Int) ≤ rd l ((i : Int) - 1)
    · rw [if_pos e, decide_eq_true e]; rfl
    · rw [if_neg e, decide_eq_false e, ih (i + 1) k (by omega) (by omega) (by omega)]; rfl
theorem implRope_eq (p : Int) (hp : -32768 ≤ p ∧ p ≤ 32767) (l : List Int) (hl : l.length ≤ 1048576) (k : Nat) (hk : 1048590 < k) : impl_ValidRope.f k p l = some (ropeOk p l) := by
  obtain ⟨k, rfl⟩ : ∃ m, k = m + 1 := ⟨k - 1, by omega⟩
  unfold impl_ValidRope.f ropeOk impl_size_int16.f
  rw [wrap64_id p (by omega) (by omega), within_eq, Option.bind_some, Option.bind_some, within_eq, Option.bind_some]
  simp only [impl_ValidRope.j0, if_true]
  by_cases c1 : 1 ≤ p ∧ p ≤ 400
  · rw [decide_eq_true c1, if_pos rfl]
    by_cases c2 : 2 ≤ l.length ∧ l.length ≤ 40
    · have := implRope_l0 l p c2.1 hl (l.length - 1) 1 k (by omega) (by omega) (by omega)
      rw [show ((1 : Nat) : Int) = 1 from rfl] at this
      rw [decide_eq_true (show 2 ≤ (l.length : Int) ∧ (l.length : Int) ≤ 40 by omega), decide_eq_true c2, if_neg (by decide), this]
      generalize upFrom l (l.length - 1) 1 = u
      generalize decide (rd l 0 = 0) = v
      generalize decide (rd l ((l.length : Int) - 1) = p) = x
      cases u <;> cases v <;> cases x <;> rfl
    · rw [decide_eq_false (show ¬ (2 ≤ (l.length : Int) ∧ (l.length : Int) ≤ 40) by omega), decide_eq_false c2, if_pos (by decide)]; rfl
  · rw [decide_eq_false c1, if_neg (by decide)]; rfl
theorem eqInt16S_l0 (a b : List Int) (hab : a.length = b.length) (hl : a.length ≤ 1048576) : ∀ (d i k : Nat), i + d = a.length → d < k → laws_eqInt16S.l0 k a b (i : Int) = some (decide (a.drop i = b.drop i)) := by
  intro d
  induction d with
  | zero =>
    intro i k hi hk
    obtain ⟨k, rfl⟩ : ∃ m, k = m + 1 := ⟨k - 1, by omega⟩
    simp only [laws_eqInt16S.l0]
    rw [if_neg (by omega), List.drop_eq_nil_of_le (by omega), List.drop_eq_nil_of_le (by omega)]
    simp
  | succ d ih =>
    intro i k hi hk
    obtain ⟨k, rfl⟩ : ∃ m, k = m + 1 := ⟨k - 1, by omega⟩
    have ha : a.drop i = rd a (i : Int) :: a.drop (i + 1) := by
      rw [drop_getD 0 a i (by omega)]; simp [rd]
    have hb : b.drop i = rd b (i : Int) :: b.drop (i + 1) := by
      rw [drop_getD 0 b i (by omega)]; simp [rd]
    simp only [laws_eqInt16S.l0]
    rw [if_pos (by omega), if_pos (by omega), if_pos (by omega), ha, hb]
    by_cases e : rd a (i : Int) = rd b (i : Int)
    · rw [if_pos e, wrap_nat i (by omega), ih (i + 1) k (by omega) (by omega)]
      simp [e]
    · rw [if_neg e]
      simp [e]
theorem eqInt16S_eq (a b : List Int) (hl : a.length ≤ 1048576) (k : Nat) (hk : a.length < k) : laws_eqInt16S.f k a b = some (decide (a = b)) := by
  unfold laws_eqInt16S.f
  by_cases h : a.length = b.length
  · rw [if_pos (by omega)]
    have := eqInt16S_l0 a b h hl a.length 0 k (by omega) hk
    simpa using this
  · rw [if_neg (by omega)]
    have : a ≠ b := fun e => h (by rw [e])
    simp [this]

def marksI (m : Int) (n : Nat) : List Int := (List.range n).map (fun (j : Nat) => IntKind.i16.wrap (m + (j : Int)))
theorem marksI_length (m : Int) (n : Nat) : (marksI m n).length = n := by simp [marksI]
theorem markInt16S_l0 (m : Int) (h0 : 0 ≤ m) (h1 : m ≤ 4194304) (g : List Int) (hl : g.length ≤ 1048576) : ∀ (d i k : Nat), i + d = g.length → d < k → laws_markInt16S.l0 k ((marksI m g.length).take i ++ g.drop i) (m + (i : Int)) (i : Int) = some (m + (g.length : Int), marksI m g.length) := by
  intro d
  induction d with
  | zero =>
    intro i k hi hk
    obtain ⟨k, rfl⟩ : ∃ m, k = m + 1 := ⟨k - 1, by omega⟩
    obtain rfl : i = g.length := by omega
    simp only [laws_markInt16S.l0]
    rw [List.drop_eq_nil_of_le (Nat.le_refl _), List.take_of_length_le (by rw [marksI_length]; omega), List.append_nil, if_neg (by rw [marksI_length]; omega)]
  | succ d ih =>
    intro i k hi hk
    obtain ⟨k, rfl⟩ : ∃ m, k = m + 1 := ⟨k - 1, by omega⟩
    have hlen : (((marksI m g.length).take i ++ g.drop i).length : Int) = g.length := by simp [marksI_length]; omega
    have hstep := set_drop ((marksI m g.length).take i) g i (IntKind.i16.wrap (m + (i : Int))) (by simp [marksI_length]; omega) (by omega)
    have hg : (marksI m g.length).getD i 0 = IntKind.i16.wrap (m + (i : Int)) := getD_range_map 0 _ _ _ (by omega)
    rw [← hg, ← take_getD 0 (marksI m g.length) i (by rw [marksI_length]; omega), hg] at hstep
    simp only [laws_markInt16S.l0]
    rw [if_pos (by rw [hlen]; omega), if_pos (by omega), wrap_nat i (by omega), Int.toNat_natCast, wrap64_id _ (by omega) (by omega), hstep]
    have := ih (i + 1) k (by omega) (by omega)
    rw [show m + ((i + 1 : Nat) : Int) = m + (i : Int) + 1 by omega] at this
    exact this
theorem markInt16S_eq (m : Int) (h0 : 0 ≤ m) (h1 : m ≤ 4194304) (g : List Int) (hl : g.length ≤ 1048576) (k : Nat) (hk : g.length < k) : laws_markInt16S.f k g m = some (m + (g.length : Int), marksI m g.length) := by
  unfold laws_markInt16S.f
  have := markInt16S_l0 m h0 h1 g hl g.length 0 k (by omega) hk
  simpa using this
theorem heldInt16S_l0 (m : Int) (h0 : 0 ≤ m) (h1 : m ≤ 4194304) (n : Nat) (hl : n ≤ 1048576) : ∀ (d i k : Nat), i + d = n → d < k → laws_heldInt16S.l0 k (marksI m n) (m + (i : Int)) (i : Int) = some (m + (n : Int)) := by
  intro d
  induction d with
  | zero =>
    intro i k hi hk
    obtain ⟨k, rfl⟩ : ∃ m, k = m + 1 := ⟨k - 1, by omega⟩
    obtain rfl : i = n := by omega
    simp only [laws_heldInt16S.l0]
    rw [if_neg (by rw [marksI_length]; omega)]
  | succ d ih =>
    intro i k hi hk
    obtain ⟨k, rfl⟩ : ∃ m, k = m + 1 := ⟨k - 1, by omega⟩
    have hg : rd (marksI m n) (i : Int) = IntKind.i16.wrap (m + (i : Int)) := by
      rw [rd_nat]; exact getD_range_map 0 _ _ _ (by omega)
    simp only [laws_heldInt16S.l0]
    rw [if_pos (by rw [marksI_length]; omega), if_pos (by omega), if_pos hg, wrap_nat i (by omega), wrap64_id _ (by omega) (by omega)]
    have := ih (i + 1) k (by omega) (by omega)
    rw [show m + ((i + 1 : Nat) : Int) = m + (i : Int) + 1 by omega] at this
    exact this
theorem heldInt16S_eq (m : Int) (h0 : 0 ≤ m) (h1 : m ≤ 4194304) (n : Nat) (hl : n ≤ 1048576) (k : Nat) (hk : n < k) : laws_heldInt16S.f k (marksI m n) m = some (m + (n : Int)) := by
  unfold laws_heldInt16S.f
  have := heldInt16S_l0 m h0 h1 n hl n 0 k (by omega) hk
  simpa using this

theorem eqRope_eq (p : Int) (l : List Int) (q : Int) (m : List Int) (hl : l.length ≤ 1048576) (k : Nat) (hk : 1048576 < k) : laws_eqRope.f k p l q m = some (decide (p = q ∧ l = m)) := by
  unfold laws_eqRope.f
  rw [eqInt16S_eq l m hl k (by omega)]
  by_cases h1 : p = q <;> by_cases h2 : l = m <;> simp [h1, h2]
theorem markRope_eq (m : Int) (h0 : 0 ≤ m) (h1 : m ≤ 4194304) (p : Int) (l : List Int) (hl : l.length ≤ 1048576) (k : Nat) (hk : l.length < k) : laws_markRope.f k p l m = some (m + (l.length : Int), marksI m l.length) := by
  unfold laws_markRope.f
  rw [markInt16S_eq m h0 h1 l hl k hk]
  simp only [Option.bind_some]
theorem heldRope_eq (m : Int) (h0 : 0 ≤ m) (h1 : m ≤ 4194304) (p : Int) (n : Nat) (hn : n ≤ 1048576) (k : Nat) (hk : n < k) : laws_heldRope.f k p (marksI m n) m = some (m + (n : Int)) := by
  unfold laws_heldRope.f
  rw [heldInt16S_eq m h0 h1 n hn k hk, Option.bind_some, if_neg (by omega)]

def rdR : List ByteArray → Int → List Int → Int × List Int × Int
  | [], p, K => if ropeOk p K = true then (p, K, 0) else (0, [], 5)
  | w :: r, _, K => if (Go.Proofs.YtchnklikeimpiaaDoor.H.numV w 400).2 = true then rdR r (IntKind.i16.wrap (Go.Proofs.YtchnklikeimpiaaDoor.H.numV w 400).1) (K ++ [IntKind.i16.wrap (Go.Proofs.YtchnklikeimpiaaDoor.H.numV w 400).1]) else (0, [], 5)
theorem i16_id (n : Int) (h0 : 0 ≤ n) (h1 : n ≤ 400) : IntKind.i16.wrap n = n := by simp [IntKind.wrap, IntKind.bits, IntKind.signed]; omega
theorem rdR_many : ∀ (r : List ByteArray) (p : Int) (K : List Int), 40 < K.length + r.length → rdR r p K = (0, [], 5)
  | [], p, K, h => by
    have : ¬ ropeOk p K = true := fun x => by
      unfold ropeOk at x
      simp only [Bool.and_eq_true, decide_eq_true_eq] at x
      have := x.2.1
      simp only [List.length_nil] at h
      omega
    unfold rdR
    rw [if_neg this]
  | w :: r, p, K, h => by
    unfold rdR
    by_cases c : (Go.Proofs.YtchnklikeimpiaaDoor.H.numV w 400).2 = true
    · rw [if_pos c]
      exact rdR_many r _ _ (by simp only [List.length_append, List.length_cons, List.length_nil] at h ⊢; omega)
    · rw [if_neg c]
theorem rdR_len : ∀ (r : List ByteArray) (p : Int) (K : List Int), (rdR r p K).2.1.length ≤ 40
  | [], p, K => by
    unfold rdR
    by_cases c : ropeOk p K = true
    · rw [if_pos c]
      unfold ropeOk at c
      simp only [Bool.and_eq_true, decide_eq_true_eq] at c
      exact c.2.1.2
    · rw [if_neg c]; exact Nat.zero_le _
  | w :: r, p, K => by
    unfold rdR
    by_cases c : (Go.Proofs.YtchnklikeimpiaaDoor.H.numV w 400).2 = true
    · rw [if_pos c]; exact rdR_len r _ _
    · rw [if_neg c]; exact Nat.zero_le _
theorem rdOf_drop (W : List ByteArray) (j : Nat) (h : j < W.length) : W.drop j = rdOf ByteArray.empty W (j : Int) :: W.drop (j + 1) := by
  rw [List.drop_eq_getElem_cons h]
  simp [rdOf, List.getD_eq_getElem?_getD, List.getElem?_eq_getElem h]
theorem impl_l0 (W : List ByteArray) (hW : W.length ≤ 1048576) (hs : ∀ w ∈ W, w.size ≤ 1048576) : ∀ (d j k : Nat) (p : Int) (K : List Int), j + d = W.length → d + 1048600 < k → K.length = j → (-32768 ≤ p ∧ p ≤ 32767) →
    impl_ReadRope.l0 k W (W.length : Int) (j : Int) p K = some (rdR (W.drop j) p K) := by
  intro d
  induction d with
  | zero =>
    intro j k p K hj hk hK hp
    obtain ⟨k, rfl⟩ : ∃ m, k = m + 1 := ⟨k - 1, by omega⟩
    simp only [impl_ReadRope.l0]
    rw [if_neg (by omega), implRope_eq p hp K (by omega) k (by omega), Option.bind_some, List.drop_eq_nil_of_le (by omega)]
    unfold rdR
    by_cases q : ropeOk p K = true
    · rw [if_pos q, if_pos q]
    · rw [if_neg q, if_neg q]
  | succ d ih =>
    intro j k p K hj hk hK hp
    obtain ⟨k, rfl⟩ : ∃ m, k = m + 1 := ⟨k - 1, by omega⟩
    have hm := hs (rdOf ByteArray.empty W (j : Int)) (by
      have := rdOf_drop W j (by omega)
      exact List.mem_of_mem_drop (by rw [this]; exact List.mem_cons_self))
    simp only [impl_ReadRope.l0]
    rw [if_pos (by omega), if_pos (by omega), if_pos (by omega), implNum_eq _ 400 hm, Option.bind_some, rdOf_drop W j (by omega)]
    unfold rdR
    have hr := numV_rng (rdOf ByteArray.empty W (j : Int)) 400 (by decide) (by decide)
    generalize Go.Proofs.YtchnklikeimpiaaDoor.H.numV (rdOf ByteArray.empty W (j : Int)) 400 = v at hr ⊢
    by_cases q : v.2 = true
    · rw [if_pos q, if_pos q, if_pos (by omega), wrap_nat j (by omega), i16_id _ hr.1 hr.2]
      exact ih (j + 1) k v.1 (K ++ [v.1]) (by omega) (by omega) (by simp [hK]) (by omega)
    · rw [if_neg q, if_neg q]
theorem spec_l0 (W : List ByteArray) (hW : W.length ≤ 40) : ∀ (d j k : Nat) (p : Int) (K : List Int), j + d = W.length → d + 1048600 < k → K.length = j → (-32768 ≤ p ∧ p ≤ 32767) →
    spec_ReadRope.l0 k W (j : Int) p K = some (rdR (W.drop j) p K) := by
  intro d
  induction d with
  | zero =>
    intro j k p K hj hk hK hp
    obtain ⟨k, rfl⟩ : ∃ m, k = m + 1 := ⟨k - 1, by omega⟩
    simp only [spec_ReadRope.l0]
    rw [if_neg (by omega), specRope_eq p hp K (by omega) k (by omega), Option.bind_some, List.drop_eq_nil_of_le (by omega)]
    unfold rdR
    by_cases q : ropeOk p K = true
    · rw [if_pos q, if_pos q]
    · rw [if_neg q, if_neg q]
  | succ d ih =>
    intro j k p K hj hk hK hp
    obtain ⟨k, rfl⟩ : ∃ m, k = m + 1 := ⟨k - 1, by omega⟩
    simp only [spec_ReadRope.l0]
    rw [if_pos (by omega), if_pos (by omega), specNum_eq _ k (by omega), Option.bind_some, rdOf_drop W j (by omega)]
    unfold rdR
    have hr := numS_rng (rdOf ByteArray.empty W (j : Int)).data.toList
    rw [numV_S _ 400 (by decide)]
    generalize numS (rdOf ByteArray.empty W (j : Int)).data.toList = v at hr ⊢
    by_cases q : v.2 = true
    · rw [if_pos q]
      by_cases q2 : v.1 > 400
      · rw [if_pos q2, if_neg (by intro x; have : ((0, false) : Int × Bool).2 = true := by rw [if_neg (by omega)] at x; exact x
                                  exact absurd this (by decide))]
      · have hc : v.2 = true ∧ v.1 ≤ 400 := ⟨q, by omega⟩
        rw [if_neg q2, if_pos (by omega), if_pos hc, if_pos q, wrap_nat j (by omega), i16_id _ hr.1 (by omega)]
        exact ih (j + 1) k v.1 (K ++ [v.1]) (by omega) (by omega) (by simp [hK]) (by omega)
    · rw [if_neg q, if_neg (by intro x; rw [if_neg (fun y => q y.1)] at x; exact absurd x (by decide))]
theorem spF_size (c : UInt8) (l : List UInt8) : ∀ (cur x : List UInt8), x ∈ spF c cur l → x.length ≤ cur.length + l.length := by
  induction l with
  | nil => intro cur x h; rw [spF_nil] at h; rw [List.mem_singleton.1 h]; simp
  | cons b l ih =>
    intro cur x h
    by_cases e : b = c
    · subst e
      rw [spF_hit] at h
      rcases List.mem_cons.1 h with q | q
      · rw [q]; simp
      · have := ih [] x q; simp at this ⊢; omega
    · rw [spF_miss c b e] at h
      have := ih _ x h
      simp at this ⊢; omega
theorem main : laws_FnExactReadRope.Pure := by
  intro s mx hs
  refine rounds_of 4000000 fun k hk => ?_
  unfold laws_FnExactReadRope.f
  by_cases hbig : (s.size : Int) > 1048576
  · rw [if_pos hbig]
  rw [if_neg hbig]
  have hsz : s.size ≤ 1048576 := by omega
  obtain ⟨W, hWd⟩ : ∃ W, W = (spF 45 [] s.data.toList).map mkB := ⟨_, rfl⟩
  have hWl : W.length = s.data.toList.count 45 + 1 := by rw [hWd, List.length_map, spF_len]
  have hW2 : W.length ≤ 1048577 := by
    have := List.count_le_length (a := (45 : UInt8)) (l := s.data.toList)
    have h2 : s.data.toList.length = s.size := rfl
    omega
  have hWs : ∀ w ∈ W, w.size ≤ 1048576 := fun w hw => by
    rw [hWd] at hw
    obtain ⟨x, hx, rfl⟩ := List.mem_map.1 hw
    have := spF_size 45 s.data.toList [] x hx
    have h2 : s.data.toList.length = s.size := rfl
    have h3 : (mkB x).size = x.length := by simp [mkB, ByteArray.size]
    simp at this
    omega
  obtain ⟨R, hR⟩ : ∃ R, R = rdR W 0 [] := ⟨_, rfl⟩
  have hRl : R.2.1.length ≤ 40 := by rw [hR]; exact rdR_len W 0 []
  have e1 : ∀ k, 2000000 ≤ k → spec_ReadRope.f k s = some R := fun k hk => by
    unfold spec_ReadRope.f
    have h1 := specSplit_eq 45 s hsz k (by omega)
    have h2 : ((45 : UInt8).toNat : Int) = 45 := rfl
    rw [h2] at h1
    rw [h1, Option.bind_some, ← hWd]
    by_cases h40 : (W.length : Int) > 40
    · rw [if_pos h40, hR, rdR_many W 0 [] (by simp only [List.length_nil]; omega)]
    · rw [if_neg h40, hR]
      have := spec_l0 W (by omega) W.length 0 k 0 [] (by omega) (by omega) rfl (by decide)
      rw [List.drop_zero] at this
      exact this
  have e2 : ∀ k, 3000000 ≤ k → impl_ReadRope.f k s mx = some R := fun k hk => by
    unfold impl_ReadRope.f
    rw [implSplit_eq 45 s mx hsz, Option.bind_some, ← hWd]
    by_cases hx : W.length ≤ 1048576
    · have := impl_l0 W hx hWs W.length 0 k 0 [] (by omega) (by omega) rfl (by decide)
      rw [List.drop_zero] at this
      rw [hR]
      exact this
    · have hcl : s.data.toList.count 45 = s.data.toList.length := by
        have := List.count_le_length (a := (45 : UInt8)) (l := s.data.toList)
        have h2 : s.data.toList.length = s.size := rfl
        omega
      have hfirst : ∃ r, W = mkB [] :: r := by
        cases hl : s.data.toList with
        | nil => rw [hl] at hWl; simp at hWl; omega
        | cons b l =>
          have hb : b = 45 := by
            have := List.count_eq_length.1 hcl b (by rw [hl]; exact List.mem_cons_self)
            exact this.symm
          subst hb
          rw [hWd, hl, spF_hit]
          exact ⟨_, rfl⟩
      obtain ⟨r, hr⟩ := hfirst
      rw [hR, rdR_many W 0 [] (by simp only [List.length_nil]; omega)]
      obtain ⟨k, rfl⟩ : ∃ m, k = m + 1 := ⟨k - 1, by omega⟩
      have hf : rdOf ByteArray.empty W 0 = mkB [] := by rw [hr]; rfl
      have hz : Go.Proofs.YtchnklikeimpiaaDoor.H.numV (mkB []) 400 = (0, false) := numV_not _ _ (fun x => absurd x.1 (by decide))
      simp only [impl_ReadRope.l0]
      rw [if_pos (by omega), if_pos (by omega), if_pos (by omega), hf, implNum_eq _ 400 (by decide), Option.bind_some, hz, if_neg (by decide)]
  obtain ⟨p, K, c⟩ := R
  have hKl : K.length ≤ 40 := hRl
  rw [e1 k (by omega), e2 k (by omega)]
  simp only [Option.bind_some]
  rw [eqRope_eq p K p K (by omega) k (by omega)]
  simp only [Option.bind_some, and_self, decide_true, if_true]
  obtain ⟨k, rfl⟩ : ∃ m, k = m + 3 := ⟨k - 3, by omega⟩
  simp only [laws_FnExactReadRope.j0]
  rw [if_neg (by simp), markRope_eq 1 (by decide) (by decide) p K (by omega) _ (by omega)]
  simp only [Option.bind_some]
  rw [heldRope_eq 1 (by decide) (by decide) p K.length (by omega) _ (by omega)]
  simp only [Option.bind_some]
  rw [if_neg (by omega), if_pos trivial, e2 _ (by omega)]
  simp only [Option.bind_some]
  rw [eqRope_eq p K p K (by omega) _ (by omega)]
  simp only [Option.bind_some, and_self, decide_true, if_true, laws_FnExactReadRope.j1]
  rw [if_neg (by simp), heldRope_eq 1 (by decide) (by decide) p K.length (by omega) _ (by omega)]
  simp only [Option.bind_some]
  rw [if_neg (by omega), if_pos trivial]

end Go.Proofs.YtchnklikeimpiaaDoor.PureFnExactReadRope
namespace Go.Proofs.YtchnklikeimpiaaDoor.Pure
theorem FnExactReadRope : Go.Proofs.YtchnklikeimpiaaDoor.P.laws_FnExactReadRope.Pure := Go.Proofs.YtchnklikeimpiaaDoor.PureFnExactReadRope.main
end Go.Proofs.YtchnklikeimpiaaDoor.Pure
