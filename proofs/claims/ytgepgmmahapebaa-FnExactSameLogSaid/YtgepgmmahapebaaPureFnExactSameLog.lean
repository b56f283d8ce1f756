/- For every two logs the program's SameLog answers as the reference's and leaves both logs as they were; no condition. -/
import Derived.Test.YtgepgmmahapebaaP9
import Derived.Laws.BitsLemmas
namespace Go.Proofs.Ytgepgmmahapebaa.PureFnExactSameLog
open Go.RowKit Go.Proofs.Ytgepgmmahapebaa.P Go.Proofs.YtgepgmmahapebaaW.PrintWords Go.Proofs.YtgepgmmahapebaaW.PrintLast
set_option linter.unusedSimpArgs false
set_option linter.unusedVariables false

theorem wrap64_id (x : Int) (h0 : -9223372036854775808 ≤ x) (h1 : x ≤ 9223372036854775807) : wrap64 x = x := by unfold wrap64; omega
theorem wrap_nat (n : Nat) (h : n < 4611686018427387904) : wrap64 ((n : Int) + 1) = ((n + 1 : Nat) : Int) := by
  rw [wrap64_id _ (by omega) (by omega)]; omega
theorem rd_nat (l : List Int) (i : Nat) : rd l (i : Int) = l.getD i 0 := by simp [rd]
theorem drop_rd (l : List Int) (i : Nat) (h : i < l.length) : l.drop i = rd l (i : Int) :: l.drop (i + 1) := by
  rw [List.drop_eq_getElem_cons h, rd_nat, List.getD_eq_getElem?_getD, List.getElem?_eq_getElem h]; rfl
theorem drop_getD {α : Type} (z : α) (l : List α) (i : Nat) (h : i < l.length) : l.drop i = l.getD i z :: l.drop (i + 1) := by
  rw [List.drop_eq_getElem_cons h, List.getD_eq_getElem?_getD, List.getElem?_eq_getElem h]; rfl
theorem take_getD {α : Type} (z : α) (l : List α) (i : Nat) (h : i < l.length) : l.take (i + 1) = l.take i ++ [l.getD i z] := by
  rw [List.take_succ_eq_append_getElem h, List.getD_eq_getElem?_getD, List.getElem?_eq_getElem h]; rfl
theorem set_rep {α : Type} (a : List α) (i d : Nat) (z v : α) (h : a.length = i) : (a ++ List.replicate (d + 1) z).set i v = (a ++ [v]) ++ List.replicate d z := by
  subst h
  rw [List.set_append_right _ _ (Nat.le_refl _), Nat.sub_self, List.replicate_succ, List.set_cons_zero]
  simp
theorem set_drop {α : Type} (a g : List α) (i : Nat) (v : α) (h : a.length = i) (hg : i < g.length) : (a ++ g.drop i).set i v = (a ++ [v]) ++ g.drop (i + 1) := by
  subst h
  rw [List.set_append_right _ _ (Nat.le_refl _), Nat.sub_self, List.drop_eq_getElem_cons hg, List.set_cons_zero]
  simp
theorem getD_range_map {α : Type} (z : α) (f : Nat → α) (n i : Nat) (h : i < n) : ((List.range n).map f).getD i z = f i := by
  rw [List.getD_eq_getElem?_getD, List.getElem?_map, List.getElem?_range h]; rfl
theorem rounds_of (B : Nat) {α : Type} {F : Nat → Option α} {v : α} (h : ∀ k, B ≤ k → F k = some v) : ∃ k, F k = some v := ⟨B, h B (Nat.le_refl _)⟩

theorem toPeopleS_l0 (l : List Int) (hl : l.length ≤ 1048576) : ∀ (d i k : Nat), i + d = l.length → d < k → laws_toPeopleS.l0 k l ((l.map id).take i ++ List.replicate d 0) (i : Int) = some (l.map id) := by
  intro d
  induction d with
  | zero =>
    intro i k hi hk
    obtain ⟨k, rfl⟩ : ∃ m, k = m + 1 := ⟨k - 1, by omega⟩
    simp only [laws_toPeopleS.l0]
    rw [if_neg (by omega), List.take_of_length_le (by simp; omega)]
    simp
  | succ d ih =>
    intro i k hi hk
    obtain ⟨k, rfl⟩ : ∃ m, k = m + 1 := ⟨k - 1, by omega⟩
    have hlen : (((l.map id).take i ++ List.replicate (d + 1) 0).length : Int) = l.length := by simp; omega
    have hg : (l.map id).getD i 0 = id (rd l (i : Int)) := by
      simp [rd, List.getD_eq_getElem?_getD, List.getElem?_map, List.getElem?_eq_getElem (show i < l.length by omega)]
    have hstep := set_rep ((l.map id).take i) i d 0 (id (rd l (i : Int))) (by simp; omega)
    rw [← hg, ← take_getD 0 (l.map id) i (by simp; omega), hg] at hstep
    simp only [laws_toPeopleS.l0]
    rw [if_pos (by omega), if_pos (by omega), if_pos (by rw [hlen]; omega), wrap_nat i (by omega), Int.toNat_natCast]
    exact (congrArg (fun o => laws_toPeopleS.l0 k l o ((i + 1 : Nat) : Int)) hstep).trans (ih (i + 1) k (by omega) (by omega))
theorem toPeopleS_eq (l : List Int) (hl : l.length ≤ 1048576) (k : Nat) (hk : l.length < k) : laws_toPeopleS.f k l = some l := by
  unfold laws_toPeopleS.f
  rw [if_pos (by omega), if_pos (by omega)]
  have := toPeopleS_l0 l hl l.length 0 k (by omega) hk
  simpa using this

theorem toInt16S_l0 (l : List Int) (hl : l.length ≤ 1048576) : ∀ (d i k : Nat), i + d = l.length → d < k → laws_toInt16S.l0 k l ((l.map id).take i ++ List.replicate d 0) (i : Int) = some (l.map id) := by
  intro d
  induction d with
  | zero =>
    intro i k hi hk
    obtain ⟨k, rfl⟩ : ∃ m, k = m + 1 := ⟨k - 1, by omega⟩
    simp only [laws_toInt16S.l0]
    rw [if_neg (by omega), List.take_of_length_le (by simp; omega)]
    simp
  | succ d ih =>
    intro i k hi hk
    obtain ⟨k, rfl⟩ : ∃ m, k = m + 1 := ⟨k - 1, by omega⟩
    have hlen : (((l.map id).take i ++ List.replicate (d + 1) 0).length : Int) = l.length := by simp; omega
    have hg : (l.map id).getD i 0 = id (rd l (i : Int)) := by
      simp [rd, List.getD_eq_getElem?_getD, List.getElem?_map, List.getElem?_eq_getElem (show i < l.length by omega)]
    have hstep := set_rep ((l.map id).take i) i d 0 (id (rd l (i : Int))) (by simp; omega)
    rw [← hg, ← take_getD 0 (l.map id) i (by simp; omega), hg] at hstep
    simp only [laws_toInt16S.l0]
    rw [if_pos (by omega), if_pos (by omega), if_pos (by rw [hlen]; omega), wrap_nat i (by omega), Int.toNat_natCast]
    exact (congrArg (fun o => laws_toInt16S.l0 k l o ((i + 1 : Nat) : Int)) hstep).trans (ih (i + 1) k (by omega) (by omega))
theorem toInt16S_eq (l : List Int) (hl : l.length ≤ 1048576) (k : Nat) (hk : l.length < k) : laws_toInt16S.f k l = some l := by
  unfold laws_toInt16S.f
  rw [if_pos (by omega), if_pos (by omega)]
  have := toInt16S_l0 l hl l.length 0 k (by omega) hk
  simpa using this

theorem eqPeopleS_l0 (a b : List Int) (hab : a.length = b.length) (hl : a.length ≤ 1048576) : ∀ (d i k : Nat), i + d = a.length → d < k → laws_eqPeopleS.l0 k a b (i : Int) = some (decide (a.drop i = b.drop i)) := by
  intro d
  induction d with
  | zero =>
    intro i k hi hk
    obtain ⟨k, rfl⟩ : ∃ m, k = m + 1 := ⟨k - 1, by omega⟩
    simp only [laws_eqPeopleS.l0]
    rw [if_neg (by omega), List.drop_eq_nil_of_le (by omega), List.drop_eq_nil_of_le (by omega)]
    simp
  | succ d ih =>
    intro i k hi hk
    obtain ⟨k, rfl⟩ : ∃ m, k = m + 1 := ⟨k - 1, by omega⟩
    have ha : a.drop i = rd a (i : Int) :: a.drop (i + 1) := by
      rw [drop_getD 0 a i (by omega)]; simp [rd]
    have hb : b.drop i = rd b (i : Int) :: b.drop (i + 1) := by
      rw [drop_getD 0 b i (by omega)]; simp [rd]
    simp only [laws_eqPeopleS.l0]
    rw [if_pos (by omega), if_pos (by omega), if_pos (by omega), ha, hb]
    by_cases e : rd a (i : Int) = rd b (i : Int)
    · rw [if_pos e, wrap_nat i (by omega), ih (i + 1) k (by omega) (by omega)]
      simp [e]
    · rw [if_neg e]
      simp [e]
theorem eqPeopleS_eq (a b : List Int) (hl : a.length ≤ 1048576) (k : Nat) (hk : a.length < k) : laws_eqPeopleS.f k a b = some (decide (a = b)) := by
  unfold laws_eqPeopleS.f
  by_cases h : a.length = b.length
  · rw [if_pos (by omega)]
    have := eqPeopleS_l0 a b h hl a.length 0 k (by omega) hk
    simpa using this
  · rw [if_neg (by omega)]
    have : a ≠ b := fun e => h (by rw [e])
    simp [this]

theorem eqInt16S_l0 (a b : List Int) (hab : a.length = b.length) (hl : a.length ≤ 1048576) : ∀ (d i k : Nat), i + d = a.length → d < k → laws_eqInt16S.l0 k a b (i : Int) = some (decide (a.drop i = b.drop i)) := by
  intro d
  induction d with
  | zero =>
    intro i k hi hk
    obtain ⟨k, rfl⟩ : ∃ m, k = m + 1 := ⟨k - 1, by omega⟩
    simp only [laws_eqInt16S.l0]
    rw [if_neg (by omega), List.drop_eq_nil_of_le (by omega), List.drop_eq_nil_of_le (by omega)]
    simp
  | succ d ih =>
    intro i k hi hk
    obtain ⟨k, rfl⟩ : ∃ m, k = m + 1 := ⟨k - 1, by omega⟩
    have ha : a.drop i = rd a (i : Int) :: a.drop (i + 1) := by
      rw [drop_getD 0 a i (by omega)]; simp [rd]
    have hb : b.drop i = rd b (i : Int) :: b.drop (i + 1) := by
      rw [drop_getD 0 b i (by omega)]; simp [rd]
    simp only [laws_eqInt16S.l0]
    rw [if_pos (by omega), if_pos (by omega), if_pos (by omega), ha, hb]
    by_cases e : rd a (i : Int) = rd b (i : Int)
    · rw [if_pos e, wrap_nat i (by omega), ih (i + 1) k (by omega) (by omega)]
      simp [e]
    · rw [if_neg e]
      simp [e]
theorem eqInt16S_eq (a b : List Int) (hl : a.length ≤ 1048576) (k : Nat) (hk : a.length < k) : laws_eqInt16S.f k a b = some (decide (a = b)) := by
  unfold laws_eqInt16S.f
  by_cases h : a.length = b.length
  · rw [if_pos (by omega)]
    have := eqInt16S_l0 a b h hl a.length 0 k (by omega) hk
    simpa using this
  · rw [if_neg (by omega)]
    have : a ≠ b := fun e => h (by rw [e])
    simp [this]

theorem szPeopleS_eq (l : List Int) (a : Int) (h0 : 0 ≤ a) (h1 : a ≤ 1048576) (hl : l.length ≤ 9223372036854775807) : laws_szPeopleS.f l a = some (if a < l.length then -1 else a - l.length) := by
  unfold laws_szPeopleS.f
  rw [wrap64_id _ (by omega) (by omega)]
  by_cases h : a < (l.length : Int)
  · rw [if_pos (by omega), if_pos h]
  · rw [if_neg (by omega), if_neg h]

theorem szInt16S_eq (l : List Int) (a : Int) (h0 : 0 ≤ a) (h1 : a ≤ 1048576) (hl : l.length ≤ 9223372036854775807) : laws_szInt16S.f l a = some (if a < l.length then -1 else a - l.length) := by
  unfold laws_szInt16S.f
  rw [wrap64_id _ (by omega) (by omega)]
  by_cases h : a < (l.length : Int)
  · rw [if_pos (by omega), if_pos h]
  · rw [if_neg (by omega), if_neg h]

theorem toLog_eq (p : Int) (s c : List Int) (hs : s.length ≤ 1048576) (hc : c.length ≤ 1048576) (k : Nat) (hk : 1048576 < k) : laws_toLog.f k p s c = some (p, s, c) := by
  unfold laws_toLog.f
  rw [toPeopleS_eq s hs k (by omega), Option.bind_some, toInt16S_eq c hc k (by omega), Option.bind_some]
theorem eqLog_eq (p : Int) (s c : List Int) (q : Int) (t d : List Int) (hs : s.length ≤ 1048576) (hc : c.length ≤ 1048576) (k : Nat) (hk : 1048576 < k) : laws_eqLog.f k p s c q t d = some (decide (p = q ∧ s = t ∧ c = d)) := by
  unfold laws_eqLog.f
  rw [eqPeopleS_eq s t hs k (by omega), eqInt16S_eq c d hc k (by omega)]
  by_cases h1 : p = q <;> by_cases h2 : s = t <;> by_cases h3 : c = d <;> simp [h1, h2, h3]
theorem szLog_eq (p : Int) (s c : List Int) (a : Int) (h0 : 0 ≤ a) (h1 : a ≤ 1048576) (hs : s.length ≤ 9223372036854775807) (hc : c.length ≤ 9223372036854775807) :
    laws_szLog.f p s c a = some (if a < (s.length : Int) + c.length then -1 else a - s.length - c.length) := by
  unfold laws_szLog.f
  rw [szPeopleS_eq s a h0 h1 hs, Option.bind_some]
  by_cases h : a < (s.length : Int)
  · rw [if_pos h, if_pos (by decide), if_pos (by omega)]
  · rw [if_neg h, if_neg (by omega), szInt16S_eq c _ (by omega) (by omega) hc, Option.bind_some]
    by_cases h2 : a - (s.length : Int) < c.length
    · rw [if_pos h2, if_pos (by decide), if_pos (by omega)]
    · rw [if_neg h2, if_neg (by omega), if_neg (by omega)]

theorem slEqP_l0 (a b : List Int) (hab : a.length = b.length) (hl : a.length ≤ 1048576) : ∀ (d i k : Nat), i + d = a.length → d < k → slices_Equal_People.l0 k a b (a.length : Int) (i : Int) = some (decide (a.drop i = b.drop i)) := by
  intro d
  induction d with
  | zero =>
    intro i k hi hk
    obtain ⟨k, rfl⟩ : ∃ m, k = m + 1 := ⟨k - 1, by omega⟩
    simp only [slices_Equal_People.l0]
    rw [if_neg (by omega), List.drop_eq_nil_of_le (by omega), List.drop_eq_nil_of_le (by omega)]
    simp
  | succ d ih =>
    intro i k hi hk
    obtain ⟨k, rfl⟩ : ∃ m, k = m + 1 := ⟨k - 1, by omega⟩
    simp only [slices_Equal_People.l0]
    rw [if_pos (by omega), if_pos (by omega), if_pos (by omega), if_pos (by omega), drop_rd a i (by omega), drop_rd b i (by omega)]
    by_cases e : rd a (i : Int) = rd b (i : Int)
    · rw [if_pos e, wrap_nat i (by omega), ih (i + 1) k (by omega) (by omega)]
      simp [e]
    · rw [if_neg e]
      simp [e]
theorem slEqP_eq (a b : List Int) (hl : a.length ≤ 1048576) (k : Nat) (hk : a.length < k) : slices_Equal_People.f k a b = some (decide (a = b)) := by
  unfold slices_Equal_People.f
  by_cases h : a.length = b.length
  · rw [if_pos (by omega)]
    have := slEqP_l0 a b h hl a.length 0 k (by omega) hk
    simpa using this
  · rw [if_neg (by omega)]
    have : a ≠ b := fun e => h (by rw [e])
    simp [this]
theorem slEqI_l0 (a b : List Int) (hab : a.length = b.length) (hl : a.length ≤ 1048576) : ∀ (d i k : Nat), i + d = a.length → d < k → slices_Equal_Sint16_int16.l0 k a b (a.length : Int) (i : Int) = some (decide (a.drop i = b.drop i)) := by
  intro d
  induction d with
  | zero =>
    intro i k hi hk
    obtain ⟨k, rfl⟩ : ∃ m, k = m + 1 := ⟨k - 1, by omega⟩
    simp only [slices_Equal_Sint16_int16.l0]
    rw [if_neg (by omega), List.drop_eq_nil_of_le (by omega), List.drop_eq_nil_of_le (by omega)]
    simp
  | succ d ih =>
    intro i k hi hk
    obtain ⟨k, rfl⟩ : ∃ m, k = m + 1 := ⟨k - 1, by omega⟩
    simp only [slices_Equal_Sint16_int16.l0]
    rw [if_pos (by omega), if_pos (by omega), if_pos (by omega), if_pos (by omega), drop_rd a i (by omega), drop_rd b i (by omega)]
    by_cases e : rd a (i : Int) = rd b (i : Int)
    · rw [if_pos e, wrap_nat i (by omega), ih (i + 1) k (by omega) (by omega)]
      simp [e]
    · rw [if_neg e]
      simp [e]
theorem slEqI_eq (a b : List Int) (hl : a.length ≤ 1048576) (k : Nat) (hk : a.length < k) : slices_Equal_Sint16_int16.f k a b = some (decide (a = b)) := by
  unfold slices_Equal_Sint16_int16.f
  by_cases h : a.length = b.length
  · rw [if_pos (by omega)]
    have := slEqI_l0 a b h hl a.length 0 k (by omega) hk
    simpa using this
  · rw [if_neg (by omega)]
    have : a ≠ b := fun e => h (by rw [e])
    simp [this]
theorem specSame_l1 (p : Int) (s c : List Int) (q : Int) (t d' : List Int) (hc : c.length = d'.length) (hl : c.length ≤ 1048576) : ∀ (d i k : Nat), i + d = c.length → d < k → spec_SameLog.l1 k (i : Int) p s c q t d' = some (decide (c.drop i = d'.drop i)) := by
  intro d
  induction d with
  | zero =>
    intro i k hi hk
    obtain ⟨k, rfl⟩ : ∃ m, k = m + 1 := ⟨k - 1, by omega⟩
    simp only [spec_SameLog.l1]
    rw [if_neg (by omega), List.drop_eq_nil_of_le (by omega), List.drop_eq_nil_of_le (by omega)]
    simp
  | succ d ih =>
    intro i k hi hk
    obtain ⟨k, rfl⟩ : ∃ m, k = m + 1 := ⟨k - 1, by omega⟩
    simp only [spec_SameLog.l1]
    rw [if_pos (by omega), if_pos (by omega), if_pos (by omega), drop_rd c i (by omega), drop_rd d' i (by omega)]
    by_cases e : rd c (i : Int) = rd d' (i : Int)
    · rw [if_pos e, wrap_nat i (by omega), ih (i + 1) k (by omega) (by omega)]
      simp [e]
    · rw [if_neg e]
      simp [e]
theorem specSame_l0 (p : Int) (s c : List Int) (q : Int) (t d' : List Int) (hs : s.length = t.length) (hc : c.length = d'.length) (hl : s.length ≤ 1048576) (hl2 : c.length ≤ 1048576) : ∀ (d i k : Nat), i + d = s.length → d + 1048576 + 1 < k → spec_SameLog.l0 k (i : Int) p s c q t d' = some (decide (s.drop i = t.drop i ∧ c = d')) := by
  intro d
  induction d with
  | zero =>
    intro i k hi hk
    obtain ⟨k, rfl⟩ : ∃ m, k = m + 1 := ⟨k - 1, by omega⟩
    simp only [spec_SameLog.l0]
    have h := specSame_l1 p s c q t d' hc hl2 c.length 0 k (by omega) (by omega)
    rw [show ((0 : Nat) : Int) = 0 from rfl] at h
    rw [if_neg (by omega), List.drop_eq_nil_of_le (by omega), List.drop_eq_nil_of_le (by omega), h]
    simp
  | succ d ih =>
    intro i k hi hk
    obtain ⟨k, rfl⟩ : ∃ m, k = m + 1 := ⟨k - 1, by omega⟩
    simp only [spec_SameLog.l0]
    rw [if_pos (by omega), if_pos (by omega), if_pos (by omega), drop_rd s i (by omega), drop_rd t i (by omega)]
    by_cases e : rd s (i : Int) = rd t (i : Int)
    · rw [if_pos e, wrap_nat i (by omega), ih (i + 1) k (by omega) (by omega)]
      simp [e]
    · rw [if_neg e]
      simp [e]
theorem specSame_eq (p : Int) (s c : List Int) (q : Int) (t d : List Int) (hl : s.length ≤ 1048576) (hl2 : c.length ≤ 1048576) (k : Nat) (hk : 2097160 < k) : spec_SameLog.f k p s c q t d = some (decide (p = q ∧ s = t ∧ c = d)) := by
  obtain ⟨k, rfl⟩ : ∃ m, k = m + 1 := ⟨k - 1, by omega⟩
  unfold spec_SameLog.f
  by_cases h1 : p = q
  · by_cases h2 : s.length = t.length
    · rw [if_pos h1, if_pos (by omega)]
      simp only [spec_SameLog.j0]
      by_cases h3 : c.length = d.length
      · have := specSame_l0 p s c q t d h2 h3 hl hl2 s.length 0 k (by omega) (by omega)
        rw [show ((0 : Nat) : Int) = 0 from rfl] at this
        rw [if_neg (by simp [h3]), this]
        simp [h1]
      · have : c ≠ d := fun e => h3 (by rw [e])
        rw [if_pos (by simp; omega)]
        simp [this]
    · have : s ≠ t := fun e => h2 (by rw [e])
      rw [if_pos h1, if_neg (by omega)]
      simp only [spec_SameLog.j0, if_true]
      simp [this]
  · rw [if_neg h1]
    simp only [spec_SameLog.j0, if_true]
    simp [h1]
theorem implSame_eq (p : Int) (s c : List Int) (q : Int) (t d : List Int) (hl : s.length ≤ 1048576) (hl2 : c.length ≤ 1048576) (k : Nat) (hk : 1048576 < k) : impl_SameLog.f k p s c q t d = some (decide (p = q ∧ s = t ∧ c = d)) := by
  unfold impl_SameLog.f
  rw [slEqP_eq s t hl k (by omega), slEqI_eq c d hl2 k (by omega)]
  by_cases h1 : p = q <;> by_cases h2 : s = t <;> by_cases h3 : c = d <;> simp [h1, h2, h3]

theorem main : laws_FnExactSameLog.Pure := by
  intro p s c q t d _ hs hc _ ht hd
  refine rounds_of 2097170 fun k hk => ?_
  unfold laws_FnExactSameLog.f
  rw [szLog_eq p s c 1048576 (by decide) (by decide) hs.1 hc.1, Option.bind_some]
  by_cases hl : (1048576 : Int) < (s.length : Int) + c.length
  · rw [if_pos hl, if_pos (by decide)]
  · rw [if_neg hl, if_neg (by omega), szLog_eq q t d _ (by omega) (by omega) ht.1 hd.1, Option.bind_some]
    by_cases hm : (1048576 : Int) - (s.length : Int) - c.length < (t.length : Int) + d.length
    · rw [if_pos hm, if_pos (by decide)]
    · rw [if_neg hm, if_neg (by omega), toLog_eq p s c (by omega) (by omega) k (by omega), toLog_eq q t d (by omega) (by omega) k (by omega)]
      simp only [Option.bind_some]
      rw [specSame_eq p s c q t d (by omega) (by omega) k (by omega), implSame_eq p s c q t d (by omega) (by omega) k (by omega)]
      simp only [Option.bind_some]
      rw [if_neg (by simp), eqLog_eq p s c p s c (by omega) (by omega) k (by omega), eqLog_eq q t d q t d (by omega) (by omega) k (by omega)]
      simp

end Go.Proofs.Ytgepgmmahapebaa.PureFnExactSameLog
namespace Go.Proofs.Ytgepgmmahapebaa.Pure
theorem FnExactSameLog : Go.Proofs.Ytgepgmmahapebaa.P.laws_FnExactSameLog.Pure := Go.Proofs.Ytgepgmmahapebaa.PureFnExactSameLog.main
end Go.Proofs.Ytgepgmmahapebaa.Pure
