/- For every list of numbers the program's PeopleOf returns the reference's set and code and leaves the list as it was; no condition. -/
import Derived.Test.YtgepgmmahapebaaP21
import Derived.Laws.BitsLemmas
namespace Go.Proofs.Ytgepgmmahapebaa.PureFnExactPeopleOf
open Go.RowKit Go.Proofs.Ytgepgmmahapebaa.P Go.Proofs.YtgepgmmahapebaaW.PrintWords Go.Proofs.YtgepgmmahapebaaW.PrintLast
set_option linter.unusedSimpArgs false
set_option linter.unusedVariables false

theorem wrap64_id (x : Int) (h0 : -9223372036854775808 ≤ x) (h1 : x ≤ 9223372036854775807) : wrap64 x = x := by unfold wrap64; omega
theorem wrap_nat (n : Nat) (h : n < 4611686018427387904) : wrap64 ((n : Int) + 1) = ((n + 1 : Nat) : Int) := by
  rw [wrap64_id _ (by omega) (by omega)]; omega
theorem rd_nat (l : List Int) (i : Nat) : rd l (i : Int) = l.getD i 0 := by simp [rd]
theorem drop_rd (l : List Int) (i : Nat) (h : i < l.length) : l.drop i = rd l (i : Int) :: l.drop (i + 1) := by
  rw [List.drop_eq_getElem_cons h, rd_nat, List.getD_eq_getElem?_getD, List.getElem?_eq_getElem h]; rfl
theorem drop_getD {α : Type} (z : α) (l : List α) (i : Nat) (h : i < l.length) : l.drop i = l.getD i z :: l.drop (i + 1) := by
  rw [List.drop_eq_getElem_cons h, List.getD_eq_getElem?_getD, List.getElem?_eq_getElem h]; rfl
theorem take_getD {α : Type} (z : α) (l : List α) (i : Nat) (h : i < l.length) : l.take (i + 1) = l.take i ++ [l.getD i z] := by
  rw [List.take_succ_eq_append_getElem h, List.getD_eq_getElem?_getD, List.getElem?_eq_getElem h]; rfl
theorem set_rep {α : Type} (a : List α) (i d : Nat) (z v : α) (h : a.length = i) : (a ++ List.replicate (d + 1) z).set i v = (a ++ [v]) ++ List.replicate d z := by
  subst h
  rw [List.set_append_right _ _ (Nat.le_refl _), Nat.sub_self, List.replicate_succ, List.set_cons_zero]
  simp
theorem rounds_of (B : Nat) {α : Type} {F : Nat → Option α} {v : α} (h : ∀ k, B ≤ k → F k = some v) : ∃ k, F k = some v := ⟨B, h B (Nat.le_refl _)⟩

theorem wrap_u64 (n : Int) : IntKind.u64.wrap n = n % 18446744073709551616 := by simp [IntKind.wrap, IntKind.bits, IntKind.signed]
theorem wrap_u64_id (n : Int) (h0 : 0 ≤ n) (h1 : n < 18446744073709551616) : IntKind.u64.wrap n = n := by rw [wrap_u64]; omega
theorem in_eq (a b c : Int) : spec_l00In.f a b c = some (decide (b ≤ a ∧ a ≤ c)) := by
  unfold spec_l00In.f
  by_cases h : b ≤ a
  · rw [if_pos (by omega)]; simp [h]
  · rw [if_neg (by omega)]; simp [h]
theorem within_eq (a b c : Int) : impl_within.f a b c = some (decide (b ≤ a ∧ a ≤ c)) := by
  unfold impl_within.f
  by_cases h : b ≤ a
  · rw [if_pos (by omega)]; simp [h]
  · rw [if_neg (by omega)]; simp [h]
def isP (i : Int) : Bool := decide (0 ≤ i ∧ i ≤ 13)
theorem isP_iff (i : Int) : isP i = true ↔ 0 ≤ i ∧ i ≤ 13 := by simp [isP]
theorem l05Person_eq (i : Int) : spec_l05Person.f i = some (isP i) := by
  unfold spec_l05Person.f
  rw [in_eq]; rfl
theorem isPerson_eq (i : Int) : impl_isPerson.f i = some (isP i) := by
  unfold impl_isPerson.f
  rw [within_eq]; rfl
theorem toInt64S_l0 (l : List Int) (hl : l.length ≤ 1048576) : ∀ (d i k : Nat), i + d = l.length → d < k → laws_toInt64S.l0 k l ((l.map id).take i ++ List.replicate d 0) (i : Int) = some (l.map id) := by
  intro d
  induction d with
  | zero =>
    intro i k hi hk
    obtain ⟨k, rfl⟩ : ∃ m, k = m + 1 := ⟨k - 1, by omega⟩
    simp only [laws_toInt64S.l0]
    rw [if_neg (by omega), List.take_of_length_le (by simp; omega)]
    simp
  | succ d ih =>
    intro i k hi hk
    obtain ⟨k, rfl⟩ : ∃ m, k = m + 1 := ⟨k - 1, by omega⟩
    have hlen : (((l.map id).take i ++ List.replicate (d + 1) 0).length : Int) = l.length := by simp; omega
    have hg : (l.map id).getD i 0 = id (rd l (i : Int)) := by
      simp [rd, List.getD_eq_getElem?_getD, List.getElem?_map, List.getElem?_eq_getElem (show i < l.length by omega)]
    have hstep := set_rep ((l.map id).take i) i d 0 (id (rd l (i : Int))) (by simp; omega)
    rw [← hg, ← take_getD 0 (l.map id) i (by simp; omega), hg] at hstep
    simp only [laws_toInt64S.l0]
    rw [if_pos (by omega), if_pos (by omega), if_pos (by rw [hlen]; omega), wrap_nat i (by omega), Int.toNat_natCast]
    exact (congrArg (fun o => laws_toInt64S.l0 k l o ((i + 1 : Nat) : Int)) hstep).trans (ih (i + 1) k (by omega) (by omega))
theorem toInt64S_eq (l : List Int) (hl : l.length ≤ 1048576) (k : Nat) (hk : l.length < k) : laws_toInt64S.f k l = some l := by
  unfold laws_toInt64S.f
  rw [if_pos (by omega), if_pos (by omega)]
  have := toInt64S_l0 l hl l.length 0 k (by omega) hk
  simpa using this

theorem eqInt64S_l0 (a b : List Int) (hab : a.length = b.length) (hl : a.length ≤ 1048576) : ∀ (d i k : Nat), i + d = a.length → d < k → laws_eqInt64S.l0 k a b (i : Int) = some (decide (a.drop i = b.drop i)) := by
  intro d
  induction d with
  | zero =>
    intro i k hi hk
    obtain ⟨k, rfl⟩ : ∃ m, k = m + 1 := ⟨k - 1, by omega⟩
    simp only [laws_eqInt64S.l0]
    rw [if_neg (by omega), List.drop_eq_nil_of_le (by omega), List.drop_eq_nil_of_le (by omega)]
    simp
  | succ d ih =>
    intro i k hi hk
    obtain ⟨k, rfl⟩ : ∃ m, k = m + 1 := ⟨k - 1, by omega⟩
    have ha : a.drop i = rd a (i : Int) :: a.drop (i + 1) := by
      rw [drop_getD 0 a i (by omega)]; simp [rd]
    have hb : b.drop i = rd b (i : Int) :: b.drop (i + 1) := by
      rw [drop_getD 0 b i (by omega)]; simp [rd]
    simp only [laws_eqInt64S.l0]
    rw [if_pos (by omega), if_pos (by omega), if_pos (by omega), ha, hb]
    by_cases e : rd a (i : Int) = rd b (i : Int)
    · rw [if_pos e, wrap_nat i (by omega), ih (i + 1) k (by omega) (by omega)]
      simp [e]
    · rw [if_neg e]
      simp [e]
theorem eqInt64S_eq (a b : List Int) (hl : a.length ≤ 1048576) (k : Nat) (hk : a.length < k) : laws_eqInt64S.f k a b = some (decide (a = b)) := by
  unfold laws_eqInt64S.f
  by_cases h : a.length = b.length
  · rw [if_pos (by omega)]
    have := eqInt64S_l0 a b h hl a.length 0 k (by omega) hk
    simpa using this
  · rw [if_neg (by omega)]
    have : a ≠ b := fun e => h (by rw [e])
    simp [this]

def bad (l : List Int) : Bool := l.any (fun n => !isP n)
def join (l : List Int) (p : Int) : Int := l.foldl (fun p n => Go.bits .or .u16 p (shl .u16 1 n)) p
theorem spec_l0 (l : List Int) (hl : l.length ≤ 1048576) : ∀ (d i k : Nat) (p : Int), i + d = l.length → d < k → spec_PeopleOf.l0 k l p (i : Int) = some (if bad (l.drop i) = true then (0, 2) else (join (l.drop i) p, 0)) := by
  intro d
  induction d with
  | zero =>
    intro i k p hi hk
    obtain ⟨k, rfl⟩ : ∃ m, k = m + 1 := ⟨k - 1, by omega⟩
    simp only [spec_PeopleOf.l0]
    rw [if_neg (by omega), List.drop_eq_nil_of_le (by omega)]
    simp [bad, join]
  | succ d ih =>
    intro i k p hi hk
    obtain ⟨k, rfl⟩ : ∃ m, k = m + 1 := ⟨k - 1, by omega⟩
    simp only [spec_PeopleOf.l0]
    rw [if_pos (by omega), if_pos (by omega), l05Person_eq, Option.bind_some, drop_rd l i (by omega)]
    by_cases h : isP (rd l (i : Int)) = true
    · have hr := (isP_iff _).1 h
      have hw := wrap_u64_id (rd l (i : Int)) (by omega) (by omega)
      rw [if_pos h, hw, if_pos (by omega), wrap_nat i (by omega), ih (i + 1) k _ (by omega) (by omega)]
      simp [bad, join, h]
    · rw [if_neg h]
      simp [bad, h]
theorem find_l0 (l : List Int) (hl : l.length ≤ 1048576) : ∀ (d i k : Nat), i + d = l.length → d < k → ∃ r : Int, slices_IndexFunc_Sint64_int64_at_PeopleOf_1.l0 k l (l.length : Int) (i : Int) = some r ∧ decide (r ≥ 0) = bad (l.drop i) := by
  intro d
  induction d with
  | zero =>
    intro i k hi hk
    obtain ⟨k, rfl⟩ : ∃ m, k = m + 1 := ⟨k - 1, by omega⟩
    refine ⟨-1, ?_, ?_⟩
    · simp only [slices_IndexFunc_Sint64_int64_at_PeopleOf_1.l0]
      rw [if_neg (by omega)]
    · rw [List.drop_eq_nil_of_le (by omega)]; simp [bad]
  | succ d ih =>
    intro i k hi hk
    obtain ⟨k, rfl⟩ : ∃ m, k = m + 1 := ⟨k - 1, by omega⟩
    have hp : impl_PeopleOf_1.f (rd l (i : Int)) = some (!isP (rd l (i : Int))) := by
      unfold impl_PeopleOf_1.f
      rw [isPerson_eq]; rfl
    simp only [slices_IndexFunc_Sint64_int64_at_PeopleOf_1.l0]
    rw [if_pos (by omega), if_pos (by omega), if_pos (by omega), hp, Option.bind_some, drop_rd l i (by omega), wrap_nat i (by omega)]
    by_cases h : isP (rd l (i : Int)) = true
    · obtain ⟨r, h1, h2⟩ := ih (i + 1) k (by omega) (by omega)
      refine ⟨r, by rw [if_neg (by simp [h])]; exact h1, ?_⟩
      rw [h2]; simp [bad, h]
    · refine ⟨(i : Int), by rw [if_pos (by simp [h])], ?_⟩
      simp [bad, h]
theorem impl_l0 (l : List Int) (hl : l.length ≤ 1048576) : ∀ (d i k : Nat) (p : Int), i + d = l.length → d < k → bad (l.drop i) = false → impl_PeopleOf.l0 k p l (l.length : Int) (i : Int) = some (join (l.drop i) p, 0) := by
  intro d
  induction d with
  | zero =>
    intro i k p hi hk hb
    obtain ⟨k, rfl⟩ : ∃ m, k = m + 1 := ⟨k - 1, by omega⟩
    simp only [impl_PeopleOf.l0]
    rw [if_neg (by omega), List.drop_eq_nil_of_le (by omega)]
    simp [join]
  | succ d ih =>
    intro i k p hi hk hb
    obtain ⟨k, rfl⟩ : ∃ m, k = m + 1 := ⟨k - 1, by omega⟩
    rw [drop_rd l i (by omega)] at hb ⊢
    simp only [bad, List.any_cons, Bool.or_eq_false_iff, Bool.not_eq_false'] at hb
    have hr := (isP_iff _).1 hb.1
    simp only [impl_PeopleOf.l0]
    rw [if_pos (by omega), if_pos (by omega), if_pos (by omega), if_pos (by omega), wrap_nat i (by omega), ih (i + 1) k _ (by omega) (by omega) hb.2]
    simp [join]
theorem main : laws_FnExactPeopleOf.Pure := by
  intro l _ _ _
  refine rounds_of 1048580 fun k hk => ?_
  unfold laws_FnExactPeopleOf.f
  by_cases hl : l.length ≤ 1048576
  · rw [if_neg (by omega), toInt64S_eq l hl k (by omega)]
    simp only [Option.bind_some]
    have hs : spec_PeopleOf.f k l = some (if bad l = true then (0, 2) else (join l 0, 0)) := by
      unfold spec_PeopleOf.f
      have := spec_l0 l hl l.length 0 k 0 (by omega) (by omega)
      simpa using this
    have hi : impl_PeopleOf.f k l = some (if bad l = true then (0, 2) else (join l 0, 0)) := by
      unfold impl_PeopleOf.f slices_ContainsFunc_Sint64_int64_at_PeopleOf_1.f slices_IndexFunc_Sint64_int64_at_PeopleOf_1.f
      obtain ⟨r, h1, h2⟩ := find_l0 l hl l.length 0 k (by omega) (by omega)
      rw [show ((0 : Nat) : Int) = 0 from rfl] at h1
      rw [h1, Option.bind_some, h2, Option.bind_some]
      by_cases hb : bad l = true
      · simp [hb]
      · have := impl_l0 l hl l.length 0 k 0 (by omega) (by omega) (by simpa using hb)
        simp only [List.drop_zero] at this ⊢
        rw [if_neg hb, if_neg hb]
        simpa using this
    rw [hs, Option.bind_some, hi, Option.bind_some, if_pos rfl]
    obtain ⟨k, rfl⟩ : ∃ m, k = m + 1 := ⟨k - 1, by omega⟩
    simp only [laws_FnExactPeopleOf.j0]
    rw [if_neg (by simp), toInt64S_eq l hl k (by omega), Option.bind_some, eqInt64S_eq l l hl k (by omega)]
    simp
  · rw [if_pos (by omega)]

end Go.Proofs.Ytgepgmmahapebaa.PureFnExactPeopleOf
namespace Go.Proofs.Ytgepgmmahapebaa.Pure
theorem FnExactPeopleOf : Go.Proofs.Ytgepgmmahapebaa.P.laws_FnExactPeopleOf.Pure := Go.Proofs.Ytgepgmmahapebaa.PureFnExactPeopleOf.main
end Go.Proofs.Ytgepgmmahapebaa.Pure
