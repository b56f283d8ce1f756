/- For every number of people and every list of counts the program's WaysFor returns the reference's number and code and leaves the counts as they were; no condition. -/
import Derived.Test.YtgepgmmahapebaaP28
import Derived.Laws.BitsLemmas
namespace Go.Proofs.Ytgepgmmahapebaa.PureFnExactWaysFor
open Go.RowKit Go.Proofs.Ytgepgmmahapebaa.P Go.Proofs.YtgepgmmahapebaaW.PrintWords Go.Proofs.YtgepgmmahapebaaW.PrintLast
set_option linter.unusedSimpArgs false
set_option linter.unusedVariables false

theorem wrap64_id (x : Int) (h0 : -9223372036854775808 ≤ x) (h1 : x ≤ 9223372036854775807) : wrap64 x = x := by unfold wrap64; omega
theorem wrap_nat (n : Nat) (h : n < 4611686018427387904) : wrap64 ((n : Int) + 1) = ((n + 1 : Nat) : Int) := by
  rw [wrap64_id _ (by omega) (by omega)]; omega
theorem rd_nat (l : List Int) (i : Nat) : rd l (i : Int) = l.getD i 0 := by simp [rd]
theorem drop_rd (l : List Int) (i : Nat) (h : i < l.length) : l.drop i = rd l (i : Int) :: l.drop (i + 1) := by
  rw [List.drop_eq_getElem_cons h, rd_nat, List.getD_eq_getElem?_getD, List.getElem?_eq_getElem h]; rfl
theorem drop_getD {α : Type} (z : α) (l : List α) (i : Nat) (h : i < l.length) : l.drop i = l.getD i z :: l.drop (i + 1) := by
  rw [List.drop_eq_getElem_cons h, List.getD_eq_getElem?_getD, List.getElem?_eq_getElem h]; rfl
theorem take_getD {α : Type} (z : α) (l : List α) (i : Nat) (h : i < l.length) : l.take (i + 1) = l.take i ++ [l.getD i z] := by
  rw [List.take_succ_eq_append_getElem h, List.getD_eq_getElem?_getD, List.getElem?_eq_getElem h]; rfl
theorem set_rep {α : Type} (a : List α) (i d : Nat) (z v : α) (h : a.length = i) : (a ++ List.replicate (d + 1) z).set i v = (a ++ [v]) ++ List.replicate d z := by
  subst h
  rw [List.set_append_right _ _ (Nat.le_refl _), Nat.sub_self, List.replicate_succ, List.set_cons_zero]
  simp
theorem rounds_of (B : Nat) {α : Type} {F : Nat → Option α} {v : α} (h : ∀ k, B ≤ k → F k = some v) : ∃ k, F k = some v := ⟨B, h B (Nat.le_refl _)⟩

theorem in_eq (a b c : Int) : spec_l00In.f a b c = some (decide (b ≤ a ∧ a ≤ c)) := by
  unfold spec_l00In.f
  by_cases h : b ≤ a
  · rw [if_pos (by omega)]; simp [h]
  · rw [if_neg (by omega)]; simp [h]
theorem within_eq (a b c : Int) : impl_within.f a b c = some (decide (b ≤ a ∧ a ≤ c)) := by
  unfold impl_within.f
  by_cases h : b ≤ a
  · rw [if_pos (by omega)]; simp [h]
  · rw [if_neg (by omega)]; simp [h]
def inC (l : List Int) : Bool := l.all (fun n => decide (0 ≤ n ∧ n ≤ 100))
def codeC (a : Int) (l : List Int) : Int :=
  if 1 ≤ a ∧ a ≤ 14 then if 1 ≤ (l.length : Int) ∧ (l.length : Int) ≤ 12 then if inC l = true then 0 else 2 else 3 else 2
theorem l05Counts_l0 (l : List Int) (hl : l.length ≤ 1048576) : ∀ (d i k : Nat), i + d = l.length → d < k → spec_l05Counts.l0 k l (i : Int) = some (if inC (l.drop i) = true then 0 else 2) := by
  intro d
  induction d with
  | zero =>
    intro i k hi hk
    obtain ⟨k, rfl⟩ : ∃ m, k = m + 1 := ⟨k - 1, by omega⟩
    simp only [spec_l05Counts.l0]
    rw [if_neg (by omega), List.drop_eq_nil_of_le (by omega)]
    simp [inC]
  | succ d ih =>
    intro i k hi hk
    obtain ⟨k, rfl⟩ : ∃ m, k = m + 1 := ⟨k - 1, by omega⟩
    simp only [spec_l05Counts.l0]
    rw [if_pos (by omega), if_pos (by omega), in_eq, Option.bind_some, drop_rd l i (by omega), wrap_nat i (by omega), ih (i + 1) k (by omega) (by omega)]
    by_cases h : 0 ≤ rd l (i : Int) ∧ rd l (i : Int) ≤ 100 <;> simp [inC, h]
theorem l05Counts_eq (a : Int) (l : List Int) (hl : l.length ≤ 1048576) (k : Nat) (hk : 1048576 < k) : spec_l05Counts.f k a l = some (codeC a l) := by
  unfold spec_l05Counts.f codeC
  have h := l05Counts_l0 l hl l.length 0 k (by omega) (by omega)
  rw [show ((0 : Nat) : Int) = 0 from rfl, List.drop_zero] at h
  rw [in_eq, in_eq, h]
  by_cases h1 : 1 ≤ a ∧ a ≤ 14 <;> by_cases h2 : 1 ≤ (l.length : Int) ∧ (l.length : Int) ≤ 12 <;> simp [h1, h2]
theorem countsFind_l0 (l : List Int) (hl : l.length ≤ 1048576) : ∀ (d i k : Nat), i + d = l.length → d < k → ∃ r : Int, slices_IndexFunc_Sint64_int64_at_countsCode_1.l0 k l (l.length : Int) (i : Int) = some r ∧ decide (r ≥ 0) = !inC (l.drop i) := by
  intro d
  induction d with
  | zero =>
    intro i k hi hk
    obtain ⟨k, rfl⟩ : ∃ m, k = m + 1 := ⟨k - 1, by omega⟩
    refine ⟨-1, ?_, ?_⟩
    · simp only [slices_IndexFunc_Sint64_int64_at_countsCode_1.l0]
      rw [if_neg (by omega)]
    · rw [List.drop_eq_nil_of_le (by omega)]; simp [inC]
  | succ d ih =>
    intro i k hi hk
    obtain ⟨k, rfl⟩ : ∃ m, k = m + 1 := ⟨k - 1, by omega⟩
    simp only [slices_IndexFunc_Sint64_int64_at_countsCode_1.l0, impl_countsCode_1.f]
    rw [if_pos (by omega), if_pos (by omega), if_pos (by omega), within_eq, Option.bind_some, Option.bind_some, drop_rd l i (by omega), wrap_nat i (by omega)]
    by_cases h : 0 ≤ rd l (i : Int) ∧ rd l (i : Int) ≤ 100
    · obtain ⟨r, h1, h2⟩ := ih (i + 1) k (by omega) (by omega)
      refine ⟨r, by rw [if_neg (by simp [h])]; exact h1, ?_⟩
      rw [h2]; simp [inC, h]
    · refine ⟨(i : Int), by rw [if_pos (by rw [decide_eq_false h]; rfl)], ?_⟩
      have h' : decide (0 ≤ rd l (i : Int) ∧ rd l (i : Int) ≤ 100) = false := decide_eq_false h
      simp only [inC, List.all_cons, h', Bool.false_and, Bool.not_false]
      exact decide_eq_true (by omega)
theorem countsCode_eq (a : Int) (l : List Int) (hl : l.length ≤ 1048576) (k : Nat) (hk : 1048576 < k) : impl_countsCode.f k a l = some (codeC a l) := by
  unfold impl_countsCode.f codeC impl_size_int64.f slices_ContainsFunc_Sint64_int64_at_countsCode_1.f slices_IndexFunc_Sint64_int64_at_countsCode_1.f impl_unless.f
  obtain ⟨r, h1, h2⟩ := countsFind_l0 l hl l.length 0 k (by omega) (by omega)
  rw [show ((0 : Nat) : Int) = 0 from rfl] at h1
  rw [List.drop_zero] at h2
  simp only [within_eq, Option.bind_some, h1, h2]
  by_cases g1 : 1 ≤ a ∧ a ≤ 14 <;> by_cases g2 : 1 ≤ (l.length : Int) ∧ (l.length : Int) ≤ 12 <;> by_cases g3 : inC l = true <;> simp [g1, g2, g3]
/-- Do the counts fall? -/
def falls (b : Int) : List Int → Bool
  | [] => true
  | n :: r => decide (n ≤ b) && falls n r
theorem l05Allow_l0 (l : List Int) (hl : l.length ≤ 1048576) : ∀ (d i k : Nat) (b : Int), i + d = l.length → d < k → spec_l05Allow.l0 k l b (i : Int) = some (falls b (l.drop i)) := by
  intro d
  induction d with
  | zero =>
    intro i k b hi hk
    obtain ⟨k, rfl⟩ : ∃ m, k = m + 1 := ⟨k - 1, by omega⟩
    simp only [spec_l05Allow.l0]
    rw [if_neg (by omega), List.drop_eq_nil_of_le (by omega)]
    simp [falls]
  | succ d ih =>
    intro i k b hi hk
    obtain ⟨k, rfl⟩ : ∃ m, k = m + 1 := ⟨k - 1, by omega⟩
    simp only [spec_l05Allow.l0]
    rw [if_pos (by omega), if_pos (by omega), drop_rd l i (by omega), wrap_nat i (by omega), ih (i + 1) k _ (by omega) (by omega)]
    by_cases h : rd l (i : Int) ≤ b
    · rw [if_neg (by omega)]; simp [falls, h]
    · rw [if_pos (by omega)]; simp [falls, h]
theorem l05Allow_eq (a : Int) (l : List Int) (hl : l.length ≤ 1048576) (k : Nat) (hk : 1048576 < k) : spec_l05Allow.f k a l = some (falls a l) := by
  unfold spec_l05Allow.f
  have := l05Allow_l0 l hl l.length 0 k a (by omega) (by omega)
  simpa using this

/-- In how many ways: the loop that both have. -/
def chooseF (p : Int) : Nat → Int → Int → Int
  | 0, out, _ => out
  | d + 1, out, i => chooseF p d (wrap64 (Int.tdiv (wrap64 (out * wrap64 (p - i))) (wrap64 (i + 1)))) (i + 1)
theorem ways_l1 (x10 : List Int) (p a n lenv : Int) (j : Nat) (hj : j < 4611686018427387904) (m : Int) (hm : m ≤ 1048576) : ∀ (d i k : Nat) (out : Int), (i : Int) + d = m → d < k → impl_ways.l1 k p a n out x10 lenv (j : Int) m (i : Int) = impl_ways.l0 (k - d - 1) n (wrap64 (a * chooseF p d out (i : Int))) x10 lenv ((j + 1 : Nat) : Int) := by
  intro d
  induction d with
  | zero =>
    intro i k out hi hk
    obtain ⟨k, rfl⟩ : ∃ m, k = m + 1 := ⟨k - 1, by omega⟩
    simp only [impl_ways.l1]
    rw [if_neg (by omega), wrap_nat j hj]
    rfl
  | succ d ih =>
    intro i k out hi hk
    obtain ⟨k, rfl⟩ : ∃ m, k = m + 1 := ⟨k - 1, by omega⟩
    simp only [impl_ways.l1]
    rw [if_pos (by omega), wrap_nat i (by omega), if_neg (by omega), ih (i + 1) k _ (by omega) (by omega)]
    simp only [chooseF]
    rw [wrap_nat i (by omega), show k + 1 - (d + 1) - 1 = k - d - 1 by omega]
    rfl
def waysS (p a : Int) : List Int → Int
  | [] => a
  | n :: r => waysS n (wrap64 (a * chooseF p n.toNat 1 0)) r
def waysI (p a : Int) : List Int → Int
  | [] => a
  | n :: r => waysI n (wrap64 (a * (if n ≤ p then chooseF p n.toNat 1 0 else 0))) r
theorem implWays_l0 (l : List Int) (hl : l.length ≤ 12) : ∀ (d i k : Nat) (p a : Int), i + d = l.length → 102 * d < k → inC (l.drop i) = true → impl_ways.l0 k p a l (l.length : Int) (i : Int) = some (waysI p a (l.drop i)) := by
  intro d
  induction d with
  | zero =>
    intro i k p a hi hk hc
    obtain ⟨k, rfl⟩ : ∃ m, k = m + 1 := ⟨k - 1, by omega⟩
    simp only [impl_ways.l0]
    rw [if_neg (by omega), List.drop_eq_nil_of_le (by omega)]
    rfl
  | succ d ih =>
    intro i k p a hi hk hc
    obtain ⟨k, rfl⟩ : ∃ m, k = m + 1 := ⟨k - 1, by omega⟩
    rw [drop_rd l i (by omega)] at hc ⊢
    simp only [inC, List.all_cons, Bool.and_eq_true, decide_eq_true_eq] at hc
    have hn0 := hc.1.1
    have hn1 := hc.1.2
    have hrest : inC (l.drop (i + 1)) = true := by simpa [inC] using hc.2
    simp only [impl_ways.l0, impl_bit.f]
    rw [if_pos (by omega), if_pos (by omega), if_pos (by omega)]
    simp only [waysI]
    by_cases h : rd l (i : Int) ≤ p
    · rw [decide_eq_true h, if_pos rfl, Option.bind_some, Int.mul_one, wrap64_id _ (by omega) (by omega), if_pos h]
      have := ways_l1 l p a (rd l (i : Int)) (l.length : Int) i (by omega) (rd l (i : Int)) (by omega) (rd l (i : Int)).toNat 0 k 1 (by omega) (by omega)
      rw [show ((0 : Nat) : Int) = 0 from rfl] at this
      rw [this]
      exact ih (i + 1) _ _ _ (by omega) (by omega) hrest
    · rw [decide_eq_false h, if_neg (by decide), Option.bind_some, Int.mul_zero, wrap64_id _ (by omega) (by omega), if_neg h]
      have := ways_l1 l p a (rd l (i : Int)) (l.length : Int) i (by omega) 0 (by omega) 0 0 k 0 (by omega) (by omega)
      rw [show ((0 : Nat) : Int) = 0 from rfl] at this
      rw [this]
      exact ih (i + 1) _ _ _ (by omega) (by omega) hrest
theorem waysI_zero : ∀ (r : List Int) (p : Int), waysI p 0 r = 0
  | [], _ => rfl
  | n :: r, p => by
    simp only [waysI, Int.zero_mul]
    rw [wrap64_id 0 (by decide) (by decide)]
    exact waysI_zero r n
theorem waysI_eq : ∀ (r : List Int) (p a : Int), waysI p a r = if falls p r = true then waysS p a r else 0
  | [], _, _ => by simp [waysI, waysS, falls]
  | n :: r, p, a => by
    simp only [waysI, waysS, falls]
    by_cases h : n ≤ p
    · rw [if_pos h, waysI_eq r]
      simp [h]
    · rw [if_neg h, Int.mul_zero]
      have : wrap64 0 = 0 := wrap64_id 0 (by decide) (by decide)
      rw [this, waysI_zero]
      simp [h]
theorem implWaysFor_eq (a : Int) (l : List Int) (hl : l.length ≤ 1048576) (k : Nat) (hk : 1048576 < k) : impl_WaysFor.f k a l = some (if codeC a l = 0 then ((if falls a l = true then waysS a 1 l else 0), 0) else (0, codeC a l)) := by
  unfold impl_WaysFor.f
  rw [countsCode_eq a l hl k hk]
  simp only [Option.bind_some]
  by_cases h : codeC a l = 0
  · rw [if_pos h, if_pos h]
    have hc : (l.length : Int) ≤ 12 ∧ inC l = true := by
      unfold codeC at h
      split at h
      · split at h
        · split at h
          · exact ⟨by omega, ‹_›⟩
          · omega
        · omega
      · omega
    have := implWays_l0 l (by omega) l.length 0 k a 1 (by omega) (by omega) (by simpa using hc.2)
    rw [show ((0 : Nat) : Int) = 0 from rfl, List.drop_zero, waysI_eq] at this
    unfold impl_ways.f
    rw [this, Option.bind_some]
  · rw [if_neg h, if_neg h]

theorem l05Choose_l0 (p n : Int) (hn : n ≤ 1048576) : ∀ (d i k : Nat) (out : Int), (i : Int) + d = n → d < k → spec_l05Choose.l0 k p n out (i : Int) = some (chooseF p d out (i : Int)) := by
  intro d
  induction d with
  | zero =>
    intro i k out hi hk
    obtain ⟨k, rfl⟩ : ∃ m, k = m + 1 := ⟨k - 1, by omega⟩
    simp only [spec_l05Choose.l0]
    rw [if_neg (by omega)]
    rfl
  | succ d ih =>
    intro i k out hi hk
    obtain ⟨k, rfl⟩ : ∃ m, k = m + 1 := ⟨k - 1, by omega⟩
    simp only [spec_l05Choose.l0]
    rw [if_pos (by omega), wrap_nat i (by omega), if_neg (by omega), ih (i + 1) k _ (by omega) (by omega)]
    simp only [chooseF]
    rw [wrap_nat i (by omega)]
    rfl
theorem l05Choose_eq (p n : Int) (h0 : 0 ≤ n) (hn : n ≤ 100) (k : Nat) (hk : 100 < k) : spec_l05Choose.f k p n = some (chooseF p n.toNat 1 0) := by
  unfold spec_l05Choose.f
  exact l05Choose_l0 p n (by omega) n.toNat 0 k 1 (by omega) (by omega)
theorem specWays_l0 (l : List Int) (hl : l.length ≤ 12) : ∀ (d i k : Nat) (p a : Int), i + d = l.length → d + 100 < k → inC (l.drop i) = true → spec_WaysFor.l0 k l a p (i : Int) = some (waysS p a (l.drop i), 0) := by
  intro d
  induction d with
  | zero =>
    intro i k p a hi hk hc
    obtain ⟨k, rfl⟩ : ∃ m, k = m + 1 := ⟨k - 1, by omega⟩
    simp only [spec_WaysFor.l0]
    rw [if_neg (by omega), List.drop_eq_nil_of_le (by omega)]
    rfl
  | succ d ih =>
    intro i k p a hi hk hc
    obtain ⟨k, rfl⟩ : ∃ m, k = m + 1 := ⟨k - 1, by omega⟩
    rw [drop_rd l i (by omega)] at hc ⊢
    simp only [inC, List.all_cons, Bool.and_eq_true, decide_eq_true_eq] at hc
    simp only [spec_WaysFor.l0]
    rw [if_pos (by omega), if_pos (by omega), l05Choose_eq p _ hc.1.1 hc.1.2 k (by omega), Option.bind_some, wrap_nat i (by omega), ih (i + 1) k _ _ (by omega) (by omega) (by simpa [inC] using hc.2)]
    rfl
theorem specWaysFor_eq (a : Int) (l : List Int) (hl : l.length ≤ 1048576) (k : Nat) (hk : 1048576 < k) : spec_WaysFor.f k a l = some (if codeC a l = 0 then ((if falls a l = true then waysS a 1 l else 0), 0) else (0, codeC a l)) := by
  unfold spec_WaysFor.f
  rw [l05Counts_eq a l hl k hk, l05Allow_eq a l hl k hk]
  simp only [Option.bind_some]
  by_cases h : codeC a l = 0
  · rw [if_pos h, if_pos h]
    have hc : (l.length : Int) ≤ 12 ∧ inC l = true := by
      unfold codeC at h
      split at h
      · split at h
        · split at h
          · exact ⟨by omega, ‹_›⟩
          · omega
        · omega
      · omega
    by_cases g : falls a l = true
    · rw [if_pos g, if_pos g]
      have := specWays_l0 l (by omega) l.length 0 k a 1 (by omega) (by omega) (by simpa using hc.2)
      simpa using this
    · rw [if_neg g, if_neg g]
  · rw [if_neg h, if_neg h]

theorem toInt64S_l0 (l : List Int) (hl : l.length ≤ 1048576) : ∀ (d i k : Nat), i + d = l.length → d < k → laws_toInt64S.l0 k l ((l.map id).take i ++ List.replicate d 0) (i : Int) = some (l.map id) := by
  intro d
  induction d with
  | zero =>
    intro i k hi hk
    obtain ⟨k, rfl⟩ : ∃ m, k = m + 1 := ⟨k - 1, by omega⟩
    simp only [laws_toInt64S.l0]
    rw [if_neg (by omega), List.take_of_length_le (by simp; omega)]
    simp
  | succ d ih =>
    intro i k hi hk
    obtain ⟨k, rfl⟩ : ∃ m, k = m + 1 := ⟨k - 1, by omega⟩
    have hlen : (((l.map id).take i ++ List.replicate (d + 1) 0).length : Int) = l.length := by simp; omega
    have hg : (l.map id).getD i 0 = id (rd l (i : Int)) := by
      simp [rd, List.getD_eq_getElem?_getD, List.getElem?_map, List.getElem?_eq_getElem (show i < l.length by omega)]
    have hstep := set_rep ((l.map id).take i) i d 0 (id (rd l (i : Int))) (by simp; omega)
    rw [← hg, ← take_getD 0 (l.map id) i (by simp; omega), hg] at hstep
    simp only [laws_toInt64S.l0]
    rw [if_pos (by omega), if_pos (by omega), if_pos (by rw [hlen]; omega), wrap_nat i (by omega), Int.toNat_natCast]
    exact (congrArg (fun o => laws_toInt64S.l0 k l o ((i + 1 : Nat) : Int)) hstep).trans (ih (i + 1) k (by omega) (by omega))
theorem toInt64S_eq (l : List Int) (hl : l.length ≤ 1048576) (k : Nat) (hk : l.length < k) : laws_toInt64S.f k l = some l := by
  unfold laws_toInt64S.f
  rw [if_pos (by omega), if_pos (by omega)]
  have := toInt64S_l0 l hl l.length 0 k (by omega) hk
  simpa using this

theorem eqInt64S_l0 (a b : List Int) (hab : a.length = b.length) (hl : a.length ≤ 1048576) : ∀ (d i k : Nat), i + d = a.length → d < k → laws_eqInt64S.l0 k a b (i : Int) = some (decide (a.drop i = b.drop i)) := by
  intro d
  induction d with
  | zero =>
    intro i k hi hk
    obtain ⟨k, rfl⟩ : ∃ m, k = m + 1 := ⟨k - 1, by omega⟩
    simp only [laws_eqInt64S.l0]
    rw [if_neg (by omega), List.drop_eq_nil_of_le (by omega), List.drop_eq_nil_of_le (by omega)]
    simp
  | succ d ih =>
    intro i k hi hk
    obtain ⟨k, rfl⟩ : ∃ m, k = m + 1 := ⟨k - 1, by omega⟩
    have ha : a.drop i = rd a (i : Int) :: a.drop (i + 1) := by
      rw [drop_getD 0 a i (by omega)]; simp [rd]
    have hb : b.drop i = rd b (i : Int) :: b.drop (i + 1) := by
      rw [drop_getD 0 b i (by omega)]; simp [rd]
    simp only [laws_eqInt64S.l0]
    rw [if_pos (by omega), if_pos (by omega), if_pos (by omega), ha, hb]
    by_cases e : rd a (i : Int) = rd b (i : Int)
    · rw [if_pos e, wrap_nat i (by omega), ih (i + 1) k (by omega) (by omega)]
      simp [e]
    · rw [if_neg e]
      simp [e]
theorem eqInt64S_eq (a b : List Int) (hl : a.length ≤ 1048576) (k : Nat) (hk : a.length < k) : laws_eqInt64S.f k a b = some (decide (a = b)) := by
  unfold laws_eqInt64S.f
  by_cases h : a.length = b.length
  · rw [if_pos (by omega)]
    have := eqInt64S_l0 a b h hl a.length 0 k (by omega) hk
    simpa using this
  · rw [if_neg (by omega)]
    have : a ≠ b := fun e => h (by rw [e])
    simp [this]

theorem main : laws_FnExactWaysFor.Pure := by
  intro a l _ _ _ _
  refine rounds_of 1048580 fun k hk => ?_
  unfold laws_FnExactWaysFor.f
  by_cases hl : l.length ≤ 1048576
  · rw [if_neg (by omega), toInt64S_eq l hl k (by omega)]
    simp only [Option.bind_some]
    rw [specWaysFor_eq a l hl k (by omega), implWaysFor_eq a l hl k (by omega)]
    simp only [Option.bind_some]
    rw [if_pos trivial]
    obtain ⟨k, rfl⟩ : ∃ m, k = m + 1 := ⟨k - 1, by omega⟩
    simp only [laws_FnExactWaysFor.j0]
    rw [if_neg (by simp), toInt64S_eq l hl k (by omega), Option.bind_some, eqInt64S_eq l l hl k (by omega)]
    simp
  · rw [if_pos (by omega)]

end Go.Proofs.Ytgepgmmahapebaa.PureFnExactWaysFor
namespace Go.Proofs.Ytgepgmmahapebaa.Pure
theorem FnExactWaysFor : Go.Proofs.Ytgepgmmahapebaa.P.laws_FnExactWaysFor.Pure := Go.Proofs.Ytgepgmmahapebaa.PureFnExactWaysFor.main
end Go.Proofs.Ytgepgmmahapebaa.Pure
