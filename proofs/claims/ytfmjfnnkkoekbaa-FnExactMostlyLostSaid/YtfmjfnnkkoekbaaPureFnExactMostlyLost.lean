/- For every log the program's MostlyLost returns the reference's station, number and code and leaves the log as it was; no condition. -/
import Derived.Test.YtfmjfnnkkoekbaaP45
import Derived.Laws.BitsLemmas
namespace Go.Proofs.Ytfmjfnnkkoekbaa.PureFnExactMostlyLost
open Go.RowKit Go.Proofs.Ytfmjfnnkkoekbaa.P Go.Proofs.YtfmjfnnkkoekbaaW.PrintWords Go.Proofs.YtfmjfnnkkoekbaaW.PrintLast
set_option linter.unusedSimpArgs false
set_option linter.unusedVariables false

theorem wrap64_id (x : Int) (h0 : -9223372036854775808 ≤ x) (h1 : x ≤ 9223372036854775807) : wrap64 x = x := by unfold wrap64; omega
theorem wrap_nat (n : Nat) (h : n < 4611686018427387904) : wrap64 ((n : Int) + 1) = ((n + 1 : Nat) : Int) := by
  rw [wrap64_id _ (by omega) (by omega)]; omega
theorem rd_nat (l : List Int) (i : Nat) : rd l (i : Int) = l.getD i 0 := by simp [rd]
theorem drop_rd (l : List Int) (i : Nat) (h : i < l.length) : l.drop i = rd l (i : Int) :: l.drop (i + 1) := by
  rw [List.drop_eq_getElem_cons h, rd_nat, List.getD_eq_getElem?_getD, List.getElem?_eq_getElem h]; rfl
theorem drop_getD {α : Type} (z : α) (l : List α) (i : Nat) (h : i < l.length) : l.drop i = l.getD i z :: l.drop (i + 1) := by
  rw [List.drop_eq_getElem_cons h, List.getD_eq_getElem?_getD, List.getElem?_eq_getElem h]; rfl
theorem take_getD {α : Type} (z : α) (l : List α) (i : Nat) (h : i < l.length) : l.take (i + 1) = l.take i ++ [l.getD i z] := by
  rw [List.take_succ_eq_append_getElem h, List.getD_eq_getElem?_getD, List.getElem?_eq_getElem h]; rfl
theorem set_rep {α : Type} (a : List α) (i d : Nat) (z v : α) (h : a.length = i) : (a ++ List.replicate (d + 1) z).set i v = (a ++ [v]) ++ List.replicate d z := by
  subst h
  rw [List.set_append_right _ _ (Nat.le_refl _), Nat.sub_self, List.replicate_succ, List.set_cons_zero]
  simp
theorem rounds_of (B : Nat) {α : Type} {F : Nat → Option α} {v : α} (h : ∀ k, B ≤ k → F k = some v) : ∃ k, F k = some v := ⟨B, h B (Nat.le_refl _)⟩

theorem wrap_u16 (n : Int) : IntKind.u16.wrap n = n % 65536 := by simp [IntKind.wrap, IntKind.bits, IntKind.signed]
theorem wrap_u64 (n : Int) : IntKind.u64.wrap n = n % 18446744073709551616 := by simp [IntKind.wrap, IntKind.bits, IntKind.signed]
theorem wraps_u16 (n : Int) (h₀ : 0 ≤ n) (h₁ : n < 2 ^ 16) : IntKind.u16.wrap n = n := by rw [wrap_u16]; omega
theorem wrap_u64_id (n : Int) (h0 : 0 ≤ n) (h1 : n < 18446744073709551616) : IntKind.u64.wrap n = n := by rw [wrap_u64]; omega
theorem shr_range (a n : Int) (h0 : 0 ≤ a) (h1 : a < 65536) : 0 ≤ shr .u16 a n ∧ shr .u16 a n < 65536 := by
  unfold shr
  have hp : (0 : Int) < 2 ^ min n.toNat IntKind.u16.bits := Int.pow_pos (by decide)
  constructor
  · exact Int.ediv_nonneg h0 (Int.le_of_lt hp)
  · exact Int.lt_of_le_of_lt (Int.ediv_le_self _ h0) h1
theorem bits_u16 (op : BinOp) (x y : Int) : 0 ≤ Go.bits op .u16 x y ∧ Go.bits op .u16 x y < 65536 := by
  unfold Go.bits
  split <;> (rw [wrap_u16]; omega)

theorem in_eq (a b c : Int) : spec_l00In.f a b c = some (decide (b ≤ a ∧ a ≤ c)) := by
  unfold spec_l00In.f
  by_cases h : b ≤ a
  · rw [if_pos (by omega)]; simp [h]
  · rw [if_neg (by omega)]; simp [h]
theorem within_eq (a b c : Int) : impl_within.f a b c = some (decide (b ≤ a ∧ a ≤ c)) := by
  unfold impl_within.f
  by_cases h : b ≤ a
  · rw [if_pos (by omega)]; simp [h]
  · rw [if_neg (by omega)]; simp [h]
/-- Is number i in the set p? -/
def hasB (p i : Int) : Bool := shr .u16 p i % 2 == 1
theorem l05Has_eq (p i : Int) (h0 : 0 ≤ p) (h1 : p < 65536) (hi : 0 ≤ i) (hi2 : i < 18446744073709551616) : spec_l05Has.f p i = some (hasB p i) := by
  unfold spec_l05Has.f
  rw [wrap_u64_id i hi hi2, if_pos hi, Int.tmod_eq_emod_of_nonneg (shr_range p i h0 h1).1]
  rfl
def allB (p : Int) : Int := IntKind.u16.wrap (shl .u16 1 p - 1)
theorem l05All_eq (p : Int) (h0 : 0 ≤ p) (h1 : p < 18446744073709551616) : spec_l05All.f p = some (allB p) := by
  unfold spec_l05All.f
  rw [wrap_u64_id p h0 h1, if_pos h0]
  rfl
theorem everybody_eq (p : Int) (h0 : 0 ≤ p) : impl_everybody.f p = some (allB p) := by
  unfold impl_everybody.f
  rw [if_pos h0]
  rfl
def cntOk (c : Int) : Bool := decide (0 ≤ wrap64 c ∧ wrap64 c ≤ 100)
def okFrom (b : Int) : List Int → List Int → Bool
  | s :: ss, c :: cs => decide (Go.bits .andNot .u16 s b = 0) && cntOk c && okFrom s ss cs
  | _, _ => true
def okLog (p : Int) (s c : List Int) : Bool :=
  decide (1 ≤ p ∧ p ≤ 14) && decide (1 ≤ (s.length : Int) ∧ (s.length : Int) ≤ 12) && decide (s.length = c.length) && okFrom (allB p) s c
theorem l05Ok_l0 (p : Int) (s c : List Int) (hl : s.length ≤ 1048576) (hc : s.length = c.length) : ∀ (d i k : Nat) (b : Int), i + d = s.length → d < k → spec_l05Ok.l0 k b (i : Int) p s c = some (okFrom b (s.drop i) (c.drop i)) := by
  intro d
  induction d with
  | zero =>
    intro i k b hi hk
    obtain ⟨k, rfl⟩ : ∃ m, k = m + 1 := ⟨k - 1, by omega⟩
    simp only [spec_l05Ok.l0]
    rw [if_neg (by omega), List.drop_eq_nil_of_le (by omega)]
    simp [okFrom]
  | succ d ih =>
    intro i k b hi hk
    obtain ⟨k, rfl⟩ : ∃ m, k = m + 1 := ⟨k - 1, by omega⟩
    simp only [spec_l05Ok.l0]
    rw [if_pos (by omega), if_pos (by omega), if_pos (show (i : Int) < (c.length : Int) by omega), drop_rd s i (by omega), drop_rd c i (by omega), in_eq, Option.bind_some, wrap_nat i (by omega), ih (i + 1) k _ (by omega) (by omega)]
    by_cases h1 : Go.bits .andNot .u16 (rd s (i : Int)) b = 0 <;> by_cases h2 : 0 ≤ wrap64 (rd c (i : Int)) ∧ wrap64 (rd c (i : Int)) ≤ 100 <;> simp [okFrom, cntOk, h1, h2]
theorem l05Ok_eq (p : Int) (s c : List Int) (hl : s.length ≤ 1048576) (k : Nat) (hk : 1048578 < k) : spec_l05Ok.f k p s c = some (okLog p s c) := by
  unfold spec_l05Ok.f
  rw [in_eq, in_eq]
  simp only [Option.bind_some]
  obtain ⟨k, rfl⟩ : ∃ m, k = m + 1 := ⟨k - 1, by omega⟩
  by_cases h1 : 1 ≤ p ∧ p ≤ 14
  · by_cases h2 : 1 ≤ (s.length : Int) ∧ (s.length : Int) ≤ 12
    · rw [decide_eq_true h1, if_pos rfl, decide_eq_true h2, if_pos rfl]
      simp only [spec_l05Ok.j0]
      by_cases h3 : s.length = c.length
      · have := l05Ok_l0 p s c hl h3 s.length 0 k (allB p) (by omega) (by omega)
        rw [show ((0 : Nat) : Int) = 0 from rfl] at this
        rw [if_neg (by simp [h3]), l05All_eq p (by omega) (by omega), Option.bind_some, this]
        simp only [okLog, decide_eq_true h1, decide_eq_true h2, decide_eq_true h3, Bool.true_and, List.drop_zero]
      · rw [if_pos (by simp; omega)]
        simp [okLog, h3]
    · rw [decide_eq_true h1, if_pos rfl, decide_eq_false h2, if_neg (by decide)]
      simp only [spec_l05Ok.j0, if_true]
      simp [okLog, h2]
  · rw [decide_eq_false h1, if_neg (by decide)]
    simp only [spec_l05Ok.j0, if_true]
    simp [okLog, h1]
theorem okLog_iff (p : Int) (s c : List Int) (h : okLog p s c = true) : (1 ≤ p ∧ p ≤ 14) ∧ (1 ≤ s.length ∧ s.length ≤ 12) ∧ s.length = c.length := by
  simp only [okLog, Bool.and_eq_true, decide_eq_true_eq] at h
  omega
/-- Who was seen before station i. -/
def befB (p : Int) (s : List Int) (i : Nat) : Int := if i = 0 then allB p else s.getD (i - 1) 0
theorem before_eq (p : Int) (s c : List Int) (h0 : 0 ≤ p) (i : Nat) (hi : i ≤ s.length) (hl : s.length ≤ 1048576) : impl_Log_before.f p s c (i : Int) = some (befB p s i) := by
  unfold impl_Log_before.f befB
  by_cases h : i = 0
  · subst h
    rw [if_pos (show ((0 : Nat) : Int) = 0 from rfl), everybody_eq p h0, if_pos rfl]
    rfl
  · rw [if_neg (by omega), wrap64_id _ (by omega) (by omega), if_pos (by omega), if_pos (by omega), if_neg h]
    rw [show (i : Int) - 1 = ((i - 1 : Nat) : Int) by omega, rd_nat]
theorem implValid_l0 (p : Int) (s c : List Int) (hp : 0 ≤ p) (hl : s.length ≤ 1048576) (hc : s.length = c.length) : ∀ (d i k : Nat), i + d = s.length → d < k → impl_ValidLog.l0 k s (s.length : Int) (i : Int) p s c = some (okFrom (befB p s i) (s.drop i) (c.drop i)) := by
  intro d
  induction d with
  | zero =>
    intro i k hi hk
    obtain ⟨k, rfl⟩ : ∃ m, k = m + 1 := ⟨k - 1, by omega⟩
    simp only [impl_ValidLog.l0]
    rw [if_neg (by omega), List.drop_eq_nil_of_le (by omega)]
    simp [okFrom]
  | succ d ih =>
    intro i k hi hk
    obtain ⟨k, rfl⟩ : ∃ m, k = m + 1 := ⟨k - 1, by omega⟩
    have hb : befB p s (i + 1) = rd s (i : Int) := by
      unfold befB
      rw [if_neg (by omega), rd_nat]
      rfl
    simp only [impl_ValidLog.l0]
    rw [if_pos (by omega), if_pos (by omega), if_pos (by omega), before_eq p s c hp i (by omega) hl, Option.bind_some, if_pos (show (i : Int) < (c.length : Int) by omega), drop_rd s i (by omega), drop_rd c i (by omega), within_eq, Option.bind_some, wrap_nat i (by omega), ih (i + 1) k (by omega) (by omega), hb]
    by_cases h1 : Go.bits .andNot .u16 (rd s (i : Int)) (befB p s i) = 0 <;> by_cases h2 : 0 ≤ wrap64 (rd c (i : Int)) ∧ wrap64 (rd c (i : Int)) ≤ 100 <;> simp [okFrom, cntOk, h1, h2]
theorem implValid_eq (p : Int) (s c : List Int) (hl : s.length ≤ 1048576) (k : Nat) (hk : 1048578 < k) : impl_ValidLog.f k p s c = some (okLog p s c) := by
  unfold impl_ValidLog.f impl_size_People.f
  simp only [within_eq, Option.bind_some]
  obtain ⟨k, rfl⟩ : ∃ m, k = m + 1 := ⟨k - 1, by omega⟩
  by_cases h1 : 1 ≤ p ∧ p ≤ 14
  · by_cases h2 : 1 ≤ (s.length : Int) ∧ (s.length : Int) ≤ 12
    · rw [decide_eq_true h1, if_pos rfl, decide_eq_true h2, if_pos rfl]
      simp only [impl_ValidLog.j0]
      by_cases h3 : s.length = c.length
      · have := implValid_l0 p s c (by omega) hl h3 s.length 0 k (by omega) (by omega)
        rw [show ((0 : Nat) : Int) = 0 from rfl] at this
        rw [if_neg (by simp [h3]), this]
        simp only [okLog, decide_eq_true h1, decide_eq_true h2, decide_eq_true h3, Bool.true_and, List.drop_zero, befB, if_true]
      · rw [if_pos (by simp; omega)]
        simp [okLog, h3]
    · rw [decide_eq_true h1, if_pos rfl, decide_eq_false h2, if_neg (by decide)]
      simp only [impl_ValidLog.j0, if_true]
      simp [okLog, h2]
  · rw [decide_eq_false h1, if_neg (by decide)]
    simp only [impl_ValidLog.j0, if_true]
    simp [okLog, h1]

theorem toPeopleS_l0 (l : List Int) (hl : l.length ≤ 1048576) : ∀ (d i k : Nat), i + d = l.length → d < k → laws_toPeopleS.l0 k l ((l.map id).take i ++ List.replicate d 0) (i : Int) = some (l.map id) := by
  intro d
  induction d with
  | zero =>
    intro i k hi hk
    obtain ⟨k, rfl⟩ : ∃ m, k = m + 1 := ⟨k - 1, by omega⟩
    simp only [laws_toPeopleS.l0]
    rw [if_neg (by omega), List.take_of_length_le (by simp; omega)]
    simp
  | succ d ih =>
    intro i k hi hk
    obtain ⟨k, rfl⟩ : ∃ m, k = m + 1 := ⟨k - 1, by omega⟩
    have hlen : (((l.map id).take i ++ List.replicate (d + 1) 0).length : Int) = l.length := by simp; omega
    have hg : (l.map id).getD i 0 = id (rd l (i : Int)) := by
      simp [rd, List.getD_eq_getElem?_getD, List.getElem?_map, List.getElem?_eq_getElem (show i < l.length by omega)]
    have hstep := set_rep ((l.map id).take i) i d 0 (id (rd l (i : Int))) (by simp; omega)
    rw [← hg, ← take_getD 0 (l.map id) i (by simp; omega), hg] at hstep
    simp only [laws_toPeopleS.l0]
    rw [if_pos (by omega), if_pos (by omega), if_pos (by rw [hlen]; omega), wrap_nat i (by omega), Int.toNat_natCast]
    exact (congrArg (fun o => laws_toPeopleS.l0 k l o ((i + 1 : Nat) : Int)) hstep).trans (ih (i + 1) k (by omega) (by omega))
theorem toPeopleS_eq (l : List Int) (hl : l.length ≤ 1048576) (k : Nat) (hk : l.length < k) : laws_toPeopleS.f k l = some l := by
  unfold laws_toPeopleS.f
  rw [if_pos (by omega), if_pos (by omega)]
  have := toPeopleS_l0 l hl l.length 0 k (by omega) hk
  simpa using this

theorem toInt16S_l0 (l : List Int) (hl : l.length ≤ 1048576) : ∀ (d i k : Nat), i + d = l.length → d < k → laws_toInt16S.l0 k l ((l.map id).take i ++ List.replicate d 0) (i : Int) = some (l.map id) := by
  intro d
  induction d with
  | zero =>
    intro i k hi hk
    obtain ⟨k, rfl⟩ : ∃ m, k = m + 1 := ⟨k - 1, by omega⟩
    simp only [laws_toInt16S.l0]
    rw [if_neg (by omega), List.take_of_length_le (by simp; omega)]
    simp
  | succ d ih =>
    intro i k hi hk
    obtain ⟨k, rfl⟩ : ∃ m, k = m + 1 := ⟨k - 1, by omega⟩
    have hlen : (((l.map id).take i ++ List.replicate (d + 1) 0).length : Int) = l.length := by simp; omega
    have hg : (l.map id).getD i 0 = id (rd l (i : Int)) := by
      simp [rd, List.getD_eq_getElem?_getD, List.getElem?_map, List.getElem?_eq_getElem (show i < l.length by omega)]
    have hstep := set_rep ((l.map id).take i) i d 0 (id (rd l (i : Int))) (by simp; omega)
    rw [← hg, ← take_getD 0 (l.map id) i (by simp; omega), hg] at hstep
    simp only [laws_toInt16S.l0]
    rw [if_pos (by omega), if_pos (by omega), if_pos (by rw [hlen]; omega), wrap_nat i (by omega), Int.toNat_natCast]
    exact (congrArg (fun o => laws_toInt16S.l0 k l o ((i + 1 : Nat) : Int)) hstep).trans (ih (i + 1) k (by omega) (by omega))
theorem toInt16S_eq (l : List Int) (hl : l.length ≤ 1048576) (k : Nat) (hk : l.length < k) : laws_toInt16S.f k l = some l := by
  unfold laws_toInt16S.f
  rw [if_pos (by omega), if_pos (by omega)]
  have := toInt16S_l0 l hl l.length 0 k (by omega) hk
  simpa using this

theorem eqPeopleS_l0 (a b : List Int) (hab : a.length = b.length) (hl : a.length ≤ 1048576) : ∀ (d i k : Nat), i + d = a.length → d < k → laws_eqPeopleS.l0 k a b (i : Int) = some (decide (a.drop i = b.drop i)) := by
  intro d
  induction d with
  | zero =>
    intro i k hi hk
    obtain ⟨k, rfl⟩ : ∃ m, k = m + 1 := ⟨k - 1, by omega⟩
    simp only [laws_eqPeopleS.l0]
    rw [if_neg (by omega), List.drop_eq_nil_of_le (by omega), List.drop_eq_nil_of_le (by omega)]
    simp
  | succ d ih =>
    intro i k hi hk
    obtain ⟨k, rfl⟩ : ∃ m, k = m + 1 := ⟨k - 1, by omega⟩
    have ha : a.drop i = rd a (i : Int) :: a.drop (i + 1) := by
      rw [drop_getD 0 a i (by omega)]; simp [rd]
    have hb : b.drop i = rd b (i : Int) :: b.drop (i + 1) := by
      rw [drop_getD 0 b i (by omega)]; simp [rd]
    simp only [laws_eqPeopleS.l0]
    rw [if_pos (by omega), if_pos (by omega), if_pos (by omega), ha, hb]
    by_cases e : rd a (i : Int) = rd b (i : Int)
    · rw [if_pos e, wrap_nat i (by omega), ih (i + 1) k (by omega) (by omega)]
      simp [e]
    · rw [if_neg e]
      simp [e]
theorem eqPeopleS_eq (a b : List Int) (hl : a.length ≤ 1048576) (k : Nat) (hk : a.length < k) : laws_eqPeopleS.f k a b = some (decide (a = b)) := by
  unfold laws_eqPeopleS.f
  by_cases h : a.length = b.length
  · rw [if_pos (by omega)]
    have := eqPeopleS_l0 a b h hl a.length 0 k (by omega) hk
    simpa using this
  · rw [if_neg (by omega)]
    have : a ≠ b := fun e => h (by rw [e])
    simp [this]

theorem eqInt16S_l0 (a b : List Int) (hab : a.length = b.length) (hl : a.length ≤ 1048576) : ∀ (d i k : Nat), i + d = a.length → d < k → laws_eqInt16S.l0 k a b (i : Int) = some (decide (a.drop i = b.drop i)) := by
  intro d
  induction d with
  | zero =>
    intro i k hi hk
    obtain ⟨k, rfl⟩ : ∃ m, k = m + 1 := ⟨k - 1, by omega⟩
    simp only [laws_eqInt16S.l0]
    rw [if_neg (by omega), List.drop_eq_nil_of_le (by omega), List.drop_eq_nil_of_le (by omega)]
    simp
  | succ d ih =>
    intro i k hi hk
    obtain ⟨k, rfl⟩ : ∃ m, k = m + 1 := ⟨k - 1, by omega⟩
    have ha : a.drop i = rd a (i : Int) :: a.drop (i + 1) := by
      rw [drop_getD 0 a i (by omega)]; simp [rd]
    have hb : b.drop i = rd b (i : Int) :: b.drop (i + 1) := by
      rw [drop_getD 0 b i (by omega)]; simp [rd]
    simp only [laws_eqInt16S.l0]
    rw [if_pos (by omega), if_pos (by omega), if_pos (by omega), ha, hb]
    by_cases e : rd a (i : Int) = rd b (i : Int)
    · rw [if_pos e, wrap_nat i (by omega), ih (i + 1) k (by omega) (by omega)]
      simp [e]
    · rw [if_neg e]
      simp [e]
theorem eqInt16S_eq (a b : List Int) (hl : a.length ≤ 1048576) (k : Nat) (hk : a.length < k) : laws_eqInt16S.f k a b = some (decide (a = b)) := by
  unfold laws_eqInt16S.f
  by_cases h : a.length = b.length
  · rw [if_pos (by omega)]
    have := eqInt16S_l0 a b h hl a.length 0 k (by omega) hk
    simpa using this
  · rw [if_neg (by omega)]
    have : a ≠ b := fun e => h (by rw [e])
    simp [this]

theorem szPeopleS_eq (l : List Int) (a : Int) (h0 : 0 ≤ a) (h1 : a ≤ 1048576) (hl : l.length ≤ 9223372036854775807) : laws_szPeopleS.f l a = some (if a < l.length then -1 else a - l.length) := by
  unfold laws_szPeopleS.f
  rw [wrap64_id _ (by omega) (by omega)]
  by_cases h : a < (l.length : Int)
  · rw [if_pos (by omega), if_pos h]
  · rw [if_neg (by omega), if_neg h]

theorem szInt16S_eq (l : List Int) (a : Int) (h0 : 0 ≤ a) (h1 : a ≤ 1048576) (hl : l.length ≤ 9223372036854775807) : laws_szInt16S.f l a = some (if a < l.length then -1 else a - l.length) := by
  unfold laws_szInt16S.f
  rw [wrap64_id _ (by omega) (by omega)]
  by_cases h : a < (l.length : Int)
  · rw [if_pos (by omega), if_pos h]
  · rw [if_neg (by omega), if_neg h]

theorem toLog_eq (p : Int) (s c : List Int) (hs : s.length ≤ 1048576) (hc : c.length ≤ 1048576) (k : Nat) (hk : 1048576 < k) : laws_toLog.f k p s c = some (p, s, c) := by
  unfold laws_toLog.f
  rw [toPeopleS_eq s hs k (by omega), Option.bind_some, toInt16S_eq c hc k (by omega), Option.bind_some]
theorem eqLog_eq (p : Int) (s c : List Int) (q : Int) (t d : List Int) (hs : s.length ≤ 1048576) (hc : c.length ≤ 1048576) (k : Nat) (hk : 1048576 < k) : laws_eqLog.f k p s c q t d = some (decide (p = q ∧ s = t ∧ c = d)) := by
  unfold laws_eqLog.f
  rw [eqPeopleS_eq s t hs k (by omega), eqInt16S_eq c d hc k (by omega)]
  by_cases h1 : p = q <;> by_cases h2 : s = t <;> by_cases h3 : c = d <;> simp [h1, h2, h3]
theorem szLog_eq (p : Int) (s c : List Int) (a : Int) (h0 : 0 ≤ a) (h1 : a ≤ 1048576) (hs : s.length ≤ 9223372036854775807) (hc : c.length ≤ 9223372036854775807) :
    laws_szLog.f p s c a = some (if a < (s.length : Int) + c.length then -1 else a - s.length - c.length) := by
  unfold laws_szLog.f
  rw [szPeopleS_eq s a h0 h1 hs, Option.bind_some]
  by_cases h : a < (s.length : Int)
  · rw [if_pos h, if_pos (by decide), if_pos (by omega)]
  · rw [if_neg h, if_neg (by omega), szInt16S_eq c _ (by omega) (by omega) hc, Option.bind_some]
    by_cases h2 : a - (s.length : Int) < c.length
    · rw [if_pos h2, if_pos (by decide), if_pos (by omega)]
    · rw [if_neg h2, if_neg (by omega), if_neg (by omega)]

/-- The numbers of a set from i on. -/
def listFrom (p : Int) : Nat → Nat → List Int
  | 0, _ => []
  | d + 1, i => if hasB p (i : Int) = true then (i : Int) :: listFrom p d (i + 1) else listFrom p d (i + 1)
def listP (p : Int) : List Int := listFrom p 14 0
theorem l05List_l0 (p : Int) (h0 : 0 ≤ p) (h1 : p < 65536) : ∀ (d i k : Nat) (xs : List Int), i + d = 14 → d < k → xs.length ≤ i → spec_l05List.l0 k p xs (i : Int) = some (xs ++ listFrom p d i) := by
  intro d
  induction d with
  | zero =>
    intro i k xs hi hk hx
    obtain ⟨k, rfl⟩ : ∃ m, k = m + 1 := ⟨k - 1, by omega⟩
    simp only [spec_l05List.l0]
    rw [if_neg (by omega)]
    simp [listFrom]
  | succ d ih =>
    intro i k xs hi hk hx
    obtain ⟨k, rfl⟩ : ∃ m, k = m + 1 := ⟨k - 1, by omega⟩
    simp only [spec_l05List.l0]
    rw [if_pos (by omega), l05Has_eq p i h0 h1 (by omega) (by omega), Option.bind_some, wrap_nat i (by omega)]
    unfold listFrom
    by_cases h : hasB p (i : Int) = true
    · rw [if_pos h, if_pos (by omega), ih (i + 1) k _ (by omega) (by omega) (by simp; omega), if_pos h]
      simp
    · rw [if_neg h, ih (i + 1) k _ (by omega) (by omega) (by omega), if_neg h]
theorem l05List_eq (p : Int) (h0 : 0 ≤ p) (h1 : p < 65536) (k : Nat) (hk : 14 < k) : spec_l05List.f k p = some (listP p) := by
  unfold spec_l05List.f
  have := l05List_l0 p h0 h1 14 0 k [] (by omega) hk (by simp)
  simpa [listP] using this

def TAB : ByteArray := ⟨#[0, 1, 1, 2, 1, 2, 2, 3, 1, 2, 2, 3, 2, 3, 3, 4, 1, 2, 2, 3, 2, 3, 3, 4, 2, 3, 3, 4, 3, 4, 4, 5, 1, 2, 2, 3, 2, 3, 3, 4, 2, 3, 3, 4, 3, 4, 4, 5, 2, 3, 3, 4, 3, 4, 4, 5, 3, 4, 4, 5, 4, 5, 5, 6, 1, 2, 2, 3, 2, 3, 3, 4, 2, 3, 3, 4, 3, 4, 4, 5, 2, 3, 3, 4, 3, 4, 4, 5, 3, 4, 4, 5, 4, 5, 5, 6, 2, 3, 3, 4, 3, 4, 4, 5, 3, 4, 4, 5, 4, 5, 5, 6, 3, 4, 4, 5, 4, 5, 5, 6, 4, 5, 5, 6, 5, 6, 6, 7, 1, 2, 2, 3, 2, 3, 3, 4, 2, 3, 3, 4, 3, 4, 4, 5, 2, 3, 3, 4, 3, 4, 4, 5, 3, 4, 4, 5, 4, 5, 5, 6, 2, 3, 3, 4, 3, 4, 4, 5, 3, 4, 4, 5, 4, 5, 5, 6, 3, 4, 4, 5, 4, 5, 5, 6, 4, 5, 5, 6, 5, 6, 6, 7, 2, 3, 3, 4, 3, 4, 4, 5, 3, 4, 4, 5, 4, 5, 5, 6, 3, 4, 4, 5, 4, 5, 5, 6, 4, 5, 5, 6, 5, 6, 6, 7, 3, 4, 4, 5, 4, 5, 5, 6, 4, 5, 5, 6, 5, 6, 6, 7, 4, 5, 5, 6, 5, 6, 6, 7, 5, 6, 6, 7, 6, 7, 7, 8]⟩
def pop8 (j : Int) : Int := j % 2 + j / 2 % 2 + j / 4 % 2 + j / 8 % 2 + j / 16 % 2 + j / 32 % 2 + j / 64 % 2 + j / 128 % 2
theorem TAB_eq : ∀ j : Nat, j < 256 → bt TAB (j : Int) = pop8 (j : Int) := by decide +kernel
theorem and_255 (x : Int) (h₀ : 0 ≤ x) (h₁ : x < 65536) : Go.bits .and .u16 x 255 = x % 256 := by
  have := Go.bits_mask .u16 16 (by decide) wraps_u16 8 (by decide) x h₀ (by omega)
  simpa using this
theorem and_14 (x : Int) (h₀ : 0 ≤ x) (h₁ : x < 65536) : Go.bits .and .u16 x 16383 = x % 16384 := by
  have := Go.bits_mask .u16 16 (by decide) wraps_u16 14 (by decide) x h₀ (by omega)
  simpa using this
theorem ones_eq (x : Int) (h0 : 0 ≤ x) (h1 : x < 65536) : bits_OnesCount16.f x = some ((pop8 (x / 256) + pop8 (x % 256)) % 256) := by
  unfold bits_OnesCount16.f
  rw [and_255 x h0 h1, if_pos (by omega), if_pos (by omega), if_pos (by omega), if_pos (by omega)]
  obtain ⟨a, ha⟩ := Int.eq_ofNat_of_zero_le (show 0 ≤ x / 256 by omega)
  obtain ⟨b, hb⟩ := Int.eq_ofNat_of_zero_le (show 0 ≤ x % 256 by omega)
  rw [ha, hb]
  have e1 := TAB_eq a (by omega)
  have e2 := TAB_eq b (by omega)
  unfold TAB at e1 e2
  rw [e1, e2]
theorem hasB_iff (p : Int) (i : Nat) (hi : i ≤ 16) : hasB p (i : Int) = (p / 2 ^ i % 2 == 1) := by
  unfold hasB shr
  rw [Int.toNat_natCast, Nat.min_eq_left (by simpa [IntKind.bits] using hi)]
theorem listFrom_count (p : Int) (d i : Nat) (hi : i ≤ 16) : ((listFrom p (d + 1) i).length : Int) = p / 2 ^ i % 2 + ((listFrom p d (i + 1)).length : Int) := by
  rw [show listFrom p (d + 1) i = if hasB p (i : Int) = true then (i : Int) :: listFrom p d (i + 1) else listFrom p d (i + 1) from rfl, hasB_iff p i hi]
  have h : p / 2 ^ i % 2 = 0 ∨ p / 2 ^ i % 2 = 1 := by omega
  rcases h with h | h
  · rw [h]; simp
  · rw [h]; simp; omega
def cnt14 (p : Int) : Int := p % 2 + (p / 2 % 2 + (p / 4 % 2 + (p / 8 % 2 + (p / 16 % 2 + (p / 32 % 2 + (p / 64 % 2 + (p / 128 % 2 + (p / 256 % 2 + (p / 512 % 2 + (p / 1024 % 2 + (p / 2048 % 2 + (p / 4096 % 2 + p / 8192 % 2))))))))))))
theorem listP_count (p : Int) : ((listP p).length : Int) = cnt14 p := by
  unfold listP
  rw [listFrom_count p 13 0 (by decide), listFrom_count p 12 1 (by decide), listFrom_count p 11 2 (by decide), listFrom_count p 10 3 (by decide), listFrom_count p 9 4 (by decide), listFrom_count p 8 5 (by decide), listFrom_count p 7 6 (by decide), listFrom_count p 6 7 (by decide), listFrom_count p 5 8 (by decide), listFrom_count p 4 9 (by decide), listFrom_count p 3 10 (by decide), listFrom_count p 2 11 (by decide), listFrom_count p 1 12 (by decide), listFrom_count p 0 13 (by decide)]
  simp [listFrom, cnt14]
theorem pop_cnt (p : Int) (h0 : 0 ≤ p) : (pop8 (p % 16384 / 256) + pop8 (p % 16384 % 256)) % 256 = cnt14 p := by
  have a0 : p % 16384 % 256 % 2 = p % 2 := by omega
  have a1 : p % 16384 % 256 / 2 % 2 = p / 2 % 2 := by omega
  have a2 : p % 16384 % 256 / 4 % 2 = p / 4 % 2 := by omega
  have a3 : p % 16384 % 256 / 8 % 2 = p / 8 % 2 := by omega
  have a4 : p % 16384 % 256 / 16 % 2 = p / 16 % 2 := by omega
  have a5 : p % 16384 % 256 / 32 % 2 = p / 32 % 2 := by omega
  have a6 : p % 16384 % 256 / 64 % 2 = p / 64 % 2 := by omega
  have a7 : p % 16384 % 256 / 128 % 2 = p / 128 % 2 := by omega
  have b0 : p % 16384 / 256 % 2 = p / 256 % 2 := by omega
  have b1 : p % 16384 / 256 / 2 % 2 = p / 512 % 2 := by omega
  have b2 : p % 16384 / 256 / 4 % 2 = p / 1024 % 2 := by omega
  have b3 : p % 16384 / 256 / 8 % 2 = p / 2048 % 2 := by omega
  have b4 : p % 16384 / 256 / 16 % 2 = p / 4096 % 2 := by omega
  have b5 : p % 16384 / 256 / 32 % 2 = p / 8192 % 2 := by omega
  have b6 : p % 16384 / 256 / 64 % 2 = 0 := by omega
  have b7 : p % 16384 / 256 / 128 % 2 = 0 := by omega
  unfold pop8 cnt14
  rw [a0, a1, a2, a3, a4, a5, a6, a7, b0, b1, b2, b3, b4, b5, b6, b7]
  have c : ∀ n : Int, 0 ≤ n % 2 ∧ n % 2 ≤ 1 := fun n => by omega
  have := c p; have := c (p / 2); have := c (p / 4); have := c (p / 8); have := c (p / 16); have := c (p / 32); have := c (p / 64); have := c (p / 128); have := c (p / 256); have := c (p / 512); have := c (p / 1024); have := c (p / 2048); have := c (p / 4096); have := c (p / 8192)
  generalize p % 2 = x0 at *
  generalize p / 2 % 2 = x1 at *
  generalize p / 4 % 2 = x2 at *
  generalize p / 8 % 2 = x3 at *
  generalize p / 16 % 2 = x4 at *
  generalize p / 32 % 2 = x5 at *
  generalize p / 64 % 2 = x6 at *
  generalize p / 128 % 2 = x7 at *
  generalize p / 256 % 2 = x8 at *
  generalize p / 512 % 2 = x9 at *
  generalize p / 1024 % 2 = x10 at *
  generalize p / 2048 % 2 = x11 at *
  generalize p / 4096 % 2 = x12 at *
  generalize p / 8192 % 2 = x13 at *
  clear a0 a1 a2 a3 a4 a5 a6 a7 b0 b1 b2 b3 b4 b5 b6 b7
  omega
theorem all14 : impl_everybody.f 14 = some 16383 := by
  unfold impl_everybody.f
  rw [if_pos (by decide)]
  have : IntKind.u16.wrap (shl .u16 1 14 - 1) = 16383 := by decide +kernel
  rw [this]
theorem implCount_eq (p : Int) (h0 : 0 ≤ p) (h1 : p < 65536) : impl_CountPeople.f p = some ((listP p).length : Int) := by
  unfold impl_CountPeople.f
  rw [all14, Option.bind_some, and_14 p h0 h1, ones_eq _ (by omega) (by omega), Option.bind_some, pop_cnt p h0, listP_count]
theorem specCount_eq (p : Int) (h0 : 0 ≤ p) (h1 : p < 65536) (k : Nat) (hk : 14 < k) : spec_CountPeople.f k p = some ((listP p).length : Int) := by
  unfold spec_CountPeople.f
  rw [l05List_eq p h0 h1 k hk, Option.bind_some]

def lostV (p : Int) (s : List Int) (i : Nat) : Int := Go.bits .andNot .u16 (befB p s i) (rd s (i : Int))
theorem specLost_eq (p : Int) (s c : List Int) (hp : 0 ≤ p ∧ p ≤ 14) (i : Nat) (hi : i < s.length) (hl : s.length ≤ 1048576) : spec_l05Lost.f p s c (i : Int) = some (lostV p s i) := by
  unfold spec_l05Lost.f
  rw [l05All_eq p (by omega) (by omega), Option.bind_some]
  by_cases h0 : i = 0
  · subst h0
    rw [if_neg (by omega), if_pos (by omega), if_pos (by omega)]
    simp [lostV, befB]
  · rw [if_pos (by omega), wrap64_id _ (by omega) (by omega), if_pos (by omega), if_pos (by omega), if_pos (by omega), if_pos (by omega)]
    rw [show (i : Int) - 1 = ((i - 1 : Nat) : Int) by omega, rd_nat s (i - 1)]
    simp [lostV, befB, h0]
theorem implLost_eq (p : Int) (s c : List Int) (hp : 0 ≤ p ∧ p ≤ 14) (i : Nat) (hi : i < s.length) (hl : s.length ≤ 1048576) : impl_Log_lost.f p s c (i : Int) = some (lostV p s i) := by
  unfold impl_Log_lost.f
  rw [before_eq p s c (by omega) i (by omega) hl, Option.bind_some, if_pos (by omega), if_pos (by omega)]
  rfl
theorem lostV_u16 (p : Int) (s : List Int) (i : Nat) : 0 ≤ lostV p s i ∧ lostV p s i < 65536 := by
  exact bits_u16 _ _ _
def lostN (p : Int) (s : List Int) (i : Nat) : Int := ((listP (lostV p s i)).length : Int)
def mostF (p : Int) (s : List Int) : Nat → Nat → Int → Int → Int × Int × Int
  | 0, _, b, m => (b, m, 0)
  | d + 1, i, b, m => if lostN p s i > m then mostF p s d (i + 1) (i : Int) (lostN p s i) else mostF p s d (i + 1) b m
theorem specMost_l0 (p : Int) (s c : List Int) (hp : 0 ≤ p ∧ p ≤ 14) (hl : s.length ≤ 1048576) : ∀ (d i k : Nat) (b m : Int), i + d = s.length → d + 20 < k → spec_MostlyLost.l0 k b m (i : Int) p s c = some (mostF p s d i b m) := by
  intro d
  induction d with
  | zero =>
    intro i k b m hi hk
    obtain ⟨k, rfl⟩ : ∃ m, k = m + 1 := ⟨k - 1, by omega⟩
    simp only [spec_MostlyLost.l0]
    rw [if_neg (by omega)]
    rfl
  | succ d ih =>
    intro i k b m hi hk
    obtain ⟨k, rfl⟩ : ∃ m, k = m + 1 := ⟨k - 1, by omega⟩
    have hb := lostV_u16 p s i
    simp only [spec_MostlyLost.l0]
    rw [if_pos (by omega), specLost_eq p s c hp i (by omega) hl, Option.bind_some, specCount_eq _ hb.1 hb.2 k (by omega), Option.bind_some, wrap_nat i (by omega), ih (i + 1) k _ _ (by omega) (by omega), ih (i + 1) k _ _ (by omega) (by omega)]
    simp only [mostF]
    rw [show ((listP (lostV p s i)).length : Int) = lostN p s i from rfl]
    by_cases e : lostN p s i > m
    · rw [if_pos e, if_pos e]
    · rw [if_neg e, if_neg e]
theorem implMost_l0 (p : Int) (s c : List Int) (hp : 0 ≤ p ∧ p ≤ 14) (hl : s.length ≤ 1048576) : ∀ (d i k : Nat) (b m : Int), i + d = s.length → d < k → impl_MostlyLost.l0 k b m (s.length : Int) (i : Int) p s c = some (mostF p s d i b m) := by
  intro d
  induction d with
  | zero =>
    intro i k b m hi hk
    obtain ⟨k, rfl⟩ : ∃ m, k = m + 1 := ⟨k - 1, by omega⟩
    simp only [impl_MostlyLost.l0]
    rw [if_neg (by omega)]
    rfl
  | succ d ih =>
    intro i k b m hi hk
    obtain ⟨k, rfl⟩ : ∃ m, k = m + 1 := ⟨k - 1, by omega⟩
    have hb := lostV_u16 p s i
    simp only [impl_MostlyLost.l0]
    rw [if_pos (by omega), implLost_eq p s c hp i (by omega) hl, Option.bind_some, implCount_eq _ hb.1 hb.2, Option.bind_some, wrap_nat i (by omega), ih (i + 1) k _ _ (by omega) (by omega), ih (i + 1) k _ _ (by omega) (by omega)]
    simp only [mostF]
    rw [show ((listP (lostV p s i)).length : Int) = lostN p s i from rfl]
    by_cases e : lostN p s i > m
    · rw [if_pos e, if_pos e]
    · rw [if_neg e, if_neg e]
theorem main : laws_FnExactMostlyLost.Pure := by
  intro p s c _ hs hc
  refine rounds_of 1048690 fun k hk => ?_
  unfold laws_FnExactMostlyLost.f
  rw [szLog_eq p s c 1048576 (by decide) (by decide) hs.1 hc.1, Option.bind_some]
  by_cases hl : (1048576 : Int) < (s.length : Int) + c.length
  · rw [if_pos hl, if_pos (by decide)]
  · rw [if_neg hl, if_neg (by omega), toLog_eq p s c (by omega) (by omega) k (by omega)]
    simp only [Option.bind_some]
    have hM : ∃ v : Int × Int × Int, spec_MostlyLost.f k p s c = some v ∧ impl_MostlyLost.f k p s c = some v := by
      unfold spec_MostlyLost.f impl_MostlyLost.f
      rw [l05Ok_eq p s c (by omega) k (by omega), implValid_eq p s c (by omega) k (by omega)]
      simp only [Option.bind_some]
      by_cases h : okLog p s c = true
      · obtain ⟨h1, h2, h3⟩ := okLog_iff p s c h
        have hp : 0 ≤ p ∧ p ≤ 14 := by omega
        have hb := lostV_u16 p s 0
        have e2 := implMost_l0 p s c hp (by omega) s.length 0 k 0 (-1) (by omega) (by omega)
        have e1 := specMost_l0 p s c hp (by omega) (s.length - 1) 1 k 0 ((listP (lostV p s 0)).length : Int) (by omega) (by omega)
        have e0 := specLost_eq p s c hp 0 (by omega) (by omega)
        rw [show ((0 : Nat) : Int) = 0 from rfl] at e0 e2
        rw [show ((1 : Nat) : Int) = 1 from rfl] at e1
        rw [if_pos h, if_pos h, e0, Option.bind_some, specCount_eq _ hb.1 hb.2 k (by omega), Option.bind_some, e1, e2]
        refine ⟨_, rfl, ?_⟩
        obtain ⟨n, hn⟩ : ∃ n, s.length = n + 1 := ⟨s.length - 1, by omega⟩
        rw [hn, show n + 1 - 1 = n from rfl]
        conv => lhs; unfold mostF
        rw [if_pos (by unfold lostN; omega)]
        rfl
      · rw [if_neg h, if_neg h]
        exact ⟨_, rfl, rfl⟩
    obtain ⟨v, e1, e2⟩ := hM
    rw [e1, e2]
    simp only [Option.bind_some]
    rw [if_pos trivial, if_pos trivial]
    obtain ⟨k, rfl⟩ : ∃ m, k = m + 1 := ⟨k - 1, by omega⟩
    simp only [laws_FnExactMostlyLost.j0]
    rw [if_neg (by simp), toLog_eq p s c (by omega) (by omega) k (by omega)]
    simp only [Option.bind_some]
    rw [eqLog_eq p s c p s c (by omega) (by omega) k (by omega)]
    simp

end Go.Proofs.Ytfmjfnnkkoekbaa.PureFnExactMostlyLost
namespace Go.Proofs.Ytfmjfnnkkoekbaa.Pure
theorem FnExactMostlyLost : Go.Proofs.Ytfmjfnnkkoekbaa.P.laws_FnExactMostlyLost.Pure := Go.Proofs.Ytfmjfnnkkoekbaa.PureFnExactMostlyLost.main
end Go.Proofs.Ytfmjfnnkkoekbaa.Pure
