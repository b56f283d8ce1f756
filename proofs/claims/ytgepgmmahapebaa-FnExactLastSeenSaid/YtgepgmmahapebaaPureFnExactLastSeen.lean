/- For every log and person the program's LastSeen returns the reference's station and code and leaves the log as it was; no condition. -/
import Derived.Test.YtgepgmmahapebaaP18
import Derived.Laws.BitsLemmas
namespace Go.Proofs.Ytgepgmmahapebaa.PureFnExactLastSeen
open Go.RowKit Go.Proofs.Ytgepgmmahapebaa.P Go.Proofs.YtgepgmmahapebaaW.PrintWords Go.Proofs.YtgepgmmahapebaaW.PrintLast
set_option linter.unusedSimpArgs false
set_option linter.unusedVariables false

theorem wrap64_id (x : Int) (h0 : -9223372036854775808 ≤ x) (h1 : x ≤ 9223372036854775807) : wrap64 x = x := by unfold wrap64; omega
theorem wrap_nat (n : Nat) (h : n < 4611686018427387904) : wrap64 ((n : Int) + 1) = ((n + 1 : Nat) : Int) := by
  rw [wrap64_id _ (by omega) (by omega)]; omega
theorem rd_nat (l : List Int) (i : Nat) : rd l (i : Int) = l.getD i 0 := by simp [rd]
theorem drop_rd (l : List Int) (i : Nat) (h : i < l.length) : l.drop i = rd l (i : Int) :: l.drop (i + 1) := by
  rw [List.drop_eq_getElem_cons h, rd_nat, List.getD_eq_getElem?_getD, List.getElem?_eq_getElem h]; rfl
theorem drop_getD {α : Type} (z : α) (l : List α) (i : Nat) (h : i < l.length) : l.drop i = l.getD i z :: l.drop (i + 1) := by
  rw [List.drop_eq_getElem_cons h, List.getD_eq_getElem?_getD, List.getElem?_eq_getElem h]; rfl
theorem take_getD {α : Type} (z : α) (l : List α) (i : Nat) (h : i < l.length) : l.take (i + 1) = l.take i ++ [l.getD i z] := by
  rw [List.take_succ_eq_append_getElem h, List.getD_eq_getElem?_getD, List.getElem?_eq_getElem h]; rfl
theorem set_rep {α : Type} (a : List α) (i d : Nat) (z v : α) (h : a.length = i) : (a ++ List.replicate (d + 1) z).set i v = (a ++ [v]) ++ List.replicate d z := by
  subst h
  rw [List.set_append_right _ _ (Nat.le_refl _), Nat.sub_self, List.replicate_succ, List.set_cons_zero]
  simp
theorem rounds_of (B : Nat) {α : Type} {F : Nat → Option α} {v : α} (h : ∀ k, B ≤ k → F k = some v) : ∃ k, F k = some v := ⟨B, h B (Nat.le_refl _)⟩

theorem wrap_u16 (n : Int) : IntKind.u16.wrap n = n % 65536 := by simp [IntKind.wrap, IntKind.bits, IntKind.signed]
theorem wrap_u64 (n : Int) : IntKind.u64.wrap n = n % 18446744073709551616 := by simp [IntKind.wrap, IntKind.bits, IntKind.signed]
theorem wraps_u16 (n : Int) (h₀ : 0 ≤ n) (h₁ : n < 2 ^ 16) : IntKind.u16.wrap n = n := by rw [wrap_u16]; omega
theorem wrap_u64_id (n : Int) (h0 : 0 ≤ n) (h1 : n < 18446744073709551616) : IntKind.u64.wrap n = n := by rw [wrap_u64]; omega
theorem and_one (x : Int) (h₀ : 0 ≤ x) (h₁ : x < 65536) : Go.bits .and .u16 x 1 = x % 2 := by
  have := Go.bits_mask .u16 16 (by decide) wraps_u16 1 (by decide) x h₀ (by omega)
  simpa using this
theorem wf_u16 {a : Int} (h : (Lit.int .u16 a).wf = true) : 0 ≤ a ∧ a < 65536 := by
  simp [Lit.wf, IntKind.min, IntKind.max, IntKind.bits, IntKind.signed] at h
  omega
theorem shr_range (a n : Int) (h0 : 0 ≤ a) (h1 : a < 65536) : 0 ≤ shr .u16 a n ∧ shr .u16 a n < 65536 := by
  unfold shr
  have hp : (0 : Int) < 2 ^ min n.toNat IntKind.u16.bits := Int.pow_pos (by decide)
  constructor
  · exact Int.ediv_nonneg h0 (Int.le_of_lt hp)
  · exact Int.lt_of_le_of_lt (Int.ediv_le_self _ h0) h1

theorem in_eq (a b c : Int) : spec_l00In.f a b c = some (decide (b ≤ a ∧ a ≤ c)) := by
  unfold spec_l00In.f
  by_cases h : b ≤ a
  · rw [if_pos (by omega)]; simp [h]
  · rw [if_neg (by omega)]; simp [h]
theorem within_eq (a b c : Int) : impl_within.f a b c = some (decide (b ≤ a ∧ a ≤ c)) := by
  unfold impl_within.f
  by_cases h : b ≤ a
  · rw [if_pos (by omega)]; simp [h]
  · rw [if_neg (by omega)]; simp [h]
def isP (i : Int) : Bool := decide (0 ≤ i ∧ i ≤ 13)
theorem isP_iff (i : Int) : isP i = true ↔ 0 ≤ i ∧ i ≤ 13 := by simp [isP]
theorem isPerson_eq (i : Int) : impl_isPerson.f i = some (isP i) := by
  unfold impl_isPerson.f
  rw [within_eq]; rfl
/-- Is number i in the set p? -/
def hasB (p i : Int) : Bool := shr .u16 p i % 2 == 1
theorem l05Has_eq (p i : Int) (h0 : 0 ≤ p) (h1 : p < 65536) (hi : 0 ≤ i) (hi2 : i < 18446744073709551616) : spec_l05Has.f p i = some (hasB p i) := by
  unfold spec_l05Has.f
  rw [wrap_u64_id i hi hi2, if_pos hi, Int.tmod_eq_emod_of_nonneg (shr_range p i h0 h1).1]
  rfl
def hasP (p i : Int) : Bool := isP i && hasB p i
theorem implHas_eq (p i : Int) (h0 : 0 ≤ p) (h1 : p < 65536) : impl_HasPerson.f p i = some (hasP p i) := by
  unfold impl_HasPerson.f
  rw [isPerson_eq, Option.bind_some]
  by_cases h : isP i = true
  · have := (isP_iff i).1 h
    rw [if_pos h, if_pos (by omega), and_one _ (shr_range p i h0 h1).1 (shr_range p i h0 h1).2]
    simp [hasP, h, hasB]
  · rw [if_neg h]
    simp [hasP, h]

def allB (p : Int) : Int := IntKind.u16.wrap (shl .u16 1 p - 1)
theorem l05All_eq (p : Int) (h0 : 0 ≤ p) (h1 : p < 18446744073709551616) : spec_l05All.f p = some (allB p) := by
  unfold spec_l05All.f
  rw [wrap_u64_id p h0 h1, if_pos h0]
  rfl
theorem everybody_eq (p : Int) (h0 : 0 ≤ p) : impl_everybody.f p = some (allB p) := by
  unfold impl_everybody.f
  rw [if_pos h0]
  rfl
def cntOk (c : Int) : Bool := decide (0 ≤ wrap64 c ∧ wrap64 c ≤ 100)
def okFrom (b : Int) : List Int → List Int → Bool
  | s :: ss, c :: cs => decide (Go.bits .andNot .u16 s b = 0) && cntOk c && okFrom s ss cs
  | _, _ => true
def okLog (p : Int) (s c : List Int) : Bool :=
  decide (1 ≤ p ∧ p ≤ 14) && decide (1 ≤ (s.length : Int) ∧ (s.length : Int) ≤ 12) && decide (s.length = c.length) && okFrom (allB p) s c
theorem l05Ok_l0 (p : Int) (s c : List Int) (hl : s.length ≤ 1048576) (hc : s.length = c.length) : ∀ (d i k : Nat) (b : Int), i + d = s.length → d < k → spec_l05Ok.l0 k b (i : Int) p s c = some (okFrom b (s.drop i) (c.drop i)) := by
  intro d
  induction d with
  | zero =>
    intro i k b hi hk
    obtain ⟨k, rfl⟩ : ∃ m, k = m + 1 := ⟨k - 1, by omega⟩
    simp only [spec_l05Ok.l0]
    rw [if_neg (by omega), List.drop_eq_nil_of_le (by omega)]
    simp [okFrom]
  | succ d ih =>
    intro i k b hi hk
    obtain ⟨k, rfl⟩ : ∃ m, k = m + 1 := ⟨k - 1, by omega⟩
    simp only [spec_l05Ok.l0]
    rw [if_pos (by omega), if_pos (by omega), if_pos (show (i : Int) < (c.length : Int) by omega), drop_rd s i (by omega), drop_rd c i (by omega), in_eq, Option.bind_some, wrap_nat i (by omega), ih (i + 1) k _ (by omega) (by omega)]
    by_cases h1 : Go.bits .andNot .u16 (rd s (i : Int)) b = 0 <;> by_cases h2 : 0 ≤ wrap64 (rd c (i : Int)) ∧ wrap64 (rd c (i : Int)) ≤ 100 <;> simp [okFrom, cntOk, h1, h2]
theorem l05Ok_eq (p : Int) (s c : List Int) (hl : s.length ≤ 1048576) (k : Nat) (hk : 1048578 < k) : spec_l05Ok.f k p s c = some (okLog p s c) := by
  unfold spec_l05Ok.f
  rw [in_eq, in_eq]
  simp only [Option.bind_some]
  obtain ⟨k, rfl⟩ : ∃ m, k = m + 1 := ⟨k - 1, by omega⟩
  by_cases h1 : 1 ≤ p ∧ p ≤ 14
  · by_cases h2 : 1 ≤ (s.length : Int) ∧ (s.length : Int) ≤ 12
    · rw [decide_eq_true h1, if_pos rfl, decide_eq_true h2, if_pos rfl]
      simp only [spec_l05Ok.j0]
      by_cases h3 : s.length = c.length
      · have := l05Ok_l0 p s c hl h3 s.length 0 k (allB p) (by omega) (by omega)
        rw [show ((0 : Nat) : Int) = 0 from rfl] at this
        rw [if_neg (by simp [h3]), l05All_eq p (by omega) (by omega), Option.bind_some, this]
        simp only [okLog, decide_eq_true h1, decide_eq_true h2, decide_eq_true h3, Bool.true_and, List.drop_zero]
      · rw [if_pos (by simp; omega)]
        simp [okLog, h3]
    · rw [decide_eq_true h1, if_pos rfl, decide_eq_false h2, if_neg (by decide)]
      simp only [spec_l05Ok.j0, if_true]
      simp [okLog, h2]
  · rw [decide_eq_false h1, if_neg (by decide)]
    simp only [spec_l05Ok.j0, if_true]
    simp [okLog, h1]
theorem okLog_iff (p : Int) (s c : List Int) (h : okLog p s c = true) : (1 ≤ p ∧ p ≤ 14) ∧ (1 ≤ s.length ∧ s.length ≤ 12) ∧ s.length = c.length := by
  simp only [okLog, Bool.and_eq_true, decide_eq_true_eq] at h
  omega
/-- Who was seen before station i. -/
def befB (p : Int) (s : List Int) (i : Nat) : Int := if i = 0 then allB p else s.getD (i - 1) 0
theorem before_eq (p : Int) (s c : List Int) (h0 : 0 ≤ p) (i : Nat) (hi : i ≤ s.length) (hl : s.length ≤ 1048576) : impl_Log_before.f p s c (i : Int) = some (befB p s i) := by
  unfold impl_Log_before.f befB
  by_cases h : i = 0
  · subst h
    rw [if_pos (show ((0 : Nat) : Int) = 0 from rfl), everybody_eq p h0, if_pos rfl]
    rfl
  · rw [if_neg (by omega), wrap64_id _ (by omega) (by omega), if_pos (by omega), if_pos (by omega), if_neg h]
    rw [show (i : Int) - 1 = ((i - 1 : Nat) : Int) by omega, rd_nat]
theorem implValid_l0 (p : Int) (s c : List Int) (hp : 0 ≤ p) (hl : s.length ≤ 1048576) (hc : s.length = c.length) : ∀ (d i k : Nat), i + d = s.length → d < k → impl_ValidLog.l0 k s (s.length : Int) (i : Int) p s c = some (okFrom (befB p s i) (s.drop i) (c.drop i)) := by
  intro d
  induction d with
  | zero =>
    intro i k hi hk
    obtain ⟨k, rfl⟩ : ∃ m, k = m + 1 := ⟨k - 1, by omega⟩
    simp only [impl_ValidLog.l0]
    rw [if_neg (by omega), List.drop_eq_nil_of_le (by omega)]
    simp [okFrom]
  | succ d ih =>
    intro i k hi hk
    obtain ⟨k, rfl⟩ : ∃ m, k = m + 1 := ⟨k - 1, by omega⟩
    have hb : befB p s (i + 1) = rd s (i : Int) := by
      unfold befB
      rw [if_neg (by omega), rd_nat]
      rfl
    simp only [impl_ValidLog.l0]
    rw [if_pos (by omega), if_pos (by omega), if_pos (by omega), before_eq p s c hp i (by omega) hl, Option.bind_some, if_pos (show (i : Int) < (c.length : Int) by omega), drop_rd s i (by omega), drop_rd c i (by omega), within_eq, Option.bind_some, wrap_nat i (by omega), ih (i + 1) k (by omega) (by omega), hb]
    by_cases h1 : Go.bits .andNot .u16 (rd s (i : Int)) (befB p s i) = 0 <;> by_cases h2 : 0 ≤ wrap64 (rd c (i : Int)) ∧ wrap64 (rd c (i : Int)) ≤ 100 <;> simp [okFrom, cntOk, h1, h2]
theorem implValid_eq (p : Int) (s c : List Int) (hl : s.length ≤ 1048576) (k : Nat) (hk : 1048578 < k) : impl_ValidLog.f k p s c = some (okLog p s c) := by
  unfold impl_ValidLog.f impl_size_People.f
  simp only [within_eq, Option.bind_some]
  obtain ⟨k, rfl⟩ : ∃ m, k = m + 1 := ⟨k - 1, by omega⟩
  by_cases h1 : 1 ≤ p ∧ p ≤ 14
  · by_cases h2 : 1 ≤ (s.length : Int) ∧ (s.length : Int) ≤ 12
    · rw [decide_eq_true h1, if_pos rfl, decide_eq_true h2, if_pos rfl]
      simp only [impl_ValidLog.j0]
      by_cases h3 : s.length = c.length
      · have := implValid_l0 p s c (by omega) hl h3 s.length 0 k (by omega) (by omega)
        rw [show ((0 : Nat) : Int) = 0 from rfl] at this
        rw [if_neg (by simp [h3]), this]
        simp only [okLog, decide_eq_true h1, decide_eq_true h2, decide_eq_true h3, Bool.true_and, List.drop_zero, befB, if_true]
      · rw [if_pos (by simp; omega)]
        simp [okLog, h3]
    · rw [decide_eq_true h1, if_pos rfl, decide_eq_false h2, if_neg (by decide)]
      simp only [impl_ValidLog.j0, if_true]
      simp [okLog, h2]
  · rw [decide_eq_false h1, if_neg (by decide)]
    simp only [impl_ValidLog.j0, if_true]
    simp [okLog, h1]

theorem toPeopleS_l0 (l : List Int) (hl : l.length ≤ 1048576) : ∀ (d i k : Nat), i + d = l.length → d < k → laws_toPeopleS.l0 k l ((l.map id).take i ++ List.replicate d 0) (i : Int) = some (l.map id) := by
  intro d
  induction d with
  | zero =>
    intro i k hi hk
    obtain ⟨k, rfl⟩ : ∃ m, k = m + 1 := ⟨k - 1, by omega⟩
    simp only [laws_toPeopleS.l0]
    rw [if_neg (by omega), List.take_of_length_le (by simp; omega)]
    simp
  | succ d ih =>
    intro i k hi hk
    obtain ⟨k, rfl⟩ : ∃ m, k = m + 1 := ⟨k - 1, by omega⟩
    have hlen : (((l.map id).take i ++ List.replicate (d + 1) 0).length : Int) = l.length := by simp; omega
    have hg : (l.map id).getD i 0 = id (rd l (i : Int)) := by
      simp [rd, List.getD_eq_getElem?_getD, List.getElem?_map, List.getElem?_eq_getElem (show i < l.length by omega)]
    have hstep := set_rep ((l.map id).take i) i d 0 (id (rd l (i : Int))) (by simp; omega)
    rw [← hg, ← take_getD 0 (l.map id) i (by simp; omega), hg] at hstep
    simp only [laws_toPeopleS.l0]
    rw [if_pos (by omega), if_pos (by omega), if_pos (by rw [hlen]; omega), wrap_nat i (by omega), Int.toNat_natCast]
    exact (congrArg (fun o => laws_toPeopleS.l0 k l o ((i + 1 : Nat) : Int)) hstep).trans (ih (i + 1) k (by omega) (by omega))
theorem toPeopleS_eq (l : List Int) (hl : l.length ≤ 1048576) (k : Nat) (hk : l.length < k) : laws_toPeopleS.f k l = some l := by
  unfold laws_toPeopleS.f
  rw [if_pos (by omega), if_pos (by omega)]
  have := toPeopleS_l0 l hl l.length 0 k (by omega) hk
  simpa using this

theorem toInt16S_l0 (l : List Int) (hl : l.length ≤ 1048576) : ∀ (d i k : Nat), i + d = l.length → d < k → laws_toInt16S.l0 k l ((l.map id).take i ++ List.replicate d 0) (i : Int) = some (l.map id) := by
  intro d
  induction d with
  | zero =>
    intro i k hi hk
    obtain ⟨k, rfl⟩ : ∃ m, k = m + 1 := ⟨k - 1, by omega⟩
    simp only [laws_toInt16S.l0]
    rw [if_neg (by omega), List.take_of_length_le (by simp; omega)]
    simp
  | succ d ih =>
    intro i k hi hk
    obtain ⟨k, rfl⟩ : ∃ m, k = m + 1 := ⟨k - 1, by omega⟩
    have hlen : (((l.map id).take i ++ List.replicate (d + 1) 0).length : Int) = l.length := by simp; omega
    have hg : (l.map id).getD i 0 = id (rd l (i : Int)) := by
      simp [rd, List.getD_eq_getElem?_getD, List.getElem?_map, List.getElem?_eq_getElem (show i < l.length by omega)]
    have hstep := set_rep ((l.map id).take i) i d 0 (id (rd l (i : Int))) (by simp; omega)
    rw [← hg, ← take_getD 0 (l.map id) i (by simp; omega), hg] at hstep
    simp only [laws_toInt16S.l0]
    rw [if_pos (by omega), if_pos (by omega), if_pos (by rw [hlen]; omega), wrap_nat i (by omega), Int.toNat_natCast]
    exact (congrArg (fun o => laws_toInt16S.l0 k l o ((i + 1 : Nat) : Int)) hstep).trans (ih (i + 1) k (by omega) (by omega))
theorem toInt16S_eq (l : List Int) (hl : l.length ≤ 1048576) (k : Nat) (hk : l.length < k) : laws_toInt16S.f k l = some l := by
  unfold laws_toInt16S.f
  rw [if_pos (by omega), if_pos (by omega)]
  have := toInt16S_l0 l hl l.length 0 k (by omega) hk
  simpa using this

theorem eqPeopleS_l0 (a b : List Int) (hab : a.length = b.length) (hl : a.length ≤ 1048576) : ∀ (d i k : Nat), i + d = a.length → d < k → laws_eqPeopleS.l0 k a b (i : Int) = some (decide (a.drop i = b.drop i)) := by
  intro d
  induction d with
  | zero =>
    intro i k hi hk
    obtain ⟨k, rfl⟩ : ∃ m, k = m + 1 := ⟨k - 1, by omega⟩
    simp only [laws_eqPeopleS.l0]
    rw [if_neg (by omega), List.drop_eq_nil_of_le (by omega), List.drop_eq_nil_of_le (by omega)]
    simp
  | succ d ih =>
    intro i k hi hk
    obtain ⟨k, rfl⟩ : ∃ m, k = m + 1 := ⟨k - 1, by omega⟩
    have ha : a.drop i = rd a (i : Int) :: a.drop (i + 1) := by
      rw [drop_getD 0 a i (by omega)]; simp [rd]
    have hb : b.drop i = rd b (i : Int) :: b.drop (i + 1) := by
      rw [drop_getD 0 b i (by omega)]; simp [rd]
    simp only [laws_eqPeopleS.l0]
    rw [if_pos (by omega), if_pos (by omega), if_pos (by omega), ha, hb]
    by_cases e : rd a (i : Int) = rd b (i : Int)
    · rw [if_pos e, wrap_nat i (by omega), ih (i + 1) k (by omega) (by omega)]
      simp [e]
    · rw [if_neg e]
      simp [e]
theorem eqPeopleS_eq (a b : List Int) (hl : a.length ≤ 1048576) (k : Nat) (hk : a.length < k) : laws_eqPeopleS.f k a b = some (decide (a = b)) := by
  unfold laws_eqPeopleS.f
  by_cases h : a.length = b.length
  · rw [if_pos (by omega)]
    have := eqPeopleS_l0 a b h hl a.length 0 k (by omega) hk
    simpa using this
  · rw [if_neg (by omega)]
    have : a ≠ b := fun e => h (by rw [e])
    simp [this]

theorem eqInt16S_l0 (a b : List Int) (hab : a.length = b.length) (hl : a.length ≤ 1048576) : ∀ (d i k : Nat), i + d = a.length → d < k → laws_eqInt16S.l0 k a b (i : Int) = some (decide (a.drop i = b.drop i)) := by
  intro d
  induction d with
  | zero =>
    intro i k hi hk
    obtain ⟨k, rfl⟩ : ∃ m, k = m + 1 := ⟨k - 1, by omega⟩
    simp only [laws_eqInt16S.l0]
    rw [if_neg (by omega), List.drop_eq_nil_of_le (by omega), List.drop_eq_nil_of_le (by omega)]
    simp
  | succ d ih =>
    intro i k hi hk
    obtain ⟨k, rfl⟩ : ∃ m, k = m + 1 := ⟨k - 1, by omega⟩
    have ha : a.drop i = rd a (i : Int) :: a.drop (i + 1) := by
      rw [drop_getD 0 a i (by omega)]; simp [rd]
    have hb : b.drop i = rd b (i : Int) :: b.drop (i + 1) := by
      rw [drop_getD 0 b i (by omega)]; simp [rd]
    simp only [laws_eqInt16S.l0]
    rw [if_pos (by omega), if_pos (by omega), if_pos (by omega), ha, hb]
    by_cases e : rd a (i : Int) = rd b (i : Int)
    · rw [if_pos e, wrap_nat i (by omega), ih (i + 1) k (by omega) (by omega)]
      simp [e]
    · rw [if_neg e]
      simp [e]
theorem eqInt16S_eq (a b : List Int) (hl : a.length ≤ 1048576) (k : Nat) (hk : a.length < k) : laws_eqInt16S.f k a b = some (decide (a = b)) := by
  unfold laws_eqInt16S.f
  by_cases h : a.length = b.length
  · rw [if_pos (by omega)]
    have := eqInt16S_l0 a b h hl a.length 0 k (by omega) hk
    simpa using this
  · rw [if_neg (by omega)]
    have : a ≠ b := fun e => h (by rw [e])
    simp [this]

theorem szPeopleS_eq (l : List Int) (a : Int) (h0 : 0 ≤ a) (h1 : a ≤ 1048576) (hl : l.length ≤ 9223372036854775807) : laws_szPeopleS.f l a = some (if a < l.length then -1 else a - l.length) := by
  unfold laws_szPeopleS.f
  rw [wrap64_id _ (by omega) (by omega)]
  by_cases h : a < (l.length : Int)
  · rw [if_pos (by omega), if_pos h]
  · rw [if_neg (by omega), if_neg h]

theorem szInt16S_eq (l : List Int) (a : Int) (h0 : 0 ≤ a) (h1 : a ≤ 1048576) (hl : l.length ≤ 9223372036854775807) : laws_szInt16S.f l a = some (if a < l.length then -1 else a - l.length) := by
  unfold laws_szInt16S.f
  rw [wrap64_id _ (by omega) (by omega)]
  by_cases h : a < (l.length : Int)
  · rw [if_pos (by omega), if_pos h]
  · rw [if_neg (by omega), if_neg h]

theorem toLog_eq (p : Int) (s c : List Int) (hs : s.length ≤ 1048576) (hc : c.length ≤ 1048576) (k : Nat) (hk : 1048576 < k) : laws_toLog.f k p s c = some (p, s, c) := by
  unfold laws_toLog.f
  rw [toPeopleS_eq s hs k (by omega), Option.bind_some, toInt16S_eq c hc k (by omega), Option.bind_some]
theorem eqLog_eq (p : Int) (s c : List Int) (q : Int) (t d : List Int) (hs : s.length ≤ 1048576) (hc : c.length ≤ 1048576) (k : Nat) (hk : 1048576 < k) : laws_eqLog.f k p s c q t d = some (decide (p = q ∧ s = t ∧ c = d)) := by
  unfold laws_eqLog.f
  rw [eqPeopleS_eq s t hs k (by omega), eqInt16S_eq c d hc k (by omega)]
  by_cases h1 : p = q <;> by_cases h2 : s = t <;> by_cases h3 : c = d <;> simp [h1, h2, h3]
theorem szLog_eq (p : Int) (s c : List Int) (a : Int) (h0 : 0 ≤ a) (h1 : a ≤ 1048576) (hs : s.length ≤ 9223372036854775807) (hc : c.length ≤ 9223372036854775807) :
    laws_szLog.f p s c a = some (if a < (s.length : Int) + c.length then -1 else a - s.length - c.length) := by
  unfold laws_szLog.f
  rw [szPeopleS_eq s a h0 h1 hs, Option.bind_some]
  by_cases h : a < (s.length : Int)
  · rw [if_pos h, if_pos (by decide), if_pos (by omega)]
  · rw [if_neg h, if_neg (by omega), szInt16S_eq c _ (by omega) (by omega) hc, Option.bind_some]
    by_cases h2 : a - (s.length : Int) < c.length
    · rw [if_pos h2, if_pos (by decide), if_pos (by omega)]
    · rw [if_neg h2, if_neg (by omega), if_neg (by omega)]

def lastS (s : List Int) (q : Int) : Nat → Int × Int
  | 0 => (0, 6)
  | n + 1 => if hasB (s.getD n 0) q = true then ((n : Int), 0) else lastS s q n
def filt (s : List Int) (q : Int) : Nat → List Int
  | 0 => []
  | n + 1 => if hasB (s.getD n 0) q = true then filt s q n ++ [(n : Int)] else filt s q n
theorem filt_length (s : List Int) (q : Int) : ∀ n, (filt s q n).length ≤ n
  | 0 => by simp [filt]
  | n + 1 => by
    have := filt_length s q n
    unfold filt
    split
    · simp; omega
    · omega
theorem last_filt (s : List Int) (q : Int) : ∀ n, lastS s q n = if ((filt s q n).length : Int) = 0 then (0, 6) else ((filt s q n).getD ((filt s q n).length - 1) 0, 0)
  | 0 => by simp [lastS, filt]
  | n + 1 => by
    unfold lastS filt
    by_cases h : hasB (s.getD n 0) q = true
    · rw [if_pos h, if_pos h, if_neg (by simp; omega)]
      simp
    · rw [if_neg h, if_neg h]
      exact last_filt s q n
theorem specLast_l0 (p : Int) (s c : List Int) (q : Int) (hs : ∀ x ∈ s, (Lit.int .u16 x).wf = true) (hq : 0 ≤ q ∧ q ≤ 13) (hl : s.length ≤ 12) : ∀ (n k : Nat), n ≤ s.length → n < k → spec_LastSeen.l0 k q ((n : Int) - 1) p s c = some (lastS s q n) := by
  intro n
  induction n with
  | zero =>
    intro k hn hk
    obtain ⟨k, rfl⟩ : ∃ m, k = m + 1 := ⟨k - 1, by omega⟩
    simp only [spec_LastSeen.l0]
    rw [if_neg (by omega)]
    rfl
  | succ n ih =>
    intro k hn hk
    obtain ⟨k, rfl⟩ : ∃ m, k = m + 1 := ⟨k - 1, by omega⟩
    have hr := wf_u16 (hs (s.getD n 0) (by rw [List.getD_eq_getElem?_getD, List.getElem?_eq_getElem (by omega)]; exact List.getElem_mem _))
    simp only [spec_LastSeen.l0]
    rw [show ((n + 1 : Nat) : Int) - 1 = (n : Int) by omega, if_pos (by omega), if_pos (by omega), if_pos (by omega), rd_nat, l05Has_eq _ q hr.1 hr.2 hq.1 (by omega), Option.bind_some, wrap64_id _ (by omega) (by omega), ih k (by omega) (by omega)]
    unfold lastS
    by_cases h : hasB (s.getD n 0) q = true
    · rw [if_pos h, if_pos h]
    · rw [if_neg h, if_neg h]
      cases n <;> rfl
theorem idx_l0 (p : Int) (s c : List Int) (q : Int) (hs : ∀ x ∈ s, (Lit.int .u16 x).wf = true) (hq : 0 ≤ q ∧ q ≤ 13) (hl : s.length ≤ 12) : ∀ (d i k : Nat), i + d = s.length → d < k → impl_indices_at_LastSeen_1.l0 k (filt s q i) (s.length : Int) (i : Int) p s c q = some (filt s q s.length) := by
  intro d
  induction d with
  | zero =>
    intro i k hi hk
    obtain ⟨k, rfl⟩ : ∃ m, k = m + 1 := ⟨k - 1, by omega⟩
    obtain rfl : i = s.length := by omega
    simp only [impl_indices_at_LastSeen_1.l0]
    rw [if_neg (by omega)]
  | succ d ih =>
    intro i k hi hk
    obtain ⟨k, rfl⟩ : ∃ m, k = m + 1 := ⟨k - 1, by omega⟩
    have hr := wf_u16 (hs (s.getD i 0) (by rw [List.getD_eq_getElem?_getD, List.getElem?_eq_getElem (by omega)]; exact List.getElem_mem _))
    have hh : hasP (s.getD i 0) q = hasB (s.getD i 0) q := by simp [hasP, (isP_iff q).2 hq]
    have hfl := filt_length s q i
    have hih := ih (i + 1) k (by omega) (by omega)
    simp only [impl_indices_at_LastSeen_1.l0, impl_LastSeen_1.f]
    rw [if_pos (by omega), if_pos (by omega), if_pos (by omega), rd_nat, implHas_eq _ q hr.1 hr.2, Option.bind_some, Option.bind_some, hh, wrap_nat i (by omega)]
    rw [show filt s q (i + 1) = if hasB (s.getD i 0) q = true then filt s q i ++ [(i : Int)] else filt s q i from rfl] at hih
    by_cases h : hasB (s.getD i 0) q = true
    · rw [if_pos h] at hih
      rw [if_pos h, if_pos (by omega), hih]
    · rw [if_neg h] at hih
      rw [if_neg h, hih]
theorem main : laws_FnExactLastSeen.Pure := by
  intro p s c a _ hs hc ha
  refine rounds_of 1048590 fun k hk => ?_
  unfold laws_FnExactLastSeen.f
  rw [szLog_eq p s c 1048576 (by decide) (by decide) hs.1 hc.1, Option.bind_some]
  by_cases hl : (1048576 : Int) < (s.length : Int) + c.length
  · rw [if_pos hl, if_pos (by decide)]
  · rw [if_neg hl, if_neg (by omega), toLog_eq p s c (by omega) (by omega) k (by omega)]
    simp only [Option.bind_some]
    have hM : ∃ v : Int × Int, spec_LastSeen.f k p s c a = some v ∧ impl_LastSeen.f k p s c a = some v := by
      unfold spec_LastSeen.f impl_LastSeen.f
      rw [l05Ok_eq p s c (by omega) k (by omega), implValid_eq p s c (by omega) k (by omega)]
      simp only [Option.bind_some]
      by_cases h : okLog p s c = true
      · obtain ⟨h1, h2, h3⟩ := okLog_iff p s c h
        rw [if_pos h, if_pos h, wrap64_id (p - 1) (by omega) (by omega), in_eq, within_eq]
        simp only [Option.bind_some]
        by_cases g : 0 ≤ a ∧ a ≤ p - 1
        · rw [decide_eq_true g, if_pos rfl, if_pos rfl, wrap64_id _ (by omega) (by omega), specLast_l0 p s c a hs.2 (by omega) (by omega) s.length k (by omega) (by omega)]
          have := idx_l0 p s c a hs.2 (by omega) (by omega) s.length 0 k (by omega) (by omega)
          rw [show ((0 : Nat) : Int) = 0 from rfl] at this
          unfold impl_indices_at_LastSeen_1.f
          rw [show ([] : List Int) = filt s a 0 from rfl, this, Option.bind_some]
          refine ⟨_, rfl, ?_⟩
          rw [last_filt s a s.length]
          by_cases e : ((filt s a s.length).length : Int) = 0
          · rw [if_pos e, if_pos e]
          · have hfl := filt_length s a s.length
            rw [if_neg e, if_neg e, wrap64_id _ (by omega) (by omega), if_pos (by omega), if_pos (by omega)]
            rw [show ((filt s a s.length).length : Int) - 1 = (((filt s a s.length).length - 1 : Nat) : Int) by omega, rd_nat]
        · rw [decide_eq_false g, if_neg (by decide), if_neg (by decide)]
          exact ⟨_, rfl, rfl⟩
      · rw [if_neg h, if_neg h]
        exact ⟨_, rfl, rfl⟩
    obtain ⟨v, e1, e2⟩ := hM
    rw [e1, e2]
    simp only [Option.bind_some]
    rw [if_pos trivial]
    obtain ⟨k, rfl⟩ : ∃ m, k = m + 1 := ⟨k - 1, by omega⟩
    simp only [laws_FnExactLastSeen.j0]
    rw [if_neg (by simp), toLog_eq p s c (by omega) (by omega) k (by omega)]
    simp only [Option.bind_some]
    rw [eqLog_eq p s c p s c (by omega) (by omega) k (by omega)]
    simp

end Go.Proofs.Ytgepgmmahapebaa.PureFnExactLastSeen
namespace Go.Proofs.Ytgepgmmahapebaa.Pure
theorem FnExactLastSeen : Go.Proofs.Ytgepgmmahapebaa.P.laws_FnExactLastSeen.Pure := Go.Proofs.Ytgepgmmahapebaa.PureFnExactLastSeen.main
end Go.Proofs.Ytgepgmmahapebaa.Pure
