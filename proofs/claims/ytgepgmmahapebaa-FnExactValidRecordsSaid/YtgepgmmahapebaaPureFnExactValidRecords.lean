/- For every numbers of people and stations and every list of records the program's ValidRecords answers as the reference's and leaves the records as they were; no condition. -/
import Derived.Test.YtgepgmmahapebaaP4
import Derived.Laws.BitsLemmas
namespace Go.Proofs.Ytgepgmmahapebaa.PureFnExactValidRecords
open Go.RowKit Go.Proofs.Ytgepgmmahapebaa.P Go.Proofs.YtgepgmmahapebaaW.PrintWords Go.Proofs.YtgepgmmahapebaaW.PrintLast
set_option linter.unusedSimpArgs false
set_option linter.unusedVariables false

theorem wrap64_id (x : Int) (h0 : -9223372036854775808 ≤ x) (h1 : x ≤ 9223372036854775807) : wrap64 x = x := by unfold wrap64; omega
theorem wrap_nat (n : Nat) (h : n < 4611686018427387904) : wrap64 ((n : Int) + 1) = ((n + 1 : Nat) : Int) := by
  rw [wrap64_id _ (by omega) (by omega)]; omega
theorem rd_nat (l : List Int) (i : Nat) : rd l (i : Int) = l.getD i 0 := by simp [rd]
theorem drop_rd (l : List Int) (i : Nat) (h : i < l.length) : l.drop i = rd l (i : Int) :: l.drop (i + 1) := by
  rw [List.drop_eq_getElem_cons h, rd_nat, List.getD_eq_getElem?_getD, List.getElem?_eq_getElem h]; rfl
theorem drop_getD {α : Type} (z : α) (l : List α) (i : Nat) (h : i < l.length) : l.drop i = l.getD i z :: l.drop (i + 1) := by
  rw [List.drop_eq_getElem_cons h, List.getD_eq_getElem?_getD, List.getElem?_eq_getElem h]; rfl
theorem take_getD {α : Type} (z : α) (l : List α) (i : Nat) (h : i < l.length) : l.take (i + 1) = l.take i ++ [l.getD i z] := by
  rw [List.take_succ_eq_append_getElem h, List.getD_eq_getElem?_getD, List.getElem?_eq_getElem h]; rfl
theorem set_rep {α : Type} (a : List α) (i d : Nat) (z v : α) (h : a.length = i) : (a ++ List.replicate (d + 1) z).set i v = (a ++ [v]) ++ List.replicate d z := by
  subst h
  rw [List.set_append_right _ _ (Nat.le_refl _), Nat.sub_self, List.replicate_succ, List.set_cons_zero]
  simp
theorem set_drop {α : Type} (a g : List α) (i : Nat) (v : α) (h : a.length = i) (hg : i < g.length) : (a ++ g.drop i).set i v = (a ++ [v]) ++ g.drop (i + 1) := by
  subst h
  rw [List.set_append_right _ _ (Nat.le_refl _), Nat.sub_self, List.drop_eq_getElem_cons hg, List.set_cons_zero]
  simp
theorem getD_range_map {α : Type} (z : α) (f : Nat → α) (n i : Nat) (h : i < n) : ((List.range n).map f).getD i z = f i := by
  rw [List.getD_eq_getElem?_getD, List.getElem?_map, List.getElem?_range h]; rfl
theorem rounds_of (B : Nat) {α : Type} {F : Nat → Option α} {v : α} (h : ∀ k, B ≤ k → F k = some v) : ∃ k, F k = some v := ⟨B, h B (Nat.le_refl _)⟩

theorem wrap_u16 (n : Int) : IntKind.u16.wrap n = n % 65536 := by simp [IntKind.wrap, IntKind.bits, IntKind.signed]
theorem wrap_u64 (n : Int) : IntKind.u64.wrap n = n % 18446744073709551616 := by simp [IntKind.wrap, IntKind.bits, IntKind.signed]
theorem wraps_u16 (n : Int) (h₀ : 0 ≤ n) (h₁ : n < 2 ^ 16) : IntKind.u16.wrap n = n := by rw [wrap_u16]; omega
theorem wrap_u64_id (n : Int) (h0 : 0 ≤ n) (h1 : n < 18446744073709551616) : IntKind.u64.wrap n = n := by rw [wrap_u64]; omega
theorem and_one (x : Int) (h₀ : 0 ≤ x) (h₁ : x < 65536) : Go.bits .and .u16 x 1 = x % 2 := by
  have := Go.bits_mask .u16 16 (by decide) wraps_u16 1 (by decide) x h₀ (by omega)
  simpa using this
theorem wf_u16 {a : Int} (h : (Lit.int .u16 a).wf = true) : 0 ≤ a ∧ a < 65536 := by
  simp [Lit.wf, IntKind.min, IntKind.max, IntKind.bits, IntKind.signed] at h
  omega
theorem wf_i64 {a : Int} (h : (Lit.int .i64 a).wf = true) : -9223372036854775808 ≤ a ∧ a ≤ 9223372036854775807 := by
  simp [Lit.wf, IntKind.min, IntKind.max, IntKind.bits, IntKind.signed] at h
  omega
theorem wf_i16 {a : Int} (h : (Lit.int .i16 a).wf = true) : -32768 ≤ a ∧ a ≤ 32767 := by
  simp [Lit.wf, IntKind.min, IntKind.max, IntKind.bits, IntKind.signed] at h
  omega
theorem wf_i8 {a : Int} (h : (Lit.int .i8 a).wf = true) : -128 ≤ a ∧ a ≤ 127 := by
  simp [Lit.wf, IntKind.min, IntKind.max, IntKind.bits, IntKind.signed] at h
  omega
theorem wf_u8 {a : Int} (h : (Lit.int .u8 a).wf = true) : 0 ≤ a ∧ a ≤ 255 := by
  simp [Lit.wf, IntKind.min, IntKind.max, IntKind.bits, IntKind.signed] at h
  omega
theorem shr_range (a n : Int) (h0 : 0 ≤ a) (h1 : a < 65536) : 0 ≤ shr .u16 a n ∧ shr .u16 a n < 65536 := by
  unfold shr
  have hp : (0 : Int) < 2 ^ min n.toNat IntKind.u16.bits := Int.pow_pos (by decide)
  constructor
  · exact Int.ediv_nonneg h0 (Int.le_of_lt hp)
  · exact Int.lt_of_le_of_lt (Int.ediv_le_self _ h0) h1

theorem in_eq (a b c : Int) : spec_l00In.f a b c = some (decide (b ≤ a ∧ a ≤ c)) := by
  unfold spec_l00In.f
  by_cases h : b ≤ a
  · rw [if_pos (by omega)]; simp [h]
  · rw [if_neg (by omega)]; simp [h]
theorem within_eq (a b c : Int) : impl_within.f a b c = some (decide (b ≤ a ∧ a ≤ c)) := by
  unfold impl_within.f
  by_cases h : b ≤ a
  · rw [if_pos (by omega)]; simp [h]
  · rw [if_neg (by omega)]; simp [h]
def isP (i : Int) : Bool := decide (0 ≤ i ∧ i ≤ 13)
theorem isP_iff (i : Int) : isP i = true ↔ 0 ≤ i ∧ i ≤ 13 := by simp [isP]
theorem l05Person_eq (i : Int) : spec_l05Person.f i = some (isP i) := by
  unfold spec_l05Person.f
  rw [in_eq]; rfl
theorem isPerson_eq (i : Int) : impl_isPerson.f i = some (isP i) := by
  unfold impl_isPerson.f
  rw [within_eq]; rfl
/-- Is number i in the set p? -/
def hasB (p i : Int) : Bool := shr .u16 p i % 2 == 1
theorem l05Has_eq (p i : Int) (h0 : 0 ≤ p) (h1 : p < 65536) (hi : 0 ≤ i) (hi2 : i < 18446744073709551616) : spec_l05Has.f p i = some (hasB p i) := by
  unfold spec_l05Has.f
  rw [wrap_u64_id i hi hi2, if_pos hi, Int.tmod_eq_emod_of_nonneg (shr_range p i h0 h1).1]
  rfl
def hasP (p i : Int) : Bool := isP i && hasB p i
theorem specHas_eq (p i : Int) (h0 : 0 ≤ p) (h1 : p < 65536) : spec_HasPerson.f p i = some (hasP p i) := by
  unfold spec_HasPerson.f
  rw [l05Person_eq, Option.bind_some]
  by_cases h : isP i = true
  · have := (isP_iff i).1 h
    rw [if_pos h, l05Has_eq p i h0 h1 (by omega) (by omega), Option.bind_some]
    simp [hasP, h]
  · rw [if_neg h]
    simp [hasP, h]
theorem implHas_eq (p i : Int) (h0 : 0 ≤ p) (h1 : p < 65536) : impl_HasPerson.f p i = some (hasP p i) := by
  unfold impl_HasPerson.f
  rw [isPerson_eq, Option.bind_some]
  by_cases h : isP i = true
  · have := (isP_iff i).1 h
    rw [if_pos h, if_pos (by omega), and_one _ (shr_range p i h0 h1).1 (shr_range p i h0 h1).2]
    simp [hasP, h, hasB]
  · rw [if_neg h]
    simp [hasP, h]

def recOk (p t : Int) (r : S75) : Bool :=
  decide (0 ≤ wrap64 r.f0 ∧ wrap64 r.f0 ≤ wrap64 (p - 1)) && decide (0 ≤ wrap64 r.f1 ∧ wrap64 r.f1 ≤ wrap64 (t - 1)) && decide (0 ≤ wrap64 r.f2 ∧ wrap64 r.f2 ≤ 10000)
def recsOk (p t : Int) (l : List S75) : Bool :=
  l.all (recOk p t) && decide (1 ≤ p ∧ p ≤ 14) && decide (1 ≤ t ∧ t ≤ 12) && decide ((l.length : Int) ≤ 80)
theorem drop_rec (l : List S75) (i : Nat) (h : i < l.length) : l.drop i = rd_T75 l (i : Int) :: l.drop (i + 1) := by
  rw [drop_getD z75 l i h]; simp [rd_T75]
theorem l05Records_l0 (p t : Int) (l : List S75) (hl : l.length ≤ 1048576) : ∀ (d i k : Nat), i + d = l.length → d < k → spec_l05Records.l0 k p t l (i : Int) = some ((l.drop i).all (recOk p t) && decide (1 ≤ p ∧ p ≤ 14) && decide (1 ≤ t ∧ t ≤ 12) && decide ((l.length : Int) ≤ 80)) := by
  intro d
  induction d with
  | zero =>
    intro i k hi hk
    obtain ⟨k, rfl⟩ : ∃ m, k = m + 1 := ⟨k - 1, by omega⟩
    simp only [spec_l05Records.l0]
    rw [if_neg (by omega), List.drop_eq_nil_of_le (by omega), in_eq, in_eq]
    by_cases h1 : 1 ≤ p ∧ p ≤ 14 <;> by_cases h2 : 1 ≤ t ∧ t ≤ 12 <;> simp [h1, h2]
  | succ d ih =>
    intro i k hi hk
    obtain ⟨k, rfl⟩ : ∃ m, k = m + 1 := ⟨k - 1, by omega⟩
    simp only [spec_l05Records.l0]
    rw [if_pos (by omega), if_pos (by omega), in_eq, in_eq, in_eq, drop_rec l i (by omega), wrap_nat i (by omega), ih (i + 1) k (by omega) (by omega)]
    simp only [Option.bind_some, List.all_cons, recOk]
    generalize rd_T75 l (i : Int) = r
    by_cases h1 : 0 ≤ wrap64 r.f0 ∧ wrap64 r.f0 ≤ wrap64 (p - 1) <;> by_cases h2 : 0 ≤ wrap64 r.f1 ∧ wrap64 r.f1 ≤ wrap64 (t - 1) <;> by_cases h3 : 0 ≤ wrap64 r.f2 ∧ wrap64 r.f2 ≤ 10000 <;> simp [h1, h2, h3]
theorem l05Records_eq (p t : Int) (l : List S75) (hl : l.length ≤ 1048576) (k : Nat) (hk : 1048576 < k) : spec_l05Records.f k p t l = some (recsOk p t l) := by
  unfold spec_l05Records.f
  have := l05Records_l0 p t l hl l.length 0 k (by omega) (by omega)
  rw [show ((0 : Nat) : Int) = 0 from rfl, List.drop_zero] at this
  exact this
theorem recFind_l0 (p t : Int) (l : List S75) (hl : l.length ≤ 1048576) : ∀ (d i k : Nat), i + d = l.length → d < k → ∃ r : Int, slices_IndexFunc_Record_at_ValidRecords_1.l0 k l (l.length : Int) (i : Int) p t = some r ∧ decide (r ≥ 0) = !(l.drop i).all (recOk p t) := by
  intro d
  induction d with
  | zero =>
    intro i k hi hk
    obtain ⟨k, rfl⟩ : ∃ m, k = m + 1 := ⟨k - 1, by omega⟩
    refine ⟨-1, ?_, ?_⟩
    · simp only [slices_IndexFunc_Record_at_ValidRecords_1.l0]
      rw [if_neg (by omega)]
    · rw [List.drop_eq_nil_of_le (by omega)]; simp
  | succ d ih =>
    intro i k hi hk
    obtain ⟨k, rfl⟩ : ∃ m, k = m + 1 := ⟨k - 1, by omega⟩
    have hv : ∀ r : S75, impl_ValidRecords_1.f r.f0 r.f1 r.f2 p t = some (!recOk p t r) := by
      intro r
      unfold impl_ValidRecords_1.f recOk
      simp only [within_eq, Option.bind_some]
      by_cases h1 : 0 ≤ wrap64 r.f0 ∧ wrap64 r.f0 ≤ wrap64 (p - 1) <;> by_cases h2 : 0 ≤ wrap64 r.f1 ∧ wrap64 r.f1 ≤ wrap64 (t - 1) <;> by_cases h3 : 0 ≤ wrap64 r.f2 ∧ wrap64 r.f2 ≤ 10000 <;> simp [h1, h2, h3]
    simp only [slices_IndexFunc_Record_at_ValidRecords_1.l0]
    rw [if_pos (by omega), if_pos (by omega), if_pos (by omega), hv, Option.bind_some, drop_rec l i (by omega), wrap_nat i (by omega)]
    by_cases h : recOk p t (rd_T75 l (i : Int)) = true
    · obtain ⟨r, h1, h2⟩ := ih (i + 1) k (by omega) (by omega)
      refine ⟨r, by rw [if_neg (by simp [h])]; exact h1, ?_⟩
      rw [h2]; simp [h]
    · refine ⟨(i : Int), by rw [if_pos (by simpa using h)], ?_⟩
      simp only [List.all_cons, Bool.eq_false_iff.2 h, Bool.false_and, Bool.not_false]
      exact decide_eq_true (by omega)
theorem implRecords_eq (p t : Int) (l : List S75) (hl : l.length ≤ 1048576) (k : Nat) (hk : 1048576 < k) : impl_ValidRecords.f k p t l = some (recsOk p t l) := by
  unfold impl_ValidRecords.f slices_ContainsFunc_Record_at_ValidRecords_1.f slices_IndexFunc_Record_at_ValidRecords_1.f
  obtain ⟨r, h1, h2⟩ := recFind_l0 p t l hl l.length 0 k (by omega) (by omega)
  rw [show ((0 : Nat) : Int) = 0 from rfl] at h1
  rw [List.drop_zero] at h2
  simp only [within_eq, Option.bind_some, h1, h2, recsOk]
  by_cases g1 : 1 ≤ p ∧ p ≤ 14 <;> by_cases g2 : 1 ≤ t ∧ t ≤ 12 <;> by_cases g3 : (l.length : Int) > 80
  all_goals first
    | (have g4 : ¬ (l.length : Int) ≤ 80 := by omega
       simp [g1, g2, g3, g4])
    | (have g4 : (l.length : Int) ≤ 80 := by omega
       simp [g1, g2, g3, g4])
    | simp [g1, g2, g3]

theorem szRecordS_eq (l : List S77) (a : Int) (h0 : 0 ≤ a) (h1 : a ≤ 1048576) (hl : l.length ≤ 9223372036854775807) : laws_szRecordS.f l a = some (if a < l.length then -1 else a - l.length) := by
  unfold laws_szRecordS.f
  rw [wrap64_id _ (by omega) (by omega)]
  by_cases h : a < (l.length : Int)
  · rw [if_pos (by omega), if_pos h]
  · rw [if_neg (by omega), if_neg h]

def cvRecord (x : S77) : S75 := ⟨x.f0, x.f1, x.f2⟩
theorem toRecordS_l0 (l : List S77) (hl : l.length ≤ 1048576) : ∀ (d i k : Nat), i + d = l.length → d < k → laws_toRecordS.l0 k l ((l.map cvRecord).take i ++ List.replicate d z75) (i : Int) = some (l.map cvRecord) := by
  intro d
  induction d with
  | zero =>
    intro i k hi hk
    obtain ⟨k, rfl⟩ : ∃ m, k = m + 1 := ⟨k - 1, by omega⟩
    simp only [laws_toRecordS.l0]
    rw [if_neg (by omega), List.take_of_length_le (by simp; omega)]
    simp
  | succ d ih =>
    intro i k hi hk
    obtain ⟨k, rfl⟩ : ∃ m, k = m + 1 := ⟨k - 1, by omega⟩
    have hlen : (((l.map cvRecord).take i ++ List.replicate (d + 1) z75).length : Int) = l.length := by simp; omega
    have hg : (l.map cvRecord).getD i z75 = cvRecord (rd_T77 l (i : Int)) := by
      simp [rd_T77, List.getD_eq_getElem?_getD, List.getElem?_map, List.getElem?_eq_getElem (show i < l.length by omega)]
    have hstep := set_rep ((l.map cvRecord).take i) i d z75 (cvRecord (rd_T77 l (i : Int))) (by simp; omega)
    rw [← hg, ← take_getD z75 (l.map cvRecord) i (by simp; omega), hg] at hstep
    simp only [laws_toRecordS.l0, laws_toRecord.f, Option.bind_some]
    rw [if_pos (by omega), if_pos (by omega), if_pos (by rw [hlen]; omega), wrap_nat i (by omega), Int.toNat_natCast]
    exact (congrArg (fun o => laws_toRecordS.l0 k l o ((i + 1 : Nat) : Int)) hstep).trans (ih (i + 1) k (by omega) (by omega))
theorem toRecordS_eq (l : List S77) (hl : l.length ≤ 1048576) (k : Nat) (hk : l.length < k) : laws_toRecordS.f k l = some (l.map cvRecord) := by
  unfold laws_toRecordS.f
  rw [if_pos (by omega), if_pos (by omega)]
  have := toRecordS_l0 l hl l.length 0 k (by omega) hk
  simpa using this

instance decRecord : DecidableEq S75 := fun x y =>
  if h : x.f0 = y.f0 ∧ x.f1 = y.f1 ∧ x.f2 = y.f2 then isTrue (by obtain ⟨a, b, c⟩ := x; obtain ⟨a', b', c'⟩ := y; simp only at h; rw [h.1, h.2.1, h.2.2]) else isFalse (fun e => h (by rw [e]; exact ⟨rfl, rfl, rfl⟩))
theorem eqRecord_eq (x y : S75) : laws_eqRecord.f x.f0 x.f1 x.f2 y.f0 y.f1 y.f2 = some (decide (x = y)) := by
  obtain ⟨a, b, c⟩ := x
  obtain ⟨a', b', c'⟩ := y
  unfold laws_eqRecord.f
  by_cases h1 : a = a' <;> by_cases h2 : b = b' <;> by_cases h3 : c = c' <;> simp [h1, h2, h3]
theorem eqRecordS_l0 (a b : List S75) (hab : a.length = b.length) (hl : a.length ≤ 1048576) : ∀ (d i k : Nat), i + d = a.length → d < k → laws_eqRecordS.l0 k a b (i : Int) = some (decide (a.drop i = b.drop i)) := by
  intro d
  induction d with
  | zero =>
    intro i k hi hk
    obtain ⟨k, rfl⟩ : ∃ m, k = m + 1 := ⟨k - 1, by omega⟩
    simp only [laws_eqRecordS.l0]
    rw [if_neg (by omega), List.drop_eq_nil_of_le (by omega), List.drop_eq_nil_of_le (by omega)]
    simp
  | succ d ih =>
    intro i k hi hk
    obtain ⟨k, rfl⟩ : ∃ m, k = m + 1 := ⟨k - 1, by omega⟩
    have ha : a.drop i = rd_T75 a (i : Int) :: a.drop (i + 1) := by
      rw [drop_getD z75 a i (by omega)]; simp [rd_T75]
    have hb : b.drop i = rd_T75 b (i : Int) :: b.drop (i + 1) := by
      rw [drop_getD z75 b i (by omega)]; simp [rd_T75]
    simp only [laws_eqRecordS.l0]
    rw [if_pos (by omega), if_pos (by omega), if_pos (by omega), ha, hb]
    rw [eqRecord_eq (rd_T75 a (i : Int)) (rd_T75 b (i : Int))]
    simp only [Option.bind_some]
    by_cases e : rd_T75 a (i : Int) = rd_T75 b (i : Int)
    · rw [decide_eq_true e, if_pos rfl, wrap_nat i (by omega), ih (i + 1) k (by omega) (by omega)]
      simp [e]
    · rw [decide_eq_false e, if_neg (by decide)]
      simp [e]
theorem eqRecordS_eq (a b : List S75) (hl : a.length ≤ 1048576) (k : Nat) (hk : a.length < k) : laws_eqRecordS.f k a b = some (decide (a = b)) := by
  unfold laws_eqRecordS.f
  by_cases h : a.length = b.length
  · rw [if_pos (by omega)]
    have := eqRecordS_l0 a b h hl a.length 0 k (by omega) hk
    simpa using this
  · rw [if_neg (by omega)]
    have : a ≠ b := fun e => h (by rw [e])
    simp [this]

theorem main : laws_FnExactValidRecords.Pure := by
  intro p t l _ _ hl
  refine rounds_of 1048590 fun k hk => ?_
  unfold laws_FnExactValidRecords.f
  rw [szRecordS_eq l 1048576 (by decide) (by decide) hl.1, Option.bind_some]
  by_cases h : (1048576 : Int) < (l.length : Int)
  · rw [if_pos h, if_pos (by decide)]
  · have hm : (l.map cvRecord).length ≤ 1048576 := by rw [List.length_map]; omega
    rw [if_neg h, if_neg (by omega), toRecordS_eq l (by omega) k (by omega)]
    simp only [Option.bind_some]
    unfold spec_ValidRecords.f
    rw [l05Records_eq p t _ hm k (by omega), implRecords_eq p t _ hm k (by omega)]
    simp only [Option.bind_some]
    rw [if_neg (by simp), eqRecordS_eq _ _ hm k (by omega)]
    simp

end Go.Proofs.Ytgepgmmahapebaa.PureFnExactValidRecords
namespace Go.Proofs.Ytgepgmmahapebaa.Pure
theorem FnExactValidRecords : Go.Proofs.Ytgepgmmahapebaa.P.laws_FnExactValidRecords.Pure := Go.Proofs.Ytgepgmmahapebaa.PureFnExactValidRecords.main
end Go.Proofs.Ytgepgmmahapebaa.Pure
