/- For all numbers, every list of records and every time the program's BetweenAt returns the reference's list and code, in memory of its own, and leaves the records as they were; no condition. -/
import Derived.Test.YtelgmojnndbgmaaP12
import Derived.Laws.BitsLemmas
namespace Go.Proofs.Ytelgmojnndbgmaa.PureFnExactBetweenAt
open Go.RowKit Go.Proofs.Ytelgmojnndbgmaa.P Go.Proofs.YtelgmojnndbgmaaW.PrintWords Go.Proofs.YtelgmojnndbgmaaW.PrintLast
set_option linter.unusedSimpArgs false
set_option linter.unusedVariables false

theorem wrap64_id (x : Int) (h0 : -9223372036854775808 ≤ x) (h1 : x ≤ 9223372036854775807) : wrap64 x = x := by unfold wrap64; omega
theorem wrap_nat (n : Nat) (h : n < 4611686018427387904) : wrap64 ((n : Int) + 1) = ((n + 1 : Nat) : Int) := by
  rw [wrap64_id _ (by omega) (by omega)]; omega
theorem rd_nat (l : List Int) (i : Nat) : rd l (i : Int) = l.getD i 0 := by simp [rd]
theorem drop_getD {α : Type} (z : α) (l : List α) (i : Nat) (h : i < l.length) : l.drop i = l.getD i z :: l.drop (i + 1) := by
  rw [List.drop_eq_getElem_cons h, List.getD_eq_getElem?_getD, List.getElem?_eq_getElem h]; rfl
theorem take_getD {α : Type} (z : α) (l : List α) (i : Nat) (h : i < l.length) : l.take (i + 1) = l.take i ++ [l.getD i z] := by
  rw [List.take_succ_eq_append_getElem h, List.getD_eq_getElem?_getD, List.getElem?_eq_getElem h]; rfl
theorem set_rep {α : Type} (a : List α) (i d : Nat) (z v : α) (h : a.length = i) : (a ++ List.replicate (d + 1) z).set i v = (a ++ [v]) ++ List.replicate d z := by
  subst h
  rw [List.set_append_right _ _ (Nat.le_refl _), Nat.sub_self, List.replicate_succ, List.set_cons_zero]
  simp
theorem set_drop {α : Type} (a g : List α) (i : Nat) (v : α) (h : a.length = i) (hg : i < g.length) : (a ++ g.drop i).set i v = (a ++ [v]) ++ g.drop (i + 1) := by
  subst h
  rw [List.set_append_right _ _ (Nat.le_refl _), Nat.sub_self, List.drop_eq_getElem_cons hg, List.set_cons_zero]
  simp
theorem getD_range_map {α : Type} (z : α) (f : Nat → α) (n i : Nat) (h : i < n) : ((List.range n).map f).getD i z = f i := by
  rw [List.getD_eq_getElem?_getD, List.getElem?_map, List.getElem?_range h]; rfl
theorem rounds_of (B : Nat) {α : Type} {F : Nat → Option α} {v : α} (h : ∀ k, B ≤ k → F k = some v) : ∃ k, F k = some v := ⟨B, h B (Nat.le_refl _)⟩

theorem wf_i16 {a : Int} (h : (Lit.int .i16 a).wf = true) : -32768 ≤ a ∧ a ≤ 32767 := by
  simp [Lit.wf, IntKind.min, IntKind.max, IntKind.bits, IntKind.signed] at h
  omega
theorem wf_i8 {a : Int} (h : (Lit.int .i8 a).wf = true) : -128 ≤ a ∧ a ≤ 127 := by
  simp [Lit.wf, IntKind.min, IntKind.max, IntKind.bits, IntKind.signed] at h
  omega
theorem in_eq (a b c : Int) : spec_l00In.f a b c = some (decide (b ≤ a ∧ a ≤ c)) := by
  unfold spec_l00In.f
  by_cases h : b ≤ a
  · rw [if_pos (by omega)]; simp [h]
  · rw [if_neg (by omega)]; simp [h]
theorem within_eq (a b c : Int) : impl_within.f a b c = some (decide (b ≤ a ∧ a ≤ c)) := by
  unfold impl_within.f
  by_cases h : b ≤ a
  · rw [if_pos (by omega)]; simp [h]
  · rw [if_neg (by omega)]; simp [h]
def recOk (p t : Int) (r : S120) : Bool :=
  decide (0 ≤ wrap64 r.f0 ∧ wrap64 r.f0 ≤ wrap64 (p - 1)) && decide (0 ≤ wrap64 r.f1 ∧ wrap64 r.f1 ≤ wrap64 (t - 1)) && decide (0 ≤ wrap64 r.f2 ∧ wrap64 r.f2 ≤ 10000)
def recsOk (p t : Int) (l : List S120) : Bool :=
  l.all (recOk p t) && decide (1 ≤ p ∧ p ≤ 14) && decide (1 ≤ t ∧ t ≤ 12) && decide ((l.length : Int) ≤ 80)
theorem drop_rec (l : List S120) (i : Nat) (h : i < l.length) : l.drop i = rd_T120 l (i : Int) :: l.drop (i + 1) := by
  rw [drop_getD z120 l i h]; simp [rd_T120]
theorem l05Records_l0 (p t : Int) (l : List S120) (hl : l.length ≤ 1048576) : ∀ (d i k : Nat), i + d = l.length → d < k → spec_l05Records.l0 k p t l (i : Int) = some ((l.drop i).all (recOk p t) && decide (1 ≤ p ∧ p ≤ 14) && decide (1 ≤ t ∧ t ≤ 12) && decide ((l.length : Int) ≤ 80)) := by
  intro d
  induction d with
  | zero =>
    intro i k hi hk
    obtain ⟨k, rfl⟩ : ∃ m, k = m + 1 := ⟨k - 1, by omega⟩
    simp only [spec_l05Records.l0]
    rw [if_neg (by omega), List.drop_eq_nil_of_le (by omega), in_eq, in_eq]
    by_cases h1 : 1 ≤ p ∧ p ≤ 14 <;> by_cases h2 : 1 ≤ t ∧ t ≤ 12 <;> simp [h1, h2]
  | succ d ih =>
    intro i k hi hk
    obtain ⟨k, rfl⟩ : ∃ m, k = m + 1 := ⟨k - 1, by omega⟩
    simp only [spec_l05Records.l0]
    rw [if_pos (by omega), if_pos (by omega), in_eq, in_eq, in_eq, drop_rec l i (by omega), wrap_nat i (by omega), ih (i + 1) k (by omega) (by omega)]
    simp only [Option.bind_some, List.all_cons, recOk]
    generalize rd_T120 l (i : Int) = r
    by_cases h1 : 0 ≤ wrap64 r.f0 ∧ wrap64 r.f0 ≤ wrap64 (p - 1) <;> by_cases h2 : 0 ≤ wrap64 r.f1 ∧ wrap64 r.f1 ≤ wrap64 (t - 1) <;> by_cases h3 : 0 ≤ wrap64 r.f2 ∧ wrap64 r.f2 ≤ 10000 <;> simp [h1, h2, h3]
theorem l05Records_eq (p t : Int) (l : List S120) (hl : l.length ≤ 1048576) (k : Nat) (hk : 1048576 < k) : spec_l05Records.f k p t l = some (recsOk p t l) := by
  unfold spec_l05Records.f
  have := l05Records_l0 p t l hl l.length 0 k (by omega) (by omega)
  rw [show ((0 : Nat) : Int) = 0 from rfl, List.drop_zero] at this
  exact this
theorem recFind_l0 (p t : Int) (l : List S120) (hl : l.length ≤ 1048576) : ∀ (d i k : Nat), i + d = l.length → d < k → ∃ r : Int, slices_IndexFunc_Record_at_ValidRecords_1.l0 k l (l.length : Int) (i : Int) p t = some r ∧ decide (r ≥ 0) = !(l.drop i).all (recOk p t) := by
  intro d
  induction d with
  | zero =>
    intro i k hi hk
    obtain ⟨k, rfl⟩ : ∃ m, k = m + 1 := ⟨k - 1, by omega⟩
    refine ⟨-1, ?_, ?_⟩
    · simp only [slices_IndexFunc_Record_at_ValidRecords_1.l0]
      rw [if_neg (by omega)]
    · rw [List.drop_eq_nil_of_le (by omega)]; simp
  | succ d ih =>
    intro i k hi hk
    obtain ⟨k, rfl⟩ : ∃ m, k = m + 1 := ⟨k - 1, by omega⟩
    have hv : ∀ r : S120, impl_ValidRecords_1.f r.f0 r.f1 r.f2 p t = some (!recOk p t r) := by
      intro r
      unfold impl_ValidRecords_1.f recOk
      simp only [within_eq, Option.bind_some]
      by_cases h1 : 0 ≤ wrap64 r.f0 ∧ wrap64 r.f0 ≤ wrap64 (p - 1) <;> by_cases h2 : 0 ≤ wrap64 r.f1 ∧ wrap64 r.f1 ≤ wrap64 (t - 1) <;> by_cases h3 : 0 ≤ wrap64 r.f2 ∧ wrap64 r.f2 ≤ 10000 <;> simp [h1, h2, h3]
    simp only [slices_IndexFunc_Record_at_ValidRecords_1.l0]
    rw [if_pos (by omega), if_pos (by omega), if_pos (by omega), hv, Option.bind_some, drop_rec l i (by omega), wrap_nat i (by omega)]
    by_cases h : recOk p t (rd_T120 l (i : Int)) = true
    · obtain ⟨r, h1, h2⟩ := ih (i + 1) k (by omega) (by omega)
      refine ⟨r, by rw [if_neg (by simp [h])]; exact h1, ?_⟩
      rw [h2]; simp [h]
    · refine ⟨(i : Int), by rw [if_pos (by simpa using h)], ?_⟩
      simp only [List.all_cons, Bool.eq_false_iff.2 h, Bool.false_and, Bool.not_false]
      exact decide_eq_true (by omega)
theorem implRecords_eq (p t : Int) (l : List S120) (hl : l.length ≤ 1048576) (k : Nat) (hk : 1048576 < k) : impl_ValidRecords.f k p t l = some (recsOk p t l) := by
  unfold impl_ValidRecords.f slices_ContainsFunc_Record_at_ValidRecords_1.f slices_IndexFunc_Record_at_ValidRecords_1.f
  obtain ⟨r, h1, h2⟩ := recFind_l0 p t l hl l.length 0 k (by omega) (by omega)
  rw [show ((0 : Nat) : Int) = 0 from rfl] at h1
  rw [List.drop_zero] at h2
  simp only [within_eq, Option.bind_some, h1, h2, recsOk]
  by_cases g1 : 1 ≤ p ∧ p ≤ 14 <;> by_cases g2 : 1 ≤ t ∧ t ≤ 12 <;> by_cases g3 : (l.length : Int) > 80
  all_goals first
    | (have g4 : ¬ (l.length : Int) ≤ 80 := by omega
       simp [g1, g2, g3, g4])
    | (have g4 : (l.length : Int) ≤ 80 := by omega
       simp [g1, g2, g3, g4])
    | simp [g1, g2, g3]

def cvRecord (x : S123) : S120 := ⟨x.f0, x.f1, x.f2⟩
theorem toRecordS_l0 (l : List S123) (hl : l.length ≤ 1048576) : ∀ (d i k : Nat), i + d = l.length → d < k → laws_toRecordS.l0 k l ((l.map cvRecord).take i ++ List.replicate d z120) (i : Int) = some (l.map cvRecord) := by
  intro d
  induction d with
  | zero =>
    intro i k hi hk
    obtain ⟨k, rfl⟩ : ∃ m, k = m + 1 := ⟨k - 1, by omega⟩
    simp only [laws_toRecordS.l0]
    rw [if_neg (by omega), List.take_of_length_le (by simp; omega)]
    simp
  | succ d ih =>
    intro i k hi hk
    obtain ⟨k, rfl⟩ : ∃ m, k = m + 1 := ⟨k - 1, by omega⟩
    have hlen : (((l.map cvRecord).take i ++ List.replicate (d + 1) z120).length : Int) = l.length := by simp; omega
    have hg : (l.map cvRecord).getD i z120 = cvRecord (rd_T123 l (i : Int)) := by
      simp [rd_T123, List.getD_eq_getElem?_getD, List.getElem?_map, List.getElem?_eq_getElem (show i < l.length by omega)]
    have hstep := set_rep ((l.map cvRecord).take i) i d z120 (cvRecord (rd_T123 l (i : Int))) (by simp; omega)
    rw [← hg, ← take_getD z120 (l.map cvRecord) i (by simp; omega), hg] at hstep
    simp only [laws_toRecordS.l0, laws_toRecord.f, Option.bind_some]
    rw [if_pos (by omega), if_pos (by omega), if_pos (by rw [hlen]; omega), wrap_nat i (by omega), Int.toNat_natCast]
    exact (congrArg (fun o => laws_toRecordS.l0 k l o ((i + 1 : Nat) : Int)) hstep).trans (ih (i + 1) k (by omega) (by omega))
theorem toRecordS_eq (l : List S123) (hl : l.length ≤ 1048576) (k : Nat) (hk : l.length < k) : laws_toRecordS.f k l = some (l.map cvRecord) := by
  unfold laws_toRecordS.f
  rw [if_pos (by omega), if_pos (by omega)]
  have := toRecordS_l0 l hl l.length 0 k (by omega) hk
  simpa using this

def good (p t : Int) (m : List S120) : Prop := (∀ r ∈ m, (0 ≤ r.f0 ∧ r.f0 ≤ p - 1) ∧ (0 ≤ r.f1 ∧ r.f1 ≤ t - 1) ∧ (0 ≤ r.f2 ∧ r.f2 ≤ 10000)) ∧ (1 ≤ p ∧ p ≤ 14) ∧ (1 ≤ t ∧ t ≤ 12) ∧ m.length ≤ 80
theorem good_of (p t : Int) (m : List S120) (hb : ∀ r ∈ m, (-128 ≤ r.f0 ∧ r.f0 ≤ 127) ∧ (-128 ≤ r.f1 ∧ r.f1 ≤ 127) ∧ (-32768 ≤ r.f2 ∧ r.f2 ≤ 32767)) (h : recsOk p t m = true) : good p t m := by
  unfold recsOk at h
  simp only [Bool.and_eq_true, decide_eq_true_eq] at h
  obtain ⟨⟨⟨h1, h2⟩, h3⟩, h4⟩ := h
  refine ⟨fun r hr => ?_, h2, h3, by omega⟩
  have g := List.all_eq_true.1 h1 r hr
  have b := hb r hr
  unfold recOk at g
  simp only [Bool.and_eq_true, decide_eq_true_eq] at g
  rw [wrap64_id r.f0 (by omega) (by omega), wrap64_id r.f1 (by omega) (by omega), wrap64_id r.f2 (by omega) (by omega), wrap64_id (p - 1) (by omega) (by omega), wrap64_id (t - 1) (by omega) (by omega)] at g
  exact ⟨g.1.1, g.1.2, g.2⟩
theorem mem_rdr (s : List S120) (i : Nat) (h : i < s.length) : rd_T120 s (i : Int) ∈ s := by
  have h2 : rd_T120 s (i : Int) = s.getD i z120 := by simp [rd_T120]
  rw [h2, List.getD_eq_getElem?_getD, List.getElem?_eq_getElem h]
  exact List.getElem_mem _
theorem cv_bounds (l : List S123) (hw : ∀ x ∈ l, ((Lit.int .i8 x.f0).wf = true) ∧ ((Lit.int .i8 x.f1).wf = true) ∧ ((Lit.int .i16 x.f2).wf = true)) : ∀ r ∈ l.map cvRecord, (-128 ≤ r.f0 ∧ r.f0 ≤ 127) ∧ (-128 ≤ r.f1 ∧ r.f1 ≤ 127) ∧ (-32768 ≤ r.f2 ∧ r.f2 ≤ 32767) := by
  intro r hr
  obtain ⟨x, hx, rfl⟩ := List.mem_map.1 hr
  obtain ⟨h0, h1, h2⟩ := hw x hx
  exact ⟨wf_i8 h0, wf_i8 h1, wf_i16 h2⟩
theorem markRec_pos (m : List S120) (hl : m.length ≤ 1048576) : ∀ (d i k : Nat) (x : List S120) (a : Int), x.length = m.length → i + d = m.length → d < k → 0 ≤ a → a ≤ 1 + 3 * (i : Int) → ∃ v, laws_markRecordS.l0 k x a (i : Int) = some v ∧ 0 ≤ v.1 := by
  intro d
  induction d with
  | zero =>
    intro i k x a hx hi hk ha _
    obtain ⟨k, rfl⟩ : ∃ m, k = m + 1 := ⟨k - 1, by omega⟩
    simp only [laws_markRecordS.l0]
    rw [if_neg (by omega)]
    exact ⟨_, rfl, ha⟩
  | succ d ih =>
    intro i k x a hx hi hk ha h3
    obtain ⟨k, rfl⟩ : ∃ m, k = m + 1 := ⟨k - 1, by omega⟩
    simp only [laws_markRecordS.l0, Option.bind_some]
    rw [if_pos (by omega), if_pos (by omega), wrap_nat i (by omega)]
    have w1 : wrap64 (a + 1) = a + 1 := wrap64_id _ (by omega) (by omega)
    have w2 : wrap64 (a + 1 + 1) = a + 1 + 1 := wrap64_id _ (by omega) (by omega)
    have w3 : wrap64 (a + 1 + 1 + 1) = a + 1 + 1 + 1 := wrap64_id _ (by omega) (by omega)
    rw [w1, w2, w3]
    exact ih (i + 1) k _ _ (by simp [hx]) (by omega) (by omega) (by omega) (by omega)
theorem markRec_eq (m : List S120) (hl : m.length ≤ 1048576) (k : Nat) (hk : m.length < k) : ∃ v, laws_markRecordS.f k m 1 = some v ∧ 0 ≤ v.1 := by
  unfold laws_markRecordS.f
  have := markRec_pos m hl m.length 0 k m 1 rfl (by omega) hk (by decide) (by omega)
  exact this

theorem szRecordS_eq (l : List S123) (a : Int) (h0 : 0 ≤ a) (h1 : a ≤ 1048576) (hl : l.length ≤ 9223372036854775807) : laws_szRecordS.f l a = some (if a < l.length then -1 else a - l.length) := by
  unfold laws_szRecordS.f
  rw [wrap64_id _ (by omega) (by omega)]
  by_cases h : a < (l.length : Int)
  · rw [if_pos (by omega), if_pos h]
  · rw [if_neg (by omega), if_neg h]

instance decRecord : DecidableEq S120 := fun x y =>
  if h : x.f0 = y.f0 ∧ x.f1 = y.f1 ∧ x.f2 = y.f2 then isTrue (by obtain ⟨a, b, c⟩ := x; obtain ⟨a', b', c'⟩ := y; simp only at h; rw [h.1, h.2.1, h.2.2]) else isFalse (fun e => h (by rw [e]; exact ⟨rfl, rfl, rfl⟩))
theorem eqRecord_eq (x y : S120) : laws_eqRecord.f x.f0 x.f1 x.f2 y.f0 y.f1 y.f2 = some (decide (x = y)) := by
  obtain ⟨a, b, c⟩ := x
  obtain ⟨a', b', c'⟩ := y
  unfold laws_eqRecord.f
  by_cases h1 : a = a' <;> by_cases h2 : b = b' <;> by_cases h3 : c = c' <;> simp [h1, h2, h3]
theorem eqRecordS_l0 (a b : List S120) (hab : a.length = b.length) (hl : a.length ≤ 1048576) : ∀ (d i k : Nat), i + d = a.length → d < k → laws_eqRecordS.l0 k a b (i : Int) = some (decide (a.drop i = b.drop i)) := by
  intro d
  induction d with
  | zero =>
    intro i k hi hk
    obtain ⟨k, rfl⟩ : ∃ m, k = m + 1 := ⟨k - 1, by omega⟩
    simp only [laws_eqRecordS.l0]
    rw [if_neg (by omega), List.drop_eq_nil_of_le (by omega), List.drop_eq_nil_of_le (by omega)]
    simp
  | succ d ih =>
    intro i k hi hk
    obtain ⟨k, rfl⟩ : ∃ m, k = m + 1 := ⟨k - 1, by omega⟩
    have ha : a.drop i = rd_T120 a (i : Int) :: a.drop (i + 1) := by
      rw [drop_getD z120 a i (by omega)]; simp [rd_T120]
    have hb : b.drop i = rd_T120 b (i : Int) :: b.drop (i + 1) := by
      rw [drop_getD z120 b i (by omega)]; simp [rd_T120]
    simp only [laws_eqRecordS.l0]
    rw [if_pos (by omega), if_pos (by omega), if_pos (by omega), ha, hb]
    rw [eqRecord_eq (rd_T120 a (i : Int)) (rd_T120 b (i : Int))]
    simp only [Option.bind_some]
    by_cases e : rd_T120 a (i : Int) = rd_T120 b (i : Int)
    · rw [decide_eq_true e, if_pos rfl, wrap_nat i (by omega), ih (i + 1) k (by omega) (by omega)]
      simp [e]
    · rw [decide_eq_false e, if_neg (by decide)]
      simp [e]
theorem eqRecordS_eq (a b : List S120) (hl : a.length ≤ 1048576) (k : Nat) (hk : a.length < k) : laws_eqRecordS.f k a b = some (decide (a = b)) := by
  unfold laws_eqRecordS.f
  by_cases h : a.length = b.length
  · rw [if_pos (by omega)]
    have := eqRecordS_l0 a b h hl a.length 0 k (by omega) hk
    simpa using this
  · rw [if_neg (by omega)]
    have : a ≠ b := fun e => h (by rw [e])
    simp [this]

theorem eqInt64S_l0 (a b : List Int) (hab : a.length = b.length) (hl : a.length ≤ 1048576) : ∀ (d i k : Nat), i + d = a.length → d < k → laws_eqInt64S.l0 k a b (i : Int) = some (decide (a.drop i = b.drop i)) := by
  intro d
  induction d with
  | zero =>
    intro i k hi hk
    obtain ⟨k, rfl⟩ : ∃ m, k = m + 1 := ⟨k - 1, by omega⟩
    simp only [laws_eqInt64S.l0]
    rw [if_neg (by omega), List.drop_eq_nil_of_le (by omega), List.drop_eq_nil_of_le (by omega)]
    simp
  | succ d ih =>
    intro i k hi hk
    obtain ⟨k, rfl⟩ : ∃ m, k = m + 1 := ⟨k - 1, by omega⟩
    have ha : a.drop i = rd a (i : Int) :: a.drop (i + 1) := by
      rw [drop_getD 0 a i (by omega)]; simp [rd]
    have hb : b.drop i = rd b (i : Int) :: b.drop (i + 1) := by
      rw [drop_getD 0 b i (by omega)]; simp [rd]
    simp only [laws_eqInt64S.l0]
    rw [if_pos (by omega), if_pos (by omega), if_pos (by omega), ha, hb]
    by_cases e : rd a (i : Int) = rd b (i : Int)
    · rw [if_pos e, wrap_nat i (by omega), ih (i + 1) k (by omega) (by omega)]
      simp [e]
    · rw [if_neg e]
      simp [e]
theorem eqInt64S_eq (a b : List Int) (hl : a.length ≤ 1048576) (k : Nat) (hk : a.length < k) : laws_eqInt64S.f k a b = some (decide (a = b)) := by
  unfold laws_eqInt64S.f
  by_cases h : a.length = b.length
  · rw [if_pos (by omega)]
    have := eqInt64S_l0 a b h hl a.length 0 k (by omega) hk
    simpa using this
  · rw [if_neg (by omega)]
    have : a ≠ b := fun e => h (by rw [e])
    simp [this]

def marks64 (m : Int) (n : Nat) : List Int := (List.range n).map (fun (j : Nat) => m + (j : Int))
theorem marks64_length (m : Int) (n : Nat) : (marks64 m n).length = n := by simp [marks64]
theorem markInt64S_l0 (m : Int) (h0 : 0 ≤ m) (h1 : m ≤ 4194304) (g : List Int) (hl : g.length ≤ 1048576) : ∀ (d i k : Nat), i + d = g.length → d < k → laws_markInt64S.l0 k ((marks64 m g.length).take i ++ g.drop i) (m + (i : Int)) (i : Int) = some (m + (g.length : Int), marks64 m g.length) := by
  intro d
  induction d with
  | zero =>
    intro i k hi hk
    obtain ⟨k, rfl⟩ : ∃ m, k = m + 1 := ⟨k - 1, by omega⟩
    obtain rfl : i = g.length := by omega
    simp only [laws_markInt64S.l0]
    rw [List.drop_eq_nil_of_le (Nat.le_refl _), List.take_of_length_le (by rw [marks64_length]; omega), List.append_nil, if_neg (by rw [marks64_length]; omega)]
  | succ d ih =>
    intro i k hi hk
    obtain ⟨k, rfl⟩ : ∃ m, k = m + 1 := ⟨k - 1, by omega⟩
    have hlen : (((marks64 m g.length).take i ++ g.drop i).length : Int) = g.length := by simp [marks64_length]; omega
    have hstep := set_drop ((marks64 m g.length).take i) g i (m + (i : Int)) (by simp [marks64_length]; omega) (by omega)
    have hg : (marks64 m g.length).getD i 0 = m + (i : Int) := getD_range_map 0 _ _ _ (by omega)
    rw [← hg, ← take_getD 0 (marks64 m g.length) i (by rw [marks64_length]; omega), hg] at hstep
    simp only [laws_markInt64S.l0]
    rw [if_pos (by rw [hlen]; omega), if_pos (by omega), wrap_nat i (by omega), Int.toNat_natCast, wrap64_id _ (by omega) (by omega), hstep]
    have := ih (i + 1) k (by omega) (by omega)
    rw [show m + ((i + 1 : Nat) : Int) = m + (i : Int) + 1 by omega] at this
    exact this
theorem markInt64S_eq (m : Int) (h0 : 0 ≤ m) (h1 : m ≤ 4194304) (g : List Int) (hl : g.length ≤ 1048576) (k : Nat) (hk : g.length < k) : laws_markInt64S.f k g m = some (m + (g.length : Int), marks64 m g.length) := by
  unfold laws_markInt64S.f
  have := markInt64S_l0 m h0 h1 g hl g.length 0 k (by omega) hk
  simpa using this
theorem heldInt64S_l0 (m : Int) (h0 : 0 ≤ m) (h1 : m ≤ 4194304) (n : Nat) (hl : n ≤ 1048576) : ∀ (d i k : Nat), i + d = n → d < k → laws_heldInt64S.l0 k (marks64 m n) (m + (i : Int)) (i : Int) = some (m + (n : Int)) := by
  intro d
  induction d with
  | zero =>
    intro i k hi hk
    obtain ⟨k, rfl⟩ : ∃ m, k = m + 1 := ⟨k - 1, by omega⟩
    obtain rfl : i = n := by omega
    simp only [laws_heldInt64S.l0]
    rw [if_neg (by rw [marks64_length]; omega)]
  | succ d ih =>
    intro i k hi hk
    obtain ⟨k, rfl⟩ : ∃ m, k = m + 1 := ⟨k - 1, by omega⟩
    have hg : rd (marks64 m n) (i : Int) = m + (i : Int) := by
      rw [rd_nat]; exact getD_range_map 0 _ _ _ (by omega)
    simp only [laws_heldInt64S.l0]
    rw [if_pos (by rw [marks64_length]; omega), if_pos (by omega), if_pos hg, wrap_nat i (by omega), wrap64_id _ (by omega) (by omega)]
    have := ih (i + 1) k (by omega) (by omega)
    rw [show m + ((i + 1 : Nat) : Int) = m + (i : Int) + 1 by omega] at this
    exact this
theorem heldInt64S_eq (m : Int) (h0 : 0 ≤ m) (h1 : m ≤ 4194304) (n : Nat) (hl : n ≤ 1048576) (k : Nat) (hk : n < k) : laws_heldInt64S.f k (marks64 m n) m = some (m + (n : Int)) := by
  unfold laws_heldInt64S.f
  have := heldInt64S_l0 m h0 h1 n hl n 0 k (by omega) hk
  simpa using this

def up1 (T y : Int) (b : Int) (r : S120) : Int := if r.f0 = y ∧ r.f2 ≤ T then mx b r.f1 else b
def bestF (T y : Int) (m : List S120) (b : Int) : Int := m.foldl (up1 T y) b
theorem max_eq (a b : Int) : spec_l00Max.f a b = some (mx a b) := by
  unfold spec_l00Max.f mx
  by_cases h : a > b
  · rw [if_pos h, if_neg (by omega)]
  · rw [if_neg h]
    by_cases e : a < b
    · rw [if_pos e]
    · rw [if_neg e]
      congr 1
      omega
theorem specB_l1 (n p t T x : Int) (m : List S120) (hg : good p t m) (xs : List Int) (hx : xs.length ≤ 1000) : ∀ (d i k : Nat) (b : Int), i + d = m.length → d < k → spec_BetweenAt.l1 k n m T xs x b (i : Int) = spec_BetweenAt.l0 (k - (d + 1)) n m T (xs ++ [bestF T x (m.drop i) b]) (wrap64 (x + 1)) := by
  intro d
  have hml := hg.2.2.2
  have hp := hg.2.1
  have ht := hg.2.2.1
  induction d with
  | zero =>
    intro i k b hi hk
    obtain ⟨k, rfl⟩ : ∃ m, k = m + 1 := ⟨k - 1, by omega⟩
    simp only [spec_BetweenAt.l1]
    rw [if_neg (by omega), if_pos (by omega), List.drop_eq_nil_of_le (by omega)]
    simp [bestF]
  | succ d ih =>
    intro i k b hi hk
    obtain ⟨k, rfl⟩ : ∃ m, k = m + 1 := ⟨k - 1, by omega⟩
    have hr := hg.1 _ (mem_rdr m i (by omega))
    simp only [spec_BetweenAt.l1]
    rw [if_pos (by omega), if_pos (by omega), wrap64_id (rd_T120 m (i : Int)).f0 (by omega) (by omega), wrap64_id (rd_T120 m (i : Int)).f2 (by omega) (by omega), wrap64_id (rd_T120 m (i : Int)).f1 (by omega) (by omega), max_eq, Option.bind_some, wrap_nat i (by omega), drop_rec m i (by omega)]
    have e : k + 1 - (d + 1 + 1) = k - (d + 1) := by omega
    unfold bestF
    rw [List.foldl_cons, e]
    by_cases c1 : (rd_T120 m (i : Int)).f0 = x
    · rw [if_pos c1]
      by_cases c2 : (rd_T120 m (i : Int)).f2 ≤ T
      · rw [if_pos c2, ih (i + 1) k _ (by omega) (by omega), show up1 T x b (rd_T120 m (i : Int)) = mx b (rd_T120 m (i : Int)).f1 by unfold up1; rw [if_pos ⟨c1, c2⟩]]
        rfl
      · rw [if_neg c2, ih (i + 1) k _ (by omega) (by omega), show up1 T x b (rd_T120 m (i : Int)) = b by unfold up1; rw [if_neg (fun h => c2 h.2)]]
        rfl
    · rw [if_neg c1, ih (i + 1) k _ (by omega) (by omega), show up1 T x b (rd_T120 m (i : Int)) = b by unfold up1; rw [if_neg (fun h => c1 h.1)]]
      rfl
theorem specB_l0 (n : Nat) (p t T : Int) (m : List S120) (hg : good p t m) (hn : n ≤ 14) : ∀ (d x k : Nat) (xs : List Int), x + d = n → d * 100 + 10 < k → xs.length = x → spec_BetweenAt.l0 k (n : Int) m T xs (x : Int) = some (xs ++ (List.range' x d).map (fun (y : Nat) => bestF T (y : Int) m (-1)), 0) := by
  intro d
  have hml := hg.2.2.2
  induction d with
  | zero =>
    intro x k xs hx hk hl
    obtain ⟨k, rfl⟩ : ∃ m, k = m + 1 := ⟨k - 1, by omega⟩
    simp only [spec_BetweenAt.l0]
    rw [if_neg (by omega)]
    simp
  | succ d ih =>
    intro x k xs hx hk hl
    obtain ⟨k, rfl⟩ : ∃ m, k = m + 1 := ⟨k - 1, by omega⟩
    have h := specB_l1 (n : Int) p t T (x : Int) m hg xs (by omega) m.length 0 k (-1) (by omega) (by omega)
    rw [show ((0 : Nat) : Int) = 0 from rfl, List.drop_zero] at h
    simp only [spec_BetweenAt.l0]
    rw [if_pos (by omega), h, wrap_nat x (by omega), ih (x + 1) _ _ (by omega) (by omega) (by simp [hl]), List.range'_succ]
    simp
theorem implB_l0 (n : Nat) (p t T : Int) (m : List S120) (hg : good p t m) (hn : (n : Int) = p) : ∀ (d i k : Nat) (c : List Int), i + d = m.length → d < k → c.length = n → impl_BetweenAt.l0 k T c m (m.length : Int) (i : Int) = some ((List.range n).map (fun (y : Nat) => bestF T (y : Int) (m.drop i) (c.getD y 0)), 0) := by
  intro d
  have hml := hg.2.2.2
  have hp := hg.2.1
  have ht := hg.2.2.1
  induction d with
  | zero =>
    intro i k c hi hk hl
    obtain ⟨k, rfl⟩ : ∃ m, k = m + 1 := ⟨k - 1, by omega⟩
    simp only [impl_BetweenAt.l0]
    rw [if_neg (by omega), List.drop_eq_nil_of_le (by omega)]
    congr 2
    apply List.ext_getElem?
    intro j
    rw [List.getElem?_map]
    by_cases hj : j < n
    · rw [List.getElem?_eq_getElem (by omega), List.getElem?_range hj, Option.map_some]
      show some c[j] = some (bestF T (j : Int) [] (c.getD j 0))
      rw [List.getD_eq_getElem?_getD, List.getElem?_eq_getElem (by omega)]
      rfl
    · rw [List.getElem?_eq_none (by omega), List.getElem?_eq_none (by simp; omega)]
      rfl
  | succ d ih =>
    intro i k c hi hk hl
    obtain ⟨k, rfl⟩ : ∃ m, k = m + 1 := ⟨k - 1, by omega⟩
    have hr := hg.1 _ (mem_rdr m i (by omega))
    simp only [impl_BetweenAt.l0]
    rw [if_pos (by omega), if_pos (by omega), if_pos (by omega), wrap64_id (rd_T120 m (i : Int)).f2 (by omega) (by omega), wrap64_id (rd_T120 m (i : Int)).f1 (by omega) (by omega), wrap_nat i (by omega), drop_rec m i (by omega)]
    generalize rd_T120 m (i : Int) = r at hr ⊢
    by_cases c2 : r.f2 ≤ T
    · rw [if_pos c2, if_pos (by omega), if_pos (by omega), ih (i + 1) k _ (by omega) (by omega) (by simp [hl])]
      congr 2
      apply List.map_congr_left
      intro y hy
      have hy' : y < n := List.mem_range.1 hy
      unfold bestF
      rw [List.foldl_cons]
      congr 1
      unfold up1
      by_cases c1 : r.f0 = (y : Int)
      · rw [if_pos ⟨c1, c2⟩, c1, Int.toNat_natCast, List.getD_eq_getElem?_getD, List.getElem?_set_self (by omega), rd_nat]
        rfl
      · rw [if_neg (fun h => c1 h.1), List.getD_eq_getElem?_getD, List.getElem?_set_ne (by omega), ← List.getD_eq_getElem?_getD]
    · rw [if_neg c2, ih (i + 1) k _ (by omega) (by omega) hl]
      congr 2
      apply List.map_congr_left
      intro y hy
      unfold bestF
      rw [List.foldl_cons]
      congr 1
      unfold up1
      rw [if_neg (fun h => c2 h.2)]
def fin (p t : Int) (m : List S120) (T : Int) : List Int × Int :=
  if recsOk p t m = true then (if 0 ≤ T ∧ T ≤ 10000 then ((List.range p.toNat).map (fun (y : Nat) => bestF T (y : Int) m (-1)), 0) else ([], 2)) else ([], 1)
theorem fin_len (p t : Int) (m : List S120) (T : Int) (hb : recsOk p t m = true → good p t m) : (fin p t m T).1.length ≤ 14 := by
  unfold fin
  by_cases c : recsOk p t m = true
  · have hg := hb c
    have hp := hg.2.1
    rw [if_pos c]
    by_cases c2 : 0 ≤ T ∧ T ≤ 10000
    · rw [if_pos c2]; simp; omega
    · rw [if_neg c2]; simp
  · rw [if_neg c]; simp
theorem spec_fin (p t : Int) (m : List S120) (T : Int) (hl : m.length ≤ 1048576) (hb : recsOk p t m = true → good p t m) (k : Nat) (hk : 1048700 ≤ k) : spec_BetweenAt.f k p t m T = some (fin p t m T) := by
  unfold spec_BetweenAt.f fin
  rw [l05Records_eq p t m hl k (by omega), Option.bind_some]
  by_cases c : recsOk p t m = true
  · have hg := hb c
    have hp := hg.2.1
    rw [if_pos c, if_pos c, in_eq, Option.bind_some]
    by_cases c2 : 0 ≤ T ∧ T ≤ 10000
    · obtain ⟨n, rfl⟩ := Int.eq_ofNat_of_zero_le (show 0 ≤ p by omega)
      have h := specB_l0 n n t T m hg (by omega) n 0 k [] (by omega) (by omega) rfl
      rw [show ((0 : Nat) : Int) = 0 from rfl] at h
      rw [if_pos c2, decide_eq_true c2, if_pos rfl, h, List.nil_append, Int.toNat_natCast, List.range_eq_range']
    · rw [if_neg c2, decide_eq_false c2, if_neg (by decide)]
  · rw [if_neg c, if_neg c]
theorem impl_fin (p t : Int) (m : List S120) (T : Int) (hl : m.length ≤ 1048576) (hb : recsOk p t m = true → good p t m) (k : Nat) (hk : 1048700 ≤ k) : impl_BetweenAt.f k p t m T = some (fin p t m T) := by
  unfold impl_BetweenAt.f fin slices_Repeat_Sint64_int64.f
  rw [implRecords_eq p t m hl k (by omega), Option.bind_some]
  by_cases c : recsOk p t m = true
  · have hg := hb c
    have hp := hg.2.1
    rw [if_pos c, if_pos c, within_eq, Option.bind_some]
    by_cases c2 : 0 ≤ T ∧ T ≤ 10000
    · obtain ⟨n, rfl⟩ := Int.eq_ofNat_of_zero_le (show 0 ≤ p by omega)
      rw [if_pos c2, decide_eq_true c2, if_pos rfl, if_pos (by simp), if_pos (by omega), if_pos (by omega), Option.bind_some, Int.toNat_natCast]
      have h := implB_l0 n n t T m hg rfl m.length 0 k (List.replicate n (rd [-1] 0)) (by omega) (by omega) (by simp)
      rw [show ((0 : Nat) : Int) = 0 from rfl, List.drop_zero] at h
      rw [h]
      congr 2
      apply List.map_congr_left
      intro y hy
      have hy' : y < n := List.mem_range.1 hy
      rw [List.getD_eq_getElem?_getD, List.getElem?_replicate, if_pos hy']
      rfl
    · rw [if_neg c2, decide_eq_false c2, if_neg (by decide)]
  · rw [if_neg c, if_neg c]
theorem main : laws_FnExactBetweenAt.Pure := by
  intro p t l T _ _ hl _
  refine rounds_of 1048800 fun k hk => ?_
  unfold laws_FnExactBetweenAt.f
  rw [szRecordS_eq l 1048576 (by decide) (by decide) hl.1, Option.bind_some]
  by_cases h : (1048576 : Int) < (l.length : Int)
  · rw [if_pos h, if_pos (by decide)]
  · rw [if_neg h, if_neg (by omega), toRecordS_eq l (by omega) k (by omega)]
    simp only [Option.bind_some]
    have hcv := cv_bounds l hl.2
    have hm : (l.map cvRecord).length ≤ 1048576 := by rw [List.length_map]; omega
    generalize hq : l.map cvRecord = m at hcv hm
    have hb : recsOk p t m = true → good p t m := good_of p t m hcv
    rw [spec_fin p t m T hm hb k (by omega), impl_fin p t m T hm hb k (by omega)]
    simp only [Option.bind_some]
    have hfl := fin_len p t m T hb
    rw [eqInt64S_eq _ _ (by omega) k (by omega)]
    simp only [Option.bind_some, decide_true, if_true]
    obtain ⟨k, rfl⟩ : ∃ m, k = m + 3 := ⟨k - 3, by omega⟩
    obtain ⟨u, hu, hu0⟩ := markRec_eq m hm (k + 2) (by omega)
    simp only [laws_FnExactBetweenAt.j0]
    rw [if_neg (by simp), toRecordS_eq l (by omega) _ (by omega), hq]
    simp only [Option.bind_some]
    rw [eqRecordS_eq m m hm _ (by omega)]
    simp only [Option.bind_some, decide_true, if_true]
    rw [hu]
    simp only [Option.bind_some]
    rw [if_neg (by omega), eqInt64S_eq _ _ (by omega) _ (by omega)]
    simp only [Option.bind_some, decide_true, if_true, laws_FnExactBetweenAt.j1]
    rw [if_neg (by simp), markInt64S_eq 1 (by decide) (by decide) _ (by omega) _ (by omega)]
    simp only [Option.bind_some]
    rw [heldInt64S_eq 1 (by decide) (by decide) _ (by omega) _ (by omega)]
    simp only [Option.bind_some]
    rw [if_neg (by omega), if_pos trivial, toRecordS_eq l (by omega) _ (by omega), hq]
    simp only [Option.bind_some]
    rw [impl_fin p t m T hm hb _ (by omega)]
    simp only [Option.bind_some]
    rw [eqInt64S_eq _ _ (by omega) _ (by omega)]
    simp only [Option.bind_some, decide_true, if_true, laws_FnExactBetweenAt.j2]
    rw [if_neg (by simp), heldInt64S_eq 1 (by decide) (by decide) _ (by omega) _ (by omega)]
    simp only [Option.bind_some]
    rw [if_neg (by omega), if_pos trivial]

end Go.Proofs.Ytelgmojnndbgmaa.PureFnExactBetweenAt
namespace Go.Proofs.Ytelgmojnndbgmaa.Pure
theorem FnExactBetweenAt : Go.Proofs.Ytelgmojnndbgmaa.P.laws_FnExactBetweenAt.Pure := Go.Proofs.Ytelgmojnndbgmaa.PureFnExactBetweenAt.main
end Go.Proofs.Ytelgmojnndbgmaa.Pure
