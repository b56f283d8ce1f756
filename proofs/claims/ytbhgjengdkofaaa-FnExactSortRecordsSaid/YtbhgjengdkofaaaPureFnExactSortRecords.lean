/- For every numbers of people and stations and every list of records the program's SortRecords returns the reference's list and code, in memory of its own, and leaves the records as they were; no condition. -/
import Derived.Test.YtbhgjengdkofaaaP6
import Derived.Laws.BitsLemmas
namespace Go.Proofs.Ytbhgjengdkofaaa.PureFnExactSortRecords
open Go.RowKit Go.Proofs.Ytbhgjengdkofaaa.P Go.Proofs.YtbhgjengdkofaaaW.PrintWords Go.Proofs.YtbhgjengdkofaaaW.PrintLast
set_option linter.unusedSimpArgs false
set_option linter.unusedVariables false

theorem wrap64_id (x : Int) (h0 : -9223372036854775808 ≤ x) (h1 : x ≤ 9223372036854775807) : wrap64 x = x := by unfold wrap64; omega
theorem wrap_nat (n : Nat) (h : n < 4611686018427387904) : wrap64 ((n : Int) + 1) = ((n + 1 : Nat) : Int) := by
  rw [wrap64_id _ (by omega) (by omega)]; omega
theorem drop_getD {α : Type} (z : α) (l : List α) (i : Nat) (h : i < l.length) : l.drop i = l.getD i z :: l.drop (i + 1) := by
  rw [List.drop_eq_getElem_cons h, List.getD_eq_getElem?_getD, List.getElem?_eq_getElem h]; rfl
theorem take_getD {α : Type} (z : α) (l : List α) (i : Nat) (h : i < l.length) : l.take (i + 1) = l.take i ++ [l.getD i z] := by
  rw [List.take_succ_eq_append_getElem h, List.getD_eq_getElem?_getD, List.getElem?_eq_getElem h]; rfl
theorem set_rep {α : Type} (a : List α) (i d : Nat) (z v : α) (h : a.length = i) : (a ++ List.replicate (d + 1) z).set i v = (a ++ [v]) ++ List.replicate d z := by
  subst h
  rw [List.set_append_right _ _ (Nat.le_refl _), Nat.sub_self, List.replicate_succ, List.set_cons_zero]
  simp
theorem set_drop {α : Type} (a g : List α) (i : Nat) (v : α) (h : a.length = i) (hg : i < g.length) : (a ++ g.drop i).set i v = (a ++ [v]) ++ g.drop (i + 1) := by
  subst h
  rw [List.set_append_right _ _ (Nat.le_refl _), Nat.sub_self, List.drop_eq_getElem_cons hg, List.set_cons_zero]
  simp
theorem getD_range_map {α : Type} (z : α) (f : Nat → α) (n i : Nat) (h : i < n) : ((List.range n).map f).getD i z = f i := by
  rw [List.getD_eq_getElem?_getD, List.getElem?_map, List.getElem?_range h]; rfl
theorem rounds_of (B : Nat) {α : Type} {F : Nat → Option α} {v : α} (h : ∀ k, B ≤ k → F k = some v) : ∃ k, F k = some v := ⟨B, h B (Nat.le_refl _)⟩

theorem in_eq (a b c : Int) : spec_l00In.f a b c = some (decide (b ≤ a ∧ a ≤ c)) := by
  unfold spec_l00In.f
  by_cases h : b ≤ a
  · rw [if_pos (by omega)]; simp [h]
  · rw [if_neg (by omega)]; simp [h]
theorem within_eq (a b c : Int) : impl_within.f a b c = some (decide (b ≤ a ∧ a ≤ c)) := by
  unfold impl_within.f
  by_cases h : b ≤ a
  · rw [if_pos (by omega)]; simp [h]
  · rw [if_neg (by omega)]; simp [h]
def recOk (p t : Int) (r : S38) : Bool :=
  decide (0 ≤ wrap64 r.f0 ∧ wrap64 r.f0 ≤ wrap64 (p - 1)) && decide (0 ≤ wrap64 r.f1 ∧ wrap64 r.f1 ≤ wrap64 (t - 1)) && decide (0 ≤ wrap64 r.f2 ∧ wrap64 r.f2 ≤ 10000)
def recsOk (p t : Int) (l : List S38) : Bool :=
  l.all (recOk p t) && decide (1 ≤ p ∧ p ≤ 14) && decide (1 ≤ t ∧ t ≤ 12) && decide ((l.length : Int) ≤ 80)
theorem drop_rec (l : List S38) (i : Nat) (h : i < l.length) : l.drop i = rd_T38 l (i : Int) :: l.drop (i + 1) := by
  rw [drop_getD z38 l i h]; simp [rd_T38]
theorem l05Records_l0 (p t : Int) (l : List S38) (hl : l.length ≤ 1048576) : ∀ (d i k : Nat), i + d = l.length → d < k → spec_l05Records.l0 k p t l (i : Int) = some ((l.drop i).all (recOk p t) && decide (1 ≤ p ∧ p ≤ 14) && decide (1 ≤ t ∧ t ≤ 12) && decide ((l.length : Int) ≤ 80)) := by
  intro d
  induction d with
  | zero =>
    intro i k hi hk
    obtain ⟨k, rfl⟩ : ∃ m, k = m + 1 := ⟨k - 1, by omega⟩
    simp only [spec_l05Records.l0]
    rw [if_neg (by omega), List.drop_eq_nil_of_le (by omega), in_eq, in_eq]
    by_cases h1 : 1 ≤ p ∧ p ≤ 14 <;> by_cases h2 : 1 ≤ t ∧ t ≤ 12 <;> simp [h1, h2]
  | succ d ih =>
    intro i k hi hk
    obtain ⟨k, rfl⟩ : ∃ m, k = m + 1 := ⟨k - 1, by omega⟩
    simp only [spec_l05Records.l0]
    rw [if_pos (by omega), if_pos (by omega), in_eq, in_eq, in_eq, drop_rec l i (by omega), wrap_nat i (by omega), ih (i + 1) k (by omega) (by omega)]
    simp only [Option.bind_some, List.all_cons, recOk]
    generalize rd_T38 l (i : Int) = r
    by_cases h1 : 0 ≤ wrap64 r.f0 ∧ wrap64 r.f0 ≤ wrap64 (p - 1) <;> by_cases h2 : 0 ≤ wrap64 r.f1 ∧ wrap64 r.f1 ≤ wrap64 (t - 1) <;> by_cases h3 : 0 ≤ wrap64 r.f2 ∧ wrap64 r.f2 ≤ 10000 <;> simp [h1, h2, h3]
theorem l05Records_eq (p t : Int) (l : List S38) (hl : l.length ≤ 1048576) (k : Nat) (hk : 1048576 < k) : spec_l05Records.f k p t l = some (recsOk p t l) := by
  unfold spec_l05Records.f
  have := l05Records_l0 p t l hl l.length 0 k (by omega) (by omega)
  rw [show ((0 : Nat) : Int) = 0 from rfl, List.drop_zero] at this
  exact this
theorem recFind_l0 (p t : Int) (l : List S38) (hl : l.length ≤ 1048576) : ∀ (d i k : Nat), i + d = l.length → d < k → ∃ r : Int, slices_IndexFunc_Record_at_ValidRecords_1.l0 k l (l.length : Int) (i : Int) p t = some r ∧ decide (r ≥ 0) = !(l.drop i).all (recOk p t) := by
  intro d
  induction d with
  | zero =>
    intro i k hi hk
    obtain ⟨k, rfl⟩ : ∃ m, k = m + 1 := ⟨k - 1, by omega⟩
    refine ⟨-1, ?_, ?_⟩
    · simp only [slices_IndexFunc_Record_at_ValidRecords_1.l0]
      rw [if_neg (by omega)]
    · rw [List.drop_eq_nil_of_le (by omega)]; simp
  | succ d ih =>
    intro i k hi hk
    obtain ⟨k, rfl⟩ : ∃ m, k = m + 1 := ⟨k - 1, by omega⟩
    have hv : ∀ r : S38, impl_ValidRecords_1.f r.f0 r.f1 r.f2 p t = some (!recOk p t r) := by
      intro r
      unfold impl_ValidRecords_1.f recOk
      simp only [within_eq, Option.bind_some]
      by_cases h1 : 0 ≤ wrap64 r.f0 ∧ wrap64 r.f0 ≤ wrap64 (p - 1) <;> by_cases h2 : 0 ≤ wrap64 r.f1 ∧ wrap64 r.f1 ≤ wrap64 (t - 1) <;> by_cases h3 : 0 ≤ wrap64 r.f2 ∧ wrap64 r.f2 ≤ 10000 <;> simp [h1, h2, h3]
    simp only [slices_IndexFunc_Record_at_ValidRecords_1.l0]
    rw [if_pos (by omega), if_pos (by omega), if_pos (by omega), hv, Option.bind_some, drop_rec l i (by omega), wrap_nat i (by omega)]
    by_cases h : recOk p t (rd_T38 l (i : Int)) = true
    · obtain ⟨r, h1, h2⟩ := ih (i + 1) k (by omega) (by omega)
      refine ⟨r, by rw [if_neg (by simp [h])]; exact h1, ?_⟩
      rw [h2]; simp [h]
    · refine ⟨(i : Int), by rw [if_pos (by simpa using h)], ?_⟩
      simp only [List.all_cons, Bool.eq_false_iff.2 h, Bool.false_and, Bool.not_false]
      exact decide_eq_true (by omega)
theorem implRecords_eq (p t : Int) (l : List S38) (hl : l.length ≤ 1048576) (k : Nat) (hk : 1048576 < k) : impl_ValidRecords.f k p t l = some (recsOk p t l) := by
  unfold impl_ValidRecords.f slices_ContainsFunc_Record_at_ValidRecords_1.f slices_IndexFunc_Record_at_ValidRecords_1.f
  obtain ⟨r, h1, h2⟩ := recFind_l0 p t l hl l.length 0 k (by omega) (by omega)
  rw [show ((0 : Nat) : Int) = 0 from rfl] at h1
  rw [List.drop_zero] at h2
  simp only [within_eq, Option.bind_some, h1, h2, recsOk]
  by_cases g1 : 1 ≤ p ∧ p ≤ 14 <;> by_cases g2 : 1 ≤ t ∧ t ≤ 12 <;> by_cases g3 : (l.length : Int) > 80
  all_goals first
    | (have g4 : ¬ (l.length : Int) ≤ 80 := by omega
       simp [g1, g2, g3, g4])
    | (have g4 : (l.length : Int) ≤ 80 := by omega
       simp [g1, g2, g3, g4])
    | simp [g1, g2, g3]

def cvRecord (x : S40) : S38 := ⟨x.f0, x.f1, x.f2⟩
theorem toRecordS_l0 (l : List S40) (hl : l.length ≤ 1048576) : ∀ (d i k : Nat), i + d = l.length → d < k → laws_toRecordS.l0 k l ((l.map cvRecord).take i ++ List.replicate d z38) (i : Int) = some (l.map cvRecord) := by
  intro d
  induction d with
  | zero =>
    intro i k hi hk
    obtain ⟨k, rfl⟩ : ∃ m, k = m + 1 := ⟨k - 1, by omega⟩
    simp only [laws_toRecordS.l0]
    rw [if_neg (by omega), List.take_of_length_le (by simp; omega)]
    simp
  | succ d ih =>
    intro i k hi hk
    obtain ⟨k, rfl⟩ : ∃ m, k = m + 1 := ⟨k - 1, by omega⟩
    have hlen : (((l.map cvRecord).take i ++ List.replicate (d + 1) z38).length : Int) = l.length := by simp; omega
    have hg : (l.map cvRecord).getD i z38 = cvRecord (rd_T40 l (i : Int)) := by
      simp [rd_T40, List.getD_eq_getElem?_getD, List.getElem?_map, List.getElem?_eq_getElem (show i < l.length by omega)]
    have hstep := set_rep ((l.map cvRecord).take i) i d z38 (cvRecord (rd_T40 l (i : Int))) (by simp; omega)
    rw [← hg, ← take_getD z38 (l.map cvRecord) i (by simp; omega), hg] at hstep
    simp only [laws_toRecordS.l0, laws_toRecord.f, Option.bind_some]
    rw [if_pos (by omega), if_pos (by omega), if_pos (by rw [hlen]; omega), wrap_nat i (by omega), Int.toNat_natCast]
    exact (congrArg (fun o => laws_toRecordS.l0 k l o ((i + 1 : Nat) : Int)) hstep).trans (ih (i + 1) k (by omega) (by omega))
theorem toRecordS_eq (l : List S40) (hl : l.length ≤ 1048576) (k : Nat) (hk : l.length < k) : laws_toRecordS.f k l = some (l.map cvRecord) := by
  unfold laws_toRecordS.f
  rw [if_pos (by omega), if_pos (by omega)]
  have := toRecordS_l0 l hl l.length 0 k (by omega) hk
  simpa using this

theorem markRec_pos (m : List S38) (hl : m.length ≤ 1048576) : ∀ (d i k : Nat) (x : List S38) (a : Int), x.length = m.length → i + d = m.length → d < k → 0 ≤ a → a ≤ 1 + 3 * (i : Int) → ∃ v, laws_markRecordS.l0 k x a (i : Int) = some v ∧ 0 ≤ v.1 := by
  intro d
  induction d with
  | zero =>
    intro i k x a hx hi hk ha _
    obtain ⟨k, rfl⟩ : ∃ m, k = m + 1 := ⟨k - 1, by omega⟩
    simp only [laws_markRecordS.l0]
    rw [if_neg (by omega)]
    exact ⟨_, rfl, ha⟩
  | succ d ih =>
    intro i k x a hx hi hk ha h3
    obtain ⟨k, rfl⟩ : ∃ m, k = m + 1 := ⟨k - 1, by omega⟩
    simp only [laws_markRecordS.l0, Option.bind_some]
    rw [if_pos (by omega), if_pos (by omega), wrap_nat i (by omega)]
    have w1 : wrap64 (a + 1) = a + 1 := wrap64_id _ (by omega) (by omega)
    have w2 : wrap64 (a + 1 + 1) = a + 1 + 1 := wrap64_id _ (by omega) (by omega)
    have w3 : wrap64 (a + 1 + 1 + 1) = a + 1 + 1 + 1 := wrap64_id _ (by omega) (by omega)
    rw [w1, w2, w3]
    exact ih (i + 1) k _ _ (by simp [hx]) (by omega) (by omega) (by omega) (by omega)
theorem markRec_eq (m : List S38) (hl : m.length ≤ 1048576) (k : Nat) (hk : m.length < k) : ∃ v, laws_markRecordS.f k m 1 = some v ∧ 0 ≤ v.1 := by
  unfold laws_markRecordS.f
  have := markRec_pos m hl m.length 0 k m 1 rfl (by omega) hk (by decide) (by omega)
  exact this

def toR3 (x : S38) : Int × Int × Int := (x.f0, x.f1, x.f2)
def ofR3 (t : Int × Int × Int) : S38 := ⟨t.1, t.2.1, t.2.2⟩
def outR (l : List S38) (i : Nat) : List S38 := (Go.Proofs.Ytbhgjengdkofaaa.H.sortIn Go.Proofs.Ytbhgjengdkofaaa.H.recLt ((l.take i).map toR3)).map ofR3
theorem rd_rec_get (l : List S38) (i : Nat) (h : i < l.length) : rd_T38 l (i : Int) = l[i] := by
  have h2 : rd_T38 l (i : Int) = l.getD i z38 := by simp [rd_T38]
  rw [h2, List.getD_eq_getElem?_getD, List.getElem?_eq_getElem h]; rfl
theorem outR_len (l : List S38) (i : Nat) (h : i ≤ l.length) : (outR l i).length = i := by
  unfold outR
  rw [List.length_map, (Go.Proofs.Ytbhgjengdkofaaa.H.sortIn_perm Go.Proofs.Ytbhgjengdkofaaa.H.recTot _).length_eq, List.length_map, List.length_take]; omega
theorem outR_map (l : List S38) (i : Nat) : (outR l i).map toR3 = Go.Proofs.Ytbhgjengdkofaaa.H.sortIn Go.Proofs.Ytbhgjengdkofaaa.H.recLt ((l.take i).map toR3) := by
  unfold outR
  rw [List.map_map, show (toR3 ∘ ofR3) = id from rfl, List.map_id]
def scanR (x : S38) (o : List S38) (n : Nat) : Nat := Go.Proofs.Ytbhgjengdkofaaa.H.scanAt Go.Proofs.Ytbhgjengdkofaaa.H.recLt (toR3 x) (o.map toR3) n
theorem outR_succ (l : List S38) (i : Nat) (h : i < l.length) : outR l (i + 1) = ((outR l i).take (scanR (rd_T38 l (i : Int)) (outR l i) i) ++ [rd_T38 l (i : Int)]) ++ (outR l i).drop (scanR (rd_T38 l (i : Int)) (outR l i) i) := by
  have hl := outR_len l i (by omega)
  unfold scanR
  rw [outR_map, rd_rec_get l i h]
  have hl2 : (Go.Proofs.Ytbhgjengdkofaaa.H.sortIn Go.Proofs.Ytbhgjengdkofaaa.H.recLt ((l.take i).map toR3)).length = i := by rw [← outR_map, List.length_map, hl]
  conv => lhs; unfold outR
  rw [List.take_succ_eq_append_getElem h, List.map_append, List.map_singleton, Go.Proofs.Ytbhgjengdkofaaa.H.sortIn_snoc]
  unfold Go.Proofs.Ytbhgjengdkofaaa.H.putIn
  rw [hl2]
  unfold outR
  simp [List.map_take, List.map_drop, show ∀ x, ofR3 (toR3 x) = x from fun _ => rfl]
theorem scanR_step (x : S38) (o : List S38) (a : Nat) (h : a < o.length) : scanR x o (a + 1) = if Go.Proofs.Ytbhgjengdkofaaa.H.recLt (toR3 x) (toR3 (rd_T38 o (a : Int))) = true then scanR x o a else a + 1 := by
  unfold scanR
  conv => lhs; unfold Go.Proofs.Ytbhgjengdkofaaa.H.scanAt
  rw [show (o.map toR3).getD a default = toR3 (rd_T38 o (a : Int)) by rw [rd_rec_get o a h]; simp [List.getD_eq_getElem?_getD, List.getElem?_map, List.getElem?_eq_getElem h]]
theorem sorted_l1 (l : List S38) (hl : l.length ≤ 1000) (i : Nat) (hi : i < l.length) : ∀ (a k : Nat), a ≤ i → a < k → scanR (rd_T38 l (i : Int)) (outR l i) i = scanR (rd_T38 l (i : Int)) (outR l i) a → ∃ q, k ≤ q + a + 1 ∧ spec_l05Sorted.l1 k l (outR l i) (i : Int) (a : Int) = spec_l05Sorted.l0 q l (outR l (i + 1)) ((i + 1 : Nat) : Int) := by
  have ho := outR_len l i (by omega)
  have hs := outR_succ l i hi
  intro a
  induction a with
  | zero =>
    intro k h1 h2 h3
    obtain ⟨k, rfl⟩ : ∃ m, k = m + 1 := ⟨k - 1, by omega⟩
    refine ⟨k, by omega, ?_⟩
    rw [h3, show scanR (rd_T38 l (i : Int)) (outR l i) 0 = 0 from rfl] at hs
    rw [hs]
    simp only [spec_l05Sorted.l1]
    rw [if_neg (by omega), Option.bind_some, if_pos (by omega), if_pos (by omega), Option.bind_some, if_pos (by simp; omega), Option.bind_some, Option.bind_some, if_pos (by omega), if_pos (by omega), if_pos (by simp), Option.bind_some, if_pos (by simp; omega), wrap_nat i (by omega)]
    rfl
  | succ a ih =>
    intro k h1 h2 h3
    obtain ⟨k, rfl⟩ : ∃ m, k = m + 1 := ⟨k - 1, by omega⟩
    have hst := scanR_step (rd_T38 l (i : Int)) (outR l i) a (by omega)
    simp only [spec_l05Sorted.l1]
    rw [wrap64_id _ (by omega) (by omega), show ((a + 1 : Nat) : Int) - 1 = (a : Int) by omega, if_pos (by omega), if_pos (by omega), if_pos (by omega), if_pos (by omega), if_pos (by omega)]
    rw [show spec_l05Before.f (rd_T38 l (i : Int)).f0 (rd_T38 l (i : Int)).f1 (rd_T38 l (i : Int)).f2 (rd_T38 (outR l i) (a : Int)).f0 (rd_T38 (outR l i) (a : Int)).f1 (rd_T38 (outR l i) (a : Int)).f2 = some (Go.Proofs.Ytbhgjengdkofaaa.H.recLt (toR3 (rd_T38 l (i : Int))) (toR3 (rd_T38 (outR l i) (a : Int)))) from rfl, Option.bind_some]
    by_cases e : Go.Proofs.Ytbhgjengdkofaaa.H.recLt (toR3 (rd_T38 l (i : Int))) (toR3 (rd_T38 (outR l i) (a : Int))) = true
    · rw [if_pos e] at hst
      rw [if_pos e]
      obtain ⟨q, q1, q2⟩ := ih k (by omega) (by omega) (h3.trans hst)
      exact ⟨q, by omega, q2⟩
    · rw [if_neg e] at hst
      refine ⟨k, by omega, ?_⟩
      rw [h3, hst] at hs
      rw [hs, if_neg e, Option.bind_some, if_pos (by omega), if_pos (by omega), Option.bind_some, if_pos (by simp; omega), Option.bind_some, Option.bind_some, if_pos (by simp; omega), Option.bind_some, if_pos (by simp; omega), wrap_nat i (by omega), Int.toNat_natCast, List.nil_append]
theorem sorted_l0 (l : List S38) (hl : l.length ≤ 1000) : ∀ (d i k : Nat), i + d = l.length → d * 1003 < k → spec_l05Sorted.l0 k l (outR l i) (i : Int) = some (outR l l.length) := by
  intro d
  induction d with
  | zero =>
    intro i k hi hk
    obtain ⟨k, rfl⟩ : ∃ m, k = m + 1 := ⟨k - 1, by omega⟩
    obtain rfl : i = l.length := by omega
    simp only [spec_l05Sorted.l0]
    rw [if_neg (by omega)]
  | succ d ih =>
    intro i k hi hk
    obtain ⟨D, hD⟩ : ∃ D, D = d * 1003 := ⟨_, rfl⟩
    rw [Nat.succ_mul, ← hD] at hk
    have ih' := fun q (hq : D < q) => ih (i + 1) q (by omega) (by rw [← hD]; exact hq)
    clear ih hD
    obtain ⟨k, rfl⟩ : ∃ m, k = m + 1 := ⟨k - 1, by omega⟩
    have ho := outR_len l i (by omega)
    obtain ⟨q, q1, q2⟩ := sorted_l1 l hl i (by omega) i k (Nat.le_refl _) (by omega) rfl
    simp only [spec_l05Sorted.l0]
    rw [if_pos (by omega), ho, q2]
    exact ih' q (by omega)
def sortR (l : List S38) : List S38 := outR l l.length
theorem sortR_len (l : List S38) : (sortR l).length = l.length := outR_len l _ (Nat.le_refl _)
theorem specSorted_eq (l : List S38) (hl : l.length ≤ 1000) (k : Nat) (hk : 2000000 < k) : spec_l05Sorted.f k l = some (sortR l) := by
  unfold spec_l05Sorted.f
  have := sorted_l0 l hl l.length 0 k (by omega) (by omega)
  exact this
theorem implSorted_eq (l : List S38) (hl : l.length ≤ 1000) : impl_sorted.f l = some (sortR l) := by
  unfold impl_sorted.f sortR outR
  rw [if_pos hl, List.take_length]; rfl

def finR (p t : Int) (l : List S38) : List S38 × Int := if recsOk p t l = true then (sortR l, 0) else ([], 1)
theorem finR_len (p t : Int) (l : List S38) : (finR p t l).1.length ≤ l.length := by
  unfold finR
  split
  · rw [sortR_len]; exact Nat.le_refl _
  · simp
theorem recsOk_len (p t : Int) (l : List S38) (h : recsOk p t l = true) : l.length ≤ 80 := by
  unfold recsOk at h
  simp only [Bool.and_eq_true, decide_eq_true_eq] at h
  omega
theorem specSortR_eq (p t : Int) (l : List S38) (hl : l.length ≤ 1048576) (k : Nat) (hk : 2000000 < k) : spec_SortRecords.f k p t l = some (finR p t l) := by
  unfold spec_SortRecords.f finR
  rw [l05Records_eq p t l hl k (by omega), Option.bind_some]
  by_cases c : recsOk p t l = true
  · have := recsOk_len p t l c
    rw [if_pos c, if_pos c, specSorted_eq l (by omega) k hk, Option.bind_some]
  · rw [if_neg c, if_neg c]
theorem implSortR_eq (p t : Int) (l : List S38) (hl : l.length ≤ 1048576) (k : Nat) (hk : 2000000 < k) : impl_SortRecords.f k p t l = some (finR p t l) := by
  unfold impl_SortRecords.f finR
  rw [implRecords_eq p t l hl k (by omega), Option.bind_some]
  by_cases c : recsOk p t l = true
  · have := recsOk_len p t l c
    rw [if_pos c, if_pos c, implSorted_eq l (by omega), Option.bind_some]
  · rw [if_neg c, if_neg c]

theorem szRecordS_eq (l : List S40) (a : Int) (h0 : 0 ≤ a) (h1 : a ≤ 1048576) (hl : l.length ≤ 9223372036854775807) : laws_szRecordS.f l a = some (if a < l.length then -1 else a - l.length) := by
  unfold laws_szRecordS.f
  rw [wrap64_id _ (by omega) (by omega)]
  by_cases h : a < (l.length : Int)
  · rw [if_pos (by omega), if_pos h]
  · rw [if_neg (by omega), if_neg h]

instance decRecord : DecidableEq S38 := fun x y =>
  if h : x.f0 = y.f0 ∧ x.f1 = y.f1 ∧ x.f2 = y.f2 then isTrue (by obtain ⟨a, b, c⟩ := x; obtain ⟨a', b', c'⟩ := y; simp only at h; rw [h.1, h.2.1, h.2.2]) else isFalse (fun e => h (by rw [e]; exact ⟨rfl, rfl, rfl⟩))
theorem eqRecord_eq (x y : S38) : laws_eqRecord.f x.f0 x.f1 x.f2 y.f0 y.f1 y.f2 = some (decide (x = y)) := by
  obtain ⟨a, b, c⟩ := x
  obtain ⟨a', b', c'⟩ := y
  unfold laws_eqRecord.f
  by_cases h1 : a = a' <;> by_cases h2 : b = b' <;> by_cases h3 : c = c' <;> simp [h1, h2, h3]
theorem eqRecordS_l0 (a b : List S38) (hab : a.length = b.length) (hl : a.length ≤ 1048576) : ∀ (d i k : Nat), i + d = a.length → d < k → laws_eqRecordS.l0 k a b (i : Int) = some (decide (a.drop i = b.drop i)) := by
  intro d
  induction d with
  | zero =>
    intro i k hi hk
    obtain ⟨k, rfl⟩ : ∃ m, k = m + 1 := ⟨k - 1, by omega⟩
    simp only [laws_eqRecordS.l0]
    rw [if_neg (by omega), List.drop_eq_nil_of_le (by omega), List.drop_eq_nil_of_le (by omega)]
    simp
  | succ d ih =>
    intro i k hi hk
    obtain ⟨k, rfl⟩ : ∃ m, k = m + 1 := ⟨k - 1, by omega⟩
    have ha : a.drop i = rd_T38 a (i : Int) :: a.drop (i + 1) := by
      rw [drop_getD z38 a i (by omega)]; simp [rd_T38]
    have hb : b.drop i = rd_T38 b (i : Int) :: b.drop (i + 1) := by
      rw [drop_getD z38 b i (by omega)]; simp [rd_T38]
    simp only [laws_eqRecordS.l0]
    rw [if_pos (by omega), if_pos (by omega), if_pos (by omega), ha, hb]
    rw [eqRecord_eq (rd_T38 a (i : Int)) (rd_T38 b (i : Int))]
    simp only [Option.bind_some]
    by_cases e : rd_T38 a (i : Int) = rd_T38 b (i : Int)
    · rw [decide_eq_true e, if_pos rfl, wrap_nat i (by omega), ih (i + 1) k (by omega) (by omega)]
      simp [e]
    · rw [decide_eq_false e, if_neg (by decide)]
      simp [e]
theorem eqRecordS_eq (a b : List S38) (hl : a.length ≤ 1048576) (k : Nat) (hk : a.length < k) : laws_eqRecordS.f k a b = some (decide (a = b)) := by
  unfold laws_eqRecordS.f
  by_cases h : a.length = b.length
  · rw [if_pos (by omega)]
    have := eqRecordS_l0 a b h hl a.length 0 k (by omega) hk
    simpa using this
  · rw [if_neg (by omega)]
    have : a ≠ b := fun e => h (by rw [e])
    simp [this]

def marksR (m : Int) (n : Nat) : List S38 := (List.range n).map (fun i : Nat => ⟨IntKind.i8.wrap (m + 3 * (i : Int)), IntKind.i8.wrap (m + 3 * (i : Int) + 1), IntKind.i16.wrap (m + 3 * (i : Int) + 1 + 1)⟩)
theorem marksR_length (m : Int) (n : Nat) : (marksR m n).length = n := by simp [marksR]
theorem marksR_at (m : Int) (n i : Nat) (h : i < n) : (marksR m n).getD i z38 = ⟨IntKind.i8.wrap (m + 3 * (i : Int)), IntKind.i8.wrap (m + 3 * (i : Int) + 1), IntKind.i16.wrap (m + 3 * (i : Int) + 1 + 1)⟩ := getD_range_map _ _ n i h
theorem markRecX_l0 (m : Int) (h0 : 0 ≤ m) (h1 : m ≤ 4194304) (g : List S38) (hl : g.length ≤ 1048576) : ∀ (d i k : Nat), i + d = g.length → d < k → laws_markRecordS.l0 k ((marksR m g.length).take i ++ g.drop i) (m + 3 * (i : Int)) (i : Int) = some (m + 3 * (g.length : Int), marksR m g.length) := by
  intro d
  induction d with
  | zero =>
    intro i k hi hk
    obtain ⟨k, rfl⟩ : ∃ m, k = m + 1 := ⟨k - 1, by omega⟩
    obtain rfl : i = g.length := by omega
    simp only [laws_markRecordS.l0]
    rw [List.drop_eq_nil_of_le (Nat.le_refl _), List.append_nil, List.take_of_length_le (by rw [marksR_length]; exact Nat.le_refl _), marksR_length, if_neg (by omega)]
  | succ d ih =>
    intro i k hi hk
    obtain ⟨k, rfl⟩ : ∃ m, k = m + 1 := ⟨k - 1, by omega⟩
    have hlen : ((marksR m g.length).take i ++ g.drop i).length = g.length := by rw [List.length_append, List.length_take, marksR_length, List.length_drop]; omega
    have htk : ((marksR m g.length).take i).length = i := by rw [List.length_take, marksR_length]; omega
    have w1 : wrap64 (m + 3 * (i : Int) + 1) = m + 3 * (i : Int) + 1 := wrap64_id _ (by omega) (by omega)
    have w2 : wrap64 (m + 3 * (i : Int) + 1 + 1) = m + 3 * (i : Int) + 1 + 1 := wrap64_id _ (by omega) (by omega)
    have w3 : wrap64 (m + 3 * (i : Int) + 1 + 1 + 1) = m + 3 * ((i + 1 : Nat) : Int) := by rw [wrap64_id _ (by omega) (by omega)]; omega
    simp only [laws_markRecordS.l0]
    rw [if_pos (by omega), if_pos (by omega), Option.bind_some, Option.bind_some, w1, w2, w3, wrap_nat i (by omega), Int.toNat_natCast]
    have hrd : ∀ (x : List S38) (v : S38), x.length = g.length → rd_T38 (x.set i v) (i : Int) = v := by
      intro x v hx
      rw [rd_rec_get _ i (by rw [List.length_set]; omega), List.getElem_set_self]
    simp only [List.set_set, hrd _ _ hlen]
    rw [set_drop _ _ i _ htk (by omega)]
    have hv : (marksR m g.length).take i ++ [(⟨IntKind.i8.wrap (m + 3 * (i : Int)), IntKind.i8.wrap (m + 3 * (i : Int) + 1), IntKind.i16.wrap (m + 3 * (i : Int) + 1 + 1)⟩ : S38)] = (marksR m g.length).take (i + 1) := by
      rw [take_getD z38 _ i (by rw [marksR_length]; omega), marksR_at m g.length i (by omega)]
    rw [hv]
    exact ih (i + 1) k (by omega) (by omega)
theorem markRecX_eq (m : Int) (h0 : 0 ≤ m) (h1 : m ≤ 4194304) (g : List S38) (hl : g.length ≤ 1048576) (k : Nat) (hk : g.length < k) : laws_markRecordS.f k g m = some (m + 3 * (g.length : Int), marksR m g.length) := by
  unfold laws_markRecordS.f
  have := markRecX_l0 m h0 h1 g hl g.length 0 k (by omega) hk
  rw [List.take_zero, List.nil_append, List.drop_zero, show ((0 : Nat) : Int) = 0 from rfl, Int.mul_zero, Int.add_zero] at this
  exact this
theorem heldRecX_l0 (m : Int) (h0 : 0 ≤ m) (h1 : m ≤ 4194304) (n : Nat) (hl : n ≤ 1048576) : ∀ (d i k : Nat), i + d = n → d < k → laws_heldRecordS.l0 k (marksR m n) (m + 3 * (i : Int)) (i : Int) = some (m + 3 * (n : Int)) := by
  intro d
  induction d with
  | zero =>
    intro i k hi hk
    obtain ⟨k, rfl⟩ : ∃ m, k = m + 1 := ⟨k - 1, by omega⟩
    obtain rfl : i = n := by omega
    simp only [laws_heldRecordS.l0]
    rw [marksR_length, if_neg (by omega)]
  | succ d ih =>
    intro i k hi hk
    obtain ⟨k, rfl⟩ : ∃ m, k = m + 1 := ⟨k - 1, by omega⟩
    have w1 : wrap64 (m + 3 * (i : Int) + 1) = m + 3 * (i : Int) + 1 := wrap64_id _ (by omega) (by omega)
    have w2 : wrap64 (m + 3 * (i : Int) + 1 + 1) = m + 3 * (i : Int) + 1 + 1 := wrap64_id _ (by omega) (by omega)
    have w3 : wrap64 (m + 3 * (i : Int) + 1 + 1 + 1) = m + 3 * ((i + 1 : Nat) : Int) := by rw [wrap64_id _ (by omega) (by omega)]; omega
    have hrd : rd_T38 (marksR m n) (i : Int) = ⟨IntKind.i8.wrap (m + 3 * (i : Int)), IntKind.i8.wrap (m + 3 * (i : Int) + 1), IntKind.i16.wrap (m + 3 * (i : Int) + 1 + 1)⟩ := by
      rw [← marksR_at m n i (by omega)]; simp [rd_T38]
    simp only [laws_heldRecordS.l0]
    rw [marksR_length, if_pos (by omega), if_pos (by omega), hrd, w1, w2, w3, wrap_nat i (by omega)]
    dsimp only
    rw [if_pos rfl, if_pos rfl, if_pos rfl]
    exact ih (i + 1) k (by omega) (by omega)
theorem heldRecX_eq (m : Int) (h0 : 0 ≤ m) (h1 : m ≤ 4194304) (n : Nat) (hl : n ≤ 1048576) (k : Nat) (hk : n < k) : laws_heldRecordS.f k (marksR m n) m = some (m + 3 * (n : Int)) := by
  unfold laws_heldRecordS.f
  have := heldRecX_l0 m h0 h1 n hl n 0 k (by omega) hk
  rw [show ((0 : Nat) : Int) = 0 from rfl, Int.mul_zero, Int.add_zero] at this
  exact this
theorem main : laws_FnExactSortRecords.Pure := by
  intro p t l _ _ hl
  refine rounds_of 3000000 fun k hk => ?_
  unfold laws_FnExactSortRecords.f
  rw [szRecordS_eq l 1048576 (by decide) (by decide) hl.1, Option.bind_some]
  by_cases h : (1048576 : Int) < (l.length : Int)
  · rw [if_pos h, if_pos (by decide)]
  · have hm : (l.map cvRecord).length ≤ 1048576 := by rw [List.length_map]; omega
    rw [if_neg h, if_neg (by omega), toRecordS_eq l (by omega) k (by omega)]
    simp only [Option.bind_some]
    have hfl := finR_len p t (l.map cvRecord)
    rw [specSortR_eq p t _ hm k (by omega), implSortR_eq p t _ hm k (by omega)]
    simp only [Option.bind_some]
    rw [eqRecordS_eq _ _ (by omega) k (by omega)]
    simp only [Option.bind_some, decide_true, if_true]
    obtain ⟨k, rfl⟩ : ∃ m, k = m + 3 := ⟨k - 3, by omega⟩
    obtain ⟨u, hu, hu0⟩ := markRec_eq (l.map cvRecord) hm (k + 2) (by omega)
    simp only [laws_FnExactSortRecords.j0]
    rw [if_neg (by simp), toRecordS_eq l (by omega) _ (by omega)]
    simp only [Option.bind_some]
    rw [eqRecordS_eq _ _ hm _ (by omega)]
    simp only [Option.bind_some, decide_true, if_true]
    rw [hu]
    simp only [Option.bind_some]
    rw [if_neg (by omega), eqRecordS_eq _ _ (by omega) _ (by omega)]
    simp only [Option.bind_some, decide_true, if_true, laws_FnExactSortRecords.j1]
    rw [if_neg (by simp), markRecX_eq 1 (by decide) (by decide) _ (by omega) _ (by omega)]
    simp only [Option.bind_some]
    rw [heldRecX_eq 1 (by decide) (by decide) _ (by omega) _ (by omega)]
    simp only [Option.bind_some]
    rw [if_neg (by omega), if_pos trivial, toRecordS_eq l (by omega) _ (by omega)]
    simp only [Option.bind_some]
    rw [implSortR_eq p t _ hm _ (by omega)]
    simp only [Option.bind_some]
    rw [eqRecordS_eq _ _ (by omega) _ (by omega)]
    simp only [Option.bind_some, decide_true, if_true, laws_FnExactSortRecords.j2]
    rw [if_neg (by simp), heldRecX_eq 1 (by decide) (by decide) _ (by omega) _ (by omega)]
    simp only [Option.bind_some]
    rw [if_neg (by omega), if_pos trivial]

end Go.Proofs.Ytbhgjengdkofaaa.PureFnExactSortRecords
namespace Go.Proofs.Ytbhgjengdkofaaa.Pure
theorem FnExactSortRecords : Go.Proofs.Ytbhgjengdkofaaa.P.laws_FnExactSortRecords.Pure := Go.Proofs.Ytbhgjengdkofaaa.PureFnExactSortRecords.main
end Go.Proofs.Ytbhgjengdkofaaa.Pure
