/- For every numbers of people and stations and every list of records the program's FirstBackward answers as the reference's and leaves the records as they were; no condition. -/
import Derived.Test.YtbhgjengdkofaaaP4
import Derived.Laws.BitsLemmas
namespace Go.Proofs.Ytbhgjengdkofaaa.PureFnExactFirstBackward
open Go.RowKit Go.Proofs.Ytbhgjengdkofaaa.P Go.Proofs.YtbhgjengdkofaaaW.PrintWords Go.Proofs.YtbhgjengdkofaaaW.PrintLast
set_option linter.unusedSimpArgs false
set_option linter.unusedVariables false

theorem wrap64_id (x : Int) (h0 : -9223372036854775808 ≤ x) (h1 : x ≤ 9223372036854775807) : wrap64 x = x := by unfold wrap64; omega
theorem wrap_nat (n : Nat) (h : n < 4611686018427387904) : wrap64 ((n : Int) + 1) = ((n + 1 : Nat) : Int) := by
  rw [wrap64_id _ (by omega) (by omega)]; omega
theorem drop_getD {α : Type} (z : α) (l : List α) (i : Nat) (h : i < l.length) : l.drop i = l.getD i z :: l.drop (i + 1) := by
  rw [List.drop_eq_getElem_cons h, List.getD_eq_getElem?_getD, List.getElem?_eq_getElem h]; rfl
theorem take_getD {α : Type} (z : α) (l : List α) (i : Nat) (h : i < l.length) : l.take (i + 1) = l.take i ++ [l.getD i z] := by
  rw [List.take_succ_eq_append_getElem h, List.getD_eq_getElem?_getD, List.getElem?_eq_getElem h]; rfl
theorem set_rep {α : Type} (a : List α) (i d : Nat) (z v : α) (h : a.length = i) : (a ++ List.replicate (d + 1) z).set i v = (a ++ [v]) ++ List.replicate d z := by
  subst h
  rw [List.set_append_right _ _ (Nat.le_refl _), Nat.sub_self, List.replicate_succ, List.set_cons_zero]
  simp
theorem rounds_of (B : Nat) {α : Type} {F : Nat → Option α} {v : α} (h : ∀ k, B ≤ k → F k = some v) : ∃ k, F k = some v := ⟨B, h B (Nat.le_refl _)⟩

theorem wf_i16 {a : Int} (h : (Lit.int .i16 a).wf = true) : -32768 ≤ a ∧ a ≤ 32767 := by
  simp [Lit.wf, IntKind.min, IntKind.max, IntKind.bits, IntKind.signed] at h
  omega
theorem wf_i8 {a : Int} (h : (Lit.int .i8 a).wf = true) : -128 ≤ a ∧ a ≤ 127 := by
  simp [Lit.wf, IntKind.min, IntKind.max, IntKind.bits, IntKind.signed] at h
  omega
theorem in_eq (a b c : Int) : spec_l00In.f a b c = some (decide (b ≤ a ∧ a ≤ c)) := by
  unfold spec_l00In.f
  by_cases h : b ≤ a
  · rw [if_pos (by omega)]; simp [h]
  · rw [if_neg (by omega)]; simp [h]
theorem within_eq (a b c : Int) : impl_within.f a b c = some (decide (b ≤ a ∧ a ≤ c)) := by
  unfold impl_within.f
  by_cases h : b ≤ a
  · rw [if_pos (by omega)]; simp [h]
  · rw [if_neg (by omega)]; simp [h]
def recOk (p t : Int) (r : S38) : Bool :=
  decide (0 ≤ wrap64 r.f0 ∧ wrap64 r.f0 ≤ wrap64 (p - 1)) && decide (0 ≤ wrap64 r.f1 ∧ wrap64 r.f1 ≤ wrap64 (t - 1)) && decide (0 ≤ wrap64 r.f2 ∧ wrap64 r.f2 ≤ 10000)
def recsOk (p t : Int) (l : List S38) : Bool :=
  l.all (recOk p t) && decide (1 ≤ p ∧ p ≤ 14) && decide (1 ≤ t ∧ t ≤ 12) && decide ((l.length : Int) ≤ 80)
theorem drop_rec (l : List S38) (i : Nat) (h : i < l.length) : l.drop i = rd_T38 l (i : Int) :: l.drop (i + 1) := by
  rw [drop_getD z38 l i h]; simp [rd_T38]
theorem l05Records_l0 (p t : Int) (l : List S38) (hl : l.length ≤ 1048576) : ∀ (d i k : Nat), i + d = l.length → d < k → spec_l05Records.l0 k p t l (i : Int) = some ((l.drop i).all (recOk p t) && decide (1 ≤ p ∧ p ≤ 14) && decide (1 ≤ t ∧ t ≤ 12) && decide ((l.length : Int) ≤ 80)) := by
  intro d
  induction d with
  | zero =>
    intro i k hi hk
    obtain ⟨k, rfl⟩ : ∃ m, k = m + 1 := ⟨k - 1, by omega⟩
    simp only [spec_l05Records.l0]
    rw [if_neg (by omega), List.drop_eq_nil_of_le (by omega), in_eq, in_eq]
    by_cases h1 : 1 ≤ p ∧ p ≤ 14 <;> by_cases h2 : 1 ≤ t ∧ t ≤ 12 <;> simp [h1, h2]
  | succ d ih =>
    intro i k hi hk
    obtain ⟨k, rfl⟩ : ∃ m, k = m + 1 := ⟨k - 1, by omega⟩
    simp only [spec_l05Records.l0]
    rw [if_pos (by omega), if_pos (by omega), in_eq, in_eq, in_eq, drop_rec l i (by omega), wrap_nat i (by omega), ih (i + 1) k (by omega) (by omega)]
    simp only [Option.bind_some, List.all_cons, recOk]
    generalize rd_T38 l (i : Int) = r
    by_cases h1 : 0 ≤ wrap64 r.f0 ∧ wrap64 r.f0 ≤ wrap64 (p - 1) <;> by_cases h2 : 0 ≤ wrap64 r.f1 ∧ wrap64 r.f1 ≤ wrap64 (t - 1) <;> by_cases h3 : 0 ≤ wrap64 r.f2 ∧ wrap64 r.f2 ≤ 10000 <;> simp [h1, h2, h3]
theorem l05Records_eq (p t : Int) (l : List S38) (hl : l.length ≤ 1048576) (k : Nat) (hk : 1048576 < k) : spec_l05Records.f k p t l = some (recsOk p t l) := by
  unfold spec_l05Records.f
  have := l05Records_l0 p t l hl l.length 0 k (by omega) (by omega)
  rw [show ((0 : Nat) : Int) = 0 from rfl, List.drop_zero] at this
  exact this
theorem recFind_l0 (p t : Int) (l : List S38) (hl : l.length ≤ 1048576) : ∀ (d i k : Nat), i + d = l.length → d < k → ∃ r : Int, slices_IndexFunc_Record_at_ValidRecords_1.l0 k l (l.length : Int) (i : Int) p t = some r ∧ decide (r ≥ 0) = !(l.drop i).all (recOk p t) := by
  intro d
  induction d with
  | zero =>
    intro i k hi hk
    obtain ⟨k, rfl⟩ : ∃ m, k = m + 1 := ⟨k - 1, by omega⟩
    refine ⟨-1, ?_, ?_⟩
    · simp only [slices_IndexFunc_Record_at_ValidRecords_1.l0]
      rw [if_neg (by omega)]
    · rw [List.drop_eq_nil_of_le (by omega)]; simp
  | succ d ih =>
    intro i k hi hk
    obtain ⟨k, rfl⟩ : ∃ m, k = m + 1 := ⟨k - 1, by omega⟩
    have hv : ∀ r : S38, impl_ValidRecords_1.f r.f0 r.f1 r.f2 p t = some (!recOk p t r) := by
      intro r
      unfold impl_ValidRecords_1.f recOk
      simp only [within_eq, Option.bind_some]
      by_cases h1 : 0 ≤ wrap64 r.f0 ∧ wrap64 r.f0 ≤ wrap64 (p - 1) <;> by_cases h2 : 0 ≤ wrap64 r.f1 ∧ wrap64 r.f1 ≤ wrap64 (t - 1) <;> by_cases h3 : 0 ≤ wrap64 r.f2 ∧ wrap64 r.f2 ≤ 10000 <;> simp [h1, h2, h3]
    simp only [slices_IndexFunc_Record_at_ValidRecords_1.l0]
    rw [if_pos (by omega), if_pos (by omega), if_pos (by omega), hv, Option.bind_some, drop_rec l i (by omega), wrap_nat i (by omega)]
    by_cases h : recOk p t (rd_T38 l (i : Int)) = true
    · obtain ⟨r, h1, h2⟩ := ih (i + 1) k (by omega) (by omega)
      refine ⟨r, by rw [if_neg (by simp [h])]; exact h1, ?_⟩
      rw [h2]; simp [h]
    · refine ⟨(i : Int), by rw [if_pos (by simpa using h)], ?_⟩
      simp only [List.all_cons, Bool.eq_false_iff.2 h, Bool.false_and, Bool.not_false]
      exact decide_eq_true (by omega)
theorem implRecords_eq (p t : Int) (l : List S38) (hl : l.length ≤ 1048576) (k : Nat) (hk : 1048576 < k) : impl_ValidRecords.f k p t l = some (recsOk p t l) := by
  unfold impl_ValidRecords.f slices_ContainsFunc_Record_at_ValidRecords_1.f slices_IndexFunc_Record_at_ValidRecords_1.f
  obtain ⟨r, h1, h2⟩ := recFind_l0 p t l hl l.length 0 k (by omega) (by omega)
  rw [show ((0 : Nat) : Int) = 0 from rfl] at h1
  rw [List.drop_zero] at h2
  simp only [within_eq, Option.bind_some, h1, h2, recsOk]
  by_cases g1 : 1 ≤ p ∧ p ≤ 14 <;> by_cases g2 : 1 ≤ t ∧ t ≤ 12 <;> by_cases g3 : (l.length : Int) > 80
  all_goals first
    | (have g4 : ¬ (l.length : Int) ≤ 80 := by omega
       simp [g1, g2, g3, g4])
    | (have g4 : (l.length : Int) ≤ 80 := by omega
       simp [g1, g2, g3, g4])
    | simp [g1, g2, g3]

def cvRecord (x : S40) : S38 := ⟨x.f0, x.f1, x.f2⟩
theorem toRecordS_l0 (l : List S40) (hl : l.length ≤ 1048576) : ∀ (d i k : Nat), i + d = l.length → d < k → laws_toRecordS.l0 k l ((l.map cvRecord).take i ++ List.replicate d z38) (i : Int) = some (l.map cvRecord) := by
  intro d
  induction d with
  | zero =>
    intro i k hi hk
    obtain ⟨k, rfl⟩ : ∃ m, k = m + 1 := ⟨k - 1, by omega⟩
    simp only [laws_toRecordS.l0]
    rw [if_neg (by omega), List.take_of_length_le (by simp; omega)]
    simp
  | succ d ih =>
    intro i k hi hk
    obtain ⟨k, rfl⟩ : ∃ m, k = m + 1 := ⟨k - 1, by omega⟩
    have hlen : (((l.map cvRecord).take i ++ List.replicate (d + 1) z38).length : Int) = l.length := by simp; omega
    have hg : (l.map cvRecord).getD i z38 = cvRecord (rd_T40 l (i : Int)) := by
      simp [rd_T40, List.getD_eq_getElem?_getD, List.getElem?_map, List.getElem?_eq_getElem (show i < l.length by omega)]
    have hstep := set_rep ((l.map cvRecord).take i) i d z38 (cvRecord (rd_T40 l (i : Int))) (by simp; omega)
    rw [← hg, ← take_getD z38 (l.map cvRecord) i (by simp; omega), hg] at hstep
    simp only [laws_toRecordS.l0, laws_toRecord.f, Option.bind_some]
    rw [if_pos (by omega), if_pos (by omega), if_pos (by rw [hlen]; omega), wrap_nat i (by omega), Int.toNat_natCast]
    exact (congrArg (fun o => laws_toRecordS.l0 k l o ((i + 1 : Nat) : Int)) hstep).trans (ih (i + 1) k (by omega) (by omega))
theorem toRecordS_eq (l : List S40) (hl : l.length ≤ 1048576) (k : Nat) (hk : l.length < k) : laws_toRecordS.f k l = some (l.map cvRecord) := by
  unfold laws_toRecordS.f
  rw [if_pos (by omega), if_pos (by omega)]
  have := toRecordS_l0 l hl l.length 0 k (by omega) hk
  simpa using this

def good (p t : Int) (m : List S38) : Prop := (∀ r ∈ m, (0 ≤ r.f0 ∧ r.f0 ≤ p - 1) ∧ (0 ≤ r.f1 ∧ r.f1 ≤ t - 1) ∧ (0 ≤ r.f2 ∧ r.f2 ≤ 10000)) ∧ (1 ≤ p ∧ p ≤ 14) ∧ (1 ≤ t ∧ t ≤ 12) ∧ m.length ≤ 80
theorem good_of (p t : Int) (m : List S38) (hb : ∀ r ∈ m, (-128 ≤ r.f0 ∧ r.f0 ≤ 127) ∧ (-128 ≤ r.f1 ∧ r.f1 ≤ 127) ∧ (-32768 ≤ r.f2 ∧ r.f2 ≤ 32767)) (h : recsOk p t m = true) : good p t m := by
  unfold recsOk at h
  simp only [Bool.and_eq_true, decide_eq_true_eq] at h
  obtain ⟨⟨⟨h1, h2⟩, h3⟩, h4⟩ := h
  refine ⟨fun r hr => ?_, h2, h3, by omega⟩
  have g := List.all_eq_true.1 h1 r hr
  have b := hb r hr
  unfold recOk at g
  simp only [Bool.and_eq_true, decide_eq_true_eq] at g
  rw [wrap64_id r.f0 (by omega) (by omega), wrap64_id r.f1 (by omega) (by omega), wrap64_id r.f2 (by omega) (by omega), wrap64_id (p - 1) (by omega) (by omega), wrap64_id (t - 1) (by omega) (by omega)] at g
  exact ⟨g.1.1, g.1.2, g.2⟩
theorem mem_rdr (s : List S38) (i : Nat) (h : i < s.length) : rd_T38 s (i : Int) ∈ s := by
  have h2 : rd_T38 s (i : Int) = s.getD i z38 := by simp [rd_T38]
  rw [h2, List.getD_eq_getElem?_getD, List.getElem?_eq_getElem h]
  exact List.getElem_mem _
theorem cv_bounds (l : List S40) (hw : ∀ x ∈ l, ((Lit.int .i8 x.f0).wf = true) ∧ ((Lit.int .i8 x.f1).wf = true) ∧ ((Lit.int .i16 x.f2).wf = true)) : ∀ r ∈ l.map cvRecord, (-128 ≤ r.f0 ∧ r.f0 ≤ 127) ∧ (-128 ≤ r.f1 ∧ r.f1 ≤ 127) ∧ (-32768 ≤ r.f2 ∧ r.f2 ≤ 32767) := by
  intro r hr
  obtain ⟨x, hx, rfl⟩ := List.mem_map.1 hr
  obtain ⟨h0, h1, h2⟩ := hw x hx
  exact ⟨wf_i8 h0, wf_i8 h1, wf_i16 h2⟩
def toR3 (x : S38) : Int × Int × Int := (x.f0, x.f1, x.f2)
def ofR3 (t : Int × Int × Int) : S38 := ⟨t.1, t.2.1, t.2.2⟩
def outR (l : List S38) (i : Nat) : List S38 := (Go.Proofs.Ytbhgjengdkofaaa.H.sortIn Go.Proofs.Ytbhgjengdkofaaa.H.recLt ((l.take i).map toR3)).map ofR3
theorem rd_rec_get (l : List S38) (i : Nat) (h : i < l.length) : rd_T38 l (i : Int) = l[i] := by
  have h2 : rd_T38 l (i : Int) = l.getD i z38 := by simp [rd_T38]
  rw [h2, List.getD_eq_getElem?_getD, List.getElem?_eq_getElem h]; rfl
theorem outR_len (l : List S38) (i : Nat) (h : i ≤ l.length) : (outR l i).length = i := by
  unfold outR
  rw [List.length_map, (Go.Proofs.Ytbhgjengdkofaaa.H.sortIn_perm Go.Proofs.Ytbhgjengdkofaaa.H.recTot _).length_eq, List.length_map, List.length_take]; omega
theorem outR_map (l : List S38) (i : Nat) : (outR l i).map toR3 = Go.Proofs.Ytbhgjengdkofaaa.H.sortIn Go.Proofs.Ytbhgjengdkofaaa.H.recLt ((l.take i).map toR3) := by
  unfold outR
  rw [List.map_map, show (toR3 ∘ ofR3) = id from rfl, List.map_id]
def scanR (x : S38) (o : List S38) (n : Nat) : Nat := Go.Proofs.Ytbhgjengdkofaaa.H.scanAt Go.Proofs.Ytbhgjengdkofaaa.H.recLt (toR3 x) (o.map toR3) n
theorem outR_succ (l : List S38) (i : Nat) (h : i < l.length) : outR l (i + 1) = ((outR l i).take (scanR (rd_T38 l (i : Int)) (outR l i) i) ++ [rd_T38 l (i : Int)]) ++ (outR l i).drop (scanR (rd_T38 l (i : Int)) (outR l i) i) := by
  have hl := outR_len l i (by omega)
  unfold scanR
  rw [outR_map, rd_rec_get l i h]
  have hl2 : (Go.Proofs.Ytbhgjengdkofaaa.H.sortIn Go.Proofs.Ytbhgjengdkofaaa.H.recLt ((l.take i).map toR3)).length = i := by rw [← outR_map, List.length_map, hl]
  conv => lhs; unfold outR
  rw [List.take_succ_eq_append_getElem h, List.map_append, List.map_singleton, Go.Proofs.Ytbhgjengdkofaaa.H.sortIn_snoc]
  unfold Go.Proofs.Ytbhgjengdkofaaa.H.putIn
  rw [hl2]
  unfold outR
  simp [List.map_take, List.map_drop, show ∀ x, ofR3 (toR3 x) = x from fun _ => rfl]
theorem scanR_step (x : S38) (o : List S38) (a : Nat) (h : a < o.length) : scanR x o (a + 1) = if Go.Proofs.Ytbhgjengdkofaaa.H.recLt (toR3 x) (toR3 (rd_T38 o (a : Int))) = true then scanR x o a else a + 1 := by
  unfold scanR
  conv => lhs; unfold Go.Proofs.Ytbhgjengdkofaaa.H.scanAt
  rw [show (o.map toR3).getD a default = toR3 (rd_T38 o (a : Int)) by rw [rd_rec_get o a h]; simp [List.getD_eq_getElem?_getD, List.getElem?_map, List.getElem?_eq_getElem h]]
theorem sorted_l1 (l : List S38) (hl : l.length ≤ 1000) (i : Nat) (hi : i < l.length) : ∀ (a k : Nat), a ≤ i → a < k → scanR (rd_T38 l (i : Int)) (outR l i) i = scanR (rd_T38 l (i : Int)) (outR l i) a → ∃ q, k ≤ q + a + 1 ∧ spec_l05Sorted.l1 k l (outR l i) (i : Int) (a : Int) = spec_l05Sorted.l0 q l (outR l (i + 1)) ((i + 1 : Nat) : Int) := by
  have ho := outR_len l i (by omega)
  have hs := outR_succ l i hi
  intro a
  induction a with
  | zero =>
    intro k h1 h2 h3
    obtain ⟨k, rfl⟩ : ∃ m, k = m + 1 := ⟨k - 1, by omega⟩
    refine ⟨k, by omega, ?_⟩
    rw [h3, show scanR (rd_T38 l (i : Int)) (outR l i) 0 = 0 from rfl] at hs
    rw [hs]
    simp only [spec_l05Sorted.l1]
    rw [if_neg (by omega), Option.bind_some, if_pos (by omega), if_pos (by omega), Option.bind_some, if_pos (by simp; omega), Option.bind_some, Option.bind_some, if_pos (by omega), if_pos (by omega), if_pos (by simp), Option.bind_some, if_pos (by simp; omega), wrap_nat i (by omega)]
    rfl
  | succ a ih =>
    intro k h1 h2 h3
    obtain ⟨k, rfl⟩ : ∃ m, k = m + 1 := ⟨k - 1, by omega⟩
    have hst := scanR_step (rd_T38 l (i : Int)) (outR l i) a (by omega)
    simp only [spec_l05Sorted.l1]
    rw [wrap64_id _ (by omega) (by omega), show ((a + 1 : Nat) : Int) - 1 = (a : Int) by omega, if_pos (by omega), if_pos (by omega), if_pos (by omega), if_pos (by omega), if_pos (by omega)]
    rw [show spec_l05Before.f (rd_T38 l (i : Int)).f0 (rd_T38 l (i : Int)).f1 (rd_T38 l (i : Int)).f2 (rd_T38 (outR l i) (a : Int)).f0 (rd_T38 (outR l i) (a : Int)).f1 (rd_T38 (outR l i) (a : Int)).f2 = some (Go.Proofs.Ytbhgjengdkofaaa.H.recLt (toR3 (rd_T38 l (i : Int))) (toR3 (rd_T38 (outR l i) (a : Int)))) from rfl, Option.bind_some]
    by_cases e : Go.Proofs.Ytbhgjengdkofaaa.H.recLt (toR3 (rd_T38 l (i : Int))) (toR3 (rd_T38 (outR l i) (a : Int))) = true
    · rw [if_pos e] at hst
      rw [if_pos e]
      obtain ⟨q, q1, q2⟩ := ih k (by omega) (by omega) (h3.trans hst)
      exact ⟨q, by omega, q2⟩
    · rw [if_neg e] at hst
      refine ⟨k, by omega, ?_⟩
      rw [h3, hst] at hs
      rw [hs, if_neg e, Option.bind_some, if_pos (by omega), if_pos (by omega), Option.bind_some, if_pos (by simp; omega), Option.bind_some, Option.bind_some, if_pos (by simp; omega), Option.bind_some, if_pos (by simp; omega), wrap_nat i (by omega), Int.toNat_natCast, List.nil_append]
theorem sorted_l0 (l : List S38) (hl : l.length ≤ 1000) : ∀ (d i k : Nat), i + d = l.length → d * 1003 < k → spec_l05Sorted.l0 k l (outR l i) (i : Int) = some (outR l l.length) := by
  intro d
  induction d with
  | zero =>
    intro i k hi hk
    obtain ⟨k, rfl⟩ : ∃ m, k = m + 1 := ⟨k - 1, by omega⟩
    obtain rfl : i = l.length := by omega
    simp only [spec_l05Sorted.l0]
    rw [if_neg (by omega)]
  | succ d ih =>
    intro i k hi hk
    obtain ⟨D, hD⟩ : ∃ D, D = d * 1003 := ⟨_, rfl⟩
    rw [Nat.succ_mul, ← hD] at hk
    have ih' := fun q (hq : D < q) => ih (i + 1) q (by omega) (by rw [← hD]; exact hq)
    clear ih hD
    obtain ⟨k, rfl⟩ : ∃ m, k = m + 1 := ⟨k - 1, by omega⟩
    have ho := outR_len l i (by omega)
    obtain ⟨q, q1, q2⟩ := sorted_l1 l hl i (by omega) i k (Nat.le_refl _) (by omega) rfl
    simp only [spec_l05Sorted.l0]
    rw [if_pos (by omega), ho, q2]
    exact ih' q (by omega)
def sortR (l : List S38) : List S38 := outR l l.length
theorem sortR_len (l : List S38) : (sortR l).length = l.length := outR_len l _ (Nat.le_refl _)
theorem specSorted_eq (l : List S38) (hl : l.length ≤ 1000) (k : Nat) (hk : 2000000 < k) : spec_l05Sorted.f k l = some (sortR l) := by
  unfold spec_l05Sorted.f
  have := sorted_l0 l hl l.length 0 k (by omega) (by omega)
  exact this
theorem implSorted_eq (l : List S38) (hl : l.length ≤ 1000) : impl_sorted.f l = some (sortR l) := by
  unfold impl_sorted.f sortR outR
  rw [if_pos hl, List.take_length]; rfl

theorem recsOk_len (p t : Int) (l : List S38) (h : recsOk p t l = true) : l.length ≤ 80 := by
  unfold recsOk at h
  simp only [Bool.and_eq_true, decide_eq_true_eq] at h
  omega
theorem mem_sortR (l : List S38) (x : S38) (h : x ∈ sortR l) : x ∈ l := by
  unfold sortR outR at h
  obtain ⟨t, ht, rfl⟩ := List.mem_map.1 h
  have := (Go.Proofs.Ytbhgjengdkofaaa.H.sortIn_perm Go.Proofs.Ytbhgjengdkofaaa.H.recTot ((l.take l.length).map toR3)).mem_iff.1 ht
  rw [List.take_length] at this
  obtain ⟨y, hy, rfl⟩ := List.mem_map.1 this
  exact hy
def anyV (s : List S38) (i : Nat) : Nat → Nat → Bool
  | 0, _ => false
  | d + 1, j => (decide ((rd_T38 s (j : Int)).f0 = (rd_T38 s (i : Int)).f0) && decide ((rd_T38 s (i : Int)).f1 < (rd_T38 s (j : Int)).f1)) || anyV s i d (j + 1)
theorem anyV_succ (s : List S38) (i d j : Nat) : anyV s i (d + 1) j = ((decide ((rd_T38 s (j : Int)).f0 = (rd_T38 s (i : Int)).f0) && decide ((rd_T38 s (i : Int)).f1 < (rd_T38 s (j : Int)).f1)) || anyV s i d (j + 1)) := rfl
theorem anyV_iff (s : List S38) (i : Nat) : ∀ (d j : Nat), anyV s i d j = true ↔ ∃ t, j ≤ t ∧ t < j + d ∧ (rd_T38 s (t : Int)).f0 = (rd_T38 s (i : Int)).f0 ∧ (rd_T38 s (i : Int)).f1 < (rd_T38 s (t : Int)).f1
  | 0, j => by
    constructor
    · intro h; exact absurd h (by simp [anyV])
    · rintro ⟨t, h1, h2, _⟩; omega
  | d + 1, j => by
    have ih := anyV_iff s i d (j + 1)
    unfold anyV
    rw [Bool.or_eq_true, Bool.and_eq_true, decide_eq_true_eq, decide_eq_true_eq, ih]
    constructor
    · rintro (⟨h1, h2⟩ | ⟨t, h1, h2, h3, h4⟩)
      · exact ⟨j, Nat.le_refl _, by omega, h1, h2⟩
      · exact ⟨t, by omega, by omega, h3, h4⟩
    · rintro ⟨t, h1, h2, h3, h4⟩
      by_cases e : t = j
      · subst e; exact Or.inl ⟨h3, h4⟩
      · exact Or.inr ⟨t, by omega, by omega, h3, h4⟩
theorem backS_l1 (s : List S38) (hl : s.length ≤ 1000) (i : Nat) (hi : i < s.length) : ∀ (d j k : Nat), j + d = i → d < k → spec_FirstBackward.l1 k s (i : Int) (j : Int) = if anyV s i d j = true then some ((i : Int), 0) else spec_FirstBackward.l0 (k - (d + 1)) s ((i + 1 : Nat) : Int) := by
  intro d
  induction d with
  | zero =>
    intro j k hj hk
    obtain ⟨k, rfl⟩ : ∃ m, k = m + 1 := ⟨k - 1, by omega⟩
    simp only [spec_FirstBackward.l1]
    rw [if_neg (by omega), wrap_nat i (by omega), if_neg (by simp [anyV])]
    simp
  | succ d ih =>
    intro j k hj hk
    obtain ⟨k, rfl⟩ : ∃ m, k = m + 1 := ⟨k - 1, by omega⟩
    simp only [spec_FirstBackward.l1]
    rw [if_pos (by omega), if_pos (by omega), if_pos (by omega), if_pos (by omega), if_pos (by omega), wrap_nat j (by omega), ih (j + 1) k (by omega) (by omega), show k + 1 - (d + 1 + 1) = k - (d + 1) by omega, anyV_succ]
    by_cases e1 : (rd_T38 s (j : Int)).f0 = (rd_T38 s (i : Int)).f0
    · rw [if_pos e1, decide_eq_true e1, Bool.true_and]
      by_cases e2 : (rd_T38 s (j : Int)).f1 > (rd_T38 s (i : Int)).f1
      · rw [if_pos e2, decide_eq_true e2, if_pos (by rfl)]
      · rw [if_neg e2, decide_eq_false e2, Bool.false_or]
    · rw [if_neg e1, decide_eq_false e1, Bool.false_and, Bool.false_or]
structure FarI (s : List S38) (far : Nat → Int) (i : Nat) : Prop where
  up : ∀ t, t < i → (rd_T38 s (t : Int)).f1 ≤ far (rd_T38 s (t : Int)).f0.toNat
  at_ : ∀ p, far p = 0 ∨ ∃ t, t < i ∧ (rd_T38 s (t : Int)).f0.toNat = p ∧ (rd_T38 s (t : Int)).f1 = far p
theorem backS_l0 (s : List S38) (hl : s.length ≤ 1000) (hg : ∀ x ∈ s, (0 ≤ x.f0 ∧ x.f0 < 14) ∧ 0 ≤ x.f1) : ∀ (d i k : Nat) (far : Nat → Int), i + d = s.length → d * 1003 < k → FarI s far i → spec_FirstBackward.l0 k s (i : Int) = some (impl_FirstBackward.bk far (s.drop i) i) := by
  intro d
  induction d with
  | zero =>
    intro i k far hi hk hF
    obtain ⟨k, rfl⟩ : ∃ m, k = m + 1 := ⟨k - 1, by omega⟩
    simp only [spec_FirstBackward.l0]
    rw [if_neg (by omega), List.drop_eq_nil_of_le (by omega)]
    rfl
  | succ d ih =>
    intro i k far hi hk hF
    obtain ⟨D, hD⟩ : ∃ D, D = d * 1003 := ⟨_, rfl⟩
    rw [Nat.succ_mul, ← hD] at hk
    have ih' := fun q far (hq : D < q) => ih (i + 1) q far (by omega) (by rw [← hD]; exact hq)
    clear ih hD
    obtain ⟨k, rfl⟩ : ∃ m, k = m + 1 := ⟨k - 1, by omega⟩
    simp only [spec_FirstBackward.l0]
    rw [if_pos (by omega)]
    have h1 := backS_l1 s hl i (by omega) i 0 k (by omega) (by omega)
    rw [show ((0 : Nat) : Int) = 0 from rfl] at h1
    rw [h1, drop_rec s i (by omega)]
    have hx := hg _ (mem_rdr s i (by omega))
    have hkey : anyV s i i 0 = true ↔ (rd_T38 s (i : Int)).f1 < far (rd_T38 s (i : Int)).f0.toNat := by
      rw [anyV_iff]
      constructor
      · rintro ⟨t, _, h2, h3, h4⟩
        have := hF.up t (by omega)
        rw [h3] at this
        omega
      · intro h
        rcases hF.at_ (rd_T38 s (i : Int)).f0.toNat with h0 | ⟨t, t1, t2, t3⟩
        · omega
        · have hy := hg _ (mem_rdr s t (by omega))
          exact ⟨t, by omega, by omega, by omega, by omega⟩
    simp only [impl_FirstBackward.bk]
    by_cases e : (rd_T38 s (i : Int)).f1 < far (rd_T38 s (i : Int)).f0.toNat
    · rw [if_pos (hkey.2 e), if_pos e]
    · rw [if_neg (fun z => e (hkey.1 z)), if_neg e]
      refine ih' (k - (i + 1)) _ (by omega) ⟨fun t ht => ?_, fun p => ?_⟩
      · by_cases et : t = i
        · subst et; rw [if_pos rfl]; exact Int.le_refl _
        · by_cases ep : (rd_T38 s (t : Int)).f0.toNat = (rd_T38 s (i : Int)).f0.toNat
          · rw [if_pos ep]
            have := hF.up t (by omega)
            have hy := hg _ (mem_rdr s t (by omega))
            have hno : ¬ (rd_T38 s (i : Int)).f1 < (rd_T38 s (t : Int)).f1 := fun z => e (hkey.1 ((anyV_iff s i i 0).2 ⟨t, by omega, by omega, by omega, z⟩))
            omega
          · rw [if_neg ep]; exact hF.up t (by omega)
      · by_cases ep : p = (rd_T38 s (i : Int)).f0.toNat
        · rw [if_pos ep]
          exact Or.inr ⟨i, by omega, ep.symm, rfl⟩
        · rw [if_neg ep]
          rcases hF.at_ p with h0 | ⟨t, t1, t2, t3⟩
          · exact Or.inl h0
          · exact Or.inr ⟨t, by omega, t2, t3⟩
def finB (p t : Int) (l : List S38) : Int × Int := if recsOk p t l = true then impl_FirstBackward.bk (fun _ => 0) (sortR l) 0 else (0, 1)
theorem sort_good (p t : Int) (l : List S38) (hb : ∀ r ∈ l, (-128 ≤ r.f0 ∧ r.f0 ≤ 127) ∧ (-128 ≤ r.f1 ∧ r.f1 ≤ 127) ∧ (-32768 ≤ r.f2 ∧ r.f2 ≤ 32767)) (c : recsOk p t l = true) : ∀ x ∈ sortR l, (0 ≤ x.f0 ∧ x.f0 < 14) ∧ 0 ≤ x.f1 := fun x hx => by
  obtain ⟨h1, h2, _⟩ := good_of p t l hb c
  have := h1 x (mem_sortR l x hx)
  omega
theorem specBack_eq (p t : Int) (l : List S38) (hl : l.length ≤ 1048576) (hb : ∀ r ∈ l, (-128 ≤ r.f0 ∧ r.f0 ≤ 127) ∧ (-128 ≤ r.f1 ∧ r.f1 ≤ 127) ∧ (-32768 ≤ r.f2 ∧ r.f2 ≤ 32767)) (k : Nat) (hk : 2000000 < k) : spec_FirstBackward.f k p t l = some (finB p t l) := by
  unfold spec_FirstBackward.f finB
  rw [l05Records_eq p t l hl k (by omega), Option.bind_some]
  by_cases c : recsOk p t l = true
  · have h80 := recsOk_len p t l c
    have hsl := sortR_len l
    rw [if_pos c, if_pos c, specSorted_eq l (by omega) k hk, Option.bind_some]
    have := backS_l0 (sortR l) (by omega) (sort_good p t l hb c) (sortR l).length 0 k (fun _ => 0) (by omega) (by omega) ⟨fun t ht => by omega, fun _ => Or.inl rfl⟩
    rw [show ((0 : Nat) : Int) = 0 from rfl, List.drop_zero] at this
    exact this
  · rw [if_neg c, if_neg c]
theorem implBack_eq (p t : Int) (l : List S38) (hl : l.length ≤ 1048576) (hb : ∀ r ∈ l, (-128 ≤ r.f0 ∧ r.f0 ≤ 127) ∧ (-128 ≤ r.f1 ∧ r.f1 ≤ 127) ∧ (-32768 ≤ r.f2 ∧ r.f2 ≤ 32767)) (k : Nat) (hk : 2000000 < k) : impl_FirstBackward.f k p t l = some (finB p t l) := by
  unfold impl_FirstBackward.f finB
  rw [implRecords_eq p t l hl k (by omega), Option.bind_some]
  by_cases c : recsOk p t l = true
  · have h80 := recsOk_len p t l c
    have hsl := sortR_len l
    rw [if_pos c, if_pos c, implSorted_eq l (by omega), Option.bind_some, if_pos ⟨by omega, fun x hx => (sort_good p t l hb c x hx).1⟩]
  · rw [if_neg c, if_neg c]

theorem szRecordS_eq (l : List S40) (a : Int) (h0 : 0 ≤ a) (h1 : a ≤ 1048576) (hl : l.length ≤ 9223372036854775807) : laws_szRecordS.f l a = some (if a < l.length then -1 else a - l.length) := by
  unfold laws_szRecordS.f
  rw [wrap64_id _ (by omega) (by omega)]
  by_cases h : a < (l.length : Int)
  · rw [if_pos (by omega), if_pos h]
  · rw [if_neg (by omega), if_neg h]

instance decRecord : DecidableEq S38 := fun x y =>
  if h : x.f0 = y.f0 ∧ x.f1 = y.f1 ∧ x.f2 = y.f2 then isTrue (by obtain ⟨a, b, c⟩ := x; obtain ⟨a', b', c'⟩ := y; simp only at h; rw [h.1, h.2.1, h.2.2]) else isFalse (fun e => h (by rw [e]; exact ⟨rfl, rfl, rfl⟩))
theorem eqRecord_eq (x y : S38) : laws_eqRecord.f x.f0 x.f1 x.f2 y.f0 y.f1 y.f2 = some (decide (x = y)) := by
  obtain ⟨a, b, c⟩ := x
  obtain ⟨a', b', c'⟩ := y
  unfold laws_eqRecord.f
  by_cases h1 : a = a' <;> by_cases h2 : b = b' <;> by_cases h3 : c = c' <;> simp [h1, h2, h3]
theorem eqRecordS_l0 (a b : List S38) (hab : a.length = b.length) (hl : a.length ≤ 1048576) : ∀ (d i k : Nat), i + d = a.length → d < k → laws_eqRecordS.l0 k a b (i : Int) = some (decide (a.drop i = b.drop i)) := by
  intro d
  induction d with
  | zero =>
    intro i k hi hk
    obtain ⟨k, rfl⟩ : ∃ m, k = m + 1 := ⟨k - 1, by omega⟩
    simp only [laws_eqRecordS.l0]
    rw [if_neg (by omega), List.drop_eq_nil_of_le (by omega), List.drop_eq_nil_of_le (by omega)]
    simp
  | succ d ih =>
    intro i k hi hk
    obtain ⟨k, rfl⟩ : ∃ m, k = m + 1 := ⟨k - 1, by omega⟩
    have ha : a.drop i = rd_T38 a (i : Int) :: a.drop (i + 1) := by
      rw [drop_getD z38 a i (by omega)]; simp [rd_T38]
    have hb : b.drop i = rd_T38 b (i : Int) :: b.drop (i + 1) := by
      rw [drop_getD z38 b i (by omega)]; simp [rd_T38]
    simp only [laws_eqRecordS.l0]
    rw [if_pos (by omega), if_pos (by omega), if_pos (by omega), ha, hb]
    rw [eqRecord_eq (rd_T38 a (i : Int)) (rd_T38 b (i : Int))]
    simp only [Option.bind_some]
    by_cases e : rd_T38 a (i : Int) = rd_T38 b (i : Int)
    · rw [decide_eq_true e, if_pos rfl, wrap_nat i (by omega), ih (i + 1) k (by omega) (by omega)]
      simp [e]
    · rw [decide_eq_false e, if_neg (by decide)]
      simp [e]
theorem eqRecordS_eq (a b : List S38) (hl : a.length ≤ 1048576) (k : Nat) (hk : a.length < k) : laws_eqRecordS.f k a b = some (decide (a = b)) := by
  unfold laws_eqRecordS.f
  by_cases h : a.length = b.length
  · rw [if_pos (by omega)]
    have := eqRecordS_l0 a b h hl a.length 0 k (by omega) hk
    simpa using this
  · rw [if_neg (by omega)]
    have : a ≠ b := fun e => h (by rw [e])
    simp [this]

theorem main : laws_FnExactFirstBackward.Pure := by
  intro p t l _ _ hl
  refine rounds_of 3000000 fun k hk => ?_
  unfold laws_FnExactFirstBackward.f
  rw [szRecordS_eq l 1048576 (by decide) (by decide) hl.1, Option.bind_some]
  by_cases h : (1048576 : Int) < (l.length : Int)
  · rw [if_pos h, if_pos (by decide)]
  · have hm : (l.map cvRecord).length ≤ 1048576 := by rw [List.length_map]; omega
    have hb := cv_bounds l hl.2
    rw [if_neg h, if_neg (by omega), toRecordS_eq l (by omega) k (by omega)]
    simp only [Option.bind_some]
    rw [specBack_eq p t _ hm hb k (by omega), implBack_eq p t _ hm hb k (by omega)]
    simp only [Option.bind_some, if_true]
    obtain ⟨k, rfl⟩ : ∃ m, k = m + 1 := ⟨k - 1, by omega⟩
    simp only [laws_FnExactFirstBackward.j0]
    rw [if_neg (by simp), toRecordS_eq l (by omega) _ (by omega)]
    simp only [Option.bind_some]
    rw [eqRecordS_eq _ _ hm _ (by omega)]
    simp only [Option.bind_some, decide_true, if_true]

end Go.Proofs.Ytbhgjengdkofaaa.PureFnExactFirstBackward
namespace Go.Proofs.Ytbhgjengdkofaaa.Pure
theorem FnExactFirstBackward : Go.Proofs.Ytbhgjengdkofaaa.P.laws_FnExactFirstBackward.Pure := Go.Proofs.Ytbhgjengdkofaaa.PureFnExactFirstBackward.main
end Go.Proofs.Ytbhgjengdkofaaa.Pure
