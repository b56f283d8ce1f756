/- For all numbers of people and stations and every list of records the program's LogFrom returns the reference's log and code, in memory of its own, and leaves the records as they were; no condition. -/
import Derived.Test.YtfmjfnnkkoekbaaP45
import Derived.Laws.BitsLemmas
namespace Go.Proofs.Ytfmjfnnkkoekbaa.PureFnExactLogFrom
open Go.RowKit Go.Proofs.Ytfmjfnnkkoekbaa.P Go.Proofs.YtfmjfnnkkoekbaaW.PrintWords Go.Proofs.YtfmjfnnkkoekbaaW.PrintLast
set_option linter.unusedSimpArgs false
set_option linter.unusedVariables false

theorem wrap64_id (x : Int) (h0 : -9223372036854775808 ≤ x) (h1 : x ≤ 9223372036854775807) : wrap64 x = x := by unfold wrap64; omega
theorem wrap_nat (n : Nat) (h : n < 4611686018427387904) : wrap64 ((n : Int) + 1) = ((n + 1 : Nat) : Int) := by
  rw [wrap64_id _ (by omega) (by omega)]; omega
theorem rd_nat (l : List Int) (i : Nat) : rd l (i : Int) = l.getD i 0 := by simp [rd]
theorem drop_rd (l : List Int) (i : Nat) (h : i < l.length) : l.drop i = rd l (i : Int) :: l.drop (i + 1) := by
  rw [List.drop_eq_getElem_cons h, rd_nat, List.getD_eq_getElem?_getD, List.getElem?_eq_getElem h]; rfl
theorem drop_getD {α : Type} (z : α) (l : List α) (i : Nat) (h : i < l.length) : l.drop i = l.getD i z :: l.drop (i + 1) := by
  rw [List.drop_eq_getElem_cons h, List.getD_eq_getElem?_getD, List.getElem?_eq_getElem h]; rfl
theorem take_getD {α : Type} (z : α) (l : List α) (i : Nat) (h : i < l.length) : l.take (i + 1) = l.take i ++ [l.getD i z] := by
  rw [List.take_succ_eq_append_getElem h, List.getD_eq_getElem?_getD, List.getElem?_eq_getElem h]; rfl
theorem set_rep {α : Type} (a : List α) (i d : Nat) (z v : α) (h : a.length = i) : (a ++ List.replicate (d + 1) z).set i v = (a ++ [v]) ++ List.replicate d z := by
  subst h
  rw [List.set_append_right _ _ (Nat.le_refl _), Nat.sub_self, List.replicate_succ, List.set_cons_zero]
  simp
theorem set_drop {α : Type} (a g : List α) (i : Nat) (v : α) (h : a.length = i) (hg : i < g.length) : (a ++ g.drop i).set i v = (a ++ [v]) ++ g.drop (i + 1) := by
  subst h
  rw [List.set_append_right _ _ (Nat.le_refl _), Nat.sub_self, List.drop_eq_getElem_cons hg, List.set_cons_zero]
  simp
theorem getD_range_map {α : Type} (z : α) (f : Nat → α) (n i : Nat) (h : i < n) : ((List.range n).map f).getD i z = f i := by
  rw [List.getD_eq_getElem?_getD, List.getElem?_map, List.getElem?_range h]; rfl
theorem rounds_of (B : Nat) {α : Type} {F : Nat → Option α} {v : α} (h : ∀ k, B ≤ k → F k = some v) : ∃ k, F k = some v := ⟨B, h B (Nat.le_refl _)⟩

theorem wrap_u16 (n : Int) : IntKind.u16.wrap n = n % 65536 := by simp [IntKind.wrap, IntKind.bits, IntKind.signed]
theorem wrap_u64 (n : Int) : IntKind.u64.wrap n = n % 18446744073709551616 := by simp [IntKind.wrap, IntKind.bits, IntKind.signed]
theorem wraps_u16 (n : Int) (h₀ : 0 ≤ n) (h₁ : n < 2 ^ 16) : IntKind.u16.wrap n = n := by rw [wrap_u16]; omega
theorem wrap_u64_id (n : Int) (h0 : 0 ≤ n) (h1 : n < 18446744073709551616) : IntKind.u64.wrap n = n := by rw [wrap_u64]; omega
theorem wf_i16 {a : Int} (h : (Lit.int .i16 a).wf = true) : -32768 ≤ a ∧ a ≤ 32767 := by
  simp [Lit.wf, IntKind.min, IntKind.max, IntKind.bits, IntKind.signed] at h
  omega
theorem wf_i8 {a : Int} (h : (Lit.int .i8 a).wf = true) : -128 ≤ a ∧ a ≤ 127 := by
  simp [Lit.wf, IntKind.min, IntKind.max, IntKind.bits, IntKind.signed] at h
  omega
theorem shr_range (a n : Int) (h0 : 0 ≤ a) (h1 : a < 65536) : 0 ≤ shr .u16 a n ∧ shr .u16 a n < 65536 := by
  unfold shr
  have hp : (0 : Int) < 2 ^ min n.toNat IntKind.u16.bits := Int.pow_pos (by decide)
  constructor
  · exact Int.ediv_nonneg h0 (Int.le_of_lt hp)
  · exact Int.lt_of_le_of_lt (Int.ediv_le_self _ h0) h1
theorem bits_u16 (op : BinOp) (x y : Int) : 0 ≤ Go.bits op .u16 x y ∧ Go.bits op .u16 x y < 65536 := by
  unfold Go.bits
  split <;> (rw [wrap_u16]; omega)

theorem in_eq (a b c : Int) : spec_l00In.f a b c = some (decide (b ≤ a ∧ a ≤ c)) := by
  unfold spec_l00In.f
  by_cases h : b ≤ a
  · rw [if_pos (by omega)]; simp [h]
  · rw [if_neg (by omega)]; simp [h]
theorem within_eq (a b c : Int) : impl_within.f a b c = some (decide (b ≤ a ∧ a ≤ c)) := by
  unfold impl_within.f
  by_cases h : b ≤ a
  · rw [if_pos (by omega)]; simp [h]
  · rw [if_neg (by omega)]; simp [h]
/-- Is number i in the set p? -/
def hasB (p i : Int) : Bool := shr .u16 p i % 2 == 1
theorem l05Has_eq (p i : Int) (h0 : 0 ≤ p) (h1 : p < 65536) (hi : 0 ≤ i) (hi2 : i < 18446744073709551616) : spec_l05Has.f p i = some (hasB p i) := by
  unfold spec_l05Has.f
  rw [wrap_u64_id i hi hi2, if_pos hi, Int.tmod_eq_emod_of_nonneg (shr_range p i h0 h1).1]
  rfl
def recOk (p t : Int) (r : S82) : Bool :=
  decide (0 ≤ wrap64 r.f0 ∧ wrap64 r.f0 ≤ wrap64 (p - 1)) && decide (0 ≤ wrap64 r.f1 ∧ wrap64 r.f1 ≤ wrap64 (t - 1)) && decide (0 ≤ wrap64 r.f2 ∧ wrap64 r.f2 ≤ 10000)
def recsOk (p t : Int) (l : List S82) : Bool :=
  l.all (recOk p t) && decide (1 ≤ p ∧ p ≤ 14) && decide (1 ≤ t ∧ t ≤ 12) && decide ((l.length : Int) ≤ 80)
theorem drop_rec (l : List S82) (i : Nat) (h : i < l.length) : l.drop i = rd_T82 l (i : Int) :: l.drop (i + 1) := by
  rw [drop_getD z82 l i h]; simp [rd_T82]
theorem l05Records_l0 (p t : Int) (l : List S82) (hl : l.length ≤ 1048576) : ∀ (d i k : Nat), i + d = l.length → d < k → spec_l05Records.l0 k p t l (i : Int) = some ((l.drop i).all (recOk p t) && decide (1 ≤ p ∧ p ≤ 14) && decide (1 ≤ t ∧ t ≤ 12) && decide ((l.length : Int) ≤ 80)) := by
  intro d
  induction d with
  | zero =>
    intro i k hi hk
    obtain ⟨k, rfl⟩ : ∃ m, k = m + 1 := ⟨k - 1, by omega⟩
    simp only [spec_l05Records.l0]
    rw [if_neg (by omega), List.drop_eq_nil_of_le (by omega), in_eq, in_eq]
    by_cases h1 : 1 ≤ p ∧ p ≤ 14 <;> by_cases h2 : 1 ≤ t ∧ t ≤ 12 <;> simp [h1, h2]
  | succ d ih =>
    intro i k hi hk
    obtain ⟨k, rfl⟩ : ∃ m, k = m + 1 := ⟨k - 1, by omega⟩
    simp only [spec_l05Records.l0]
    rw [if_pos (by omega), if_pos (by omega), in_eq, in_eq, in_eq, drop_rec l i (by omega), wrap_nat i (by omega), ih (i + 1) k (by omega) (by omega)]
    simp only [Option.bind_some, List.all_cons, recOk]
    generalize rd_T82 l (i : Int) = r
    by_cases h1 : 0 ≤ wrap64 r.f0 ∧ wrap64 r.f0 ≤ wrap64 (p - 1) <;> by_cases h2 : 0 ≤ wrap64 r.f1 ∧ wrap64 r.f1 ≤ wrap64 (t - 1) <;> by_cases h3 : 0 ≤ wrap64 r.f2 ∧ wrap64 r.f2 ≤ 10000 <;> simp [h1, h2, h3]
theorem l05Records_eq (p t : Int) (l : List S82) (hl : l.length ≤ 1048576) (k : Nat) (hk : 1048576 < k) : spec_l05Records.f k p t l = some (recsOk p t l) := by
  unfold spec_l05Records.f
  have := l05Records_l0 p t l hl l.length 0 k (by omega) (by omega)
  rw [show ((0 : Nat) : Int) = 0 from rfl, List.drop_zero] at this
  exact this
theorem recFind_l0 (p t : Int) (l : List S82) (hl : l.length ≤ 1048576) : ∀ (d i k : Nat), i + d = l.length → d < k → ∃ r : Int, slices_IndexFunc_Record_at_ValidRecords_1.l0 k l (l.length : Int) (i : Int) p t = some r ∧ decide (r ≥ 0) = !(l.drop i).all (recOk p t) := by
  intro d
  induction d with
  | zero =>
    intro i k hi hk
    obtain ⟨k, rfl⟩ : ∃ m, k = m + 1 := ⟨k - 1, by omega⟩
    refine ⟨-1, ?_, ?_⟩
    · simp only [slices_IndexFunc_Record_at_ValidRecords_1.l0]
      rw [if_neg (by omega)]
    · rw [List.drop_eq_nil_of_le (by omega)]; simp
  | succ d ih =>
    intro i k hi hk
    obtain ⟨k, rfl⟩ : ∃ m, k = m + 1 := ⟨k - 1, by omega⟩
    have hv : ∀ r : S82, impl_ValidRecords_1.f r.f0 r.f1 r.f2 p t = some (!recOk p t r) := by
      intro r
      unfold impl_ValidRecords_1.f recOk
      simp only [within_eq, Option.bind_some]
      by_cases h1 : 0 ≤ wrap64 r.f0 ∧ wrap64 r.f0 ≤ wrap64 (p - 1) <;> by_cases h2 : 0 ≤ wrap64 r.f1 ∧ wrap64 r.f1 ≤ wrap64 (t - 1) <;> by_cases h3 : 0 ≤ wrap64 r.f2 ∧ wrap64 r.f2 ≤ 10000 <;> simp [h1, h2, h3]
    simp only [slices_IndexFunc_Record_at_ValidRecords_1.l0]
    rw [if_pos (by omega), if_pos (by omega), if_pos (by omega), hv, Option.bind_some, drop_rec l i (by omega), wrap_nat i (by omega)]
    by_cases h : recOk p t (rd_T82 l (i : Int)) = true
    · obtain ⟨r, h1, h2⟩ := ih (i + 1) k (by omega) (by omega)
      refine ⟨r, by rw [if_neg (by simp [h])]; exact h1, ?_⟩
      rw [h2]; simp [h]
    · refine ⟨(i : Int), by rw [if_pos (by simpa using h)], ?_⟩
      simp only [List.all_cons, Bool.eq_false_iff.2 h, Bool.false_and, Bool.not_false]
      exact decide_eq_true (by omega)
theorem implRecords_eq (p t : Int) (l : List S82) (hl : l.length ≤ 1048576) (k : Nat) (hk : 1048576 < k) : impl_ValidRecords.f k p t l = some (recsOk p t l) := by
  unfold impl_ValidRecords.f slices_ContainsFunc_Record_at_ValidRecords_1.f slices_IndexFunc_Record_at_ValidRecords_1.f
  obtain ⟨r, h1, h2⟩ := recFind_l0 p t l hl l.length 0 k (by omega) (by omega)
  rw [show ((0 : Nat) : Int) = 0 from rfl] at h1
  rw [List.drop_zero] at h2
  simp only [within_eq, Option.bind_some, h1, h2, recsOk]
  by_cases g1 : 1 ≤ p ∧ p ≤ 14 <;> by_cases g2 : 1 ≤ t ∧ t ≤ 12 <;> by_cases g3 : (l.length : Int) > 80
  all_goals first
    | (have g4 : ¬ (l.length : Int) ≤ 80 := by omega
       simp [g1, g2, g3, g4])
    | (have g4 : (l.length : Int) ≤ 80 := by omega
       simp [g1, g2, g3, g4])
    | simp [g1, g2, g3]

def cvRecord (x : S104) : S82 := ⟨x.f0, x.f1, x.f2⟩
theorem toRecordS_l0 (l : List S104) (hl : l.length ≤ 1048576) : ∀ (d i k : Nat), i + d = l.length → d < k → laws_toRecordS.l0 k l ((l.map cvRecord).take i ++ List.replicate d z82) (i : Int) = some (l.map cvRecord) := by
  intro d
  induction d with
  | zero =>
    intro i k hi hk
    obtain ⟨k, rfl⟩ : ∃ m, k = m + 1 := ⟨k - 1, by omega⟩
    simp only [laws_toRecordS.l0]
    rw [if_neg (by omega), List.take_of_length_le (by simp; omega)]
    simp
  | succ d ih =>
    intro i k hi hk
    obtain ⟨k, rfl⟩ : ∃ m, k = m + 1 := ⟨k - 1, by omega⟩
    have hlen : (((l.map cvRecord).take i ++ List.replicate (d + 1) z82).length : Int) = l.length := by simp; omega
    have hg : (l.map cvRecord).getD i z82 = cvRecord (rd_T104 l (i : Int)) := by
      simp [rd_T104, List.getD_eq_getElem?_getD, List.getElem?_map, List.getElem?_eq_getElem (show i < l.length by omega)]
    have hstep := set_rep ((l.map cvRecord).take i) i d z82 (cvRecord (rd_T104 l (i : Int))) (by simp; omega)
    rw [← hg, ← take_getD z82 (l.map cvRecord) i (by simp; omega), hg] at hstep
    simp only [laws_toRecordS.l0, laws_toRecord.f, Option.bind_some]
    rw [if_pos (by omega), if_pos (by omega), if_pos (by rw [hlen]; omega), wrap_nat i (by omega), Int.toNat_natCast]
    exact (congrArg (fun o => laws_toRecordS.l0 k l o ((i + 1 : Nat) : Int)) hstep).trans (ih (i + 1) k (by omega) (by omega))
theorem toRecordS_eq (l : List S104) (hl : l.length ≤ 1048576) (k : Nat) (hk : l.length < k) : laws_toRecordS.f k l = some (l.map cvRecord) := by
  unfold laws_toRecordS.f
  rw [if_pos (by omega), if_pos (by omega)]
  have := toRecordS_l0 l hl l.length 0 k (by omega) hk
  simpa using this

def good (p t : Int) (m : List S82) : Prop := (∀ r ∈ m, (0 ≤ r.f0 ∧ r.f0 ≤ p - 1) ∧ (0 ≤ r.f1 ∧ r.f1 ≤ t - 1) ∧ (0 ≤ r.f2 ∧ r.f2 ≤ 10000)) ∧ (1 ≤ p ∧ p ≤ 14) ∧ (1 ≤ t ∧ t ≤ 12) ∧ m.length ≤ 80
theorem good_of (p t : Int) (m : List S82) (hb : ∀ r ∈ m, (-128 ≤ r.f0 ∧ r.f0 ≤ 127) ∧ (-128 ≤ r.f1 ∧ r.f1 ≤ 127) ∧ (-32768 ≤ r.f2 ∧ r.f2 ≤ 32767)) (h : recsOk p t m = true) : good p t m := by
  unfold recsOk at h
  simp only [Bool.and_eq_true, decide_eq_true_eq] at h
  obtain ⟨⟨⟨h1, h2⟩, h3⟩, h4⟩ := h
  refine ⟨fun r hr => ?_, h2, h3, by omega⟩
  have g := List.all_eq_true.1 h1 r hr
  have b := hb r hr
  unfold recOk at g
  simp only [Bool.and_eq_true, decide_eq_true_eq] at g
  rw [wrap64_id r.f0 (by omega) (by omega), wrap64_id r.f1 (by omega) (by omega), wrap64_id r.f2 (by omega) (by omega), wrap64_id (p - 1) (by omega) (by omega), wrap64_id (t - 1) (by omega) (by omega)] at g
  exact ⟨g.1.1, g.1.2, g.2⟩
theorem mem_rdr (s : List S82) (i : Nat) (h : i < s.length) : rd_T82 s (i : Int) ∈ s := by
  have h2 : rd_T82 s (i : Int) = s.getD i z82 := by simp [rd_T82]
  rw [h2, List.getD_eq_getElem?_getD, List.getElem?_eq_getElem h]
  exact List.getElem_mem _
theorem cv_bounds (l : List S104) (hw : ∀ x ∈ l, ((Lit.int .i8 x.f0).wf = true) ∧ ((Lit.int .i8 x.f1).wf = true) ∧ ((Lit.int .i16 x.f2).wf = true)) : ∀ r ∈ l.map cvRecord, (-128 ≤ r.f0 ∧ r.f0 ≤ 127) ∧ (-128 ≤ r.f1 ∧ r.f1 ≤ 127) ∧ (-32768 ≤ r.f2 ∧ r.f2 ≤ 32767) := by
  intro r hr
  obtain ⟨x, hx, rfl⟩ := List.mem_map.1 hr
  obtain ⟨h0, h1, h2⟩ := hw x hx
  exact ⟨wf_i8 h0, wf_i8 h1, wf_i16 h2⟩
theorem markRec_pos (m : List S82) (hl : m.length ≤ 1048576) : ∀ (d i k : Nat) (x : List S82) (a : Int), x.length = m.length → i + d = m.length → d < k → 0 ≤ a → a ≤ 1 + 3 * (i : Int) → ∃ v, laws_markRecordS.l0 k x a (i : Int) = some v ∧ 0 ≤ v.1 := by
  intro d
  induction d with
  | zero =>
    intro i k x a hx hi hk ha _
    obtain ⟨k, rfl⟩ : ∃ m, k = m + 1 := ⟨k - 1, by omega⟩
    simp only [laws_markRecordS.l0]
    rw [if_neg (by omega)]
    exact ⟨_, rfl, ha⟩
  | succ d ih =>
    intro i k x a hx hi hk ha h3
    obtain ⟨k, rfl⟩ : ∃ m, k = m + 1 := ⟨k - 1, by omega⟩
    simp only [laws_markRecordS.l0, Option.bind_some]
    rw [if_pos (by omega), if_pos (by omega), wrap_nat i (by omega)]
    have w1 : wrap64 (a + 1) = a + 1 := wrap64_id _ (by omega) (by omega)
    have w2 : wrap64 (a + 1 + 1) = a + 1 + 1 := wrap64_id _ (by omega) (by omega)
    have w3 : wrap64 (a + 1 + 1 + 1) = a + 1 + 1 + 1 := wrap64_id _ (by omega) (by omega)
    rw [w1, w2, w3]
    exact ih (i + 1) k _ _ (by simp [hx]) (by omega) (by omega) (by omega) (by omega)
theorem markRec_eq (m : List S82) (hl : m.length ≤ 1048576) (k : Nat) (hk : m.length < k) : ∃ v, laws_markRecordS.f k m 1 = some v ∧ 0 ≤ v.1 := by
  unfold laws_markRecordS.f
  have := markRec_pos m hl m.length 0 k m 1 rfl (by omega) hk (by decide) (by omega)
  exact this

theorem szRecordS_eq (l : List S104) (a : Int) (h0 : 0 ≤ a) (h1 : a ≤ 1048576) (hl : l.length ≤ 9223372036854775807) : laws_szRecordS.f l a = some (if a < l.length then -1 else a - l.length) := by
  unfold laws_szRecordS.f
  rw [wrap64_id _ (by omega) (by omega)]
  by_cases h : a < (l.length : Int)
  · rw [if_pos (by omega), if_pos h]
  · rw [if_neg (by omega), if_neg h]

instance decRecord : DecidableEq S82 := fun x y =>
  if h : x.f0 = y.f0 ∧ x.f1 = y.f1 ∧ x.f2 = y.f2 then isTrue (by obtain ⟨a, b, c⟩ := x; obtain ⟨a', b', c'⟩ := y; simp only at h; rw [h.1, h.2.1, h.2.2]) else isFalse (fun e => h (by rw [e]; exact ⟨rfl, rfl, rfl⟩))
theorem eqRecord_eq (x y : S82) : laws_eqRecord.f x.f0 x.f1 x.f2 y.f0 y.f1 y.f2 = some (decide (x = y)) := by
  obtain ⟨a, b, c⟩ := x
  obtain ⟨a', b', c'⟩ := y
  unfold laws_eqRecord.f
  by_cases h1 : a = a' <;> by_cases h2 : b = b' <;> by_cases h3 : c = c' <;> simp [h1, h2, h3]
theorem eqRecordS_l0 (a b : List S82) (hab : a.length = b.length) (hl : a.length ≤ 1048576) : ∀ (d i k : Nat), i + d = a.length → d < k → laws_eqRecordS.l0 k a b (i : Int) = some (decide (a.drop i = b.drop i)) := by
  intro d
  induction d with
  | zero =>
    intro i k hi hk
    obtain ⟨k, rfl⟩ : ∃ m, k = m + 1 := ⟨k - 1, by omega⟩
    simp only [laws_eqRecordS.l0]
    rw [if_neg (by omega), List.drop_eq_nil_of_le (by omega), List.drop_eq_nil_of_le (by omega)]
    simp
  | succ d ih =>
    intro i k hi hk
    obtain ⟨k, rfl⟩ : ∃ m, k = m + 1 := ⟨k - 1, by omega⟩
    have ha : a.drop i = rd_T82 a (i : Int) :: a.drop (i + 1) := by
      rw [drop_getD z82 a i (by omega)]; simp [rd_T82]
    have hb : b.drop i = rd_T82 b (i : Int) :: b.drop (i + 1) := by
      rw [drop_getD z82 b i (by omega)]; simp [rd_T82]
    simp only [laws_eqRecordS.l0]
    rw [if_pos (by omega), if_pos (by omega), if_pos (by omega), ha, hb]
    rw [eqRecord_eq (rd_T82 a (i : Int)) (rd_T82 b (i : Int))]
    simp only [Option.bind_some]
    by_cases e : rd_T82 a (i : Int) = rd_T82 b (i : Int)
    · rw [decide_eq_true e, if_pos rfl, wrap_nat i (by omega), ih (i + 1) k (by omega) (by omega)]
      simp [e]
    · rw [decide_eq_false e, if_neg (by decide)]
      simp [e]
theorem eqRecordS_eq (a b : List S82) (hl : a.length ≤ 1048576) (k : Nat) (hk : a.length < k) : laws_eqRecordS.f k a b = some (decide (a = b)) := by
  unfold laws_eqRecordS.f
  by_cases h : a.length = b.length
  · rw [if_pos (by omega)]
    have := eqRecordS_l0 a b h hl a.length 0 k (by omega) hk
    simpa using this
  · rw [if_neg (by omega)]
    have : a ≠ b := fun e => h (by rw [e])
    simp [this]

theorem eqPeopleS_l0 (a b : List Int) (hab : a.length = b.length) (hl : a.length ≤ 1048576) : ∀ (d i k : Nat), i + d = a.length → d < k → laws_eqPeopleS.l0 k a b (i : Int) = some (decide (a.drop i = b.drop i)) := by
  intro d
  induction d with
  | zero =>
    intro i k hi hk
    obtain ⟨k, rfl⟩ : ∃ m, k = m + 1 := ⟨k - 1, by omega⟩
    simp only [laws_eqPeopleS.l0]
    rw [if_neg (by omega), List.drop_eq_nil_of_le (by omega), List.drop_eq_nil_of_le (by omega)]
    simp
  | succ d ih =>
    intro i k hi hk
    obtain ⟨k, rfl⟩ : ∃ m, k = m + 1 := ⟨k - 1, by omega⟩
    have ha : a.drop i = rd a (i : Int) :: a.drop (i + 1) := by
      rw [drop_getD 0 a i (by omega)]; simp [rd]
    have hb : b.drop i = rd b (i : Int) :: b.drop (i + 1) := by
      rw [drop_getD 0 b i (by omega)]; simp [rd]
    simp only [laws_eqPeopleS.l0]
    rw [if_pos (by omega), if_pos (by omega), if_pos (by omega), ha, hb]
    by_cases e : rd a (i : Int) = rd b (i : Int)
    · rw [if_pos e, wrap_nat i (by omega), ih (i + 1) k (by omega) (by omega)]
      simp [e]
    · rw [if_neg e]
      simp [e]
theorem eqPeopleS_eq (a b : List Int) (hl : a.length ≤ 1048576) (k : Nat) (hk : a.length < k) : laws_eqPeopleS.f k a b = some (decide (a = b)) := by
  unfold laws_eqPeopleS.f
  by_cases h : a.length = b.length
  · rw [if_pos (by omega)]
    have := eqPeopleS_l0 a b h hl a.length 0 k (by omega) hk
    simpa using this
  · rw [if_neg (by omega)]
    have : a ≠ b := fun e => h (by rw [e])
    simp [this]

theorem eqInt16S_l0 (a b : List Int) (hab : a.length = b.length) (hl : a.length ≤ 1048576) : ∀ (d i k : Nat), i + d = a.length → d < k → laws_eqInt16S.l0 k a b (i : Int) = some (decide (a.drop i = b.drop i)) := by
  intro d
  induction d with
  | zero =>
    intro i k hi hk
    obtain ⟨k, rfl⟩ : ∃ m, k = m + 1 := ⟨k - 1, by omega⟩
    simp only [laws_eqInt16S.l0]
    rw [if_neg (by omega), List.drop_eq_nil_of_le (by omega), List.drop_eq_nil_of_le (by omega)]
    simp
  | succ d ih =>
    intro i k hi hk
    obtain ⟨k, rfl⟩ : ∃ m, k = m + 1 := ⟨k - 1, by omega⟩
    have ha : a.drop i = rd a (i : Int) :: a.drop (i + 1) := by
      rw [drop_getD 0 a i (by omega)]; simp [rd]
    have hb : b.drop i = rd b (i : Int) :: b.drop (i + 1) := by
      rw [drop_getD 0 b i (by omega)]; simp [rd]
    simp only [laws_eqInt16S.l0]
    rw [if_pos (by omega), if_pos (by omega), if_pos (by omega), ha, hb]
    by_cases e : rd a (i : Int) = rd b (i : Int)
    · rw [if_pos e, wrap_nat i (by omega), ih (i + 1) k (by omega) (by omega)]
      simp [e]
    · rw [if_neg e]
      simp [e]
theorem eqInt16S_eq (a b : List Int) (hl : a.length ≤ 1048576) (k : Nat) (hk : a.length < k) : laws_eqInt16S.f k a b = some (decide (a = b)) := by
  unfold laws_eqInt16S.f
  by_cases h : a.length = b.length
  · rw [if_pos (by omega)]
    have := eqInt16S_l0 a b h hl a.length 0 k (by omega) hk
    simpa using this
  · rw [if_neg (by omega)]
    have : a ≠ b := fun e => h (by rw [e])
    simp [this]

theorem eqLog_eq (p : Int) (s c : List Int) (q : Int) (t d : List Int) (hs : s.length ≤ 1048576) (hc : c.length ≤ 1048576) (k : Nat) (hk : 1048576 < k) : laws_eqLog.f k p s c q t d = some (decide (p = q ∧ s = t ∧ c = d)) := by
  unfold laws_eqLog.f
  rw [eqPeopleS_eq s t hs k (by omega), eqInt16S_eq c d hc k (by omega)]
  by_cases h1 : p = q <;> by_cases h2 : s = t <;> by_cases h3 : c = d <;> simp [h1, h2, h3]
/-- The numbers of a set from i on. -/
def listFrom (p : Int) : Nat → Nat → List Int
  | 0, _ => []
  | d + 1, i => if hasB p (i : Int) = true then (i : Int) :: listFrom p d (i + 1) else listFrom p d (i + 1)
def listP (p : Int) : List Int := listFrom p 14 0
theorem l05List_l0 (p : Int) (h0 : 0 ≤ p) (h1 : p < 65536) : ∀ (d i k : Nat) (xs : List Int), i + d = 14 → d < k → xs.length ≤ i → spec_l05List.l0 k p xs (i : Int) = some (xs ++ listFrom p d i) := by
  intro d
  induction d with
  | zero =>
    intro i k xs hi hk hx
    obtain ⟨k, rfl⟩ : ∃ m, k = m + 1 := ⟨k - 1, by omega⟩
    simp only [spec_l05List.l0]
    rw [if_neg (by omega)]
    simp [listFrom]
  | succ d ih =>
    intro i k xs hi hk hx
    obtain ⟨k, rfl⟩ : ∃ m, k = m + 1 := ⟨k - 1, by omega⟩
    simp only [spec_l05List.l0]
    rw [if_pos (by omega), l05Has_eq p i h0 h1 (by omega) (by omega), Option.bind_some, wrap_nat i (by omega)]
    unfold listFrom
    by_cases h : hasB p (i : Int) = true
    · rw [if_pos h, if_pos (by omega), ih (i + 1) k _ (by omega) (by omega) (by simp; omega), if_pos h]
      simp
    · rw [if_neg h, ih (i + 1) k _ (by omega) (by omega) (by omega), if_neg h]
theorem l05List_eq (p : Int) (h0 : 0 ≤ p) (h1 : p < 65536) (k : Nat) (hk : 14 < k) : spec_l05List.f k p = some (listP p) := by
  unfold spec_l05List.f
  have := l05List_l0 p h0 h1 14 0 k [] (by omega) hk (by simp)
  simpa [listP] using this

def TAB : ByteArray := ⟨#[0, 1, 1, 2, 1, 2, 2, 3, 1, 2, 2, 3, 2, 3, 3, 4, 1, 2, 2, 3, 2, 3, 3, 4, 2, 3, 3, 4, 3, 4, 4, 5, 1, 2, 2, 3, 2, 3, 3, 4, 2, 3, 3, 4, 3, 4, 4, 5, 2, 3, 3, 4, 3, 4, 4, 5, 3, 4, 4, 5, 4, 5, 5, 6, 1, 2, 2, 3, 2, 3, 3, 4, 2, 3, 3, 4, 3, 4, 4, 5, 2, 3, 3, 4, 3, 4, 4, 5, 3, 4, 4, 5, 4, 5, 5, 6, 2, 3, 3, 4, 3, 4, 4, 5, 3, 4, 4, 5, 4, 5, 5, 6, 3, 4, 4, 5, 4, 5, 5, 6, 4, 5, 5, 6, 5, 6, 6, 7, 1, 2, 2, 3, 2, 3, 3, 4, 2, 3, 3, 4, 3, 4, 4, 5, 2, 3, 3, 4, 3, 4, 4, 5, 3, 4, 4, 5, 4, 5, 5, 6, 2, 3, 3, 4, 3, 4, 4, 5, 3, 4, 4, 5, 4, 5, 5, 6, 3, 4, 4, 5, 4, 5, 5, 6, 4, 5, 5, 6, 5, 6, 6, 7, 2, 3, 3, 4, 3, 4, 4, 5, 3, 4, 4, 5, 4, 5, 5, 6, 3, 4, 4, 5, 4, 5, 5, 6, 4, 5, 5, 6, 5, 6, 6, 7, 3, 4, 4, 5, 4, 5, 5, 6, 4, 5, 5, 6, 5, 6, 6, 7, 4, 5, 5, 6, 5, 6, 6, 7, 5, 6, 6, 7, 6, 7, 7, 8]⟩
def pop8 (j : Int) : Int := j % 2 + j / 2 % 2 + j / 4 % 2 + j / 8 % 2 + j / 16 % 2 + j / 32 % 2 + j / 64 % 2 + j / 128 % 2
theorem TAB_eq : ∀ j : Nat, j < 256 → bt TAB (j : Int) = pop8 (j : Int) := by decide +kernel
theorem and_255 (x : Int) (h₀ : 0 ≤ x) (h₁ : x < 65536) : Go.bits .and .u16 x 255 = x % 256 := by
  have := Go.bits_mask .u16 16 (by decide) wraps_u16 8 (by decide) x h₀ (by omega)
  simpa using this
theorem and_14 (x : Int) (h₀ : 0 ≤ x) (h₁ : x < 65536) : Go.bits .and .u16 x 16383 = x % 16384 := by
  have := Go.bits_mask .u16 16 (by decide) wraps_u16 14 (by decide) x h₀ (by omega)
  simpa using this
theorem ones_eq (x : Int) (h0 : 0 ≤ x) (h1 : x < 65536) : bits_OnesCount16.f x = some ((pop8 (x / 256) + pop8 (x % 256)) % 256) := by
  unfold bits_OnesCount16.f
  rw [and_255 x h0 h1, if_pos (by omega), if_pos (by omega), if_pos (by omega), if_pos (by omega)]
  obtain ⟨a, ha⟩ := Int.eq_ofNat_of_zero_le (show 0 ≤ x / 256 by omega)
  obtain ⟨b, hb⟩ := Int.eq_ofNat_of_zero_le (show 0 ≤ x % 256 by omega)
  rw [ha, hb]
  have e1 := TAB_eq a (by omega)
  have e2 := TAB_eq b (by omega)
  unfold TAB at e1 e2
  rw [e1, e2]
theorem hasB_iff (p : Int) (i : Nat) (hi : i ≤ 16) : hasB p (i : Int) = (p / 2 ^ i % 2 == 1) := by
  unfold hasB shr
  rw [Int.toNat_natCast, Nat.min_eq_left (by simpa [IntKind.bits] using hi)]
theorem listFrom_count (p : Int) (d i : Nat) (hi : i ≤ 16) : ((listFrom p (d + 1) i).length : Int) = p / 2 ^ i % 2 + ((listFrom p d (i + 1)).length : Int) := by
  rw [show listFrom p (d + 1) i = if hasB p (i : Int) = true then (i : Int) :: listFrom p d (i + 1) else listFrom p d (i + 1) from rfl, hasB_iff p i hi]
  have h : p / 2 ^ i % 2 = 0 ∨ p / 2 ^ i % 2 = 1 := by omega
  rcases h with h | h
  · rw [h]; simp
  · rw [h]; simp; omega
def cnt14 (p : Int) : Int := p % 2 + (p / 2 % 2 + (p / 4 % 2 + (p / 8 % 2 + (p / 16 % 2 + (p / 32 % 2 + (p / 64 % 2 + (p / 128 % 2 + (p / 256 % 2 + (p / 512 % 2 + (p / 1024 % 2 + (p / 2048 % 2 + (p / 4096 % 2 + p / 8192 % 2))))))))))))
theorem listP_count (p : Int) : ((listP p).length : Int) = cnt14 p := by
  unfold listP
  rw [listFrom_count p 13 0 (by decide), listFrom_count p 12 1 (by decide), listFrom_count p 11 2 (by decide), listFrom_count p 10 3 (by decide), listFrom_count p 9 4 (by decide), listFrom_count p 8 5 (by decide), listFrom_count p 7 6 (by decide), listFrom_count p 6 7 (by decide), listFrom_count p 5 8 (by decide), listFrom_count p 4 9 (by decide), listFrom_count p 3 10 (by decide), listFrom_count p 2 11 (by decide), listFrom_count p 1 12 (by decide), listFrom_count p 0 13 (by decide)]
  simp [listFrom, cnt14]
theorem pop_cnt (p : Int) (h0 : 0 ≤ p) : (pop8 (p % 16384 / 256) + pop8 (p % 16384 % 256)) % 256 = cnt14 p := by
  have a0 : p % 16384 % 256 % 2 = p % 2 := by omega
  have a1 : p % 16384 % 256 / 2 % 2 = p / 2 % 2 := by omega
  have a2 : p % 16384 % 256 / 4 % 2 = p / 4 % 2 := by omega
  have a3 : p % 16384 % 256 / 8 % 2 = p / 8 % 2 := by omega
  have a4 : p % 16384 % 256 / 16 % 2 = p / 16 % 2 := by omega
  have a5 : p % 16384 % 256 / 32 % 2 = p / 32 % 2 := by omega
  have a6 : p % 16384 % 256 / 64 % 2 = p / 64 % 2 := by omega
  have a7 : p % 16384 % 256 / 128 % 2 = p / 128 % 2 := by omega
  have b0 : p % 16384 / 256 % 2 = p / 256 % 2 := by omega
  have b1 : p % 16384 / 256 / 2 % 2 = p / 512 % 2 := by omega
  have b2 : p % 16384 / 256 / 4 % 2 = p / 1024 % 2 := by omega
  have b3 : p % 16384 / 256 / 8 % 2 = p / 2048 % 2 := by omega
  have b4 : p % 16384 / 256 / 16 % 2 = p / 4096 % 2 := by omega
  have b5 : p % 16384 / 256 / 32 % 2 = p / 8192 % 2 := by omega
  have b6 : p % 16384 / 256 / 64 % 2 = 0 := by omega
  have b7 : p % 16384 / 256 / 128 % 2 = 0 := by omega
  unfold pop8 cnt14
  rw [a0, a1, a2, a3, a4, a5, a6, a7, b0, b1, b2, b3, b4, b5, b6, b7]
  have c : ∀ n : Int, 0 ≤ n % 2 ∧ n % 2 ≤ 1 := fun n => by omega
  have := c p; have := c (p / 2); have := c (p / 4); have := c (p / 8); have := c (p / 16); have := c (p / 32); have := c (p / 64); have := c (p / 128); have := c (p / 256); have := c (p / 512); have := c (p / 1024); have := c (p / 2048); have := c (p / 4096); have := c (p / 8192)
  generalize p % 2 = x0 at *
  generalize p / 2 % 2 = x1 at *
  generalize p / 4 % 2 = x2 at *
  generalize p / 8 % 2 = x3 at *
  generalize p / 16 % 2 = x4 at *
  generalize p / 32 % 2 = x5 at *
  generalize p / 64 % 2 = x6 at *
  generalize p / 128 % 2 = x7 at *
  generalize p / 256 % 2 = x8 at *
  generalize p / 512 % 2 = x9 at *
  generalize p / 1024 % 2 = x10 at *
  generalize p / 2048 % 2 = x11 at *
  generalize p / 4096 % 2 = x12 at *
  generalize p / 8192 % 2 = x13 at *
  clear a0 a1 a2 a3 a4 a5 a6 a7 b0 b1 b2 b3 b4 b5 b6 b7
  omega
theorem all14 : impl_everybody.f 14 = some 16383 := by
  unfold impl_everybody.f
  rw [if_pos (by decide)]
  have : IntKind.u16.wrap (shl .u16 1 14 - 1) = 16383 := by decide +kernel
  rw [this]
theorem implCount_eq (p : Int) (h0 : 0 ≤ p) (h1 : p < 65536) : impl_CountPeople.f p = some ((listP p).length : Int) := by
  unfold impl_CountPeople.f
  rw [all14, Option.bind_some, and_14 p h0 h1, ones_eq _ (by omega) (by omega), Option.bind_some, pop_cnt p h0, listP_count]
theorem specCount_eq (p : Int) (h0 : 0 ≤ p) (h1 : p < 65536) (k : Nat) (hk : 14 < k) : spec_CountPeople.f k p = some ((listP p).length : Int) := by
  unfold spec_CountPeople.f
  rw [l05List_eq p h0 h1 k hk, Option.bind_some]

theorem mem_rd (s : List Int) (i : Nat) (h : i < s.length) : rd s (i : Int) ∈ s := by
  rw [rd_nat, List.getD_eq_getElem?_getD, List.getElem?_eq_getElem h]
  exact List.getElem_mem _
def cntW (x : Int) : Int := IntKind.i16.wrap ((listP x).length : Int)
theorem withCounts_l0 (p : Int) (s t : List Int) (hl : s.length ≤ 1048576) (hw : ∀ x ∈ s, 0 ≤ x ∧ x < 65536) : ∀ (d i k : Nat) (c : List Int), i + d = s.length → d < k → c.length ≤ i → impl_Log_withCounts.l0 k s (s.length : Int) (i : Int) p t c = some (p, t, c ++ (s.drop i).map cntW) := by
  intro d
  induction d with
  | zero =>
    intro i k c hi hk hc
    obtain ⟨k, rfl⟩ : ∃ m, k = m + 1 := ⟨k - 1, by omega⟩
    simp only [impl_Log_withCounts.l0]
    rw [if_neg (by omega), List.drop_eq_nil_of_le (by omega)]
    simp
  | succ d ih =>
    intro i k c hi hk hc
    obtain ⟨k, rfl⟩ : ∃ m, k = m + 1 := ⟨k - 1, by omega⟩
    have hb := hw _ (mem_rd s i (by omega))
    simp only [impl_Log_withCounts.l0]
    rw [if_pos (by omega), if_pos (by omega), if_pos (by omega), implCount_eq _ hb.1 hb.2, Option.bind_some, if_pos (by omega), wrap_nat i (by omega), ih (i + 1) k _ (by omega) (by omega) (by simp; omega), drop_rd s i (by omega)]
    simp [cntW]
theorem withCounts_eq (p : Int) (s c : List Int) (hl : s.length ≤ 1048576) (hw : ∀ x ∈ s, 0 ≤ x ∧ x < 65536) (k : Nat) (hk : s.length < k) : impl_Log_withCounts.f k p s c = some (p, s, s.map cntW) := by
  unfold impl_Log_withCounts.f slices_Clone_People.f
  rw [Option.bind_some, if_pos (by simp; omega), Option.bind_some, List.nil_append]
  have := withCounts_l0 p s s hl hw s.length 0 k [] (by omega) (by omega) (by simp)
  rw [show ((0 : Nat) : Int) = 0 from rfl] at this
  rw [this]; simp

def marksP (m : Int) (n : Nat) : List Int := (List.range n).map (fun (j : Nat) => IntKind.u16.wrap (m + (j : Int)))
theorem marksP_length (m : Int) (n : Nat) : (marksP m n).length = n := by simp [marksP]
theorem markPeopleS_l0 (m : Int) (h0 : 0 ≤ m) (h1 : m ≤ 4194304) (g : List Int) (hl : g.length ≤ 1048576) : ∀ (d i k : Nat), i + d = g.length → d < k → laws_markPeopleS.l0 k ((marksP m g.length).take i ++ g.drop i) (m + (i : Int)) (i : Int) = some (m + (g.length : Int), marksP m g.length) := by
  intro d
  induction d with
  | zero =>
    intro i k hi hk
    obtain ⟨k, rfl⟩ : ∃ m, k = m + 1 := ⟨k - 1, by omega⟩
    obtain rfl : i = g.length := by omega
    simp only [laws_markPeopleS.l0]
    rw [List.drop_eq_nil_of_le (Nat.le_refl _), List.take_of_length_le (by rw [marksP_length]; omega), List.append_nil, if_neg (by rw [marksP_length]; omega)]
  | succ d ih =>
    intro i k hi hk
    obtain ⟨k, rfl⟩ : ∃ m, k = m + 1 := ⟨k - 1, by omega⟩
    have hlen : (((marksP m g.length).take i ++ g.drop i).length : Int) = g.length := by simp [marksP_length]; omega
    have hstep := set_drop ((marksP m g.length).take i) g i (IntKind.u16.wrap (m + (i : Int))) (by simp [marksP_length]; omega) (by omega)
    have hg : (marksP m g.length).getD i 0 = IntKind.u16.wrap (m + (i : Int)) := getD_range_map 0 _ _ _ (by omega)
    rw [← hg, ← take_getD 0 (marksP m g.length) i (by rw [marksP_length]; omega), hg] at hstep
    simp only [laws_markPeopleS.l0]
    rw [if_pos (by rw [hlen]; omega), if_pos (by omega), wrap_nat i (by omega), Int.toNat_natCast, wrap64_id _ (by omega) (by omega), hstep]
    have := ih (i + 1) k (by omega) (by omega)
    rw [show m + ((i + 1 : Nat) : Int) = m + (i : Int) + 1 by omega] at this
    exact this
theorem markPeopleS_eq (m : Int) (h0 : 0 ≤ m) (h1 : m ≤ 4194304) (g : List Int) (hl : g.length ≤ 1048576) (k : Nat) (hk : g.length < k) : laws_markPeopleS.f k g m = some (m + (g.length : Int), marksP m g.length) := by
  unfold laws_markPeopleS.f
  have := markPeopleS_l0 m h0 h1 g hl g.length 0 k (by omega) hk
  simpa using this
theorem heldPeopleS_l0 (m : Int) (h0 : 0 ≤ m) (h1 : m ≤ 4194304) (n : Nat) (hl : n ≤ 1048576) : ∀ (d i k : Nat), i + d = n → d < k → laws_heldPeopleS.l0 k (marksP m n) (m + (i : Int)) (i : Int) = some (m + (n : Int)) := by
  intro d
  induction d with
  | zero =>
    intro i k hi hk
    obtain ⟨k, rfl⟩ : ∃ m, k = m + 1 := ⟨k - 1, by omega⟩
    obtain rfl : i = n := by omega
    simp only [laws_heldPeopleS.l0]
    rw [if_neg (by rw [marksP_length]; omega)]
  | succ d ih =>
    intro i k hi hk
    obtain ⟨k, rfl⟩ : ∃ m, k = m + 1 := ⟨k - 1, by omega⟩
    have hg : rd (marksP m n) (i : Int) = IntKind.u16.wrap (m + (i : Int)) := by
      rw [rd_nat]; exact getD_range_map 0 _ _ _ (by omega)
    simp only [laws_heldPeopleS.l0]
    rw [if_pos (by rw [marksP_length]; omega), if_pos (by omega), if_pos hg, wrap_nat i (by omega), wrap64_id _ (by omega) (by omega)]
    have := ih (i + 1) k (by omega) (by omega)
    rw [show m + ((i + 1 : Nat) : Int) = m + (i : Int) + 1 by omega] at this
    exact this
theorem heldPeopleS_eq (m : Int) (h0 : 0 ≤ m) (h1 : m ≤ 4194304) (n : Nat) (hl : n ≤ 1048576) (k : Nat) (hk : n < k) : laws_heldPeopleS.f k (marksP m n) m = some (m + (n : Int)) := by
  unfold laws_heldPeopleS.f
  have := heldPeopleS_l0 m h0 h1 n hl n 0 k (by omega) hk
  simpa using this

def marksI (m : Int) (n : Nat) : List Int := (List.range n).map (fun (j : Nat) => IntKind.i16.wrap (m + (j : Int)))
theorem marksI_length (m : Int) (n : Nat) : (marksI m n).length = n := by simp [marksI]
theorem markInt16S_l0 (m : Int) (h0 : 0 ≤ m) (h1 : m ≤ 4194304) (g : List Int) (hl : g.length ≤ 1048576) : ∀ (d i k : Nat), i + d = g.length → d < k → laws_markInt16S.l0 k ((marksI m g.length).take i ++ g.drop i) (m + (i : Int)) (i : Int) = some (m + (g.length : Int), marksI m g.length) := by
  intro d
  induction d with
  | zero =>
    intro i k hi hk
    obtain ⟨k, rfl⟩ : ∃ m, k = m + 1 := ⟨k - 1, by omega⟩
    obtain rfl : i = g.length := by omega
    simp only [laws_markInt16S.l0]
    rw [List.drop_eq_nil_of_le (Nat.le_refl _), List.take_of_length_le (by rw [marksI_length]; omega), List.append_nil, if_neg (by rw [marksI_length]; omega)]
  | succ d ih =>
    intro i k hi hk
    obtain ⟨k, rfl⟩ : ∃ m, k = m + 1 := ⟨k - 1, by omega⟩
    have hlen : (((marksI m g.length).take i ++ g.drop i).length : Int) = g.length := by simp [marksI_length]; omega
    have hstep := set_drop ((marksI m g.length).take i) g i (IntKind.i16.wrap (m + (i : Int))) (by simp [marksI_length]; omega) (by omega)
    have hg : (marksI m g.length).getD i 0 = IntKind.i16.wrap (m + (i : Int)) := getD_range_map 0 _ _ _ (by omega)
    rw [← hg, ← take_getD 0 (marksI m g.length) i (by rw [marksI_length]; omega), hg] at hstep
    simp only [laws_markInt16S.l0]
    rw [if_pos (by rw [hlen]; omega), if_pos (by omega), wrap_nat i (by omega), Int.toNat_natCast, wrap64_id _ (by omega) (by omega), hstep]
    have := ih (i + 1) k (by omega) (by omega)
    rw [show m + ((i + 1 : Nat) : Int) = m + (i : Int) + 1 by omega] at this
    exact this
theorem markInt16S_eq (m : Int) (h0 : 0 ≤ m) (h1 : m ≤ 4194304) (g : List Int) (hl : g.length ≤ 1048576) (k : Nat) (hk : g.length < k) : laws_markInt16S.f k g m = some (m + (g.length : Int), marksI m g.length) := by
  unfold laws_markInt16S.f
  have := markInt16S_l0 m h0 h1 g hl g.length 0 k (by omega) hk
  simpa using this
theorem heldInt16S_l0 (m : Int) (h0 : 0 ≤ m) (h1 : m ≤ 4194304) (n : Nat) (hl : n ≤ 1048576) : ∀ (d i k : Nat), i + d = n → d < k → laws_heldInt16S.l0 k (marksI m n) (m + (i : Int)) (i : Int) = some (m + (n : Int)) := by
  intro d
  induction d with
  | zero =>
    intro i k hi hk
    obtain ⟨k, rfl⟩ : ∃ m, k = m + 1 := ⟨k - 1, by omega⟩
    obtain rfl : i = n := by omega
    simp only [laws_heldInt16S.l0]
    rw [if_neg (by rw [marksI_length]; omega)]
  | succ d ih =>
    intro i k hi hk
    obtain ⟨k, rfl⟩ : ∃ m, k = m + 1 := ⟨k - 1, by omega⟩
    have hg : rd (marksI m n) (i : Int) = IntKind.i16.wrap (m + (i : Int)) := by
      rw [rd_nat]; exact getD_range_map 0 _ _ _ (by omega)
    simp only [laws_heldInt16S.l0]
    rw [if_pos (by rw [marksI_length]; omega), if_pos (by omega), if_pos hg, wrap_nat i (by omega), wrap64_id _ (by omega) (by omega)]
    have := ih (i + 1) k (by omega) (by omega)
    rw [show m + ((i + 1 : Nat) : Int) = m + (i : Int) + 1 by omega] at this
    exact this
theorem heldInt16S_eq (m : Int) (h0 : 0 ≤ m) (h1 : m ≤ 4194304) (n : Nat) (hl : n ≤ 1048576) (k : Nat) (hk : n < k) : laws_heldInt16S.f k (marksI m n) m = some (m + (n : Int)) := by
  unfold laws_heldInt16S.f
  have := heldInt16S_l0 m h0 h1 n hl n 0 k (by omega) hk
  simpa using this

theorem markLog_eq (m : Int) (h0 : 0 ≤ m) (h1 : m ≤ 1048576) (p : Int) (s c : List Int) (hs : s.length ≤ 1048576) (hc : c.length ≤ 1048576) (k : Nat) (hk : s.length < k ∧ c.length < k) :
    laws_markLog.f k p s c m = some (m + (s.length : Int) + (c.length : Int), marksP m s.length, marksI (m + (s.length : Int)) c.length) := by
  unfold laws_markLog.f
  rw [markPeopleS_eq m h0 (by omega) s hs k hk.1]
  simp only [Option.bind_some]
  rw [markInt16S_eq (m + (s.length : Int)) (by omega) (by omega) c hc k hk.2]
  simp only [Option.bind_some]
theorem heldLog_eq (m : Int) (h0 : 0 ≤ m) (h1 : m ≤ 1048576) (p : Int) (a b : Nat) (ha : a ≤ 1048576) (hb : b ≤ 1048576) (k : Nat) (hk : a < k ∧ b < k) :
    laws_heldLog.f k p (marksP m a) (marksI (m + (a : Int)) b) m = some (m + (a : Int) + (b : Int)) := by
  unfold laws_heldLog.f
  rw [heldPeopleS_eq m h0 (by omega) a ha k hk.1, Option.bind_some, if_neg (by omega), heldInt16S_eq (m + (a : Int)) (by omega) (by omega) b hb k hk.2, Option.bind_some, if_neg (by omega)]

def seen1 (s : Int) (x : Int) (r : S82) : Int := if r.f1 ≥ s then Go.bits .or .u16 x (shl .u16 1 r.f0) else x
def seenF (s : Int) (x : Int) (m : List S82) : Int := m.foldl (seen1 s) x
theorem seen1_rng (s x : Int) (r : S82) (h : 0 ≤ x ∧ x < 65536) : 0 ≤ seen1 s x r ∧ seen1 s x r < 65536 := by
  unfold seen1
  split
  · exact bits_u16 _ _ _
  · exact h
theorem seenF_rng (s : Int) (m : List S82) : ∀ x, (0 ≤ x ∧ x < 65536) → 0 ≤ seenF s x m ∧ seenF s x m < 65536 := by
  induction m with
  | nil => intro x h; exact h
  | cons r m ih => intro x h; exact ih _ (seen1_rng s x r h)
theorem specLF_l1 (p t : Int) (m : List S82) (hg : good p t m) (s : Nat) (q : Int) (sn cn : List Int) (hs : sn.length ≤ 1048576) (hc : cn.length ≤ 1048576) (X : Int) (hX : 0 ≤ X ∧ X < 65536) (hs2 : s ≤ 12) (B : Nat) (R : Option (Int × List Int × List Int × Int))
    (hR : ∀ k, B ≤ k → spec_LogFrom.l0 k t m ((s + 1 : Nat) : Int) q (sn ++ [X]) (cn ++ [cntW X]) = R) :
    ∀ (d i k : Nat) (x : Int), i + d = m.length → seenF s x (m.drop i) = X → B + 20 + d < k → spec_LogFrom.l1 k t m (s : Int) x (i : Int) q sn cn = R := by
  intro d
  have hml := hg.2.2.2
  induction d with
  | zero =>
    intro i k x hi hx hk
    obtain ⟨k, rfl⟩ : ∃ m, k = m + 1 := ⟨k - 1, by omega⟩
    rw [List.drop_eq_nil_of_le (by omega)] at hx
    have hx' : x = X := hx
    subst hx'
    simp only [spec_LogFrom.l1]
    rw [if_neg (by omega), if_pos (by omega), specCount_eq x hX.1 hX.2 k (by omega), Option.bind_some, if_pos (by omega), wrap_nat s (by omega)]
    exact hR k (by omega)
  | succ d ih =>
    intro i k x hi hx hk
    obtain ⟨k, rfl⟩ : ∃ m, k = m + 1 := ⟨k - 1, by omega⟩
    have hr := hg.1 _ (mem_rdr m i (by omega))
    have hp := hg.2.1
    have ht := hg.2.2.1
    rw [drop_rec m i (by omega)] at hx
    simp only [spec_LogFrom.l1]
    rw [if_pos (by omega), if_pos (by omega), wrap64_id (rd_T82 m (i : Int)).f1 (by omega) (by omega), wrap_nat i (by omega)]
    have hx2 : seenF (s : Int) (seen1 (s : Int) x (rd_T82 m (i : Int))) (m.drop (i + 1)) = X := hx
    unfold seen1 at hx2
    by_cases g : (rd_T82 m (i : Int)).f1 ≥ (s : Int)
    · rw [if_pos g] at hx2
      rw [if_pos g, wrap_u64_id (rd_T82 m (i : Int)).f0 (by omega) (by omega), if_pos (by omega)]
      exact ih (i + 1) k _ (by omega) hx2 (by omega)
    · rw [if_neg g] at hx2
      rw [if_neg g]
      exact ih (i + 1) k _ (by omega) hx2 (by omega)
def seenL (n : Nat) (m : List S82) : List Int := (List.range n).map (fun (s : Nat) => seenF (s : Int) 0 m)
theorem specLF_l0 (p : Int) (n : Nat) (m : List S82) (hg : good p (n : Int) m) (q : Int) : ∀ (d s k : Nat), s + d = n → 200 * d < k → spec_LogFrom.l0 k (n : Int) m (s : Int) q ((seenL n m).take s) (((seenL n m).take s).map cntW) = some (q, seenL n m, (seenL n m).map cntW, 0) := by
  intro d
  have hml := hg.2.2.2
  have hn := hg.2.2.1
  have hlen : (seenL n m).length = n := by simp [seenL]
  induction d with
  | zero =>
    intro s k hs hk
    obtain ⟨k, rfl⟩ : ∃ m, k = m + 1 := ⟨k - 1, by omega⟩
    simp only [spec_LogFrom.l0]
    rw [if_neg (by omega), List.take_of_length_le (by omega)]
  | succ d ih =>
    intro s k hs hk
    obtain ⟨k, rfl⟩ : ∃ m, k = m + 1 := ⟨k - 1, by omega⟩
    have hX := seenF_rng (s : Int) m 0 (by decide)
    have hgd : (seenL n m).getD s 0 = seenF (s : Int) 0 m := getD_range_map 0 _ _ _ (by omega)
    simp only [spec_LogFrom.l0]
    rw [if_pos (by omega)]
    refine specLF_l1 p (n : Int) m hg s q _ _ (by rw [List.length_take]; omega) (by rw [List.length_map, List.length_take]; omega) (seenF (s : Int) 0 m) hX (by omega) (200 * d + 1) _ (fun k hk => ?_) m.length 0 k 0 (by omega) rfl (by omega)
    have := ih (s + 1) k (by omega) (by omega)
    rw [take_getD 0 (seenL n m) s (by omega), hgd, List.map_append] at this
    exact this
def innerF (b : Int) : Nat → Nat → List Int → List Int
  | 0, _, c => c
  | d + 1, j, c => innerF b d (j + 1) (c.set j (Go.bits .or .u16 (c.getD j 0) b))
theorem innerF_length (b : Int) : ∀ (d j : Nat) (c : List Int), (innerF b d j c).length = c.length
  | 0, _, _ => rfl
  | d + 1, j, c => by simp [innerF, innerF_length b d]
theorem innerF_getD (b : Int) : ∀ (d j : Nat) (c : List Int) (s : Nat), j + d ≤ c.length → (innerF b d j c).getD s 0 = if j ≤ s ∧ s < j + d then Go.bits .or .u16 (c.getD s 0) b else c.getD s 0 := by
  intro d
  induction d with
  | zero => intro j c s h; rw [if_neg (by omega)]; rfl
  | succ d ih =>
    intro j c s h
    simp only [innerF]
    rw [ih (j + 1) _ s (by simp; omega)]
    have hset : (c.set j (Go.bits .or .u16 (c.getD j 0) b)).getD s 0 = if j = s then Go.bits .or .u16 (c.getD j 0) b else c.getD s 0 := by
      simp only [List.getD_eq_getElem?_getD, List.getElem?_set]
      by_cases e : j = s
      · subst e; rw [if_pos rfl, if_pos (by omega), if_pos rfl]; rfl
      · rw [if_neg e, if_neg e]
    rw [hset]
    by_cases e : j = s
    · subst e
      rw [if_neg (by omega), if_pos rfl, if_pos (by omega)]
    · rw [if_neg e]
      by_cases g : j + 1 ≤ s ∧ s < j + 1 + d
      · rw [if_pos g, if_pos (by omega)]
      · rw [if_neg g, if_neg (by omega)]
def outerF (c : List Int) (r : S82) : List Int := innerF (shl .u16 1 r.f0) (r.f1 + 1).toNat 0 c
def outerL (c : List Int) (m : List S82) : List Int := m.foldl outerF c
theorem outerL_length (m : List S82) : ∀ c, (outerL c m).length = c.length := by
  induction m with
  | nil => intro c; rfl
  | cons r m ih => intro c; exact (ih _).trans (innerF_length _ _ _ _)
theorem outerL_getD (p t : Int) (m : List S82) : (∀ r ∈ m, 0 ≤ r.f1 ∧ r.f1 ≤ t - 1) → ∀ (c : List Int) (s : Nat), (c.length : Int) = t → (outerL c m).getD s 0 = seenF (s : Int) (c.getD s 0) m := by
  induction m with
  | nil => intro _ c s _; rfl
  | cons r m ih =>
    intro hg c s hc
    have hr := hg r List.mem_cons_self
    have h := ih (fun x hx => hg x (List.mem_cons_of_mem _ hx)) (outerF c r) s (by unfold outerF; rw [innerF_length]; exact hc)
    refine Eq.trans h ?_
    show seenF _ _ m = seenF _ (seen1 (s : Int) (c.getD s 0) r) m
    unfold outerF
    rw [innerF_getD _ _ 0 c s (by omega)]
    unfold seen1
    by_cases g : r.f1 ≥ (s : Int)
    · rw [if_pos (by omega), if_pos g]
    · rw [if_neg (by omega), if_neg g]
theorem outer_seenL (p : Int) (n : Nat) (m : List S82) (hg : good p (n : Int) m) : outerL (List.replicate n 0) m = seenL n m := by
  apply List.ext_getElem
  · rw [outerL_length]; simp [seenL]
  · intro s h1 h2
    have h3 : s < n := by rw [outerL_length] at h1; simpa using h1
    have h := outerL_getD p (n : Int) m (fun r hr => (hg.1 r hr).2.1) (List.replicate n 0) s (by simp)
    rw [List.getD_eq_getElem?_getD, List.getElem?_eq_getElem h1] at h
    have hz : (List.replicate n (0 : Int)).getD s 0 = 0 := by simp [List.getD_eq_getElem?_getD, List.getElem?_replicate, h3]
    rw [hz] at h
    simp only [seenL, List.getElem_map, List.getElem_range]
    exact h
theorem implLF_l1 (p t : Int) (m : List S82) (hg : good p t m) (i : Nat) (hi : i < m.length) (q : Int) (r : S82) (hr : (0 ≤ r.f0 ∧ r.f0 ≤ p - 1) ∧ (0 ≤ r.f1 ∧ r.f1 ≤ t - 1)) (n : Nat) (hn : (n : Int) = t) (Z : List Int) (B : Nat) (R : Option (Int × List Int × List Int × Int))
    (hR : ∀ k, B ≤ k → impl_LogFrom.l0 k m (m.length : Int) ((i + 1 : Nat) : Int) q Z = R) :
    ∀ (d j k : Nat) (c : List Int), j + d = (r.f1 + 1).toNat → c.length = n → innerF (shl .u16 1 r.f0) d j c = Z → B + d < k → impl_LogFrom.l1 k m (m.length : Int) (i : Int) (r.f1 + 1) (j : Int) q c r.f0 r.f1 r.f2 = R := by
  intro d
  have hml := hg.2.2.2
  have ht := hg.2.2.1
  induction d with
  | zero =>
    intro j k c hj hc hz hk
    obtain ⟨k, rfl⟩ : ∃ m, k = m + 1 := ⟨k - 1, by omega⟩
    have hz' : c = Z := hz
    subst hz'
    simp only [impl_LogFrom.l1]
    rw [if_neg (by omega), wrap_nat i (by omega)]
    exact hR k (by omega)
  | succ d ih =>
    intro j k c hj hc hz hk
    obtain ⟨k, rfl⟩ : ∃ m, k = m + 1 := ⟨k - 1, by omega⟩
    simp only [impl_LogFrom.l1]
    rw [if_pos (by omega), if_pos (by omega), if_pos (by omega), if_pos (by omega), wrap_nat j (by omega), Int.toNat_natCast, rd_nat]
    exact ih (j + 1) k _ (by omega) (by simp [hc]) hz (by omega)
theorem implLF_l0 (p : Int) (n : Nat) (m : List S82) (hg : good p (n : Int) m) (q : Int) (Z : List Int) (hZl : Z.length ≤ 12) (hZ : ∀ x ∈ Z, 0 ≤ x ∧ x < 65536) : ∀ (d i k : Nat) (c : List Int), i + d = m.length → 20 * d + 20 < k → c.length = n → outerL c (m.drop i) = Z → impl_LogFrom.l0 k m (m.length : Int) (i : Int) q c = some (q, Z, Z.map cntW, 0) := by
  intro d
  have hml := hg.2.2.2
  have ht := hg.2.2.1
  have hp := hg.2.1
  induction d with
  | zero =>
    intro i k c hi hk hc hz
    obtain ⟨k, rfl⟩ : ∃ m, k = m + 1 := ⟨k - 1, by omega⟩
    rw [List.drop_eq_nil_of_le (by omega)] at hz
    have hz' : c = Z := hz
    subst hz'
    simp only [impl_LogFrom.l0]
    rw [if_neg (by omega), withCounts_eq q c [] (by omega) hZ k (by omega)]
    rfl
  | succ d ih =>
    intro i k c hi hk hc hz
    obtain ⟨k, rfl⟩ : ∃ m, k = m + 1 := ⟨k - 1, by omega⟩
    have hr := hg.1 _ (mem_rdr m i (by omega))
    rw [drop_rec m i (by omega)] at hz
    simp only [impl_LogFrom.l0]
    rw [if_pos (by omega), if_pos (by omega), if_pos (by omega), wrap64_id (rd_T82 m (i : Int)).f1 (by omega) (by omega), wrap64_id _ (by omega) (by omega)]
    exact implLF_l1 p (n : Int) m hg i (by omega) q (rd_T82 m (i : Int)) ⟨hr.1, hr.2.1⟩ n rfl (outerF c (rd_T82 m (i : Int))) (20 * d + 21) _ (fun k hk => ih (i + 1) k _ (by omega) (by omega) (by unfold outerF; rw [innerF_length]; exact hc) hz) ((rd_T82 m (i : Int)).f1 + 1).toNat 0 k c (by omega) hc rfl (by omega)
def fin (p t : Int) (m : List S82) : Int × List Int × List Int × Int :=
  if recsOk p t m = true then (p, seenL t.toNat m, (seenL t.toNat m).map cntW, 0) else (0, [], [], 1)
theorem spec_fin (p t : Int) (m : List S82) (hl : m.length ≤ 1048576) (hb : recsOk p t m = true → good p t m) (k : Nat) (hk : 1048700 ≤ k) : spec_LogFrom.f k p t m = some (fin p t m) := by
  unfold spec_LogFrom.f fin
  rw [l05Records_eq p t m hl k (by omega), Option.bind_some]
  by_cases h : recsOk p t m = true
  · have hg := hb h
    obtain ⟨n, rfl⟩ := Int.eq_ofNat_of_zero_le (show 0 ≤ t by have := hg.2.2.1; omega)
    have := specLF_l0 p n m hg p n 0 k (by omega) (by have := hg.2.2.1; omega)
    rw [show ((0 : Nat) : Int) = 0 from rfl, List.take_zero, List.map_nil] at this
    rw [if_pos h, if_pos h, this]
    rfl
  · rw [if_neg h, if_neg h]
theorem impl_fin (p t : Int) (m : List S82) (hl : m.length ≤ 1048576) (hb : recsOk p t m = true → good p t m) (k : Nat) (hk : 1048700 ≤ k) : impl_LogFrom.f k p t m = some (fin p t m) := by
  unfold impl_LogFrom.f fin
  rw [implRecords_eq p t m hl k (by omega), Option.bind_some]
  by_cases h : recsOk p t m = true
  · have hg := hb h
    have ht := hg.2.2.1
    have hml := hg.2.2.2
    obtain ⟨n, rfl⟩ := Int.eq_ofNat_of_zero_le (show 0 ≤ t by omega)
    have hZ : ∀ x ∈ seenL n m, 0 ≤ x ∧ x < 65536 := by
      intro x hx
      obtain ⟨s, _, rfl⟩ := List.mem_map.1 hx
      exact seenF_rng _ m 0 (by decide)
    have := implLF_l0 p n m hg p (seenL n m) (by simp [seenL]; omega) hZ m.length 0 k (List.replicate n 0) (by omega) (by omega) (by simp) (by rw [List.drop_zero]; exact outer_seenL p n m hg)
    rw [show ((0 : Nat) : Int) = 0 from rfl] at this
    rw [if_pos h, if_pos h, if_pos (by omega), if_pos (by omega), Int.toNat_natCast, this]
  · rw [if_neg h, if_neg h]
theorem main : laws_FnExactLogFrom.Pure := by
  intro p t l _ _ hl
  refine rounds_of 1048800 fun k hk => ?_
  unfold laws_FnExactLogFrom.f
  rw [szRecordS_eq l 1048576 (by decide) (by decide) hl.1, Option.bind_some]
  by_cases h : (1048576 : Int) < (l.length : Int)
  · rw [if_pos h, if_pos (by decide)]
  · have hm : (l.map cvRecord).length ≤ 1048576 := by rw [List.length_map]; omega
    have hb : recsOk p t (l.map cvRecord) = true → good p t (l.map cvRecord) := good_of p t _ (cv_bounds l hl.2)
    rw [if_neg h, if_neg (by omega), toRecordS_eq l (by omega) k (by omega)]
    simp only [Option.bind_some]
    generalize hq : l.map cvRecord = m at hm hb
    rw [spec_fin p t m hm hb k (by omega), impl_fin p t m hm hb k (by omega)]
    simp only [Option.bind_some]
    have hf' : (fin p t m).2.1.length ≤ 1048576 ∧ (fin p t m).2.2.1.length ≤ 1048576 := by
      unfold fin
      by_cases h : recsOk p t m = true
      · have := (hb h).2.2.1
        rw [if_pos h]; simp [seenL]; omega
      · rw [if_neg h]; simp
    generalize hv : fin p t m = v at hf'
    obtain ⟨v0, v1, v2, v3⟩ := v
    simp only at hf'
    rw [eqLog_eq v0 v1 v2 v0 v1 v2 hf'.1 hf'.2 k (by omega)]
    simp only [Option.bind_some, and_self, decide_true, if_true]
    obtain ⟨k, rfl⟩ : ∃ m, k = m + 3 := ⟨k - 3, by omega⟩
    simp only [laws_FnExactLogFrom.j0]
    obtain ⟨u, hu, hu0⟩ := markRec_eq m hm (k + 2) (by omega)
    rw [if_neg (by simp), toRecordS_eq l (by omega) _ (by omega), hq]
    simp only [Option.bind_some]
    rw [eqRecordS_eq m m hm _ (by omega)]
    simp only [Option.bind_some, decide_true, if_true]
    rw [hu]
    simp only [Option.bind_some]
    rw [if_neg (by omega), eqLog_eq v0 v1 v2 v0 v1 v2 hf'.1 hf'.2 _ (by omega)]
    simp only [Option.bind_some, and_self, decide_true, if_true, laws_FnExactLogFrom.j1]
    rw [if_neg (by simp), markLog_eq 1 (by decide) (by decide) v0 v1 v2 hf'.1 hf'.2 _ (by omega)]
    simp only [Option.bind_some]
    rw [heldLog_eq 1 (by decide) (by decide) v0 v1.length v2.length hf'.1 hf'.2 _ (by omega)]
    simp only [Option.bind_some]
    rw [if_neg (by omega), if_pos trivial, toRecordS_eq l (by omega) _ (by omega), hq]
    simp only [Option.bind_some]
    rw [impl_fin p t m hm hb _ (by omega), hv]
    simp only [Option.bind_some]
    rw [eqLog_eq v0 v1 v2 v0 v1 v2 hf'.1 hf'.2 _ (by omega)]
    simp only [Option.bind_some, and_self, decide_true, if_true, laws_FnExactLogFrom.j2]
    rw [if_neg (by simp), heldLog_eq 1 (by decide) (by decide) v0 v1.length v2.length hf'.1 hf'.2 _ (by omega)]
    simp only [Option.bind_some]
    rw [if_neg (by omega), if_pos trivial]

end Go.Proofs.Ytfmjfnnkkoekbaa.PureFnExactLogFrom
namespace Go.Proofs.Ytfmjfnnkkoekbaa.Pure
theorem FnExactLogFrom : Go.Proofs.Ytfmjfnnkkoekbaa.P.laws_FnExactLogFrom.Pure := Go.Proofs.Ytfmjfnnkkoekbaa.PureFnExactLogFrom.main
end Go.Proofs.Ytfmjfnnkkoekbaa.Pure
