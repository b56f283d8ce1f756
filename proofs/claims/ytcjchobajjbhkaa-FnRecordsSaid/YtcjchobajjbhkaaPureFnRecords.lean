/- For all two lists of bytes the law FnRecords says true; no condition. -/
import Derived.Test.YtcjchobajjbhkaaP14
import Derived.Laws.BitsLemmas
namespace Go.Proofs.Ytcjchobajjbhkaa.PureFnRecords
open Go.RowKit Go.Proofs.Ytcjchobajjbhkaa.P Go.Proofs.YtcjchobajjbhkaaW.PrintWords Go.Proofs.YtcjchobajjbhkaaW.PrintLast
set_option linter.unusedSimpArgs false
set_option linter.unusedVariables false

theorem wrap64_id (x : Int) (h0 : -9223372036854775808 ≤ x) (h1 : x ≤ 9223372036854775807) : wrap64 x = x := by unfold wrap64; omega
theorem wrap_nat (n : Nat) (h : n < 4611686018427387904) : wrap64 ((n : Int) + 1) = ((n + 1 : Nat) : Int) := by
  rw [wrap64_id _ (by omega) (by omega)]; omega
theorem rd_nat (l : List Int) (i : Nat) : rd l (i : Int) = l.getD i 0 := by simp [rd]
theorem drop_rd (l : List Int) (i : Nat) (h : i < l.length) : l.drop i = rd l (i : Int) :: l.drop (i + 1) := by
  rw [List.drop_eq_getElem_cons h, rd_nat, List.getD_eq_getElem?_getD, List.getElem?_eq_getElem h]; rfl
theorem drop_getD {α : Type} (z : α) (l : List α) (i : Nat) (h : i < l.length) : l.drop i = l.getD i z :: l.drop (i + 1) := by
  rw [List.drop_eq_getElem_cons h, List.getD_eq_getElem?_getD, List.getElem?_eq_getElem h]; rfl
theorem take_getD {α : Type} (z : α) (l : List α) (i : Nat) (h : i < l.length) : l.take (i + 1) = l.take i ++ [l.getD i z] := by
  rw [List.take_succ_eq_append_getElem h, List.getD_eq_getElem?_getD, List.getElem?_eq_getElem h]; rfl
theorem getD_range_map {α : Type} (z : α) (f : Nat → α) (n i : Nat) (h : i < n) : ((List.range n).map f).getD i z = f i := by
  rw [List.getD_eq_getElem?_getD, List.getElem?_map, List.getElem?_range h]; rfl
theorem rounds_of (B : Nat) {α : Type} {F : Nat → Option α} {v : α} (h : ∀ k, B ≤ k → F k = some v) : ∃ k, F k = some v := ⟨B, h B (Nat.le_refl _)⟩

theorem wrap_u16 (n : Int) : IntKind.u16.wrap n = n % 65536 := by simp [IntKind.wrap, IntKind.bits, IntKind.signed]
theorem wrap_u64 (n : Int) : IntKind.u64.wrap n = n % 18446744073709551616 := by simp [IntKind.wrap, IntKind.bits, IntKind.signed]
theorem wraps_u16 (n : Int) (h₀ : 0 ≤ n) (h₁ : n < 2 ^ 16) : IntKind.u16.wrap n = n := by rw [wrap_u16]; omega
theorem wrap_u64_id (n : Int) (h0 : 0 ≤ n) (h1 : n < 18446744073709551616) : IntKind.u64.wrap n = n := by rw [wrap_u64]; omega
theorem and_one (x : Int) (h₀ : 0 ≤ x) (h₁ : x < 65536) : Go.bits .and .u16 x 1 = x % 2 := by
  have := Go.bits_mask .u16 16 (by decide) wraps_u16 1 (by decide) x h₀ (by omega)
  simpa using this
theorem wf_u16 {a : Int} (h : (Lit.int .u16 a).wf = true) : 0 ≤ a ∧ a < 65536 := by
  simp [Lit.wf, IntKind.min, IntKind.max, IntKind.bits, IntKind.signed] at h
  omega
theorem wf_u8 {a : Int} (h : (Lit.int .u8 a).wf = true) : 0 ≤ a ∧ a ≤ 255 := by
  simp [Lit.wf, IntKind.min, IntKind.max, IntKind.bits, IntKind.signed] at h
  omega
theorem shr_range (a n : Int) (h0 : 0 ≤ a) (h1 : a < 65536) : 0 ≤ shr .u16 a n ∧ shr .u16 a n < 65536 := by
  unfold shr
  have hp : (0 : Int) < 2 ^ min n.toNat IntKind.u16.bits := Int.pow_pos (by decide)
  constructor
  · exact Int.ediv_nonneg h0 (Int.le_of_lt hp)
  · exact Int.lt_of_le_of_lt (Int.ediv_le_self _ h0) h1
theorem bits_u16 (op : BinOp) (x y : Int) : 0 ≤ Go.bits op .u16 x y ∧ Go.bits op .u16 x y < 65536 := by
  unfold Go.bits
  split <;> (rw [wrap_u16]; omega)

def srcOk (c : List Int) : Prop := c.length ≤ 4096 ∧ ∀ x ∈ c, 0 ≤ x ∧ x ≤ 255
theorem and64_255 (x : Int) (h0 : 0 ≤ x) (h1 : x < 18446744073709551616) : Go.bits .and .u64 x 255 = x % 256 := by
  have := Go.bits_mask .u64 64 (by decide) (fun n a b => wrap_u64_id n a (by simpa using b)) 8 (by decide) x h0 (by omega)
  simpa using this
theorem wrap_u64_range (x : Int) : 0 ≤ IntKind.u64.wrap x ∧ IntKind.u64.wrap x < 18446744073709551616 := by
  rw [wrap_u64]
  omega
theorem next_eq (c : List Int) (hc : srcOk c) (a s : Int) (ha : 0 ≤ a ∧ a ≤ 1000000) : ∃ v s', spec_l00Src_next.f c a s = some (v, a + 1, s') ∧ 0 ≤ v ∧ v ≤ 255 := by
  have hw : wrap64 (a + 1) = a + 1 := wrap64_id _ (by omega) (by omega)
  have hb : ∀ X : Int, 0 ≤ wrap64 (Go.bits .and .u64 (IntKind.u64.wrap X / 1099511627776) 255) ∧ wrap64 (Go.bits .and .u64 (IntKind.u64.wrap X / 1099511627776) 255) ≤ 255 := by
    intro X
    have h := wrap_u64_range X
    rw [and64_255 _ (by omega) (by omega), wrap64_id _ (by omega) (by omega)]
    omega
  unfold spec_l00Src_next.f
  rw [hw]
  by_cases h1 : a < (c.length : Int)
  · rw [if_pos h1, if_pos ha.1]
    have hr : 0 ≤ rd c a ∧ rd c a ≤ 255 := by
      obtain ⟨i, rfl⟩ := Int.eq_ofNat_of_zero_le ha.1
      rw [rd_nat, List.getD_eq_getElem?_getD, List.getElem?_eq_getElem (by omega)]
      exact hc.2 _ (List.getElem_mem _)
    by_cases h2 : a + 1 ≤ (c.length : Int)
    · rw [if_pos h2, wrap64_id (rd c a) (by omega) (by omega)]
      exact ⟨_, _, rfl, hr.1, hr.2⟩
    · rw [if_neg h2]
      exact ⟨_, _, rfl, hb _⟩
  · rw [if_neg h1]
    by_cases h2 : a + 1 ≤ (c.length : Int)
    · rw [if_pos h2]
      exact ⟨_, _, rfl, by decide, by decide⟩
    · rw [if_neg h2]
      exact ⟨_, _, rfl, hb _⟩
theorem pick_eq (c : List Int) (hc : srcOk c) (a s n : Int) (ha : 0 ≤ a ∧ a ≤ 1000000) (hn : 2 ≤ n ∧ n ≤ 200) : ∃ v s', spec_l00Src_pick.f c a s n = some (v, a + 1, s') ∧ 0 ≤ v ∧ v ≤ n - 1 := by
  obtain ⟨v, s', e, h0, h1⟩ := next_eq c hc a s ha
  unfold spec_l00Src_pick.f
  rw [if_neg (by omega), e]
  simp only [Option.bind_some]
  rw [if_neg (by omega), if_neg (by omega), Int.tmod_eq_emod_of_nonneg h0]
  exact ⟨_, _, rfl, Int.emod_nonneg _ (by omega), by have := Int.emod_lt_of_pos v (show 0 < n by omega); omega⟩
theorem i8_id (n : Int) (h : 0 ≤ n ∧ n ≤ 100) : IntKind.i8.wrap n = n := by
  simp [IntKind.wrap, IntKind.bits, IntKind.signed]
  omega
theorem in_eq (a b c : Int) : spec_l00In.f a b c = some (decide (b ≤ a ∧ a ≤ c)) := by
  unfold spec_l00In.f
  by_cases h : b ≤ a
  · rw [if_pos (by omega)]; simp [h]
  · rw [if_neg (by omega)]; simp [h]
theorem within_eq (a b c : Int) : impl_within.f a b c = some (decide (b ≤ a ∧ a ≤ c)) := by
  unfold impl_within.f
  by_cases h : b ≤ a
  · rw [if_pos (by omega)]; simp [h]
  · rw [if_neg (by omega)]; simp [h]
def isP (i : Int) : Bool := decide (0 ≤ i ∧ i ≤ 13)
theorem isP_iff (i : Int) : isP i = true ↔ 0 ≤ i ∧ i ≤ 13 := by simp [isP]
theorem isPerson_eq (i : Int) : impl_isPerson.f i = some (isP i) := by
  unfold impl_isPerson.f
  rw [within_eq]; rfl
/-- Is number i in the set p? -/
def hasB (p i : Int) : Bool := shr .u16 p i % 2 == 1
theorem l05Has_eq (p i : Int) (h0 : 0 ≤ p) (h1 : p < 65536) (hi : 0 ≤ i) (hi2 : i < 18446744073709551616) : spec_l05Has.f p i = some (hasB p i) := by
  unfold spec_l05Has.f
  rw [wrap_u64_id i hi hi2, if_pos hi, Int.tmod_eq_emod_of_nonneg (shr_range p i h0 h1).1]
  rfl
def hasP (p i : Int) : Bool := isP i && hasB p i
theorem implHas_eq (p i : Int) (h0 : 0 ≤ p) (h1 : p < 65536) : impl_HasPerson.f p i = some (hasP p i) := by
  unfold impl_HasPerson.f
  rw [isPerson_eq, Option.bind_some]
  by_cases h : isP i = true
  · have := (isP_iff i).1 h
    rw [if_pos h, if_pos (by omega), and_one _ (shr_range p i h0 h1).1 (shr_range p i h0 h1).2]
    simp [hasP, h, hasB]
  · rw [if_neg h]
    simp [hasP, h]

def recOk (p t : Int) (r : S44) : Bool :=
  decide (0 ≤ wrap64 r.f0 ∧ wrap64 r.f0 ≤ wrap64 (p - 1)) && decide (0 ≤ wrap64 r.f1 ∧ wrap64 r.f1 ≤ wrap64 (t - 1)) && decide (0 ≤ wrap64 r.f2 ∧ wrap64 r.f2 ≤ 10000)
def recsOk (p t : Int) (l : List S44) : Bool :=
  l.all (recOk p t) && decide (1 ≤ p ∧ p ≤ 14) && decide (1 ≤ t ∧ t ≤ 12) && decide ((l.length : Int) ≤ 80)
theorem drop_rec (l : List S44) (i : Nat) (h : i < l.length) : l.drop i = rd_T44 l (i : Int) :: l.drop (i + 1) := by
  rw [drop_getD z44 l i h]; simp [rd_T44]
theorem l05Records_l0 (p t : Int) (l : List S44) (hl : l.length ≤ 1048576) : ∀ (d i k : Nat), i + d = l.length → d < k → spec_l05Records.l0 k p t l (i : Int) = some ((l.drop i).all (recOk p t) && decide (1 ≤ p ∧ p ≤ 14) && decide (1 ≤ t ∧ t ≤ 12) && decide ((l.length : Int) ≤ 80)) := by
  intro d
  induction d with
  | zero =>
    intro i k hi hk
    obtain ⟨k, rfl⟩ : ∃ m, k = m + 1 := ⟨k - 1, by omega⟩
    simp only [spec_l05Records.l0]
    rw [if_neg (by omega), List.drop_eq_nil_of_le (by omega), in_eq, in_eq]
    by_cases h1 : 1 ≤ p ∧ p ≤ 14 <;> by_cases h2 : 1 ≤ t ∧ t ≤ 12 <;> simp [h1, h2]
  | succ d ih =>
    intro i k hi hk
    obtain ⟨k, rfl⟩ : ∃ m, k = m + 1 := ⟨k - 1, by omega⟩
    simp only [spec_l05Records.l0]
    rw [if_pos (by omega), if_pos (by omega), in_eq, in_eq, in_eq, drop_rec l i (by omega), wrap_nat i (by omega), ih (i + 1) k (by omega) (by omega)]
    simp only [Option.bind_some, List.all_cons, recOk]
    generalize rd_T44 l (i : Int) = r
    by_cases h1 : 0 ≤ wrap64 r.f0 ∧ wrap64 r.f0 ≤ wrap64 (p - 1) <;> by_cases h2 : 0 ≤ wrap64 r.f1 ∧ wrap64 r.f1 ≤ wrap64 (t - 1) <;> by_cases h3 : 0 ≤ wrap64 r.f2 ∧ wrap64 r.f2 ≤ 10000 <;> simp [h1, h2, h3]
theorem l05Records_eq (p t : Int) (l : List S44) (hl : l.length ≤ 1048576) (k : Nat) (hk : 1048576 < k) : spec_l05Records.f k p t l = some (recsOk p t l) := by
  unfold spec_l05Records.f
  have := l05Records_l0 p t l hl l.length 0 k (by omega) (by omega)
  rw [show ((0 : Nat) : Int) = 0 from rfl, List.drop_zero] at this
  exact this
theorem recFind_l0 (p t : Int) (l : List S44) (hl : l.length ≤ 1048576) : ∀ (d i k : Nat), i + d = l.length → d < k → ∃ r : Int, slices_IndexFunc_Record_at_ValidRecords_1.l0 k l (l.length : Int) (i : Int) p t = some r ∧ decide (r ≥ 0) = !(l.drop i).all (recOk p t) := by
  intro d
  induction d with
  | zero =>
    intro i k hi hk
    obtain ⟨k, rfl⟩ : ∃ m, k = m + 1 := ⟨k - 1, by omega⟩
    refine ⟨-1, ?_, ?_⟩
    · simp only [slices_IndexFunc_Record_at_ValidRecords_1.l0]
      rw [if_neg (by omega)]
    · rw [List.drop_eq_nil_of_le (by omega)]; simp
  | succ d ih =>
    intro i k hi hk
    obtain ⟨k, rfl⟩ : ∃ m, k = m + 1 := ⟨k - 1, by omega⟩
    have hv : ∀ r : S44, impl_ValidRecords_1.f r.f0 r.f1 r.f2 p t = some (!recOk p t r) := by
      intro r
      unfold impl_ValidRecords_1.f recOk
      simp only [within_eq, Option.bind_some]
      by_cases h1 : 0 ≤ wrap64 r.f0 ∧ wrap64 r.f0 ≤ wrap64 (p - 1) <;> by_cases h2 : 0 ≤ wrap64 r.f1 ∧ wrap64 r.f1 ≤ wrap64 (t - 1) <;> by_cases h3 : 0 ≤ wrap64 r.f2 ∧ wrap64 r.f2 ≤ 10000 <;> simp [h1, h2, h3]
    simp only [slices_IndexFunc_Record_at_ValidRecords_1.l0]
    rw [if_pos (by omega), if_pos (by omega), if_pos (by omega), hv, Option.bind_some, drop_rec l i (by omega), wrap_nat i (by omega)]
    by_cases h : recOk p t (rd_T44 l (i : Int)) = true
    · obtain ⟨r, h1, h2⟩ := ih (i + 1) k (by omega) (by omega)
      refine ⟨r, by rw [if_neg (by simp [h])]; exact h1, ?_⟩
      rw [h2]; simp [h]
    · refine ⟨(i : Int), by rw [if_pos (by simpa using h)], ?_⟩
      simp only [List.all_cons, Bool.eq_false_iff.2 h, Bool.false_and, Bool.not_false]
      exact decide_eq_true (by omega)
theorem implRecords_eq (p t : Int) (l : List S44) (hl : l.length ≤ 1048576) (k : Nat) (hk : 1048576 < k) : impl_ValidRecords.f k p t l = some (recsOk p t l) := by
  unfold impl_ValidRecords.f slices_ContainsFunc_Record_at_ValidRecords_1.f slices_IndexFunc_Record_at_ValidRecords_1.f
  obtain ⟨r, h1, h2⟩ := recFind_l0 p t l hl l.length 0 k (by omega) (by omega)
  rw [show ((0 : Nat) : Int) = 0 from rfl] at h1
  rw [List.drop_zero] at h2
  simp only [within_eq, Option.bind_some, h1, h2, recsOk]
  by_cases g1 : 1 ≤ p ∧ p ≤ 14 <;> by_cases g2 : 1 ≤ t ∧ t ≤ 12 <;> by_cases g3 : (l.length : Int) > 80
  all_goals first
    | (have g4 : ¬ (l.length : Int) ≤ 80 := by omega
       simp [g1, g2, g3, g4])
    | (have g4 : (l.length : Int) ≤ 80 := by omega
       simp [g1, g2, g3, g4])
    | simp [g1, g2, g3]

def good (p t : Int) (m : List S44) : Prop := (∀ r ∈ m, (0 ≤ r.f0 ∧ r.f0 ≤ p - 1) ∧ (0 ≤ r.f1 ∧ r.f1 ≤ t - 1) ∧ (0 ≤ r.f2 ∧ r.f2 ≤ 10000)) ∧ (1 ≤ p ∧ p ≤ 14) ∧ (1 ≤ t ∧ t ≤ 12) ∧ m.length ≤ 80
theorem good_of (p t : Int) (m : List S44) (hb : ∀ r ∈ m, (-128 ≤ r.f0 ∧ r.f0 ≤ 127) ∧ (-128 ≤ r.f1 ∧ r.f1 ≤ 127) ∧ (-32768 ≤ r.f2 ∧ r.f2 ≤ 32767)) (h : recsOk p t m = true) : good p t m := by
  unfold recsOk at h
  simp only [Bool.and_eq_true, decide_eq_true_eq] at h
  obtain ⟨⟨⟨h1, h2⟩, h3⟩, h4⟩ := h
  refine ⟨fun r hr => ?_, h2, h3, by omega⟩
  have g := List.all_eq_true.1 h1 r hr
  have b := hb r hr
  unfold recOk at g
  simp only [Bool.and_eq_true, decide_eq_true_eq] at g
  rw [wrap64_id r.f0 (by omega) (by omega), wrap64_id r.f1 (by omega) (by omega), wrap64_id r.f2 (by omega) (by omega), wrap64_id (p - 1) (by omega) (by omega), wrap64_id (t - 1) (by omega) (by omega)] at g
  exact ⟨g.1.1, g.1.2, g.2⟩
theorem mem_rdr (s : List S44) (i : Nat) (h : i < s.length) : rd_T44 s (i : Int) ∈ s := by
  have h2 : rd_T44 s (i : Int) = s.getD i z44 := by simp [rd_T44]
  rw [h2, List.getD_eq_getElem?_getD, List.getElem?_eq_getElem h]
  exact List.getElem_mem _
def toR3 (x : S44) : Int × Int × Int := (x.f0, x.f1, x.f2)
def ofR3 (t : Int × Int × Int) : S44 := ⟨t.1, t.2.1, t.2.2⟩
def outR (l : List S44) (i : Nat) : List S44 := (Go.Proofs.Ytcjchobajjbhkaa.H.sortIn Go.Proofs.Ytcjchobajjbhkaa.H.recLt ((l.take i).map toR3)).map ofR3
theorem rd_rec_get (l : List S44) (i : Nat) (h : i < l.length) : rd_T44 l (i : Int) = l[i] := by
  have h2 : rd_T44 l (i : Int) = l.getD i z44 := by simp [rd_T44]
  rw [h2, List.getD_eq_getElem?_getD, List.getElem?_eq_getElem h]; rfl
theorem outR_len (l : List S44) (i : Nat) (h : i ≤ l.length) : (outR l i).length = i := by
  unfold outR
  rw [List.length_map, (Go.Proofs.Ytcjchobajjbhkaa.H.sortIn_perm Go.Proofs.Ytcjchobajjbhkaa.H.recTot _).length_eq, List.length_map, List.length_take]; omega
theorem outR_map (l : List S44) (i : Nat) : (outR l i).map toR3 = Go.Proofs.Ytcjchobajjbhkaa.H.sortIn Go.Proofs.Ytcjchobajjbhkaa.H.recLt ((l.take i).map toR3) := by
  unfold outR
  rw [List.map_map, show (toR3 ∘ ofR3) = id from rfl, List.map_id]
def scanR (x : S44) (o : List S44) (n : Nat) : Nat := Go.Proofs.Ytcjchobajjbhkaa.H.scanAt Go.Proofs.Ytcjchobajjbhkaa.H.recLt (toR3 x) (o.map toR3) n
theorem outR_succ (l : List S44) (i : Nat) (h : i < l.length) : outR l (i + 1) = ((outR l i).take (scanR (rd_T44 l (i : Int)) (outR l i) i) ++ [rd_T44 l (i : Int)]) ++ (outR l i).drop (scanR (rd_T44 l (i : Int)) (outR l i) i) := by
  have hl := outR_len l i (by omega)
  unfold scanR
  rw [outR_map, rd_rec_get l i h]
  have hl2 : (Go.Proofs.Ytcjchobajjbhkaa.H.sortIn Go.Proofs.Ytcjchobajjbhkaa.H.recLt ((l.take i).map toR3)).length = i := by rw [← outR_map, List.length_map, hl]
  conv => lhs; unfold outR
  rw [List.take_succ_eq_append_getElem h, List.map_append, List.map_singleton, Go.Proofs.Ytcjchobajjbhkaa.H.sortIn_snoc]
  unfold Go.Proofs.Ytcjchobajjbhkaa.H.putIn
  rw [hl2]
  unfold outR
  simp [List.map_take, List.map_drop, show ∀ x, ofR3 (toR3 x) = x from fun _ => rfl]
theorem scanR_step (x : S44) (o : List S44) (a : Nat) (h : a < o.length) : scanR x o (a + 1) = if Go.Proofs.Ytcjchobajjbhkaa.H.recLt (toR3 x) (toR3 (rd_T44 o (a : Int))) = true then scanR x o a else a + 1 := by
  unfold scanR
  conv => lhs; unfold Go.Proofs.Ytcjchobajjbhkaa.H.scanAt
  rw [show (o.map toR3).getD a default = toR3 (rd_T44 o (a : Int)) by rw [rd_rec_get o a h]; simp [List.getD_eq_getElem?_getD, List.getElem?_map, List.getElem?_eq_getElem h]]
theorem sorted_l1 (l : List S44) (hl : l.length ≤ 1000) (i : Nat) (hi : i < l.length) : ∀ (a k : Nat), a ≤ i → a < k → scanR (rd_T44 l (i : Int)) (outR l i) i = scanR (rd_T44 l (i : Int)) (outR l i) a → ∃ q, k ≤ q + a + 1 ∧ spec_l05Sorted.l1 k l (outR l i) (i : Int) (a : Int) = spec_l05Sorted.l0 q l (outR l (i + 1)) ((i + 1 : Nat) : Int) := by
  have ho := outR_len l i (by omega)
  have hs := outR_succ l i hi
  intro a
  induction a with
  | zero =>
    intro k h1 h2 h3
    obtain ⟨k, rfl⟩ : ∃ m, k = m + 1 := ⟨k - 1, by omega⟩
    refine ⟨k, by omega, ?_⟩
    rw [h3, show scanR (rd_T44 l (i : Int)) (outR l i) 0 = 0 from rfl] at hs
    rw [hs]
    simp only [spec_l05Sorted.l1]
    rw [if_neg (by omega), Option.bind_some, if_pos (by omega), if_pos (by omega), Option.bind_some, if_pos (by simp; omega), Option.bind_some, Option.bind_some, if_pos (by omega), if_pos (by omega), if_pos (by simp), Option.bind_some, if_pos (by simp; omega), wrap_nat i (by omega)]
    rfl
  | succ a ih =>
    intro k h1 h2 h3
    obtain ⟨k, rfl⟩ : ∃ m, k = m + 1 := ⟨k - 1, by omega⟩
    have hst := scanR_step (rd_T44 l (i : Int)) (outR l i) a (by omega)
    simp only [spec_l05Sorted.l1]
    rw [wrap64_id _ (by omega) (by omega), show ((a + 1 : Nat) : Int) - 1 = (a : Int) by omega, if_pos (by omega), if_pos (by omega), if_pos (by omega), if_pos (by omega), if_pos (by omega)]
    rw [show spec_l05Before.f (rd_T44 l (i : Int)).f0 (rd_T44 l (i : Int)).f1 (rd_T44 l (i : Int)).f2 (rd_T44 (outR l i) (a : Int)).f0 (rd_T44 (outR l i) (a : Int)).f1 (rd_T44 (outR l i) (a : Int)).f2 = some (Go.Proofs.Ytcjchobajjbhkaa.H.recLt (toR3 (rd_T44 l (i : Int))) (toR3 (rd_T44 (outR l i) (a : Int)))) from rfl, Option.bind_some]
    by_cases e : Go.Proofs.Ytcjchobajjbhkaa.H.recLt (toR3 (rd_T44 l (i : Int))) (toR3 (rd_T44 (outR l i) (a : Int))) = true
    · rw [if_pos e] at hst
      rw [if_pos e]
      obtain ⟨q, q1, q2⟩ := ih k (by omega) (by omega) (h3.trans hst)
      exact ⟨q, by omega, q2⟩
    · rw [if_neg e] at hst
      refine ⟨k, by omega, ?_⟩
      rw [h3, hst] at hs
      rw [hs, if_neg e, Option.bind_some, if_pos (by omega), if_pos (by omega), Option.bind_some, if_pos (by simp; omega), Option.bind_some, Option.bind_some, if_pos (by simp; omega), Option.bind_some, if_pos (by simp; omega), wrap_nat i (by omega), Int.toNat_natCast, List.nil_append]
theorem sorted_l0 (l : List S44) (hl : l.length ≤ 1000) : ∀ (d i k : Nat), i + d = l.length → d * 1003 < k → spec_l05Sorted.l0 k l (outR l i) (i : Int) = some (outR l l.length) := by
  intro d
  induction d with
  | zero =>
    intro i k hi hk
    obtain ⟨k, rfl⟩ : ∃ m, k = m + 1 := ⟨k - 1, by omega⟩
    obtain rfl : i = l.length := by omega
    simp only [spec_l05Sorted.l0]
    rw [if_neg (by omega)]
  | succ d ih =>
    intro i k hi hk
    obtain ⟨D, hD⟩ : ∃ D, D = d * 1003 := ⟨_, rfl⟩
    rw [Nat.succ_mul, ← hD] at hk
    have ih' := fun q (hq : D < q) => ih (i + 1) q (by omega) (by rw [← hD]; exact hq)
    clear ih hD
    obtain ⟨k, rfl⟩ : ∃ m, k = m + 1 := ⟨k - 1, by omega⟩
    have ho := outR_len l i (by omega)
    obtain ⟨q, q1, q2⟩ := sorted_l1 l hl i (by omega) i k (Nat.le_refl _) (by omega) rfl
    simp only [spec_l05Sorted.l0]
    rw [if_pos (by omega), ho, q2]
    exact ih' q (by omega)
def sortR (l : List S44) : List S44 := outR l l.length
theorem sortR_len (l : List S44) : (sortR l).length = l.length := outR_len l _ (Nat.le_refl _)
theorem specSorted_eq (l : List S44) (hl : l.length ≤ 1000) (k : Nat) (hk : 2000000 < k) : spec_l05Sorted.f k l = some (sortR l) := by
  unfold spec_l05Sorted.f
  have := sorted_l0 l hl l.length 0 k (by omega) (by omega)
  exact this
theorem implSorted_eq (l : List S44) (hl : l.length ≤ 1000) : impl_sorted.f l = some (sortR l) := by
  unfold impl_sorted.f sortR outR
  rw [if_pos hl, List.take_length]; rfl

def finR (p t : Int) (l : List S44) : List S44 × Int := if recsOk p t l = true then (sortR l, 0) else ([], 1)
theorem recsOk_len (p t : Int) (l : List S44) (h : recsOk p t l = true) : l.length ≤ 80 := by
  unfold recsOk at h
  simp only [Bool.and_eq_true, decide_eq_true_eq] at h
  omega
theorem specSortR_eq (p t : Int) (l : List S44) (hl : l.length ≤ 1048576) (k : Nat) (hk : 2000000 < k) : spec_SortRecords.f k p t l = some (finR p t l) := by
  unfold spec_SortRecords.f finR
  rw [l05Records_eq p t l hl k (by omega), Option.bind_some]
  by_cases c : recsOk p t l = true
  · have := recsOk_len p t l c
    rw [if_pos c, if_pos c, specSorted_eq l (by omega) k hk, Option.bind_some]
  · rw [if_neg c, if_neg c]
theorem implSortR_eq (p t : Int) (l : List S44) (hl : l.length ≤ 1048576) (k : Nat) (hk : 2000000 < k) : impl_SortRecords.f k p t l = some (finR p t l) := by
  unfold impl_SortRecords.f finR
  rw [implRecords_eq p t l hl k (by omega), Option.bind_some]
  by_cases c : recsOk p t l = true
  · have := recsOk_len p t l c
    rw [if_pos c, if_pos c, implSorted_eq l (by omega), Option.bind_some]
  · rw [if_neg c, if_neg c]

theorem mem_sortR (l : List S44) (x : S44) (h : x ∈ sortR l) : x ∈ l := by
  unfold sortR outR at h
  obtain ⟨t, ht, rfl⟩ := List.mem_map.1 h
  have := (Go.Proofs.Ytcjchobajjbhkaa.H.sortIn_perm Go.Proofs.Ytcjchobajjbhkaa.H.recTot ((l.take l.length).map toR3)).mem_iff.1 ht
  rw [List.take_length] at this
  obtain ⟨y, hy, rfl⟩ := List.mem_map.1 this
  exact hy
def anyV (s : List S44) (i : Nat) : Nat → Nat → Bool
  | 0, _ => false
  | d + 1, j => (decide ((rd_T44 s (j : Int)).f0 = (rd_T44 s (i : Int)).f0) && decide ((rd_T44 s (i : Int)).f1 < (rd_T44 s (j : Int)).f1)) || anyV s i d (j + 1)
theorem anyV_succ (s : List S44) (i d j : Nat) : anyV s i (d + 1) j = ((decide ((rd_T44 s (j : Int)).f0 = (rd_T44 s (i : Int)).f0) && decide ((rd_T44 s (i : Int)).f1 < (rd_T44 s (j : Int)).f1)) || anyV s i d (j + 1)) := rfl
theorem anyV_iff (s : List S44) (i : Nat) : ∀ (d j : Nat), anyV s i d j = true ↔ ∃ t, j ≤ t ∧ t < j + d ∧ (rd_T44 s (t : Int)).f0 = (rd_T44 s (i : Int)).f0 ∧ (rd_T44 s (i : Int)).f1 < (rd_T44 s (t : Int)).f1
  | 0, j => by
    constructor
    · intro h; exact absurd h (by simp [anyV])
    · rintro ⟨t, h1, h2, _⟩; omega
  | d + 1, j => by
    have ih := anyV_iff s i d (j + 1)
    unfold anyV
    rw [Bool.or_eq_true, Bool.and_eq_true, decide_eq_true_eq, decide_eq_true_eq, ih]
    constructor
    · rintro (⟨h1, h2⟩ | ⟨t, h1, h2, h3, h4⟩)
      · exact ⟨j, Nat.le_refl _, by omega, h1, h2⟩
      · exact ⟨t, by omega, by omega, h3, h4⟩
    · rintro ⟨t, h1, h2, h3, h4⟩
      by_cases e : t = j
      · subst e; exact Or.inl ⟨h3, h4⟩
      · exact Or.inr ⟨t, by omega, by omega, h3, h4⟩
theorem backS_l1 (s : List S44) (hl : s.length ≤ 1000) (i : Nat) (hi : i < s.length) : ∀ (d j k : Nat), j + d = i → d < k → spec_FirstBackward.l1 k s (i : Int) (j : Int) = if anyV s i d j = true then some ((i : Int), 0) else spec_FirstBackward.l0 (k - (d + 1)) s ((i + 1 : Nat) : Int) := by
  intro d
  induction d with
  | zero =>
    intro j k hj hk
    obtain ⟨k, rfl⟩ : ∃ m, k = m + 1 := ⟨k - 1, by omega⟩
    simp only [spec_FirstBackward.l1]
    rw [if_neg (by omega), wrap_nat i (by omega), if_neg (by simp [anyV])]
    simp
  | succ d ih =>
    intro j k hj hk
    obtain ⟨k, rfl⟩ : ∃ m, k = m + 1 := ⟨k - 1, by omega⟩
    simp only [spec_FirstBackward.l1]
    rw [if_pos (by omega), if_pos (by omega), if_pos (by omega), if_pos (by omega), if_pos (by omega), wrap_nat j (by omega), ih (j + 1) k (by omega) (by omega), show k + 1 - (d + 1 + 1) = k - (d + 1) by omega, anyV_succ]
    by_cases e1 : (rd_T44 s (j : Int)).f0 = (rd_T44 s (i : Int)).f0
    · rw [if_pos e1, decide_eq_true e1, Bool.true_and]
      by_cases e2 : (rd_T44 s (j : Int)).f1 > (rd_T44 s (i : Int)).f1
      · rw [if_pos e2, decide_eq_true e2, if_pos (by rfl)]
      · rw [if_neg e2, decide_eq_false e2, Bool.false_or]
    · rw [if_neg e1, decide_eq_false e1, Bool.false_and, Bool.false_or]
structure FarI (s : List S44) (far : Nat → Int) (i : Nat) : Prop where
  up : ∀ t, t < i → (rd_T44 s (t : Int)).f1 ≤ far (rd_T44 s (t : Int)).f0.toNat
  at_ : ∀ p, far p = 0 ∨ ∃ t, t < i ∧ (rd_T44 s (t : Int)).f0.toNat = p ∧ (rd_T44 s (t : Int)).f1 = far p
theorem backS_l0 (s : List S44) (hl : s.length ≤ 1000) (hg : ∀ x ∈ s, (0 ≤ x.f0 ∧ x.f0 < 14) ∧ 0 ≤ x.f1) : ∀ (d i k : Nat) (far : Nat → Int), i + d = s.length → d * 1003 < k → FarI s far i → spec_FirstBackward.l0 k s (i : Int) = some (impl_FirstBackward.bk far (s.drop i) i) := by
  intro d
  induction d with
  | zero =>
    intro i k far hi hk hF
    obtain ⟨k, rfl⟩ : ∃ m, k = m + 1 := ⟨k - 1, by omega⟩
    simp only [spec_FirstBackward.l0]
    rw [if_neg (by omega), List.drop_eq_nil_of_le (by omega)]
    rfl
  | succ d ih =>
    intro i k far hi hk hF
    obtain ⟨D, hD⟩ : ∃ D, D = d * 1003 := ⟨_, rfl⟩
    rw [Nat.succ_mul, ← hD] at hk
    have ih' := fun q far (hq : D < q) => ih (i + 1) q far (by omega) (by rw [← hD]; exact hq)
    clear ih hD
    obtain ⟨k, rfl⟩ : ∃ m, k = m + 1 := ⟨k - 1, by omega⟩
    simp only [spec_FirstBackward.l0]
    rw [if_pos (by omega)]
    have h1 := backS_l1 s hl i (by omega) i 0 k (by omega) (by omega)
    rw [show ((0 : Nat) : Int) = 0 from rfl] at h1
    rw [h1, drop_rec s i (by omega)]
    have hx := hg _ (mem_rdr s i (by omega))
    have hkey : anyV s i i 0 = true ↔ (rd_T44 s (i : Int)).f1 < far (rd_T44 s (i : Int)).f0.toNat := by
      rw [anyV_iff]
      constructor
      · rintro ⟨t, _, h2, h3, h4⟩
        have := hF.up t (by omega)
        rw [h3] at this
        omega
      · intro h
        rcases hF.at_ (rd_T44 s (i : Int)).f0.toNat with h0 | ⟨t, t1, t2, t3⟩
        · omega
        · have hy := hg _ (mem_rdr s t (by omega))
          exact ⟨t, by omega, by omega, by omega, by omega⟩
    simp only [impl_FirstBackward.bk]
    by_cases e : (rd_T44 s (i : Int)).f1 < far (rd_T44 s (i : Int)).f0.toNat
    · rw [if_pos (hkey.2 e), if_pos e]
    · rw [if_neg (fun z => e (hkey.1 z)), if_neg e]
      refine ih' (k - (i + 1)) _ (by omega) ⟨fun t ht => ?_, fun p => ?_⟩
      · by_cases et : t = i
        · subst et; rw [if_pos rfl]; exact Int.le_refl _
        · by_cases ep : (rd_T44 s (t : Int)).f0.toNat = (rd_T44 s (i : Int)).f0.toNat
          · rw [if_pos ep]
            have := hF.up t (by omega)
            have hy := hg _ (mem_rdr s t (by omega))
            have hno : ¬ (rd_T44 s (i : Int)).f1 < (rd_T44 s (t : Int)).f1 := fun z => e (hkey.1 ((anyV_iff s i i 0).2 ⟨t, by omega, by omega, by omega, z⟩))
            omega
          · rw [if_neg ep]; exact hF.up t (by omega)
      · by_cases ep : p = (rd_T44 s (i : Int)).f0.toNat
        · rw [if_pos ep]
          exact Or.inr ⟨i, by omega, ep.symm, rfl⟩
        · rw [if_neg ep]
          rcases hF.at_ p with h0 | ⟨t, t1, t2, t3⟩
          · exact Or.inl h0
          · exact Or.inr ⟨t, by omega, t2, t3⟩
def finB (p t : Int) (l : List S44) : Int × Int := if recsOk p t l = true then impl_FirstBackward.bk (fun _ => 0) (sortR l) 0 else (0, 1)
theorem sort_good (p t : Int) (l : List S44) (hb : ∀ r ∈ l, (-128 ≤ r.f0 ∧ r.f0 ≤ 127) ∧ (-128 ≤ r.f1 ∧ r.f1 ≤ 127) ∧ (-32768 ≤ r.f2 ∧ r.f2 ≤ 32767)) (c : recsOk p t l = true) : ∀ x ∈ sortR l, (0 ≤ x.f0 ∧ x.f0 < 14) ∧ 0 ≤ x.f1 := fun x hx => by
  obtain ⟨h1, h2, _⟩ := good_of p t l hb c
  have := h1 x (mem_sortR l x hx)
  omega
theorem specBack_eq (p t : Int) (l : List S44) (hl : l.length ≤ 1048576) (hb : ∀ r ∈ l, (-128 ≤ r.f0 ∧ r.f0 ≤ 127) ∧ (-128 ≤ r.f1 ∧ r.f1 ≤ 127) ∧ (-32768 ≤ r.f2 ∧ r.f2 ≤ 32767)) (k : Nat) (hk : 2000000 < k) : spec_FirstBackward.f k p t l = some (finB p t l) := by
  unfold spec_FirstBackward.f finB
  rw [l05Records_eq p t l hl k (by omega), Option.bind_some]
  by_cases c : recsOk p t l = true
  · have h80 := recsOk_len p t l c
    have hsl := sortR_len l
    rw [if_pos c, if_pos c, specSorted_eq l (by omega) k hk, Option.bind_some]
    have := backS_l0 (sortR l) (by omega) (sort_good p t l hb c) (sortR l).length 0 k (fun _ => 0) (by omega) (by omega) ⟨fun t ht => by omega, fun _ => Or.inl rfl⟩
    rw [show ((0 : Nat) : Int) = 0 from rfl, List.drop_zero] at this
    exact this
  · rw [if_neg c, if_neg c]
theorem implBack_eq (p t : Int) (l : List S44) (hl : l.length ≤ 1048576) (hb : ∀ r ∈ l, (-128 ≤ r.f0 ∧ r.f0 ≤ 127) ∧ (-128 ≤ r.f1 ∧ r.f1 ≤ 127) ∧ (-32768 ≤ r.f2 ∧ r.f2 ≤ 32767)) (k : Nat) (hk : 2000000 < k) : impl_FirstBackward.f k p t l = some (finB p t l) := by
  unfold impl_FirstBackward.f finB
  rw [implRecords_eq p t l hl k (by omega), Option.bind_some]
  by_cases c : recsOk p t l = true
  · have h80 := recsOk_len p t l c
    have hsl := sortR_len l
    rw [if_pos c, if_pos c, implSorted_eq l (by omega), Option.bind_some, if_pos ⟨by omega, fun x hx => (sort_good p t l hb c x hx).1⟩]
  · rw [if_neg c, if_neg c]

instance decRecord : DecidableEq S44 := fun x y =>
  if h : x.f0 = y.f0 ∧ x.f1 = y.f1 ∧ x.f2 = y.f2 then isTrue (by obtain ⟨a, b, c⟩ := x; obtain ⟨a', b', c'⟩ := y; simp only at h; rw [h.1, h.2.1, h.2.2]) else isFalse (fun e => h (by rw [e]; exact ⟨rfl, rfl, rfl⟩))
/-- The numbers of a set from i on. -/
def listFrom (p : Int) : Nat → Nat → List Int
  | 0, _ => []
  | d + 1, i => if hasB p (i : Int) = true then (i : Int) :: listFrom p d (i + 1) else listFrom p d (i + 1)
def listP (p : Int) : List Int := listFrom p 14 0
theorem listFrom_length (p : Int) : ∀ d i, (listFrom p d i).length ≤ d
  | 0, _ => by simp [listFrom]
  | d + 1, i => by
    have := listFrom_length p d (i + 1)
    unfold listFrom
    split <;> simp <;> omega
theorem listP_length (p : Int) : (listP p).length ≤ 14 := listFrom_length p 14 0
theorem l05List_l0 (p : Int) (h0 : 0 ≤ p) (h1 : p < 65536) : ∀ (d i k : Nat) (xs : List Int), i + d = 14 → d < k → xs.length ≤ i → spec_l05List.l0 k p xs (i : Int) = some (xs ++ listFrom p d i) := by
  intro d
  induction d with
  | zero =>
    intro i k xs hi hk hx
    obtain ⟨k, rfl⟩ : ∃ m, k = m + 1 := ⟨k - 1, by omega⟩
    simp only [spec_l05List.l0]
    rw [if_neg (by omega)]
    simp [listFrom]
  | succ d ih =>
    intro i k xs hi hk hx
    obtain ⟨k, rfl⟩ : ∃ m, k = m + 1 := ⟨k - 1, by omega⟩
    simp only [spec_l05List.l0]
    rw [if_pos (by omega), l05Has_eq p i h0 h1 (by omega) (by omega), Option.bind_some, wrap_nat i (by omega)]
    unfold listFrom
    by_cases h : hasB p (i : Int) = true
    · rw [if_pos h, if_pos (by omega), ih (i + 1) k _ (by omega) (by omega) (by simp; omega), if_pos h]
      simp
    · rw [if_neg h, ih (i + 1) k _ (by omega) (by omega) (by omega), if_neg h]
theorem l05List_eq (p : Int) (h0 : 0 ≤ p) (h1 : p < 65536) (k : Nat) (hk : 14 < k) : spec_l05List.f k p = some (listP p) := by
  unfold spec_l05List.f
  have := l05List_l0 p h0 h1 14 0 k [] (by omega) hk (by simp)
  simpa [listP] using this

def TAB : ByteArray := ⟨#[0, 1, 1, 2, 1, 2, 2, 3, 1, 2, 2, 3, 2, 3, 3, 4, 1, 2, 2, 3, 2, 3, 3, 4, 2, 3, 3, 4, 3, 4, 4, 5, 1, 2, 2, 3, 2, 3, 3, 4, 2, 3, 3, 4, 3, 4, 4, 5, 2, 3, 3, 4, 3, 4, 4, 5, 3, 4, 4, 5, 4, 5, 5, 6, 1, 2, 2, 3, 2, 3, 3, 4, 2, 3, 3, 4, 3, 4, 4, 5, 2, 3, 3, 4, 3, 4, 4, 5, 3, 4, 4, 5, 4, 5, 5, 6, 2, 3, 3, 4, 3, 4, 4, 5, 3, 4, 4, 5, 4, 5, 5, 6, 3, 4, 4, 5, 4, 5, 5, 6, 4, 5, 5, 6, 5, 6, 6, 7, 1, 2, 2, 3, 2, 3, 3, 4, 2, 3, 3, 4, 3, 4, 4, 5, 2, 3, 3, 4, 3, 4, 4, 5, 3, 4, 4, 5, 4, 5, 5, 6, 2, 3, 3, 4, 3, 4, 4, 5, 3, 4, 4, 5, 4, 5, 5, 6, 3, 4, 4, 5, 4, 5, 5, 6, 4, 5, 5, 6, 5, 6, 6, 7, 2, 3, 3, 4, 3, 4, 4, 5, 3, 4, 4, 5, 4, 5, 5, 6, 3, 4, 4, 5, 4, 5, 5, 6, 4, 5, 5, 6, 5, 6, 6, 7, 3, 4, 4, 5, 4, 5, 5, 6, 4, 5, 5, 6, 5, 6, 6, 7, 4, 5, 5, 6, 5, 6, 6, 7, 5, 6, 6, 7, 6, 7, 7, 8]⟩
def pop8 (j : Int) : Int := j % 2 + j / 2 % 2 + j / 4 % 2 + j / 8 % 2 + j / 16 % 2 + j / 32 % 2 + j / 64 % 2 + j / 128 % 2
theorem TAB_eq : ∀ j : Nat, j < 256 → bt TAB (j : Int) = pop8 (j : Int) := by decide +kernel
theorem and_255 (x : Int) (h₀ : 0 ≤ x) (h₁ : x < 65536) : Go.bits .and .u16 x 255 = x % 256 := by
  have := Go.bits_mask .u16 16 (by decide) wraps_u16 8 (by decide) x h₀ (by omega)
  simpa using this
theorem and_14 (x : Int) (h₀ : 0 ≤ x) (h₁ : x < 65536) : Go.bits .and .u16 x 16383 = x % 16384 := by
  have := Go.bits_mask .u16 16 (by decide) wraps_u16 14 (by decide) x h₀ (by omega)
  simpa using this
theorem ones_eq (x : Int) (h0 : 0 ≤ x) (h1 : x < 65536) : bits_OnesCount16.f x = some ((pop8 (x / 256) + pop8 (x % 256)) % 256) := by
  unfold bits_OnesCount16.f
  rw [and_255 x h0 h1, if_pos (by omega), if_pos (by omega), if_pos (by omega), if_pos (by omega)]
  obtain ⟨a, ha⟩ := Int.eq_ofNat_of_zero_le (show 0 ≤ x / 256 by omega)
  obtain ⟨b, hb⟩ := Int.eq_ofNat_of_zero_le (show 0 ≤ x % 256 by omega)
  rw [ha, hb]
  have e1 := TAB_eq a (by omega)
  have e2 := TAB_eq b (by omega)
  unfold TAB at e1 e2
  rw [e1, e2]
theorem hasB_iff (p : Int) (i : Nat) (hi : i ≤ 16) : hasB p (i : Int) = (p / 2 ^ i % 2 == 1) := by
  unfold hasB shr
  rw [Int.toNat_natCast, Nat.min_eq_left (by simpa [IntKind.bits] using hi)]
theorem listFrom_count (p : Int) (d i : Nat) (hi : i ≤ 16) : ((listFrom p (d + 1) i).length : Int) = p / 2 ^ i % 2 + ((listFrom p d (i + 1)).length : Int) := by
  rw [show listFrom p (d + 1) i = if hasB p (i : Int) = true then (i : Int) :: listFrom p d (i + 1) else listFrom p d (i + 1) from rfl, hasB_iff p i hi]
  have h : p / 2 ^ i % 2 = 0 ∨ p / 2 ^ i % 2 = 1 := by omega
  rcases h with h | h
  · rw [h]; simp
  · rw [h]; simp; omega
def cnt14 (p : Int) : Int := p % 2 + (p / 2 % 2 + (p / 4 % 2 + (p / 8 % 2 + (p / 16 % 2 + (p / 32 % 2 + (p / 64 % 2 + (p / 128 % 2 + (p / 256 % 2 + (p / 512 % 2 + (p / 1024 % 2 + (p / 2048 % 2 + (p / 4096 % 2 + p / 8192 % 2))))))))))))
theorem listP_count (p : Int) : ((listP p).length : Int) = cnt14 p := by
  unfold listP
  rw [listFrom_count p 13 0 (by decide), listFrom_count p 12 1 (by decide), listFrom_count p 11 2 (by decide), listFrom_count p 10 3 (by decide), listFrom_count p 9 4 (by decide), listFrom_count p 8 5 (by decide), listFrom_count p 7 6 (by decide), listFrom_count p 6 7 (by decide), listFrom_count p 5 8 (by decide), listFrom_count p 4 9 (by decide), listFrom_count p 3 10 (by decide), listFrom_count p 2 11 (by decide), listFrom_count p 1 12 (by decide), listFrom_count p 0 13 (by decide)]
  simp [listFrom, cnt14]
theorem pop_cnt (p : Int) (h0 : 0 ≤ p) : (pop8 (p % 16384 / 256) + pop8 (p % 16384 % 256)) % 256 = cnt14 p := by
  have a0 : p % 16384 % 256 % 2 = p % 2 := by omega
  have a1 : p % 16384 % 256 / 2 % 2 = p / 2 % 2 := by omega
  have a2 : p % 16384 % 256 / 4 % 2 = p / 4 % 2 := by omega
  have a3 : p % 16384 % 256 / 8 % 2 = p / 8 % 2 := by omega
  have a4 : p % 16384 % 256 / 16 % 2 = p / 16 % 2 := by omega
  have a5 : p % 16384 % 256 / 32 % 2 = p / 32 % 2 := by omega
  have a6 : p % 16384 % 256 / 64 % 2 = p / 64 % 2 := by omega
  have a7 : p % 16384 % 256 / 128 % 2 = p / 128 % 2 := by omega
  have b0 : p % 16384 / 256 % 2 = p / 256 % 2 := by omega
  have b1 : p % 16384 / 256 / 2 % 2 = p / 512 % 2 := by omega
  have b2 : p % 16384 / 256 / 4 % 2 = p / 1024 % 2 := by omega
  have b3 : p % 16384 / 256 / 8 % 2 = p / 2048 % 2 := by omega
  have b4 : p % 16384 / 256 / 16 % 2 = p / 4096 % 2 := by omega
  have b5 : p % 16384 / 256 / 32 % 2 = p / 8192 % 2 := by omega
  have b6 : p % 16384 / 256 / 64 % 2 = 0 := by omega
  have b7 : p % 16384 / 256 / 128 % 2 = 0 := by omega
  unfold pop8 cnt14
  rw [a0, a1, a2, a3, a4, a5, a6, a7, b0, b1, b2, b3, b4, b5, b6, b7]
  have c : ∀ n : Int, 0 ≤ n % 2 ∧ n % 2 ≤ 1 := fun n => by omega
  have := c p; have := c (p / 2); have := c (p / 4); have := c (p / 8); have := c (p / 16); have := c (p / 32); have := c (p / 64); have := c (p / 128); have := c (p / 256); have := c (p / 512); have := c (p / 1024); have := c (p / 2048); have := c (p / 4096); have := c (p / 8192)
  generalize p % 2 = x0 at *
  generalize p / 2 % 2 = x1 at *
  generalize p / 4 % 2 = x2 at *
  generalize p / 8 % 2 = x3 at *
  generalize p / 16 % 2 = x4 at *
  generalize p / 32 % 2 = x5 at *
  generalize p / 64 % 2 = x6 at *
  generalize p / 128 % 2 = x7 at *
  generalize p / 256 % 2 = x8 at *
  generalize p / 512 % 2 = x9 at *
  generalize p / 1024 % 2 = x10 at *
  generalize p / 2048 % 2 = x11 at *
  generalize p / 4096 % 2 = x12 at *
  generalize p / 8192 % 2 = x13 at *
  clear a0 a1 a2 a3 a4 a5 a6 a7 b0 b1 b2 b3 b4 b5 b6 b7
  omega
theorem all14 : impl_everybody.f 14 = some 16383 := by
  unfold impl_everybody.f
  rw [if_pos (by decide)]
  have : IntKind.u16.wrap (shl .u16 1 14 - 1) = 16383 := by decide +kernel
  rw [this]
theorem implCount_eq (p : Int) (h0 : 0 ≤ p) (h1 : p < 65536) : impl_CountPeople.f p = some ((listP p).length : Int) := by
  unfold impl_CountPeople.f
  rw [all14, Option.bind_some, and_14 p h0 h1, ones_eq _ (by omega) (by omega), Option.bind_some, pop_cnt p h0, listP_count]
theorem specCount_eq (p : Int) (h0 : 0 ≤ p) (h1 : p < 65536) (k : Nat) (hk : 14 < k) : spec_CountPeople.f k p = some ((listP p).length : Int) := by
  unfold spec_CountPeople.f
  rw [l05List_eq p h0 h1 k hk, Option.bind_some]

def wrongF : List Int → List Int → Nat → List Int
  | a :: s, b :: c, i => if wrap64 b = ((listP a).length : Int) then wrongF s c (i + 1) else (i : Int) :: wrongF s c (i + 1)
  | _, _, _ => []
theorem mem_rd (s : List Int) (i : Nat) (h : i < s.length) : rd s (i : Int) ∈ s := by
  rw [rd_nat, List.getD_eq_getElem?_getD, List.getElem?_eq_getElem h]
  exact List.getElem_mem _
theorem implWrong_l0 (p : Int) (s c : List Int) (hl : s.length ≤ 1048576) (hc : s.length = c.length) (hw : ∀ x ∈ s, 0 ≤ x ∧ x < 65536) : ∀ (d i k : Nat) (xs : List Int), i + d = s.length → d < k → xs.length ≤ i → impl_indices_at_wrong_1.l0 k xs (s.length : Int) (i : Int) p s c = some (xs ++ wrongF (s.drop i) (c.drop i) i) := by
  intro d
  induction d with
  | zero =>
    intro i k xs hi hk hx
    obtain ⟨k, rfl⟩ : ∃ m, k = m + 1 := ⟨k - 1, by omega⟩
    simp only [impl_indices_at_wrong_1.l0]
    rw [if_neg (by omega), List.drop_eq_nil_of_le (by omega)]
    simp [wrongF]
  | succ d ih =>
    intro i k xs hi hk hx
    obtain ⟨k, rfl⟩ : ∃ m, k = m + 1 := ⟨k - 1, by omega⟩
    have hb := hw _ (mem_rd s i (by omega))
    simp only [impl_indices_at_wrong_1.l0, impl_Log_wrong_1.f]
    rw [if_pos (by omega), if_pos (by omega), if_pos (by omega), if_pos (by omega), implCount_eq _ hb.1 hb.2, Option.bind_some, Option.bind_some, wrap_nat i (by omega), drop_rd s i (by omega), drop_rd c i (by omega)]
    simp only [wrongF]
    by_cases e : wrap64 (rd c (i : Int)) = ((listP (rd s (i : Int))).length : Int)
    · rw [if_pos e, if_neg (by simp [e]), ih (i + 1) k xs (by omega) (by omega) (by omega)]
    · rw [if_neg e, if_pos (by simp [e]), if_pos (by omega), ih (i + 1) k _ (by omega) (by omega) (by simp; omega)]
      simp
def cntW (x : Int) : Int := IntKind.i16.wrap ((listP x).length : Int)
theorem withCounts_l0 (p : Int) (s t : List Int) (hl : s.length ≤ 1048576) (hw : ∀ x ∈ s, 0 ≤ x ∧ x < 65536) : ∀ (d i k : Nat) (c : List Int), i + d = s.length → d < k → c.length ≤ i → impl_Log_withCounts.l0 k s (s.length : Int) (i : Int) p t c = some (p, t, c ++ (s.drop i).map cntW) := by
  intro d
  induction d with
  | zero =>
    intro i k c hi hk hc
    obtain ⟨k, rfl⟩ : ∃ m, k = m + 1 := ⟨k - 1, by omega⟩
    simp only [impl_Log_withCounts.l0]
    rw [if_neg (by omega), List.drop_eq_nil_of_le (by omega)]
    simp
  | succ d ih =>
    intro i k c hi hk hc
    obtain ⟨k, rfl⟩ : ∃ m, k = m + 1 := ⟨k - 1, by omega⟩
    have hb := hw _ (mem_rd s i (by omega))
    simp only [impl_Log_withCounts.l0]
    rw [if_pos (by omega), if_pos (by omega), if_pos (by omega), implCount_eq _ hb.1 hb.2, Option.bind_some, if_pos (by omega), wrap_nat i (by omega), ih (i + 1) k _ (by omega) (by omega) (by simp; omega), drop_rd s i (by omega)]
    simp [cntW]
theorem withCounts_eq (p : Int) (s c : List Int) (hl : s.length ≤ 1048576) (hw : ∀ x ∈ s, 0 ≤ x ∧ x < 65536) (k : Nat) (hk : s.length < k) : impl_Log_withCounts.f k p s c = some (p, s, s.map cntW) := by
  unfold impl_Log_withCounts.f slices_Clone_People.f
  rw [Option.bind_some, if_pos (by simp; omega), Option.bind_some, List.nil_append]
  have := withCounts_l0 p s s hl hw s.length 0 k [] (by omega) (by omega) (by simp)
  rw [show ((0 : Nat) : Int) = 0 from rfl] at this
  rw [this]; simp

def seen1 (s : Int) (x : Int) (r : S44) : Int := if r.f1 ≥ s then Go.bits .or .u16 x (shl .u16 1 r.f0) else x
def seenF (s : Int) (x : Int) (m : List S44) : Int := m.foldl (seen1 s) x
theorem seen1_rng (s x : Int) (r : S44) (h : 0 ≤ x ∧ x < 65536) : 0 ≤ seen1 s x r ∧ seen1 s x r < 65536 := by
  unfold seen1
  split
  · exact bits_u16 _ _ _
  · exact h
theorem seenF_rng (s : Int) (m : List S44) : ∀ x, (0 ≤ x ∧ x < 65536) → 0 ≤ seenF s x m ∧ seenF s x m < 65536 := by
  induction m with
  | nil => intro x h; exact h
  | cons r m ih => intro x h; exact ih _ (seen1_rng s x r h)
theorem specLF_l1 (p t : Int) (m : List S44) (hg : good p t m) (s : Nat) (q : Int) (sn cn : List Int) (hs : sn.length ≤ 1048576) (hc : cn.length ≤ 1048576) (X : Int) (hX : 0 ≤ X ∧ X < 65536) (hs2 : s ≤ 12) (B : Nat) (R : Option (Int × List Int × List Int × Int))
    (hR : ∀ k, B ≤ k → spec_LogFrom.l0 k t m ((s + 1 : Nat) : Int) q (sn ++ [X]) (cn ++ [cntW X]) = R) :
    ∀ (d i k : Nat) (x : Int), i + d = m.length → seenF s x (m.drop i) = X → B + 20 + d < k → spec_LogFrom.l1 k t m (s : Int) x (i : Int) q sn cn = R := by
  intro d
  have hml := hg.2.2.2
  induction d with
  | zero =>
    intro i k x hi hx hk
    obtain ⟨k, rfl⟩ : ∃ m, k = m + 1 := ⟨k - 1, by omega⟩
    rw [List.drop_eq_nil_of_le (by omega)] at hx
    have hx' : x = X := hx
    subst hx'
    simp only [spec_LogFrom.l1]
    rw [if_neg (by omega), if_pos (by omega), specCount_eq x hX.1 hX.2 k (by omega), Option.bind_some, if_pos (by omega), wrap_nat s (by omega)]
    exact hR k (by omega)
  | succ d ih =>
    intro i k x hi hx hk
    obtain ⟨k, rfl⟩ : ∃ m, k = m + 1 := ⟨k - 1, by omega⟩
    have hr := hg.1 _ (mem_rdr m i (by omega))
    have hp := hg.2.1
    have ht := hg.2.2.1
    rw [drop_rec m i (by omega)] at hx
    simp only [spec_LogFrom.l1]
    rw [if_pos (by omega), if_pos (by omega), wrap64_id (rd_T44 m (i : Int)).f1 (by omega) (by omega), wrap_nat i (by omega)]
    have hx2 : seenF (s : Int) (seen1 (s : Int) x (rd_T44 m (i : Int))) (m.drop (i + 1)) = X := hx
    unfold seen1 at hx2
    by_cases g : (rd_T44 m (i : Int)).f1 ≥ (s : Int)
    · rw [if_pos g] at hx2
      rw [if_pos g, wrap_u64_id (rd_T44 m (i : Int)).f0 (by omega) (by omega), if_pos (by omega)]
      exact ih (i + 1) k _ (by omega) hx2 (by omega)
    · rw [if_neg g] at hx2
      rw [if_neg g]
      exact ih (i + 1) k _ (by omega) hx2 (by omega)
def seenL (n : Nat) (m : List S44) : List Int := (List.range n).map (fun (s : Nat) => seenF (s : Int) 0 m)
theorem specLF_l0 (p : Int) (n : Nat) (m : List S44) (hg : good p (n : Int) m) (q : Int) : ∀ (d s k : Nat), s + d = n → 200 * d < k → spec_LogFrom.l0 k (n : Int) m (s : Int) q ((seenL n m).take s) (((seenL n m).take s).map cntW) = some (q, seenL n m, (seenL n m).map cntW, 0) := by
  intro d
  have hml := hg.2.2.2
  have hn := hg.2.2.1
  have hlen : (seenL n m).length = n := by simp [seenL]
  induction d with
  | zero =>
    intro s k hs hk
    obtain ⟨k, rfl⟩ : ∃ m, k = m + 1 := ⟨k - 1, by omega⟩
    simp only [spec_LogFrom.l0]
    rw [if_neg (by omega), List.take_of_length_le (by omega)]
  | succ d ih =>
    intro s k hs hk
    obtain ⟨k, rfl⟩ : ∃ m, k = m + 1 := ⟨k - 1, by omega⟩
    have hX := seenF_rng (s : Int) m 0 (by decide)
    have hgd : (seenL n m).getD s 0 = seenF (s : Int) 0 m := getD_range_map 0 _ _ _ (by omega)
    simp only [spec_LogFrom.l0]
    rw [if_pos (by omega)]
    refine specLF_l1 p (n : Int) m hg s q _ _ (by rw [List.length_take]; omega) (by rw [List.length_map, List.length_take]; omega) (seenF (s : Int) 0 m) hX (by omega) (200 * d + 1) _ (fun k hk => ?_) m.length 0 k 0 (by omega) rfl (by omega)
    have := ih (s + 1) k (by omega) (by omega)
    rw [take_getD 0 (seenL n m) s (by omega), hgd, List.map_append] at this
    exact this
def innerF (b : Int) : Nat → Nat → List Int → List Int
  | 0, _, c => c
  | d + 1, j, c => innerF b d (j + 1) (c.set j (Go.bits .or .u16 (c.getD j 0) b))
theorem innerF_length (b : Int) : ∀ (d j : Nat) (c : List Int), (innerF b d j c).length = c.length
  | 0, _, _ => rfl
  | d + 1, j, c => by simp [innerF, innerF_length b d]
theorem innerF_getD (b : Int) : ∀ (d j : Nat) (c : List Int) (s : Nat), j + d ≤ c.length → (innerF b d j c).getD s 0 = if j ≤ s ∧ s < j + d then Go.bits .or .u16 (c.getD s 0) b else c.getD s 0 := by
  intro d
  induction d with
  | zero => intro j c s h; rw [if_neg (by omega)]; rfl
  | succ d ih =>
    intro j c s h
    simp only [innerF]
    rw [ih (j + 1) _ s (by simp; omega)]
    have hset : (c.set j (Go.bits .or .u16 (c.getD j 0) b)).getD s 0 = if j = s then Go.bits .or .u16 (c.getD j 0) b else c.getD s 0 := by
      simp only [List.getD_eq_getElem?_getD, List.getElem?_set]
      by_cases e : j = s
      · subst e; rw [if_pos rfl, if_pos (by omega), if_pos rfl]; rfl
      · rw [if_neg e, if_neg e]
    rw [hset]
    by_cases e : j = s
    · subst e
      rw [if_neg (by omega), if_pos rfl, if_pos (by omega)]
    · rw [if_neg e]
      by_cases g : j + 1 ≤ s ∧ s < j + 1 + d
      · rw [if_pos g, if_pos (by omega)]
      · rw [if_neg g, if_neg (by omega)]
def outerF (c : List Int) (r : S44) : List Int := innerF (shl .u16 1 r.f0) (r.f1 + 1).toNat 0 c
def outerL (c : List Int) (m : List S44) : List Int := m.foldl outerF c
theorem outerL_length (m : List S44) : ∀ c, (outerL c m).length = c.length := by
  induction m with
  | nil => intro c; rfl
  | cons r m ih => intro c; exact (ih _).trans (innerF_length _ _ _ _)
theorem outerL_getD (p t : Int) (m : List S44) : (∀ r ∈ m, 0 ≤ r.f1 ∧ r.f1 ≤ t - 1) → ∀ (c : List Int) (s : Nat), (c.length : Int) = t → (outerL c m).getD s 0 = seenF (s : Int) (c.getD s 0) m := by
  induction m with
  | nil => intro _ c s _; rfl
  | cons r m ih =>
    intro hg c s hc
    have hr := hg r List.mem_cons_self
    have h := ih (fun x hx => hg x (List.mem_cons_of_mem _ hx)) (outerF c r) s (by unfold outerF; rw [innerF_length]; exact hc)
    refine Eq.trans h ?_
    show seenF _ _ m = seenF _ (seen1 (s : Int) (c.getD s 0) r) m
    unfold outerF
    rw [innerF_getD _ _ 0 c s (by omega)]
    unfold seen1
    by_cases g : r.f1 ≥ (s : Int)
    · rw [if_pos (by omega), if_pos g]
    · rw [if_neg (by omega), if_neg g]
theorem outer_seenL (p : Int) (n : Nat) (m : List S44) (hg : good p (n : Int) m) : outerL (List.replicate n 0) m = seenL n m := by
  apply List.ext_getElem
  · rw [outerL_length]; simp [seenL]
  · intro s h1 h2
    have h3 : s < n := by rw [outerL_length] at h1; simpa using h1
    have h := outerL_getD p (n : Int) m (fun r hr => (hg.1 r hr).2.1) (List.replicate n 0) s (by simp)
    rw [List.getD_eq_getElem?_getD, List.getElem?_eq_getElem h1] at h
    have hz : (List.replicate n (0 : Int)).getD s 0 = 0 := by simp [List.getD_eq_getElem?_getD, List.getElem?_replicate, h3]
    rw [hz] at h
    simp only [seenL, List.getElem_map, List.getElem_range]
    exact h
theorem implLF_l1 (p t : Int) (m : List S44) (hg : good p t m) (i : Nat) (hi : i < m.length) (q : Int) (r : S44) (hr : (0 ≤ r.f0 ∧ r.f0 ≤ p - 1) ∧ (0 ≤ r.f1 ∧ r.f1 ≤ t - 1)) (n : Nat) (hn : (n : Int) = t) (Z : List Int) (B : Nat) (R : Option (Int × List Int × List Int × Int))
    (hR : ∀ k, B ≤ k → impl_LogFrom.l0 k m (m.length : Int) ((i + 1 : Nat) : Int) q Z = R) :
    ∀ (d j k : Nat) (c : List Int), j + d = (r.f1 + 1).toNat → c.length = n → innerF (shl .u16 1 r.f0) d j c = Z → B + d < k → impl_LogFrom.l1 k m (m.length : Int) (i : Int) (r.f1 + 1) (j : Int) q c r.f0 r.f1 r.f2 = R := by
  intro d
  have hml := hg.2.2.2
  have ht := hg.2.2.1
  induction d with
  | zero =>
    intro j k c hj hc hz hk
    obtain ⟨k, rfl⟩ : ∃ m, k = m + 1 := ⟨k - 1, by omega⟩
    have hz' : c = Z := hz
    subst hz'
    simp only [impl_LogFrom.l1]
    rw [if_neg (by omega), wrap_nat i (by omega)]
    exact hR k (by omega)
  | succ d ih =>
    intro j k c hj hc hz hk
    obtain ⟨k, rfl⟩ : ∃ m, k = m + 1 := ⟨k - 1, by omega⟩
    simp only [impl_LogFrom.l1]
    rw [if_pos (by omega), if_pos (by omega), if_pos (by omega), if_pos (by omega), wrap_nat j (by omega), Int.toNat_natCast, rd_nat]
    exact ih (j + 1) k _ (by omega) (by simp [hc]) hz (by omega)
theorem implLF_l0 (p : Int) (n : Nat) (m : List S44) (hg : good p (n : Int) m) (q : Int) (Z : List Int) (hZl : Z.length ≤ 12) (hZ : ∀ x ∈ Z, 0 ≤ x ∧ x < 65536) : ∀ (d i k : Nat) (c : List Int), i + d = m.length → 20 * d + 20 < k → c.length = n → outerL c (m.drop i) = Z → impl_LogFrom.l0 k m (m.length : Int) (i : Int) q c = some (q, Z, Z.map cntW, 0) := by
  intro d
  have hml := hg.2.2.2
  have ht := hg.2.2.1
  have hp := hg.2.1
  induction d with
  | zero =>
    intro i k c hi hk hc hz
    obtain ⟨k, rfl⟩ : ∃ m, k = m + 1 := ⟨k - 1, by omega⟩
    rw [List.drop_eq_nil_of_le (by omega)] at hz
    have hz' : c = Z := hz
    subst hz'
    simp only [impl_LogFrom.l0]
    rw [if_neg (by omega), withCounts_eq q c [] (by omega) hZ k (by omega)]
    rfl
  | succ d ih =>
    intro i k c hi hk hc hz
    obtain ⟨k, rfl⟩ : ∃ m, k = m + 1 := ⟨k - 1, by omega⟩
    have hr := hg.1 _ (mem_rdr m i (by omega))
    rw [drop_rec m i (by omega)] at hz
    simp only [impl_LogFrom.l0]
    rw [if_pos (by omega), if_pos (by omega), if_pos (by omega), wrap64_id (rd_T44 m (i : Int)).f1 (by omega) (by omega), wrap64_id _ (by omega) (by omega)]
    exact implLF_l1 p (n : Int) m hg i (by omega) q (rd_T44 m (i : Int)) ⟨hr.1, hr.2.1⟩ n rfl (outerF c (rd_T44 m (i : Int))) (20 * d + 21) _ (fun k hk => ih (i + 1) k _ (by omega) (by omega) (by unfold outerF; rw [innerF_length]; exact hc) hz) ((rd_T44 m (i : Int)).f1 + 1).toNat 0 k c (by omega) hc rfl (by omega)
def finLF (p t : Int) (m : List S44) : Int × List Int × List Int × Int :=
  if recsOk p t m = true then (p, seenL t.toNat m, (seenL t.toNat m).map cntW, 0) else (0, [], [], 1)
theorem specLF_fin (p t : Int) (m : List S44) (hl : m.length ≤ 1048576) (hb : recsOk p t m = true → good p t m) (k : Nat) (hk : 1048700 ≤ k) : spec_LogFrom.f k p t m = some (finLF p t m) := by
  unfold spec_LogFrom.f finLF
  rw [l05Records_eq p t m hl k (by omega), Option.bind_some]
  by_cases h : recsOk p t m = true
  · have hg := hb h
    obtain ⟨n, rfl⟩ := Int.eq_ofNat_of_zero_le (show 0 ≤ t by have := hg.2.2.1; omega)
    have := specLF_l0 p n m hg p n 0 k (by omega) (by have := hg.2.2.1; omega)
    rw [show ((0 : Nat) : Int) = 0 from rfl, List.take_zero, List.map_nil] at this
    rw [if_pos h, if_pos h, this]
    rfl
  · rw [if_neg h, if_neg h]
theorem implLF_fin (p t : Int) (m : List S44) (hl : m.length ≤ 1048576) (hb : recsOk p t m = true → good p t m) (k : Nat) (hk : 1048700 ≤ k) : impl_LogFrom.f k p t m = some (finLF p t m) := by
  unfold impl_LogFrom.f finLF
  rw [implRecords_eq p t m hl k (by omega), Option.bind_some]
  by_cases h : recsOk p t m = true
  · have hg := hb h
    have ht := hg.2.2.1
    have hml := hg.2.2.2
    obtain ⟨n, rfl⟩ := Int.eq_ofNat_of_zero_le (show 0 ≤ t by omega)
    have hZ : ∀ x ∈ seenL n m, 0 ≤ x ∧ x < 65536 := by
      intro x hx
      obtain ⟨s, _, rfl⟩ := List.mem_map.1 hx
      exact seenF_rng _ m 0 (by decide)
    have := implLF_l0 p n m hg p (seenL n m) (by simp [seenL]; omega) hZ m.length 0 k (List.replicate n 0) (by omega) (by omega) (by simp) (by rw [List.drop_zero]; exact outer_seenL p n m hg)
    rw [show ((0 : Nat) : Int) = 0 from rfl] at this
    rw [if_pos h, if_pos h, if_pos (by omega), if_pos (by omega), Int.toNat_natCast, this]
  · rw [if_neg h, if_neg h]

def up1 (T y : Int) (b : Int) (r : S44) : Int := if r.f0 = y ∧ r.f2 ≤ T then mx b r.f1 else b
def bestF (T y : Int) (m : List S44) (b : Int) : Int := m.foldl (up1 T y) b
theorem max_eq (a b : Int) : spec_l00Max.f a b = some (mx a b) := by
  unfold spec_l00Max.f mx
  by_cases h : a > b
  · rw [if_pos h, if_neg (by omega)]
  · rw [if_neg h]
    by_cases e : a < b
    · rw [if_pos e]
    · rw [if_neg e]
      congr 1
      omega
theorem specB_l1 (n p t T x : Int) (m : List S44) (hg : good p t m) (xs : List Int) (hx : xs.length ≤ 1000) : ∀ (d i k : Nat) (b : Int), i + d = m.length → d < k → spec_BetweenAt.l1 k n m T xs x b (i : Int) = spec_BetweenAt.l0 (k - (d + 1)) n m T (xs ++ [bestF T x (m.drop i) b]) (wrap64 (x + 1)) := by
  intro d
  have hml := hg.2.2.2
  have hp := hg.2.1
  have ht := hg.2.2.1
  induction d with
  | zero =>
    intro i k b hi hk
    obtain ⟨k, rfl⟩ : ∃ m, k = m + 1 := ⟨k - 1, by omega⟩
    simp only [spec_BetweenAt.l1]
    rw [if_neg (by omega), if_pos (by omega), List.drop_eq_nil_of_le (by omega)]
    simp [bestF]
  | succ d ih =>
    intro i k b hi hk
    obtain ⟨k, rfl⟩ : ∃ m, k = m + 1 := ⟨k - 1, by omega⟩
    have hr := hg.1 _ (mem_rdr m i (by omega))
    simp only [spec_BetweenAt.l1]
    rw [if_pos (by omega), if_pos (by omega), wrap64_id (rd_T44 m (i : Int)).f0 (by omega) (by omega), wrap64_id (rd_T44 m (i : Int)).f2 (by omega) (by omega), wrap64_id (rd_T44 m (i : Int)).f1 (by omega) (by omega), max_eq, Option.bind_some, wrap_nat i (by omega), drop_rec m i (by omega)]
    have e : k + 1 - (d + 1 + 1) = k - (d + 1) := by omega
    unfold bestF
    rw [List.foldl_cons, e]
    by_cases c1 : (rd_T44 m (i : Int)).f0 = x
    · rw [if_pos c1]
      by_cases c2 : (rd_T44 m (i : Int)).f2 ≤ T
      · rw [if_pos c2, ih (i + 1) k _ (by omega) (by omega), show up1 T x b (rd_T44 m (i : Int)) = mx b (rd_T44 m (i : Int)).f1 by unfold up1; rw [if_pos ⟨c1, c2⟩]]
        rfl
      · rw [if_neg c2, ih (i + 1) k _ (by omega) (by omega), show up1 T x b (rd_T44 m (i : Int)) = b by unfold up1; rw [if_neg (fun h => c2 h.2)]]
        rfl
    · rw [if_neg c1, ih (i + 1) k _ (by omega) (by omega), show up1 T x b (rd_T44 m (i : Int)) = b by unfold up1; rw [if_neg (fun h => c1 h.1)]]
      rfl
theorem specB_l0 (n : Nat) (p t T : Int) (m : List S44) (hg : good p t m) (hn : n ≤ 14) : ∀ (d x k : Nat) (xs : List Int), x + d = n → d * 100 + 10 < k → xs.length = x → spec_BetweenAt.l0 k (n : Int) m T xs (x : Int) = some (xs ++ (List.range' x d).map (fun (y : Nat) => bestF T (y : Int) m (-1)), 0) := by
  intro d
  have hml := hg.2.2.2
  induction d with
  | zero =>
    intro x k xs hx hk hl
    obtain ⟨k, rfl⟩ : ∃ m, k = m + 1 := ⟨k - 1, by omega⟩
    simp only [spec_BetweenAt.l0]
    rw [if_neg (by omega)]
    simp
  | succ d ih =>
    intro x k xs hx hk hl
    obtain ⟨k, rfl⟩ : ∃ m, k = m + 1 := ⟨k - 1, by omega⟩
    have h := specB_l1 (n : Int) p t T (x : Int) m hg xs (by omega) m.length 0 k (-1) (by omega) (by omega)
    rw [show ((0 : Nat) : Int) = 0 from rfl, List.drop_zero] at h
    simp only [spec_BetweenAt.l0]
    rw [if_pos (by omega), h, wrap_nat x (by omega), ih (x + 1) _ _ (by omega) (by omega) (by simp [hl]), List.range'_succ]
    simp
theorem implB_l0 (n : Nat) (p t T : Int) (m : List S44) (hg : good p t m) (hn : (n : Int) = p) : ∀ (d i k : Nat) (c : List Int), i + d = m.length → d < k → c.length = n → impl_BetweenAt.l0 k T c m (m.length : Int) (i : Int) = some ((List.range n).map (fun (y : Nat) => bestF T (y : Int) (m.drop i) (c.getD y 0)), 0) := by
  intro d
  have hml := hg.2.2.2
  have hp := hg.2.1
  have ht := hg.2.2.1
  induction d with
  | zero =>
    intro i k c hi hk hl
    obtain ⟨k, rfl⟩ : ∃ m, k = m + 1 := ⟨k - 1, by omega⟩
    simp only [impl_BetweenAt.l0]
    rw [if_neg (by omega), List.drop_eq_nil_of_le (by omega)]
    congr 2
    apply List.ext_getElem?
    intro j
    rw [List.getElem?_map]
    by_cases hj : j < n
    · rw [List.getElem?_eq_getElem (by omega), List.getElem?_range hj, Option.map_some]
      show some c[j] = some (bestF T (j : Int) [] (c.getD j 0))
      rw [List.getD_eq_getElem?_getD, List.getElem?_eq_getElem (by omega)]
      rfl
    · rw [List.getElem?_eq_none (by omega), List.getElem?_eq_none (by simp; omega)]
      rfl
  | succ d ih =>
    intro i k c hi hk hl
    obtain ⟨k, rfl⟩ : ∃ m, k = m + 1 := ⟨k - 1, by omega⟩
    have hr := hg.1 _ (mem_rdr m i (by omega))
    simp only [impl_BetweenAt.l0]
    rw [if_pos (by omega), if_pos (by omega), if_pos (by omega), wrap64_id (rd_T44 m (i : Int)).f2 (by omega) (by omega), wrap64_id (rd_T44 m (i : Int)).f1 (by omega) (by omega), wrap_nat i (by omega), drop_rec m i (by omega)]
    generalize rd_T44 m (i : Int) = r at hr ⊢
    by_cases c2 : r.f2 ≤ T
    · rw [if_pos c2, if_pos (by omega), if_pos (by omega), ih (i + 1) k _ (by omega) (by omega) (by simp [hl])]
      congr 2
      apply List.map_congr_left
      intro y hy
      have hy' : y < n := List.mem_range.1 hy
      unfold bestF
      rw [List.foldl_cons]
      congr 1
      unfold up1
      by_cases c1 : r.f0 = (y : Int)
      · rw [if_pos ⟨c1, c2⟩, c1, Int.toNat_natCast, List.getD_eq_getElem?_getD, List.getElem?_set_self (by omega), rd_nat]
        rfl
      · rw [if_neg (fun h => c1 h.1), List.getD_eq_getElem?_getD, List.getElem?_set_ne (by omega), ← List.getD_eq_getElem?_getD]
    · rw [if_neg c2, ih (i + 1) k _ (by omega) (by omega) hl]
      congr 2
      apply List.map_congr_left
      intro y hy
      unfold bestF
      rw [List.foldl_cons]
      congr 1
      unfold up1
      rw [if_neg (fun h => c2 h.2)]
def finBt (p t : Int) (m : List S44) (T : Int) : List Int × Int :=
  if recsOk p t m = true then (if 0 ≤ T ∧ T ≤ 10000 then ((List.range p.toNat).map (fun (y : Nat) => bestF T (y : Int) m (-1)), 0) else ([], 2)) else ([], 1)
theorem specBt_fin (p t : Int) (m : List S44) (T : Int) (hl : m.length ≤ 1048576) (hb : recsOk p t m = true → good p t m) (k : Nat) (hk : 1048700 ≤ k) : spec_BetweenAt.f k p t m T = some (finBt p t m T) := by
  unfold spec_BetweenAt.f finBt
  rw [l05Records_eq p t m hl k (by omega), Option.bind_some]
  by_cases c : recsOk p t m = true
  · have hg := hb c
    have hp := hg.2.1
    rw [if_pos c, if_pos c, in_eq, Option.bind_some]
    by_cases c2 : 0 ≤ T ∧ T ≤ 10000
    · obtain ⟨n, rfl⟩ := Int.eq_ofNat_of_zero_le (show 0 ≤ p by omega)
      have h := specB_l0 n n t T m hg (by omega) n 0 k [] (by omega) (by omega) rfl
      rw [show ((0 : Nat) : Int) = 0 from rfl] at h
      rw [if_pos c2, decide_eq_true c2, if_pos rfl, h, List.nil_append, Int.toNat_natCast, List.range_eq_range']
    · rw [if_neg c2, decide_eq_false c2, if_neg (by decide)]
  · rw [if_neg c, if_neg c]
theorem implBt_fin (p t : Int) (m : List S44) (T : Int) (hl : m.length ≤ 1048576) (hb : recsOk p t m = true → good p t m) (k : Nat) (hk : 1048700 ≤ k) : impl_BetweenAt.f k p t m T = some (finBt p t m T) := by
  unfold impl_BetweenAt.f finBt slices_Repeat_Sint64_int64.f
  rw [implRecords_eq p t m hl k (by omega), Option.bind_some]
  by_cases c : recsOk p t m = true
  · have hg := hb c
    have hp := hg.2.1
    rw [if_pos c, if_pos c, within_eq, Option.bind_some]
    by_cases c2 : 0 ≤ T ∧ T ≤ 10000
    · obtain ⟨n, rfl⟩ := Int.eq_ofNat_of_zero_le (show 0 ≤ p by omega)
      rw [if_pos c2, decide_eq_true c2, if_pos rfl, if_pos (by simp), if_pos (by omega), if_pos (by omega), Option.bind_some, Int.toNat_natCast]
      have h := implB_l0 n n t T m hg rfl m.length 0 k (List.replicate n (rd [-1] 0)) (by omega) (by omega) (by simp)
      rw [show ((0 : Nat) : Int) = 0 from rfl, List.drop_zero] at h
      rw [h]
      congr 2
      apply List.map_congr_left
      intro y hy
      have hy' : y < n := List.mem_range.1 hy
      rw [List.getD_eq_getElem?_getD, List.getElem?_replicate, if_pos hy']
      rfl
    · rw [if_neg c2, decide_eq_false c2, if_neg (by decide)]
  · rw [if_neg c, if_neg c]

def allB (p : Int) : Int := IntKind.u16.wrap (shl .u16 1 p - 1)
theorem everybody_eq (p : Int) (h0 : 0 ≤ p) : impl_everybody.f p = some (allB p) := by
  unfold impl_everybody.f
  rw [if_pos h0]
  rfl
def cntOk (c : Int) : Bool := decide (0 ≤ wrap64 c ∧ wrap64 c ≤ 100)
def okFrom (b : Int) : List Int → List Int → Bool
  | s :: ss, c :: cs => decide (Go.bits .andNot .u16 s b = 0) && cntOk c && okFrom s ss cs
  | _, _ => true
def okLog (p : Int) (s c : List Int) : Bool :=
  decide (1 ≤ p ∧ p ≤ 14) && decide (1 ≤ (s.length : Int) ∧ (s.length : Int) ≤ 12) && decide (s.length = c.length) && okFrom (allB p) s c
/-- Who was seen before station i. -/
def befB (p : Int) (s : List Int) (i : Nat) : Int := if i = 0 then allB p else s.getD (i - 1) 0
theorem before_eq (p : Int) (s c : List Int) (h0 : 0 ≤ p) (i : Nat) (hi : i ≤ s.length) (hl : s.length ≤ 1048576) : impl_Log_before.f p s c (i : Int) = some (befB p s i) := by
  unfold impl_Log_before.f befB
  by_cases h : i = 0
  · subst h
    rw [if_pos (show ((0 : Nat) : Int) = 0 from rfl), everybody_eq p h0, if_pos rfl]
    rfl
  · rw [if_neg (by omega), wrap64_id _ (by omega) (by omega), if_pos (by omega), if_pos (by omega), if_neg h]
    rw [show (i : Int) - 1 = ((i - 1 : Nat) : Int) by omega, rd_nat]
theorem implValid_l0 (p : Int) (s c : List Int) (hp : 0 ≤ p) (hl : s.length ≤ 1048576) (hc : s.length = c.length) : ∀ (d i k : Nat), i + d = s.length → d < k → impl_ValidLog.l0 k s (s.length : Int) (i : Int) p s c = some (okFrom (befB p s i) (s.drop i) (c.drop i)) := by
  intro d
  induction d with
  | zero =>
    intro i k hi hk
    obtain ⟨k, rfl⟩ : ∃ m, k = m + 1 := ⟨k - 1, by omega⟩
    simp only [impl_ValidLog.l0]
    rw [if_neg (by omega), List.drop_eq_nil_of_le (by omega)]
    simp [okFrom]
  | succ d ih =>
    intro i k hi hk
    obtain ⟨k, rfl⟩ : ∃ m, k = m + 1 := ⟨k - 1, by omega⟩
    have hb : befB p s (i + 1) = rd s (i : Int) := by
      unfold befB
      rw [if_neg (by omega), rd_nat]
      rfl
    simp only [impl_ValidLog.l0]
    rw [if_pos (by omega), if_pos (by omega), if_pos (by omega), before_eq p s c hp i (by omega) hl, Option.bind_some, if_pos (show (i : Int) < (c.length : Int) by omega), drop_rd s i (by omega), drop_rd c i (by omega), within_eq, Option.bind_some, wrap_nat i (by omega), ih (i + 1) k (by omega) (by omega), hb]
    by_cases h1 : Go.bits .andNot .u16 (rd s (i : Int)) (befB p s i) = 0 <;> by_cases h2 : 0 ≤ wrap64 (rd c (i : Int)) ∧ wrap64 (rd c (i : Int)) ≤ 100 <;> simp [okFrom, cntOk, h1, h2]
theorem implValid_eq (p : Int) (s c : List Int) (hl : s.length ≤ 1048576) (k : Nat) (hk : 1048578 < k) : impl_ValidLog.f k p s c = some (okLog p s c) := by
  unfold impl_ValidLog.f impl_size_People.f
  simp only [within_eq, Option.bind_some]
  obtain ⟨k, rfl⟩ : ∃ m, k = m + 1 := ⟨k - 1, by omega⟩
  by_cases h1 : 1 ≤ p ∧ p ≤ 14
  · by_cases h2 : 1 ≤ (s.length : Int) ∧ (s.length : Int) ≤ 12
    · rw [decide_eq_true h1, if_pos rfl, decide_eq_true h2, if_pos rfl]
      simp only [impl_ValidLog.j0]
      by_cases h3 : s.length = c.length
      · have := implValid_l0 p s c (by omega) hl h3 s.length 0 k (by omega) (by omega)
        rw [show ((0 : Nat) : Int) = 0 from rfl] at this
        rw [if_neg (by simp [h3]), this]
        simp only [okLog, decide_eq_true h1, decide_eq_true h2, decide_eq_true h3, Bool.true_and, List.drop_zero, befB, if_true]
      · rw [if_pos (by simp; omega)]
        simp [okLog, h3]
    · rw [decide_eq_true h1, if_pos rfl, decide_eq_false h2, if_neg (by decide)]
      simp only [impl_ValidLog.j0, if_true]
      simp [okLog, h2]
  · rw [decide_eq_false h1, if_neg (by decide)]
    simp only [impl_ValidLog.j0, if_true]
    simp [okLog, h1]

def lastS (s : List Int) (q : Int) : Nat → Int × Int
  | 0 => (0, 6)
  | n + 1 => if hasB (s.getD n 0) q = true then ((n : Int), 0) else lastS s q n
def filt (s : List Int) (q : Int) : Nat → List Int
  | 0 => []
  | n + 1 => if hasB (s.getD n 0) q = true then filt s q n ++ [(n : Int)] else filt s q n
theorem filt_length (s : List Int) (q : Int) : ∀ n, (filt s q n).length ≤ n
  | 0 => by simp [filt]
  | n + 1 => by
    have := filt_length s q n
    unfold filt
    split
    · simp; omega
    · omega
theorem last_filt (s : List Int) (q : Int) : ∀ n, lastS s q n = if ((filt s q n).length : Int) = 0 then (0, 6) else ((filt s q n).getD ((filt s q n).length - 1) 0, 0)
  | 0 => by simp [lastS, filt]
  | n + 1 => by
    unfold lastS filt
    by_cases h : hasB (s.getD n 0) q = true
    · rw [if_pos h, if_pos h, if_neg (by simp; omega)]
      simp
    · rw [if_neg h, if_neg h]
      exact last_filt s q n
theorem idx_l0 (p : Int) (s c : List Int) (q : Int) (hs : ∀ x ∈ s, (Lit.int .u16 x).wf = true) (hq : 0 ≤ q ∧ q ≤ 13) (hl : s.length ≤ 12) : ∀ (d i k : Nat), i + d = s.length → d < k → impl_indices_at_LastSeen_1.l0 k (filt s q i) (s.length : Int) (i : Int) p s c q = some (filt s q s.length) := by
  intro d
  induction d with
  | zero =>
    intro i k hi hk
    obtain ⟨k, rfl⟩ : ∃ m, k = m + 1 := ⟨k - 1, by omega⟩
    obtain rfl : i = s.length := by omega
    simp only [impl_indices_at_LastSeen_1.l0]
    rw [if_neg (by omega)]
  | succ d ih =>
    intro i k hi hk
    obtain ⟨k, rfl⟩ : ∃ m, k = m + 1 := ⟨k - 1, by omega⟩
    have hr := wf_u16 (hs (s.getD i 0) (by rw [List.getD_eq_getElem?_getD, List.getElem?_eq_getElem (by omega)]; exact List.getElem_mem _))
    have hh : hasP (s.getD i 0) q = hasB (s.getD i 0) q := by simp [hasP, (isP_iff q).2 hq]
    have hfl := filt_length s q i
    have hih := ih (i + 1) k (by omega) (by omega)
    simp only [impl_indices_at_LastSeen_1.l0, impl_LastSeen_1.f]
    rw [if_pos (by omega), if_pos (by omega), if_pos (by omega), rd_nat, implHas_eq _ q hr.1 hr.2, Option.bind_some, Option.bind_some, hh, wrap_nat i (by omega)]
    rw [show filt s q (i + 1) = if hasB (s.getD i 0) q = true then filt s q i ++ [(i : Int)] else filt s q i from rfl] at hih
    by_cases h : hasB (s.getD i 0) q = true
    · rw [if_pos h] at hih
      rw [if_pos h, if_pos (by omega), hih]
    · rw [if_neg h] at hih
      rw [if_neg h, hih]

theorem specSame_l1 (p : Int) (s c : List Int) (q : Int) (t d' : List Int) (hc : c.length = d'.length) (hl : c.length ≤ 1048576) : ∀ (d i k : Nat), i + d = c.length → d < k → spec_SameLog.l1 k (i : Int) p s c q t d' = some (decide (c.drop i = d'.drop i)) := by
  intro d
  induction d with
  | zero =>
    intro i k hi hk
    obtain ⟨k, rfl⟩ : ∃ m, k = m + 1 := ⟨k - 1, by omega⟩
    simp only [spec_SameLog.l1]
    rw [if_neg (by omega), List.drop_eq_nil_of_le (by omega), List.drop_eq_nil_of_le (by omega)]
    simp
  | succ d ih =>
    intro i k hi hk
    obtain ⟨k, rfl⟩ : ∃ m, k = m + 1 := ⟨k - 1, by omega⟩
    simp only [spec_SameLog.l1]
    rw [if_pos (by omega), if_pos (by omega), if_pos (by omega), drop_rd c i (by omega), drop_rd d' i (by omega)]
    by_cases e : rd c (i : Int) = rd d' (i : Int)
    · rw [if_pos e, wrap_nat i (by omega), ih (i + 1) k (by omega) (by omega)]
      simp [e]
    · rw [if_neg e]
      simp [e]
theorem specSame_l0 (p : Int) (s c : List Int) (q : Int) (t d' : List Int) (hs : s.length = t.length) (hc : c.length = d'.length) (hl : s.length ≤ 1048576) (hl2 : c.length ≤ 1048576) : ∀ (d i k : Nat), i + d = s.length → d + 1048576 + 1 < k → spec_SameLog.l0 k (i : Int) p s c q t d' = some (decide (s.drop i = t.drop i ∧ c = d')) := by
  intro d
  induction d with
  | zero =>
    intro i k hi hk
    obtain ⟨k, rfl⟩ : ∃ m, k = m + 1 := ⟨k - 1, by omega⟩
    simp only [spec_SameLog.l0]
    have h := specSame_l1 p s c q t d' hc hl2 c.length 0 k (by omega) (by omega)
    rw [show ((0 : Nat) : Int) = 0 from rfl] at h
    rw [if_neg (by omega), List.drop_eq_nil_of_le (by omega), List.drop_eq_nil_of_le (by omega), h]
    simp
  | succ d ih =>
    intro i k hi hk
    obtain ⟨k, rfl⟩ : ∃ m, k = m + 1 := ⟨k - 1, by omega⟩
    simp only [spec_SameLog.l0]
    rw [if_pos (by omega), if_pos (by omega), if_pos (by omega), drop_rd s i (by omega), drop_rd t i (by omega)]
    by_cases e : rd s (i : Int) = rd t (i : Int)
    · rw [if_pos e, wrap_nat i (by omega), ih (i + 1) k (by omega) (by omega)]
      simp [e]
    · rw [if_neg e]
      simp [e]
theorem specSame_eq (p : Int) (s c : List Int) (q : Int) (t d : List Int) (hl : s.length ≤ 1048576) (hl2 : c.length ≤ 1048576) (k : Nat) (hk : 2097160 < k) : spec_SameLog.f k p s c q t d = some (decide (p = q ∧ s = t ∧ c = d)) := by
  obtain ⟨k, rfl⟩ : ∃ m, k = m + 1 := ⟨k - 1, by omega⟩
  unfold spec_SameLog.f
  by_cases h1 : p = q
  · by_cases h2 : s.length = t.length
    · rw [if_pos h1, if_pos (by omega)]
      simp only [spec_SameLog.j0]
      by_cases h3 : c.length = d.length
      · have := specSame_l0 p s c q t d h2 h3 hl hl2 s.length 0 k (by omega) (by omega)
        rw [show ((0 : Nat) : Int) = 0 from rfl] at this
        rw [if_neg (by simp [h3]), this]
        simp [h1]
      · have : c ≠ d := fun e => h3 (by rw [e])
        rw [if_pos (by simp; omega)]
        simp [this]
    · have : s ≠ t := fun e => h2 (by rw [e])
      rw [if_pos h1, if_neg (by omega)]
      simp only [spec_SameLog.j0, if_true]
      simp [this]
  · rw [if_neg h1]
    simp only [spec_SameLog.j0, if_true]
    simp [h1]
theorem shl_one (a : Nat) (ha : a < 16) : shl .u16 1 (a : Int) = ((2 ^ a : Nat) : Int) := by
  unfold shl
  have hb : IntKind.u16.bits = 16 := rfl
  rw [hb, Int.toNat_natCast, Nat.min_eq_left (by omega), wrap_u16]
  have h3 : 2 ^ a < 65536 := by
    calc 2 ^ a < 2 ^ 16 := Nat.pow_lt_pow_right (by decide) ha
      _ = 65536 := by decide
  have h2 : ((2 : Int) ^ a) = ((2 ^ a : Nat) : Int) := by push_cast; rfl
  rw [h2, Int.one_mul]
  generalize 2 ^ a = z at h3
  omega
theorem bit_nat (m i : Nat) : ((m : Int) / 2 ^ i % 2 == 1) = m.testBit i := by
  rw [Nat.testBit_eq_decide_div_mod_eq]
  have h2 : ((m : Int) / 2 ^ i % 2) = ((m / 2 ^ i % 2 : Nat) : Int) := by push_cast; rfl
  rw [h2]
  by_cases h : m / 2 ^ i % 2 = 1
  · simp [h]
  · have : ((m / 2 ^ i % 2 : Nat) : Int) ≠ 1 := by omega
    rw [decide_eq_false h]
    exact beq_eq_false_iff_ne.2 this
theorem andNot_test (x y i : Nat) (hi : i < 16) : (Go.bits .andNot .u16 (x : Int) (y : Int) / 2 ^ i % 2 == 1) = (x.testBit i && !y.testBit i) := by
  unfold Go.bits
  simp only [BitVec.ofInt_natCast]
  rw [wrap_u16]
  generalize hn : (BitVec.ofNat IntKind.u16.bits x &&& ~~~BitVec.ofNat IntKind.u16.bits y).toNat = n
  have hlt : n < 65536 := by rw [← hn]; exact BitVec.isLt _
  have h1 : ((n : Int) % 65536) = n := by omega
  rw [h1, bit_nat, ← hn, BitVec.testBit_toNat, BitVec.getLsbD_and, BitVec.getLsbD_not]
  have hb : IntKind.u16.bits = 16 := rfl
  rw [hb, BitVec.getLsbD_ofNat, BitVec.getLsbD_ofNat]
  simp [hi]
theorem or_nat (m a : Nat) (hm : m < 65536) (ha : a < 16) : Go.bits .or .u16 (m : Int) (shl .u16 1 (a : Int)) = ((m ||| 2 ^ a : Nat) : Int) := by
  rw [shl_one a ha]
  unfold Go.bits
  simp only [BitVec.ofInt_natCast]
  rw [wrap_u16]
  have hb : IntKind.u16.bits = 16 := rfl
  have h3 : 2 ^ a < 2 ^ 16 := Nat.pow_lt_pow_right (by decide) ha
  have hm2 : m < 2 ^ 16 := hm
  rw [hb, BitVec.toNat_or, BitVec.toNat_ofNat, BitVec.toNat_ofNat, Nat.mod_eq_of_lt hm2, Nat.mod_eq_of_lt h3]
  have h4 : m ||| 2 ^ a < 2 ^ 16 := Nat.or_lt_two_pow hm2 h3
  have h5 : (2 : Nat) ^ 16 = 65536 := by decide
  rw [h5] at h4
  generalize m ||| 2 ^ a = z at h4
  omega

def RB (r : S44) : Prop := (0 ≤ r.f0 ∧ r.f0 ≤ 4) ∧ (0 ≤ r.f1 ∧ r.f1 ≤ 3) ∧ (0 ≤ r.f2 ∧ r.f2 ≤ 18)
theorem i16_sm (n : Int) (h : 0 ≤ n ∧ n ≤ 1000) : IntKind.i16.wrap n = n := by simp [IntKind.wrap, IntKind.bits, IntKind.signed]; omega
theorem recsD_l0 (c : List Int) (hc : srcOk c) : ∀ (d k : Nat) (xs : List S44) (a s : Int), d + 10 < k → d ≤ 100 → xs.length + d ≤ 100 → 0 ≤ a → a + 3 * d ≤ 900000 → (∀ r ∈ xs, RB r) →
    ∃ ys, spec_A2Records.l0 k xs (d : Int) c a s = some ys ∧ ys.length ≤ xs.length + d ∧ ∀ r ∈ ys, RB r := by
  intro d
  induction d with
  | zero =>
    intro k xs a s hk _ _ _ _ hx
    obtain ⟨k, rfl⟩ : ∃ m, k = m + 1 := ⟨k - 1, by omega⟩
    refine ⟨xs, ?_, by omega, hx⟩
    simp only [spec_A2Records.l0]
    rw [if_neg (by omega)]
  | succ d ih =>
    intro k xs a s hk hd hl ha hb hx
    obtain ⟨k, rfl⟩ : ∃ m, k = m + 1 := ⟨k - 1, by omega⟩
    obtain ⟨v1, s1, e1, p1, q1⟩ := pick_eq c hc a s 5 (by omega) (by omega)
    obtain ⟨v2, s2, e2, p2, q2⟩ := pick_eq c hc (a + 1) s1 4 (by omega) (by omega)
    obtain ⟨v3, s3, e3, p3, q3⟩ := pick_eq c hc (a + 1 + 1) s2 7 (by omega) (by omega)
    simp only [spec_A2Records.l0]
    rw [if_pos (by omega), e1, Option.bind_some]
    dsimp only
    rw [e2, Option.bind_some]
    dsimp only
    rw [e3, Option.bind_some]
    dsimp only
    rw [if_pos (by omega), i8_id v1 (by omega), i8_id v2 (by omega), wrap64_id v2 (by omega) (by omega), wrap64_id (4 * v2) (by omega) (by omega), wrap64_id (4 * v2 + v3) (by omega) (by omega), i16_sm _ (by omega), wrap64_id _ (by omega) (by omega), show ((d + 1 : Nat) : Int) - 1 = (d : Int) by omega]
    obtain ⟨ys, y1, y2, y3⟩ := ih k (xs ++ [⟨v1, v2, 4 * v2 + v3⟩]) (a + 1 + 1 + 1) s3 (by omega) (by omega) (by simp; omega) (by omega) (by omega) (fun r hr => by
      rcases List.mem_append.1 hr with q | q
      · exact hx r q
      · rw [List.mem_singleton.1 q]
        exact ⟨by dsimp only; omega, by dsimp only; omega, by dsimp only; omega⟩)
    exact ⟨ys, y1, by simp at y2; omega, y3⟩
theorem recsD_eq (c : List Int) (hc : srcOk c) (k : Nat) (hk : 100 ≤ k) : ∃ ys, spec_A2Records.f k c = some ys ∧ ys.length ≤ 9 ∧ ∀ r ∈ ys, RB r := by
  obtain ⟨v, s1, e1, p1, q1⟩ := pick_eq c hc 0 0 10 (by omega) (by omega)
  obtain ⟨n, rfl⟩ := Int.eq_ofNat_of_zero_le p1
  obtain ⟨ys, y1, y2, y3⟩ := recsD_l0 c hc n k [] (0 + 1) s1 (by omega) (by omega) (by simp; omega) (by omega) (by omega) (fun r hr => absurd hr (by simp))
  refine ⟨ys, ?_, by simp at y2; omega, y3⟩
  unfold spec_A2Records.f spec_l00From.f
  rw [Option.bind_some]
  dsimp only
  rw [e1, Option.bind_some]
  exact y1
theorem RB_ok (m : List S44) (h : ∀ r ∈ m, RB r) (hl : m.length ≤ 9) : recsOk 5 4 m = true := by
  have h1 : m.all (recOk 5 4) = true := by
    rw [List.all_eq_true]
    intro r hr
    obtain ⟨a, b, c⟩ := h r hr
    unfold recOk
    rw [wrap64_id r.f0 (by omega) (by omega), wrap64_id r.f1 (by omega) (by omega), wrap64_id r.f2 (by omega) (by omega), wrap64_id _ (by decide) (by decide), wrap64_id _ (by decide) (by decide)]
    simp only [Bool.and_eq_true, decide_eq_true_eq]
    omega
  unfold recsOk
  rw [h1]
  simp only [Bool.and_eq_true, decide_eq_true_eq]
  exact ⟨⟨⟨trivial, by omega⟩, by omega⟩, by omega⟩
theorem RB_b (m : List S44) (h : ∀ r ∈ m, RB r) : ∀ r ∈ m, (-128 ≤ r.f0 ∧ r.f0 ≤ 127) ∧ (-128 ≤ r.f1 ∧ r.f1 ≤ 127) ∧ (-32768 ≤ r.f2 ∧ r.f2 ≤ 32767) := fun r hr => by
  obtain ⟨a, b, c⟩ := h r hr
  omega
/-! sorted -/
theorem sortR_map (m : List S44) : (sortR m).map toR3 = Go.Proofs.Ytcjchobajjbhkaa.H.sortIn Go.Proofs.Ytcjchobajjbhkaa.H.recLt (m.map toR3) := by
  unfold sortR
  rw [outR_map, List.take_length]
theorem sortR_self (m : List S44) : sortR (sortR m) = sortR m := by
  have h1 := sortR_map (sortR m)
  rw [sortR_map m, ← Go.Proofs.Ytcjchobajjbhkaa.H.sortIn_unique Go.Proofs.Ytcjchobajjbhkaa.H.recTot _ _ (Go.Proofs.Ytcjchobajjbhkaa.H.sortIn_ord Go.Proofs.Ytcjchobajjbhkaa.H.recTot (m.map toR3)) (List.Perm.refl _), ← sortR_map m] at h1
  have h2 := congrArg (List.map ofR3) h1
  rw [List.map_map, List.map_map, show (ofR3 ∘ toR3) = id from rfl, List.map_id, List.map_id] at h2
  exact h2
theorem sortR_mem (m : List S44) (x : S44) : x ∈ sortR m ↔ x ∈ m := by
  refine ⟨mem_sortR m x, fun h => ?_⟩
  have h1 : toR3 x ∈ (sortR m).map toR3 := by
    rw [sortR_map]
    exact (Go.Proofs.Ytcjchobajjbhkaa.H.sortIn_perm Go.Proofs.Ytcjchobajjbhkaa.H.recTot (m.map toR3)).mem_iff.2 (List.mem_map.2 ⟨x, h, rfl⟩)
  obtain ⟨y, hy, e⟩ := List.mem_map.1 h1
  have : ofR3 (toR3 y) = ofR3 (toR3 x) := by rw [e]
  have e2 : y = x := this
  rw [← e2]; exact hy
theorem sortR_time (m : List S44) (i : Nat) (h : i + 1 < (sortR m).length) : (rd_T44 (sortR m) (i : Int)).f2 ≤ (rd_T44 (sortR m) ((i + 1 : Nat) : Int)).f2 := by
  have ho := Go.Proofs.Ytcjchobajjbhkaa.H.sortIn_ord Go.Proofs.Ytcjchobajjbhkaa.H.recTot (m.map toR3)
  rw [← sortR_map m] at ho
  have hp := List.pairwise_iff_getElem.1 ho i (i + 1) (by rw [List.length_map]; omega) (by rw [List.length_map]; omega) (by omega)
  rw [List.getElem_map, List.getElem_map] at hp
  have hp2 := (Go.Proofs.Ytcjchobajjbhkaa.H.recLt_not _ _).1 hp
  rw [rd_rec_get _ i (by omega), rd_rec_get _ (i + 1) h]
  have e1 : (toR3 (sortR m)[i]).2.2 = (sortR m)[i].f2 := rfl
  have e2 : (toR3 (sortR m)[i + 1]).2.2 = (sortR m)[i + 1].f2 := rfl
  rw [e1, e2] at hp2
  omega
/-! who has been seen -/
def anyS (s : Int) (i : Nat) (m : List S44) : Bool := m.any (fun r => decide (r.f1 ≥ s) && decide (r.f0 = (i : Int)))
theorem anyS_iff (s : Int) (i : Nat) (m : List S44) : anyS s i m = true ↔ ∃ r ∈ m, r.f1 ≥ s ∧ r.f0 = (i : Int) := by
  unfold anyS
  rw [List.any_eq_true]
  constructor
  · rintro ⟨r, h1, h2⟩
    rw [Bool.and_eq_true, decide_eq_true_eq, decide_eq_true_eq] at h2
    exact ⟨r, h1, h2⟩
  · rintro ⟨r, h1, h2⟩
    exact ⟨r, h1, by rw [Bool.and_eq_true, decide_eq_true_eq, decide_eq_true_eq]; exact h2⟩
theorem seenF_bits (s : Int) : ∀ (m : List S44) (x : Nat), x < 65536 → (∀ r ∈ m, RB r) → ∃ n : Nat, seenF s (x : Int) m = (n : Int) ∧ n < 65536 ∧ ∀ i, n.testBit i = (x.testBit i || anyS s i m)
  | [], x, hx, _ => ⟨x, rfl, hx, fun i => by simp [anyS]⟩
  | r :: m, x, hx, hr => by
    have h0 := hr r List.mem_cons_self
    obtain ⟨u, hu⟩ := Int.eq_ofNat_of_zero_le h0.1.1
    have hu4 : u ≤ 4 := by have := h0.1.2; rw [hu] at this; omega
    by_cases c : r.f1 ≥ s
    · have e : seen1 s (x : Int) r = ((x ||| 2 ^ u : Nat) : Int) := by
        unfold seen1
        rw [if_pos c, hu, or_nat x u hx (by omega)]
      have hx2 : x ||| 2 ^ u < 65536 := Nat.or_lt_two_pow (n := 16) hx (Nat.pow_lt_pow_right (by decide) (by omega))
      obtain ⟨n, n1, n2, n3⟩ := seenF_bits s m (x ||| 2 ^ u) hx2 (fun q hq => hr q (List.mem_cons_of_mem _ hq))
      refine ⟨n, ?_, n2, fun i => ?_⟩
      · show seenF s (seen1 s (x : Int) r) m = _
        rw [e, n1]
      · rw [n3, Nat.testBit_or, Nat.testBit_two_pow]
        have e2 : anyS s i (r :: m) = (decide (u = i) || anyS s i m) := by
          unfold anyS
          rw [List.any_cons, decide_eq_true c, Bool.true_and, hu]
          congr 1
          by_cases h : u = i
          · rw [decide_eq_true h, decide_eq_true (by omega)]
          · rw [decide_eq_false h, decide_eq_false (by omega)]
        rw [e2, Bool.or_assoc]
    · have e : seen1 s (x : Int) r = (x : Int) := by unfold seen1; rw [if_neg c]
      obtain ⟨n, n1, n2, n3⟩ := seenF_bits s m x hx (fun q hq => hr q (List.mem_cons_of_mem _ hq))
      refine ⟨n, ?_, n2, fun i => ?_⟩
      · show seenF s (seen1 s (x : Int) r) m = _
        rw [e, n1]
      · rw [n3]
        have e2 : anyS s i (r :: m) = anyS s i m := by
          unfold anyS
          rw [List.any_cons, decide_eq_false c, Bool.false_and, Bool.false_or]
        rw [e2]
theorem seen0 (s : Int) (m : List S44) (h : ∀ r ∈ m, RB r) : ∃ n : Nat, seenF s 0 m = (n : Int) ∧ n < 65536 ∧ ∀ i, n.testBit i = anyS s i m := by
  obtain ⟨n, h1, h2, h3⟩ := seenF_bits s m 0 (by decide) h
  exact ⟨n, h1, h2, fun i => by rw [h3, Nat.zero_testBit, Bool.false_or]⟩
theorem anyS_mem (s : Int) (i : Nat) (m m' : List S44) (h : ∀ r, r ∈ m ↔ r ∈ m') : anyS s i m = anyS s i m' := by
  have : ∀ b b' : Bool, (b = true ↔ b' = true) → b = b' := by intro b b' q; cases b <;> cases b' <;> simp_all
  refine this _ _ ?_
  rw [anyS_iff, anyS_iff]
  exact ⟨fun ⟨r, a, b⟩ => ⟨r, (h r).1 a, b⟩, fun ⟨r, a, b⟩ => ⟨r, (h r).2 a, b⟩⟩
theorem seenL_mem (n : Nat) (m m' : List S44) (hm : ∀ r ∈ m, RB r) (h : ∀ r, r ∈ m ↔ r ∈ m') : seenL n m = seenL n m' := by
  unfold seenL
  refine List.map_congr_left (fun s _ => ?_)
  obtain ⟨a, a1, _, a3⟩ := seen0 (s : Int) m hm
  obtain ⟨b, b1, _, b3⟩ := seen0 (s : Int) m' (fun r q => hm r ((h r).2 q))
  rw [a1, b1]
  congr 1
  refine Nat.eq_of_testBit_eq (fun i => ?_)
  rw [a3, b3, anyS_mem _ i m m' h]
theorem andNot_sub (a b : Nat) (ha : a < 65536) (hb : b < 65536) (h : ∀ i, a.testBit i = true → b.testBit i = true) : Go.bits .andNot .u16 (a : Int) (b : Int) = 0 := by
  obtain ⟨r0, r1⟩ := bits_u16 .andNot (a : Int) (b : Int)
  have ht := fun i (hi : i < 16) => andNot_test a b i hi
  generalize Go.bits .andNot .u16 (a : Int) (b : Int) = z at r0 r1 ht
  obtain ⟨n, rfl⟩ := Int.eq_ofNat_of_zero_le r0
  have h16 : n < 2 ^ 16 := by
    have e16 : (2 : Nat) ^ 16 = 65536 := by decide
    rw [e16]; omega
  have hn : n = 0 := by
    refine Nat.eq_of_testBit_eq (fun i => ?_)
    rw [Nat.zero_testBit]
    by_cases hi : i < 16
    · have := ht i hi
      rw [bit_nat] at this
      rw [this]
      cases ha2 : a.testBit i with
      | false => rfl
      | true => rw [h i ha2]; rfl
    · exact Nat.testBit_lt_two_pow (Nat.lt_of_lt_of_le h16 (Nat.pow_le_pow_right (by decide) (by omega)))
  omega
theorem cntW_nat (x : Int) : cntW x = ((listP x).length : Int) ∧ wrap64 (cntW x) = ((listP x).length : Int) := by
  have := listP_length x
  have e : cntW x = ((listP x).length : Int) := i16_sm _ (by omega)
  exact ⟨e, by rw [e, wrap64_id _ (by omega) (by omega)]⟩
theorem cntOk_cntW (x : Int) : cntOk (cntW x) = true := by
  have := listP_length x
  unfold cntOk
  rw [(cntW_nat x).2, decide_eq_true_eq]; omega
theorem seen_allow (m : List S44) (h : ∀ r ∈ m, RB r) (s : Int) (b : Nat) (hb : b < 65536) (hs : ∀ i, anyS s i m = true → b.testBit i = true) : ∃ n : Nat, seenF s 0 m = (n : Int) ∧ n < 65536 ∧ (∀ i, n.testBit i = anyS s i m) ∧ Go.bits .andNot .u16 (seenF s 0 m) (b : Int) = 0 := by
  obtain ⟨n, h1, h2, h3⟩ := seen0 s m h
  refine ⟨n, h1, h2, h3, ?_⟩
  rw [h1]
  exact andNot_sub n b h2 hb (fun i q => hs i (by rw [← h3]; exact q))
theorem seenL4 (m : List S44) : seenL 4 m = [seenF 0 0 m, seenF 1 0 m, seenF 2 0 m, seenF 3 0 m] := rfl
theorem okLog54 (m : List S44) (h : ∀ r ∈ m, RB r) : okLog 5 (seenL 4 m) ((seenL 4 m).map cntW) = true := by
  have up : ∀ (s t : Int) (i : Nat), s ≤ t → anyS t i m = true → anyS s i m = true := fun s t i hst q => by
    obtain ⟨r, r1, r2, r3⟩ := (anyS_iff _ _ _).1 q
    exact (anyS_iff _ _ _).2 ⟨r, r1, by omega, r3⟩
  obtain ⟨n0, a1, a2, a3, a4⟩ := seen_allow m h 0 31 (by decide) (fun i q => by
    obtain ⟨r, r1, r2, r3⟩ := (anyS_iff _ _ _).1 q
    have := (h r r1).1
    have hi : i ≤ 4 := by omega
    have : i = 0 ∨ i = 1 ∨ i = 2 ∨ i = 3 ∨ i = 4 := by omega
    rcases this with rfl | rfl | rfl | rfl | rfl <;> decide)
  obtain ⟨n1, b1, b2, b3, b4⟩ := seen_allow m h 1 n0 a2 (fun i q => by rw [a3]; exact up 0 1 i (by decide) q)
  obtain ⟨n2, c1, c2, c3, c4⟩ := seen_allow m h 2 n1 b2 (fun i q => by rw [b3]; exact up 1 2 i (by decide) q)
  obtain ⟨n3, d1, d2, d3, d4⟩ := seen_allow m h 3 n2 c2 (fun i q => by rw [c3]; exact up 2 3 i (by decide) q)
  rw [← a1] at b4
  rw [← b1] at c4
  rw [← c1] at d4
  have h31 : allB 5 = ((31 : Nat) : Int) := by decide
  rw [seenL4]
  unfold okLog
  rw [h31]
  simp only [List.map_cons, List.map_nil, okFrom, a4, b4, c4, d4, cntOk_cntW]
  simp
theorem wrong54 (m : List S44) : wrongF (seenL 4 m) ((seenL 4 m).map cntW) 0 = [] := by
  rw [seenL4]
  simp only [List.map_cons, List.map_nil, wrongF, (cntW_nat _).2, if_true]
/-! the first who goes backward -/
def firstV (s : List S44) : Nat → Nat → Int × Int
  | 0, _ => (0, 6)
  | d + 1, i => if anyV s i i 0 = true then ((i : Int), 0) else firstV s d (i + 1)
theorem firstB_l0 (s : List S44) (hl : s.length ≤ 1000) : ∀ (d i k : Nat), i + d = s.length → d * 1003 + 10 < k → spec_FirstBackward.l0 k s (i : Int) = some (firstV s d i) := by
  intro d
  induction d with
  | zero =>
    intro i k hi hk
    obtain ⟨k, rfl⟩ : ∃ m, k = m + 1 := ⟨k - 1, by omega⟩
    simp only [spec_FirstBackward.l0]
    rw [if_neg (by omega)]
    rfl
  | succ d ih =>
    intro i k hi hk
    obtain ⟨k, rfl⟩ : ∃ m, k = m + 1 := ⟨k - 1, by omega⟩
    rw [Nat.succ_mul] at hk
    generalize d * 1003 = D at hk ih
    have h1 := backS_l1 s hl i (by omega) i 0 k (by omega) (by omega)
    rw [show ((0 : Nat) : Int) = 0 from rfl] at h1
    simp only [spec_FirstBackward.l0]
    rw [if_pos (by omega), h1]
    unfold firstV
    by_cases c : anyV s i i 0 = true
    · rw [if_pos c, if_pos c]
    · rw [if_neg c, if_neg c]
      exact ih (i + 1) _ (by omega) (by omega)
theorem finB_first (m : List S44) (h : ∀ r ∈ m, RB r) (hl : m.length ≤ 9) : finB 5 4 m = firstV (sortR m) (sortR m).length 0 := by
  have hok := RB_ok m h hl
  have hsl := sortR_len m
  have e1 := specBack_eq 5 4 m (by omega) (RB_b m h) 3000000 (by omega)
  unfold spec_FirstBackward.f at e1
  rw [l05Records_eq 5 4 m (by omega) _ (by omega), Option.bind_some, if_pos hok, specSorted_eq m (by omega) _ (by omega), Option.bind_some] at e1
  have e2 := firstB_l0 (sortR m) (by omega) (sortR m).length 0 3000000 (by omega) (by omega)
  rw [show ((0 : Nat) : Int) = 0 from rfl, e1] at e2
  exact Option.some.inj e2
/-! lists that are the same -/
theorem sameRec_l0 (x : List S44) (hl : x.length ≤ 1000) : ∀ (d i k : Nat), i + d = x.length → d < k → spec_A2SameRecords.l0 k x x (i : Int) = some true := by
  intro d
  induction d with
  | zero =>
    intro i k hi hk
    obtain ⟨k, rfl⟩ : ∃ m, k = m + 1 := ⟨k - 1, by omega⟩
    simp only [spec_A2SameRecords.l0]
    rw [if_neg (by omega)]
  | succ d ih =>
    intro i k hi hk
    obtain ⟨k, rfl⟩ : ∃ m, k = m + 1 := ⟨k - 1, by omega⟩
    simp only [spec_A2SameRecords.l0]
    rw [if_pos (by omega), if_pos (by omega), if_pos (by omega), if_neg (by simp), wrap_nat i (by omega)]
    exact ih (i + 1) k (by omega) (by omega)
theorem sameRec_eq (x : List S44) (hl : x.length ≤ 1000) (k : Nat) (hk : 1000 < k) : spec_A2SameRecords.f k x x = some true := by
  unfold spec_A2SameRecords.f
  rw [if_pos rfl]
  exact sameRec_l0 x hl x.length 0 k (by omega) (by omega)
theorem same00_l0 (x : List Int) (hl : x.length ≤ 1000) : ∀ (d i k : Nat), i + d = x.length → d < k → spec_l00Same.l0 k x x (i : Int) = some true := by
  intro d
  induction d with
  | zero =>
    intro i k hi hk
    obtain ⟨k, rfl⟩ : ∃ m, k = m + 1 := ⟨k - 1, by omega⟩
    simp only [spec_l00Same.l0]
    rw [if_neg (by omega)]
  | succ d ih =>
    intro i k hi hk
    obtain ⟨k, rfl⟩ : ∃ m, k = m + 1 := ⟨k - 1, by omega⟩
    simp only [spec_l00Same.l0]
    rw [if_pos (by omega), if_pos (by omega), if_pos (by omega), if_pos trivial, wrap_nat i (by omega)]
    exact ih (i + 1) k (by omega) (by omega)
theorem same00_eq (x : List Int) (hl : x.length ≤ 1000) (k : Nat) (hk : 1000 < k) : spec_A2Same.f k x x = some true := by
  unfold spec_A2Same.f spec_l00Same.f
  rw [if_pos rfl]
  have := same00_l0 x hl x.length 0 k (by omega) (by omega)
  rw [show ((0 : Nat) : Int) = 0 from rfl] at this
  rw [this, Option.bind_some]
/-! the law's first loop -/
def exitF (k : Nat) (x1 : List Int) (x5 : List S44) (x19 x20 f : Int) (p : Int) (S C : List Int) : Option Bool :=
  if ((decide (f < 0)) != (x19 == 6)) = true then (laws_FnRecords.j5 k x1 x5 true p S C) else (if f ≥ 0 then (if x19 = 0 then (laws_FnRecords.j5 k x1 x5 (x20 != f) p S C) else (laws_FnRecords.j5 k x1 x5 true p S C)) else (laws_FnRecords.j5 k x1 x5 false p S C))
theorem law_end (x1 : List Int) (x5 s : List S44) (x19 x20 f : Int) (p : Int) (S C : List Int) (k : Nat) : laws_FnRecords.l0 (k + 1) x1 x5 s x19 x20 f (s.length : Int) p S C = exitF k x1 x5 x19 x20 f p S C := by
  simp only [laws_FnRecords.l0]
  rw [if_neg (by omega)]
  rfl
theorem law_time (x1 : List Int) (x5 s : List S44) (hl : s.length ≤ 1000) (ht : ∀ i : Nat, i + 1 < s.length → (rd_T44 s (i : Int)).f2 ≤ (rd_T44 s ((i + 1 : Nat) : Int)).f2) (x19 x20 f : Int) (p : Int) (S C : List Int) (i : Nat) (hi : i < s.length) (k : Nat) : laws_FnRecords.l0 (k + 1 + 1) x1 x5 s x19 x20 f (i : Int) p S C = laws_FnRecords.l1 k x1 x5 s x19 x20 f (i : Int) 0 p S C := by
  simp only [laws_FnRecords.l0]
  rw [if_pos (by omega)]
  by_cases h0 : (i : Int) > 0
  · obtain ⟨j, rfl⟩ : ∃ j, i = j + 1 := ⟨i - 1, by omega⟩
    have := ht j hi
    have e : ((j + 1 : Nat) : Int) - 1 = (j : Int) := by omega
    rw [if_pos h0, if_pos (by omega), wrap64_id _ (by omega) (by omega), e, if_pos (by omega), if_pos (by omega), decide_eq_false (by omega)]
    simp only [laws_FnRecords.j2]
    rw [if_neg (by decide)]
  · rw [if_neg h0]
    simp only [laws_FnRecords.j2]
    rw [if_neg (by decide)]
theorem law_past (x1 : List Int) (x5 s : List S44) (hl : s.length ≤ 1000) (x19 x20 f : Int) (hf : 0 ≤ f) (p : Int) (S C : List Int) (i : Nat) (hi : i < s.length) (j : Int) (k : Nat) : laws_FnRecords.l1 (k + 1 + 1) x1 x5 s x19 x20 f (i : Int) j p S C = laws_FnRecords.l0 k x1 x5 s x19 x20 f ((i + 1 : Nat) : Int) p S C := by
  simp only [laws_FnRecords.l1]
  rw [decide_eq_false (by omega)]
  by_cases h : j < (i : Int)
  · rw [if_pos h]
    simp only [laws_FnRecords.j4]
    rw [if_neg (by decide), wrap_nat i (by omega)]
  · rw [if_neg h]
    simp only [laws_FnRecords.j4]
    rw [if_neg (by decide), wrap_nat i (by omega)]
theorem law_scan (x1 : List Int) (x5 s : List S44) (hl : s.length ≤ 1000) (x19 x20 : Int) (p : Int) (S C : List Int) (i : Nat) (hi : i < s.length) : ∀ (d j k : Nat), j + d = i → 2 * d + 6 < k → ∃ q, k ≤ q + 2 * d + 6 ∧ laws_FnRecords.l1 k x1 x5 s x19 x20 (-1) (i : Int) (j : Int) p S C = laws_FnRecords.l0 q x1 x5 s x19 x20 (if anyV s i d j = true then (i : Int) else -1) ((i + 1 : Nat) : Int) p S C := by
  intro d
  induction d with
  | zero =>
    intro j k hj hk
    obtain ⟨k, rfl⟩ : ∃ m, k = m + 2 := ⟨k - 2, by omega⟩
    refine ⟨k, by omega, ?_⟩
    simp only [laws_FnRecords.l1]
    rw [if_neg (by omega)]
    simp only [laws_FnRecords.j4]
    rw [if_neg (by decide), wrap_nat i (by omega)]
    rfl
  | succ d ih =>
    intro j k hj hk
    obtain ⟨k, rfl⟩ : ∃ m, k = m + 4 := ⟨k - 4, by omega⟩
    simp only [laws_FnRecords.l1]
    rw [if_pos (by omega), decide_eq_true (by decide)]
    simp only [laws_FnRecords.j4]
    rw [if_pos trivial, if_pos (by omega), if_pos (by omega), if_pos (by omega), if_pos (by omega), wrap_nat j (by omega), anyV_succ]
    obtain ⟨q, q1, q2⟩ := ih (j + 1) (k + 2) (by omega) (by omega)
    by_cases e1 : (rd_T44 s (j : Int)).f0 = (rd_T44 s (i : Int)).f0
    · rw [if_pos e1, decide_eq_true e1, Bool.true_and]
      by_cases e2 : (rd_T44 s (j : Int)).f1 > (rd_T44 s (i : Int)).f1
      · refine ⟨k, by omega, ?_⟩
        rw [if_pos e2, decide_eq_true e2, Bool.true_or, if_pos rfl]
        exact law_past x1 x5 s hl x19 x20 (i : Int) (by omega) p S C i hi ((j + 1 : Nat) : Int) k
      · rw [if_neg e2, decide_eq_false e2, Bool.false_or]
        exact ⟨q, by omega, q2⟩
    · rw [if_neg e1, decide_eq_false e1, Bool.false_and, Bool.false_or]
      exact ⟨q, by omega, q2⟩
theorem law_afterF (x1 : List Int) (x5 s : List S44) (hl : s.length ≤ 1000) (ht : ∀ i : Nat, i + 1 < s.length → (rd_T44 s (i : Int)).f2 ≤ (rd_T44 s ((i + 1 : Nat) : Int)).f2) (x19 x20 f : Int) (hf : 0 ≤ f) (p : Int) (S C : List Int) : ∀ (d i k : Nat), i + d = s.length → 4 * d + 1 < k → ∃ q, k ≤ q + 4 * d + 1 ∧ laws_FnRecords.l0 k x1 x5 s x19 x20 f (i : Int) p S C = exitF q x1 x5 x19 x20 f p S C := by
  intro d
  induction d with
  | zero =>
    intro i k hi hk
    obtain ⟨k, rfl⟩ : ∃ m, k = m + 1 := ⟨k - 1, by omega⟩
    obtain rfl : i = s.length := by omega
    exact ⟨k, by omega, law_end x1 x5 s x19 x20 f p S C k⟩
  | succ d ih =>
    intro i k hi hk
    obtain ⟨k, rfl⟩ : ∃ m, k = m + 4 := ⟨k - 4, by omega⟩
    obtain ⟨q, q1, q2⟩ := ih (i + 1) k (by omega) (by omega)
    refine ⟨q, by omega, ?_⟩
    have e1 := law_time x1 x5 s hl ht x19 x20 f p S C i (by omega) (k + 2)
    have e2 := law_past x1 x5 s hl x19 x20 f hf p S C i (by omega) 0 k
    rw [e1, e2, q2]
theorem law_l0 (x1 : List Int) (x5 s : List S44) (hl : s.length ≤ 100) (ht : ∀ i : Nat, i + 1 < s.length → (rd_T44 s (i : Int)).f2 ≤ (rd_T44 s ((i + 1 : Nat) : Int)).f2) (x19 x20 : Int) (p : Int) (S C : List Int) : ∀ (d i k : Nat), i + d = s.length → 300 * d + 10 < k → ∃ q, k ≤ q + 300 * d + 10 ∧ laws_FnRecords.l0 k x1 x5 s x19 x20 (-1) (i : Int) p S C = exitF q x1 x5 x19 x20 (if (firstV s d i).2 = 6 then -1 else (firstV s d i).1) p S C := by
  intro d
  induction d with
  | zero =>
    intro i k hi hk
    obtain ⟨k, rfl⟩ : ∃ m, k = m + 1 := ⟨k - 1, by omega⟩
    obtain rfl : i = s.length := by omega
    exact ⟨k, by omega, law_end x1 x5 s x19 x20 (-1) p S C k⟩
  | succ d ih =>
    intro i k hi hk
    obtain ⟨k, rfl⟩ : ∃ m, k = m + 2 := ⟨k - 2, by omega⟩
    have e1 := law_time x1 x5 s (by omega) ht x19 x20 (-1) p S C i (by omega) k
    obtain ⟨q, q1, q2⟩ := law_scan x1 x5 s (by omega) x19 x20 p S C i (by omega) i 0 k (by omega) (by omega)
    rw [show ((0 : Nat) : Int) = 0 from rfl] at q2
    rw [e1, q2]
    unfold firstV
    by_cases c : anyV s i i 0 = true
    · rw [if_pos c, if_pos c]
      obtain ⟨z, z1, z2⟩ := law_afterF x1 x5 s (by omega) ht x19 x20 (i : Int) (by omega) p S C d (i + 1) q (by omega) (by omega)
      exact ⟨z, by omega, z2⟩
    · rw [if_neg c, if_neg c]
      obtain ⟨z, z1, z2⟩ := ih (i + 1) q (by omega) (by omega)
      exact ⟨z, by omega, z2⟩
theorem firstV_rng (s : List S44) : ∀ d i, ((firstV s d i).2 = 6 ∧ (firstV s d i).1 = 0) ∨ ((firstV s d i).2 = 0 ∧ 0 ≤ (firstV s d i).1)
  | 0, i => Or.inl ⟨rfl, rfl⟩
  | d + 1, i => by
    unfold firstV
    by_cases c : anyV s i i 0 = true
    · rw [if_pos c]; exact Or.inr ⟨rfl, by show (0 : Int) ≤ (i : Int); omega⟩
    · rw [if_neg c]; exact firstV_rng s d (i + 1)
theorem exit_ok (k : Nat) (x1 : List Int) (x5 : List S44) (v : Int × Int) (hv : (v.2 = 6 ∧ v.1 = 0) ∨ (v.2 = 0 ∧ 0 ≤ v.1)) (p : Int) (S C : List Int) : exitF k x1 x5 v.2 v.1 (if v.2 = 6 then -1 else v.1) p S C = laws_FnRecords.j5 k x1 x5 false p S C := by
  unfold exitF
  rcases hv with ⟨h1, h2⟩ | ⟨h1, h2⟩
  · rw [h1, if_pos rfl, if_neg (by decide), if_neg (by decide)]
  · have e : (if v.2 = 6 then (-1 : Int) else v.1) = v.1 := if_neg (by omega)
    rw [e, h1, decide_eq_false (by omega : ¬ v.1 < 0), if_neg (by decide), if_pos (by omega), if_pos rfl]
    have : (v.1 != v.1) = false := by simp
    rw [this]
/-! where each one is at a time -/
theorem best_char (T : Int) (y n : Int) : ∀ (m : List S44) (b : Int), n ≤ bestF T y m b ↔ (n ≤ b ∨ ∃ r ∈ m, r.f0 = y ∧ r.f2 ≤ T ∧ n ≤ r.f1)
  | [], b => by
    constructor
    · intro h; exact Or.inl h
    · rintro (h | ⟨r, h, _⟩)
      · exact h
      · exact absurd h (by simp)
  | r :: m, b => by
    have ih := best_char T y n m (up1 T y b r)
    have e : bestF T y (r :: m) b = bestF T y m (up1 T y b r) := rfl
    rw [e, ih]
    have hu : n ≤ up1 T y b r ↔ (n ≤ b ∨ (r.f0 = y ∧ r.f2 ≤ T ∧ n ≤ r.f1)) := by
      unfold up1
      by_cases c : r.f0 = y ∧ r.f2 ≤ T
      · rw [if_pos c]
        unfold mx
        constructor
        · intro h
          split at h
          · exact Or.inr ⟨c.1, c.2, h⟩
          · exact Or.inl h
        · rintro (h | h)
          · split <;> omega
          · have := h.2.2
            split <;> omega
      · rw [if_neg c]
        constructor
        · intro h; exact Or.inl h
        · rintro (h | h)
          · exact h
          · exact absurd ⟨h.1, h.2.1⟩ c
    rw [hu]
    constructor
    · rintro ((h | h) | ⟨q, h1, h2⟩)
      · exact Or.inl h
      · exact Or.inr ⟨r, List.mem_cons_self, h⟩
      · exact Or.inr ⟨q, List.mem_cons_of_mem _ h1, h2⟩
    · rintro (h | ⟨q, h1, h2⟩)
      · exact Or.inl (Or.inl h)
      · rcases List.mem_cons.1 h1 with z | z
        · subst z; exact Or.inl (Or.inr h2)
        · exact Or.inr ⟨q, z, h2⟩
theorem best_up (T U y : Int) (hT : T ≤ U) (m : List S44) : bestF T y m (-1) ≤ bestF U y m (-1) := by
  refine (best_char U y _ m (-1)).2 ?_
  rcases (best_char T y (bestF T y m (-1)) m (-1)).1 (Int.le_refl _) with h | ⟨r, h1, h2, h3, h4⟩
  · exact Or.inl h
  · exact Or.inr ⟨r, h1, h2, by omega, h4⟩
theorem best_lo (T y : Int) (m : List S44) : -1 ≤ bestF T y m (-1) := (best_char T y (-1) m (-1)).2 (Or.inl (Int.le_refl _))
theorem best_hi (T y : Int) (m : List S44) (h : ∀ r ∈ m, RB r) : bestF T y m (-1) ≤ 3 := by
  by_cases c : bestF T y m (-1) ≤ 3
  · exact c
  · exfalso
    rcases (best_char T y 4 m (-1)).1 (by omega) with z | ⟨r, h1, _, _, h4⟩
    · exact absurd z (by decide)
    · have := (h r h1).2.1
      omega
theorem best_late (i n : Nat) (m : List S44) (h : ∀ r ∈ m, RB r) : anyS (n : Int) i m = true ↔ (n : Int) ≤ bestF 10000 (i : Int) m (-1) := by
  rw [anyS_iff, best_char]
  constructor
  · rintro ⟨r, h1, h2, h3⟩
    have := h r h1
    exact Or.inr ⟨r, h1, h3, by have := this.2.2; omega, h2⟩
  · rintro (z | ⟨r, h1, h2, h3, h4⟩)
    · exact absurd z (by omega)
    · exact ⟨r, h1, h4, h2⟩
theorem seen_has (m : List S44) (h : ∀ r ∈ m, RB r) (n i : Nat) (hn : n < 4) (hi : i ≤ 4) : hasB ((seenL 4 m).getD n 0) (i : Int) = decide ((n : Int) ≤ bestF 10000 (i : Int) m (-1)) := by
  have hg : (seenL 4 m).getD n 0 = seenF (n : Int) 0 m := getD_range_map 0 _ _ _ hn
  obtain ⟨a, a1, a2, a3⟩ := seen0 (n : Int) m h
  rw [hg, a1, hasB_iff _ i (by omega), bit_nat, a3]
  have hb := best_late i n m h
  by_cases c : anyS (n : Int) i m = true
  · rw [c, decide_eq_true (hb.1 c)]
  · rw [Bool.eq_false_iff.mpr c, decide_eq_false (fun z => c (hb.2 z))]
theorem last54 (m : List S44) (h : ∀ r ∈ m, RB r) (i : Nat) (hi : i ≤ 4) : lastS (seenL 4 m) (i : Int) 4 = if 0 ≤ bestF 10000 (i : Int) m (-1) then (bestF 10000 (i : Int) m (-1), 0) else (0, 6) := by
  have h0 := best_lo 10000 (i : Int) m
  have h3 := best_hi 10000 (i : Int) m h
  have e0 := seen_has m h 0 i (by decide) hi
  have e1 := seen_has m h 1 i (by decide) hi
  have e2 := seen_has m h 2 i (by decide) hi
  have e3 := seen_has m h 3 i (by decide) hi
  simp only [lastS, e0, e1, e2, e3]
  generalize bestF 10000 (i : Int) m (-1) = b at h0 h3 ⊢
  have : b = -1 ∨ b = 0 ∨ b = 1 ∨ b = 2 ∨ b = 3 := by omega
  rcases this with rfl | rfl | rfl | rfl | rfl <;> simp
theorem implLast54 (m : List S44) (h : ∀ r ∈ m, RB r) (i : Nat) (hi : i ≤ 4) (k : Nat) (hk : 1048600 < k) : impl_LastSeen.f k 5 (seenL 4 m) ((seenL 4 m).map cntW) (i : Int) = some (if 0 ≤ bestF 10000 (i : Int) m (-1) then (bestF 10000 (i : Int) m (-1), 0) else (0, 6)) := by
  have hok := okLog54 m h
  have hl : (seenL 4 m).length = 4 := by simp [seenL]
  have hw : ∀ x ∈ seenL 4 m, (Lit.int .u16 x).wf = true := fun x hx => by
    unfold seenL at hx
    obtain ⟨s, _, rfl⟩ := List.mem_map.1 hx
    obtain ⟨n, n1, n2, _⟩ := seen0 (s : Int) m h
    rw [n1]
    simp [Lit.wf, IntKind.min, IntKind.max, IntKind.bits, IntKind.signed]
    omega
  unfold impl_LastSeen.f
  rw [implValid_eq 5 _ _ (by omega) k (by omega), Option.bind_some, if_pos hok, wrap64_id (5 - 1) (by decide) (by decide), within_eq, Option.bind_some, decide_eq_true (by omega), if_pos rfl]
  have hi0 := idx_l0 5 (seenL 4 m) ((seenL 4 m).map cntW) (i : Int) hw (by omega) (by omega) (seenL 4 m).length 0 k (by omega) (by omega)
  rw [show ((0 : Nat) : Int) = 0 from rfl] at hi0
  unfold impl_indices_at_LastSeen_1.f
  rw [show ([] : List Int) = filt (seenL 4 m) (i : Int) 0 from rfl, hi0, Option.bind_some, ← last54 m h i hi]
  have hlf := last_filt (seenL 4 m) (i : Int) (seenL 4 m).length
  have hfl := filt_length (seenL 4 m) (i : Int) (seenL 4 m).length
  rw [hl] at hlf hfl ⊢
  rw [hlf]
  by_cases e : ((filt (seenL 4 m) (i : Int) 4).length : Int) = 0
  · rw [if_pos e, if_pos e]
  · rw [if_neg e, if_neg e, wrap64_id _ (by omega) (by omega), if_pos (by omega), if_pos (by omega)]
    rw [show ((filt (seenL 4 m) (i : Int) 4).length : Int) - 1 = (((filt (seenL 4 m) (i : Int) 4).length - 1 : Nat) : Int) by omega, rd_nat]
def bestL (T : Int) (m : List S44) : List Int := (List.range 5).map (fun (y : Nat) => bestF T (y : Int) m (-1))
theorem bestL_rd (T : Int) (m : List S44) (i : Nat) (h : i < 5) : rd (bestL T m) (i : Int) = bestF T (i : Int) m (-1) := by
  rw [rd_nat]; exact getD_range_map 0 _ _ _ h
theorem law_l2 (T : Int) (hT : T ≤ 10000) (m : List S44) (h : ∀ r ∈ m, RB r) : ∀ (d i k : Nat), i + d = 5 → 2 * d + 1100000 < k → laws_FnRecords.l2 k (bestL T m) (bestL 10000 m) (i : Int) 5 (seenL 4 m) ((seenL 4 m).map cntW) = some true := by
  have hl1 : (bestL T m).length = 5 := by simp [bestL]
  have hl2 : (bestL 10000 m).length = 5 := by simp [bestL]
  intro d
  induction d with
  | zero =>
    intro i k hi hk
    obtain ⟨k, rfl⟩ : ∃ m, k = m + 1 := ⟨k - 1, by omega⟩
    simp only [laws_FnRecords.l2]
    rw [if_neg (by omega)]
  | succ d ih =>
    intro i k hi hk
    obtain ⟨k, rfl⟩ : ∃ m, k = m + 2 := ⟨k - 2, by omega⟩
    have a1 := best_up T 10000 (i : Int) hT m
    have a2 := best_lo T (i : Int) m
    have a3 := best_hi 10000 (i : Int) m h
    simp only [laws_FnRecords.l2]
    rw [if_pos (by omega), if_pos (by omega), if_pos (by omega), if_pos (by omega), bestL_rd T m i (by omega), bestL_rd 10000 m i (by omega), if_neg (by omega), if_neg (by omega), decide_eq_false (by omega)]
    simp only [laws_FnRecords.j8]
    rw [if_neg (by decide), implLast54 m h i (by omega) k (by omega), Option.bind_some, if_pos (by omega), if_pos (by omega), bestL_rd 10000 m i (by omega)]
    have ih2 := ih (i + 1) k (by omega) (by omega)
    by_cases c : 0 ≤ bestF 10000 (i : Int) m (-1)
    · have c2 : bestF 10000 (i : Int) m (-1) ≥ 0 := c
      rw [if_pos c, decide_eq_true c2]
      dsimp only
      rw [if_neg (by decide), if_pos rfl, if_pos rfl, wrap_nat i (by omega)]
      exact ih2
    · have c2 : ¬ bestF 10000 (i : Int) m (-1) ≥ 0 := c
      rw [if_neg c, decide_eq_false c2]
      dsimp only
      rw [if_neg (by decide), if_neg (by decide), wrap_nat i (by omega)]
      exact ih2
theorem at24 (x : List Int) (hx : ∀ v ∈ x, (Lit.int .u8 v).wf = true) : ∃ T : Int, laws_a2At.f x 0 24 = some T ∧ 0 ≤ T ∧ T ≤ 23 := by
  unfold laws_a2At.f
  by_cases c : (0 : Int) ≥ (x.length : Int)
  · rw [if_pos c]; exact ⟨0, rfl, by decide, by decide⟩
  · have hr := wf_u8 (hx (x.getD 0 0) (by rw [List.getD_eq_getElem?_getD, List.getElem?_eq_getElem (by omega)]; exact List.getElem_mem _))
    have e : rd x 0 = x.getD 0 0 := rd_nat x 0
    rw [if_neg c, if_neg (by decide), if_pos (by decide), if_pos (by omega), if_neg (by decide), e, wrap64_id _ (by omega) (by omega), Int.tmod_eq_emod_of_nonneg (by omega)]
    exact ⟨_, rfl, by omega, by omega⟩
theorem law_j5 (x1 : List Int) (hx : ∀ v ∈ x1, (Lit.int .u8 v).wf = true) (m : List S44) (h : ∀ r ∈ m, RB r) (hl : m.length ≤ 9) (k : Nat) (hk : 3000000 < k) : laws_FnRecords.j5 k x1 m false 5 (seenL 4 m) ((seenL 4 m).map cntW) = some true := by
  have hok := RB_ok m h hl
  have hg : recsOk 5 4 m = true → good 5 4 m := good_of 5 4 m (RB_b m h)
  obtain ⟨T, e, t0, t1⟩ := at24 x1 hx
  obtain ⟨k, rfl⟩ : ∃ q, k = q + 2 := ⟨k - 2, by omega⟩
  have hf : ∀ U : Int, 0 ≤ U ∧ U ≤ 10000 → finBt 5 4 m U = (bestL U m, 0) := fun U hU => by
    unfold finBt
    rw [if_pos hok, if_pos hU]
    rfl
  have hb5 : ∀ U, (bestL U m).length = 5 := fun U => by simp [bestL]
  simp only [laws_FnRecords.j5]
  rw [if_neg (by decide), e, Option.bind_some, implBt_fin 5 4 m T (by omega) hg _ (by omega), Option.bind_some, specBt_fin 5 4 m T (by omega) hg _ (by omega), Option.bind_some, implBt_fin 5 4 m 10000 (by omega) hg _ (by omega), Option.bind_some, hf T (by omega), hf 10000 (by decide)]
  dsimp only
  rw [if_pos rfl, if_pos rfl, same00_eq _ (by rw [hb5]; omega) _ (by omega), Option.bind_some, if_pos rfl, if_pos (by rw [hb5]; rfl), if_pos rfl]
  have : (((bestL 10000 m).length : Int) != 5) = false := by rw [hb5]; rfl
  rw [this]
  simp only [laws_FnRecords.j6]
  rw [if_neg (by decide)]
  have := law_l2 T (by omega) m h 5 0 k rfl (by omega)
  rw [show ((0 : Nat) : Int) = 0 from rfl] at this
  exact this
theorem implWrong54 (m : List S44) (h : ∀ r ∈ m, RB r) (k : Nat) (hk : 1048600 < k) : impl_FirstWrongCount.f k 5 (seenL 4 m) ((seenL 4 m).map cntW) = some (0, 6) := by
  have hok := okLog54 m h
  have hl : (seenL 4 m).length = 4 := by simp [seenL]
  have hw : ∀ x ∈ seenL 4 m, 0 ≤ x ∧ x < 65536 := fun x hx => by
    unfold seenL at hx
    obtain ⟨s, _, rfl⟩ := List.mem_map.1 hx
    obtain ⟨n, n1, n2, _⟩ := seen0 (s : Int) m h
    rw [n1]; omega
  unfold impl_FirstWrongCount.f impl_Log_wrong.f impl_indices_at_wrong_1.f
  have e2 := implWrong_l0 5 (seenL 4 m) ((seenL 4 m).map cntW) (by omega) (by simp) hw (seenL 4 m).length 0 k [] (by omega) (by omega) (by simp)
  rw [show ((0 : Nat) : Int) = 0 from rfl, List.drop_zero, List.drop_zero, wrong54 m, List.nil_append] at e2
  rw [implValid_eq 5 _ _ (by omega) k (by omega), Option.bind_some, if_pos hok, e2]
  rfl
theorem main : laws_FnRecords.Pure := by
  intro c x1 _ _ hc _ _ hx
  refine rounds_of 5000000 fun k hk => ?_
  unfold laws_FnRecords.f laws_a2Long.f
  by_cases h1 : (c.length : Int) > 3000
  · rw [if_pos h1, Option.bind_some, if_pos rfl]
  rw [if_neg h1, Option.bind_some]
  by_cases h2 : (x1.length : Int) > 3000
  · rw [decide_eq_true h2, if_pos rfl]
  rw [decide_eq_false h2, if_neg (by decide)]
  have hsrc : srcOk c := ⟨by omega, fun x q => wf_u8 (hc x q)⟩
  obtain ⟨m, e, hl, h⟩ := recsD_eq c hsrc k (by omega)
  rw [e, Option.bind_some]
  have hok := RB_ok m h hl
  have hsl := sortR_len m
  have hs : ∀ r ∈ sortR m, RB r := fun r q => h r (mem_sortR m r q)
  have hoks := RB_ok (sortR m) hs (by omega)
  have hgm : recsOk 5 4 m = true → good 5 4 m := good_of 5 4 m (RB_b m h)
  have hgs : recsOk 5 4 (sortR m) = true → good 5 4 (sortR m) := good_of 5 4 _ (RB_b _ hs)
  have f1 : finR 5 4 m = (sortR m, 0) := if_pos hok
  have f2 : finR 5 4 (sortR m) = (sortR m, 0) := by
    have : finR 5 4 (sortR m) = (sortR (sortR m), 0) := if_pos hoks
    rw [this, sortR_self]
  have f3 : finLF 5 4 m = (5, seenL 4 m, (seenL 4 m).map cntW, 0) := if_pos hok
  have f4 : finLF 5 4 (sortR m) = (5, seenL 4 m, (seenL 4 m).map cntW, 0) := by
    have : finLF 5 4 (sortR m) = (5, seenL 4 (sortR m), (seenL 4 (sortR m)).map cntW, 0) := if_pos hoks
    rw [this, seenL_mem 4 (sortR m) m hs (sortR_mem m)]
  have hsl4 : (seenL 4 m).length = 4 := by simp [seenL]
  have hv := firstV_rng (sortR m) (sortR m).length 0
  rw [implSortR_eq 5 4 m (by omega) k (by omega), Option.bind_some, specSortR_eq 5 4 m (by omega) k (by omega), Option.bind_some, f1]
  dsimp only
  rw [implSortR_eq 5 4 (sortR m) (by omega) k (by omega), Option.bind_some, implLF_fin 5 4 m (by omega) hgm k (by omega), Option.bind_some, specLF_fin 5 4 m (by omega) hgm k (by omega), Option.bind_some, implLF_fin 5 4 (sortR m) (by omega) hgs k (by omega), Option.bind_some, implBack_eq 5 4 m (by omega) (RB_b m h) k (by omega), Option.bind_some, specBack_eq 5 4 m (by omega) (RB_b m h) k (by omega), Option.bind_some, f2, f3, f4, finB_first m h hl]
  dsimp only
  rw [if_pos rfl, if_pos rfl, sameRec_eq (sortR m) (by omega) k (by omega), Option.bind_some, if_pos rfl, if_pos (by omega), if_pos rfl, Option.bind_some, if_pos rfl, if_pos rfl, if_pos rfl, specSame_eq 5 _ _ 5 _ _ (by omega) (by simp; omega) k (by omega), Option.bind_some, decide_eq_true ⟨rfl, rfl, rfl⟩, if_pos rfl, implValid_eq 5 _ _ (by omega) k (by omega), Option.bind_some, okLog54 m h, if_pos rfl, if_pos (by omega), if_pos rfl, if_pos (by omega), Option.bind_some, if_pos rfl, if_pos rfl, if_pos rfl, implRecords_eq 5 4 m (by omega) k (by omega), Option.bind_some, hok]
  obtain ⟨k, rfl⟩ : ∃ q, k = q + 1 := ⟨k - 1, by omega⟩
  simp only [laws_FnRecords.j0, Bool.not_true]
  rw [if_neg (by decide), implWrong54 m h k (by omega), Option.bind_some, if_pos rfl]
  obtain ⟨q, q1, q2⟩ := law_l0 x1 m (sortR m) (by omega) (sortR_time m) (firstV (sortR m) (sortR m).length 0).2 (firstV (sortR m) (sortR m).length 0).1 5 (seenL 4 m) ((seenL 4 m).map cntW) (sortR m).length 0 k (by omega) (by omega)
  rw [show ((0 : Nat) : Int) = 0 from rfl] at q2
  rw [q2, exit_ok q x1 m _ hv]
  exact law_j5 x1 hx m h hl q (by omega)

end Go.Proofs.Ytcjchobajjbhkaa.PureFnRecords
namespace Go.Proofs.Ytcjchobajjbhkaa.Pure
theorem FnRecords : Go.Proofs.Ytcjchobajjbhkaa.P.laws_FnRecords.Pure := Go.Proofs.Ytcjchobajjbhkaa.PureFnRecords.main
end Go.Proofs.Ytcjchobajjbhkaa.Pure
