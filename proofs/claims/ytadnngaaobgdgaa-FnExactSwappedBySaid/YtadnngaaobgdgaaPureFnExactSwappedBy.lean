/- For every rope, list of holds and number said the program's SwappedBy returns the reference's list of pairs and code, in memory of its own, and leaves the rope and the holds as they were; no condition. -/
import Derived.Test.YtadnngaaobgdgaaP12
import Derived.Laws.BitsLemmas
namespace Go.Proofs.Ytadnngaaobgdgaa.PureFnExactSwappedBy
open Go.RowKit Go.Proofs.Ytadnngaaobgdgaa.P Go.Proofs.YtadnngaaobgdgaaW.PrintWords Go.Proofs.YtadnngaaobgdgaaW.PrintLast
set_option linter.unusedSimpArgs false
set_option linter.unusedVariables false

theorem wrap64_id (x : Int) (h0 : -9223372036854775808 ≤ x) (h1 : x ≤ 9223372036854775807) : wrap64 x = x := by unfold wrap64; omega
theorem wrap_nat (n : Nat) (h : n < 4611686018427387904) : wrap64 ((n : Int) + 1) = ((n + 1 : Nat) : Int) := by
  rw [wrap64_id _ (by omega) (by omega)]; omega
theorem drop_getD {α : Type} (z : α) (l : List α) (i : Nat) (h : i < l.length) : l.drop i = l.getD i z :: l.drop (i + 1) := by
  rw [List.drop_eq_getElem_cons h, List.getD_eq_getElem?_getD, List.getElem?_eq_getElem h]; rfl
theorem take_getD {α : Type} (z : α) (l : List α) (i : Nat) (h : i < l.length) : l.take (i + 1) = l.take i ++ [l.getD i z] := by
  rw [List.take_succ_eq_append_getElem h, List.getD_eq_getElem?_getD, List.getElem?_eq_getElem h]; rfl
theorem set_rep {α : Type} (a : List α) (i d : Nat) (z v : α) (h : a.length = i) : (a ++ List.replicate (d + 1) z).set i v = (a ++ [v]) ++ List.replicate d z := by
  subst h
  rw [List.set_append_right _ _ (Nat.le_refl _), Nat.sub_self, List.replicate_succ, List.set_cons_zero]
  simp
theorem set_drop {α : Type} (a g : List α) (i : Nat) (v : α) (h : a.length = i) (hg : i < g.length) : (a ++ g.drop i).set i v = (a ++ [v]) ++ g.drop (i + 1) := by
  subst h
  rw [List.set_append_right _ _ (Nat.le_refl _), Nat.sub_self, List.drop_eq_getElem_cons hg, List.set_cons_zero]
  simp
theorem getD_range_map {α : Type} (z : α) (f : Nat → α) (n i : Nat) (h : i < n) : ((List.range n).map f).getD i z = f i := by
  rw [List.getD_eq_getElem?_getD, List.getElem?_map, List.getElem?_range h]; rfl
theorem rounds_of (B : Nat) {α : Type} {F : Nat → Option α} {v : α} (h : ∀ k, B ≤ k → F k = some v) : ∃ k, F k = some v := ⟨B, h B (Nat.le_refl _)⟩

theorem wf_i16 {a : Int} (h : (Lit.int .i16 a).wf = true) : -32768 ≤ a ∧ a ≤ 32767 := by
  simp [Lit.wf, IntKind.min, IntKind.max, IntKind.bits, IntKind.signed] at h
  omega
theorem wf_i8 {a : Int} (h : (Lit.int .i8 a).wf = true) : -128 ≤ a ∧ a ≤ 127 := by
  simp [Lit.wf, IntKind.min, IntKind.max, IntKind.bits, IntKind.signed] at h
  omega
theorem in_eq (a b c : Int) : spec_l00In.f a b c = some (decide (b ≤ a ∧ a ≤ c)) := by
  unfold spec_l00In.f
  by_cases h : b ≤ a
  · rw [if_pos (by omega)]; simp [h]
  · rw [if_neg (by omega)]; simp [h]
theorem within_eq (a b c : Int) : impl_within.f a b c = some (decide (b ≤ a ∧ a ≤ c)) := by
  unfold impl_within.f
  by_cases h : b ≤ a
  · rw [if_pos (by omega)]; simp [h]
  · rw [if_neg (by omega)]; simp [h]
def upFrom (l : List Int) : Nat → Nat → Bool
  | 0, _ => true
  | d + 1, i => !decide (rd l (i : Int) ≤ rd l ((i : Int) - 1)) && upFrom l d (i + 1)
def ropeOk (p : Int) (l : List Int) : Bool :=
  decide (1 ≤ p ∧ p ≤ 400) && (decide (2 ≤ l.length ∧ l.length ≤ 40) && (decide (rd l 0 = 0) && (decide (rd l ((l.length : Int) - 1) = p) && upFrom l (l.length - 1) 1)))
theorem specRope_l0 (l : List Int) (p : Int) (hl : l.length ≤ 1048576) : ∀ (d i k : Nat), 1 ≤ i → i + d = l.length → d < k → spec_l03Ok.l0 k (l.length : Int) (i : Int) p l = some (upFrom l d i) := by
  intro d
  induction d with
  | zero =>
    intro i k h1 hi hk
    obtain ⟨k, rfl⟩ : ∃ m, k = m + 1 := ⟨k - 1, by omega⟩
    simp only [spec_l03Ok.l0]
    rw [if_neg (by omega)]
    rfl
  | succ d ih =>
    intro i k h1 hi hk
    obtain ⟨k, rfl⟩ : ∃ m, k = m + 1 := ⟨k - 1, by omega⟩
    simp only [spec_l03Ok.l0]
    rw [wrap64_id ((i : Int) - 1) (by omega) (by omega), if_pos (by omega), if_pos (by omega), if_pos (by omega), if_pos (by omega), if_pos (by omega), wrap_nat i (by omega)]
    unfold upFrom
    by_cases e : rd l (i : Int) ≤ rd l ((i : Int) - 1)
    · rw [if_pos e, decide_eq_true e]; rfl
    · rw [if_neg e, decide_eq_false e, ih (i + 1) k (by omega) (by omega) (by omega)]; rfl
theorem specRope_eq (p : Int) (hp : -32768 ≤ p ∧ p ≤ 32767) (l : List Int) (hl : l.length ≤ 1048576) (k : Nat) (hk : 1048590 < k) : spec_l03Ok.f k p l = some (ropeOk p l) := by
  obtain ⟨k, rfl⟩ : ∃ m, k = m + 1 := ⟨k - 1, by omega⟩
  unfold spec_l03Ok.f ropeOk
  rw [wrap64_id p (by omega) (by omega), in_eq, Option.bind_some]
  simp only [spec_l03Ok.j0, if_true]
  by_cases c1 : 1 ≤ p ∧ p ≤ 400
  · rw [decide_eq_true c1, if_pos rfl]
    by_cases c2 : 2 ≤ l.length ∧ l.length ≤ 40
    · rw [decide_eq_true c2, if_neg (by omega), if_neg (by omega), if_pos (by omega), wrap64_id ((l.length : Int) - 1) (by omega) (by omega)]
      by_cases c3 : rd l 0 = 0
      · rw [if_pos c3, decide_eq_true c3, if_pos (by omega), if_pos (by omega)]
        by_cases c4 : rd l ((l.length : Int) - 1) = p
        · have := specRope_l0 l p hl (l.length - 1) 1 k (by omega) (by omega) (by omega)
          rw [show ((1 : Nat) : Int) = 1 from rfl] at this
          rw [decide_eq_true c4, if_neg (by simp [c4]), this]; rfl
        · rw [decide_eq_false c4, if_pos (by simp [c4])]; rfl
      · rw [if_neg c3, decide_eq_false c3]; rfl
    · rw [decide_eq_false c2]
      by_cases c5 : (l.length : Int) < 2
      · rw [if_pos c5]; rfl
      · rw [if_neg c5, if_pos (by omega)]; rfl
  · rw [decide_eq_false c1, if_neg (by decide)]; rfl
theorem implRope_l0 (l : List Int) (p : Int) (h2 : 2 ≤ l.length) (hl : l.length ≤ 1048576) : ∀ (d i k : Nat), 1 ≤ i → i + d = l.length → d < k → impl_ValidRope.l0 k (i : Int) p l = some (upFrom l d i && (decide (rd l 0 = 0) && decide (rd l ((l.length : Int) - 1) = p))) := by
  intro d
  induction d with
  | zero =>
    intro i k h1 hi hk
    obtain ⟨k, rfl⟩ : ∃ m, k = m + 1 := ⟨k - 1, by omega⟩
    simp only [impl_ValidRope.l0]
    rw [if_neg (by omega), if_pos (by omega), wrap64_id ((l.length : Int) - 1) (by omega) (by omega)]
    unfold upFrom
    by_cases c3 : rd l 0 = 0
    · rw [if_pos c3, decide_eq_true c3, if_pos (by omega), if_pos (by omega)]; rfl
    · rw [if_neg c3, decide_eq_false c3]; rfl
  | succ d ih =>
    intro i k h1 hi hk
    obtain ⟨k, rfl⟩ : ∃ m, k = m + 1 := ⟨k - 1, by omega⟩
    simp only [impl_ValidRope.l0]
    rw [wrap64_id ((i : Int) - 1) (by omega) (by omega), if_pos (by omega), if_pos (by omega), if_pos (by omega), if_pos (by omega), wrap_nat i (by omega)]
    conv => rhs; unfold upFrom
    by_cases e : rd l (i : Int) ≤ rd l ((i : Int) - 1)
    · rw [if_pos e, decide_eq_true e]; rfl
    · rw [if_neg e, decide_eq_false e, ih (i + 1) k (by omega) (by omega) (by omega)]; rfl
theorem implRope_eq (p : Int) (hp : -32768 ≤ p ∧ p ≤ 32767) (l : List Int) (hl : l.length ≤ 1048576) (k : Nat) (hk : 1048590 < k) : impl_ValidRope.f k p l = some (ropeOk p l) := by
  obtain ⟨k, rfl⟩ : ∃ m, k = m + 1 := ⟨k - 1, by omega⟩
  unfold impl_ValidRope.f ropeOk impl_size_int16.f
  rw [wrap64_id p (by omega) (by omega), within_eq, Option.bind_some, Option.bind_some, within_eq, Option.bind_some]
  simp only [impl_ValidRope.j0, if_true]
  by_cases c1 : 1 ≤ p ∧ p ≤ 400
  · rw [decide_eq_true c1, if_pos rfl]
    by_cases c2 : 2 ≤ l.length ∧ l.length ≤ 40
    · have := implRope_l0 l p c2.1 hl (l.length - 1) 1 k (by omega) (by omega) (by omega)
      rw [show ((1 : Nat) : Int) = 1 from rfl] at this
      rw [decide_eq_true (show 2 ≤ (l.length : Int) ∧ (l.length : Int) ≤ 40 by omega), decide_eq_true c2, if_neg (by decide), this]
      generalize upFrom l (l.length - 1) 1 = u
      generalize decide (rd l 0 = 0) = v
      generalize decide (rd l ((l.length : Int) - 1) = p) = x
      cases u <;> cases v <;> cases x <;> rfl
    · rw [decide_eq_false (show ¬ (2 ≤ (l.length : Int) ∧ (l.length : Int) ≤ 40) by omega), decide_eq_false c2, if_pos (by decide)]; rfl
  · rw [decide_eq_false c1, if_neg (by decide)]; rfl
def dupFrom (l : List S38) (w : Int) : Nat → Nat → Bool
  | 0, _ => false
  | d + 1, j => decide ((rd_T38 l (j : Int)).f0 = w) || dupFrom l w d (j + 1)
def holdAt (l : List S38) (n : Int) (i : Nat) : Bool :=
  decide (0 ≤ (rd_T38 l (i : Int)).f0 ∧ (rd_T38 l (i : Int)).f0 ≤ 999) && (decide (0 ≤ (rd_T38 l (i : Int)).f1 ∧ (rd_T38 l (i : Int)).f1 ≤ n - 1) && (!(decide (0 < i) && decide ((rd_T38 l (i : Int)).f1 ≤ (rd_T38 l ((i : Int) - 1)).f1)) && !dupFrom l (rd_T38 l (i : Int)).f0 i 0))
def holdsFrom (l : List S38) (n : Int) : Nat → Nat → Bool
  | 0, _ => true
  | d + 1, i => holdAt l n i && holdsFrom l n d (i + 1)
def holdR (h : S38) : Prop := (-32768 ≤ h.f0 ∧ h.f0 ≤ 32767) ∧ (-128 ≤ h.f1 ∧ h.f1 ≤ 127)
theorem mem_hold (s : List S38) (i : Nat) (h : i < s.length) : rd_T38 s (i : Int) ∈ s := by
  have h2 : rd_T38 s (i : Int) = s.getD i z38 := by simp [rd_T38]
  rw [h2, List.getD_eq_getElem?_getD, List.getElem?_eq_getElem h]
  exact List.getElem_mem _
theorem drop_hold (l : List S38) (i : Nat) (h : i < l.length) : l.drop i = rd_T38 l (i : Int) :: l.drop (i + 1) := by
  rw [drop_getD z38 l i h]; simp [rd_T38]
theorem specHolds_l1 (l : List S38) (p : Int) (kn : List Int) (hl : l.length ≤ 1048576) (i : Nat) (hi : i < l.length) : ∀ (d j k : Nat), j + d = i → d < k → spec_l03Holds.l1 k l (i : Int) (j : Int) p kn = if dupFrom l (rd_T38 l (i : Int)).f0 d j = true then some false else spec_l03Holds.l0 (k - (d + 1)) l ((i + 1 : Nat) : Int) p kn := by
  intro d
  induction d with
  | zero =>
    intro j k hj hk
    obtain ⟨k, rfl⟩ : ∃ m, k = m + 1 := ⟨k - 1, by omega⟩
    simp only [spec_l03Holds.l1]
    rw [if_neg (by omega), wrap_nat i (by omega), if_neg (by simp [dupFrom])]
    simp
  | succ d ih =>
    intro j k hj hk
    obtain ⟨k, rfl⟩ : ∃ m, k = m + 1 := ⟨k - 1, by omega⟩
    simp only [spec_l03Holds.l1]
    rw [if_pos (by omega), if_pos (by omega), if_pos (by omega), if_pos (by omega), if_pos (by omega), wrap_nat j (by omega)]
    unfold dupFrom
    by_cases e : (rd_T38 l (j : Int)).f0 = (rd_T38 l (i : Int)).f0
    · rw [if_pos e, decide_eq_true e]; simp
    · rw [if_neg e, decide_eq_false e, ih (j + 1) k (by omega) (by omega), Bool.false_or, show k + 1 - (d + 1 + 1) = k - (d + 1) by omega]
theorem specHolds_l0 (l : List S38) (p : Int) (kn : List Int) (hl : l.length ≤ 1048576) (hkn : kn.length ≤ 1048576) (hr : ∀ h ∈ l, holdR h) : ∀ (d i k : Nat), i + d = l.length → d * 1048600 < k → spec_l03Holds.l0 k l (i : Int) p kn = some (holdsFrom l (kn.length : Int) d i) := by
  intro d
  induction d with
  | zero =>
    intro i k hi hk
    obtain ⟨k, rfl⟩ : ∃ m, k = m + 1 := ⟨k - 1, by omega⟩
    simp only [spec_l03Holds.l0]
    rw [if_neg (by omega)]
    rfl
  | succ d ih =>
    intro i k hi hk
    obtain ⟨D, hD⟩ : ∃ D, D = d * 1048600 := ⟨_, rfl⟩
    rw [Nat.succ_mul, ← hD] at hk
    obtain ⟨k, rfl⟩ : ∃ m, k = m + 4 := ⟨k - 4, by omega⟩
    have hh := hr _ (mem_hold l i (by omega))
    obtain ⟨⟨a1, a2⟩, b1, b2⟩ := hh
    simp only [spec_l03Holds.l0]
    rw [if_pos (by omega), if_pos (by omega), wrap64_id _ (by omega) (by omega), wrap64_id ((rd_T38 l (i : Int)).f1) (by omega) (by omega), wrap64_id ((kn.length : Int) - 1) (by omega) (by omega), in_eq, Option.bind_some]
    unfold holdsFrom holdAt
    have ih' := fun q (hq : D < q) => ih (i + 1) q (by omega) (by rw [← hD]; exact hq)
    have l1 := specHolds_l1 l p kn hl i (by omega) i 0 (k + 1) (by omega) (by omega)
    have hq := ih' (k - i) (by omega)
    rw [show ((0 : Nat) : Int) = 0 from rfl, Nat.add_sub_add_right] at l1
    simp only [hq] at l1
    by_cases c1 : 0 ≤ (rd_T38 l (i : Int)).f0 ∧ (rd_T38 l (i : Int)).f0 ≤ 999
    · rw [decide_eq_true c1, if_pos rfl, in_eq, Option.bind_some]
      by_cases c2 : 0 ≤ (rd_T38 l (i : Int)).f1 ∧ (rd_T38 l (i : Int)).f1 ≤ (kn.length : Int) - 1
      · rw [decide_eq_true c2]
        simp only [spec_l03Holds.j1]
        rw [if_neg (by decide)]
        by_cases c3 : 0 < i
        · rw [if_pos (by omega), if_pos (by omega), if_pos (by omega), wrap64_id ((i : Int) - 1) (by omega) (by omega), if_pos (by omega), if_pos (by omega), decide_eq_true c3]
          simp only [spec_l03Holds.j2]
          by_cases c4 : (rd_T38 l (i : Int)).f1 ≤ (rd_T38 l ((i : Int) - 1)).f1
          · rw [decide_eq_true c4, if_pos rfl]; rfl
          · rw [decide_eq_false c4, if_neg (by decide), l1]
            by_cases c5 : dupFrom l (rd_T38 l (i : Int)).f0 i 0 = true
            · rw [if_pos c5, c5]; rfl
            · rw [if_neg c5, Bool.eq_false_iff.mpr c5]; rfl
        · rw [if_neg (by omega), decide_eq_false c3]
          simp only [spec_l03Holds.j2]
          rw [if_neg (by decide), l1]
          by_cases c5 : dupFrom l (rd_T38 l (i : Int)).f0 i 0 = true
          · rw [if_pos c5, c5]; rfl
          · rw [if_neg c5, Bool.eq_false_iff.mpr c5]; rfl
      · rw [decide_eq_false c2]
        simp only [spec_l03Holds.j1]
        rw [if_pos (by decide)]; rfl
    · rw [decide_eq_false c1, if_neg (by decide)]
      simp only [spec_l03Holds.j1]
      rw [if_pos (by decide)]; rfl
def holdsOk (p : Int) (kn : List Int) (l : List S38) : Bool := ropeOk p kn && holdsFrom l (kn.length : Int) l.length 0
theorem specHolds_eq (p : Int) (hp : -32768 ≤ p ∧ p ≤ 32767) (kn : List Int) (l : List S38) (hl : l.length ≤ 1048576) (hkn : kn.length ≤ 1048576) (hr : ∀ h ∈ l, holdR h) (k : Nat) (hk : 1100000000000 < k) : spec_l03Holds.f k p kn l = some (holdsOk p kn l) := by
  unfold spec_l03Holds.f holdsOk
  rw [specRope_eq p hp kn hkn k (by omega), Option.bind_some]
  by_cases c : ropeOk p kn = true
  · have := specHolds_l0 l p kn hl hkn hr l.length 0 k (by omega) (by omega)
    rw [show ((0 : Nat) : Int) = 0 from rfl] at this
    rw [if_pos c, c, this]; rfl
  · rw [if_neg c, Bool.eq_false_iff.mpr c]; rfl
theorem rd_take_hold (l : List S38) (i j : Nat) (h : j < i) : rd_T38 (l.take i) (j : Int) = rd_T38 l (j : Int) := by
  simp [rd_T38, List.getD_eq_getElem?_getD, List.getElem?_take, h]
theorem implDup_l0 (l : List S38) (hl : l.length ≤ 1048576) (i : Nat) (hi : i ≤ l.length) (w v : Int) : ∀ (d j k : Nat), j + d = i → d < k → ∃ r : Int, slices_IndexFunc_Hold_at_ValidHolds_1.l0 k (l.take i) (i : Int) (j : Int) w v = some r ∧ decide (r ≥ 0) = dupFrom l w d j := by
  intro d
  induction d with
  | zero =>
    intro j k hj hk
    obtain ⟨k, rfl⟩ : ∃ m, k = m + 1 := ⟨k - 1, by omega⟩
    simp only [slices_IndexFunc_Hold_at_ValidHolds_1.l0]
    rw [if_neg (by omega)]
    exact ⟨-1, rfl, rfl⟩
  | succ d ih =>
    intro j k hj hk
    obtain ⟨k, rfl⟩ : ∃ m, k = m + 1 := ⟨k - 1, by omega⟩
    have hlen : ((l.take i).length : Int) = i := by rw [List.length_take]; omega
    simp only [slices_IndexFunc_Hold_at_ValidHolds_1.l0, impl_ValidHolds_1.f, Option.bind_some]
    rw [if_pos (by omega), if_pos (by omega), if_pos (by omega), rd_take_hold l i j (by omega), wrap_nat j (by omega)]
    unfold dupFrom
    by_cases e : (rd_T38 l (j : Int)).f0 = w
    · refine ⟨(j : Int), by rw [if_pos (by simp [e])], ?_⟩
      rw [decide_eq_true e]; simp
    · obtain ⟨r, h1, h2⟩ := ih (j + 1) k (by omega) (by omega)
      refine ⟨r, by rw [if_neg (by simp [e]), h1], ?_⟩
      rw [decide_eq_false e, h2]; rfl
theorem implDup_eq (l : List S38) (hl : l.length ≤ 1048576) (i : Nat) (hi : i ≤ l.length) (w v : Int) (k : Nat) (hk : 1048580 < k) : slices_ContainsFunc_Hold_at_ValidHolds_1.f k (l.take i) w v = some (dupFrom l w i 0) := by
  unfold slices_ContainsFunc_Hold_at_ValidHolds_1.f slices_IndexFunc_Hold_at_ValidHolds_1.f
  obtain ⟨r, h1, h2⟩ := implDup_l0 l hl i hi w v i 0 k (by omega) (by omega)
  rw [show ((l.take i).length : Int) = i by rw [List.length_take]; omega]
  rw [show ((0 : Nat) : Int) = 0 from rfl] at h1
  rw [h1, Option.bind_some, h2]
theorem implHolds_l0 (l : List S38) (p : Int) (hp : -32768 ≤ p ∧ p ≤ 32767) (kn : List Int) (hl : l.length ≤ 1048576) (hkn : kn.length ≤ 1048576) (hr : ∀ h ∈ l, holdR h) : ∀ (d i k : Nat), i + d = l.length → d + 1048600 < k → impl_ValidHolds.l0 k l l (l.length : Int) (i : Int) p kn = some (holdsFrom l (kn.length : Int) d i && ropeOk p kn) := by
  intro d
  induction d with
  | zero =>
    intro i k hi hk
    obtain ⟨k, rfl⟩ : ∃ m, k = m + 1 := ⟨k - 1, by omega⟩
    simp only [impl_ValidHolds.l0]
    rw [if_neg (by omega), implRope_eq p hp kn hkn k (by omega), Option.bind_some]
    rfl
  | succ d ih =>
    intro i k hi hk
    obtain ⟨k, rfl⟩ : ∃ m, k = m + 1 := ⟨k - 1, by omega⟩
    have hh := hr _ (mem_hold l i (by omega))
    obtain ⟨⟨a1, a2⟩, b1, b2⟩ := hh
    simp only [impl_ValidHolds.l0, impl_Rope_isHold.f, impl_size_int16.f]
    rw [if_pos (by omega), if_pos (by omega), if_pos (by omega), wrap64_id _ (by omega) (by omega), wrap64_id ((rd_T38 l (i : Int)).f1) (by omega) (by omega), wrap64_id ((i : Int) - 1) (by omega) (by omega), within_eq, Option.bind_some, Option.bind_some, wrap64_id ((kn.length : Int) - 1) (by omega) (by omega), wrap_nat i (by omega), Int.toNat_natCast, within_eq, Option.bind_some]
    have ih' := ih (i + 1) k (by omega) (by omega)
    have hd := implDup_eq l hl i (by omega) (rd_T38 l (i : Int)).f0 (rd_T38 l (i : Int)).f1 k (by omega)
    unfold holdsFrom holdAt
    by_cases c1 : 0 ≤ (rd_T38 l (i : Int)).f0 ∧ (rd_T38 l (i : Int)).f0 ≤ 999
    · rw [decide_eq_true c1, if_pos rfl, Option.bind_some]
      by_cases c2 : 0 ≤ (rd_T38 l (i : Int)).f1 ∧ (rd_T38 l (i : Int)).f1 ≤ (kn.length : Int) - 1
      · rw [decide_eq_true c2, if_pos rfl]
        by_cases c3 : 0 < i
        · rw [if_pos (by omega), if_pos (by omega), if_pos (by omega), decide_eq_true c3]
          by_cases c4 : (rd_T38 l (i : Int)).f1 ≤ (rd_T38 l ((i : Int) - 1)).f1
          · rw [if_pos c4, decide_eq_true c4]; rfl
          · rw [if_neg c4, if_pos (by omega), hd, Option.bind_some, decide_eq_false c4]
            by_cases c5 : dupFrom l (rd_T38 l (i : Int)).f0 i 0 = true
            · rw [if_pos c5, c5]; rfl
            · rw [if_neg c5, Bool.eq_false_iff.mpr c5, ih']; rfl
        · rw [if_neg (by omega), if_pos (by omega), hd, Option.bind_some, decide_eq_false c3]
          by_cases c5 : dupFrom l (rd_T38 l (i : Int)).f0 i 0 = true
          · rw [if_pos c5, c5]; rfl
          · rw [if_neg c5, Bool.eq_false_iff.mpr c5, ih']; rfl
      · rw [decide_eq_false c2, if_neg (by decide)]; rfl
    · rw [decide_eq_false c1, if_neg (by decide), Option.bind_some, if_neg (by decide)]; rfl
theorem implHolds_eq (p : Int) (hp : -32768 ≤ p ∧ p ≤ 32767) (kn : List Int) (l : List S38) (hl : l.length ≤ 1048576) (hkn : kn.length ≤ 1048576) (hr : ∀ h ∈ l, holdR h) (k : Nat) (hk : 3000000 < k) : impl_ValidHolds.f k p kn l = some (holdsOk p kn l) := by
  unfold impl_ValidHolds.f holdsOk
  have := implHolds_l0 l p hp kn hl hkn hr l.length 0 k (by omega) (by omega)
  rw [show ((0 : Nat) : Int) = 0 from rfl] at this
  rw [this, Bool.and_comm]
theorem holdsFrom_who (l : List S38) (n : Int) : ∀ (d i : Nat), i + d = l.length → holdsFrom l n d i = true → ∀ h ∈ l.drop i, 0 ≤ h.f0 ∧ h.f0 ≤ 999 := by
  intro d
  induction d with
  | zero =>
    intro i hi _ h hh
    rw [List.drop_eq_nil_of_le (by omega)] at hh
    exact absurd hh (by simp)
  | succ d ih =>
    intro i hi he h hh
    unfold holdsFrom at he
    rw [Bool.and_eq_true] at he
    rw [drop_hold l i (by omega)] at hh
    rcases List.mem_cons.1 hh with rfl | hh
    · have := he.1
      unfold holdAt at this
      rw [Bool.and_eq_true, decide_eq_true_eq] at this
      exact this.1
    · exact ih (i + 1) (by omega) he.2 h hh
theorem holdsOk_who (p : Int) (kn : List Int) (l : List S38) (h : holdsOk p kn l = true) : ∀ x ∈ l, 0 ≤ x.f0 ∧ x.f0 ≤ 999 := by
  unfold holdsOk at h
  rw [Bool.and_eq_true] at h
  have := holdsFrom_who l (kn.length : Int) l.length 0 (by omega) h.2
  rwa [List.drop_zero] at this

def cntF : List S38 → Int → Int → List S50
  | [], _, _ => []
  | h :: r, n, c => ⟨n + 1, (7 * c + h.f0 + 1) % 97⟩ :: cntF r (n + 1) ((7 * c + h.f0 + 1) % 97)
theorem cntF_length : ∀ (l : List S38) (n c : Int), (cntF l n c).length = l.length
  | [], _, _ => rfl
  | h :: r, n, c => by simp [cntF, cntF_length r]
theorem specNext_eq (n c w : Int) (hn : 0 ≤ n ∧ n ≤ 4194304) (hc : 0 ≤ c ∧ c ≤ 96) (hw : 0 ≤ w ∧ w ≤ 999) : spec_l03Next.f n c w = some (n + 1, (7 * c + w + 1) % 97) := by
  unfold spec_l03Next.f
  rw [wrap64_id (n + 1) (by omega) (by omega), wrap64_id (7 * c) (by omega) (by omega), wrap64_id w (by omega) (by omega), wrap64_id (7 * c + w) (by omega) (by omega), wrap64_id (7 * c + w + 1) (by omega) (by omega), Int.tmod_eq_emod_of_nonneg (by omega)]
theorem implNext_eq (n c w v : Int) (hn : 0 ≤ n ∧ n ≤ 4194304) (hc : 0 ≤ c ∧ c ≤ 96) (hw : 0 ≤ w ∧ w ≤ 999) : impl_Said_follows.f n c w v = some (n + 1, (7 * c + w + 1) % 97) := by
  unfold impl_Said_follows.f
  have e0 : Int.tmod c 97 = c := by rw [Int.tmod_eq_emod_of_nonneg (by omega)]; omega
  rw [e0, wrap64_id (n + 1) (by omega) (by omega), wrap64_id (7 * c) (by omega) (by omega), wrap64_id w (by omega) (by omega), wrap64_id (7 * c + w) (by omega) (by omega), wrap64_id (7 * c + w + 1) (by omega) (by omega), Int.tmod_eq_emod_of_nonneg (a := 7 * c + w + 1) (by omega), wrap64_id ((7 * c + w + 1) % 97 + 97) (by omega) (by omega), Int.tmod_eq_emod_of_nonneg (by omega)]
  congr 2
  omega
theorem specCount_l0 (l : List S38) (hl : l.length ≤ 1048576) (hw : ∀ h ∈ l, 0 ≤ h.f0 ∧ h.f0 ≤ 999) : ∀ (d i k : Nat) (xs : List S50) (n c : Int), i + d = l.length → d < k → xs.length ≤ i → 0 ≤ n ∧ n ≤ (i : Int) → 0 ≤ c ∧ c ≤ 96 → spec_l03Count.l0 k l xs (i : Int) n c = some (xs ++ cntF (l.drop i) n c) := by
  intro d
  induction d with
  | zero =>
    intro i k xs n c hi hk hx hn hc
    obtain ⟨k, rfl⟩ : ∃ m, k = m + 1 := ⟨k - 1, by omega⟩
    simp only [spec_l03Count.l0]
    rw [if_neg (by omega), List.drop_eq_nil_of_le (by omega)]
    simp [cntF]
  | succ d ih =>
    intro i k xs n c hi hk hx hn hc
    obtain ⟨k, rfl⟩ : ∃ m, k = m + 1 := ⟨k - 1, by omega⟩
    simp only [spec_l03Count.l0]
    rw [if_pos (by omega), if_pos (by omega), specNext_eq n c _ (by omega) hc (hw _ (mem_hold l i (by omega)))]
    simp only [Option.bind_some]
    rw [if_pos (by omega), wrap_nat i (by omega), ih (i + 1) k _ _ _ (by omega) (by omega) (by simp; omega) (by omega) (by omega), drop_hold l i (by omega)]
    simp [cntF]
theorem specCount_eq (l : List S38) (hl : l.length ≤ 1048576) (hw : ∀ h ∈ l, 0 ≤ h.f0 ∧ h.f0 ≤ 999) (k : Nat) (hk : l.length < k) : spec_l03Count.f k l = some (cntF l 0 0) := by
  unfold spec_l03Count.f
  have := specCount_l0 l hl hw l.length 0 k [] 0 0 (by omega) hk (by simp) (by decide) (by decide)
  rw [show ((0 : Nat) : Int) = 0 from rfl, List.drop_zero] at this
  exact this
theorem implCount_l0 (l : List S38) (hl : l.length ≤ 1048576) (hw : ∀ h ∈ l, 0 ≤ h.f0 ∧ h.f0 ≤ 999) : ∀ (d i k : Nat) (xs : List S50) (n c : Int), i + d = l.length → d < k → xs.length ≤ i → 0 ≤ n ∧ n ≤ (i : Int) → 0 ≤ c ∧ c ≤ 96 → impl_count.l0 k xs l (l.length : Int) (i : Int) n c = some (xs ++ cntF (l.drop i) n c) := by
  intro d
  induction d with
  | zero =>
    intro i k xs n c hi hk hx hn hc
    obtain ⟨k, rfl⟩ : ∃ m, k = m + 1 := ⟨k - 1, by omega⟩
    simp only [impl_count.l0]
    rw [if_neg (by omega), List.drop_eq_nil_of_le (by omega)]
    simp [cntF]
  | succ d ih =>
    intro i k xs n c hi hk hx hn hc
    obtain ⟨k, rfl⟩ : ∃ m, k = m + 1 := ⟨k - 1, by omega⟩
    simp only [impl_count.l0]
    rw [if_pos (by omega), if_pos (by omega), if_pos (by omega), implNext_eq n c _ _ (by omega) hc (hw _ (mem_hold l i (by omega)))]
    simp only [Option.bind_some]
    rw [if_pos (by omega), wrap_nat i (by omega), ih (i + 1) k _ _ _ (by omega) (by omega) (by simp; omega) (by omega) (by omega), drop_hold l i (by omega)]
    simp [cntF]
theorem implCount_eq (l : List S38) (hl : l.length ≤ 1048576) (hw : ∀ h ∈ l, 0 ≤ h.f0 ∧ h.f0 ≤ 999) (k : Nat) (hk : l.length < k) : impl_count.f k l = some (cntF l 0 0) := by
  unfold impl_count.f
  have := implCount_l0 l hl hw l.length 0 k [] 0 0 (by omega) hk (by simp) (by decide) (by decide)
  rw [show ((0 : Nat) : Int) = 0 from rfl, List.drop_zero] at this
  exact this
def lastQ (t : List S50) (a b : Int) : Bool := if t.length = 0 then false else (rd_T50 t ((t.length : Int) - 1)).f0 == a && ((rd_T50 t ((t.length : Int) - 1)).f1 == b)
theorem specLast_eq (l : List S38) (hl : l.length ≤ 1048576) (hw : ∀ h ∈ l, 0 ≤ h.f0 ∧ h.f0 ≤ 999) (a b : Int) (k : Nat) (hk : l.length < k) : spec_l03Last.f k l a b = some (lastQ (cntF l 0 0) a b) := by
  unfold spec_l03Last.f lastQ
  have hc := cntF_length l 0 0
  rw [specCount_eq l hl hw k hk, Option.bind_some, wrap64_id _ (by omega) (by omega)]
  by_cases h : (cntF l 0 0).length = 0
  · rw [if_neg (by omega), if_pos h]
  · rw [if_pos (by omega), if_neg h, if_pos (by omega), if_pos (by omega)]
theorem implEnds_eq (l : List S38) (hl : l.length ≤ 1048576) (hw : ∀ h ∈ l, 0 ≤ h.f0 ∧ h.f0 ≤ 999) (a b : Int) (k : Nat) (hk : l.length < k) : impl_endsWith.f k l a b = some (lastQ (cntF l 0 0) a b) := by
  unfold impl_endsWith.f lastQ
  have hc := cntF_length l 0 0
  rw [implCount_eq l hl hw k hk, Option.bind_some, wrap64_id _ (by omega) (by omega)]
  by_cases h : (cntF l 0 0).length = 0
  · rw [if_neg (by omega), if_pos h]
  · rw [if_pos (by omega), if_neg h, if_pos (by omega), if_pos (by omega)]

theorem rd_hold_get (l : List S38) (i : Nat) (h : i < l.length) : rd_T38 l (i : Int) = l[i] := by
  have h2 : rd_T38 l (i : Int) = l.getD i z38 := by simp [rd_T38]
  rw [h2, List.getD_eq_getElem?_getD, List.getElem?_eq_getElem h, Option.getD_some]
theorem holdAt_of (l : List S38) (n : Int) : ∀ (d i0 : Nat), holdsFrom l n d i0 = true → ∀ i, i0 ≤ i → i < i0 + d → holdAt l n i = true := by
  intro d
  induction d with
  | zero => intro i0 _ i h1 h2; omega
  | succ d ih =>
    intro i0 h i h1 h2
    unfold holdsFrom at h
    rw [Bool.and_eq_true] at h
    by_cases e : i = i0
    · subst e; exact h.1
    · exact ih (i0 + 1) h.2 i (by omega) (by omega)
theorem hold_rng (l : List S38) (n : Int) (h : holdsFrom l n l.length 0 = true) (i : Nat) (hi : i < l.length) : (0 ≤ (rd_T38 l (i : Int)).f1 ∧ (rd_T38 l (i : Int)).f1 ≤ n - 1) ∧ (0 < i → (rd_T38 l ((i : Int) - 1)).f1 < (rd_T38 l (i : Int)).f1) := by
  have := holdAt_of l n l.length 0 h i (Nat.zero_le _) (by omega)
  unfold holdAt at this
  rw [Bool.and_eq_true, Bool.and_eq_true, Bool.and_eq_true, decide_eq_true_iff, decide_eq_true_iff] at this
  obtain ⟨_, h2, h3, _⟩ := this
  refine ⟨h2, fun h0 => ?_⟩
  rw [decide_eq_true h0, Bool.true_and, Bool.not_eq_true', decide_eq_false_iff_not] at h3
  omega
theorem hold_lt (l : List S38) (n : Int) (h : holdsFrom l n l.length 0 = true) : ∀ (j : Nat), j < l.length → ∀ i, i < j → (rd_T38 l (i : Int)).f1 < (rd_T38 l (j : Int)).f1 := by
  intro j
  induction j with
  | zero => intro _ i h1; omega
  | succ j ih =>
    intro hj i hi
    have h1 := (hold_rng l n h (j + 1) hj).2 (by omega)
    rw [show (((j + 1 : Nat) : Int) - 1) = (j : Int) by omega] at h1
    by_cases e : i = j
    · subst e; exact h1
    · have := ih (by omega) i (by omega); omega
theorem hold_ge (l : List S38) (n : Int) (h : holdsFrom l n l.length 0 = true) : ∀ (j : Nat), j < l.length → (j : Int) ≤ (rd_T38 l (j : Int)).f1 := by
  intro j
  induction j with
  | zero => intro hj; have := (hold_rng l n h 0 hj).1.1; omega
  | succ j ih =>
    intro hj
    have h1 := (hold_rng l n h (j + 1) hj).2 (by omega)
    rw [show (((j + 1 : Nat) : Int) - 1) = (j : Int) by omega] at h1
    have := ih (by omega)
    omega
theorem holdsOk_facts (p : Int) (kn : List Int) (l : List S38) (h : holdsOk p kn l = true) : ropeOk p kn = true ∧ (kn.length ≤ 40) ∧ l.length ≤ 40 ∧ (∀ x ∈ l, 0 ≤ x.f1 ∧ x.f1 < 128) ∧ l.Pairwise (fun a b => a.f1 < b.f1) := by
  unfold holdsOk at h
  rw [Bool.and_eq_true] at h
  obtain ⟨h1, h2⟩ := h
  have h3 := h1
  unfold ropeOk at h3
  rw [Bool.and_eq_true, Bool.and_eq_true, decide_eq_true_iff, decide_eq_true_iff] at h3
  have hk := h3.2.1.2
  refine ⟨h1, hk, ?_, fun x hx => ?_, ?_⟩
  · by_cases e : l.length = 0
    · omega
    · have a := hold_ge l _ h2 (l.length - 1) (by omega)
      have b := (hold_rng l _ h2 (l.length - 1) (by omega)).1.2
      omega
  · obtain ⟨i, hi, rfl⟩ := List.getElem_of_mem hx
    have := (hold_rng l _ h2 i hi).1
    rw [rd_hold_get l i hi] at this
    omega
  · rw [List.pairwise_iff_getElem]
    intro i j hi hj hij
    have := hold_lt l _ h2 j hj i hij
    rwa [rd_hold_get l i hi, rd_hold_get l j hj] at this

theorem toInt16S_l0 (l : List Int) (hl : l.length ≤ 1048576) : ∀ (d i k : Nat), i + d = l.length → d < k → laws_toInt16S.l0 k l ((l.map id).take i ++ List.replicate d 0) (i : Int) = some (l.map id) := by
  intro d
  induction d with
  | zero =>
    intro i k hi hk
    obtain ⟨k, rfl⟩ : ∃ m, k = m + 1 := ⟨k - 1, by omega⟩
    simp only [laws_toInt16S.l0]
    rw [if_neg (by omega), List.take_of_length_le (by simp; omega)]
    simp
  | succ d ih =>
    intro i k hi hk
    obtain ⟨k, rfl⟩ : ∃ m, k = m + 1 := ⟨k - 1, by omega⟩
    have hlen : (((l.map id).take i ++ List.replicate (d + 1) 0).length : Int) = l.length := by simp; omega
    have hg : (l.map id).getD i 0 = id (rd l (i : Int)) := by
      simp [rd, List.getD_eq_getElem?_getD, List.getElem?_map, List.getElem?_eq_getElem (show i < l.length by omega)]
    have hstep := set_rep ((l.map id).take i) i d 0 (id (rd l (i : Int))) (by simp; omega)
    rw [← hg, ← take_getD 0 (l.map id) i (by simp; omega), hg] at hstep
    simp only [laws_toInt16S.l0]
    rw [if_pos (by omega), if_pos (by omega), if_pos (by rw [hlen]; omega), wrap_nat i (by omega), Int.toNat_natCast]
    exact (congrArg (fun o => laws_toInt16S.l0 k l o ((i + 1 : Nat) : Int)) hstep).trans (ih (i + 1) k (by omega) (by omega))
theorem toInt16S_eq (l : List Int) (hl : l.length ≤ 1048576) (k : Nat) (hk : l.length < k) : laws_toInt16S.f k l = some l := by
  unfold laws_toInt16S.f
  rw [if_pos (by omega), if_pos (by omega)]
  have := toInt16S_l0 l hl l.length 0 k (by omega) hk
  simpa using this

theorem eqInt16S_l0 (a b : List Int) (hab : a.length = b.length) (hl : a.length ≤ 1048576) : ∀ (d i k : Nat), i + d = a.length → d < k → laws_eqInt16S.l0 k a b (i : Int) = some (decide (a.drop i = b.drop i)) := by
  intro d
  induction d with
  | zero =>
    intro i k hi hk
    obtain ⟨k, rfl⟩ : ∃ m, k = m + 1 := ⟨k - 1, by omega⟩
    simp only [laws_eqInt16S.l0]
    rw [if_neg (by omega), List.drop_eq_nil_of_le (by omega), List.drop_eq_nil_of_le (by omega)]
    simp
  | succ d ih =>
    intro i k hi hk
    obtain ⟨k, rfl⟩ : ∃ m, k = m + 1 := ⟨k - 1, by omega⟩
    have ha : a.drop i = rd a (i : Int) :: a.drop (i + 1) := by
      rw [drop_getD 0 a i (by omega)]; simp [rd]
    have hb : b.drop i = rd b (i : Int) :: b.drop (i + 1) := by
      rw [drop_getD 0 b i (by omega)]; simp [rd]
    simp only [laws_eqInt16S.l0]
    rw [if_pos (by omega), if_pos (by omega), if_pos (by omega), ha, hb]
    by_cases e : rd a (i : Int) = rd b (i : Int)
    · rw [if_pos e, wrap_nat i (by omega), ih (i + 1) k (by omega) (by omega)]
      simp [e]
    · rw [if_neg e]
      simp [e]
theorem eqInt16S_eq (a b : List Int) (hl : a.length ≤ 1048576) (k : Nat) (hk : a.length < k) : laws_eqInt16S.f k a b = some (decide (a = b)) := by
  unfold laws_eqInt16S.f
  by_cases h : a.length = b.length
  · rw [if_pos (by omega)]
    have := eqInt16S_l0 a b h hl a.length 0 k (by omega) hk
    simpa using this
  · rw [if_neg (by omega)]
    have : a ≠ b := fun e => h (by rw [e])
    simp [this]

theorem szInt16S_eq (l : List Int) (a : Int) (h0 : 0 ≤ a) (h1 : a ≤ 1048576) (hl : l.length ≤ 9223372036854775807) : laws_szInt16S.f l a = some (if a < l.length then -1 else a - l.length) := by
  unfold laws_szInt16S.f
  rw [wrap64_id _ (by omega) (by omega)]
  by_cases h : a < (l.length : Int)
  · rw [if_pos (by omega), if_pos h]
  · rw [if_neg (by omega), if_neg h]

def marksI (m : Int) (n : Nat) : List Int := (List.range n).map (fun (j : Nat) => IntKind.i16.wrap (m + (j : Int)))
theorem marksI_length (m : Int) (n : Nat) : (marksI m n).length = n := by simp [marksI]
theorem markInt16S_l0 (m : Int) (h0 : 0 ≤ m) (h1 : m ≤ 4194304) (g : List Int) (hl : g.length ≤ 1048576) : ∀ (d i k : Nat), i + d = g.length → d < k → laws_markInt16S.l0 k ((marksI m g.length).take i ++ g.drop i) (m + (i : Int)) (i : Int) = some (m + (g.length : Int), marksI m g.length) := by
  intro d
  induction d with
  | zero =>
    intro i k hi hk
    obtain ⟨k, rfl⟩ : ∃ m, k = m + 1 := ⟨k - 1, by omega⟩
    obtain rfl : i = g.length := by omega
    simp only [laws_markInt16S.l0]
    rw [List.drop_eq_nil_of_le (Nat.le_refl _), List.take_of_length_le (by rw [marksI_length]; omega), List.append_nil, if_neg (by rw [marksI_length]; omega)]
  | succ d ih =>
    intro i k hi hk
    obtain ⟨k, rfl⟩ : ∃ m, k = m + 1 := ⟨k - 1, by omega⟩
    have hlen : (((marksI m g.length).take i ++ g.drop i).length : Int) = g.length := by simp [marksI_length]; omega
    have hstep := set_drop ((marksI m g.length).take i) g i (IntKind.i16.wrap (m + (i : Int))) (by simp [marksI_length]; omega) (by omega)
    have hg : (marksI m g.length).getD i 0 = IntKind.i16.wrap (m + (i : Int)) := getD_range_map 0 _ _ _ (by omega)
    rw [← hg, ← take_getD 0 (marksI m g.length) i (by rw [marksI_length]; omega), hg] at hstep
    simp only [laws_markInt16S.l0]
    rw [if_pos (by rw [hlen]; omega), if_pos (by omega), wrap_nat i (by omega), Int.toNat_natCast, wrap64_id _ (by omega) (by omega), hstep]
    have := ih (i + 1) k (by omega) (by omega)
    rw [show m + ((i + 1 : Nat) : Int) = m + (i : Int) + 1 by omega] at this
    exact this
theorem markInt16S_eq (m : Int) (h0 : 0 ≤ m) (h1 : m ≤ 4194304) (g : List Int) (hl : g.length ≤ 1048576) (k : Nat) (hk : g.length < k) : laws_markInt16S.f k g m = some (m + (g.length : Int), marksI m g.length) := by
  unfold laws_markInt16S.f
  have := markInt16S_l0 m h0 h1 g hl g.length 0 k (by omega) hk
  simpa using this
theorem toRope_eq (p : Int) (l : List Int) (hl : l.length ≤ 1048576) (k : Nat) (hk : 1048576 < k) : laws_toRope.f k p l = some (p, l) := by
  unfold laws_toRope.f
  rw [toInt16S_eq l hl k (by omega), Option.bind_some]
theorem eqRope_eq (p : Int) (l : List Int) (q : Int) (m : List Int) (hl : l.length ≤ 1048576) (k : Nat) (hk : 1048576 < k) : laws_eqRope.f k p l q m = some (decide (p = q ∧ l = m)) := by
  unfold laws_eqRope.f
  rw [eqInt16S_eq l m hl k (by omega)]
  by_cases h1 : p = q <;> by_cases h2 : l = m <;> simp [h1, h2]
theorem szRope_eq (p : Int) (l : List Int) (a : Int) (h0 : 0 ≤ a) (h1 : a ≤ 1048576) (hl : l.length ≤ 9223372036854775807) : laws_szRope.f p l a = some (if a < (l.length : Int) then -1 else a - l.length) := by
  unfold laws_szRope.f
  rw [szInt16S_eq l a h0 h1 hl, Option.bind_some]
  by_cases h : a < (l.length : Int)
  · rw [if_pos h, if_pos (by decide)]
  · rw [if_neg h, if_neg (by omega)]
theorem markRope_eq (m : Int) (h0 : 0 ≤ m) (h1 : m ≤ 4194304) (p : Int) (l : List Int) (hl : l.length ≤ 1048576) (k : Nat) (hk : l.length < k) : laws_markRope.f k p l m = some (m + (l.length : Int), marksI m l.length) := by
  unfold laws_markRope.f
  rw [markInt16S_eq m h0 h1 l hl k hk]
  simp only [Option.bind_some]

def cvHold (x : S29) : S38 := ⟨x.f0, x.f1⟩
theorem toHoldS_l0 (l : List S29) (hl : l.length ≤ 1048576) : ∀ (d i k : Nat), i + d = l.length → d < k → laws_toHoldS.l0 k l ((l.map cvHold).take i ++ List.replicate d z38) (i : Int) = some (l.map cvHold) := by
  intro d
  induction d with
  | zero =>
    intro i k hi hk
    obtain ⟨k, rfl⟩ : ∃ m, k = m + 1 := ⟨k - 1, by omega⟩
    simp only [laws_toHoldS.l0]
    rw [if_neg (by omega), List.take_of_length_le (by simp; omega)]
    simp
  | succ d ih =>
    intro i k hi hk
    obtain ⟨k, rfl⟩ : ∃ m, k = m + 1 := ⟨k - 1, by omega⟩
    have hlen : (((l.map cvHold).take i ++ List.replicate (d + 1) z38).length : Int) = l.length := by simp; omega
    have hg : (l.map cvHold).getD i z38 = cvHold (rd_T29 l (i : Int)) := by
      simp [rd_T29, List.getD_eq_getElem?_getD, List.getElem?_map, List.getElem?_eq_getElem (show i < l.length by omega)]
    have hstep := set_rep ((l.map cvHold).take i) i d z38 (cvHold (rd_T29 l (i : Int))) (by simp; omega)
    rw [← hg, ← take_getD z38 (l.map cvHold) i (by simp; omega), hg] at hstep
    simp only [laws_toHoldS.l0, laws_toHold.f, Option.bind_some]
    rw [if_pos (by omega), if_pos (by omega), if_pos (by rw [hlen]; omega), wrap_nat i (by omega), Int.toNat_natCast]
    exact (congrArg (fun o => laws_toHoldS.l0 k l o ((i + 1 : Nat) : Int)) hstep).trans (ih (i + 1) k (by omega) (by omega))
theorem toHoldS_eq (l : List S29) (hl : l.length ≤ 1048576) (k : Nat) (hk : l.length < k) : laws_toHoldS.f k l = some (l.map cvHold) := by
  unfold laws_toHoldS.f
  rw [if_pos (by omega), if_pos (by omega)]
  have := toHoldS_l0 l hl l.length 0 k (by omega) hk
  simpa using this

instance decHold : DecidableEq S38 := fun x y =>
  if h : x.f0 = y.f0 ∧ x.f1 = y.f1 then isTrue (by obtain ⟨a, b⟩ := x; obtain ⟨a', b'⟩ := y; simp only at h; rw [h.1, h.2]) else isFalse (fun e => h (by rw [e]; exact ⟨rfl, rfl⟩))
theorem eqHold_eq (x y : S38) : laws_eqHold.f x.f0 x.f1 y.f0 y.f1 = some (decide (x = y)) := by
  obtain ⟨a, b⟩ := x
  obtain ⟨a', b'⟩ := y
  unfold laws_eqHold.f
  by_cases h1 : a = a' <;> by_cases h2 : b = b' <;> simp [h1, h2]
theorem eqHoldS_l0 (a b : List S38) (hab : a.length = b.length) (hl : a.length ≤ 1048576) : ∀ (d i k : Nat), i + d = a.length → d < k → laws_eqHoldS.l0 k a b (i : Int) = some (decide (a.drop i = b.drop i)) := by
  intro d
  induction d with
  | zero =>
    intro i k hi hk
    obtain ⟨k, rfl⟩ : ∃ m, k = m + 1 := ⟨k - 1, by omega⟩
    simp only [laws_eqHoldS.l0]
    rw [if_neg (by omega), List.drop_eq_nil_of_le (by omega), List.drop_eq_nil_of_le (by omega)]
    simp
  | succ d ih =>
    intro i k hi hk
    obtain ⟨k, rfl⟩ : ∃ m, k = m + 1 := ⟨k - 1, by omega⟩
    have ha : a.drop i = rd_T38 a (i : Int) :: a.drop (i + 1) := by
      rw [drop_getD z38 a i (by omega)]; simp [rd_T38]
    have hb : b.drop i = rd_T38 b (i : Int) :: b.drop (i + 1) := by
      rw [drop_getD z38 b i (by omega)]; simp [rd_T38]
    simp only [laws_eqHoldS.l0]
    rw [if_pos (by omega), if_pos (by omega), if_pos (by omega), ha, hb]
    rw [eqHold_eq (rd_T38 a (i : Int)) (rd_T38 b (i : Int))]
    simp only [Option.bind_some]
    by_cases e : rd_T38 a (i : Int) = rd_T38 b (i : Int)
    · rw [decide_eq_true e, if_pos rfl, wrap_nat i (by omega), ih (i + 1) k (by omega) (by omega)]
      simp [e]
    · rw [decide_eq_false e, if_neg (by decide)]
      simp [e]
theorem eqHoldS_eq (a b : List S38) (hl : a.length ≤ 1048576) (k : Nat) (hk : a.length < k) : laws_eqHoldS.f k a b = some (decide (a = b)) := by
  unfold laws_eqHoldS.f
  by_cases h : a.length = b.length
  · rw [if_pos (by omega)]
    have := eqHoldS_l0 a b h hl a.length 0 k (by omega) hk
    simpa using this
  · rw [if_neg (by omega)]
    have : a ≠ b := fun e => h (by rw [e])
    simp [this]

theorem szHoldS_eq (l : List S29) (a : Int) (h0 : 0 ≤ a) (h1 : a ≤ 1048576) (hl : l.length ≤ 9223372036854775807) : laws_szHoldS.f l a = some (if a < l.length then -1 else a - l.length) := by
  unfold laws_szHoldS.f
  rw [wrap64_id _ (by omega) (by omega)]
  by_cases h : a < (l.length : Int)
  · rw [if_pos (by omega), if_pos h]
  · rw [if_neg (by omega), if_neg h]

theorem markHold_pos (m : List S38) (hl : m.length ≤ 1048576) : ∀ (d i k : Nat) (x : List S38) (a : Int), x.length = m.length → i + d = m.length → d < k → 0 ≤ a → a ≤ 4194304 + 3 * (i : Int) → ∃ v, laws_markHoldS.l0 k x a (i : Int) = some v ∧ 0 ≤ v.1 := by
  intro d
  induction d with
  | zero =>
    intro i k x a hx hi hk ha _
    obtain ⟨k, rfl⟩ : ∃ m, k = m + 1 := ⟨k - 1, by omega⟩
    simp only [laws_markHoldS.l0]
    rw [if_neg (by omega)]
    exact ⟨_, rfl, ha⟩
  | succ d ih =>
    intro i k x a hx hi hk ha h3
    obtain ⟨k, rfl⟩ : ∃ m, k = m + 1 := ⟨k - 1, by omega⟩
    simp only [laws_markHoldS.l0, Option.bind_some]
    rw [if_pos (by omega), if_pos (by omega), wrap_nat i (by omega)]
    have w1 : wrap64 (a + 1) = a + 1 := wrap64_id _ (by omega) (by omega)
    have w2 : wrap64 (a + 1 + 1) = a + 1 + 1 := wrap64_id _ (by omega) (by omega)
    rw [w1, w2]
    exact ih (i + 1) k _ _ (by simp [hx]) (by omega) (by omega) (by omega) (by omega)
theorem markHold_eq2 (m : List S38) (hl : m.length ≤ 1048576) (a : Int) (h0 : 0 ≤ a) (h1 : a ≤ 4194304) (k : Nat) (hk : m.length < k) : ∃ v, laws_markHoldS.f k m a = some v ∧ 0 ≤ v.1 := by
  unfold laws_markHoldS.f
  have := markHold_pos m hl m.length 0 k m a rfl (by omega) hk h0 (by omega)
  exact this

theorem eqInt64A2S_l0 (l : List S68) (hl : l.length ≤ 1048576) : ∀ (d i k : Nat), i + d = l.length → d < k → laws_eqInt64A2S.l0 k l l (i : Int) = some true := by
  intro d
  induction d with
  | zero =>
    intro i k hi hk
    obtain ⟨k, rfl⟩ : ∃ m, k = m + 1 := ⟨k - 1, by omega⟩
    simp only [laws_eqInt64A2S.l0]
    rw [if_neg (by omega)]
  | succ d ih =>
    intro i k hi hk
    obtain ⟨k, rfl⟩ : ∃ m, k = m + 1 := ⟨k - 1, by omega⟩
    simp only [laws_eqInt64A2S.l0, laws_eqInt64A2.f]
    rw [if_pos (by omega), if_pos (by omega), if_pos (by omega), wrap_nat i (by omega)]
    simp only [decide_true, Bool.and_self, Option.bind_some, if_true]
    exact ih (i + 1) k (by omega) (by omega)
theorem eqInt64A2S_refl (l : List S68) (hl : l.length ≤ 1048576) (k : Nat) (hk : l.length < k) : laws_eqInt64A2S.f k l l = some true := by
  unfold laws_eqInt64A2S.f
  rw [if_pos rfl]
  exact eqInt64A2S_l0 l hl l.length 0 k (by omega) hk
theorem markInt64A2S_eq (m : Int) (h0 : 0 ≤ m) (h1 : m ≤ 1000000) (l : List S68) (hl : l.length ≤ 1000000) (k : Nat) : laws_markInt64A2S.f k l m = some (m + ((l.length * 2 : Nat) : Int), markP l m) := by
  unfold laws_markInt64A2S.f
  rw [if_pos ⟨hl, h0, h1⟩]
theorem markP_rd : ∀ (l : List S68) (m : Int) (i : Nat), i < l.length → rd_T68 (markP l m) (i : Int) = ⟨m + 2 * (i : Int), m + 2 * (i : Int) + 1⟩ := by
  intro l
  induction l with
  | nil => intro m i h; simp at h
  | cons x t ih =>
    intro m i h
    cases i with
    | zero => simp [rd_T68, markP]
    | succ i =>
      have := ih (m + 2) i (by simpa using h)
      have e : rd_T68 (markP (x :: t) m) ((i + 1 : Nat) : Int) = rd_T68 (markP t (m + 2)) (i : Int) := by
        simp only [rd_T68, Int.toNat_natCast, markP, List.getD_cons_succ]
      rw [e, this]
      congr 1 <;> omega
theorem heldF_run (xs : Nat → Int) : ∀ (d t : Nat) (k : Int), (∀ j, j < d → xs (t + j) = k + (j : Int)) → Go.Proofs.Ytadnngaaobgdgaa.H.heldF xs d t k = k + (d : Int) := by
  intro d
  induction d with
  | zero => intro t k _; simp [Go.Proofs.Ytadnngaaobgdgaa.H.heldF]
  | succ d ih =>
    intro t k h
    simp only [Go.Proofs.Ytadnngaaobgdgaa.H.heldF]
    have h0 := h 0 (by omega)
    rw [Nat.add_zero] at h0
    rw [if_pos (by rw [h0]; simp), ih (t + 1) (k + 1) (fun j hj => by
      have := h (j + 1) (by omega)
      rw [show t + 1 + j = t + (j + 1) by omega, this]; omega)]
    omega
theorem heldInt64A2S_eq (m : Int) (h0 : 0 ≤ m) (h1 : m ≤ 1000000) (l : List S68) (hl : l.length ≤ 1000000) (k : Nat) : laws_heldInt64A2S.f k (markP l m) m = some (m + ((l.length * 2 : Nat) : Int)) := by
  unfold laws_heldInt64A2S.f
  rw [markP_length, if_pos ⟨hl, h0, h1⟩, heldF_run]
  intro j hj
  unfold heldCells
  rw [Nat.zero_add, markP_rd l m (j / 2) (by omega)]
  by_cases e : j % 2 = 0
  · rw [if_pos e]
    show m + 2 * ((j / 2 : Nat) : Int) = m + (j : Int)
    omega
  · rw [if_neg e]
    show m + 2 * ((j / 2 : Nat) : Int) + 1 = m + (j : Int)
    omega

def swapL (l : List S38) (i j : Nat) : List S38 :=
  (l.set i ⟨(rd_T38 l (j : Int)).f0, (rd_T38 l (i : Int)).f1⟩).set j ⟨(rd_T38 l (i : Int)).f0, (rd_T38 (l.set i ⟨(rd_T38 l (j : Int)).f0, (rd_T38 l (i : Int)).f1⟩) (j : Int)).f1⟩
theorem swapL_length (l : List S38) (i j : Nat) : (swapL l i j).length = l.length := by simp [swapL]
theorem swapL_who (l : List S38) (i j : Nat) (hi : i < l.length) (hj : j < l.length) (hw : ∀ h ∈ l, 0 ≤ h.f0 ∧ h.f0 ≤ 999) : ∀ h ∈ swapL l i j, 0 ≤ h.f0 ∧ h.f0 ≤ 999 := by
  intro h hh
  unfold swapL at hh
  rcases List.mem_or_eq_of_mem_set hh with h1 | rfl
  · rcases List.mem_or_eq_of_mem_set h1 with h2 | rfl
    · exact hw h h2
    · have h_ := hw _ (mem_hold l j hj)
      exact h_
  · have h_ := hw _ (mem_hold l i hi)
    exact h_
def swapQ (l : List S38) (a b : Int) (i j : Nat) : Bool := lastQ (cntF (swapL l i j) 0 0) a b
def pairsI (q : Nat → Nat → Bool) (i : Nat) : Nat → Nat → List S68
  | 0, _ => []
  | d + 1, j => (if q i j = true then [⟨(i : Int), (j : Int)⟩] else []) ++ pairsI q i d (j + 1)
def pairsO (q : Nat → Nat → Bool) (n : Nat) : Nat → Nat → List S68
  | 0, _ => []
  | d + 1, i => pairsI q i (n - (i + 1)) (i + 1) ++ pairsO q n d (i + 1)
theorem pairsI_length (q : Nat → Nat → Bool) (i : Nat) : ∀ d j, (pairsI q i d j).length ≤ d
  | 0, _ => by simp [pairsI]
  | d + 1, j => by
    have := pairsI_length q i d (j + 1)
    simp only [pairsI, List.length_append]
    split <;> simp <;> omega
theorem pairsO_length (q : Nat → Nat → Bool) (n : Nat) : ∀ d i, (pairsO q n d i).length ≤ d * n
  | 0, _ => by simp [pairsO]
  | d + 1, i => by
    have h1 := pairsO_length q n d (i + 1)
    have h2 := pairsI_length q i (n - (i + 1)) (i + 1)
    simp only [pairsO, List.length_append, Nat.succ_mul]
    omega
theorem specSw_l1 (l : List S38) (hl : l.length ≤ 1000) (hw : ∀ h ∈ l, 0 ≤ h.f0 ∧ h.f0 ≤ 999) (a b : Int) (i : Nat) (hi : i < l.length) : ∀ (d j k : Nat) (xs : List S68), i < j → j + d = l.length → d + 1048600 < k → xs.length + d ≤ 2000000 → spec_SwappedBy.l1 k l xs (i : Int) (j : Int) a b = spec_SwappedBy.l0 (k - (d + 1)) l (xs ++ pairsI (swapQ l a b) i d j) ((i + 1 : Nat) : Int) a b := by
  intro d
  induction d with
  | zero =>
    intro j k xs hij hj hk hx
    obtain ⟨k, rfl⟩ : ∃ m, k = m + 1 := ⟨k - 1, by omega⟩
    simp only [spec_SwappedBy.l1]
    rw [if_neg (by omega), wrap_nat i (by omega)]
    simp [pairsI]
  | succ d ih =>
    intro j k xs hij hj hk hx
    obtain ⟨k, rfl⟩ : ∃ m, k = m + 1 := ⟨k - 1, by omega⟩
    simp only [spec_SwappedBy.l1]
    rw [if_pos (by omega), Option.bind_some, if_pos (by simp only [List.length_nil]; omega), Option.bind_some, List.nil_append, if_pos (by omega), if_pos (by omega), if_pos (by omega), Option.bind_some, if_pos (by omega), if_pos (by omega), Int.toNat_natCast, Int.toNat_natCast]
    rw [show (l.set i ⟨(rd_T38 l (j : Int)).f0, (rd_T38 l (i : Int)).f1⟩).set j ⟨(rd_T38 l (i : Int)).f0, (rd_T38 (l.set i ⟨(rd_T38 l (j : Int)).f0, (rd_T38 l (i : Int)).f1⟩) (j : Int)).f1⟩ = swapL l i j from rfl]
    rw [specLast_eq _ (by rw [swapL_length]; omega) (swapL_who l i j hi (by omega) hw) a b k (by rw [swapL_length]; omega), Option.bind_some, wrap_nat j (by omega)]
    rw [show lastQ (cntF (swapL l i j) 0 0) a b = swapQ l a b i j from rfl, show k + 1 - (d + 1 + 1) = k - (d + 1) by omega]
    conv => rhs; unfold pairsI
    by_cases e : swapQ l a b i j = true
    · rw [if_pos e, if_pos (by omega), if_pos e, ih (j + 1) k _ (by omega) (by omega) (by omega) (by simp; omega), List.append_assoc]
    · rw [if_neg e, if_neg e, ih (j + 1) k _ (by omega) (by omega) (by omega) (by omega), List.nil_append]
theorem specSw_l0 (l : List S38) (hl : l.length ≤ 1000) (hw : ∀ h ∈ l, 0 ≤ h.f0 ∧ h.f0 ≤ 999) (a b : Int) : ∀ (d i k : Nat) (xs : List S68), i + d = l.length → d * 1100 + 1048700 < k → xs.length + d * l.length ≤ 2000000 → spec_SwappedBy.l0 k l xs (i : Int) a b = some (xs ++ pairsO (swapQ l a b) l.length d i, 0) := by
  intro d
  induction d with
  | zero =>
    intro i k xs hi hk hx
    obtain ⟨k, rfl⟩ : ∃ m, k = m + 1 := ⟨k - 1, by omega⟩
    simp only [spec_SwappedBy.l0]
    rw [if_neg (by omega)]
    simp [pairsO]
  | succ d ih =>
    intro i k xs hi hk hx
    obtain ⟨k, rfl⟩ : ∃ m, k = m + 1 := ⟨k - 1, by omega⟩
    rw [Nat.succ_mul] at hk hx
    obtain ⟨D, hD⟩ : ∃ D, D = d * l.length := ⟨_, rfl⟩
    obtain ⟨E, hE⟩ : ∃ E, E = d * 1100 := ⟨_, rfl⟩
    have ih' := fun k xs (h1 : E + 1048700 < k) (h2 : xs.length + D ≤ 2000000) => ih (i + 1) k xs (by omega) (by rw [← hE]; exact h1) (by rw [← hD]; exact h2)
    rw [← hD] at hx
    rw [← hE] at hk
    clear hE hD ih
    have hp := pairsI_length (swapQ l a b) i (l.length - (i + 1)) (i + 1)
    simp only [spec_SwappedBy.l0]
    have e1 := specSw_l1 l hl hw a b i (by omega) (l.length - (i + 1)) (i + 1) k xs (by omega) (by omega) (by omega) (by omega)
    obtain ⟨m, hm⟩ : ∃ m, m = l.length - (i + 1) + 1 := ⟨_, rfl⟩
    have hm2 : m ≤ 1000 := by omega
    have q1 : E + 1048700 < k - (l.length - (i + 1) + 1) := by rw [← hm]; omega
    have e2 := ih' (k - (l.length - (i + 1) + 1)) (xs ++ pairsI (swapQ l a b) i (l.length - (i + 1)) (i + 1)) q1 (by rw [List.length_append]; omega)
    rw [if_pos (by omega), wrap_nat i (by omega), e1, e2, List.append_assoc]
    rfl
theorem implSw_l1 (l : List S38) (hl : l.length ≤ 1000) (hw : ∀ h ∈ l, 0 ≤ h.f0 ∧ h.f0 ≤ 999) (a b : Int) (i : Nat) (hi : i < l.length) : ∀ (d j k : Nat) (xs : List S68), i < j → j + d = l.length → d + 1048600 < k → xs.length + d ≤ 2000000 → impl_SwappedBy.l1 k l xs (i : Int) (j : Int) (l.length : Int) (i : Int) a b = impl_SwappedBy.l0 (k - (d + 1)) l (xs ++ pairsI (swapQ l a b) i d j) (l.length : Int) ((i + 1 : Nat) : Int) a b := by
  intro d
  induction d with
  | zero =>
    intro j k xs hij hj hk hx
    obtain ⟨k, rfl⟩ : ∃ m, k = m + 1 := ⟨k - 1, by omega⟩
    simp only [impl_SwappedBy.l1]
    rw [if_neg (by omega), wrap_nat i (by omega)]
    simp [pairsI]
  | succ d ih =>
    intro j k xs hij hj hk hx
    obtain ⟨k, rfl⟩ : ∃ m, k = m + 1 := ⟨k - 1, by omega⟩
    simp only [impl_SwappedBy.l1, slices_Clone_Hold.f, Option.bind_some, List.nil_append]
    rw [if_pos (by omega), if_pos (by simp only [List.length_nil]; omega), Option.bind_some, if_pos (by omega), if_pos (by omega), if_pos (by omega), if_pos (by omega), Int.toNat_natCast, Int.toNat_natCast]
    rw [show (l.set i ⟨(rd_T38 l (j : Int)).f0, (rd_T38 l (i : Int)).f1⟩).set j ⟨(rd_T38 l (i : Int)).f0, (rd_T38 (l.set i ⟨(rd_T38 l (j : Int)).f0, (rd_T38 l (i : Int)).f1⟩) (j : Int)).f1⟩ = swapL l i j from rfl]
    rw [implEnds_eq _ (by rw [swapL_length]; omega) (swapL_who l i j hi (by omega) hw) a b k (by rw [swapL_length]; omega), Option.bind_some, wrap_nat j (by omega)]
    rw [show lastQ (cntF (swapL l i j) 0 0) a b = swapQ l a b i j from rfl, show k + 1 - (d + 1 + 1) = k - (d + 1) by omega]
    conv => rhs; unfold pairsI
    by_cases e : swapQ l a b i j = true
    · rw [if_pos e, if_pos (by omega), if_pos e, ih (j + 1) k _ (by omega) (by omega) (by omega) (by simp; omega), List.append_assoc]
    · rw [if_neg e, if_neg e, ih (j + 1) k _ (by omega) (by omega) (by omega) (by omega), List.nil_append]
theorem implSw_l0 (l : List S38) (hl : l.length ≤ 1000) (hw : ∀ h ∈ l, 0 ≤ h.f0 ∧ h.f0 ≤ 999) (a b : Int) : ∀ (d i k : Nat) (xs : List S68), i + d = l.length → d * 1100 + 1048700 < k → xs.length + d * l.length ≤ 2000000 → impl_SwappedBy.l0 k l xs (l.length : Int) (i : Int) a b = some (xs ++ pairsO (swapQ l a b) l.length d i, 0) := by
  intro d
  induction d with
  | zero =>
    intro i k xs hi hk hx
    obtain ⟨k, rfl⟩ : ∃ m, k = m + 1 := ⟨k - 1, by omega⟩
    simp only [impl_SwappedBy.l0]
    rw [if_neg (by omega)]
    simp [pairsO]
  | succ d ih =>
    intro i k xs hi hk hx
    obtain ⟨k, rfl⟩ : ∃ m, k = m + 1 := ⟨k - 1, by omega⟩
    rw [Nat.succ_mul] at hk hx
    obtain ⟨D, hD⟩ : ∃ D, D = d * l.length := ⟨_, rfl⟩
    obtain ⟨E, hE⟩ : ∃ E, E = d * 1100 := ⟨_, rfl⟩
    have ih' := fun k xs (h1 : E + 1048700 < k) (h2 : xs.length + D ≤ 2000000) => ih (i + 1) k xs (by omega) (by rw [← hE]; exact h1) (by rw [← hD]; exact h2)
    rw [← hD] at hx
    rw [← hE] at hk
    clear hE hD ih
    have hp := pairsI_length (swapQ l a b) i (l.length - (i + 1)) (i + 1)
    simp only [impl_SwappedBy.l0]
    have e1 := implSw_l1 l hl hw a b i (by omega) (l.length - (i + 1)) (i + 1) k xs (by omega) (by omega) (by omega) (by omega)
    obtain ⟨m, hm⟩ : ∃ m, m = l.length - (i + 1) + 1 := ⟨_, rfl⟩
    have hm2 : m ≤ 1000 := by omega
    have q1 : E + 1048700 < k - (l.length - (i + 1) + 1) := by rw [← hm]; omega
    have e2 := ih' (k - (l.length - (i + 1) + 1)) (xs ++ pairsI (swapQ l a b) i (l.length - (i + 1)) (i + 1)) q1 (by rw [List.length_append]; omega)
    rw [if_pos (by omega), wrap_nat i (by omega), e1, e2, List.append_assoc]
    rfl
def fin (p : Int) (kn : List Int) (l : List S38) (a b : Int) : List S68 × Int :=
  if holdsOk p kn l = true then (pairsO (swapQ l a b) l.length l.length 0, 0) else ([], 1)
theorem fin_len (p : Int) (kn : List Int) (l : List S38) (a b : Int) : (fin p kn l a b).1.length ≤ 1600 := by
  unfold fin
  by_cases c : holdsOk p kn l = true
  · rw [if_pos c]
    have h := pairsO_length (swapQ l a b) l.length l.length 0
    have h40 := (holdsOk_facts p kn l c).2.2.1
    have := Nat.mul_le_mul h40 h40
    dsimp only
    omega
  · rw [if_neg c]; simp
theorem spec_fin (p : Int) (hp : -32768 ≤ p ∧ p ≤ 32767) (kn : List Int) (l : List S38) (hl : l.length ≤ 1048576) (hkn : kn.length ≤ 1048576) (hr : ∀ h ∈ l, holdR h) (a b : Int) (k : Nat) (hk : 1100000000000 < k) : spec_SwappedBy.f k p kn l a b = some (fin p kn l a b) := by
  unfold spec_SwappedBy.f fin
  rw [Option.bind_some, specHolds_eq p hp kn l hl hkn hr k hk, Option.bind_some]
  by_cases c : holdsOk p kn l = true
  · have h40 := (holdsOk_facts p kn l c).2.2.1
    have hm := Nat.mul_le_mul h40 h40
    have := specSw_l0 l (by omega) (holdsOk_who p kn l c) a b l.length 0 k [] (by omega) (by omega) (by simp only [List.length_nil]; omega)
    rw [show ((0 : Nat) : Int) = 0 from rfl] at this
    rw [if_pos c, if_pos c, this]; rfl
  · rw [if_neg c, if_neg c]
theorem impl_fin (p : Int) (hp : -32768 ≤ p ∧ p ≤ 32767) (kn : List Int) (l : List S38) (hl : l.length ≤ 1048576) (hkn : kn.length ≤ 1048576) (hr : ∀ h ∈ l, holdR h) (a b : Int) (k : Nat) (hk : 3000000 < k) : impl_SwappedBy.f k p kn l a b = some (fin p kn l a b) := by
  unfold impl_SwappedBy.f fin
  rw [implHolds_eq p hp kn l hl hkn hr k hk, Option.bind_some]
  by_cases c : holdsOk p kn l = true
  · have h40 := (holdsOk_facts p kn l c).2.2.1
    have hm := Nat.mul_le_mul h40 h40
    have := implSw_l0 l (by omega) (holdsOk_who p kn l c) a b l.length 0 k [] (by omega) (by omega) (by simp only [List.length_nil]; omega)
    rw [show ((0 : Nat) : Int) = 0 from rfl] at this
    rw [if_pos c, if_pos c, this]; rfl
  · rw [if_neg c, if_neg c]
theorem main : laws_FnExactSwappedBy.Pure := by
  intro p kn l a b hp hkn hl _ _
  refine rounds_of 1200000000000 fun k hk => ?_
  unfold laws_FnExactSwappedBy.f laws_toSaid.f
  rw [szRope_eq p kn 1048576 (by decide) (by decide) hkn.1, Option.bind_some]
  by_cases h : (1048576 : Int) < (kn.length : Int)
  · rw [if_pos h, if_pos (by decide)]
  · rw [if_neg h, if_neg (by omega), szHoldS_eq l _ (by omega) (by omega) hl.1, Option.bind_some]
    by_cases hm : (1048576 : Int) - (kn.length : Int) < (l.length : Int)
    · rw [if_pos hm, if_pos (by decide)]
    · have hq : (l.map cvHold).length ≤ 1048576 := by rw [List.length_map]; omega
      have hr : ∀ h ∈ l.map cvHold, holdR h := by
        intro r hr
        obtain ⟨x, hx, rfl⟩ := List.mem_map.1 hr
        obtain ⟨h1, h2⟩ := hl.2 x hx
        exact ⟨wf_i16 h1, wf_i8 h2⟩
      have hp' := wf_i16 hp
      rw [if_neg hm, if_neg (by omega), toRope_eq p kn (by omega) k (by omega), toHoldS_eq l (by omega) k (by omega)]
      simp only [Option.bind_some]
      generalize hg : l.map cvHold = hs at hq hr
      rw [spec_fin p hp' kn hs hq (by omega) hr a b k (by omega), impl_fin p hp' kn hs hq (by omega) hr a b k (by omega)]
      simp only [Option.bind_some]
      have hfl := fin_len p kn hs a b
      rw [eqInt64A2S_refl _ (by omega) k (by omega)]
      simp only [Option.bind_some, decide_true, if_true]
      obtain ⟨k, rfl⟩ : ∃ m, k = m + 3 := ⟨k - 3, by omega⟩
      obtain ⟨u, hu, hu0⟩ := markHold_eq2 hs hq (1 + (kn.length : Int)) (by omega) (by omega) (k + 2) (by omega)
      simp only [laws_FnExactSwappedBy.j0]
      rw [if_neg (by simp), toRope_eq p kn (by omega) _ (by omega)]
      simp only [Option.bind_some]
      rw [eqRope_eq p kn p kn (by omega) _ (by omega)]
      simp only [Option.bind_some, and_self, decide_true, if_true]
      rw [toHoldS_eq l (by omega) _ (by omega), hg]
      simp only [Option.bind_some]
      rw [eqHoldS_eq hs hs hq _ (by omega)]
      simp only [Option.bind_some, decide_true, if_true]
      rw [markRope_eq 1 (by decide) (by decide) p kn (by omega) _ (by omega)]
      simp only [Option.bind_some]
      rw [hu]
      simp only [Option.bind_some]
      rw [if_neg (by omega), eqInt64A2S_refl _ (by omega) _ (by omega)]
      simp only [Option.bind_some, decide_true, if_true, laws_FnExactSwappedBy.j1]
      rw [if_neg (by simp), markInt64A2S_eq 1 (by decide) (by decide) _ (by omega) _]
      simp only [Option.bind_some]
      rw [heldInt64A2S_eq 1 (by decide) (by decide) _ (by omega) _]
      simp only [Option.bind_some]
      rw [if_neg (by omega), if_pos trivial, toRope_eq p kn (by omega) _ (by omega)]
      simp only [Option.bind_some]
      rw [toHoldS_eq l (by omega) _ (by omega), hg]
      simp only [Option.bind_some, laws_toSaid.f]
      rw [impl_fin p hp' kn hs hq (by omega) hr a b _ (by omega)]
      simp only [Option.bind_some]
      rw [eqInt64A2S_refl _ (by omega) _ (by omega)]
      simp only [Option.bind_some, decide_true, if_true, laws_FnExactSwappedBy.j2]
      rw [if_neg (by simp), heldInt64A2S_eq 1 (by decide) (by decide) _ (by omega) _]
      simp only [Option.bind_some]
      rw [if_neg (by omega), if_pos trivial]

end Go.Proofs.Ytadnngaaobgdgaa.PureFnExactSwappedBy
namespace Go.Proofs.Ytadnngaaobgdgaa.Pure
theorem FnExactSwappedBy : Go.Proofs.Ytadnngaaobgdgaa.P.laws_FnExactSwappedBy.Pure := Go.Proofs.Ytadnngaaobgdgaa.PureFnExactSwappedBy.main
end Go.Proofs.Ytadnngaaobgdgaa.Pure
