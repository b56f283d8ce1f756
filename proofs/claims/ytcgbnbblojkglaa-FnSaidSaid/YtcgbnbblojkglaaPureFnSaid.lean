/- For all two lists of bytes the law FnSaid says true; no condition. -/
import Derived.Test.YtcgbnbblojkglaaP17
import Derived.Laws.BitsLemmas
namespace Go.Proofs.Ytcgbnbblojkglaa.PureFnSaid
open Go.RowKit Go.Proofs.Ytcgbnbblojkglaa.P Go.Proofs.YtcgbnbblojkglaaW.PrintWords Go.Proofs.YtcgbnbblojkglaaW.PrintLast
set_option linter.unusedSimpArgs false
set_option linter.unusedVariables false

theorem wrap64_id (x : Int) (h0 : -9223372036854775808 ≤ x) (h1 : x ≤ 9223372036854775807) : wrap64 x = x := by unfold wrap64; omega
theorem wrap_nat (n : Nat) (h : n < 4611686018427387904) : wrap64 ((n : Int) + 1) = ((n + 1 : Nat) : Int) := by
  rw [wrap64_id _ (by omega) (by omega)]; omega
theorem rd_nat (l : List Int) (i : Nat) : rd l (i : Int) = l.getD i 0 := by simp [rd]
theorem drop_getD {α : Type} (z : α) (l : List α) (i : Nat) (h : i < l.length) : l.drop i = l.getD i z :: l.drop (i + 1) := by
  rw [List.drop_eq_getElem_cons h, List.getD_eq_getElem?_getD, List.getElem?_eq_getElem h]; rfl
theorem rounds_of (B : Nat) {α : Type} {F : Nat → Option α} {v : α} (h : ∀ k, B ≤ k → F k = some v) : ∃ k, F k = some v := ⟨B, h B (Nat.le_refl _)⟩

theorem wrap_u64 (n : Int) : IntKind.u64.wrap n = n % 18446744073709551616 := by simp [IntKind.wrap, IntKind.bits, IntKind.signed]
theorem wrap_u64_id (n : Int) (h0 : 0 ≤ n) (h1 : n < 18446744073709551616) : IntKind.u64.wrap n = n := by rw [wrap_u64]; omega
theorem wf_u8 {a : Int} (h : (Lit.int .u8 a).wf = true) : 0 ≤ a ∧ a ≤ 255 := by
  simp [Lit.wf, IntKind.min, IntKind.max, IntKind.bits, IntKind.signed] at h
  omega
theorem in_eq (a b c : Int) : spec_l00In.f a b c = some (decide (b ≤ a ∧ a ≤ c)) := by
  unfold spec_l00In.f
  by_cases h : b ≤ a
  · rw [if_pos (by omega)]; simp [h]
  · rw [if_neg (by omega)]; simp [h]
theorem within_eq (a b c : Int) : impl_within.f a b c = some (decide (b ≤ a ∧ a ≤ c)) := by
  unfold impl_within.f
  by_cases h : b ≤ a
  · rw [if_pos (by omega)]; simp [h]
  · rw [if_neg (by omega)]; simp [h]
def upFrom (l : List Int) : Nat → Nat → Bool
  | 0, _ => true
  | d + 1, i => !decide (rd l (i : Int) ≤ rd l ((i : Int) - 1)) && upFrom l d (i + 1)
def ropeOk (p : Int) (l : List Int) : Bool :=
  decide (1 ≤ p ∧ p ≤ 400) && (decide (2 ≤ l.length ∧ l.length ≤ 40) && (decide (rd l 0 = 0) && (decide (rd l ((l.length : Int) - 1) = p) && upFrom l (l.length - 1) 1)))
theorem specRope_l0 (l : List Int) (p : Int) (hl : l.length ≤ 1048576) : ∀ (d i k : Nat), 1 ≤ i → i + d = l.length → d < k → spec_l03Ok.l0 k (l.length : Int) (i : Int) p l = some (upFrom l d i) := by
  intro d
  induction d with
  | zero =>
    intro i k h1 hi hk
    obtain ⟨k, rfl⟩ : ∃ m, k = m + 1 := ⟨k - 1, by omega⟩
    simp only [spec_l03Ok.l0]
    rw [if_neg (by omega)]
    rfl
  | succ d ih =>
    intro i k h1 hi hk
    obtain ⟨k, rfl⟩ : ∃ m, k = m + 1 := ⟨k - 1, by omega⟩
    simp only [spec_l03Ok.l0]
    rw [wrap64_id ((i : Int) - 1) (by omega) (by omega), if_pos (by omega), if_pos (by omega), if_pos (by omega), if_pos (by omega), if_pos (by omega), wrap_nat i (by omega)]
    unfold upFrom
    by_cases e : rd l (i : Int) ≤ rd l ((i : Int) - 1)
    · rw [if_pos e, decide_eq_true e]; rfl
    · rw [if_neg e, decide_eq_false e, ih (i + 1) k (by omega) (by omega) (by omega)]; rfl
theorem specRope_eq (p : Int) (hp : -32768 ≤ p ∧ p ≤ 32767) (l : List Int) (hl : l.length ≤ 1048576) (k : Nat) (hk : 1048590 < k) : spec_l03Ok.f k p l = some (ropeOk p l) := by
  obtain ⟨k, rfl⟩ : ∃ m, k = m + 1 := ⟨k - 1, by omega⟩
  unfold spec_l03Ok.f ropeOk
  rw [wrap64_id p (by omega) (by omega), in_eq, Option.bind_some]
  simp only [spec_l03Ok.j0, if_true]
  by_cases c1 : 1 ≤ p ∧ p ≤ 400
  · rw [decide_eq_true c1, if_pos rfl]
    by_cases c2 : 2 ≤ l.length ∧ l.length ≤ 40
    · rw [decide_eq_true c2, if_neg (by omega), if_neg (by omega), if_pos (by omega), wrap64_id ((l.length : Int) - 1) (by omega) (by omega)]
      by_cases c3 : rd l 0 = 0
      · rw [if_pos c3, decide_eq_true c3, if_pos (by omega), if_pos (by omega)]
        by_cases c4 : rd l ((l.length : Int) - 1) = p
        · have := specRope_l0 l p hl (l.length - 1) 1 k (by omega) (by omega) (by omega)
          rw [show ((1 : Nat) : Int) = 1 from rfl] at this
          rw [decide_eq_true c4, if_neg (by simp [c4]), this]; rfl
        · rw [decide_eq_false c4, if_pos (by simp [c4])]; rfl
      · rw [if_neg c3, decide_eq_false c3]; rfl
    · rw [decide_eq_false c2]
      by_cases c5 : (l.length : Int) < 2
      · rw [if_pos c5]; rfl
      · rw [if_neg c5, if_pos (by omega)]; rfl
  · rw [decide_eq_false c1, if_neg (by decide)]; rfl
theorem implRope_l0 (l : List Int) (p : Int) (h2 : 2 ≤ l.length) (hl : l.length ≤ 1048576) : ∀ (d i k : Nat), 1 ≤ i → i + d = l.length → d < k → impl_ValidRope.l0 k (i : Int) p l = some (upFrom l d i && (decide (rd l 0 = 0) && decide (rd l ((l.length : Int) - 1) = p))) := by
  intro d
  induction d with
  | zero =>
    intro i k h1 hi hk
    obtain ⟨k, rfl⟩ : ∃ m, k = m + 1 := ⟨k - 1, by omega⟩
    simp only [impl_ValidRope.l0]
    rw [if_neg (by omega), if_pos (by omega), wrap64_id ((l.length : Int) - 1) (by omega) (by omega)]
    unfold upFrom
    by_cases c3 : rd l 0 = 0
    · rw [if_pos c3, decide_eq_true c3, if_pos (by omega), if_pos (by omega)]; rfl
    · rw [if_neg c3, decide_eq_false c3]; rfl
  | succ d ih =>
    intro i k h1 hi hk
    obtain ⟨k, rfl⟩ : ∃ m, k = m + 1 := ⟨k - 1, by omega⟩
    simp only [impl_ValidRope.l0]
    rw [wrap64_id ((i : Int) - 1) (by omega) (by omega), if_pos (by omega), if_pos (by omega), if_pos (by omega), if_pos (by omega), wrap_nat i (by omega)]
    conv => rhs; unfold upFrom
    by_cases e : rd l (i : Int) ≤ rd l ((i : Int) - 1)
    · rw [if_pos e, decide_eq_true e]; rfl
    · rw [if_neg e, decide_eq_false e, ih (i + 1) k (by omega) (by omega) (by omega)]; rfl
theorem implRope_eq (p : Int) (hp : -32768 ≤ p ∧ p ≤ 32767) (l : List Int) (hl : l.length ≤ 1048576) (k : Nat) (hk : 1048590 < k) : impl_ValidRope.f k p l = some (ropeOk p l) := by
  obtain ⟨k, rfl⟩ : ∃ m, k = m + 1 := ⟨k - 1, by omega⟩
  unfold impl_ValidRope.f ropeOk impl_size_int16.f
  rw [wrap64_id p (by omega) (by omega), within_eq, Option.bind_some, Option.bind_some, within_eq, Option.bind_some]
  simp only [impl_ValidRope.j0, if_true]
  by_cases c1 : 1 ≤ p ∧ p ≤ 400
  · rw [decide_eq_true c1, if_pos rfl]
    by_cases c2 : 2 ≤ l.length ∧ l.length ≤ 40
    · have := implRope_l0 l p c2.1 hl (l.length - 1) 1 k (by omega) (by omega) (by omega)
      rw [show ((1 : Nat) : Int) = 1 from rfl] at this
      rw [decide_eq_true (show 2 ≤ (l.length : Int) ∧ (l.length : Int) ≤ 40 by omega), decide_eq_true c2, if_neg (by decide), this]
      generalize upFrom l (l.length - 1) 1 = u
      generalize decide (rd l 0 = 0) = v
      generalize decide (rd l ((l.length : Int) - 1) = p) = x
      cases u <;> cases v <;> cases x <;> rfl
    · rw [decide_eq_false (show ¬ (2 ≤ (l.length : Int) ∧ (l.length : Int) ≤ 40) by omega), decide_eq_false c2, if_pos (by decide)]; rfl
  · rw [decide_eq_false c1, if_neg (by decide)]; rfl
def dupFrom (l : List S47) (w : Int) : Nat → Nat → Bool
  | 0, _ => false
  | d + 1, j => decide ((rd_T47 l (j : Int)).f0 = w) || dupFrom l w d (j + 1)
def holdAt (l : List S47) (n : Int) (i : Nat) : Bool :=
  decide (0 ≤ (rd_T47 l (i : Int)).f0 ∧ (rd_T47 l (i : Int)).f0 ≤ 999) && (decide (0 ≤ (rd_T47 l (i : Int)).f1 ∧ (rd_T47 l (i : Int)).f1 ≤ n - 1) && (!(decide (0 < i) && decide ((rd_T47 l (i : Int)).f1 ≤ (rd_T47 l ((i : Int) - 1)).f1)) && !dupFrom l (rd_T47 l (i : Int)).f0 i 0))
def holdsFrom (l : List S47) (n : Int) : Nat → Nat → Bool
  | 0, _ => true
  | d + 1, i => holdAt l n i && holdsFrom l n d (i + 1)
def holdR (h : S47) : Prop := (-32768 ≤ h.f0 ∧ h.f0 ≤ 32767) ∧ (-128 ≤ h.f1 ∧ h.f1 ≤ 127)
theorem mem_hold (s : List S47) (i : Nat) (h : i < s.length) : rd_T47 s (i : Int) ∈ s := by
  have h2 : rd_T47 s (i : Int) = s.getD i z47 := by simp [rd_T47]
  rw [h2, List.getD_eq_getElem?_getD, List.getElem?_eq_getElem h]
  exact List.getElem_mem _
theorem drop_hold (l : List S47) (i : Nat) (h : i < l.length) : l.drop i = rd_T47 l (i : Int) :: l.drop (i + 1) := by
  rw [drop_getD z47 l i h]; simp [rd_T47]
theorem specHolds_l1 (l : List S47) (p : Int) (kn : List Int) (hl : l.length ≤ 1048576) (i : Nat) (hi : i < l.length) : ∀ (d j k : Nat), j + d = i → d < k → spec_l03Holds.l1 k l (i : Int) (j : Int) p kn = if dupFrom l (rd_T47 l (i : Int)).f0 d j = true then some false else spec_l03Holds.l0 (k - (d + 1)) l ((i + 1 : Nat) : Int) p kn := by
  intro d
  induction d with
  | zero =>
    intro j k hj hk
    obtain ⟨k, rfl⟩ : ∃ m, k = m + 1 := ⟨k - 1, by omega⟩
    simp only [spec_l03Holds.l1]
    rw [if_neg (by omega), wrap_nat i (by omega), if_neg (by simp [dupFrom])]
    simp
  | succ d ih =>
    intro j k hj hk
    obtain ⟨k, rfl⟩ : ∃ m, k = m + 1 := ⟨k - 1, by omega⟩
    simp only [spec_l03Holds.l1]
    rw [if_pos (by omega), if_pos (by omega), if_pos (by omega), if_pos (by omega), if_pos (by omega), wrap_nat j (by omega)]
    unfold dupFrom
    by_cases e : (rd_T47 l (j : Int)).f0 = (rd_T47 l (i : Int)).f0
    · rw [if_pos e, decide_eq_true e]; simp
    · rw [if_neg e, decide_eq_false e, ih (j + 1) k (by omega) (by omega), Bool.false_or, show k + 1 - (d + 1 + 1) = k - (d + 1) by omega]
theorem specHolds_l0 (l : List S47) (p : Int) (kn : List Int) (hl : l.length ≤ 1048576) (hkn : kn.length ≤ 1048576) (hr : ∀ h ∈ l, holdR h) : ∀ (d i k : Nat), i + d = l.length → d * 1048600 < k → spec_l03Holds.l0 k l (i : Int) p kn = some (holdsFrom l (kn.length : Int) d i) := by
  intro d
  induction d with
  | zero =>
    intro i k hi hk
    obtain ⟨k, rfl⟩ : ∃ m, k = m + 1 := ⟨k - 1, by omega⟩
    simp only [spec_l03Holds.l0]
    rw [if_neg (by omega)]
    rfl
  | succ d ih =>
    intro i k hi hk
    obtain ⟨D, hD⟩ : ∃ D, D = d * 1048600 := ⟨_, rfl⟩
    rw [Nat.succ_mul, ← hD] at hk
    obtain ⟨k, rfl⟩ : ∃ m, k = m + 4 := ⟨k - 4, by omega⟩
    have hh := hr _ (mem_hold l i (by omega))
    obtain ⟨⟨a1, a2⟩, b1, b2⟩ := hh
    simp only [spec_l03Holds.l0]
    rw [if_pos (by omega), if_pos (by omega), wrap64_id _ (by omega) (by omega), wrap64_id ((rd_T47 l (i : Int)).f1) (by omega) (by omega), wrap64_id ((kn.length : Int) - 1) (by omega) (by omega), in_eq, Option.bind_some]
    unfold holdsFrom holdAt
    have ih' := fun q (hq : D < q) => ih (i + 1) q (by omega) (by rw [← hD]; exact hq)
    have l1 := specHolds_l1 l p kn hl i (by omega) i 0 (k + 1) (by omega) (by omega)
    have hq := ih' (k - i) (by omega)
    rw [show ((0 : Nat) : Int) = 0 from rfl, Nat.add_sub_add_right] at l1
    simp only [hq] at l1
    by_cases c1 : 0 ≤ (rd_T47 l (i : Int)).f0 ∧ (rd_T47 l (i : Int)).f0 ≤ 999
    · rw [decide_eq_true c1, if_pos rfl, in_eq, Option.bind_some]
      by_cases c2 : 0 ≤ (rd_T47 l (i : Int)).f1 ∧ (rd_T47 l (i : Int)).f1 ≤ (kn.length : Int) - 1
      · rw [decide_eq_true c2]
        simp only [spec_l03Holds.j1]
        rw [if_neg (by decide)]
        by_cases c3 : 0 < i
        · rw [if_pos (by omega), if_pos (by omega), if_pos (by omega), wrap64_id ((i : Int) - 1) (by omega) (by omega), if_pos (by omega), if_pos (by omega), decide_eq_true c3]
          simp only [spec_l03Holds.j2]
          by_cases c4 : (rd_T47 l (i : Int)).f1 ≤ (rd_T47 l ((i : Int) - 1)).f1
          · rw [decide_eq_true c4, if_pos rfl]; rfl
          · rw [decide_eq_false c4, if_neg (by decide), l1]
            by_cases c5 : dupFrom l (rd_T47 l (i : Int)).f0 i 0 = true
            · rw [if_pos c5, c5]; rfl
            · rw [if_neg c5, Bool.eq_false_iff.mpr c5]; rfl
        · rw [if_neg (by omega), decide_eq_false c3]
          simp only [spec_l03Holds.j2]
          rw [if_neg (by decide), l1]
          by_cases c5 : dupFrom l (rd_T47 l (i : Int)).f0 i 0 = true
          · rw [if_pos c5, c5]; rfl
          · rw [if_neg c5, Bool.eq_false_iff.mpr c5]; rfl
      · rw [decide_eq_false c2]
        simp only [spec_l03Holds.j1]
        rw [if_pos (by decide)]; rfl
    · rw [decide_eq_false c1, if_neg (by decide)]
      simp only [spec_l03Holds.j1]
      rw [if_pos (by decide)]; rfl
def holdsOk (p : Int) (kn : List Int) (l : List S47) : Bool := ropeOk p kn && holdsFrom l (kn.length : Int) l.length 0
theorem specHolds_eq (p : Int) (hp : -32768 ≤ p ∧ p ≤ 32767) (kn : List Int) (l : List S47) (hl : l.length ≤ 1048576) (hkn : kn.length ≤ 1048576) (hr : ∀ h ∈ l, holdR h) (k : Nat) (hk : 1100000000000 < k) : spec_l03Holds.f k p kn l = some (holdsOk p kn l) := by
  unfold spec_l03Holds.f holdsOk
  rw [specRope_eq p hp kn hkn k (by omega), Option.bind_some]
  by_cases c : ropeOk p kn = true
  · have := specHolds_l0 l p kn hl hkn hr l.length 0 k (by omega) (by omega)
    rw [show ((0 : Nat) : Int) = 0 from rfl] at this
    rw [if_pos c, c, this]; rfl
  · rw [if_neg c, Bool.eq_false_iff.mpr c]; rfl
theorem rd_take_hold (l : List S47) (i j : Nat) (h : j < i) : rd_T47 (l.take i) (j : Int) = rd_T47 l (j : Int) := by
  simp [rd_T47, List.getD_eq_getElem?_getD, List.getElem?_take, h]
theorem implDup_l0 (l : List S47) (hl : l.length ≤ 1048576) (i : Nat) (hi : i ≤ l.length) (w v : Int) : ∀ (d j k : Nat), j + d = i → d < k → ∃ r : Int, slices_IndexFunc_Hold_at_ValidHolds_1.l0 k (l.take i) (i : Int) (j : Int) w v = some r ∧ decide (r ≥ 0) = dupFrom l w d j := by
  intro d
  induction d with
  | zero =>
    intro j k hj hk
    obtain ⟨k, rfl⟩ : ∃ m, k = m + 1 := ⟨k - 1, by omega⟩
    simp only [slices_IndexFunc_Hold_at_ValidHolds_1.l0]
    rw [if_neg (by omega)]
    exact ⟨-1, rfl, rfl⟩
  | succ d ih =>
    intro j k hj hk
    obtain ⟨k, rfl⟩ : ∃ m, k = m + 1 := ⟨k - 1, by omega⟩
    have hlen : ((l.take i).length : Int) = i := by rw [List.length_take]; omega
    simp only [slices_IndexFunc_Hold_at_ValidHolds_1.l0, impl_ValidHolds_1.f, Option.bind_some]
    rw [if_pos (by omega), if_pos (by omega), if_pos (by omega), rd_take_hold l i j (by omega), wrap_nat j (by omega)]
    unfold dupFrom
    by_cases e : (rd_T47 l (j : Int)).f0 = w
    · refine ⟨(j : Int), by rw [if_pos (by simp [e])], ?_⟩
      rw [decide_eq_true e]; simp
    · obtain ⟨r, h1, h2⟩ := ih (j + 1) k (by omega) (by omega)
      refine ⟨r, by rw [if_neg (by simp [e]), h1], ?_⟩
      rw [decide_eq_false e, h2]; rfl
theorem implDup_eq (l : List S47) (hl : l.length ≤ 1048576) (i : Nat) (hi : i ≤ l.length) (w v : Int) (k : Nat) (hk : 1048580 < k) : slices_ContainsFunc_Hold_at_ValidHolds_1.f k (l.take i) w v = some (dupFrom l w i 0) := by
  unfold slices_ContainsFunc_Hold_at_ValidHolds_1.f slices_IndexFunc_Hold_at_ValidHolds_1.f
  obtain ⟨r, h1, h2⟩ := implDup_l0 l hl i hi w v i 0 k (by omega) (by omega)
  rw [show ((l.take i).length : Int) = i by rw [List.length_take]; omega]
  rw [show ((0 : Nat) : Int) = 0 from rfl] at h1
  rw [h1, Option.bind_some, h2]
theorem implHolds_l0 (l : List S47) (p : Int) (hp : -32768 ≤ p ∧ p ≤ 32767) (kn : List Int) (hl : l.length ≤ 1048576) (hkn : kn.length ≤ 1048576) (hr : ∀ h ∈ l, holdR h) : ∀ (d i k : Nat), i + d = l.length → d + 1048600 < k → impl_ValidHolds.l0 k l l (l.length : Int) (i : Int) p kn = some (holdsFrom l (kn.length : Int) d i && ropeOk p kn) := by
  intro d
  induction d with
  | zero =>
    intro i k hi hk
    obtain ⟨k, rfl⟩ : ∃ m, k = m + 1 := ⟨k - 1, by omega⟩
    simp only [impl_ValidHolds.l0]
    rw [if_neg (by omega), implRope_eq p hp kn hkn k (by omega), Option.bind_some]
    rfl
  | succ d ih =>
    intro i k hi hk
    obtain ⟨k, rfl⟩ : ∃ m, k = m + 1 := ⟨k - 1, by omega⟩
    have hh := hr _ (mem_hold l i (by omega))
    obtain ⟨⟨a1, a2⟩, b1, b2⟩ := hh
    simp only [impl_ValidHolds.l0, impl_Rope_isHold.f, impl_size_int16.f]
    rw [if_pos (by omega), if_pos (by omega), if_pos (by omega), wrap64_id _ (by omega) (by omega), wrap64_id ((rd_T47 l (i : Int)).f1) (by omega) (by omega), wrap64_id ((i : Int) - 1) (by omega) (by omega), within_eq, Option.bind_some, Option.bind_some, wrap64_id ((kn.length : Int) - 1) (by omega) (by omega), wrap_nat i (by omega), Int.toNat_natCast, within_eq, Option.bind_some]
    have ih' := ih (i + 1) k (by omega) (by omega)
    have hd := implDup_eq l hl i (by omega) (rd_T47 l (i : Int)).f0 (rd_T47 l (i : Int)).f1 k (by omega)
    unfold holdsFrom holdAt
    by_cases c1 : 0 ≤ (rd_T47 l (i : Int)).f0 ∧ (rd_T47 l (i : Int)).f0 ≤ 999
    · rw [decide_eq_true c1, if_pos rfl, Option.bind_some]
      by_cases c2 : 0 ≤ (rd_T47 l (i : Int)).f1 ∧ (rd_T47 l (i : Int)).f1 ≤ (kn.length : Int) - 1
      · rw [decide_eq_true c2, if_pos rfl]
        by_cases c3 : 0 < i
        · rw [if_pos (by omega), if_pos (by omega), if_pos (by omega), decide_eq_true c3]
          by_cases c4 : (rd_T47 l (i : Int)).f1 ≤ (rd_T47 l ((i : Int) - 1)).f1
          · rw [if_pos c4, decide_eq_true c4]; rfl
          · rw [if_neg c4, if_pos (by omega), hd, Option.bind_some, decide_eq_false c4]
            by_cases c5 : dupFrom l (rd_T47 l (i : Int)).f0 i 0 = true
            · rw [if_pos c5, c5]; rfl
            · rw [if_neg c5, Bool.eq_false_iff.mpr c5, ih']; rfl
        · rw [if_neg (by omega), if_pos (by omega), hd, Option.bind_some, decide_eq_false c3]
          by_cases c5 : dupFrom l (rd_T47 l (i : Int)).f0 i 0 = true
          · rw [if_pos c5, c5]; rfl
          · rw [if_neg c5, Bool.eq_false_iff.mpr c5, ih']; rfl
      · rw [decide_eq_false c2, if_neg (by decide)]; rfl
    · rw [decide_eq_false c1, if_neg (by decide), Option.bind_some, if_neg (by decide)]; rfl
theorem implHolds_eq (p : Int) (hp : -32768 ≤ p ∧ p ≤ 32767) (kn : List Int) (l : List S47) (hl : l.length ≤ 1048576) (hkn : kn.length ≤ 1048576) (hr : ∀ h ∈ l, holdR h) (k : Nat) (hk : 3000000 < k) : impl_ValidHolds.f k p kn l = some (holdsOk p kn l) := by
  unfold impl_ValidHolds.f holdsOk
  have := implHolds_l0 l p hp kn hl hkn hr l.length 0 k (by omega) (by omega)
  rw [show ((0 : Nat) : Int) = 0 from rfl] at this
  rw [this, Bool.and_comm]
theorem holdsFrom_who (l : List S47) (n : Int) : ∀ (d i : Nat), i + d = l.length → holdsFrom l n d i = true → ∀ h ∈ l.drop i, 0 ≤ h.f0 ∧ h.f0 ≤ 999 := by
  intro d
  induction d with
  | zero =>
    intro i hi _ h hh
    rw [List.drop_eq_nil_of_le (by omega)] at hh
    exact absurd hh (by simp)
  | succ d ih =>
    intro i hi he h hh
    unfold holdsFrom at he
    rw [Bool.and_eq_true] at he
    rw [drop_hold l i (by omega)] at hh
    rcases List.mem_cons.1 hh with rfl | hh
    · have := he.1
      unfold holdAt at this
      rw [Bool.and_eq_true, decide_eq_true_eq] at this
      exact this.1
    · exact ih (i + 1) (by omega) he.2 h hh
theorem holdsOk_who (p : Int) (kn : List Int) (l : List S47) (h : holdsOk p kn l = true) : ∀ x ∈ l, 0 ≤ x.f0 ∧ x.f0 ≤ 999 := by
  unfold holdsOk at h
  rw [Bool.and_eq_true] at h
  have := holdsFrom_who l (kn.length : Int) l.length 0 (by omega) h.2
  rwa [List.drop_zero] at this

theorem rd_hold_get (l : List S47) (i : Nat) (h : i < l.length) : rd_T47 l (i : Int) = l[i] := by
  have h2 : rd_T47 l (i : Int) = l.getD i z47 := by simp [rd_T47]
  rw [h2, List.getD_eq_getElem?_getD, List.getElem?_eq_getElem h, Option.getD_some]
theorem holdAt_of (l : List S47) (n : Int) : ∀ (d i0 : Nat), holdsFrom l n d i0 = true → ∀ i, i0 ≤ i → i < i0 + d → holdAt l n i = true := by
  intro d
  induction d with
  | zero => intro i0 _ i h1 h2; omega
  | succ d ih =>
    intro i0 h i h1 h2
    unfold holdsFrom at h
    rw [Bool.and_eq_true] at h
    by_cases e : i = i0
    · subst e; exact h.1
    · exact ih (i0 + 1) h.2 i (by omega) (by omega)
theorem hold_rng (l : List S47) (n : Int) (h : holdsFrom l n l.length 0 = true) (i : Nat) (hi : i < l.length) : (0 ≤ (rd_T47 l (i : Int)).f1 ∧ (rd_T47 l (i : Int)).f1 ≤ n - 1) ∧ (0 < i → (rd_T47 l ((i : Int) - 1)).f1 < (rd_T47 l (i : Int)).f1) := by
  have := holdAt_of l n l.length 0 h i (Nat.zero_le _) (by omega)
  unfold holdAt at this
  rw [Bool.and_eq_true, Bool.and_eq_true, Bool.and_eq_true, decide_eq_true_iff, decide_eq_true_iff] at this
  obtain ⟨_, h2, h3, _⟩ := this
  refine ⟨h2, fun h0 => ?_⟩
  rw [decide_eq_true h0, Bool.true_and, Bool.not_eq_true', decide_eq_false_iff_not] at h3
  omega
theorem hold_lt (l : List S47) (n : Int) (h : holdsFrom l n l.length 0 = true) : ∀ (j : Nat), j < l.length → ∀ i, i < j → (rd_T47 l (i : Int)).f1 < (rd_T47 l (j : Int)).f1 := by
  intro j
  induction j with
  | zero => intro _ i h1; omega
  | succ j ih =>
    intro hj i hi
    have h1 := (hold_rng l n h (j + 1) hj).2 (by omega)
    rw [show (((j + 1 : Nat) : Int) - 1) = (j : Int) by omega] at h1
    by_cases e : i = j
    · subst e; exact h1
    · have := ih (by omega) i (by omega); omega
theorem hold_ge (l : List S47) (n : Int) (h : holdsFrom l n l.length 0 = true) : ∀ (j : Nat), j < l.length → (j : Int) ≤ (rd_T47 l (j : Int)).f1 := by
  intro j
  induction j with
  | zero => intro hj; have := (hold_rng l n h 0 hj).1.1; omega
  | succ j ih =>
    intro hj
    have h1 := (hold_rng l n h (j + 1) hj).2 (by omega)
    rw [show (((j + 1 : Nat) : Int) - 1) = (j : Int) by omega] at h1
    have := ih (by omega)
    omega
theorem holdsOk_facts (p : Int) (kn : List Int) (l : List S47) (h : holdsOk p kn l = true) : ropeOk p kn = true ∧ (kn.length ≤ 40) ∧ l.length ≤ 40 ∧ (∀ x ∈ l, 0 ≤ x.f1 ∧ x.f1 < 128) ∧ l.Pairwise (fun a b => a.f1 < b.f1) := by
  unfold holdsOk at h
  rw [Bool.and_eq_true] at h
  obtain ⟨h1, h2⟩ := h
  have h3 := h1
  unfold ropeOk at h3
  rw [Bool.and_eq_true, Bool.and_eq_true, decide_eq_true_iff, decide_eq_true_iff] at h3
  have hk := h3.2.1.2
  refine ⟨h1, hk, ?_, fun x hx => ?_, ?_⟩
  · by_cases e : l.length = 0
    · omega
    · have a := hold_ge l _ h2 (l.length - 1) (by omega)
      have b := (hold_rng l _ h2 (l.length - 1) (by omega)).1.2
      omega
  · obtain ⟨i, hi, rfl⟩ := List.getElem_of_mem hx
    have := (hold_rng l _ h2 i hi).1
    rw [rd_hold_get l i hi] at this
    omega
  · rw [List.pairwise_iff_getElem]
    intro i j hi hj hij
    have := hold_lt l _ h2 j hj i hij
    rwa [rd_hold_get l i hi, rd_hold_get l j hj] at this

structure HOK (p : Int) (kn : List Int) (l : List S47) : Prop where
  rope : ropeOk p kn = true
  rng : ∀ h ∈ l, (0 ≤ h.f0 ∧ h.f0 ≤ 999) ∧ 0 ≤ h.f1 ∧ h.f1 ≤ (kn.length : Int) - 1
  up : l.Pairwise (fun a b => a.f1 < b.f1)
  dis : l.Pairwise (fun a b => a.f0 ≠ b.f0)
theorem dupFrom_none (l : List S47) (w : Int) : ∀ (d j : Nat), (∀ t : Nat, j ≤ t → t < j + d → (rd_T47 l (t : Int)).f0 ≠ w) → dupFrom l w d j = false := by
  intro d
  induction d with
  | zero => intro j _; rfl
  | succ d ih =>
    intro j h
    unfold dupFrom
    rw [decide_eq_false (h j (Nat.le_refl _) (by omega)), ih (j + 1) (fun t h1 h2 => h t (by omega) (by omega))]
    rfl
theorem holdsFrom_mk (l : List S47) (n : Int) : ∀ (d i : Nat), (∀ j, i ≤ j → j < i + d → holdAt l n j = true) → holdsFrom l n d i = true := by
  intro d
  induction d with
  | zero => intro i _; rfl
  | succ d ih =>
    intro i h
    unfold holdsFrom
    rw [h i (Nat.le_refl _) (by omega), ih (i + 1) (fun t h1 h2 => h t (by omega) (by omega))]
    rfl
theorem HOK.ok {p : Int} {kn : List Int} {l : List S47} (h : HOK p kn l) : holdsOk p kn l = true := by
  unfold holdsOk
  rw [h.rope, Bool.true_and]
  refine holdsFrom_mk l _ _ _ fun j _ hj => ?_
  have hj : j < l.length := by omega
  obtain ⟨r1, r2⟩ := h.rng _ (mem_hold l j hj)
  have hup := List.pairwise_iff_getElem.1 h.up
  have hdis := List.pairwise_iff_getElem.1 h.dis
  unfold holdAt
  rw [decide_eq_true r1, decide_eq_true r2, Bool.true_and, Bool.true_and, dupFrom_none l _ j 0 (fun t _ ht => by
    have ht' : t < j := by omega
    rw [rd_hold_get l t (by omega), rd_hold_get l j hj]
    exact hdis t j (by omega) hj ht')]
  by_cases c : 0 < j
  · have h1 := hup (j - 1) j (by omega) hj (by omega)
    rw [show ((j : Int) - 1) = ((j - 1 : Nat) : Int) by omega, rd_hold_get l j hj, rd_hold_get l (j - 1) (by omega), decide_eq_true c, decide_eq_false (by omega)]
    rfl
  · rw [decide_eq_false c]; rfl
theorem HOK.holdR {p : Int} {kn : List Int} {l : List S47} (h : HOK p kn l) (hk : kn.length ≤ 100) : ∀ x ∈ l, holdR x := fun x hx => by
  obtain ⟨r1, r2⟩ := h.rng x hx
  exact ⟨⟨by omega, by omega⟩, by omega, by omega⟩
theorem HOK.who {p : Int} {kn : List Int} {l : List S47} (h : HOK p kn l) : ∀ x ∈ l, 0 ≤ x.f0 ∧ x.f0 ≤ 999 := fun x hx => (h.rng x hx).1
theorem HOK.len {p : Int} {kn : List Int} {l : List S47} (h : HOK p kn l) : l.length ≤ 40 := (holdsOk_facts p kn l h.ok).2.2.1
theorem HOK.erase {p : Int} {kn : List Int} {l : List S47} (h : HOK p kn l) (k : Nat) : HOK p kn (l.eraseIdx k) :=
  ⟨h.rope, fun x hx => h.rng x (List.mem_of_mem_eraseIdx hx), h.up.sublist (List.eraseIdx_sublist _ _), h.dis.sublist (List.eraseIdx_sublist _ _)⟩

def srcOk (c : List Int) : Prop := c.length ≤ 4096 ∧ ∀ x ∈ c, 0 ≤ x ∧ x ≤ 255
theorem and64_255 (x : Int) (h0 : 0 ≤ x) (h1 : x < 18446744073709551616) : Go.bits .and .u64 x 255 = x % 256 := by
  have := Go.bits_mask .u64 64 (by decide) (fun n a b => wrap_u64_id n a (by simpa using b)) 8 (by decide) x h0 (by omega)
  simpa using this
theorem wrap_u64_range (x : Int) : 0 ≤ IntKind.u64.wrap x ∧ IntKind.u64.wrap x < 18446744073709551616 := by
  rw [wrap_u64]
  omega
theorem next_eq (c : List Int) (hc : srcOk c) (a s : Int) (ha : 0 ≤ a ∧ a ≤ 1000000) : ∃ v s', spec_l00Src_next.f c a s = some (v, a + 1, s') ∧ 0 ≤ v ∧ v ≤ 255 := by
  have hw : wrap64 (a + 1) = a + 1 := wrap64_id _ (by omega) (by omega)
  have hb : ∀ X : Int, 0 ≤ wrap64 (Go.bits .and .u64 (IntKind.u64.wrap X / 1099511627776) 255) ∧ wrap64 (Go.bits .and .u64 (IntKind.u64.wrap X / 1099511627776) 255) ≤ 255 := by
    intro X
    have h := wrap_u64_range X
    rw [and64_255 _ (by omega) (by omega), wrap64_id _ (by omega) (by omega)]
    omega
  unfold spec_l00Src_next.f
  rw [hw]
  by_cases h1 : a < (c.length : Int)
  · rw [if_pos h1, if_pos ha.1]
    have hr : 0 ≤ rd c a ∧ rd c a ≤ 255 := by
      obtain ⟨i, rfl⟩ := Int.eq_ofNat_of_zero_le ha.1
      rw [rd_nat, List.getD_eq_getElem?_getD, List.getElem?_eq_getElem (by omega)]
      exact hc.2 _ (List.getElem_mem _)
    by_cases h2 : a + 1 ≤ (c.length : Int)
    · rw [if_pos h2, wrap64_id (rd c a) (by omega) (by omega)]
      exact ⟨_, _, rfl, hr.1, hr.2⟩
    · rw [if_neg h2]
      exact ⟨_, _, rfl, hb _⟩
  · rw [if_neg h1]
    by_cases h2 : a + 1 ≤ (c.length : Int)
    · rw [if_pos h2]
      exact ⟨_, _, rfl, by decide, by decide⟩
    · rw [if_neg h2]
      exact ⟨_, _, rfl, hb _⟩
theorem pick_eq (c : List Int) (hc : srcOk c) (a s n : Int) (ha : 0 ≤ a ∧ a ≤ 1000000) (hn : 2 ≤ n ∧ n ≤ 200) : ∃ v s', spec_l00Src_pick.f c a s n = some (v, a + 1, s') ∧ 0 ≤ v ∧ v ≤ n - 1 := by
  obtain ⟨v, s', e, h0, h1⟩ := next_eq c hc a s ha
  unfold spec_l00Src_pick.f
  rw [if_neg (by omega), e]
  simp only [Option.bind_some]
  rw [if_neg (by omega), if_neg (by omega), Int.tmod_eq_emod_of_nonneg h0]
  exact ⟨_, _, rfl, Int.emod_nonneg _ (by omega), by have := Int.emod_lt_of_pos v (show 0 < n by omega); omega⟩
theorem i8_id (n : Int) (h : 0 ≤ n ∧ n ≤ 100) : IntKind.i8.wrap n = n := by
  simp [IntKind.wrap, IntKind.bits, IntKind.signed]
  omega
theorem p6pick_eq (c : List Int) (hc : srcOk c) (n : Int) (hn : 2 ≤ n ∧ n ≤ 200) : ∃ v, spec_P6Pick.f c n = some v ∧ 0 ≤ v ∧ v ≤ n - 1 := by
  unfold spec_P6Pick.f spec_l00From.f
  simp only [Option.bind_some]
  obtain ⟨v, s', e, v0, v1⟩ := pick_eq c hc 0 0 n (by decide) hn
  rw [e]
  exact ⟨v, rfl, v0, v1⟩

theorem i16_id (n : Int) (h : 0 ≤ n ∧ n ≤ 10000) : IntKind.i16.wrap n = n := by
  simp [IntKind.wrap, IntKind.bits, IntKind.signed]
  omega
theorem rd_app_lt (l : List Int) (x : Int) (j : Nat) (h : j < l.length) : rd (l ++ [x]) (j : Int) = rd l (j : Int) := by
  rw [rd_nat, rd_nat, List.getD_eq_getElem?_getD, List.getD_eq_getElem?_getD, List.getElem?_append_left h]
theorem rd_app_eq (l : List Int) (x : Int) (j : Nat) (h : j = l.length) : rd (l ++ [x]) (j : Int) = x := by
  subst h
  rw [rd_nat, List.getD_eq_getElem?_getD, List.getElem?_append_right (Nat.le_refl _), Nat.sub_self]; rfl
structure RopeI (p : Int) (l : List Int) : Prop where
  len : 1 ≤ l.length
  zero : rd l ((0 : Nat) : Int) = 0
  last : rd l ((l.length - 1 : Nat) : Int) = p
  up : ∀ j : Nat, 1 ≤ j → j < l.length → rd l ((j - 1 : Nat) : Int) < rd l (j : Int)
theorem RopeI.app {p : Int} {l : List Int} (h : RopeI p l) (x : Int) (hx : p < x) : RopeI x (l ++ [x]) where
  len := by simp
  zero := by rw [rd_app_lt l x 0 (by have := h.len; omega)]; exact h.zero
  last := by rw [List.length_append, List.length_singleton, Nat.add_sub_cancel]; exact rd_app_eq l x _ rfl
  up j h1 h2 := by
    rw [List.length_append, List.length_singleton] at h2
    by_cases e : j = l.length
    · rw [rd_app_eq l x j e, rd_app_lt l x (j - 1) (by omega), e, h.last]; exact hx
    · rw [rd_app_lt l x j (by omega), rd_app_lt l x (j - 1) (by omega)]; exact h.up j h1 (by omega)
theorem upFrom_mk (l : List Int) : ∀ (d i : Nat), 1 ≤ i → (∀ j : Nat, i ≤ j → j < i + d → rd l ((j - 1 : Nat) : Int) < rd l (j : Int)) → upFrom l d i = true := by
  intro d
  induction d with
  | zero => intro i _ _; rfl
  | succ d ih =>
    intro i h1 h
    unfold upFrom
    have := h i (Nat.le_refl _) (by omega)
    rw [show ((i : Int) - 1) = ((i - 1 : Nat) : Int) by omega, decide_eq_false (by omega), ih (i + 1) (by omega) (fun t q1 q2 => h t (by omega) (by omega))]
    rfl
theorem RopeI.ok {p : Int} {l : List Int} (h : RopeI p l) (hp : 1 ≤ p ∧ p ≤ 400) (hl : 2 ≤ l.length ∧ l.length ≤ 40) : ropeOk p l = true := by
  unfold ropeOk
  have h0 := h.zero
  have h1 := h.last
  rw [show ((l.length - 1 : Nat) : Int) = (l.length : Int) - 1 by omega] at h1
  rw [decide_eq_true hp, decide_eq_true hl, decide_eq_true (show rd l 0 = 0 from h0), decide_eq_true h1, upFrom_mk l _ 1 (by omega) (fun j q1 q2 => h.up j q1 (by omega))]
  rfl
theorem drawnR_l0 (c : List Int) (hc : srcOk c) : ∀ (d k : Nat) (a s p : Int) (kn : List Int), d < k → d ≤ 10 → 0 ≤ a → a + d ≤ 900000 → 0 ≤ p → p + 6 * d ≤ 400 → kn.length + d ≤ 40 → RopeI p kn → ∃ p' kn' a' s', spec_l03Drawn.l0 k (d : Int) c a s p kn = some (p', kn', a', s') ∧ RopeI p' kn' ∧ kn'.length = kn.length + d ∧ p + d ≤ p' ∧ p' ≤ p + 6 * d := by
  intro d
  induction d with
  | zero =>
    intro k a s p kn hk _ h0 h1 _ _ _ hr
    obtain ⟨k, rfl⟩ : ∃ m, k = m + 1 := ⟨k - 1, by omega⟩
    simp only [spec_l03Drawn.l0]
    rw [if_neg (by omega)]
    exact ⟨p, kn, a, s, rfl, hr, rfl, by omega, by omega⟩
  | succ d ih =>
    intro k a s p kn hk hd h0 h1 hp hp2 hl hr
    obtain ⟨k, rfl⟩ : ∃ m, k = m + 1 := ⟨k - 1, by omega⟩
    obtain ⟨v, s2, e, v0, v1⟩ := pick_eq c hc a s 6 (by omega) (by decide)
    simp only [spec_l03Drawn.l0]
    rw [if_pos (by omega), e]
    simp only [Option.bind_some]
    rw [if_pos (by omega), wrap64_id (1 + v) (by omega) (by omega), i16_id (1 + v) (by omega), i16_id (p + (1 + v)) (by omega), wrap64_id _ (by omega) (by omega), show ((d + 1 : Nat) : Int) - 1 = (d : Int) by omega]
    obtain ⟨p', kn', a', s', q1, q2, q3, q4, q5⟩ := ih k (a + 1) s2 (p + (1 + v)) (kn ++ [p + (1 + v)]) (by omega) (by omega) (by omega) (by omega) (by omega) (by omega) (by simp; omega) (hr.app _ (by omega))
    exact ⟨p', kn', a', s', q1, q2, by rw [q3]; simp; omega, by omega, by omega⟩
theorem p6rope_eq (c : List Int) (hc : srcOk c) (k : Nat) (hk : 20 ≤ k) : ∃ p kn, spec_P6Rope.f k c = some (p, kn) ∧ ropeOk p kn = true ∧ kn.length ≤ 8 ∧ 1 ≤ p ∧ p ≤ 42 := by
  unfold spec_P6Rope.f spec_l00From.f spec_l03Drawn.f
  simp only [Option.bind_some]
  obtain ⟨v, s', e, v0, v1⟩ := pick_eq c hc 0 0 7 (by decide) (by decide)
  rw [e]
  simp only [Option.bind_some]
  rw [wrap64_id (1 + v) (by omega) (by omega)]
  obtain ⟨d, hd⟩ := Int.eq_ofNat_of_zero_le (show 0 ≤ 1 + v by omega)
  rw [hd]
  obtain ⟨p', kn', a', s2, q1, q2, q3, q4, q5⟩ := drawnR_l0 c hc d k (0 + 1) s' 0 [0] (by omega) (by omega) (by decide) (by omega) (by decide) (by omega) (by simp; omega) ⟨by simp, rfl, rfl, fun j h1 h2 => by simp at h2; omega⟩
  rw [q1]
  refine ⟨p', kn', rfl, q2.ok (by omega) (by rw [q3]; simp; omega), by rw [q3]; simp; omega, by omega, by omega⟩
theorem pick_big (c : List Int) (hc : srcOk c) (a s n : Int) (ha : 0 ≤ a ∧ a ≤ 900000) (hn : 201 ≤ n ∧ n ≤ 100000) : ∃ v s', spec_l00Src_pick.f c a s n = some (v, a + 1 + 1, s') ∧ 0 ≤ v ∧ v ≤ n - 1 := by
  obtain ⟨v, s', e, h0, h1⟩ := next_eq c hc a s (by omega)
  obtain ⟨u, s2, e2, u0, u1⟩ := next_eq c hc (a + 1) s' (by omega)
  unfold spec_l00Src_pick.f
  rw [if_neg (by omega), e]
  simp only [Option.bind_some]
  rw [if_pos (by omega), e2]
  simp only [Option.bind_some]
  rw [if_neg (by omega), wrap64_id (v * 256) (by omega) (by omega), wrap64_id (v * 256 + u) (by omega) (by omega), Int.tmod_eq_emod_of_nonneg (by omega)]
  exact ⟨_, _, rfl, Int.emod_nonneg _ (by omega), by have := Int.emod_lt_of_pos (v * 256 + u) (show 0 < n by omega); omega⟩
theorem i8_small (n : Nat) (h : n ≤ 100) : IntKind.i8.wrap (n : Int) = (n : Int) := i8_id _ (by omega)
structure HeldI (v0 T : Int) (j : Nat) (xs : List S47) : Prop where
  len : xs.length ≤ j
  rng : ∀ h ∈ xs, (0 ≤ h.f0 ∧ h.f0 ≤ 999) ∧ 0 ≤ h.f1 ∧ h.f1 ≤ (j : Int) - 1
  up : xs.Pairwise (fun a b => a.f1 < b.f1)
  dis : xs.Pairwise (fun a b => a.f0 ≠ b.f0)
  off : ∀ h ∈ xs, ∃ t : Int, 0 ≤ t ∧ t < T ∧ h.f0 = (v0 + t) % 1000
  tot : 0 ≤ T ∧ T ≤ 31 * (j : Int)
theorem held_go (c : List Int) (hc : srcOk c) (p : Int) (kn : List Int) (hkn : kn.length ≤ 8) (v0 : Int) (hv : 0 ≤ v0 ∧ v0 ≤ 899) : ∀ (d j k : Nat) (xs : List S47) (T a s : Int), j + d = kn.length → 2 * d + 3 ≤ k → 0 ≤ a → a + 2 * d ≤ 900000 → HeldI v0 T j xs →
    ∃ ys T' a' s', spec_l03Held.l0 k xs ((v0 + T) % 1000) (j : Int) c a s p kn = some (ys, a', s') ∧ HeldI v0 T' kn.length ys := by
  intro d
  induction d with
  | zero =>
    intro j k xs T a s hj hk h0 h1 hI
    obtain ⟨k, rfl⟩ : ∃ m, k = m + 2 := ⟨k - 2, by omega⟩
    simp only [spec_l03Held.l0, spec_l03Held.j1]
    rw [if_neg (by omega), if_neg (by decide)]
    have hj : j = kn.length := by omega
    subst hj
    exact ⟨xs, T, a, s, rfl, hI⟩
  | succ d ih =>
    intro j k xs T a s hj hk h0 h1 hI
    obtain ⟨k, rfl⟩ : ∃ m, k = m + 2 := ⟨k - 2, by omega⟩
    simp only [spec_l03Held.l0, spec_l03Held.j1]
    have htot := hI.tot
    rw [if_pos (by omega), if_pos (by simp; omega)]
    obtain ⟨v, s1, e1, v1, v2⟩ := pick_eq c hc a s 2 (by omega) (by decide)
    unfold spec_l00Src_one.f
    rw [e1]
    simp only [Option.bind_some]
    by_cases b : v = 0
    · subst b
      have hlen := hI.len
      rw [if_pos (by decide), if_pos (by omega)]
      obtain ⟨u, s2, e2, u1, u2⟩ := pick_eq c hc (a + 1) s1 30 (by omega) (by decide)
      rw [e2]
      simp only [Option.bind_some]
      have hw := Int.emod_nonneg (v0 + T) (show (1000 : Int) ≠ 0 by decide)
      have hw2 := Int.emod_lt_of_pos (v0 + T) (show (0 : Int) < 1000 by decide)
      rw [i16_id _ (by omega), i8_small j (by omega), wrap64_id ((v0 + T) % 1000 + 1) (by omega) (by omega), wrap64_id _ (by omega) (by omega), Int.tmod_eq_emod_of_nonneg (by omega), wrap_nat j (by omega)]
      have hm : ((v0 + T) % 1000 + 1 + u) % 1000 = (v0 + (T + 1 + u)) % 1000 := by omega
      rw [hm]
      refine ih (j + 1) k _ (T + 1 + u) (a + 1 + 1) s2 (by omega) (by omega) (by omega) (by omega) ⟨by simp; omega, ?_, ?_, ?_, ?_, by omega⟩
      · intro h hh
        rcases List.mem_append.1 hh with q | q
        · have := hI.rng h q; omega
        · rw [List.mem_singleton.1 q]; exact ⟨⟨by show 0 ≤ (v0 + T) % 1000; omega, by show (v0 + T) % 1000 ≤ 999; omega⟩, by show (0 : Int) ≤ (j : Int); omega, by show (j : Int) ≤ ((j + 1 : Nat) : Int) - 1; omega⟩
      · rw [List.pairwise_append]
        refine ⟨hI.up, List.pairwise_singleton _ _, fun x hx y hy => ?_⟩
        rw [List.mem_singleton.1 hy]
        have := (hI.rng x hx).2.2
        show x.f1 < (j : Int)
        omega
      · rw [List.pairwise_append]
        refine ⟨hI.dis, List.pairwise_singleton _ _, fun x hx y hy => ?_⟩
        rw [List.mem_singleton.1 hy]
        obtain ⟨t, t0, t1, t2⟩ := hI.off x hx
        show x.f0 ≠ (v0 + T) % 1000
        rw [t2]
        omega
      · intro h hh
        rcases List.mem_append.1 hh with q | q
        · obtain ⟨t, t0, t1, t2⟩ := hI.off h q
          exact ⟨t, t0, by omega, t2⟩
        · rw [List.mem_singleton.1 q]
          exact ⟨T, by omega, by omega, rfl⟩
    · rw [if_neg (by simpa using b), wrap_nat j (by omega)]
      refine ih (j + 1) k xs T (a + 1) s1 (by omega) (by omega) (by omega) (by omega) ⟨by have := hI.len; omega, fun h hh => by have := hI.rng h hh; omega, hI.up, hI.dis, hI.off, by omega⟩
theorem p6holds_eq (c : List Int) (hc : srcOk c) (p : Int) (kn : List Int) (hkn : kn.length ≤ 8) (hr : ropeOk p kn = true) (k : Nat) (hk : 50 ≤ k) : ∃ hs, spec_P6Holds.f k c p kn = some hs ∧ HOK p kn hs := by
  unfold spec_P6Holds.f spec_l00From.f spec_l03Held.f
  simp only [Option.bind_some]
  obtain ⟨v, s', e, v0, v1⟩ := pick_big c hc 0 0 900 (by decide) (by decide)
  rw [e]
  simp only [Option.bind_some]
  obtain ⟨ys, T', a', s2, q, hI⟩ := held_go c hc p kn hkn v (by omega) kn.length 0 k [] 0 (0 + 1 + 1) s' (by omega) (by omega) (by decide) (by omega) ⟨by simp, by simp, List.Pairwise.nil, List.Pairwise.nil, by simp, by decide⟩
  rw [show (v + 0) % 1000 = v by omega, show ((0 : Nat) : Int) = 0 from rfl] at q
  rw [q]
  exact ⟨ys, rfl, hr, hI.rng, hI.up, hI.dis⟩

def cntF : List S47 → Int → Int → List S40
  | [], _, _ => []
  | h :: r, n, c => ⟨n + 1, (7 * c + h.f0 + 1) % 97⟩ :: cntF r (n + 1) ((7 * c + h.f0 + 1) % 97)
theorem cntF_length : ∀ (l : List S47) (n c : Int), (cntF l n c).length = l.length
  | [], _, _ => rfl
  | h :: r, n, c => by simp [cntF, cntF_length r]
theorem specNext_eq (n c w : Int) (hn : 0 ≤ n ∧ n ≤ 4194304) (hc : 0 ≤ c ∧ c ≤ 96) (hw : 0 ≤ w ∧ w ≤ 999) : spec_l03Next.f n c w = some (n + 1, (7 * c + w + 1) % 97) := by
  unfold spec_l03Next.f
  rw [wrap64_id (n + 1) (by omega) (by omega), wrap64_id (7 * c) (by omega) (by omega), wrap64_id w (by omega) (by omega), wrap64_id (7 * c + w) (by omega) (by omega), wrap64_id (7 * c + w + 1) (by omega) (by omega), Int.tmod_eq_emod_of_nonneg (by omega)]
theorem implNext_eq (n c w v : Int) (hn : 0 ≤ n ∧ n ≤ 4194304) (hc : 0 ≤ c ∧ c ≤ 96) (hw : 0 ≤ w ∧ w ≤ 999) : impl_Said_follows.f n c w v = some (n + 1, (7 * c + w + 1) % 97) := by
  unfold impl_Said_follows.f
  have e0 : Int.tmod c 97 = c := by rw [Int.tmod_eq_emod_of_nonneg (by omega)]; omega
  rw [e0, wrap64_id (n + 1) (by omega) (by omega), wrap64_id (7 * c) (by omega) (by omega), wrap64_id w (by omega) (by omega), wrap64_id (7 * c + w) (by omega) (by omega), wrap64_id (7 * c + w + 1) (by omega) (by omega), Int.tmod_eq_emod_of_nonneg (a := 7 * c + w + 1) (by omega), wrap64_id ((7 * c + w + 1) % 97 + 97) (by omega) (by omega), Int.tmod_eq_emod_of_nonneg (by omega)]
  congr 2
  omega
theorem specCount_l0 (l : List S47) (hl : l.length ≤ 1048576) (hw : ∀ h ∈ l, 0 ≤ h.f0 ∧ h.f0 ≤ 999) : ∀ (d i k : Nat) (xs : List S40) (n c : Int), i + d = l.length → d < k → xs.length ≤ i → 0 ≤ n ∧ n ≤ (i : Int) → 0 ≤ c ∧ c ≤ 96 → spec_l03Count.l0 k l xs (i : Int) n c = some (xs ++ cntF (l.drop i) n c) := by
  intro d
  induction d with
  | zero =>
    intro i k xs n c hi hk hx hn hc
    obtain ⟨k, rfl⟩ : ∃ m, k = m + 1 := ⟨k - 1, by omega⟩
    simp only [spec_l03Count.l0]
    rw [if_neg (by omega), List.drop_eq_nil_of_le (by omega)]
    simp [cntF]
  | succ d ih =>
    intro i k xs n c hi hk hx hn hc
    obtain ⟨k, rfl⟩ : ∃ m, k = m + 1 := ⟨k - 1, by omega⟩
    simp only [spec_l03Count.l0]
    rw [if_pos (by omega), if_pos (by omega), specNext_eq n c _ (by omega) hc (hw _ (mem_hold l i (by omega)))]
    simp only [Option.bind_some]
    rw [if_pos (by omega), wrap_nat i (by omega), ih (i + 1) k _ _ _ (by omega) (by omega) (by simp; omega) (by omega) (by omega), drop_hold l i (by omega)]
    simp [cntF]
theorem specCount_eq (l : List S47) (hl : l.length ≤ 1048576) (hw : ∀ h ∈ l, 0 ≤ h.f0 ∧ h.f0 ≤ 999) (k : Nat) (hk : l.length < k) : spec_l03Count.f k l = some (cntF l 0 0) := by
  unfold spec_l03Count.f
  have := specCount_l0 l hl hw l.length 0 k [] 0 0 (by omega) hk (by simp) (by decide) (by decide)
  rw [show ((0 : Nat) : Int) = 0 from rfl, List.drop_zero] at this
  exact this
theorem implCount_l0 (l : List S47) (hl : l.length ≤ 1048576) (hw : ∀ h ∈ l, 0 ≤ h.f0 ∧ h.f0 ≤ 999) : ∀ (d i k : Nat) (xs : List S40) (n c : Int), i + d = l.length → d < k → xs.length ≤ i → 0 ≤ n ∧ n ≤ (i : Int) → 0 ≤ c ∧ c ≤ 96 → impl_count.l0 k xs l (l.length : Int) (i : Int) n c = some (xs ++ cntF (l.drop i) n c) := by
  intro d
  induction d with
  | zero =>
    intro i k xs n c hi hk hx hn hc
    obtain ⟨k, rfl⟩ : ∃ m, k = m + 1 := ⟨k - 1, by omega⟩
    simp only [impl_count.l0]
    rw [if_neg (by omega), List.drop_eq_nil_of_le (by omega)]
    simp [cntF]
  | succ d ih =>
    intro i k xs n c hi hk hx hn hc
    obtain ⟨k, rfl⟩ : ∃ m, k = m + 1 := ⟨k - 1, by omega⟩
    simp only [impl_count.l0]
    rw [if_pos (by omega), if_pos (by omega), if_pos (by omega), implNext_eq n c _ _ (by omega) hc (hw _ (mem_hold l i (by omega)))]
    simp only [Option.bind_some]
    rw [if_pos (by omega), wrap_nat i (by omega), ih (i + 1) k _ _ _ (by omega) (by omega) (by simp; omega) (by omega) (by omega), drop_hold l i (by omega)]
    simp [cntF]
theorem implCount_eq (l : List S47) (hl : l.length ≤ 1048576) (hw : ∀ h ∈ l, 0 ≤ h.f0 ∧ h.f0 ≤ 999) (k : Nat) (hk : l.length < k) : impl_count.f k l = some (cntF l 0 0) := by
  unfold impl_count.f
  have := implCount_l0 l hl hw l.length 0 k [] 0 0 (by omega) hk (by simp) (by decide) (by decide)
  rw [show ((0 : Nat) : Int) = 0 from rfl, List.drop_zero] at this
  exact this
def lastQ (t : List S40) (a b : Int) : Bool := if t.length = 0 then false else (rd_T40 t ((t.length : Int) - 1)).f0 == a && ((rd_T40 t ((t.length : Int) - 1)).f1 == b)
theorem specLast_eq (l : List S47) (hl : l.length ≤ 1048576) (hw : ∀ h ∈ l, 0 ≤ h.f0 ∧ h.f0 ≤ 999) (a b : Int) (k : Nat) (hk : l.length < k) : spec_l03Last.f k l a b = some (lastQ (cntF l 0 0) a b) := by
  unfold spec_l03Last.f lastQ
  have hc := cntF_length l 0 0
  rw [specCount_eq l hl hw k hk, Option.bind_some, wrap64_id _ (by omega) (by omega)]
  by_cases h : (cntF l 0 0).length = 0
  · rw [if_neg (by omega), if_pos h]
  · rw [if_pos (by omega), if_neg h, if_pos (by omega), if_pos (by omega)]
theorem implEnds_eq (l : List S47) (hl : l.length ≤ 1048576) (hw : ∀ h ∈ l, 0 ≤ h.f0 ∧ h.f0 ≤ 999) (a b : Int) (k : Nat) (hk : l.length < k) : impl_endsWith.f k l a b = some (lastQ (cntF l 0 0) a b) := by
  unfold impl_endsWith.f lastQ
  have hc := cntF_length l 0 0
  rw [implCount_eq l hl hw k hk, Option.bind_some, wrap64_id _ (by omega) (by omega)]
  by_cases h : (cntF l 0 0).length = 0
  · rw [if_neg (by omega), if_pos h]
  · rw [if_pos (by omega), if_neg h, if_pos (by omega), if_pos (by omega)]

def picks (q : Nat → Bool) : Nat → Nat → List Int
  | 0, _ => []
  | d + 1, i => if q i = true then (i : Int) :: picks q d (i + 1) else picks q d (i + 1)
theorem picks_length (q : Nat → Bool) : ∀ d i, (picks q d i).length ≤ d
  | 0, _ => by simp [picks]
  | d + 1, i => by
    have := picks_length q d (i + 1)
    unfold picks
    split <;> simp <;> omega

def misQ (l : List S47) (a b : Int) (i : Nat) : Bool := lastQ (cntF (l.eraseIdx i) 0 0) a b
theorem specMis_l0 (l : List S47) (hl : l.length ≤ 1048576) (hw : ∀ h ∈ l, 0 ≤ h.f0 ∧ h.f0 ≤ 999) (a b : Int) : ∀ (d i k : Nat) (xs : List Int), i + d = l.length → d + 1048580 < k → xs.length ≤ i → spec_MissingBy.l0 k l xs (i : Int) a b = some (xs ++ picks (misQ l a b) d i, 0) := by
  intro d
  induction d with
  | zero =>
    intro i k xs hi hk hx
    obtain ⟨k, rfl⟩ : ∃ m, k = m + 1 := ⟨k - 1, by omega⟩
    simp only [spec_MissingBy.l0]
    rw [if_neg (by omega)]
    simp [picks]
  | succ d ih =>
    intro i k xs hi hk hx
    obtain ⟨k, rfl⟩ : ∃ m, k = m + 1 := ⟨k - 1, by omega⟩
    have he : (l.eraseIdx i).length ≤ l.length := by rw [List.length_eraseIdx]; split <;> omega
    simp only [spec_MissingBy.l0]
    rw [if_pos (by omega), Option.bind_some, if_pos (by omega), if_pos (by omega), Option.bind_some, wrap_nat i (by omega), Int.toNat_natCast, if_pos (by simp; omega), Option.bind_some, if_pos (by omega), if_pos (by omega), Option.bind_some, Int.toNat_natCast, if_pos (by simp; omega), List.nil_append, ← List.eraseIdx_eq_take_drop_succ, specLast_eq _ (by omega) (fun h hh => hw h (List.mem_of_mem_eraseIdx hh)) a b k (by omega), Option.bind_some]
    rw [show lastQ (cntF (l.eraseIdx i) 0 0) a b = misQ l a b i from rfl]
    unfold picks
    by_cases e : misQ l a b i = true
    · rw [if_pos e, if_pos (by omega), if_pos e, ih (i + 1) k _ (by omega) (by omega) (by simp; omega)]
      simp
    · rw [if_neg e, if_neg e, ih (i + 1) k _ (by omega) (by omega) (by omega)]
theorem implMis_l0 (l : List S47) (hl : l.length ≤ 1048576) (hw : ∀ h ∈ l, 0 ≤ h.f0 ∧ h.f0 ≤ 999) (a b : Int) : ∀ (d i k : Nat) (xs : List Int), i + d = l.length → d + 1048580 < k → xs.length ≤ i → impl_MissingBy.l0 k l xs (l.length : Int) (i : Int) a b = some (xs ++ picks (misQ l a b) d i, 0) := by
  intro d
  induction d with
  | zero =>
    intro i k xs hi hk hx
    obtain ⟨k, rfl⟩ : ∃ m, k = m + 1 := ⟨k - 1, by omega⟩
    simp only [impl_MissingBy.l0]
    rw [if_neg (by omega)]
    simp [picks]
  | succ d ih =>
    intro i k xs hi hk hx
    obtain ⟨k, rfl⟩ : ∃ m, k = m + 1 := ⟨k - 1, by omega⟩
    have he : (l.eraseIdx i).length ≤ l.length := by rw [List.length_eraseIdx]; split <;> omega
    simp only [impl_MissingBy.l0, impl_without.f, slices_Clone_Hold.f, Option.bind_some, List.nil_append]
    rw [if_pos (by omega), if_pos (by omega), if_pos (by omega), if_pos (by simp; omega), Option.bind_some, if_pos rfl, Option.bind_some, Int.toNat_natCast, implEnds_eq _ (by omega) (fun h hh => hw h (List.mem_of_mem_eraseIdx hh)) a b k (by omega), Option.bind_some, wrap_nat i (by omega)]
    rw [show lastQ (cntF (l.eraseIdx i) 0 0) a b = misQ l a b i from rfl]
    unfold picks
    by_cases e : misQ l a b i = true
    · rw [if_pos e, if_pos (by omega), if_pos e, ih (i + 1) k _ (by omega) (by omega) (by simp; omega)]
      simp
    · rw [if_neg e, if_neg e, ih (i + 1) k _ (by omega) (by omega) (by omega)]
def finM (p : Int) (kn : List Int) (l : List S47) (a b : Int) : List Int × Int :=
  if holdsOk p kn l = true then (picks (misQ l a b) l.length 0, 0) else ([], 1)
theorem finM_len (p : Int) (kn : List Int) (l : List S47) (a b : Int) : (finM p kn l a b).1.length ≤ l.length := by
  unfold finM
  by_cases c : holdsOk p kn l = true
  · rw [if_pos c]
    exact picks_length _ _ _
  · rw [if_neg c]; simp
theorem specM_fin (p : Int) (hp : -32768 ≤ p ∧ p ≤ 32767) (kn : List Int) (l : List S47) (hl : l.length ≤ 1048576) (hkn : kn.length ≤ 1048576) (hr : ∀ h ∈ l, holdR h) (a b : Int) (k : Nat) (hk : 1100000000000 < k) : spec_MissingBy.f k p kn l a b = some (finM p kn l a b) := by
  unfold spec_MissingBy.f finM
  rw [Option.bind_some, specHolds_eq p hp kn l hl hkn hr k hk, Option.bind_some]
  by_cases c : holdsOk p kn l = true
  · have := specMis_l0 l hl (holdsOk_who p kn l c) a b l.length 0 k [] (by omega) (by omega) (by simp)
    rw [show ((0 : Nat) : Int) = 0 from rfl] at this
    rw [if_pos c, if_pos c, this]; rfl
  · rw [if_neg c, if_neg c]
theorem implM_fin (p : Int) (hp : -32768 ≤ p ∧ p ≤ 32767) (kn : List Int) (l : List S47) (hl : l.length ≤ 1048576) (hkn : kn.length ≤ 1048576) (hr : ∀ h ∈ l, holdR h) (a b : Int) (k : Nat) (hk : 3000000 < k) : impl_MissingBy.f k p kn l a b = some (finM p kn l a b) := by
  unfold impl_MissingBy.f finM impl_size_Hold.f
  rw [implHolds_eq p hp kn l hl hkn hr k hk, Option.bind_some, Option.bind_some]
  by_cases c : holdsOk p kn l = true
  · have := implMis_l0 l hl (holdsOk_who p kn l c) a b l.length 0 k [] (by omega) (by omega) (by simp)
    rw [show ((0 : Nat) : Int) = 0 from rfl] at this
    rw [if_pos c, if_pos c, this]; rfl
  · rw [if_neg c, if_neg c]

def swapL (l : List S47) (i j : Nat) : List S47 :=
  (l.set i ⟨(rd_T47 l (j : Int)).f0, (rd_T47 l (i : Int)).f1⟩).set j ⟨(rd_T47 l (i : Int)).f0, (rd_T47 (l.set i ⟨(rd_T47 l (j : Int)).f0, (rd_T47 l (i : Int)).f1⟩) (j : Int)).f1⟩
theorem swapL_length (l : List S47) (i j : Nat) : (swapL l i j).length = l.length := by simp [swapL]
theorem swapL_who (l : List S47) (i j : Nat) (hi : i < l.length) (hj : j < l.length) (hw : ∀ h ∈ l, 0 ≤ h.f0 ∧ h.f0 ≤ 999) : ∀ h ∈ swapL l i j, 0 ≤ h.f0 ∧ h.f0 ≤ 999 := by
  intro h hh
  unfold swapL at hh
  rcases List.mem_or_eq_of_mem_set hh with h1 | rfl
  · rcases List.mem_or_eq_of_mem_set h1 with h2 | rfl
    · exact hw h h2
    · have h_ := hw _ (mem_hold l j hj)
      exact h_
  · have h_ := hw _ (mem_hold l i hi)
    exact h_
def swapQ (l : List S47) (a b : Int) (i j : Nat) : Bool := lastQ (cntF (swapL l i j) 0 0) a b
def pairsI (q : Nat → Nat → Bool) (i : Nat) : Nat → Nat → List S55
  | 0, _ => []
  | d + 1, j => (if q i j = true then [⟨(i : Int), (j : Int)⟩] else []) ++ pairsI q i d (j + 1)
def pairsO (q : Nat → Nat → Bool) (n : Nat) : Nat → Nat → List S55
  | 0, _ => []
  | d + 1, i => pairsI q i (n - (i + 1)) (i + 1) ++ pairsO q n d (i + 1)
theorem pairsI_length (q : Nat → Nat → Bool) (i : Nat) : ∀ d j, (pairsI q i d j).length ≤ d
  | 0, _ => by simp [pairsI]
  | d + 1, j => by
    have := pairsI_length q i d (j + 1)
    simp only [pairsI, List.length_append]
    split <;> simp <;> omega
theorem pairsO_length (q : Nat → Nat → Bool) (n : Nat) : ∀ d i, (pairsO q n d i).length ≤ d * n
  | 0, _ => by simp [pairsO]
  | d + 1, i => by
    have h1 := pairsO_length q n d (i + 1)
    have h2 := pairsI_length q i (n - (i + 1)) (i + 1)
    simp only [pairsO, List.length_append, Nat.succ_mul]
    omega
theorem specSw_l1 (l : List S47) (hl : l.length ≤ 1000) (hw : ∀ h ∈ l, 0 ≤ h.f0 ∧ h.f0 ≤ 999) (a b : Int) (i : Nat) (hi : i < l.length) : ∀ (d j k : Nat) (xs : List S55), i < j → j + d = l.length → d + 1048600 < k → xs.length + d ≤ 2000000 → spec_SwappedBy.l1 k l xs (i : Int) (j : Int) a b = spec_SwappedBy.l0 (k - (d + 1)) l (xs ++ pairsI (swapQ l a b) i d j) ((i + 1 : Nat) : Int) a b := by
  intro d
  induction d with
  | zero =>
    intro j k xs hij hj hk hx
    obtain ⟨k, rfl⟩ : ∃ m, k = m + 1 := ⟨k - 1, by omega⟩
    simp only [spec_SwappedBy.l1]
    rw [if_neg (by omega), wrap_nat i (by omega)]
    simp [pairsI]
  | succ d ih =>
    intro j k xs hij hj hk hx
    obtain ⟨k, rfl⟩ : ∃ m, k = m + 1 := ⟨k - 1, by omega⟩
    simp only [spec_SwappedBy.l1]
    rw [if_pos (by omega), Option.bind_some, if_pos (by simp only [List.length_nil]; omega), Option.bind_some, List.nil_append, if_pos (by omega), if_pos (by omega), if_pos (by omega), Option.bind_some, if_pos (by omega), if_pos (by omega), Int.toNat_natCast, Int.toNat_natCast]
    rw [show (l.set i ⟨(rd_T47 l (j : Int)).f0, (rd_T47 l (i : Int)).f1⟩).set j ⟨(rd_T47 l (i : Int)).f0, (rd_T47 (l.set i ⟨(rd_T47 l (j : Int)).f0, (rd_T47 l (i : Int)).f1⟩) (j : Int)).f1⟩ = swapL l i j from rfl]
    rw [specLast_eq _ (by rw [swapL_length]; omega) (swapL_who l i j hi (by omega) hw) a b k (by rw [swapL_length]; omega), Option.bind_some, wrap_nat j (by omega)]
    rw [show lastQ (cntF (swapL l i j) 0 0) a b = swapQ l a b i j from rfl, show k + 1 - (d + 1 + 1) = k - (d + 1) by omega]
    conv => rhs; unfold pairsI
    by_cases e : swapQ l a b i j = true
    · rw [if_pos e, if_pos (by omega), if_pos e, ih (j + 1) k _ (by omega) (by omega) (by omega) (by simp; omega), List.append_assoc]
    · rw [if_neg e, if_neg e, ih (j + 1) k _ (by omega) (by omega) (by omega) (by omega), List.nil_append]
theorem specSw_l0 (l : List S47) (hl : l.length ≤ 1000) (hw : ∀ h ∈ l, 0 ≤ h.f0 ∧ h.f0 ≤ 999) (a b : Int) : ∀ (d i k : Nat) (xs : List S55), i + d = l.length → d * 1100 + 1048700 < k → xs.length + d * l.length ≤ 2000000 → spec_SwappedBy.l0 k l xs (i : Int) a b = some (xs ++ pairsO (swapQ l a b) l.length d i, 0) := by
  intro d
  induction d with
  | zero =>
    intro i k xs hi hk hx
    obtain ⟨k, rfl⟩ : ∃ m, k = m + 1 := ⟨k - 1, by omega⟩
    simp only [spec_SwappedBy.l0]
    rw [if_neg (by omega)]
    simp [pairsO]
  | succ d ih =>
    intro i k xs hi hk hx
    obtain ⟨k, rfl⟩ : ∃ m, k = m + 1 := ⟨k - 1, by omega⟩
    rw [Nat.succ_mul] at hk hx
    obtain ⟨D, hD⟩ : ∃ D, D = d * l.length := ⟨_, rfl⟩
    obtain ⟨E, hE⟩ : ∃ E, E = d * 1100 := ⟨_, rfl⟩
    have ih' := fun k xs (h1 : E + 1048700 < k) (h2 : xs.length + D ≤ 2000000) => ih (i + 1) k xs (by omega) (by rw [← hE]; exact h1) (by rw [← hD]; exact h2)
    rw [← hD] at hx
    rw [← hE] at hk
    clear hE hD ih
    have hp := pairsI_length (swapQ l a b) i (l.length - (i + 1)) (i + 1)
    simp only [spec_SwappedBy.l0]
    have e1 := specSw_l1 l hl hw a b i (by omega) (l.length - (i + 1)) (i + 1) k xs (by omega) (by omega) (by omega) (by omega)
    obtain ⟨m, hm⟩ : ∃ m, m = l.length - (i + 1) + 1 := ⟨_, rfl⟩
    have hm2 : m ≤ 1000 := by omega
    have q1 : E + 1048700 < k - (l.length - (i + 1) + 1) := by rw [← hm]; omega
    have e2 := ih' (k - (l.length - (i + 1) + 1)) (xs ++ pairsI (swapQ l a b) i (l.length - (i + 1)) (i + 1)) q1 (by rw [List.length_append]; omega)
    rw [if_pos (by omega), wrap_nat i (by omega), e1, e2, List.append_assoc]
    rfl
theorem implSw_l1 (l : List S47) (hl : l.length ≤ 1000) (hw : ∀ h ∈ l, 0 ≤ h.f0 ∧ h.f0 ≤ 999) (a b : Int) (i : Nat) (hi : i < l.length) : ∀ (d j k : Nat) (xs : List S55), i < j → j + d = l.length → d + 1048600 < k → xs.length + d ≤ 2000000 → impl_SwappedBy.l1 k l xs (i : Int) (j : Int) (l.length : Int) (i : Int) a b = impl_SwappedBy.l0 (k - (d + 1)) l (xs ++ pairsI (swapQ l a b) i d j) (l.length : Int) ((i + 1 : Nat) : Int) a b := by
  intro d
  induction d with
  | zero =>
    intro j k xs hij hj hk hx
    obtain ⟨k, rfl⟩ : ∃ m, k = m + 1 := ⟨k - 1, by omega⟩
    simp only [impl_SwappedBy.l1]
    rw [if_neg (by omega), wrap_nat i (by omega)]
    simp [pairsI]
  | succ d ih =>
    intro j k xs hij hj hk hx
    obtain ⟨k, rfl⟩ : ∃ m, k = m + 1 := ⟨k - 1, by omega⟩
    simp only [impl_SwappedBy.l1, slices_Clone_Hold.f, Option.bind_some, List.nil_append]
    rw [if_pos (by omega), if_pos (by simp only [List.length_nil]; omega), Option.bind_some, if_pos (by omega), if_pos (by omega), if_pos (by omega), if_pos (by omega), Int.toNat_natCast, Int.toNat_natCast]
    rw [show (l.set i ⟨(rd_T47 l (j : Int)).f0, (rd_T47 l (i : Int)).f1⟩).set j ⟨(rd_T47 l (i : Int)).f0, (rd_T47 (l.set i ⟨(rd_T47 l (j : Int)).f0, (rd_T47 l (i : Int)).f1⟩) (j : Int)).f1⟩ = swapL l i j from rfl]
    rw [implEnds_eq _ (by rw [swapL_length]; omega) (swapL_who l i j hi (by omega) hw) a b k (by rw [swapL_length]; omega), Option.bind_some, wrap_nat j (by omega)]
    rw [show lastQ (cntF (swapL l i j) 0 0) a b = swapQ l a b i j from rfl, show k + 1 - (d + 1 + 1) = k - (d + 1) by omega]
    conv => rhs; unfold pairsI
    by_cases e : swapQ l a b i j = true
    · rw [if_pos e, if_pos (by omega), if_pos e, ih (j + 1) k _ (by omega) (by omega) (by omega) (by simp; omega), List.append_assoc]
    · rw [if_neg e, if_neg e, ih (j + 1) k _ (by omega) (by omega) (by omega) (by omega), List.nil_append]
theorem implSw_l0 (l : List S47) (hl : l.length ≤ 1000) (hw : ∀ h ∈ l, 0 ≤ h.f0 ∧ h.f0 ≤ 999) (a b : Int) : ∀ (d i k : Nat) (xs : List S55), i + d = l.length → d * 1100 + 1048700 < k → xs.length + d * l.length ≤ 2000000 → impl_SwappedBy.l0 k l xs (l.length : Int) (i : Int) a b = some (xs ++ pairsO (swapQ l a b) l.length d i, 0) := by
  intro d
  induction d with
  | zero =>
    intro i k xs hi hk hx
    obtain ⟨k, rfl⟩ : ∃ m, k = m + 1 := ⟨k - 1, by omega⟩
    simp only [impl_SwappedBy.l0]
    rw [if_neg (by omega)]
    simp [pairsO]
  | succ d ih =>
    intro i k xs hi hk hx
    obtain ⟨k, rfl⟩ : ∃ m, k = m + 1 := ⟨k - 1, by omega⟩
    rw [Nat.succ_mul] at hk hx
    obtain ⟨D, hD⟩ : ∃ D, D = d * l.length := ⟨_, rfl⟩
    obtain ⟨E, hE⟩ : ∃ E, E = d * 1100 := ⟨_, rfl⟩
    have ih' := fun k xs (h1 : E + 1048700 < k) (h2 : xs.length + D ≤ 2000000) => ih (i + 1) k xs (by omega) (by rw [← hE]; exact h1) (by rw [← hD]; exact h2)
    rw [← hD] at hx
    rw [← hE] at hk
    clear hE hD ih
    have hp := pairsI_length (swapQ l a b) i (l.length - (i + 1)) (i + 1)
    simp only [impl_SwappedBy.l0]
    have e1 := implSw_l1 l hl hw a b i (by omega) (l.length - (i + 1)) (i + 1) k xs (by omega) (by omega) (by omega) (by omega)
    obtain ⟨m, hm⟩ : ∃ m, m = l.length - (i + 1) + 1 := ⟨_, rfl⟩
    have hm2 : m ≤ 1000 := by omega
    have q1 : E + 1048700 < k - (l.length - (i + 1) + 1) := by rw [← hm]; omega
    have e2 := ih' (k - (l.length - (i + 1) + 1)) (xs ++ pairsI (swapQ l a b) i (l.length - (i + 1)) (i + 1)) q1 (by rw [List.length_append]; omega)
    rw [if_pos (by omega), wrap_nat i (by omega), e1, e2, List.append_assoc]
    rfl
def finS (p : Int) (kn : List Int) (l : List S47) (a b : Int) : List S55 × Int :=
  if holdsOk p kn l = true then (pairsO (swapQ l a b) l.length l.length 0, 0) else ([], 1)
theorem finS_len (p : Int) (kn : List Int) (l : List S47) (a b : Int) : (finS p kn l a b).1.length ≤ 1600 := by
  unfold finS
  by_cases c : holdsOk p kn l = true
  · rw [if_pos c]
    have h := pairsO_length (swapQ l a b) l.length l.length 0
    have h40 := (holdsOk_facts p kn l c).2.2.1
    have := Nat.mul_le_mul h40 h40
    dsimp only
    omega
  · rw [if_neg c]; simp
theorem specS_fin (p : Int) (hp : -32768 ≤ p ∧ p ≤ 32767) (kn : List Int) (l : List S47) (hl : l.length ≤ 1048576) (hkn : kn.length ≤ 1048576) (hr : ∀ h ∈ l, holdR h) (a b : Int) (k : Nat) (hk : 1100000000000 < k) : spec_SwappedBy.f k p kn l a b = some (finS p kn l a b) := by
  unfold spec_SwappedBy.f finS
  rw [Option.bind_some, specHolds_eq p hp kn l hl hkn hr k hk, Option.bind_some]
  by_cases c : holdsOk p kn l = true
  · have h40 := (holdsOk_facts p kn l c).2.2.1
    have hm := Nat.mul_le_mul h40 h40
    have := specSw_l0 l (by omega) (holdsOk_who p kn l c) a b l.length 0 k [] (by omega) (by omega) (by simp only [List.length_nil]; omega)
    rw [show ((0 : Nat) : Int) = 0 from rfl] at this
    rw [if_pos c, if_pos c, this]; rfl
  · rw [if_neg c, if_neg c]
theorem implS_fin (p : Int) (hp : -32768 ≤ p ∧ p ≤ 32767) (kn : List Int) (l : List S47) (hl : l.length ≤ 1048576) (hkn : kn.length ≤ 1048576) (hr : ∀ h ∈ l, holdR h) (a b : Int) (k : Nat) (hk : 3000000 < k) : impl_SwappedBy.f k p kn l a b = some (finS p kn l a b) := by
  unfold impl_SwappedBy.f finS
  rw [implHolds_eq p hp kn l hl hkn hr k hk, Option.bind_some]
  by_cases c : holdsOk p kn l = true
  · have h40 := (holdsOk_facts p kn l c).2.2.1
    have hm := Nat.mul_le_mul h40 h40
    have := implSw_l0 l (by omega) (holdsOk_who p kn l c) a b l.length 0 k [] (by omega) (by omega) (by simp only [List.length_nil]; omega)
    rw [show ((0 : Nat) : Int) = 0 from rfl] at this
    rw [if_pos c, if_pos c, this]; rfl
  · rw [if_neg c, if_neg c]

theorem has_l0 (l : List Int) (a : Int) (hl : l.length ≤ 1048576) : ∀ (d i k : Nat), i + d = l.length → d < k → spec_l00Has.l0 k l a (i : Int) = some (decide (a ∈ l.drop i)) := by
  intro d
  induction d with
  | zero =>
    intro i k hi hk
    obtain ⟨k, rfl⟩ : ∃ m, k = m + 1 := ⟨k - 1, by omega⟩
    simp only [spec_l00Has.l0]
    rw [if_neg (by omega), List.drop_eq_nil_of_le (by omega)]
    simp
  | succ d ih =>
    intro i k hi hk
    obtain ⟨k, rfl⟩ : ∃ m, k = m + 1 := ⟨k - 1, by omega⟩
    simp only [spec_l00Has.l0]
    have hd : l.drop i = rd l (i : Int) :: l.drop (i + 1) := by rw [rd_nat]; exact drop_getD 0 l i (by omega)
    rw [if_pos (by omega), if_pos (by omega), hd, wrap_nat i (by omega)]
    by_cases e : rd l (i : Int) = a
    · rw [if_pos e]; simp [e]
    · rw [if_neg e, ih (i + 1) k (by omega) (by omega)]
      congr 1
      apply decide_eq_decide.2
      rw [List.mem_cons]
      constructor
      · exact Or.inr
      · rintro (h | h)
        · exact absurd h.symm e
        · exact h
theorem same_l0 (l : List Int) (hl : l.length ≤ 1048576) : ∀ (d i k : Nat), i + d = l.length → d < k → spec_l00Same.l0 k l l (i : Int) = some true := by
  intro d
  induction d with
  | zero =>
    intro i k hi hk
    obtain ⟨k, rfl⟩ : ∃ m, k = m + 1 := ⟨k - 1, by omega⟩
    simp only [spec_l00Same.l0]
    rw [if_neg (by omega)]
  | succ d ih =>
    intro i k hi hk
    obtain ⟨k, rfl⟩ : ∃ m, k = m + 1 := ⟨k - 1, by omega⟩
    simp only [spec_l00Same.l0]
    rw [if_pos (by omega), if_pos (by omega), if_pos (by omega), if_pos trivial, wrap_nat i (by omega), ih (i + 1) k (by omega) (by omega)]
theorem same_eq (l : List Int) (hl : l.length ≤ 1000) (k : Nat) (hk : 1000 < k) : spec_SameNumbers.f k l l = some true := by
  unfold spec_SameNumbers.f spec_l00Same.f
  rw [if_pos rfl]
  have := same_l0 l (by omega) l.length 0 k (by omega) (by omega)
  rw [show ((0 : Nat) : Int) = 0 from rfl] at this
  rw [this, Option.bind_some]

def sq (l : List S47) : Nat → Int × Int
  | 0 => (0, 0)
  | i + 1 => ((sq l i).1 + 1, (7 * (sq l i).2 + (rd_T47 l (i : Int)).f0 + 1) % 97)
theorem sq_fst (l : List S47) : ∀ i : Nat, (sq l i).1 = (i : Int)
  | 0 => rfl
  | i + 1 => by
    have := sq_fst l i
    simp only [sq]; omega
theorem sq_snd (l : List S47) : ∀ i : Nat, 0 ≤ (sq l i).2 ∧ (sq l i).2 ≤ 96
  | 0 => by simp [sq]
  | i + 1 => by simp only [sq]; omega
theorem cntF_sq (l : List S47) : ∀ (d i : Nat), i + d = l.length → ∀ t : Nat, t < d → (cntF (l.drop i) (sq l i).1 (sq l i).2)[t]? = some ⟨(sq l (i + t + 1)).1, (sq l (i + t + 1)).2⟩ := by
  intro d
  induction d with
  | zero => intro i _ t ht; omega
  | succ d ih =>
    intro i hi t ht
    rw [drop_hold l i (by omega)]
    unfold cntF
    cases t with
    | zero => rfl
    | succ t =>
      rw [List.getElem?_cons_succ]
      have := ih (i + 1) (by omega) t (by omega)
      rw [show i + (t + 1) + 1 = i + 1 + t + 1 by omega]
      exact this
theorem rd_said_get (t : List S40) (i : Nat) : rd_T40 t (i : Int) = (t[i]?).getD z40 := by
  simp [rd_T40, List.getD_eq_getElem?_getD]
theorem cnt_rd (l : List S47) (i : Nat) (hi : i < l.length) : rd_T40 (cntF l 0 0) (i : Int) = ⟨(sq l (i + 1)).1, (sq l (i + 1)).2⟩ := by
  have := cntF_sq l l.length 0 (by omega) i hi
  rw [List.drop_zero, Nat.zero_add] at this
  rw [rd_said_get, show cntF l 0 0 = cntF l (sq l 0).1 (sq l 0).2 from rfl, this]
  rfl
theorem specCA {p : Int} {kn : List Int} {l : List S47} (h : HOK p kn l) (hk : kn.length ≤ 100) (hp : -32768 ≤ p ∧ p ≤ 32767) (k : Nat) (hkk : 1100000000000 < k) : spec_CountAlong.f k p kn l = some (cntF l 0 0, 0) := by
  have hl := h.len
  unfold spec_CountAlong.f
  rw [specHolds_eq p hp kn l (by omega) (by omega) (h.holdR hk) k hkk, Option.bind_some, h.ok, if_pos rfl, specCount_eq l (by omega) h.who k (by omega), Option.bind_some]
theorem implCA {p : Int} {kn : List Int} {l : List S47} (h : HOK p kn l) (hk : kn.length ≤ 100) (hp : -32768 ≤ p ∧ p ≤ 32767) (k : Nat) (hkk : 3000000 < k) : impl_CountAlong.f k p kn l = some (cntF l 0 0, 0) := by
  have hl := h.len
  unfold impl_CountAlong.f
  rw [implHolds_eq p hp kn l (by omega) (by omega) (h.holdR hk) k hkk, Option.bind_some, h.ok, if_pos rfl, implCount_eq l (by omega) h.who k (by omega), Option.bind_some]
theorem eqSaid_refl (a : List S40) (hl : a.length ≤ 1048576) : ∀ (d i k : Nat), i + d = a.length → d < k → slices_Equal_Said.l0 k a a (a.length : Int) (i : Int) = some true := by
  intro d
  induction d with
  | zero =>
    intro i k hi hk
    obtain ⟨k, rfl⟩ : ∃ m, k = m + 1 := ⟨k - 1, by omega⟩
    simp only [slices_Equal_Said.l0]
    rw [if_neg (by omega)]
  | succ d ih =>
    intro i k hi hk
    obtain ⟨k, rfl⟩ : ∃ m, k = m + 1 := ⟨k - 1, by omega⟩
    simp only [slices_Equal_Said.l0]
    rw [if_pos (by omega), if_pos (by omega), if_pos (by omega), if_pos (by omega), if_neg (by simp), wrap_nat i (by omega), ih (i + 1) k (by omega) (by omega)]
theorem eqSaid_ne (a b : List S40) (hl : a.length ≤ 1048576) (hab : a.length = b.length) (m : Nat) (hm : m < a.length) (hne : (rd_T40 a (m : Int)).f1 ≠ (rd_T40 b (m : Int)).f1) : ∀ (d i k : Nat), i + d = m → d < k → slices_Equal_Said.l0 k a b (a.length : Int) (i : Int) = some false := by
  intro d
  induction d with
  | zero =>
    intro i k hi hk
    obtain ⟨k, rfl⟩ : ∃ m, k = m + 1 := ⟨k - 1, by omega⟩
    obtain rfl : i = m := by omega
    simp only [slices_Equal_Said.l0]
    rw [if_pos (by omega), if_pos (by omega), if_pos (by omega), if_pos (by omega), if_pos]
    have : ((rd_T40 a (i : Int)).f1 == (rd_T40 b (i : Int)).f1) = false := beq_eq_false_iff_ne.2 hne
    rw [this]; simp
  | succ d ih =>
    intro i k hi hk
    obtain ⟨k, rfl⟩ : ∃ m, k = m + 1 := ⟨k - 1, by omega⟩
    simp only [slices_Equal_Said.l0]
    rw [if_pos (by omega), if_pos (by omega), if_pos (by omega), if_pos (by omega), wrap_nat i (by omega), ih (i + 1) k (by omega) (by omega)]
    split <;> rfl
theorem sameSaid_refl (a : List S40) (hl : a.length ≤ 1048576) : ∀ (d i k : Nat), i + d = a.length → d < k → spec_SameSaid.l0 k a a (i : Int) = some true := by
  intro d
  induction d with
  | zero =>
    intro i k hi hk
    obtain ⟨k, rfl⟩ : ∃ m, k = m + 1 := ⟨k - 1, by omega⟩
    simp only [spec_SameSaid.l0]
    rw [if_neg (by omega)]
  | succ d ih =>
    intro i k hi hk
    obtain ⟨k, rfl⟩ : ∃ m, k = m + 1 := ⟨k - 1, by omega⟩
    simp only [spec_SameSaid.l0]
    rw [if_pos (by omega), if_pos (by omega), if_pos (by omega), if_neg (by simp), wrap_nat i (by omega), ih (i + 1) k (by omega) (by omega)]
theorem sameSaid_eq (a : List S40) (hl : a.length ≤ 1000) (k : Nat) (hk : 1000 < k) : spec_SameSaid.f k a a = some true := by
  unfold spec_SameSaid.f
  have := sameSaid_refl a (by omega) a.length 0 k (by omega) (by omega)
  rw [show ((0 : Nat) : Int) = 0 from rfl] at this
  rw [if_pos rfl, this]
theorem implCC_eq {p : Int} {kn : List Int} {l : List S47} (h : HOK p kn l) (hk : kn.length ≤ 100) (hp : -32768 ≤ p ∧ p ≤ 32767) (k : Nat) (hkk : 3000000 < k) : impl_CheckCount.f k p kn l (cntF l 0 0) = some (true, 0) := by
  have hl := h.len
  have hc := cntF_length l 0 0
  unfold impl_CheckCount.f slices_Equal_Said.f
  have := eqSaid_refl (cntF l 0 0) (by omega) (cntF l 0 0).length 0 k (by omega) (by omega)
  rw [show ((0 : Nat) : Int) = 0 from rfl] at this
  rw [implCA h hk hp k hkk, Option.bind_some]
  dsimp only
  rw [if_pos rfl, if_pos rfl, this, Option.bind_some]
theorem implCC_ne {p : Int} {kn : List Int} {l : List S47} (h : HOK p kn l) (hk : kn.length ≤ 100) (hp : -32768 ≤ p ∧ p ≤ 32767) (b : List S40) (hb : b.length = l.length) (m : Nat) (hm : m < l.length) (hne : (sq l (m + 1)).2 ≠ (rd_T40 b (m : Int)).f1) (k : Nat) (hkk : 3000000 < k) : impl_CheckCount.f k p kn l b = some (false, 0) := by
  have hl := h.len
  have hc := cntF_length l 0 0
  unfold impl_CheckCount.f slices_Equal_Said.f
  have := eqSaid_ne (cntF l 0 0) b (by omega) (by omega) m (by omega) (by rw [cnt_rd l m hm]; exact hne) m 0 k (by omega) (by omega)
  rw [show ((0 : Nat) : Int) = 0 from rfl] at this
  rw [implCA h hk hp k hkk, Option.bind_some]
  dsimp only
  rw [if_pos rfl, if_pos (by omega), this, Option.bind_some]
theorem ff_step (l : List S47) (hl : l.length ≤ 1000) (hw : ∀ h ∈ l, 0 ≤ h.f0 ∧ h.f0 ≤ 999) (t : List S40) (m : Nat) (hm : m ≤ l.length) (hmt : m ≤ t.length) (hj : ∀ j : Nat, j < m → rd_T40 t (j : Int) = ⟨(sq l (j + 1)).1, (sq l (j + 1)).2⟩) : ∀ (d i k : Nat), i + d = m → impl_FirstFault.l0 (k + d) l t l (l.length : Int) (i : Int) (sq l i).1 (sq l i).2 = impl_FirstFault.l0 k l t l (l.length : Int) (m : Int) (sq l m).1 (sq l m).2 := by
  intro d
  induction d with
  | zero => intro i k hi; obtain rfl : i = m := by omega
            rfl
  | succ d ih =>
    intro i k hi
    rw [show k + (d + 1) = (k + d) + 1 by omega]
    have h1 := sq_fst l i
    have h2 := sq_snd l i
    conv => lhs; unfold impl_FirstFault.l0
    rw [if_pos (by omega), if_pos (by omega), if_pos (by omega), if_neg (by omega), if_pos (by omega), implNext_eq _ _ _ _ (by omega) h2 (hw _ (mem_hold l i (by omega))), Option.bind_some, hj i (by omega)]
    dsimp only
    rw [if_neg (by simp [sq]), wrap_nat i (by omega)]
    exact ih (i + 1) k (by omega)
theorem ff_all {p : Int} {kn : List Int} {l : List S47} (h : HOK p kn l) (hk : kn.length ≤ 100) (hp : -32768 ≤ p ∧ p ≤ 32767) (t : List S40) (ht : l.length ≤ t.length) (hj : ∀ j : Nat, j < l.length → rd_T40 t (j : Int) = ⟨(sq l (j + 1)).1, (sq l (j + 1)).2⟩) (k : Nat) (hkk : 3000000 < k) : impl_FirstFault.f k p kn l t = some (if l.length < t.length then ((l.length : Int), 0) else (0, 6)) := by
  have hl := h.len
  unfold impl_FirstFault.f
  rw [implHolds_eq p hp kn l (by omega) (by omega) (h.holdR hk) k hkk, Option.bind_some, h.ok, if_pos rfl]
  have := ff_step l (by omega) h.who t l.length (Nat.le_refl _) ht hj l.length 0 (k - l.length) (by omega)
  rw [show k - l.length + l.length = k by omega, show ((0 : Nat) : Int) = 0 from rfl] at this
  obtain ⟨q, hq⟩ : ∃ q, k - l.length = q + 1 := ⟨k - l.length - 1, by omega⟩
  rw [show impl_FirstFault.l0 k l t l (l.length : Int) 0 0 0 = impl_FirstFault.l0 k l t l (l.length : Int) 0 (sq l 0).1 (sq l 0).2 from rfl, this, hq]
  unfold impl_FirstFault.l0 impl_size_Hold.f
  rw [if_neg (by omega)]
  by_cases c : l.length < t.length
  · rw [if_pos (by omega), if_pos c]; rfl
  · rw [if_neg (by omega), if_neg c]
theorem ff_at {p : Int} {kn : List Int} {l : List S47} (h : HOK p kn l) (hk : kn.length ≤ 100) (hp : -32768 ≤ p ∧ p ≤ 32767) (t : List S40) (m : Nat) (hm : m < l.length) (hmt : m ≤ t.length) (hj : ∀ j : Nat, j < m → rd_T40 t (j : Int) = ⟨(sq l (j + 1)).1, (sq l (j + 1)).2⟩) (hbad : t.length = m ∨ (rd_T40 t (m : Int)).f1 ≠ (sq l (m + 1)).2) (k : Nat) (hkk : 3000000 < k) : impl_FirstFault.f k p kn l t = some ((m : Int), 0) := by
  have hl := h.len
  unfold impl_FirstFault.f
  rw [implHolds_eq p hp kn l (by omega) (by omega) (h.holdR hk) k hkk, Option.bind_some, h.ok, if_pos rfl]
  have := ff_step l (by omega) h.who t m (by omega) hmt hj m 0 (k - m) (by omega)
  rw [show k - m + m = k by omega, show ((0 : Nat) : Int) = 0 from rfl] at this
  obtain ⟨q, hq⟩ : ∃ q, k - m = q + 1 := ⟨k - m - 1, by omega⟩
  rw [show impl_FirstFault.l0 k l t l (l.length : Int) 0 0 0 = impl_FirstFault.l0 k l t l (l.length : Int) 0 (sq l 0).1 (sq l 0).2 from rfl, this, hq]
  have h1 := sq_fst l m
  have h2 := sq_snd l m
  unfold impl_FirstFault.l0
  rw [if_pos (by omega), if_pos (by omega), if_pos (by omega)]
  by_cases c : t.length = m
  · rw [if_pos (by omega)]
  · rw [if_neg (by omega), if_pos (by omega), implNext_eq _ _ _ _ (by omega) h2 (h.who _ (mem_hold l m hm)), Option.bind_some]
    dsimp only
    have hb := hbad.resolve_left c
    have : ((rd_T40 t (m : Int)).f1 == (7 * (sq l m).2 + (rd_T47 l (m : Int)).f0 + 1) % 97) = false := beq_eq_false_iff_ne.2 hb
    rw [if_pos (by rw [this]; simp)]
theorem lastQ_self (t : List S40) (h : t.length ≠ 0) : lastQ t (rd_T40 t ((t.length : Int) - 1)).f0 (rd_T40 t ((t.length : Int) - 1)).f1 = true := by
  unfold lastQ
  rw [if_neg h]; simp
theorem swapL_get (l : List S47) (i j : Nat) (hi : i < l.length) (hj : j < l.length) (hij : i ≠ j) (t : Nat) (ht : t < l.length) : (swapL l i j)[t]? = some ⟨(l[if t = i then j else if t = j then i else t]'(by split <;> (try split) <;> omega)).f0, l[t].f1⟩ := by
  unfold swapL
  rw [rd_hold_get l i hi, rd_hold_get l j hj]
  have e1 : rd_T47 (l.set i ⟨l[j].f0, l[i].f1⟩) (j : Int) = l[j] := by
    rw [rd_hold_get _ j (by simpa using hj), List.getElem_set_ne hij]
  rw [e1]
  by_cases c1 : t = j
  · subst c1
    rw [List.getElem?_set_self (by simpa using ht)]
    simp only [if_neg (Ne.symm hij)]
    simp
  · rw [List.getElem?_set_ne (fun e => c1 e.symm)]
    by_cases c2 : t = i
    · subst c2
      rw [List.getElem?_set_self ht]
      simp
    · rw [List.getElem?_set_ne (fun e => c2 e.symm), List.getElem?_eq_getElem ht]
      simp [c1, c2]
theorem swapL_getE (l : List S47) (i j : Nat) (hi : i < l.length) (hj : j < l.length) (hij : i ≠ j) (t : Nat) (ht : t < (swapL l i j).length) (ht2 : t < l.length) (hx : (if t = i then j else if t = j then i else t) < l.length) : (swapL l i j)[t] = ⟨(l[if t = i then j else if t = j then i else t]'hx).f0, l[t].f1⟩ := by
  have := swapL_get l i j hi hj hij t ht2
  rw [List.getElem?_eq_getElem ht] at this
  exact Option.some.inj this
theorem swapL_comm (l : List S47) (i j : Nat) (hi : i < l.length) (hj : j < l.length) (hij : i ≠ j) : swapL l i j = swapL l j i := by
  apply List.ext_getElem?
  intro t
  by_cases ht : t < l.length
  · rw [swapL_get l i j hi hj hij t ht, swapL_get l j i hj hi (Ne.symm hij) t ht]
    congr 3
    congr 1
    by_cases c1 : t = i
    · by_cases c2 : t = j
      · omega
      · simp [c1, hij]
    · by_cases c2 : t = j
      · simp [c2, Ne.symm hij]
      · simp [c1, c2]
  · rw [List.getElem?_eq_none (by rw [swapL_length]; omega), List.getElem?_eq_none (by rw [swapL_length]; omega)]
theorem HOK.swap {p : Int} {kn : List Int} {l : List S47} (h : HOK p kn l) (i j : Nat) (hi : i < l.length) (hj : j < l.length) (hij : i ≠ j) : HOK p kn (swapL l i j) := by
  have hup := List.pairwise_iff_getElem.1 h.up
  have hdis := List.pairwise_iff_getElem.1 h.dis
  have hne : ∀ (a b : Nat) (ha : a < l.length) (hb : b < l.length), a ≠ b → l[a].f0 ≠ l[b].f0 := fun a b ha hb e => by
    rcases Nat.lt_or_gt_of_ne e with q | q
    · exact hdis a b ha hb q
    · exact (hdis b a hb ha q).symm
  have hx : ∀ t, t < l.length → (if t = i then j else if t = j then i else t) < l.length := fun t ht => by split <;> (try split) <;> omega
  refine ⟨h.rope, fun x hx' => ?_, ?_, ?_⟩
  · obtain ⟨t, ht, rfl⟩ := List.getElem_of_mem hx'
    have ht2 : t < l.length := by rw [swapL_length] at ht; exact ht
    rw [swapL_getE l i j hi hj hij t ht ht2 (hx t ht2)]
    exact ⟨(h.rng _ (List.getElem_mem (hx t ht2))).1, (h.rng _ (List.getElem_mem ht2)).2⟩
  · rw [List.pairwise_iff_getElem]
    intro a b ha hb hab
    have ha2 : a < l.length := by rw [swapL_length] at ha; exact ha
    have hb2 : b < l.length := by rw [swapL_length] at hb; exact hb
    rw [swapL_getE l i j hi hj hij a ha ha2 (hx a ha2), swapL_getE l i j hi hj hij b hb hb2 (hx b hb2)]
    exact hup a b ha2 hb2 hab
  · rw [List.pairwise_iff_getElem]
    intro a b ha hb hab
    have ha2 : a < l.length := by rw [swapL_length] at ha; exact ha
    have hb2 : b < l.length := by rw [swapL_length] at hb; exact hb
    rw [swapL_getE l i j hi hj hij a ha ha2 (hx a ha2), swapL_getE l i j hi hj hij b hb hb2 (hx b hb2)]
    refine hne _ _ (hx a ha2) (hx b hb2) ?_
    split <;> split <;> (try split) <;> (try split) <;> omega
theorem mem_pairsI (q : Nat → Nat → Bool) (i j : Nat) (hq : q i j = true) : ∀ (d a : Nat), a ≤ j → j < a + d → (⟨(i : Int), (j : Int)⟩ : S55) ∈ pairsI q i d a := by
  intro d
  induction d with
  | zero => intro a h1 h2; omega
  | succ d ih =>
    intro a h1 h2
    unfold pairsI
    by_cases e : a = j
    · subst e
      rw [if_pos hq]; simp
    · exact List.mem_append_right _ (ih (a + 1) (by omega) (by omega))
theorem mem_pairsO (q : Nat → Nat → Bool) (n i j : Nat) (hij : i < j) (hj : j < n) (hq : q i j = true) : ∀ (d a : Nat), a ≤ i → i < a + d → (⟨(i : Int), (j : Int)⟩ : S55) ∈ pairsO q n d a := by
  intro d
  induction d with
  | zero => intro a h1 h2; omega
  | succ d ih =>
    intro a h1 h2
    unfold pairsO
    by_cases e : a = i
    · subst e
      exact List.mem_append_left _ (mem_pairsI q a j hq _ _ (by omega) (by omega))
    · exact List.mem_append_right _ (ih (a + 1) (by omega) (by omega))
theorem rd_pair_get (t : List S55) (i : Nat) (h : i < t.length) : rd_T55 t (i : Int) = t[i] := by
  simp [rd_T55, List.getD_eq_getElem?_getD, List.getElem?_eq_getElem h]
theorem hasPair_l0 (l : List S55) (hl : l.length ≤ 1048576) (a b : Int) : ∀ (d i k : Nat), i + d = l.length → d < k → (⟨a, b⟩ : S55) ∈ l.drop i → spec_HasPair.l0 k l (i : Int) a b = some true := by
  intro d
  induction d with
  | zero =>
    intro i k hi hk hm
    rw [List.drop_eq_nil_of_le (by omega)] at hm
    exact absurd hm (by simp)
  | succ d ih =>
    intro i k hi hk hm
    obtain ⟨k, rfl⟩ : ∃ m, k = m + 1 := ⟨k - 1, by omega⟩
    rw [List.drop_eq_getElem_cons (by omega)] at hm
    simp only [spec_HasPair.l0]
    rw [if_pos (by omega), if_pos (by omega), wrap_nat i (by omega), rd_pair_get l i (by omega)]
    rcases List.mem_cons.1 hm with h | h
    · rw [if_pos (by rw [← h]; simp)]
    · rw [ih (i + 1) k (by omega) (by omega) h]
      split <;> rfl
theorem samePairs_refl (a : List S55) (hl : a.length ≤ 1048576) : ∀ (d i k : Nat), i + d = a.length → d < k → spec_SamePairs.l0 k a a (i : Int) = some true := by
  intro d
  induction d with
  | zero =>
    intro i k hi hk
    obtain ⟨k, rfl⟩ : ∃ m, k = m + 1 := ⟨k - 1, by omega⟩
    simp only [spec_SamePairs.l0]
    rw [if_neg (by omega)]
  | succ d ih =>
    intro i k hi hk
    obtain ⟨k, rfl⟩ : ∃ m, k = m + 1 := ⟨k - 1, by omega⟩
    simp only [spec_SamePairs.l0]
    rw [if_pos (by omega), if_pos (by omega), if_pos (by omega), if_neg (by simp), wrap_nat i (by omega), ih (i + 1) k (by omega) (by omega)]
theorem mem_picks (q : Nat → Bool) : ∀ (d i j : Nat), i ≤ j → j < i + d → q j = true → ((j : Int) ∈ picks q d i)
  | 0, i, j => by intro h1 h2; omega
  | d + 1, i, j => by
    intro h1 h2 h3
    unfold picks
    by_cases e : i = j
    · subst e
      rw [if_pos h3]; simp
    · have := mem_picks q d (i + 1) j (by omega) (by omega) h3
      split
      · exact List.mem_cons_of_mem _ this
      · exact this
theorem has_mem (l : List Int) (hl : l.length ≤ 1000) (a : Int) (h : a ∈ l) (k : Nat) (hk : 1000 < k) : spec_HasNumber.f k l a = some true := by
  unfold spec_HasNumber.f spec_l00Has.f
  have := has_l0 l a (by omega) l.length 0 k (by omega) (by omega)
  rw [show ((0 : Nat) : Int) = 0 from rfl, List.drop_zero, decide_eq_true h] at this
  rw [this, Option.bind_some]

theorem p6pick_any (c : List Int) (hc : srcOk c) (n : Int) (hn : 1 ≤ n ∧ n ≤ 200) : ∃ v : Nat, spec_P6Pick.f c n = some (v : Int) ∧ (v : Int) ≤ n - 1 := by
  by_cases h : n = 1
  · subst h
    refine ⟨0, ?_, by decide⟩
    unfold spec_P6Pick.f spec_l00From.f spec_l00Src_pick.f
    rfl
  · obtain ⟨v, e, h0, h1⟩ := p6pick_eq c hc n (by omega)
    obtain ⟨m, rfl⟩ := Int.eq_ofNat_of_zero_le h0
    exact ⟨m, e, h1⟩
theorem law_l0 (x0 x1 : List Int) (hs : List S47) (hl : hs.length ≤ 40) (p : Int) (kn : List Int) : ∀ (d i q : Nat), i + d = hs.length → laws_FnSaid.l0 (q + d) x0 x1 hs (cntF hs 0 0) (i : Int) p kn = laws_FnSaid.l0 q x0 x1 hs (cntF hs 0 0) (hs.length : Int) p kn := by
  intro d
  induction d with
  | zero => intro i q hi; obtain rfl : i = hs.length := by omega
            rfl
  | succ d ih =>
    intro i q hi
    have hc := cntF_length hs 0 0
    have h1 := sq_fst hs (i + 1)
    have h2 := sq_snd hs (i + 1)
    rw [show q + (d + 1) = (q + d) + 1 by omega]
    conv => lhs; unfold laws_FnSaid.l0
    rw [if_pos (by omega), if_pos (by omega), cnt_rd hs i (by omega), wrap_nat i (by omega)]
    dsimp only
    rw [if_pos (by omega), if_neg (by omega), if_neg (by omega)]
    exact ih (i + 1) q (by omega)
theorem law_j5 (k : Nat) (hk : 1100000000001 < k) {p : Int} {kn : List Int} {hs : List S47} (hp : -32768 ≤ p ∧ p ≤ 32767) (hkn : kn.length ≤ 8) (hh : HOK p kn hs) (i m : Nat) (hi : i < hs.length) (hm : m < hs.length) (him : i ≠ m) : laws_FnSaid.j5 k hs (i : Int) (m : Int) (cntF (swapL hs i m) 0 0) ((((cntF (swapL hs i m) 0 0).length : Int)) == 0) p kn = some true := by
  obtain ⟨k, rfl⟩ : ∃ q, k = q + 1 := ⟨k - 1, by omega⟩
  have hl := hh.len
  have hc := cntF_length (swapL hs i m) 0 0
  rw [swapL_length] at hc
  have hw := hh.swap i m hi hm him
  obtain ⟨i2, m2, hlt, hm2, hsw, hmn, hmx⟩ : ∃ i2 m2 : Nat, i2 < m2 ∧ m2 < hs.length ∧ swapL hs i m = swapL hs i2 m2 ∧ mn (i : Int) (m : Int) = (i2 : Int) ∧ mx (i : Int) (m : Int) = (m2 : Int) := by
    rcases Nat.lt_or_gt_of_ne him with h | h
    · exact ⟨i, m, h, hm, rfl, by unfold mn; rw [if_neg (by omega)], by unfold mx; rw [if_pos (by omega)]⟩
    · exact ⟨m, i, h, hi, swapL_comm hs i m hi hm him, by unfold mn; rw [if_pos (by omega)], by unfold mx; rw [if_neg (by omega)]⟩
  have hself := lastQ_self (cntF (swapL hs i m) 0 0) (by omega)
  have hle := finS_len p kn hs (rd_T40 (cntF (swapL hs i m) 0 0) (((cntF (swapL hs i m) 0 0).length : Int) - 1)).f0 (rd_T40 (cntF (swapL hs i m) 0 0) (((cntF (swapL hs i m) 0 0).length : Int) - 1)).f1
  obtain ⟨A, hA⟩ : ∃ A, A = (rd_T40 (cntF (swapL hs i m) 0 0) (((cntF (swapL hs i m) 0 0).length : Int) - 1)).f0 := ⟨_, rfl⟩
  obtain ⟨B, hB⟩ : ∃ B, B = (rd_T40 (cntF (swapL hs i m) 0 0) (((cntF (swapL hs i m) 0 0).length : Int) - 1)).f1 := ⟨_, rfl⟩
  rw [← hA, ← hB] at hself hle
  simp only [laws_FnSaid.j5]
  rw [if_neg (by rw [beq_iff_eq]; omega), wrap64_id _ (by omega) (by omega), if_pos (by omega), if_pos (by omega), ← hA, ← hB, implS_fin p hp kn hs (by omega) (by omega) (hh.holdR (by omega)) A B k (by omega), Option.bind_some, specS_fin p hp kn hs (by omega) (by omega) (hh.holdR (by omega)) A B k (by omega), Option.bind_some, if_pos rfl]
  unfold finS at hle ⊢
  rw [hh.ok, if_pos rfl] at hle
  rw [hh.ok, if_pos rfl]
  have hmem := mem_pairsO (swapQ hs A B) hs.length i2 m2 hlt hm2 (by unfold swapQ; rw [← hsw]; exact hself) hs.length 0 (by omega) (by omega)
  generalize pairsO (swapQ hs A B) hs.length hs.length 0 = PO at hle hmem ⊢
  dsimp only at hle ⊢
  rw [if_pos rfl]
  unfold spec_SamePairs.f spec_HasPair.f
  have hr := samePairs_refl PO (by omega) PO.length 0 k (by omega) (by omega)
  have hp2 := hasPair_l0 PO (by omega) (i2 : Int) (m2 : Int) PO.length 0 k (by omega) (by omega) (by rw [List.drop_zero]; exact hmem)
  rw [show ((0 : Nat) : Int) = 0 from rfl] at hr hp2
  rw [if_pos rfl, hr, Option.bind_some, if_pos rfl, hmn, hmx, hp2, Option.bind_some]
set_option maxHeartbeats 1000000 in
theorem law_j4 (k : Nat) (hk : 1100000000002 < k) {p : Int} {kn : List Int} {hs : List S47} (hp : -32768 ≤ p ∧ p ≤ 32767) (hkn : kn.length ≤ 8) (hh : HOK p kn hs) (i : Nat) (hi : i < hs.length) (hn : 2 ≤ hs.length) : laws_FnSaid.j4 k hs (hs.length : Int) (i : Int) (cntF (hs.eraseIdx i) 0 0) ((((cntF (hs.eraseIdx i) 0 0).length : Int)) == 0) p kn = some true := by
  obtain ⟨k, rfl⟩ : ∃ q, k = q + 1 := ⟨k - 1, by omega⟩
  have hl := hh.len
  have hc := cntF_length (hs.eraseIdx i) 0 0
  rw [List.length_eraseIdx_of_lt hi] at hc
  have hself := lastQ_self (cntF (hs.eraseIdx i) 0 0) (by omega)
  obtain ⟨A, hA⟩ : ∃ A, A = (rd_T40 (cntF (hs.eraseIdx i) 0 0) (((cntF (hs.eraseIdx i) 0 0).length : Int) - 1)).f0 := ⟨_, rfl⟩
  obtain ⟨B, hB⟩ : ∃ B, B = (rd_T40 (cntF (hs.eraseIdx i) 0 0) (((cntF (hs.eraseIdx i) 0 0).length : Int) - 1)).f1 := ⟨_, rfl⟩
  have hle := finM_len p kn hs A B
  obtain ⟨m, hm⟩ : ∃ m : Nat, m = (i + 1) % hs.length := ⟨_, rfl⟩
  have hm1 : m < hs.length := by rw [hm]; exact Nat.mod_lt _ (by omega)
  have him : i ≠ m := by
    rw [hm]
    by_cases e : i + 1 < hs.length
    · rw [Nat.mod_eq_of_lt e]; omega
    · rw [show i + 1 = hs.length by omega, Nat.mod_self]; omega
  have hmt : Int.tmod (wrap64 ((i : Int) + 1)) (hs.length : Int) = (m : Int) := by
    rw [wrap_nat i (by omega), Int.tmod_eq_emod_of_nonneg (by omega), hm]; omega
  simp only [laws_FnSaid.j4, hmt]
  rw [if_neg (by rw [beq_iff_eq]; omega), wrap64_id _ (by omega) (by omega), if_pos (by omega), if_pos (by omega), ← hA, ← hB, implM_fin p hp kn hs (by omega) (by omega) (hh.holdR (by omega)) A B k (by omega), Option.bind_some, specM_fin p hp kn hs (by omega) (by omega) (hh.holdR (by omega)) A B k (by omega), Option.bind_some]
  rw [if_neg (show ¬ ((hs.length : Int) = 0) by omega), Option.bind_some]
  simp only [List.nil_append]
  rw [if_pos (show ([] : List S47).length + hs.length < 35184372088832 by simp only [List.length_nil]; omega), Option.bind_some]
  rw [if_pos (Int.natCast_nonneg m), if_pos (Int.ofNat_lt.2 hm1), if_pos (Int.natCast_nonneg i), if_pos (Int.ofNat_lt.2 hi), Option.bind_some, if_pos (Int.ofNat_lt.2 hi), if_pos (Int.ofNat_lt.2 hm1), Int.toNat_natCast, Int.toNat_natCast]
  rw [show (hs.set i ⟨(rd_T47 hs (m : Int)).f0, (rd_T47 hs (i : Int)).f1⟩).set m ⟨(rd_T47 hs (i : Int)).f0, (rd_T47 (hs.set i ⟨(rd_T47 hs (m : Int)).f0, (rd_T47 hs (i : Int)).f1⟩) (m : Int)).f1⟩ = swapL hs i m from rfl]
  rw [specCA (hh.swap i m hi hm1 him) (by omega) hp k (by omega), Option.bind_some, if_pos rfl]
  unfold finM at hle ⊢
  rw [hh.ok, if_pos rfl] at hle
  rw [hh.ok, if_pos rfl]
  dsimp only at hle ⊢
  rw [if_pos rfl, same_eq _ (by omega) k (by omega), Option.bind_some, if_pos rfl, has_mem _ (by omega) (i : Int) (mem_picks _ hs.length 0 i (by omega) (by omega) (by unfold misQ; rw [hA, hB]; exact hself)) k (by omega), Option.bind_some]
  simp only [if_true]
  exact law_j5 k (by omega) hp hkn hh i m hi hm1 him
theorem law_j3 (k : Nat) (hk : 1100000000003 < k) {p : Int} {kn : List Int} {hs : List S47} (hp : -32768 ≤ p ∧ p ≤ 32767) (hkn : kn.length ≤ 8) (hh : HOK p kn hs) (i : Nat) (hi : i < hs.length) : laws_FnSaid.j3 k hs (hs.length : Int) (i : Int) false p kn = some true := by
  obtain ⟨k, rfl⟩ : ∃ q, k = q + 1 := ⟨k - 1, by omega⟩
  have hl := hh.len
  simp only [laws_FnSaid.j3]
  rw [if_neg (by decide)]
  by_cases c : (hs.length : Int) < 2
  · rw [if_pos c]
  · rw [if_neg c, Option.bind_some]
    simp only [List.nil_append]
    rw [if_pos (by omega), if_pos (by omega), Option.bind_some, if_pos (by simp only [List.length_nil, List.length_take]; omega), Option.bind_some, wrap_nat i (by omega), if_pos (by omega), if_pos (by omega), Option.bind_some, Int.toNat_natCast, Int.toNat_natCast, if_pos (by simp only [List.length_take, List.length_drop]; omega), ← List.eraseIdx_eq_take_drop_succ, specCA (hh.erase i) (by omega) hp k (by omega), Option.bind_some, if_pos rfl]
    exact law_j4 k (by omega) hp hkn hh i hi (by omega)
theorem law_end (k : Nat) (hk : 1100000000004 < k) (x0 x1 : List Int) (s0 : srcOk x0) (s1 : srcOk x1) {p : Int} {kn : List Int} {hs : List S47} (hp : -32768 ≤ p ∧ p ≤ 32767) (hkn : kn.length ≤ 8) (hh : HOK p kn hs) : laws_FnSaid.l0 k x0 x1 hs (cntF hs 0 0) (hs.length : Int) p kn = some true := by
  obtain ⟨k, rfl⟩ : ∃ q, k = q + 1 := ⟨k - 1, by omega⟩
  have hl := hh.len
  have hc := cntF_length hs 0 0
  unfold laws_FnSaid.l0
  rw [if_neg (by omega)]
  by_cases c : hs.length = 0
  · rw [if_pos (by omega), implM_fin p hp kn hs (by omega) (by omega) (hh.holdR (by omega)) 0 0 k (by omega), Option.bind_some]
    unfold finM
    rw [hh.ok, if_pos rfl]
    dsimp only
    rw [if_pos rfl, c]
    rfl
  · obtain ⟨i, e1, hi⟩ := p6pick_any x0 s0 (hs.length : Int) (by omega)
    obtain ⟨v, e2, hv0, hv1⟩ := p6pick_eq x1 s1 96 (by decide)
    have hi : i < hs.length := by omega
    have hq := sq_snd hs (i + 1)
    obtain ⟨bent, hb⟩ : ∃ bent, bent = (cntF hs 0 0).set i (⟨(sq hs (i + 1)).1, ((sq hs (i + 1)).2 + 1 + v) % 97⟩ : S40) := ⟨_, rfl⟩
    have hbl : bent.length = hs.length := by rw [hb, List.length_set, hc]
    have hbi : (rd_T40 bent (i : Int)).f1 = ((sq hs (i + 1)).2 + 1 + v) % 97 := by
      rw [rd_said_get, hb, List.getElem?_set_self (by omega)]; rfl
    have hbj : ∀ j : Nat, j < i → rd_T40 bent (j : Int) = ⟨(sq hs (j + 1)).1, (sq hs (j + 1)).2⟩ := fun j hj => by
      rw [← cnt_rd hs j (by omega), rd_said_get, rd_said_get, hb, List.getElem?_set_ne (by omega)]
    have hne : (rd_T40 bent (i : Int)).f1 ≠ (sq hs (i + 1)).2 := by rw [hbi]; omega
    have f1 := ff_at hh (by omega) hp bent i hi (by omega) hbj (Or.inr hne) k (by omega)
    have f2 := implCC_ne hh (by omega) hp bent hbl i hi (Ne.symm hne) k (by omega)
    have f3 := ff_at hh (by omega) hp ((cntF hs 0 0).take i) i hi (by rw [List.length_take]; omega) (fun j hj => by
      rw [← cnt_rd hs j (by omega), rd_said_get, rd_said_get, List.getElem?_take, if_pos hj]) (Or.inl (by rw [List.length_take]; omega)) k (by omega)
    have f4 := ff_all hh (by omega) hp (cntF hs 0 0 ++ [⟨1, 0⟩]) (by rw [List.length_append]; omega) (fun j hj => by
      rw [← cnt_rd hs j hj, rd_said_get, rd_said_get, List.getElem?_append_left (by omega)]) k (by omega)
    rw [if_pos (by rw [List.length_append, List.length_singleton]; omega)] at f4
    rw [if_neg (by omega), e1, Option.bind_some, Option.bind_some]
    simp only [List.nil_append]
    rw [if_pos (by simp only [List.length_nil]; omega), Option.bind_some, if_pos (by omega), if_pos (by omega), e2, Option.bind_some, cnt_rd hs i hi]
    dsimp only
    rw [wrap64_id ((sq hs (i + 1)).2 + 1) (by omega) (by omega), wrap64_id _ (by omega) (by omega), Int.tmod_eq_emod_of_nonneg (by omega), Int.toNat_natCast, ← hb, Option.bind_some, f1, Option.bind_some, f2, Option.bind_some, if_pos (by omega), f3, Option.bind_some, Option.bind_some]
    rw [if_pos (by simp only [List.length_nil]; omega), Option.bind_some, Option.bind_some]
    simp only [List.nil_append]
    rw [if_pos (by simp only [List.length_singleton]; omega), f4, Option.bind_some]
    rw [show (((hs.length : Int)) != (hs.length : Int)) = false by simp]
    simp only [if_true, Bool.false_eq_true, if_false]
    exact law_j3 k (by omega) hp hkn hh i hi
theorem main : laws_FnSaid.Pure := by
  intro l0 l1 _ _ h0 _ _ h1
  refine rounds_of 1200000000000 fun k hk => ?_
  obtain ⟨k, rfl⟩ : ∃ q, k = q + 2 := ⟨k - 2, by omega⟩
  have j0t : ∀ a b, laws_FnSaid.j0 (k + 2) a b true = some true := fun a b => by
    simp only [laws_FnSaid.j0]
    rw [if_pos trivial]
  unfold laws_FnSaid.f laws_f6big.f
  rw [Option.bind_some]
  by_cases c0 : (l0.length : Int) > 4096
  · rw [if_pos (decide_eq_true c0), j0t]
  · rw [if_neg (by simpa using c0), Option.bind_some]
    by_cases c1 : (l1.length : Int) > 4096
    · rw [decide_eq_true c1, j0t]
    · rw [decide_eq_false c1]
      have s0 : srcOk l0 := ⟨by omega, fun x hx => wf_u8 (h0 x hx)⟩
      have s1 : srcOk l1 := ⟨by omega, fun x hx => wf_u8 (h1 x hx)⟩
      obtain ⟨p, kn, e1, hr, hk8, hp⟩ := p6rope_eq l0 s0 (k + 1) (by omega)
      obtain ⟨hs, e2, hh⟩ := p6holds_eq l1 s1 p kn hk8 hr (k + 1) (by omega)
      have hpr : -32768 ≤ p ∧ p ≤ 32767 := by omega
      have hl := hh.len
      have hc := cntF_length hs 0 0
      have f4 := ff_all hh (by omega) hpr (cntF hs 0 0) (by omega) (fun j hj => cnt_rd hs j hj) (k + 1) (by omega)
      rw [if_neg (by omega)] at f4
      simp only [laws_FnSaid.j0]
      rw [if_neg (by decide), e1, Option.bind_some]
      dsimp only
      rw [e2, Option.bind_some, implCA hh (by omega) hpr (k + 1) (by omega), Option.bind_some, specCA hh (by omega) hpr (k + 1) (by omega), Option.bind_some]
      dsimp only
      rw [implCC_eq hh (by omega) hpr (k + 1) (by omega), Option.bind_some, f4, Option.bind_some]
      dsimp only
      rw [if_pos rfl, if_pos rfl, sameSaid_eq _ (by omega) (k + 1) (by omega), Option.bind_some, if_pos rfl, if_pos (by omega), if_pos rfl, if_pos rfl, show ((6 : Int) != 6) = false by decide]
      simp only [laws_FnSaid.j1]
      rw [if_neg (by decide)]
      have := law_l0 l0 l1 hs hl p kn hs.length 0 (k - hs.length) (by omega)
      rw [show ((0 : Nat) : Int) = 0 from rfl, show k - hs.length + hs.length = k by omega] at this
      rw [this]
      exact law_end (k - hs.length) (by omega) l0 l1 s0 s1 hpr hk8 hh

end Go.Proofs.Ytcgbnbblojkglaa.PureFnSaid
namespace Go.Proofs.Ytcgbnbblojkglaa.Pure
theorem FnSaid : Go.Proofs.Ytcgbnbblojkglaa.P.laws_FnSaid.Pure := Go.Proofs.Ytcgbnbblojkglaa.PureFnSaid.main
end Go.Proofs.Ytcgbnbblojkglaa.Pure
