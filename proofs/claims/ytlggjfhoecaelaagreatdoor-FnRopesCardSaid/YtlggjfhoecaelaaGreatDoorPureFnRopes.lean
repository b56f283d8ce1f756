/- Cut ropes have the same spacings, the nearest knot is the nearest one, who takes hold and lets go is not there, even ropes are even, and ropes are read from their texts: law of FnRopes, no condition. -/
import Derived.Test.YtlggjfhoecaelaaGreatDoorP19
import Derived.Laws.BitsLemmas
import Derived.Lib.ItoaLen
import Derived.Lib.ItoaNum
import Derived.Lib.ParseIntBTie
import Derived.Lib.SplitLaws
namespace Go.Proofs.YtlggjfhoecaelaaGreatDoor.PureFnRopes
open Go.RowKit Go.Proofs.YtlggjfhoecaelaaGreatDoor.P Go.Proofs.YtlggjfhoecaelaaGreatDoorW.PrintWords Go.Proofs.YtlggjfhoecaelaaGreatDoorW.PrintLast
set_option linter.unusedSimpArgs false
set_option linter.unusedVariables false

theorem wrap64_id (x : Int) (h0 : -9223372036854775808 ≤ x) (h1 : x ≤ 9223372036854775807) : wrap64 x = x := by unfold wrap64; omega
theorem wrap_nat (n : Nat) (h : n < 4611686018427387904) : wrap64 ((n : Int) + 1) = ((n + 1 : Nat) : Int) := by
  rw [wrap64_id _ (by omega) (by omega)]; omega
theorem rd_nat (l : List Int) (i : Nat) : rd l (i : Int) = l.getD i 0 := by simp [rd]
theorem drop_rd (l : List Int) (i : Nat) (h : i < l.length) : l.drop i = rd l (i : Int) :: l.drop (i + 1) := by
  rw [List.drop_eq_getElem_cons h, rd_nat, List.getD_eq_getElem?_getD, List.getElem?_eq_getElem h]; rfl
theorem drop_getD {α : Type} (z : α) (l : List α) (i : Nat) (h : i < l.length) : l.drop i = l.getD i z :: l.drop (i + 1) := by
  rw [List.drop_eq_getElem_cons h, List.getD_eq_getElem?_getD, List.getElem?_eq_getElem h]; rfl
theorem take_getD {α : Type} (z : α) (l : List α) (i : Nat) (h : i < l.length) : l.take (i + 1) = l.take i ++ [l.getD i z] := by
  rw [List.take_succ_eq_append_getElem h, List.getD_eq_getElem?_getD, List.getElem?_eq_getElem h]; rfl
theorem set_drop {α : Type} (a g : List α) (i : Nat) (v : α) (h : a.length = i) (hg : i < g.length) : (a ++ g.drop i).set i v = (a ++ [v]) ++ g.drop (i + 1) := by
  subst h
  rw [List.set_append_right _ _ (Nat.le_refl _), Nat.sub_self, List.drop_eq_getElem_cons hg, List.set_cons_zero]
  simp
theorem rounds_of (B : Nat) {α : Type} {F : Nat → Option α} {v : α} (h : ∀ k, B ≤ k → F k = some v) : ∃ k, F k = some v := ⟨B, h B (Nat.le_refl _)⟩

theorem wrap_u64 (n : Int) : IntKind.u64.wrap n = n % 18446744073709551616 := by simp [IntKind.wrap, IntKind.bits, IntKind.signed]
theorem wrap_u64_id (n : Int) (h0 : 0 ≤ n) (h1 : n < 18446744073709551616) : IntKind.u64.wrap n = n := by rw [wrap_u64]; omega
theorem wf_u8 {a : Int} (h : (Lit.int .u8 a).wf = true) : 0 ≤ a ∧ a ≤ 255 := by
  simp [Lit.wf, IntKind.min, IntKind.max, IntKind.bits, IntKind.signed] at h
  omega
theorem in_eq (a b c : Int) : spec_l00In.f a b c = some (decide (b ≤ a ∧ a ≤ c)) := by
  unfold spec_l00In.f
  by_cases h : b ≤ a
  · rw [if_pos (by omega)]; simp [h]
  · rw [if_neg (by omega)]; simp [h]
theorem within_eq (a b c : Int) : impl_within.f a b c = some (decide (b ≤ a ∧ a ≤ c)) := by
  unfold impl_within.f
  by_cases h : b ≤ a
  · rw [if_pos (by omega)]; simp [h]
  · rw [if_neg (by omega)]; simp [h]
def upFrom (l : List Int) : Nat → Nat → Bool
  | 0, _ => true
  | d + 1, i => !decide (rd l (i : Int) ≤ rd l ((i : Int) - 1)) && upFrom l d (i + 1)
def ropeOk (p : Int) (l : List Int) : Bool :=
  decide (1 ≤ p ∧ p ≤ 400) && (decide (2 ≤ l.length ∧ l.length ≤ 40) && (decide (rd l 0 = 0) && (decide (rd l ((l.length : Int) - 1) = p) && upFrom l (l.length - 1) 1)))
theorem specRope_l0 (l : List Int) (p : Int) (hl : l.length ≤ 1048576) : ∀ (d i k : Nat), 1 ≤ i → i + d = l.length → d < k → spec_l03Ok.l0 k (l.length : Int) (i : Int) p l = some (upFrom l d i) := by
  intro d
  induction d with
  | zero =>
    intro i k h1 hi hk
    obtain ⟨k, rfl⟩ : ∃ m, k = m + 1 := ⟨k - 1, by omega⟩
    simp only [spec_l03Ok.l0]
    rw [if_neg (by omega)]
    rfl
  | succ d ih =>
    intro i k h1 hi hk
    obtain ⟨k, rfl⟩ : ∃ m, k = m + 1 := ⟨k - 1, by omega⟩
    simp only [spec_l03Ok.l0]
    rw [wrap64_id ((i : Int) - 1) (by omega) (by omega), if_pos (by omega), if_pos (by omega), if_pos (by omega), if_pos (by omega), if_pos (by omega), wrap_nat i (by omega)]
    unfold upFrom
    by_cases e : rd l (i : Int) ≤ rd l ((i : Int) - 1)
    · rw [if_pos e, decide_eq_true e]; rfl
    · rw [if_neg e, decide_eq_false e, ih (i + 1) k (by omega) (by omega) (by omega)]; rfl
theorem specRope_eq (p : Int) (hp : -32768 ≤ p ∧ p ≤ 32767) (l : List Int) (hl : l.length ≤ 1048576) (k : Nat) (hk : 1048590 < k) : spec_l03Ok.f k p l = some (ropeOk p l) := by
  obtain ⟨k, rfl⟩ : ∃ m, k = m + 1 := ⟨k - 1, by omega⟩
  unfold spec_l03Ok.f ropeOk
  rw [wrap64_id p (by omega) (by omega), in_eq, Option.bind_some]
  simp only [spec_l03Ok.j0, if_true]
  by_cases c1 : 1 ≤ p ∧ p ≤ 400
  · rw [decide_eq_true c1, if_pos rfl]
    by_cases c2 : 2 ≤ l.length ∧ l.length ≤ 40
    · rw [decide_eq_true c2, if_neg (by omega), if_neg (by omega), if_pos (by omega), wrap64_id ((l.length : Int) - 1) (by omega) (by omega)]
      by_cases c3 : rd l 0 = 0
      · rw [if_pos c3, decide_eq_true c3, if_pos (by omega), if_pos (by omega)]
        by_cases c4 : rd l ((l.length : Int) - 1) = p
        · have := specRope_l0 l p hl (l.length - 1) 1 k (by omega) (by omega) (by omega)
          rw [show ((1 : Nat) : Int) = 1 from rfl] at this
          rw [decide_eq_true c4, if_neg (by simp [c4]), this]; rfl
        · rw [decide_eq_false c4, if_pos (by simp [c4])]; rfl
      · rw [if_neg c3, decide_eq_false c3]; rfl
    · rw [decide_eq_false c2]
      by_cases c5 : (l.length : Int) < 2
      · rw [if_pos c5]; rfl
      · rw [if_neg c5, if_pos (by omega)]; rfl
  · rw [decide_eq_false c1, if_neg (by decide)]; rfl
theorem implRope_l0 (l : List Int) (p : Int) (h2 : 2 ≤ l.length) (hl : l.length ≤ 1048576) : ∀ (d i k : Nat), 1 ≤ i → i + d = l.length → d < k → impl_ValidRope.l0 k (i : Int) p l = some (upFrom l d i && (decide (rd l 0 = 0) && decide (rd l ((l.length : Int) - 1) = p))) := by
  intro d
  induction d with
  | zero =>
    intro i k h1 hi hk
    obtain ⟨k, rfl⟩ : ∃ m, k = m + 1 := ⟨k - 1, by omega⟩
    simp only [impl_ValidRope.l0]
    rw [if_neg (by omega), if_pos (by omega), wrap64_id ((l.length : Int) - 1) (by omega) (by omega)]
    unfold upFrom
    by_cases c3 : rd l 0 = 0
    · rw [if_pos c3, decide_eq_true c3, if_pos (by omega), if_pos (by omega)]; rfl
    · rw [if_neg c3, decide_eq_false c3]; rfl
  | succ d ih =>
    intro i k h1 hi hk
    obtain ⟨k, rfl⟩ : ∃ m, k = m + 1 := ⟨k - 1, by omega⟩
    simp only [impl_ValidRope.l0]
    rw [wrap64_id ((i : Int) - 1) (by omega) (by omega), if_pos (by omega), if_pos (by omega), if_pos (by omega), if_pos (by omega), wrap_nat i (by omega)]
    conv => rhs; unfold upFrom
    by_cases e : rd l (i : Int) ≤ rd l ((i : Int) - 1)
    · rw [if_pos e, decide_eq_true e]; rfl
    · rw [if_neg e, decide_eq_false e, ih (i + 1) k (by omega) (by omega) (by omega)]; rfl
theorem implRope_eq (p : Int) (hp : -32768 ≤ p ∧ p ≤ 32767) (l : List Int) (hl : l.length ≤ 1048576) (k : Nat) (hk : 1048590 < k) : impl_ValidRope.f k p l = some (ropeOk p l) := by
  obtain ⟨k, rfl⟩ : ∃ m, k = m + 1 := ⟨k - 1, by omega⟩
  unfold impl_ValidRope.f ropeOk impl_size_int16.f
  rw [wrap64_id p (by omega) (by omega), within_eq, Option.bind_some, Option.bind_some, within_eq, Option.bind_some]
  simp only [impl_ValidRope.j0, if_true]
  by_cases c1 : 1 ≤ p ∧ p ≤ 400
  · rw [decide_eq_true c1, if_pos rfl]
    by_cases c2 : 2 ≤ l.length ∧ l.length ≤ 40
    · have := implRope_l0 l p c2.1 hl (l.length - 1) 1 k (by omega) (by omega) (by omega)
      rw [show ((1 : Nat) : Int) = 1 from rfl] at this
      rw [decide_eq_true (show 2 ≤ (l.length : Int) ∧ (l.length : Int) ≤ 40 by omega), decide_eq_true c2, if_neg (by decide), this]
      generalize upFrom l (l.length - 1) 1 = u
      generalize decide (rd l 0 = 0) = v
      generalize decide (rd l ((l.length : Int) - 1) = p) = x
      cases u <;> cases v <;> cases x <;> rfl
    · rw [decide_eq_false (show ¬ (2 ≤ (l.length : Int) ∧ (l.length : Int) ≤ 40) by omega), decide_eq_false c2, if_pos (by decide)]; rfl
  · rw [decide_eq_false c1, if_neg (by decide)]; rfl
def dupFrom (l : List S52) (w : Int) : Nat → Nat → Bool
  | 0, _ => false
  | d + 1, j => decide ((rd_T52 l (j : Int)).f0 = w) || dupFrom l w d (j + 1)
def holdAt (l : List S52) (n : Int) (i : Nat) : Bool :=
  decide (0 ≤ (rd_T52 l (i : Int)).f0 ∧ (rd_T52 l (i : Int)).f0 ≤ 999) && (decide (0 ≤ (rd_T52 l (i : Int)).f1 ∧ (rd_T52 l (i : Int)).f1 ≤ n - 1) && (!(decide (0 < i) && decide ((rd_T52 l (i : Int)).f1 ≤ (rd_T52 l ((i : Int) - 1)).f1)) && !dupFrom l (rd_T52 l (i : Int)).f0 i 0))
def holdsFrom (l : List S52) (n : Int) : Nat → Nat → Bool
  | 0, _ => true
  | d + 1, i => holdAt l n i && holdsFrom l n d (i + 1)
def holdR (h : S52) : Prop := (-32768 ≤ h.f0 ∧ h.f0 ≤ 32767) ∧ (-128 ≤ h.f1 ∧ h.f1 ≤ 127)
theorem mem_hold (s : List S52) (i : Nat) (h : i < s.length) : rd_T52 s (i : Int) ∈ s := by
  have h2 : rd_T52 s (i : Int) = s.getD i z52 := by simp [rd_T52]
  rw [h2, List.getD_eq_getElem?_getD, List.getElem?_eq_getElem h]
  exact List.getElem_mem _
theorem drop_hold (l : List S52) (i : Nat) (h : i < l.length) : l.drop i = rd_T52 l (i : Int) :: l.drop (i + 1) := by
  rw [drop_getD z52 l i h]; simp [rd_T52]
theorem specHolds_l1 (l : List S52) (p : Int) (kn : List Int) (hl : l.length ≤ 1048576) (i : Nat) (hi : i < l.length) : ∀ (d j k : Nat), j + d = i → d < k → spec_l03Holds.l1 k l (i : Int) (j : Int) p kn = if dupFrom l (rd_T52 l (i : Int)).f0 d j = true then some false else spec_l03Holds.l0 (k - (d + 1)) l ((i + 1 : Nat) : Int) p kn := by
  intro d
  induction d with
  | zero =>
    intro j k hj hk
    obtain ⟨k, rfl⟩ : ∃ m, k = m + 1 := ⟨k - 1, by omega⟩
    simp only [spec_l03Holds.l1]
    rw [if_neg (by omega), wrap_nat i (by omega), if_neg (by simp [dupFrom])]
    simp
  | succ d ih =>
    intro j k hj hk
    obtain ⟨k, rfl⟩ : ∃ m, k = m + 1 := ⟨k - 1, by omega⟩
    simp only [spec_l03Holds.l1]
    rw [if_pos (by omega), if_pos (by omega), if_pos (by omega), if_pos (by omega), if_pos (by omega), wrap_nat j (by omega)]
    unfold dupFrom
    by_cases e : (rd_T52 l (j : Int)).f0 = (rd_T52 l (i : Int)).f0
    · rw [if_pos e, decide_eq_true e]; simp
    · rw [if_neg e, decide_eq_false e, ih (j + 1) k (by omega) (by omega), Bool.false_or, show k + 1 - (d + 1 + 1) = k - (d + 1) by omega]
theorem specHolds_l0 (l : List S52) (p : Int) (kn : List Int) (hl : l.length ≤ 1048576) (hkn : kn.length ≤ 1048576) (hr : ∀ h ∈ l, holdR h) : ∀ (d i k : Nat), i + d = l.length → d * 1048600 < k → spec_l03Holds.l0 k l (i : Int) p kn = some (holdsFrom l (kn.length : Int) d i) := by
  intro d
  induction d with
  | zero =>
    intro i k hi hk
    obtain ⟨k, rfl⟩ : ∃ m, k = m + 1 := ⟨k - 1, by omega⟩
    simp only [spec_l03Holds.l0]
    rw [if_neg (by omega)]
    rfl
  | succ d ih =>
    intro i k hi hk
    obtain ⟨D, hD⟩ : ∃ D, D = d * 1048600 := ⟨_, rfl⟩
    rw [Nat.succ_mul, ← hD] at hk
    obtain ⟨k, rfl⟩ : ∃ m, k = m + 4 := ⟨k - 4, by omega⟩
    have hh := hr _ (mem_hold l i (by omega))
    obtain ⟨⟨a1, a2⟩, b1, b2⟩ := hh
    simp only [spec_l03Holds.l0]
    rw [if_pos (by omega), if_pos (by omega), wrap64_id _ (by omega) (by omega), wrap64_id ((rd_T52 l (i : Int)).f1) (by omega) (by omega), wrap64_id ((kn.length : Int) - 1) (by omega) (by omega), in_eq, Option.bind_some]
    unfold holdsFrom holdAt
    have ih' := fun q (hq : D < q) => ih (i + 1) q (by omega) (by rw [← hD]; exact hq)
    have l1 := specHolds_l1 l p kn hl i (by omega) i 0 (k + 1) (by omega) (by omega)
    have hq := ih' (k - i) (by omega)
    rw [show ((0 : Nat) : Int) = 0 from rfl, Nat.add_sub_add_right] at l1
    simp only [hq] at l1
    by_cases c1 : 0 ≤ (rd_T52 l (i : Int)).f0 ∧ (rd_T52 l (i : Int)).f0 ≤ 999
    · rw [decide_eq_true c1, if_pos rfl, in_eq, Option.bind_some]
      by_cases c2 : 0 ≤ (rd_T52 l (i : Int)).f1 ∧ (rd_T52 l (i : Int)).f1 ≤ (kn.length : Int) - 1
      · rw [decide_eq_true c2]
        simp only [spec_l03Holds.j1]
        rw [if_neg (by decide)]
        by_cases c3 : 0 < i
        · rw [if_pos (by omega), if_pos (by omega), if_pos (by omega), wrap64_id ((i : Int) - 1) (by omega) (by omega), if_pos (by omega), if_pos (by omega), decide_eq_true c3]
          simp only [spec_l03Holds.j2]
          by_cases c4 : (rd_T52 l (i : Int)).f1 ≤ (rd_T52 l ((i : Int) - 1)).f1
          · rw [decide_eq_true c4, if_pos rfl]; rfl
          · rw [decide_eq_false c4, if_neg (by decide), l1]
            by_cases c5 : dupFrom l (rd_T52 l (i : Int)).f0 i 0 = true
            · rw [if_pos c5, c5]; rfl
            · rw [if_neg c5, Bool.eq_false_iff.mpr c5]; rfl
        · rw [if_neg (by omega), decide_eq_false c3]
          simp only [spec_l03Holds.j2]
          rw [if_neg (by decide), l1]
          by_cases c5 : dupFrom l (rd_T52 l (i : Int)).f0 i 0 = true
          · rw [if_pos c5, c5]; rfl
          · rw [if_neg c5, Bool.eq_false_iff.mpr c5]; rfl
      · rw [decide_eq_false c2]
        simp only [spec_l03Holds.j1]
        rw [if_pos (by decide)]; rfl
    · rw [decide_eq_false c1, if_neg (by decide)]
      simp only [spec_l03Holds.j1]
      rw [if_pos (by decide)]; rfl
def holdsOk (p : Int) (kn : List Int) (l : List S52) : Bool := ropeOk p kn && holdsFrom l (kn.length : Int) l.length 0
theorem specHolds_eq (p : Int) (hp : -32768 ≤ p ∧ p ≤ 32767) (kn : List Int) (l : List S52) (hl : l.length ≤ 1048576) (hkn : kn.length ≤ 1048576) (hr : ∀ h ∈ l, holdR h) (k : Nat) (hk : 1100000000000 < k) : spec_l03Holds.f k p kn l = some (holdsOk p kn l) := by
  unfold spec_l03Holds.f holdsOk
  rw [specRope_eq p hp kn hkn k (by omega), Option.bind_some]
  by_cases c : ropeOk p kn = true
  · have := specHolds_l0 l p kn hl hkn hr l.length 0 k (by omega) (by omega)
    rw [show ((0 : Nat) : Int) = 0 from rfl] at this
    rw [if_pos c, c, this]; rfl
  · rw [if_neg c, Bool.eq_false_iff.mpr c]; rfl
theorem rd_take_hold (l : List S52) (i j : Nat) (h : j < i) : rd_T52 (l.take i) (j : Int) = rd_T52 l (j : Int) := by
  simp [rd_T52, List.getD_eq_getElem?_getD, List.getElem?_take, h]
theorem implDup_l0 (l : List S52) (hl : l.length ≤ 1048576) (i : Nat) (hi : i ≤ l.length) (w v : Int) : ∀ (d j k : Nat), j + d = i → d < k → ∃ r : Int, slices_IndexFunc_Hold_at_ValidHolds_1.l0 k (l.take i) (i : Int) (j : Int) w v = some r ∧ decide (r ≥ 0) = dupFrom l w d j := by
  intro d
  induction d with
  | zero =>
    intro j k hj hk
    obtain ⟨k, rfl⟩ : ∃ m, k = m + 1 := ⟨k - 1, by omega⟩
    simp only [slices_IndexFunc_Hold_at_ValidHolds_1.l0]
    rw [if_neg (by omega)]
    exact ⟨-1, rfl, rfl⟩
  | succ d ih =>
    intro j k hj hk
    obtain ⟨k, rfl⟩ : ∃ m, k = m + 1 := ⟨k - 1, by omega⟩
    have hlen : ((l.take i).length : Int) = i := by rw [List.length_take]; omega
    simp only [slices_IndexFunc_Hold_at_ValidHolds_1.l0, impl_ValidHolds_1.f, Option.bind_some]
    rw [if_pos (by omega), if_pos (by omega), if_pos (by omega), rd_take_hold l i j (by omega), wrap_nat j (by omega)]
    unfold dupFrom
    by_cases e : (rd_T52 l (j : Int)).f0 = w
    · refine ⟨(j : Int), by rw [if_pos (by simp [e])], ?_⟩
      rw [decide_eq_true e]; simp
    · obtain ⟨r, h1, h2⟩ := ih (j + 1) k (by omega) (by omega)
      refine ⟨r, by rw [if_neg (by simp [e]), h1], ?_⟩
      rw [decide_eq_false e, h2]; rfl
theorem implDup_eq (l : List S52) (hl : l.length ≤ 1048576) (i : Nat) (hi : i ≤ l.length) (w v : Int) (k : Nat) (hk : 1048580 < k) : slices_ContainsFunc_Hold_at_ValidHolds_1.f k (l.take i) w v = some (dupFrom l w i 0) := by
  unfold slices_ContainsFunc_Hold_at_ValidHolds_1.f slices_IndexFunc_Hold_at_ValidHolds_1.f
  obtain ⟨r, h1, h2⟩ := implDup_l0 l hl i hi w v i 0 k (by omega) (by omega)
  rw [show ((l.take i).length : Int) = i by rw [List.length_take]; omega]
  rw [show ((0 : Nat) : Int) = 0 from rfl] at h1
  rw [h1, Option.bind_some, h2]
theorem implHolds_l0 (l : List S52) (p : Int) (hp : -32768 ≤ p ∧ p ≤ 32767) (kn : List Int) (hl : l.length ≤ 1048576) (hkn : kn.length ≤ 1048576) (hr : ∀ h ∈ l, holdR h) : ∀ (d i k : Nat), i + d = l.length → d + 1048600 < k → impl_ValidHolds.l0 k l l (l.length : Int) (i : Int) p kn = some (holdsFrom l (kn.length : Int) d i && ropeOk p kn) := by
  intro d
  induction d with
  | zero =>
    intro i k hi hk
    obtain ⟨k, rfl⟩ : ∃ m, k = m + 1 := ⟨k - 1, by omega⟩
    simp only [impl_ValidHolds.l0]
    rw [if_neg (by omega), implRope_eq p hp kn hkn k (by omega), Option.bind_some]
    rfl
  | succ d ih =>
    intro i k hi hk
    obtain ⟨k, rfl⟩ : ∃ m, k = m + 1 := ⟨k - 1, by omega⟩
    have hh := hr _ (mem_hold l i (by omega))
    obtain ⟨⟨a1, a2⟩, b1, b2⟩ := hh
    simp only [impl_ValidHolds.l0, impl_Rope_isHold.f, impl_size_int16.f]
    rw [if_pos (by omega), if_pos (by omega), if_pos (by omega), wrap64_id _ (by omega) (by omega), wrap64_id ((rd_T52 l (i : Int)).f1) (by omega) (by omega), wrap64_id ((i : Int) - 1) (by omega) (by omega), within_eq, Option.bind_some, Option.bind_some, wrap64_id ((kn.length : Int) - 1) (by omega) (by omega), wrap_nat i (by omega), Int.toNat_natCast, within_eq, Option.bind_some]
    have ih' := ih (i + 1) k (by omega) (by omega)
    have hd := implDup_eq l hl i (by omega) (rd_T52 l (i : Int)).f0 (rd_T52 l (i : Int)).f1 k (by omega)
    unfold holdsFrom holdAt
    by_cases c1 : 0 ≤ (rd_T52 l (i : Int)).f0 ∧ (rd_T52 l (i : Int)).f0 ≤ 999
    · rw [decide_eq_true c1, if_pos rfl, Option.bind_some]
      by_cases c2 : 0 ≤ (rd_T52 l (i : Int)).f1 ∧ (rd_T52 l (i : Int)).f1 ≤ (kn.length : Int) - 1
      · rw [decide_eq_true c2, if_pos rfl]
        by_cases c3 : 0 < i
        · rw [if_pos (by omega), if_pos (by omega), if_pos (by omega), decide_eq_true c3]
          by_cases c4 : (rd_T52 l (i : Int)).f1 ≤ (rd_T52 l ((i : Int) - 1)).f1
          · rw [if_pos c4, decide_eq_true c4]; rfl
          · rw [if_neg c4, if_pos (by omega), hd, Option.bind_some, decide_eq_false c4]
            by_cases c5 : dupFrom l (rd_T52 l (i : Int)).f0 i 0 = true
            · rw [if_pos c5, c5]; rfl
            · rw [if_neg c5, Bool.eq_false_iff.mpr c5, ih']; rfl
        · rw [if_neg (by omega), if_pos (by omega), hd, Option.bind_some, decide_eq_false c3]
          by_cases c5 : dupFrom l (rd_T52 l (i : Int)).f0 i 0 = true
          · rw [if_pos c5, c5]; rfl
          · rw [if_neg c5, Bool.eq_false_iff.mpr c5, ih']; rfl
      · rw [decide_eq_false c2, if_neg (by decide)]; rfl
    · rw [decide_eq_false c1, if_neg (by decide), Option.bind_some, if_neg (by decide)]; rfl
theorem implHolds_eq (p : Int) (hp : -32768 ≤ p ∧ p ≤ 32767) (kn : List Int) (l : List S52) (hl : l.length ≤ 1048576) (hkn : kn.length ≤ 1048576) (hr : ∀ h ∈ l, holdR h) (k : Nat) (hk : 3000000 < k) : impl_ValidHolds.f k p kn l = some (holdsOk p kn l) := by
  unfold impl_ValidHolds.f holdsOk
  have := implHolds_l0 l p hp kn hl hkn hr l.length 0 k (by omega) (by omega)
  rw [show ((0 : Nat) : Int) = 0 from rfl] at this
  rw [this, Bool.and_comm]
theorem rd_hold_get (l : List S52) (i : Nat) (h : i < l.length) : rd_T52 l (i : Int) = l[i] := by
  have h2 : rd_T52 l (i : Int) = l.getD i z52 := by simp [rd_T52]
  rw [h2, List.getD_eq_getElem?_getD, List.getElem?_eq_getElem h, Option.getD_some]
theorem holdAt_of (l : List S52) (n : Int) : ∀ (d i0 : Nat), holdsFrom l n d i0 = true → ∀ i, i0 ≤ i → i < i0 + d → holdAt l n i = true := by
  intro d
  induction d with
  | zero => intro i0 _ i h1 h2; omega
  | succ d ih =>
    intro i0 h i h1 h2
    unfold holdsFrom at h
    rw [Bool.and_eq_true] at h
    by_cases e : i = i0
    · subst e; exact h.1
    · exact ih (i0 + 1) h.2 i (by omega) (by omega)
theorem hold_rng (l : List S52) (n : Int) (h : holdsFrom l n l.length 0 = true) (i : Nat) (hi : i < l.length) : (0 ≤ (rd_T52 l (i : Int)).f1 ∧ (rd_T52 l (i : Int)).f1 ≤ n - 1) ∧ (0 < i → (rd_T52 l ((i : Int) - 1)).f1 < (rd_T52 l (i : Int)).f1) := by
  have := holdAt_of l n l.length 0 h i (Nat.zero_le _) (by omega)
  unfold holdAt at this
  rw [Bool.and_eq_true, Bool.and_eq_true, Bool.and_eq_true, decide_eq_true_iff, decide_eq_true_iff] at this
  obtain ⟨_, h2, h3, _⟩ := this
  refine ⟨h2, fun h0 => ?_⟩
  rw [decide_eq_true h0, Bool.true_and, Bool.not_eq_true', decide_eq_false_iff_not] at h3
  omega
theorem hold_lt (l : List S52) (n : Int) (h : holdsFrom l n l.length 0 = true) : ∀ (j : Nat), j < l.length → ∀ i, i < j → (rd_T52 l (i : Int)).f1 < (rd_T52 l (j : Int)).f1 := by
  intro j
  induction j with
  | zero => intro _ i h1; omega
  | succ j ih =>
    intro hj i hi
    have h1 := (hold_rng l n h (j + 1) hj).2 (by omega)
    rw [show (((j + 1 : Nat) : Int) - 1) = (j : Int) by omega] at h1
    by_cases e : i = j
    · subst e; exact h1
    · have := ih (by omega) i (by omega); omega
theorem hold_ge (l : List S52) (n : Int) (h : holdsFrom l n l.length 0 = true) : ∀ (j : Nat), j < l.length → (j : Int) ≤ (rd_T52 l (j : Int)).f1 := by
  intro j
  induction j with
  | zero => intro hj; have := (hold_rng l n h 0 hj).1.1; omega
  | succ j ih =>
    intro hj
    have h1 := (hold_rng l n h (j + 1) hj).2 (by omega)
    rw [show (((j + 1 : Nat) : Int) - 1) = (j : Int) by omega] at h1
    have := ih (by omega)
    omega
theorem holdsOk_facts (p : Int) (kn : List Int) (l : List S52) (h : holdsOk p kn l = true) : ropeOk p kn = true ∧ (kn.length ≤ 40) ∧ l.length ≤ 40 ∧ (∀ x ∈ l, 0 ≤ x.f1 ∧ x.f1 < 128) ∧ l.Pairwise (fun a b => a.f1 < b.f1) := by
  unfold holdsOk at h
  rw [Bool.and_eq_true] at h
  obtain ⟨h1, h2⟩ := h
  have h3 := h1
  unfold ropeOk at h3
  rw [Bool.and_eq_true, Bool.and_eq_true, decide_eq_true_iff, decide_eq_true_iff] at h3
  have hk := h3.2.1.2
  refine ⟨h1, hk, ?_, fun x hx => ?_, ?_⟩
  · by_cases e : l.length = 0
    · omega
    · have a := hold_ge l _ h2 (l.length - 1) (by omega)
      have b := (hold_rng l _ h2 (l.length - 1) (by omega)).1.2
      omega
  · obtain ⟨i, hi, rfl⟩ := List.getElem_of_mem hx
    have := (hold_rng l _ h2 i hi).1
    rw [rd_hold_get l i hi] at this
    omega
  · rw [List.pairwise_iff_getElem]
    intro i j hi hj hij
    have := hold_lt l _ h2 j hj i hij
    rwa [rd_hold_get l i hi, rd_hold_get l j hj] at this

structure HOK (p : Int) (kn : List Int) (l : List S52) : Prop where
  rope : ropeOk p kn = true
  rng : ∀ h ∈ l, (0 ≤ h.f0 ∧ h.f0 ≤ 999) ∧ 0 ≤ h.f1 ∧ h.f1 ≤ (kn.length : Int) - 1
  up : l.Pairwise (fun a b => a.f1 < b.f1)
  dis : l.Pairwise (fun a b => a.f0 ≠ b.f0)
theorem dupFrom_none (l : List S52) (w : Int) : ∀ (d j : Nat), (∀ t : Nat, j ≤ t → t < j + d → (rd_T52 l (t : Int)).f0 ≠ w) → dupFrom l w d j = false := by
  intro d
  induction d with
  | zero => intro j _; rfl
  | succ d ih =>
    intro j h
    unfold dupFrom
    rw [decide_eq_false (h j (Nat.le_refl _) (by omega)), ih (j + 1) (fun t h1 h2 => h t (by omega) (by omega))]
    rfl
theorem holdsFrom_mk (l : List S52) (n : Int) : ∀ (d i : Nat), (∀ j, i ≤ j → j < i + d → holdAt l n j = true) → holdsFrom l n d i = true := by
  intro d
  induction d with
  | zero => intro i _; rfl
  | succ d ih =>
    intro i h
    unfold holdsFrom
    rw [h i (Nat.le_refl _) (by omega), ih (i + 1) (fun t h1 h2 => h t (by omega) (by omega))]
    rfl
theorem HOK.ok {p : Int} {kn : List Int} {l : List S52} (h : HOK p kn l) : holdsOk p kn l = true := by
  unfold holdsOk
  rw [h.rope, Bool.true_and]
  refine holdsFrom_mk l _ _ _ fun j _ hj => ?_
  have hj : j < l.length := by omega
  obtain ⟨r1, r2⟩ := h.rng _ (mem_hold l j hj)
  have hup := List.pairwise_iff_getElem.1 h.up
  have hdis := List.pairwise_iff_getElem.1 h.dis
  unfold holdAt
  rw [decide_eq_true r1, decide_eq_true r2, Bool.true_and, Bool.true_and, dupFrom_none l _ j 0 (fun t _ ht => by
    have ht' : t < j := by omega
    rw [rd_hold_get l t (by omega), rd_hold_get l j hj]
    exact hdis t j (by omega) hj ht')]
  by_cases c : 0 < j
  · have h1 := hup (j - 1) j (by omega) hj (by omega)
    rw [show ((j : Int) - 1) = ((j - 1 : Nat) : Int) by omega, rd_hold_get l j hj, rd_hold_get l (j - 1) (by omega), decide_eq_true c, decide_eq_false (by omega)]
    rfl
  · rw [decide_eq_false c]; rfl
theorem HOK.holdR {p : Int} {kn : List Int} {l : List S52} (h : HOK p kn l) (hk : kn.length ≤ 100) : ∀ x ∈ l, holdR x := fun x hx => by
  obtain ⟨r1, r2⟩ := h.rng x hx
  exact ⟨⟨by omega, by omega⟩, by omega, by omega⟩
theorem HOK.len {p : Int} {kn : List Int} {l : List S52} (h : HOK p kn l) : l.length ≤ 40 := (holdsOk_facts p kn l h.ok).2.2.1
def srcOk (c : List Int) : Prop := c.length ≤ 4096 ∧ ∀ x ∈ c, 0 ≤ x ∧ x ≤ 255
theorem and64_255 (x : Int) (h0 : 0 ≤ x) (h1 : x < 18446744073709551616) : Go.bits .and .u64 x 255 = x % 256 := by
  have := Go.bits_mask .u64 64 (by decide) (fun n a b => wrap_u64_id n a (by simpa using b)) 8 (by decide) x h0 (by omega)
  simpa using this
theorem wrap_u64_range (x : Int) : 0 ≤ IntKind.u64.wrap x ∧ IntKind.u64.wrap x < 18446744073709551616 := by
  rw [wrap_u64]
  omega
theorem next_eq (c : List Int) (hc : srcOk c) (a s : Int) (ha : 0 ≤ a ∧ a ≤ 1000000) : ∃ v s', spec_l00Src_next.f c a s = some (v, a + 1, s') ∧ 0 ≤ v ∧ v ≤ 255 := by
  have hw : wrap64 (a + 1) = a + 1 := wrap64_id _ (by omega) (by omega)
  have hb : ∀ X : Int, 0 ≤ wrap64 (Go.bits .and .u64 (IntKind.u64.wrap X / 1099511627776) 255) ∧ wrap64 (Go.bits .and .u64 (IntKind.u64.wrap X / 1099511627776) 255) ≤ 255 := by
    intro X
    have h := wrap_u64_range X
    rw [and64_255 _ (by omega) (by omega), wrap64_id _ (by omega) (by omega)]
    omega
  unfold spec_l00Src_next.f
  rw [hw]
  by_cases h1 : a < (c.length : Int)
  · rw [if_pos h1, if_pos ha.1]
    have hr : 0 ≤ rd c a ∧ rd c a ≤ 255 := by
      obtain ⟨i, rfl⟩ := Int.eq_ofNat_of_zero_le ha.1
      rw [rd_nat, List.getD_eq_getElem?_getD, List.getElem?_eq_getElem (by omega)]
      exact hc.2 _ (List.getElem_mem _)
    by_cases h2 : a + 1 ≤ (c.length : Int)
    · rw [if_pos h2, wrap64_id (rd c a) (by omega) (by omega)]
      exact ⟨_, _, rfl, hr.1, hr.2⟩
    · rw [if_neg h2]
      exact ⟨_, _, rfl, hb _⟩
  · rw [if_neg h1]
    by_cases h2 : a + 1 ≤ (c.length : Int)
    · rw [if_pos h2]
      exact ⟨_, _, rfl, by decide, by decide⟩
    · rw [if_neg h2]
      exact ⟨_, _, rfl, hb _⟩
theorem pick_eq (c : List Int) (hc : srcOk c) (a s n : Int) (ha : 0 ≤ a ∧ a ≤ 1000000) (hn : 2 ≤ n ∧ n ≤ 200) : ∃ v s', spec_l00Src_pick.f c a s n = some (v, a + 1, s') ∧ 0 ≤ v ∧ v ≤ n - 1 := by
  obtain ⟨v, s', e, h0, h1⟩ := next_eq c hc a s ha
  unfold spec_l00Src_pick.f
  rw [if_neg (by omega), e]
  simp only [Option.bind_some]
  rw [if_neg (by omega), if_neg (by omega), Int.tmod_eq_emod_of_nonneg h0]
  exact ⟨_, _, rfl, Int.emod_nonneg _ (by omega), by have := Int.emod_lt_of_pos v (show 0 < n by omega); omega⟩
theorem i8_id (n : Int) (h : 0 ≤ n ∧ n ≤ 100) : IntKind.i8.wrap n = n := by
  simp [IntKind.wrap, IntKind.bits, IntKind.signed]
  omega
theorem p6pick_eq (c : List Int) (hc : srcOk c) (n : Int) (hn : 2 ≤ n ∧ n ≤ 200) : ∃ v, spec_P6Pick.f c n = some v ∧ 0 ≤ v ∧ v ≤ n - 1 := by
  unfold spec_P6Pick.f spec_l00From.f
  simp only [Option.bind_some]
  obtain ⟨v, s', e, v0, v1⟩ := pick_eq c hc 0 0 n (by decide) hn
  rw [e]
  exact ⟨v, rfl, v0, v1⟩

theorem i16_id (n : Int) (h : 0 ≤ n ∧ n ≤ 10000) : IntKind.i16.wrap n = n := by
  simp [IntKind.wrap, IntKind.bits, IntKind.signed]
  omega
theorem rd_app_lt (l : List Int) (x : Int) (j : Nat) (h : j < l.length) : rd (l ++ [x]) (j : Int) = rd l (j : Int) := by
  rw [rd_nat, rd_nat, List.getD_eq_getElem?_getD, List.getD_eq_getElem?_getD, List.getElem?_append_left h]
theorem rd_app_eq (l : List Int) (x : Int) (j : Nat) (h : j = l.length) : rd (l ++ [x]) (j : Int) = x := by
  subst h
  rw [rd_nat, List.getD_eq_getElem?_getD, List.getElem?_append_right (Nat.le_refl _), Nat.sub_self]; rfl
structure RopeI (p : Int) (l : List Int) : Prop where
  len : 1 ≤ l.length
  zero : rd l ((0 : Nat) : Int) = 0
  last : rd l ((l.length - 1 : Nat) : Int) = p
  up : ∀ j : Nat, 1 ≤ j → j < l.length → rd l ((j - 1 : Nat) : Int) < rd l (j : Int)
theorem RopeI.app {p : Int} {l : List Int} (h : RopeI p l) (x : Int) (hx : p < x) : RopeI x (l ++ [x]) where
  len := by simp
  zero := by rw [rd_app_lt l x 0 (by have := h.len; omega)]; exact h.zero
  last := by rw [List.length_append, List.length_singleton, Nat.add_sub_cancel]; exact rd_app_eq l x _ rfl
  up j h1 h2 := by
    rw [List.length_append, List.length_singleton] at h2
    by_cases e : j = l.length
    · rw [rd_app_eq l x j e, rd_app_lt l x (j - 1) (by omega), e, h.last]; exact hx
    · rw [rd_app_lt l x j (by omega), rd_app_lt l x (j - 1) (by omega)]; exact h.up j h1 (by omega)
theorem upFrom_mk (l : List Int) : ∀ (d i : Nat), 1 ≤ i → (∀ j : Nat, i ≤ j → j < i + d → rd l ((j - 1 : Nat) : Int) < rd l (j : Int)) → upFrom l d i = true := by
  intro d
  induction d with
  | zero => intro i _ _; rfl
  | succ d ih =>
    intro i h1 h
    unfold upFrom
    have := h i (Nat.le_refl _) (by omega)
    rw [show ((i : Int) - 1) = ((i - 1 : Nat) : Int) by omega, decide_eq_false (by omega), ih (i + 1) (by omega) (fun t q1 q2 => h t (by omega) (by omega))]
    rfl
theorem RopeI.ok {p : Int} {l : List Int} (h : RopeI p l) (hp : 1 ≤ p ∧ p ≤ 400) (hl : 2 ≤ l.length ∧ l.length ≤ 40) : ropeOk p l = true := by
  unfold ropeOk
  have h0 := h.zero
  have h1 := h.last
  rw [show ((l.length - 1 : Nat) : Int) = (l.length : Int) - 1 by omega] at h1
  rw [decide_eq_true hp, decide_eq_true hl, decide_eq_true (show rd l 0 = 0 from h0), decide_eq_true h1, upFrom_mk l _ 1 (by omega) (fun j q1 q2 => h.up j q1 (by omega))]
  rfl
theorem drawnR_l0 (c : List Int) (hc : srcOk c) : ∀ (d k : Nat) (a s p : Int) (kn : List Int), d < k → d ≤ 10 → 0 ≤ a → a + d ≤ 900000 → 0 ≤ p → p + 6 * d ≤ 400 → kn.length + d ≤ 40 → RopeI p kn → ∃ p' kn' a' s', spec_l03Drawn.l0 k (d : Int) c a s p kn = some (p', kn', a', s') ∧ RopeI p' kn' ∧ kn'.length = kn.length + d ∧ p + d ≤ p' ∧ p' ≤ p + 6 * d := by
  intro d
  induction d with
  | zero =>
    intro k a s p kn hk _ h0 h1 _ _ _ hr
    obtain ⟨k, rfl⟩ : ∃ m, k = m + 1 := ⟨k - 1, by omega⟩
    simp only [spec_l03Drawn.l0]
    rw [if_neg (by omega)]
    exact ⟨p, kn, a, s, rfl, hr, rfl, by omega, by omega⟩
  | succ d ih =>
    intro k a s p kn hk hd h0 h1 hp hp2 hl hr
    obtain ⟨k, rfl⟩ : ∃ m, k = m + 1 := ⟨k - 1, by omega⟩
    obtain ⟨v, s2, e, v0, v1⟩ := pick_eq c hc a s 6 (by omega) (by decide)
    simp only [spec_l03Drawn.l0]
    rw [if_pos (by omega), e]
    simp only [Option.bind_some]
    rw [if_pos (by omega), wrap64_id (1 + v) (by omega) (by omega), i16_id (1 + v) (by omega), i16_id (p + (1 + v)) (by omega), wrap64_id _ (by omega) (by omega), show ((d + 1 : Nat) : Int) - 1 = (d : Int) by omega]
    obtain ⟨p', kn', a', s', q1, q2, q3, q4, q5⟩ := ih k (a + 1) s2 (p + (1 + v)) (kn ++ [p + (1 + v)]) (by omega) (by omega) (by omega) (by omega) (by omega) (by omega) (by simp; omega) (hr.app _ (by omega))
    exact ⟨p', kn', a', s', q1, q2, by rw [q3]; simp; omega, by omega, by omega⟩
theorem p6rope_eq (c : List Int) (hc : srcOk c) (k : Nat) (hk : 20 ≤ k) : ∃ p kn, spec_P6Rope.f k c = some (p, kn) ∧ ropeOk p kn = true ∧ kn.length ≤ 8 ∧ 1 ≤ p ∧ p ≤ 42 := by
  unfold spec_P6Rope.f spec_l00From.f spec_l03Drawn.f
  simp only [Option.bind_some]
  obtain ⟨v, s', e, v0, v1⟩ := pick_eq c hc 0 0 7 (by decide) (by decide)
  rw [e]
  simp only [Option.bind_some]
  rw [wrap64_id (1 + v) (by omega) (by omega)]
  obtain ⟨d, hd⟩ := Int.eq_ofNat_of_zero_le (show 0 ≤ 1 + v by omega)
  rw [hd]
  obtain ⟨p', kn', a', s2, q1, q2, q3, q4, q5⟩ := drawnR_l0 c hc d k (0 + 1) s' 0 [0] (by omega) (by omega) (by decide) (by omega) (by decide) (by omega) (by simp; omega) ⟨by simp, rfl, rfl, fun j h1 h2 => by simp at h2; omega⟩
  rw [q1]
  refine ⟨p', kn', rfl, q2.ok (by omega) (by rw [q3]; simp; omega), by rw [q3]; simp; omega, by omega, by omega⟩
theorem pick_big (c : List Int) (hc : srcOk c) (a s n : Int) (ha : 0 ≤ a ∧ a ≤ 900000) (hn : 201 ≤ n ∧ n ≤ 100000) : ∃ v s', spec_l00Src_pick.f c a s n = some (v, a + 1 + 1, s') ∧ 0 ≤ v ∧ v ≤ n - 1 := by
  obtain ⟨v, s', e, h0, h1⟩ := next_eq c hc a s (by omega)
  obtain ⟨u, s2, e2, u0, u1⟩ := next_eq c hc (a + 1) s' (by omega)
  unfold spec_l00Src_pick.f
  rw [if_neg (by omega), e]
  simp only [Option.bind_some]
  rw [if_pos (by omega), e2]
  simp only [Option.bind_some]
  rw [if_neg (by omega), wrap64_id (v * 256) (by omega) (by omega), wrap64_id (v * 256 + u) (by omega) (by omega), Int.tmod_eq_emod_of_nonneg (by omega)]
  exact ⟨_, _, rfl, Int.emod_nonneg _ (by omega), by have := Int.emod_lt_of_pos (v * 256 + u) (show 0 < n by omega); omega⟩
theorem i8_small (n : Nat) (h : n ≤ 100) : IntKind.i8.wrap (n : Int) = (n : Int) := i8_id _ (by omega)
structure HeldI (v0 T : Int) (j : Nat) (xs : List S52) : Prop where
  len : xs.length ≤ j
  rng : ∀ h ∈ xs, (0 ≤ h.f0 ∧ h.f0 ≤ 999) ∧ 0 ≤ h.f1 ∧ h.f1 ≤ (j : Int) - 1
  up : xs.Pairwise (fun a b => a.f1 < b.f1)
  dis : xs.Pairwise (fun a b => a.f0 ≠ b.f0)
  off : ∀ h ∈ xs, ∃ t : Int, 0 ≤ t ∧ t < T ∧ h.f0 = (v0 + t) % 1000
  tot : 0 ≤ T ∧ T ≤ 31 * (j : Int)
theorem held_go (c : List Int) (hc : srcOk c) (p : Int) (kn : List Int) (hkn : kn.length ≤ 8) (v0 : Int) (hv : 0 ≤ v0 ∧ v0 ≤ 899) : ∀ (d j k : Nat) (xs : List S52) (T a s : Int), j + d = kn.length → 2 * d + 3 ≤ k → 0 ≤ a → a + 2 * d ≤ 900000 → HeldI v0 T j xs →
    ∃ ys T' a' s', spec_l03Held.l0 k xs ((v0 + T) % 1000) (j : Int) c a s p kn = some (ys, a', s') ∧ HeldI v0 T' kn.length ys := by
  intro d
  induction d with
  | zero =>
    intro j k xs T a s hj hk h0 h1 hI
    obtain ⟨k, rfl⟩ : ∃ m, k = m + 2 := ⟨k - 2, by omega⟩
    simp only [spec_l03Held.l0, spec_l03Held.j1]
    rw [if_neg (by omega), if_neg (by decide)]
    have hj : j = kn.length := by omega
    subst hj
    exact ⟨xs, T, a, s, rfl, hI⟩
  | succ d ih =>
    intro j k xs T a s hj hk h0 h1 hI
    obtain ⟨k, rfl⟩ : ∃ m, k = m + 2 := ⟨k - 2, by omega⟩
    simp only [spec_l03Held.l0, spec_l03Held.j1]
    have htot := hI.tot
    rw [if_pos (by omega), if_pos (by simp; omega)]
    obtain ⟨v, s1, e1, v1, v2⟩ := pick_eq c hc a s 2 (by omega) (by decide)
    unfold spec_l00Src_one.f
    rw [e1]
    simp only [Option.bind_some]
    by_cases b : v = 0
    · subst b
      have hlen := hI.len
      rw [if_pos (by decide), if_pos (by omega)]
      obtain ⟨u, s2, e2, u1, u2⟩ := pick_eq c hc (a + 1) s1 30 (by omega) (by decide)
      rw [e2]
      simp only [Option.bind_some]
      have hw := Int.emod_nonneg (v0 + T) (show (1000 : Int) ≠ 0 by decide)
      have hw2 := Int.emod_lt_of_pos (v0 + T) (show (0 : Int) < 1000 by decide)
      rw [i16_id _ (by omega), i8_small j (by omega), wrap64_id ((v0 + T) % 1000 + 1) (by omega) (by omega), wrap64_id _ (by omega) (by omega), Int.tmod_eq_emod_of_nonneg (by omega), wrap_nat j (by omega)]
      have hm : ((v0 + T) % 1000 + 1 + u) % 1000 = (v0 + (T + 1 + u)) % 1000 := by omega
      rw [hm]
      refine ih (j + 1) k _ (T + 1 + u) (a + 1 + 1) s2 (by omega) (by omega) (by omega) (by omega) ⟨by simp; omega, ?_, ?_, ?_, ?_, by omega⟩
      · intro h hh
        rcases List.mem_append.1 hh with q | q
        · have := hI.rng h q; omega
        · rw [List.mem_singleton.1 q]; exact ⟨⟨by show 0 ≤ (v0 + T) % 1000; omega, by show (v0 + T) % 1000 ≤ 999; omega⟩, by show (0 : Int) ≤ (j : Int); omega, by show (j : Int) ≤ ((j + 1 : Nat) : Int) - 1; omega⟩
      · rw [List.pairwise_append]
        refine ⟨hI.up, List.pairwise_singleton _ _, fun x hx y hy => ?_⟩
        rw [List.mem_singleton.1 hy]
        have := (hI.rng x hx).2.2
        show x.f1 < (j : Int)
        omega
      · rw [List.pairwise_append]
        refine ⟨hI.dis, List.pairwise_singleton _ _, fun x hx y hy => ?_⟩
        rw [List.mem_singleton.1 hy]
        obtain ⟨t, t0, t1, t2⟩ := hI.off x hx
        show x.f0 ≠ (v0 + T) % 1000
        rw [t2]
        omega
      · intro h hh
        rcases List.mem_append.1 hh with q | q
        · obtain ⟨t, t0, t1, t2⟩ := hI.off h q
          exact ⟨t, t0, by omega, t2⟩
        · rw [List.mem_singleton.1 q]
          exact ⟨T, by omega, by omega, rfl⟩
    · rw [if_neg (by simpa using b), wrap_nat j (by omega)]
      refine ih (j + 1) k xs T (a + 1) s1 (by omega) (by omega) (by omega) (by omega) ⟨by have := hI.len; omega, fun h hh => by have := hI.rng h hh; omega, hI.up, hI.dis, hI.off, by omega⟩
theorem p6holds_eq (c : List Int) (hc : srcOk c) (p : Int) (kn : List Int) (hkn : kn.length ≤ 8) (hr : ropeOk p kn = true) (k : Nat) (hk : 50 ≤ k) : ∃ hs, spec_P6Holds.f k c p kn = some hs ∧ HOK p kn hs := by
  unfold spec_P6Holds.f spec_l00From.f spec_l03Held.f
  simp only [Option.bind_some]
  obtain ⟨v, s', e, v0, v1⟩ := pick_big c hc 0 0 900 (by decide) (by decide)
  rw [e]
  simp only [Option.bind_some]
  obtain ⟨ys, T', a', s2, q, hI⟩ := held_go c hc p kn hkn v (by omega) kn.length 0 k [] 0 (0 + 1 + 1) s' (by omega) (by omega) (by decide) (by omega) ⟨by simp, by simp, List.Pairwise.nil, List.Pairwise.nil, by simp, by decide⟩
  rw [show (v + 0) % 1000 = v by omega, show ((0 : Nat) : Int) = 0 from rfl] at q
  rw [q]
  exact ⟨ys, rfl, hr, hI.rng, hI.up, hI.dis⟩

def listF (g : Nat → Int) : Nat → Nat → List Int
  | 0, _ => []
  | d + 1, i => g i :: listF g d (i + 1)
theorem listF_len (g : Nat → Int) : ∀ d i, (listF g d i).length = d
  | 0, _ => rfl
  | d + 1, i => by unfold listF; rw [List.length_cons, listF_len g d (i + 1)]
theorem listF_rd (g : Nat → Int) : ∀ (d i j : Nat), j < d → rd (listF g d i) (j : Int) = g (i + j)
  | 0, _, _, h => absurd h (by omega)
  | d + 1, i, 0, _ => rfl
  | d + 1, i, j + 1, h => by
    have := listF_rd g d (i + 1) j (by omega)
    rw [rd_nat] at this ⊢
    unfold listF
    rw [List.getD_cons_succ, this]
    congr 1; omega
theorem up_le (l : List Int) : ∀ (d i : Nat), 1 ≤ i → upFrom l d i = true → ∀ j, i ≤ j → j < i + d → rd l ((j : Int) - 1) < rd l (j : Int) := by
  intro d
  induction d with
  | zero => intro i _ _ j h1 h2; omega
  | succ d ihd =>
    intro i h1 hu j h2 h3
    unfold upFrom at hu
    rw [Bool.and_eq_true] at hu
    by_cases e : j = i
    · subst e
      have := hu.1
      simp at this
      omega
    · exact ihd (i + 1) (by omega) hu.2 j (by omega) (by omega)
theorem rope_up (p : Int) (l : List Int) (h : ropeOk p l = true) : ∀ (j : Nat), j < l.length → (0 ≤ rd l (j : Int)) ∧ ∀ i, j ≤ i → i < l.length → rd l (j : Int) ≤ rd l (i : Int) := by
  unfold ropeOk at h
  simp only [Bool.and_eq_true, decide_eq_true_eq] at h
  obtain ⟨h1, h2, h3, h4, h5⟩ := h
  have up := up_le l (l.length - 1) 1 (Nat.le_refl _) h5
  have mono : ∀ (j i : Nat), j ≤ i → i < l.length → rd l (j : Int) ≤ rd l (i : Int) := by
    intro j i hji
    induction i with
    | zero => intro _; obtain rfl : j = 0 := by omega
              exact Int.le_refl _
    | succ i ihi =>
      intro hi
      by_cases e : j = i + 1
      · subst e; exact Int.le_refl _
      · have a := ihi (by omega) (by omega)
        have b := up (i + 1) (by omega) (by omega)
        rw [show ((i + 1 : Nat) : Int) - 1 = (i : Int) from by omega] at b
        omega
  intro j hj
  refine ⟨?_, fun i h1 h2 => mono j i h1 h2⟩
  have := mono 0 j (by omega) hj
  rw [show ((0 : Nat) : Int) = 0 from rfl, h3] at this
  exact this
theorem rope_rng (p : Int) (l : List Int) (h : ropeOk p l = true) (j : Nat) (hj : j < l.length) : 0 ≤ rd l (j : Int) ∧ rd l (j : Int) ≤ 400 := by
  obtain ⟨a, b⟩ := rope_up p l h j hj
  have c := b (l.length - 1) (by omega) (by omega)
  unfold ropeOk at h
  simp only [Bool.and_eq_true, decide_eq_true_eq] at h
  obtain ⟨h1, h2, h3, h4, h5⟩ := h
  rw [show ((l.length - 1 : Nat) : Int) = (l.length : Int) - 1 from by omega, h4] at c
  omega
theorem holds_at (l : List S52) (n : Int) : ∀ (d i : Nat), holdsFrom l n d i = true → ∀ j, i ≤ j → j < i + d → 0 ≤ (rd_T52 l (j : Int)).f1 ∧ (rd_T52 l (j : Int)).f1 ≤ n - 1 := by
  intro d
  induction d with
  | zero => intro i _ j h1 h2; omega
  | succ d ihd =>
    intro i hh j h1 h2
    unfold holdsFrom at hh
    rw [Bool.and_eq_true] at hh
    by_cases e : j = i
    · subst e
      have := hh.1
      unfold holdAt at this
      rw [Bool.and_eq_true, Bool.and_eq_true, decide_eq_true_eq, decide_eq_true_eq] at this
      exact this.2.1
    · exact ihd (i + 1) hh.2 j (by omega) (by omega)
def gapG (kn : List Int) (l : List S52) (i : Nat) : Int := rd kn (rd_T52 l (i : Int)).f1 - rd kn (rd_T52 l ((i - 1 : Nat) : Int)).f1
theorem gap_facts (p : Int) (kn : List Int) (l : List S52) (hh : holdsOk p kn l = true) (i : Nat) (hi : i < l.length) : (0 ≤ (rd_T52 l (i : Int)).f1 ∧ (rd_T52 l (i : Int)).f1 < (kn.length : Int)) ∧ 0 ≤ rd kn (rd_T52 l (i : Int)).f1 ∧ rd kn (rd_T52 l (i : Int)).f1 ≤ 400 := by
  unfold holdsOk at hh
  rw [Bool.and_eq_true] at hh
  have a := holds_at l _ l.length 0 hh.2 i (Nat.zero_le _) (by omega)
  have e : (rd_T52 l (i : Int)).f1 = ((rd_T52 l (i : Int)).f1.toNat : Int) := by omega
  refine ⟨by omega, ?_⟩
  rw [e]
  exact rope_rng p kn hh.1 _ (by omega)
theorem gaps_l0 (p : Int) (kn : List Int) (l : List S52) (hl : l.length ≤ 1048576) (hh : holdsOk p kn l = true) : ∀ (d i k : Nat) (acc : List Int), i + d = l.length → 1 ≤ i → d < k → acc.length + d ≤ 1048576 → spec_l03Gaps.l0 k l acc (i : Int) p kn = some (acc ++ listF (gapG kn l) d i) ∧ impl_GapsOf.l0 k l acc (i : Int) p kn = some (acc ++ listF (gapG kn l) d i, 0) := by
  intro d
  induction d with
  | zero =>
    intro i k acc hi h1 hk ha
    obtain ⟨k, rfl⟩ : ∃ m, k = m + 1 := ⟨k - 1, by omega⟩
    rw [spec_l03Gaps.l0, impl_GapsOf.l0, if_neg (by omega), if_neg (by omega)]
    unfold listF
    rw [List.append_nil]
    exact ⟨rfl, rfl⟩
  | succ d ihd =>
    intro i k acc hi h1 hk ha
    obtain ⟨k, rfl⟩ : ∃ m, k = m + 1 := ⟨k - 1, by omega⟩
    have e : wrap64 ((i : Int) - 1) = ((i - 1 : Nat) : Int) := by rw [wrap64_id _ (by omega) (by omega)]; omega
    obtain ⟨⟨f1, f2⟩, f3, f4⟩ := gap_facts p kn l hh i (by omega)
    obtain ⟨⟨g1, g2⟩, g3, g4⟩ := gap_facts p kn l hh (i - 1) (by omega)
    have hg : gapG kn l i = rd kn (rd_T52 l (i : Int)).f1 - rd kn (rd_T52 l ((i - 1 : Nat) : Int)).f1 := rfl
    have e1 : wrap64 (wrap64 (rd kn (rd_T52 l (i : Int)).f1) - wrap64 (rd kn (rd_T52 l ((i - 1 : Nat) : Int)).f1)) = gapG kn l i := by
      rw [wrap64_id (rd kn (rd_T52 l (i : Int)).f1) (by omega) (by omega), wrap64_id (rd kn (rd_T52 l ((i - 1 : Nat) : Int)).f1) (by omega) (by omega), wrap64_id _ (by omega) (by omega), hg]
    have e2 : wrap64 (IntKind.i16.wrap (rd kn (rd_T52 l (i : Int)).f1 - rd kn (rd_T52 l ((i - 1 : Nat) : Int)).f1)) = gapG kn l i := by
      have : IntKind.i16.wrap (rd kn (rd_T52 l (i : Int)).f1 - rd kn (rd_T52 l ((i - 1 : Nat) : Int)).f1) = rd kn (rd_T52 l (i : Int)).f1 - rd kn (rd_T52 l ((i - 1 : Nat) : Int)).f1 := by simp [IntKind.wrap, IntKind.bits, IntKind.signed]; omega
      rw [this, wrap64_id _ (by omega) (by omega), hg]
    have q := ihd (i + 1) k (acc ++ [gapG kn l i]) (by omega) (by omega) (by omega) (by rw [List.length_append, List.length_singleton]; omega)
    have hap : acc ++ listF (gapG kn l) (d + 1) i = (acc ++ [gapG kn l i]) ++ listF (gapG kn l) d (i + 1) := by rw [List.append_assoc]; rfl
    constructor
    · rw [spec_l03Gaps.l0, e, if_pos (by omega), if_pos (by omega), if_pos f1, if_pos f2, if_pos (by omega), if_pos (by omega), if_pos g1, if_pos g2, if_pos (by omega), wrap_nat i (by omega), e1, hap]
      exact q.1
    · rw [impl_GapsOf.l0, e, if_pos (by omega), if_pos (by omega), if_pos f1, if_pos f2, if_pos (by omega), if_pos (by omega), if_pos g1, if_pos g2, if_pos (by omega), wrap_nat i (by omega), e2, hap]
      exact q.2
theorem gaps_eq (p : Int) (kn : List Int) (l : List S52) (hl : l.length ≤ 1048576) (hh : holdsOk p kn l = true) (k : Nat) (hk : l.length < k) : spec_l03Gaps.f k p kn l = some (listF (gapG kn l) (l.length - 1) 1) ∧ impl_GapsOf.l0 k l [] 1 p kn = some (listF (gapG kn l) (l.length - 1) 1, 0) := by
  unfold spec_l03Gaps.f
  by_cases c : l.length = 0
  · obtain ⟨k, rfl⟩ : ∃ m, k = m + 1 := ⟨k - 1, by omega⟩
    rw [spec_l03Gaps.l0, impl_GapsOf.l0, if_neg (by omega), if_neg (by omega), c]
    exact ⟨rfl, rfl⟩
  · have := gaps_l0 p kn l hl hh (l.length - 1) 1 k [] (by omega) (Nat.le_refl _) (by omega) (by simp; omega)
    rwa [List.nil_append] at this

/-! Ropes: their spacings, their parts. -/
theorem ropeI_of {p : Int} {l : List Int} (h : ropeOk p l = true) : RopeI p l ∧ (1 ≤ p ∧ p ≤ 400) ∧ (2 ≤ l.length ∧ l.length ≤ 40) := by
  unfold ropeOk at h
  simp only [Bool.and_eq_true, decide_eq_true_eq] at h
  obtain ⟨hp, hl, h0, h1, hu⟩ := h
  refine ⟨⟨by omega, h0, ?_, fun j j1 j2 => ?_⟩, hp, hl⟩
  · rw [show ((l.length - 1 : Nat) : Int) = (l.length : Int) - 1 by omega]; exact h1
  · have := up_le l (l.length - 1) 1 (Nat.le_refl _) hu j j1 (by omega)
    rw [show ((j - 1 : Nat) : Int) = (j : Int) - 1 by omega]; exact this
theorem RopeI.le {p : Int} {l : List Int} (h : RopeI p l) : ∀ (d i : Nat), i + d < l.length → rd l (i : Int) ≤ rd l ((i + d : Nat) : Int) := by
  intro d
  induction d with
  | zero => intro i _; exact Int.le_refl _
  | succ d ih =>
    intro i hi
    have a := ih i (by omega)
    have b := h.up (i + d + 1) (by omega) (by omega)
    rw [show i + d + 1 - 1 = i + d by omega] at b
    rw [show i + (d + 1) = i + d + 1 by omega]
    omega
theorem RopeI.rng {p : Int} {l : List Int} (h : RopeI p l) (j : Nat) (hj : j < l.length) : 0 ≤ rd l (j : Int) ∧ rd l (j : Int) ≤ p := by
  have a := h.le j 0 (by omega)
  have b := h.le (l.length - 1 - j) j (by omega)
  rw [h.zero, show 0 + j = j by omega] at a
  rw [show j + (l.length - 1 - j) = l.length - 1 by omega, h.last] at b
  exact ⟨a, b⟩
def spG (l : List Int) (i : Nat) : Int := rd l (i : Int) - rd l ((i - 1 : Nat) : Int)
theorem sp_rng {p : Int} {l : List Int} (h : RopeI p l) (hp : p ≤ 400) (i : Nat) (h1 : 1 ≤ i) (hi : i < l.length) : 1 ≤ spG l i ∧ spG l i ≤ 400 := by
  have a := h.up i h1 hi
  have b := h.rng i hi
  have c := h.rng (i - 1) (by omega)
  unfold spG
  omega
theorem implSp_l0 {p : Int} {l : List Int} (h : RopeI p l) (hp : p ≤ 400) (hl : l.length ≤ 1000) : ∀ (d i k : Nat) (acc : List Int), i + d = l.length → 1 ≤ i → d < k → acc.length + d ≤ 2000 → impl_SpacingsOf.l0 k acc (i : Int) p l = some (acc ++ listF (spG l) d i, 0) := by
  intro d
  induction d with
  | zero =>
    intro i k acc hi h1 hk ha
    obtain ⟨k, rfl⟩ : ∃ m, k = m + 1 := ⟨k - 1, by omega⟩
    rw [impl_SpacingsOf.l0, if_neg (by omega)]
    unfold listF
    rw [List.append_nil]
  | succ d ih =>
    intro i k acc hi h1 hk ha
    obtain ⟨k, rfl⟩ : ∃ m, k = m + 1 := ⟨k - 1, by omega⟩
    have e : wrap64 ((i : Int) - 1) = ((i - 1 : Nat) : Int) := by rw [wrap64_id _ (by omega) (by omega)]; omega
    have hr := sp_rng h hp i h1 (by omega)
    have hb := ih (i + 1) k (acc ++ [spG l i]) (by omega) (by omega) (by omega) (by rw [List.length_append, List.length_singleton]; omega)
    rw [List.append_assoc] at hb
    rw [impl_SpacingsOf.l0, e, if_pos (by omega), if_pos (by omega), if_pos (by omega), if_pos (by omega), if_pos (by omega), show rd l (i : Int) - rd l ((i - 1 : Nat) : Int) = spG l i from rfl, i16_id (spG l i) (by omega), wrap64_id (spG l i) (by omega) (by omega), wrap_nat i (by omega)]
    exact hb
theorem specSp_l0 {p : Int} {l : List Int} (h : RopeI p l) (hp : p ≤ 400) (hl : l.length ≤ 1000) : ∀ (d i k : Nat) (acc : List Int), i + d = l.length → 1 ≤ i → d < k → acc.length + d ≤ 2000 → spec_SpacingsOf.l0 k acc (i : Int) p l = some (acc ++ listF (spG l) d i, 0) := by
  intro d
  induction d with
  | zero =>
    intro i k acc hi h1 hk ha
    obtain ⟨k, rfl⟩ : ∃ m, k = m + 1 := ⟨k - 1, by omega⟩
    rw [spec_SpacingsOf.l0, if_neg (by omega)]
    unfold listF
    rw [List.append_nil]
  | succ d ih =>
    intro i k acc hi h1 hk ha
    obtain ⟨k, rfl⟩ : ∃ m, k = m + 1 := ⟨k - 1, by omega⟩
    have e : wrap64 ((i : Int) - 1) = ((i - 1 : Nat) : Int) := by rw [wrap64_id _ (by omega) (by omega)]; omega
    have hr := sp_rng h hp i h1 (by omega)
    have g1 := h.rng i (by omega)
    have g2 := h.rng (i - 1) (by omega)
    have hb := ih (i + 1) k (acc ++ [spG l i]) (by omega) (by omega) (by omega) (by rw [List.length_append, List.length_singleton]; omega)
    rw [List.append_assoc] at hb
    rw [spec_SpacingsOf.l0, e, if_pos (by omega), if_pos (by omega), if_pos (by omega), if_pos (by omega), if_pos (by omega), wrap64_id (rd l (i : Int)) (by omega) (by omega), wrap64_id (rd l ((i - 1 : Nat) : Int)) (by omega) (by omega), show rd l (i : Int) - rd l ((i - 1 : Nat) : Int) = spG l i from rfl, wrap64_id (spG l i) (by omega) (by omega), wrap_nat i (by omega)]
    exact hb
theorem implSp_eq {p : Int} {l : List Int} (h : ropeOk p l = true) (k : Nat) (hk : 1100000 < k) : impl_SpacingsOf.f k p l = some (listF (spG l) (l.length - 1) 1, 0) := by
  obtain ⟨hI, hp, hl⟩ := ropeI_of h
  have := implSp_l0 hI hp.2 (by omega) (l.length - 1) 1 k [] (by omega) (Nat.le_refl _) (by omega) (by rw [List.length_nil]; omega)
  unfold impl_SpacingsOf.f
  rw [implRope_eq p (by omega) l (by omega) k (by omega), Option.bind_some, if_pos h]
  exact this
theorem specSp_eq {p : Int} {l : List Int} (h : ropeOk p l = true) (k : Nat) (hk : 1100000 < k) : spec_SpacingsOf.f k p l = some (listF (spG l) (l.length - 1) 1, 0) := by
  obtain ⟨hI, hp, hl⟩ := ropeI_of h
  have := specSp_l0 hI hp.2 (by omega) (l.length - 1) 1 k [] (by omega) (Nat.le_refl _) (by omega) (by rw [List.length_nil]; omega)
  unfold spec_SpacingsOf.f
  rw [Option.bind_some, specRope_eq p (by omega) l (by omega) k (by omega), Option.bind_some, if_pos h]
  exact this
theorem rd_take' (l : List Int) (m j : Nat) (h : j < m) : rd (l.take m) (j : Int) = rd l (j : Int) := by
  rw [rd_nat, rd_nat, List.getD_eq_getElem?_getD, List.getD_eq_getElem?_getD, List.getElem?_take, if_pos h]
theorem rd_cut (l : List Int) (c j : Nat) (a : Int) (h : c + j < l.length) : rd ((l.drop c).map (fun x => x - a)) (j : Int) = rd l ((c + j : Nat) : Int) - a := by
  rw [rd_nat, rd_nat, List.getD_eq_getElem?_getD, List.getD_eq_getElem?_getD, List.getElem?_map, List.getElem?_drop, List.getElem?_eq_getElem h]; rfl
theorem RopeI.left {p : Int} {l : List Int} (h : RopeI p l) (c : Nat) (hc : c < l.length) : RopeI (rd l (c : Int)) (l.take (c + 1)) where
  len := by rw [List.length_take]; omega
  zero := by rw [rd_take' l (c + 1) 0 (by omega)]; exact h.zero
  last := by rw [List.length_take, Nat.min_eq_left (by omega), Nat.add_sub_cancel, rd_take' l (c + 1) c (by omega)]
  up j h1 h2 := by
    rw [List.length_take] at h2
    rw [rd_take' l (c + 1) j (by omega), rd_take' l (c + 1) (j - 1) (by omega)]
    exact h.up j h1 (by omega)
theorem RopeI.right {p : Int} {l : List Int} (h : RopeI p l) (c : Nat) (hc : c < l.length) : RopeI (p - rd l (c : Int)) ((l.drop c).map (fun x => x - rd l (c : Int))) where
  len := by rw [List.length_map, List.length_drop]; omega
  zero := by rw [rd_cut l c 0 _ (by omega), Nat.add_zero]; omega
  last := by rw [List.length_map, List.length_drop, rd_cut l c _ _ (by omega), show c + (l.length - c - 1) = l.length - 1 by omega, h.last]
  up j h1 h2 := by
    rw [List.length_map, List.length_drop] at h2
    rw [rd_cut l c j _ (by omega), rd_cut l c (j - 1) _ (by omega)]
    have := h.up (c + j) (by omega) (by omega)
    rw [show c + j - 1 = c + (j - 1) by omega] at this
    omega
theorem listF_congr (g g' : Nat → Int) : ∀ (d i i' : Nat), (∀ t, t < d → g (i + t) = g' (i' + t)) → listF g d i = listF g' d i' := by
  intro d
  induction d with
  | zero => intro i i' _; rfl
  | succ d ih =>
    intro i i' h
    have h0 := h 0 (by omega)
    rw [Nat.add_zero, Nat.add_zero] at h0
    show g i :: listF g d (i + 1) = g' i' :: listF g' d (i' + 1)
    rw [h0, ih (i + 1) (i' + 1) (fun t ht => by
      have := h (t + 1) (by omega)
      rwa [show i + (t + 1) = i + 1 + t by omega, show i' + (t + 1) = i' + 1 + t by omega] at this)]
theorem listF_app (g : Nat → Int) : ∀ (d e i : Nat), listF g d i ++ listF g e (i + d) = listF g (d + e) i := by
  intro d
  induction d with
  | zero => intro e i; rw [Nat.zero_add, Nat.add_zero]; rfl
  | succ d ih =>
    intro e i
    rw [show d + 1 + e = (d + e) + 1 by omega, show i + (d + 1) = i + 1 + d by omega]
    show g i :: (listF g d (i + 1) ++ listF g e (i + 1 + d)) = g i :: listF g (d + e) (i + 1)
    rw [ih e (i + 1)]
theorem sp_cut (l : List Int) (c : Nat) (hc : c + 1 < l.length) : listF (spG (l.take (c + 1))) ((l.take (c + 1)).length - 1) 1 ++ listF (spG ((l.drop c).map (fun x => x - rd l (c : Int)))) (((l.drop c).map (fun x => x - rd l (c : Int))).length - 1) 1 = listF (spG l) (l.length - 1) 1 := by
  have e1 : (l.take (c + 1)).length - 1 = c := by rw [List.length_take]; omega
  have e2 : ((l.drop c).map (fun x => x - rd l (c : Int))).length - 1 = l.length - 1 - c := by rw [List.length_map, List.length_drop]; omega
  have a := listF_congr (spG (l.take (c + 1))) (spG l) c 1 1 (fun t ht => by
    unfold spG
    rw [rd_take' l (c + 1) (1 + t) (by omega), rd_take' l (c + 1) (1 + t - 1) (by omega)])
  have b := listF_congr (spG ((l.drop c).map (fun x => x - rd l (c : Int)))) (spG l) (l.length - 1 - c) 1 (1 + c) (fun t ht => by
    unfold spG
    rw [rd_cut l c (1 + t) _ (by omega), rd_cut l c (1 + t - 1) _ (by omega), show c + (1 + t) = 1 + c + t by omega, show c + (1 + t - 1) = 1 + c + t - 1 by omega]
    omega)
  rw [e1, e2, a, b, listF_app, show c + (l.length - 1 - c) = l.length - 1 by omega]
def cutR (p : Int) (l : List Int) (c : Nat) : Int × List Int × Int × List Int × Int := (rd l (c : Int), l.take (c + 1), p - rd l (c : Int), (l.drop c).map (fun x => x - rd l (c : Int)), 0)
theorem implCut_l0 (a P Q : Int) (A o : List Int) (ho : o.length ≤ 1000) (hr : ∀ j : Nat, j < o.length → 0 ≤ rd o (j : Int) - a ∧ rd o (j : Int) - a ≤ 10000) : ∀ (d i k : Nat), i + d = o.length → d < k → impl_CutRope.l0 k a (o.length : Int) (i : Int) P A Q ((o.map (fun x => x - a)).take i ++ o.drop i) = some (P, A, Q, o.map (fun x => x - a), 0) := by
  intro d
  induction d with
  | zero =>
    intro i k hi hk
    obtain ⟨k, rfl⟩ : ∃ m, k = m + 1 := ⟨k - 1, by omega⟩
    rw [impl_CutRope.l0, if_neg (by omega), List.take_of_length_le (by rw [List.length_map]; omega), List.drop_eq_nil_of_le (by omega), List.append_nil]
  | succ d ih =>
    intro i k hi hk
    obtain ⟨k, rfl⟩ : ∃ m, k = m + 1 := ⟨k - 1, by omega⟩
    have hlt : ((o.map (fun x => x - a)).take i).length = i := by rw [List.length_take, List.length_map]; omega
    have hrd : rd ((o.map (fun x => x - a)).take i ++ o.drop i) (i : Int) = rd o (i : Int) := by
      rw [rd_nat, rd_nat, List.getD_eq_getElem?_getD, List.getD_eq_getElem?_getD, List.getElem?_append_right (by omega), hlt, Nat.sub_self, List.getElem?_drop, Nat.add_zero]
    rw [impl_CutRope.l0, if_pos (by omega), if_pos (by omega), if_pos (by rw [List.length_append, hlt, List.length_drop]; omega), hrd, i16_id _ (hr i (by omega)), wrap_nat i (by omega), Int.toNat_natCast, set_drop _ _ i _ hlt (by omega)]
    have ht : (o.map (fun x => x - a)).take i ++ [rd o (i : Int) - a] = (o.map (fun x => x - a)).take (i + 1) := by
      rw [take_getD 0 _ i (by rw [List.length_map]; omega), List.getD_eq_getElem?_getD, List.getElem?_map, rd_nat, List.getD_eq_getElem?_getD, List.getElem?_eq_getElem (show i < o.length by omega)]; rfl
    rw [ht]
    exact ih (i + 1) k (by omega) (by omega)
theorem clone_eq (l : List Int) (hl : l.length ≤ 1000000) : slices_Clone_Sint16_int16.f l = some l := by
  unfold slices_Clone_Sint16_int16.f
  rw [Option.bind_some, if_pos (by rw [List.length_nil]; omega), List.nil_append]
theorem implCut_eq {p : Int} {l : List Int} (h : ropeOk p l = true) (c : Nat) (h1 : 1 ≤ c) (hc : c + 1 < l.length) (k : Nat) (hk : 1100000 < k) : impl_CutRope.f k p l (c : Int) = some (cutR p l c) := by
  obtain ⟨hI, hp, hl⟩ := ropeI_of h
  have hr := hI.rng c (by omega)
  have hdl : (l.drop c).length = l.length - c := List.length_drop
  have hj : ∀ j : Nat, j < (l.drop c).length → 0 ≤ rd (l.drop c) (j : Int) - rd l (c : Int) ∧ rd (l.drop c) (j : Int) - rd l (c : Int) ≤ 10000 := fun j hj => by
    have e : rd (l.drop c) (j : Int) = rd l ((c + j : Nat) : Int) := by rw [rd_nat, rd_nat, List.getD_eq_getElem?_getD, List.getD_eq_getElem?_getD, List.getElem?_drop]
    have a := hI.le j c (by omega)
    have b := hI.rng (c + j) (by omega)
    rw [e]; omega
  have key := implCut_l0 (rd l (c : Int)) (rd l (c : Int)) (p - rd l (c : Int)) (l.take (c + 1)) (l.drop c) (by omega) hj (l.drop c).length 0 k (by omega) (by omega)
  rw [List.take_zero, List.nil_append, List.drop_zero, show ((0 : Nat) : Int) = 0 from rfl] at key
  unfold impl_CutRope.f impl_size_int16.f
  rw [Option.bind_some, implRope_eq p (by omega) l (by omega) k (by omega), Option.bind_some, if_pos h, wrap64_id ((l.length : Int) - 1) (by omega) (by omega), within_eq, Option.bind_some, if_pos (decide_eq_true (by omega)), if_neg (by omega), if_neg (by omega), if_pos (by omega), if_pos (by omega), wrap_nat c (by omega), if_pos (by omega), if_pos (by omega), Int.toNat_natCast, clone_eq _ (by rw [List.length_take]; omega), Option.bind_some, if_pos (by omega), Int.toNat_natCast, clone_eq _ (by omega), Option.bind_some, i16_id (p - rd l (c : Int)) (by omega)]
  exact key
theorem specCut_l0 (p : Int) (l : List Int) (a P Q : Int) (A : List Int) (c : Nat) (hl : l.length ≤ 1000) (hr : ∀ j : Nat, c ≤ j → j < l.length → 0 ≤ rd l (j : Int) - a ∧ rd l (j : Int) - a ≤ 10000) : ∀ (d i k : Nat) (acc : List Int), i + d = l.length → c ≤ i → d < k → acc.length + d ≤ 2000 → spec_CutRope.l0 k ((l.length : Int) - 1) a (i : Int) p l P A Q acc = some (P, A, Q, acc ++ (l.drop i).map (fun x => x - a), 0) := by
  intro d
  induction d with
  | zero =>
    intro i k acc hi hc hk ha
    obtain ⟨k, rfl⟩ : ∃ m, k = m + 1 := ⟨k - 1, by omega⟩
    rw [spec_CutRope.l0, if_neg (by omega), List.drop_eq_nil_of_le (by omega), List.map_nil, List.append_nil]
  | succ d ih =>
    intro i k acc hi hc hk ha
    obtain ⟨k, rfl⟩ : ∃ m, k = m + 1 := ⟨k - 1, by omega⟩
    have hb := ih (i + 1) k (acc ++ [rd l (i : Int) - a]) (by omega) (by omega) (by omega) (by rw [List.length_append, List.length_singleton]; omega)
    rw [List.append_assoc] at hb
    rw [spec_CutRope.l0, if_pos (by omega), if_pos (by omega), if_pos (by omega), if_pos (by omega), i16_id _ (hr i hc (by omega)), wrap_nat i (by omega), drop_rd l i (by omega), List.map_cons]
    exact hb
theorem specCut_eq {p : Int} {l : List Int} (h : ropeOk p l = true) (c : Nat) (h1 : 1 ≤ c) (hc : c + 1 < l.length) (k : Nat) (hk : 1100000 < k) : spec_CutRope.f k p l (c : Int) = some (cutR p l c) := by
  obtain ⟨hI, hp, hl⟩ := ropeI_of h
  have hr := hI.rng c (by omega)
  have hj : ∀ j : Nat, c ≤ j → j < l.length → 0 ≤ rd l (j : Int) - rd l (c : Int) ∧ rd l (j : Int) - rd l (c : Int) ≤ 10000 := fun j g1 g2 => by
    have a := hI.le (j - c) c (by omega)
    have b := hI.rng j g2
    rw [show c + (j - c) = j by omega] at a
    omega
  obtain ⟨k, rfl⟩ : ∃ m, k = m + 1 := ⟨k - 1, by omega⟩
  have key := specCut_l0 p l (rd l (c : Int)) (rd l (c : Int)) (p - rd l (c : Int)) (l.take (c + 1)) c (by omega) hj (l.length - c) c k [] (by omega) (Nat.le_refl _) (by omega) (by rw [List.length_nil]; omega)
  unfold spec_CutRope.f
  rw [specRope_eq p (by omega) l (by omega) _ (by omega), Option.bind_some, if_pos h, wrap64_id ((l.length : Int) - 1) (by omega) (by omega), in_eq, Option.bind_some, if_pos (decide_eq_true (by omega)), if_neg (by omega), beq_eq_false_iff_ne.2 (show (c : Int) ≠ (l.length : Int) - 1 by omega), spec_CutRope.j0, if_neg (by decide), if_pos (by omega), if_pos (by omega), Option.bind_some, wrap_nat c (by omega), if_pos (by omega), if_pos (by omega), Int.toNat_natCast, if_pos (by rw [List.length_nil, List.length_take]; omega), List.nil_append, i16_id (p - rd l (c : Int)) (by omega)]
  exact key

def dB (n : Int) : ByteArray := ⟨(Go.Lib.itoa n).toArray⟩
theorem dB_size (n : Int) (h : 0 ≤ n ∧ n ≤ 100000) : (dB n).size ≤ 21 := by
  have := Go.Lib.itoa_length_le n (by omega) (by omega)
  simpa [dB, ByteArray.size] using this
theorem implDec_eq (n : Int) (h : 0 ≤ n ∧ n ≤ 100000) : impl_decimal.f n = some (dB n) := by
  unfold impl_decimal.f dB
  rw [if_pos (by omega)]
def joinB (sep : ByteArray) (xs : List ByteArray) : ByteArray := ⟨(Go.Lib.join (xs.map (·.data.toList)) sep.data.toList).toArray⟩
theorem joinB_nil (sep : ByteArray) : joinB sep [] = ⟨#[]⟩ := rfl
theorem joinB_fold (sep : ByteArray) : ∀ (r : List ByteArray) (a : ByteArray), r.foldl (fun a y => (a ++ sep) ++ y) a = ⟨(a.data.toList ++ Go.Lib.joinTail sep.data.toList (r.map (·.data.toList))).toArray⟩ := by
  intro r
  induction r with
  | nil => intro a; simp [Go.Lib.joinTail]
  | cons y r ih =>
    intro a
    rw [List.foldl_cons, ih]
    simp [Go.Lib.joinTail, ByteArray.data_append]
theorem joinB_cons (sep x : ByteArray) (r : List ByteArray) : joinB sep (x :: r) = r.foldl (fun a y => (a ++ sep) ++ y) x := by
  rw [joinB_fold]
  unfold joinB
  rw [List.map_cons, Go.Lib.join_cons]
theorem fold_size (sep : ByteArray) (hsep : sep.size = 1) : ∀ (r : List ByteArray) (a : ByteArray), (∀ x ∈ r, x.size ≤ 21) → (r.foldl (fun a y => (a ++ sep) ++ y) a).size ≤ a.size + 22 * r.length := by
  intro r
  induction r with
  | nil => intro a _; simp
  | cons y r ih =>
    intro a h
    rw [List.foldl_cons, List.length_cons]
    have h1 := ih ((a ++ sep) ++ y) (fun x hx => h x (List.mem_cons_of_mem _ hx))
    have h2 := h y (by simp)
    rw [ByteArray.size_append, ByteArray.size_append] at h1
    omega
theorem joinB_size (sep : ByteArray) (hsep : sep.size = 1) (xs : List ByteArray) (h : ∀ x ∈ xs, x.size ≤ 21) : (joinB sep xs).size ≤ 22 * xs.length := by
  cases xs with
  | nil => rw [joinB_nil]; simp [ByteArray.size]
  | cons x r =>
    rw [joinB_cons, List.length_cons]
    have h1 := fold_size sep hsep r x (fun y hy => h y (List.mem_cons_of_mem _ hy))
    have h2 := h x (by simp)
    omega
theorem implJoin_eq (xs : List ByteArray) (sep : ByteArray) (hl : xs.length ≤ 100000) (hs : (joinB sep xs).size ≤ 100000000) : strings_Join.f xs sep = some (joinB sep xs) := by
  unfold strings_Join.f
  have h1 : (Go.Lib.join (xs.map (·.data.toList)) sep.data.toList).length ≤ 100000000 := by simpa [joinB, ByteArray.size] using hs
  rw [if_pos ⟨by omega, by omega⟩]
  rfl

def dash : ByteArray := ⟨#[45]⟩
theorem implRopeText_l0 (l : List Int) (hl : l.length ≤ 40) (hr : ∀ i : Nat, i < l.length → 0 ≤ rd l (i : Int) ∧ rd l (i : Int) ≤ 400) : ∀ (d i k : Nat), i + d = l.length → d < k → impl_RopeText.l0 k ((l.take i).map dB) l (l.length : Int) (i : Int) = some (joinB dash (l.map dB)) := by
  intro d
  induction d with
  | zero =>
    intro i k hi hk
    obtain ⟨k, rfl⟩ : ∃ m, k = m + 1 := ⟨k - 1, by omega⟩
    simp only [impl_RopeText.l0]
    have hm : ∀ x ∈ l.map dB, x.size ≤ 21 := fun x hx => by
      obtain ⟨n, hn, rfl⟩ := List.mem_map.1 hx
      obtain ⟨j, hj, rfl⟩ := List.getElem_of_mem hn
      have := hr j hj
      rw [rd_nat, List.getD_eq_getElem?_getD, List.getElem?_eq_getElem hj, Option.getD_some] at this
      exact dB_size _ (by omega)
    have hs := joinB_size dash rfl (l.map dB) hm
    rw [List.length_map] at hs
    rw [if_neg (by omega), List.take_of_length_le (by omega), implJoin_eq (l.map dB) ⟨#[45]⟩ (by rw [List.length_map]; omega) (by show (joinB dash (l.map dB)).size ≤ _; omega), Option.bind_some]
    rfl
  | succ d ih =>
    intro i k hi hk
    obtain ⟨k, rfl⟩ : ∃ m, k = m + 1 := ⟨k - 1, by omega⟩
    have hx := hr i (by omega)
    simp only [impl_RopeText.l0]
    rw [if_pos (by omega), if_pos (by omega), if_pos (by omega), wrap64_id _ (by omega) (by omega), implDec_eq _ (by omega), Option.bind_some, if_pos (by rw [List.length_map, List.length_take]; omega), wrap_nat i (by omega)]
    have ht : (l.take i).map dB ++ [dB (rd l (i : Int))] = (l.take (i + 1)).map dB := by
      rw [take_getD 0 l i (by omega), List.map_append, rd_nat]; rfl
    rw [ht]
    exact ih (i + 1) k (by omega) (by omega)

def spF (c : UInt8) : List UInt8 → List UInt8 → List (List UInt8)
  | cur, [] => [cur]
  | cur, b :: l => if b = c then cur :: spF c [] l else spF c (cur ++ [b]) l
theorem spF_hit (c : UInt8) (cur l : List UInt8) : spF c cur (c :: l) = cur :: spF c [] l := by
  conv => lhs; unfold spF
  rw [if_pos rfl]
theorem spF_miss (c b : UInt8) (h : b ≠ c) (cur l : List UInt8) : spF c cur (b :: l) = spF c (cur ++ [b]) l := by
  conv => lhs; unfold spF
  rw [if_neg h]
theorem spF_nil (c : UInt8) (cur : List UInt8) : spF c cur [] = [cur] := rfl
theorem spIdx (c : UInt8) (l : List UInt8) : ∀ pre : List UInt8, c ∉ pre → Go.Lib.index (pre ++ c :: l) [c] = (pre.length : Int) := by
  intro pre
  induction pre with
  | nil => intro _; simp [Go.Lib.index, List.isPrefixOf]
  | cons b pre ih =>
    intro h
    have hb : ¬ c = b := fun e => h (by rw [e]; exact List.mem_cons_self)
    have hp : c ∉ pre := fun e => h (List.mem_cons_of_mem _ e)
    have := ih hp
    rw [List.cons_append, Go.Lib.index, this]
    have h1 : List.isPrefixOf [c] (b :: (pre ++ c :: l)) = false := by simp [List.isPrefixOf, hb]
    rw [h1]
    have h2 : ¬ (((pre.length : Int) == -1) = true) := fun e => by have := beq_iff_eq.1 e; omega
    rw [if_neg (by simp), if_neg h2, List.length_cons]
    omega
theorem splitK_eq (c : UInt8) (l : List UInt8) : ∀ pre : List UInt8, c ∉ pre → Go.Lib.splitK [c] 0 (l.count c) (pre ++ l) = spF c pre l := by
  induction l with
  | nil => intro pre _; rw [List.append_nil]; rfl
  | cons b l ih =>
    intro pre h
    by_cases e : b = c
    · subst e
      rw [List.count_cons_self, Go.Lib.splitK, spIdx b l pre h, spF_hit]
      have h2 : ¬ (((pre.length : Int) == -1) = true) := fun e => by have := beq_iff_eq.1 e; omega
      rw [if_neg h2]
      have hi := ih [] (by simp)
      rw [List.nil_append] at hi
      rw [← hi]
      simp
    · rw [List.count_cons_of_ne e, spF_miss c b e, ← ih (pre ++ [b]) (by simp [h]; exact fun x => e x.symm)]
      rw [List.append_assoc]
      rfl
def mkB (l : List UInt8) : ByteArray := ⟨l.toArray⟩
theorem mkB_data (s : ByteArray) : mkB s.data.toList = s := by
  cases s
  simp [mkB]
theorem splitB_eq (c : UInt8) (s : ByteArray) : Go.Lib.splitB ⟨#[c]⟩ 0 (Go.Lib.countB s ⟨#[c]⟩) s = (spF c [] s.data.toList).map mkB := by
  have h1 := Go.Lib.splitB_data ⟨#[c]⟩ 0 (Go.Lib.countB s ⟨#[c]⟩) s
  have h2 : Go.Lib.countB s ⟨#[c]⟩ = s.data.toList.count c := Go.Lib.count_one c s.data.toList
  have h3 := splitK_eq c s.data.toList [] (by simp)
  rw [List.nil_append] at h3
  rw [h2] at h1 ⊢
  have h1 := h1.trans h3
  rw [← h1, List.map_map]
  have : (mkB ∘ fun x : ByteArray => x.data.toList) = id := funext fun x => mkB_data x
  rw [this, List.map_id]
theorem implSplit_eq (c : UInt8) (s : ByteArray) (m : Int) (hs : s.size ≤ 1048576) : strings_Split.f s ⟨#[c]⟩ m = some ((spF c [] s.data.toList).map mkB) := by
  unfold strings_Split.f
  rw [if_pos ⟨by omega, Nat.le_refl 1⟩, splitB_eq]
def dval (l : List UInt8) : Nat := l.foldl (fun a c => 10 * a + (c.toNat - 48)) 0
theorem dval_snoc (l : List UInt8) (c : UInt8) : dval (l ++ [c]) = 10 * dval l + (c.toNat - 48) := by simp [dval]
def isD (c : UInt8) : Prop := 48 ≤ c.toNat ∧ c.toNat ≤ 57
theorem ofNat_dig (d : Nat) (h : d < 10) : (UInt8.ofNat (48 + d)).toNat = 48 + d := by simp [UInt8.toNat_ofNat']; omega
theorem head_app {α : Type} (a b : List α) (h : a ≠ []) : (a ++ b).head? = a.head? := by
  cases a with
  | nil => exact absurd rfl h
  | cons x r => rfl
theorem dec_dig : ∀ (u : Nat) (c : UInt8), c ∈ Go.Lib.decDigits u → isD c := by
  intro u
  induction u using Nat.strongRecOn with
  | _ u ih =>
    intro c hc
    by_cases h : u < 10
    · rw [Go.Lib.decDigits, dif_pos h] at hc
      obtain rfl := List.mem_singleton.1 hc
      unfold isD; rw [ofNat_dig u h]; omega
    · rw [Go.Lib.decDigits, dif_neg h] at hc
      rcases List.mem_append.1 hc with q | q
      · exact ih (u / 10) (by omega) c q
      · obtain rfl := List.mem_singleton.1 q
        unfold isD; rw [ofNat_dig (u % 10) (by omega)]; omega
theorem dec_ne : ∀ u : Nat, Go.Lib.decDigits u ≠ [] := by
  intro u h
  have := Go.Lib.decDigits_length u
  rw [h] at this
  have h2 := Go.Lib.nDigits_pos u
  simp at this; omega
theorem dec_val : ∀ (u : Nat), dval (Go.Lib.decDigits u) = u := by
  intro u
  induction u using Nat.strongRecOn with
  | _ u ih =>
    by_cases h : u < 10
    · rw [Go.Lib.decDigits, dif_pos h]
      have := ofNat_dig u h
      simp only [dval, List.foldl]; omega
    · rw [Go.Lib.decDigits, dif_neg h, dval_snoc, ih (u / 10) (by omega), ofNat_dig (u % 10) (by omega)]; omega
theorem dec_head : ∀ (u : Nat), 10 ≤ u → ∀ c, (Go.Lib.decDigits u).head? = some c → 49 ≤ c.toNat := by
  intro u
  induction u using Nat.strongRecOn with
  | _ u ih =>
    intro hu c hc
    rw [Go.Lib.decDigits, dif_neg (by omega)] at hc
    have hne := dec_ne (u / 10)
    rw [head_app _ _ hne] at hc
    by_cases h : u / 10 < 10
    · rw [Go.Lib.decDigits, dif_pos h] at hc
      obtain rfl := Option.some.inj hc
      rw [ofNat_dig (u / 10) h]; omega
    · exact ih (u / 10) (by omega) (by omega) c hc
theorem canon_dec : ∀ (n : Nat) (l : List UInt8), l.length = n → l ≠ [] → (∀ c ∈ l, isD c) → (∀ c, l.head? = some c → 1 < l.length → 49 ≤ c.toNat) → Go.Lib.decDigits (dval l) = l := by
  intro n
  induction n with
  | zero => intro l hl hne; exact absurd (List.length_eq_zero_iff.1 hl) hne
  | succ n ih =>
    intro l hl hne hd hh
    rcases List.eq_nil_or_concat l with q | ⟨xs, c, rfl⟩
    · exact absurd q hne
    · rw [List.concat_eq_append] at *
      have hc : isD c := hd c (by simp)
      unfold isD at hc
      have hcc : UInt8.ofNat (48 + (c.toNat - 48)) = c := by
        rw [show 48 + (c.toNat - 48) = c.toNat by omega]; exact UInt8.ofNat_toNat
      by_cases hx : xs = []
      · subst hx
        rw [dval_snoc]
        simp only [dval, List.foldl, List.nil_append]
        rw [Go.Lib.decDigits, dif_pos (by omega), show 48 + (10 * 0 + (c.toNat - 48)) = 48 + (c.toNat - 48) by omega, hcc]
      · have hxl : xs.length = n := by simpa using hl
        have hxp : 0 < xs.length := List.length_pos_iff.2 hx
        have h9 : ∀ d, xs.head? = some d → 49 ≤ d.toNat := fun d hd1 => hh d (by rw [head_app _ _ hx]; exact hd1) (by simp; omega)
        have ih1 := ih xs hxl hx (fun d hd1 => hd d (by simp [hd1])) (fun d hd1 _ => h9 d hd1)
        have hpos : 1 ≤ dval xs := by
          rcases Nat.eq_zero_or_pos (dval xs) with z | z
          · rw [z] at ih1
            have e : xs = [48] := by rw [← ih1]; rw [Go.Lib.decDigits, dif_pos (by omega)]; rfl
            have := h9 48 (by rw [e]; rfl)
            exact absurd this (by decide)
          · exact z
        rw [dval_snoc, Go.Lib.decDigits, dif_neg (by omega), show (10 * dval xs + (c.toNat - 48)) / 10 = dval xs by omega, show (10 * dval xs + (c.toNat - 48)) % 10 = c.toNat - 48 by omega, ih1, hcc]
theorem pM_snoc (M : Nat) (c : UInt8) : ∀ (l : List UInt8) (acc : Nat), Go.Lib.parseUintM M acc (l ++ [c]) = match Go.Lib.parseUintM M acc l with | .ok a => Go.Lib.parseUintM M a [c] | e => e
  | [], acc => rfl
  | d :: r, acc => by
    simp only [List.cons_append, Go.Lib.parseUintM]
    split
    · split
      · rfl
      · split
        · rfl
        · exact pM_snoc M c r _
    · rfl
theorem pM_dec : ∀ (u : Nat), u ≤ 18446744073709551615 → Go.Lib.parseUintM 18446744073709551615 0 (Go.Lib.decDigits u) = .ok u := by
  intro u
  induction u using Nat.strongRecOn with
  | _ u ih =>
    intro hu
    by_cases h : u < 10
    · rw [Go.Lib.decDigits, dif_pos h]
      have hd := ofNat_dig u h
      simp only [Go.Lib.parseUintM, hd]
      rw [if_pos (by omega), if_neg (by omega), if_neg (by omega)]; congr 1; omega
    · rw [Go.Lib.decDigits, dif_neg h, pM_snoc, ih (u / 10) (by omega) (by omega)]
      have hd := ofNat_dig (u % 10) (by omega)
      simp only [Go.Lib.parseUintM, hd]
      rw [if_pos (by omega), if_neg (by omega), if_neg (by omega)]; congr 1; omega
theorem pI_dec (u : Nat) (hu : u ≤ 9223372036854775807) : Go.Lib.parseIntB 64 (Go.Lib.decDigits u) = .ok (u : Int) := by
  have hp := pM_dec u (by omega)
  have hne := dec_ne u
  have hdg := dec_dig u
  generalize Go.Lib.decDigits u = l at hp hne hdg
  cases l with
  | nil => exact absurd rfl hne
  | cons c r =>
    have hc : isD c := hdg c (by simp)
    unfold isD at hc
    rw [Go.Lib.parseIntB_plain 64 c r (by omega) (by omega)]
    have e : (2 : Nat) ^ 64 - 1 = 18446744073709551615 := by decide
    have e2 : (2 : Nat) ^ (64 - 1) = 9223372036854775808 := by decide
    simp only [Go.Lib.parseUintB, e, hp, e2]
    simp only [Go.Lib.signlessC]
    simp only [reduceCtorEq, if_false]
    rw [if_neg (by omega)]
theorem itoa_nat (u : Nat) : Go.Lib.itoa (u : Int) = Go.Lib.decDigits u := by
  unfold Go.Lib.itoa; rw [if_neg (by omega)]; simp
theorem parseIt (l : List UInt8) (v : Int) (h0 : 0 ≤ v) (h : Go.Lib.itoa v = l) : l = Go.Lib.decDigits v.toNat := by
  rw [← h, ← itoa_nat, Int.toNat_of_nonneg h0]
theorem dec_len (u : Nat) (n : Nat) : (Go.Lib.decDigits u).length ≤ n ↔ (u < 10 ^ n ∧ 1 ≤ n) := by
  rw [Go.Lib.decDigits_length]
  constructor
  · intro h
    exact ⟨Nat.lt_of_lt_of_le (Go.Lib.lt_pow_nDigits u) (Nat.pow_le_pow_right (by decide) h), Nat.le_trans (Go.Lib.nDigits_pos u) h⟩
  · rintro ⟨h, hn⟩
    induction n generalizing u with
    | zero => omega
    | succ n ih =>
      by_cases q : u < 10
      · rw [Go.Lib.nDigits_small q]; omega
      · rw [Go.Lib.nDigits_big q]
        rcases Nat.eq_zero_or_pos n with z | z
        · subst z; simp at h; omega
        · have := ih (u / 10) (by rw [Nat.pow_succ] at h; omega) z
          omega
def isDB (c : UInt8) : Bool := decide (48 ≤ c.toNat) && decide (c.toNat ≤ 57)
theorem isDB_iff (c : UInt8) : isDB c = true ↔ isD c := by simp [isDB, isD]
def isCan (l : List UInt8) : Bool := !l.isEmpty && (l.all isDB && (decide (l.length ≤ 1) || l.head? != some 48))
theorem isCan_dec (u : Nat) : isCan (Go.Lib.decDigits u) = true := by
  unfold isCan
  have h1 := dec_ne u
  have h2 : (Go.Lib.decDigits u).all isDB = true := by
    rw [List.all_eq_true]; intro c hc; exact (isDB_iff c).2 (dec_dig u c hc)
  rw [h2]
  have h3 : (Go.Lib.decDigits u).isEmpty = false := by
    cases h : Go.Lib.decDigits u with
    | nil => exact absurd h h1
    | cons a b => rfl
  rw [h3]
  by_cases h : u < 10
  · have : (Go.Lib.decDigits u).length ≤ 1 := by rw [Go.Lib.decDigits, dif_pos h]; exact Nat.le_refl _
    simp [this]
  · have h4 : (Go.Lib.decDigits u).head? ≠ some 48 := fun e => by
      have := dec_head u (by omega) 48 e
      exact absurd this (by decide)
    have : ((Go.Lib.decDigits u).head? != some 48) = true := bne_iff_ne.mpr h4
    rw [this]; simp
theorem isCan_val (l : List UInt8) (h : isCan l = true) : Go.Lib.decDigits (dval l) = l := by
  unfold isCan at h
  simp only [Bool.and_eq_true, Bool.not_eq_true', Bool.or_eq_true, decide_eq_true_eq] at h
  obtain ⟨h1, h2, h3⟩ := h
  rw [List.all_eq_true] at h2
  have hd : ∀ c ∈ l, isD c := fun c hc => (isDB_iff c).1 (h2 c hc)
  refine canon_dec l.length l rfl (fun e => by rw [e] at h1; exact absurd h1 (by decide)) hd (fun c hc hl => ?_)
  rcases h3 with h3 | h3
  · omega
  · have h4 : l.head? ≠ some 48 := bne_iff_ne.mp h3
    have hc1 : isD c := by
      cases l with
      | nil => exact absurd hc (by simp)
      | cons a r => obtain rfl := Option.some.inj hc; exact hd a (by simp)
    unfold isD at hc1
    have : c.toNat ≠ 48 := fun e => h4 (by rw [hc]; congr 1; exact UInt8.toNat_inj.1 e)
    omega
theorem numV_can (s : ByteArray) (most : Int) (hm : most ≤ 9223372036854775807) (h : isCan s.data.toList = true) (hle : (dval s.data.toList : Int) ≤ most) : Go.Proofs.YtlggjfhoecaelaaGreatDoor.H.numV s most = ((dval s.data.toList : Int), true) := by
  have hd := isCan_val _ h
  have hp := pI_dec (dval s.data.toList) (by omega)
  rw [hd] at hp
  unfold Go.Proofs.YtlggjfhoecaelaaGreatDoor.H.numV
  rw [hp]
  refine if_pos ⟨?_, by omega, hle⟩
  rw [itoa_nat, hd, ByteArray.toList_eq]
theorem numV_not (s : ByteArray) (most : Int) (h : ¬ (isCan s.data.toList = true ∧ (dval s.data.toList : Int) ≤ most)) : Go.Proofs.YtlggjfhoecaelaaGreatDoor.H.numV s most = (0, false) := by
  unfold Go.Proofs.YtlggjfhoecaelaaGreatDoor.H.numV
  split
  · rename_i v hv
    refine if_neg (fun ⟨h1, h2, h3⟩ => h ?_)
    have he : Go.Lib.itoa v = s.data.toList := by
      have : (⟨(Go.Lib.itoa v).toArray⟩ : ByteArray).toList = s.toList := h1
      rw [ByteArray.toList_eq, ByteArray.toList_eq] at this
      exact this
    have hl := parseIt _ v h2 he
    refine ⟨by rw [hl]; exact isCan_dec _, ?_⟩
    rw [hl, dec_val]; omega
  · rfl
def numS (l : List UInt8) : Int × Bool := if isCan l = true ∧ l.length ≤ 10 then ((dval l : Int), true) else (0, false)
theorem numV_S (s : ByteArray) (most : Int) (hm : most ≤ 9999999999) : Go.Proofs.YtlggjfhoecaelaaGreatDoor.H.numV s most = if (numS s.data.toList).2 = true ∧ (numS s.data.toList).1 ≤ most then numS s.data.toList else (0, false) := by
  by_cases h : isCan s.data.toList = true ∧ (dval s.data.toList : Int) ≤ most
  · rw [numV_can s most (by omega) h.1 h.2]
    have hl : s.data.toList.length ≤ 10 := by
      have := (dec_len (dval s.data.toList) 10).2 ⟨by omega, by decide⟩
      rw [isCan_val _ h.1] at this
      exact this
    have hn : numS s.data.toList = ((dval s.data.toList : Int), true) := if_pos ⟨h.1, hl⟩
    rw [hn, if_pos ⟨rfl, h.2⟩]
  · rw [numV_not s most h]
    by_cases c : isCan s.data.toList = true ∧ s.data.toList.length ≤ 10
    · have hn : numS s.data.toList = ((dval s.data.toList : Int), true) := if_pos c
      rw [hn, if_neg (fun x => h ⟨c.1, x.2⟩)]
    · have hn : numS s.data.toList = (0, false) := if_neg c
      rw [hn, if_neg (fun x => absurd x.1 (by decide))]
theorem numS_rng (l : List UInt8) : 0 ≤ (numS l).1 ∧ (numS l).1 ≤ 9999999999 := by
  unfold numS
  by_cases c : isCan l = true ∧ l.length ≤ 10
  · rw [if_pos c]
    have := (dec_len (dval l) 10).1 (by rw [isCan_val _ c.1]; exact c.2)
    have h2 := this.1
    refine ⟨by omega, ?_⟩
    show ((dval l : Nat) : Int) ≤ 9999999999
    omega
  · rw [if_neg c]; decide
theorem numV_rng (s : ByteArray) (most : Int) (h0 : 0 ≤ most) (hm : most ≤ 9999999999) : 0 ≤ (Go.Proofs.YtlggjfhoecaelaaGreatDoor.H.numV s most).1 ∧ (Go.Proofs.YtlggjfhoecaelaaGreatDoor.H.numV s most).1 ≤ most := by
  rw [numV_S s most hm]
  have := numS_rng s.data.toList
  by_cases c : (numS s.data.toList).2 = true ∧ (numS s.data.toList).1 ≤ most
  · rw [if_pos c]; exact ⟨this.1, c.2⟩
  · rw [if_neg c]; exact ⟨Int.le_refl _, h0⟩
theorem implNum_eq (s : ByteArray) (most : Int) (hs : s.size ≤ 1048576) : impl_number.f s most = some (Go.Proofs.YtlggjfhoecaelaaGreatDoor.H.numV s most) := by
  unfold impl_number.f
  rw [if_pos (by omega)]
def rdR : List ByteArray → Int → List Int → Int × List Int × Int
  | [], p, K => if ropeOk p K = true then (p, K, 0) else (0, [], 5)
  | w :: r, _, K => if (Go.Proofs.YtlggjfhoecaelaaGreatDoor.H.numV w 400).2 = true then rdR r (IntKind.i16.wrap (Go.Proofs.YtlggjfhoecaelaaGreatDoor.H.numV w 400).1) (K ++ [IntKind.i16.wrap (Go.Proofs.YtlggjfhoecaelaaGreatDoor.H.numV w 400).1]) else (0, [], 5)
theorem i16_id4 (n : Int) (h0 : 0 ≤ n) (h1 : n ≤ 400) : IntKind.i16.wrap n = n := by simp [IntKind.wrap, IntKind.bits, IntKind.signed]; omega
theorem rdOf_drop (W : List ByteArray) (j : Nat) (h : j < W.length) : W.drop j = rdOf ByteArray.empty W (j : Int) :: W.drop (j + 1) := by
  rw [List.drop_eq_getElem_cons h]
  simp [rdOf, List.getD_eq_getElem?_getD, List.getElem?_eq_getElem h]
theorem implReadR_l0 (W : List ByteArray) (hW : W.length ≤ 1048576) (hs : ∀ w ∈ W, w.size ≤ 1048576) : ∀ (d j k : Nat) (p : Int) (K : List Int), j + d = W.length → d + 1048600 < k → K.length = j → (-32768 ≤ p ∧ p ≤ 32767) →
    impl_ReadRope.l0 k W (W.length : Int) (j : Int) p K = some (rdR (W.drop j) p K) := by
  intro d
  induction d with
  | zero =>
    intro j k p K hj hk hK hp
    obtain ⟨k, rfl⟩ : ∃ m, k = m + 1 := ⟨k - 1, by omega⟩
    simp only [impl_ReadRope.l0]
    rw [if_neg (by omega), implRope_eq p hp K (by omega) k (by omega), Option.bind_some, List.drop_eq_nil_of_le (by omega)]
    unfold rdR
    by_cases q : ropeOk p K = true
    · rw [if_pos q, if_pos q]
    · rw [if_neg q, if_neg q]
  | succ d ih =>
    intro j k p K hj hk hK hp
    obtain ⟨k, rfl⟩ : ∃ m, k = m + 1 := ⟨k - 1, by omega⟩
    have hm := hs (rdOf ByteArray.empty W (j : Int)) (by
      have := rdOf_drop W j (by omega)
      exact List.mem_of_mem_drop (by rw [this]; exact List.mem_cons_self))
    simp only [impl_ReadRope.l0]
    rw [if_pos (by omega), if_pos (by omega), if_pos (by omega), implNum_eq _ 400 hm, Option.bind_some, rdOf_drop W j (by omega)]
    unfold rdR
    have hr := numV_rng (rdOf ByteArray.empty W (j : Int)) 400 (by decide) (by decide)
    generalize Go.Proofs.YtlggjfhoecaelaaGreatDoor.H.numV (rdOf ByteArray.empty W (j : Int)) 400 = v at hr ⊢
    by_cases q : v.2 = true
    · rw [if_pos q, if_pos q, if_pos (by omega), wrap_nat j (by omega), i16_id4 _ hr.1 hr.2]
      exact ih (j + 1) k v.1 (K ++ [v.1]) (by omega) (by omega) (by simp [hK]) (by omega)
    · rw [if_neg q, if_neg q]
theorem spF_run (c : UInt8) : ∀ (pre cur l : List UInt8), c ∉ pre → spF c cur (pre ++ c :: l) = (cur ++ pre) :: spF c [] l
  | [], cur, l, _ => by rw [List.nil_append, spF_hit, List.append_nil]
  | b :: pre, cur, l, h => by
    rw [List.cons_append, spF_miss c b (fun e => h (by rw [e]; exact List.mem_cons_self)), spF_run c pre _ l (fun m => h (List.mem_cons_of_mem _ m)), List.append_assoc]
    rfl
theorem spF_last (c : UInt8) : ∀ (pre cur : List UInt8), c ∉ pre → spF c cur pre = [cur ++ pre]
  | [], cur, _ => by rw [spF_nil, List.append_nil]
  | b :: pre, cur, h => by
    rw [spF_miss c b (fun e => h (by rw [e]; exact List.mem_cons_self)), spF_last c pre _ (fun m => h (List.mem_cons_of_mem _ m)), List.append_assoc]
    rfl
theorem sp_join : ∀ (r : List (List UInt8)) (x : List UInt8), (∀ y ∈ x :: r, (45 : UInt8) ∉ y) → spF 45 [] (x ++ Go.Lib.joinTail [45] r) = x :: r := by
  intro r
  induction r with
  | nil =>
    intro x h
    rw [show Go.Lib.joinTail [45] [] = [] from rfl, List.append_nil, spF_last 45 x [] (h x List.mem_cons_self), List.nil_append]
  | cons y r ih =>
    intro x h
    rw [show Go.Lib.joinTail [45] (y :: r) = 45 :: (y ++ Go.Lib.joinTail [45] r) by simp [Go.Lib.joinTail], spF_run 45 x [] _ (h x List.mem_cons_self), List.nil_append, ih y (fun z hz => h z (List.mem_cons_of_mem _ hz))]
theorem dB_list (n : Int) (h : 0 ≤ n) : (dB n).data.toList = Go.Lib.decDigits n.toNat := by
  obtain ⟨u, rfl⟩ := Int.eq_ofNat_of_zero_le h
  rw [Int.toNat_natCast, ← itoa_nat]
  rfl
theorem dB_dash (n : Int) (h : 0 ≤ n) : (45 : UInt8) ∉ (dB n).data.toList := fun m => by
  rw [dB_list n h] at m
  exact absurd (dec_dig _ _ m).1 (by decide)
theorem numV_dB (n : Int) (h : 0 ≤ n ∧ n ≤ 400) : Go.Proofs.YtlggjfhoecaelaaGreatDoor.H.numV (dB n) 400 = (n, true) := by
  have e := dB_list n h.1
  have e2 : dval (dB n).data.toList = n.toNat := by rw [e, dec_val]
  rw [numV_can (dB n) 400 (by decide) (by rw [e]; exact isCan_dec _) (by rw [e2]; omega), e2, show ((n.toNat : Nat) : Int) = n by omega]
theorem rdR_back (p : Int) (kn : List Int) (h : ropeOk p kn = true) : ∀ (d j : Nat) (q : Int), j + d = kn.length → (1 ≤ j → q = rd kn ((j - 1 : Nat) : Int)) → rdR ((kn.drop j).map dB) q (kn.take j) = (p, kn, 0) := by
  obtain ⟨hI, hp, hl⟩ := ropeI_of h
  intro d
  induction d with
  | zero =>
    intro j q hj hq
    have e := hq (by omega)
    rw [show j = kn.length by omega, hI.last] at e
    rw [List.drop_eq_nil_of_le (by omega), List.map_nil, List.take_of_length_le (by omega)]
    unfold rdR
    rw [e, if_pos h]
  | succ d ih =>
    intro j q hj hq
    have hr := hI.rng j (by omega)
    rw [drop_rd kn j (by omega), List.map_cons]
    unfold rdR
    rw [numV_dB _ (by omega), if_pos rfl]
    dsimp only
    rw [i16_id _ (by omega)]
    have ht : kn.take j ++ [rd kn (j : Int)] = kn.take (j + 1) := by rw [take_getD 0 kn j (by omega), rd_nat]
    rw [ht]
    exact ih (j + 1) (rd kn (j : Int)) (by omega) (fun _ => by rw [Nat.add_sub_cancel])
theorem implText_eq2 (p : Int) (kn : List Int) (h : ropeOk p kn = true) (k : Nat) (hk : 1100000 < k) : impl_RopeText.f k p kn = some (joinB dash (kn.map dB)) := by
  obtain ⟨hI, hp, hl⟩ := ropeI_of h
  have hr : ∀ i : Nat, i < kn.length → 0 ≤ rd kn (i : Int) ∧ rd kn (i : Int) ≤ 400 := fun i hi => by have := hI.rng i hi; omega
  have key := implRopeText_l0 kn (by omega) hr kn.length 0 k (by omega) (by omega)
  rw [List.take_zero, List.map_nil] at key
  unfold impl_RopeText.f
  rw [implRope_eq p (by omega) kn (by omega) k (by omega), Option.bind_some, if_pos h]
  exact key
theorem text_split (kn : List Int) (hl : 1 ≤ kn.length) (hr : ∀ n ∈ kn, 0 ≤ n) : (spF 45 [] (joinB dash (kn.map dB)).data.toList).map mkB = kn.map dB := by
  cases kn with
  | nil => exact absurd hl (by simp)
  | cons a r =>
    have e : (joinB dash ((a :: r).map dB)).data.toList = (dB a).data.toList ++ Go.Lib.joinTail [45] ((r.map dB).map (·.data.toList)) := by
      show Go.Lib.join ((dB a).data.toList :: (r.map dB).map (·.data.toList)) [45] = _
      rw [Go.Lib.join_cons]
    rw [e, sp_join _ _ (fun y hy => by
      rcases List.mem_cons.1 hy with q | q
      · rw [q]; exact dB_dash a (hr a List.mem_cons_self)
      · obtain ⟨z, hz, rfl⟩ := List.mem_map.1 q
        obtain ⟨n, hn, rfl⟩ := List.mem_map.1 hz
        exact dB_dash n (hr n (List.mem_cons_of_mem _ hn)))]
    rw [List.map_cons, List.map_cons, mkB_data, List.map_map]
    congr 1
    exact (List.map_congr_left (fun x _ => mkB_data x)).trans (List.map_id _)
theorem readText (p : Int) (kn : List Int) (h : ropeOk p kn = true) (mx : Int) (k : Nat) (hk : 2200000 < k) : impl_ReadRope.f k (joinB dash (kn.map dB)) mx = some (p, kn, 0) := by
  obtain ⟨hI, hp, hl⟩ := ropeI_of h
  have hr : ∀ i : Nat, i < kn.length → 0 ≤ rd kn (i : Int) ∧ rd kn (i : Int) ≤ 400 := fun i hi => by have := hI.rng i hi; omega
  have hn : ∀ n ∈ kn, 0 ≤ n ∧ n ≤ 400 := fun n hn => by
    obtain ⟨j, hj, rfl⟩ := List.getElem_of_mem hn
    have := hr j hj
    rwa [rd_nat, List.getD_eq_getElem?_getD, List.getElem?_eq_getElem hj, Option.getD_some] at this
  have hz : ∀ x ∈ kn.map dB, x.size ≤ 21 := fun x hx => by
    obtain ⟨n, q, rfl⟩ := List.mem_map.1 hx
    have := hn n q
    exact dB_size n (by omega)
  have hs := joinB_size dash rfl (kn.map dB) hz
  rw [List.length_map] at hs
  have key := implReadR_l0 (kn.map dB) (by rw [List.length_map]; omega) (fun w hw => by have := hz w hw; omega) (kn.map dB).length 0 k 0 [] (by omega) (by rw [List.length_map]; omega) rfl (by decide)
  rw [List.drop_zero] at key
  have hb := rdR_back p kn h kn.length 0 0 (by omega) (fun h => absurd h (by decide))
  rw [List.drop_zero, List.take_zero] at hb
  rw [hb] at key
  unfold impl_ReadRope.f
  rw [implSplit_eq 45 _ mx (by omega), Option.bind_some, text_split kn (by omega) (fun n q => (hn n q).1)]
  exact key

/-! The nearest knot. -/
def dK (l : List Int) (a : Int) (j : Nat) : Int := mx (rd l (j : Int) - a) (a - rd l (j : Int))
theorem mx_comm' (a b : Int) : mx a b = mx b a := by
  unfold mx
  split <;> split <;> omega
def BestB (l : List Int) (a : Int) (n b : Nat) : Prop := (∀ j, j < n → dK l a b ≤ dK l a j) ∧ ∀ j, j < b → dK l a b < dK l a j
theorem best_uniq {l : List Int} {a : Int} {n b c : Nat} (hb : b < n) (hc : c < n) (h1 : BestB l a n b) (h2 : BestB l a n c) : b = c := by
  rcases Nat.lt_trichotomy b c with g | g | g
  · have x := h2.2 b g
    have y := h1.1 c hc
    omega
  · exact g
  · have x := h1.2 c g
    have y := h2.1 b hb
    omega
theorem best_take {l : List Int} {a : Int} {i b : Nat} (h : BestB l a i b) (c : dK l a i < dK l a b) : BestB l a (i + 1) i := by
  refine ⟨fun j hj => ?_, fun j hj => ?_⟩
  · by_cases e : j = i
    · subst e; exact Int.le_refl _
    · have := h.1 j (by omega)
      omega
  · have := h.1 j hj
    omega
theorem best_keep {l : List Int} {a : Int} {i b : Nat} (h : BestB l a i b) (c : ¬ dK l a i < dK l a b) : BestB l a (i + 1) b := by
  refine ⟨fun j hj => ?_, h.2⟩
  by_cases e : j = i
  · subst e; omega
  · exact h.1 j (by omega)
theorem implNear_l0 {p : Int} {l : List Int} (h : RopeI p l) (hp : p ≤ 400) (hl : l.length ≤ 1000) (a : Int) (ha : 0 ≤ a ∧ a ≤ 400) : ∀ (d i k b : Nat), i + d = l.length → d < k → b < l.length → BestB l a i b → ∃ b', b' < l.length ∧ BestB l a l.length b' ∧ impl_NearestKnot.l0 k a (b : Int) (dK l a b) l (l.length : Int) (i : Int) = some ((b' : Int), 0) := by
  intro d
  induction d with
  | zero =>
    intro i k b hi hk hb hB
    obtain ⟨k, rfl⟩ : ∃ m, k = m + 1 := ⟨k - 1, by omega⟩
    refine ⟨b, hb, by rwa [show l.length = i by omega], ?_⟩
    rw [impl_NearestKnot.l0, if_neg (by omega)]
  | succ d ih =>
    intro i k b hi hk hb hB
    obtain ⟨k, rfl⟩ : ∃ m, k = m + 1 := ⟨k - 1, by omega⟩
    have hr := h.rng i (by omega)
    have hm : mx (wrap64 (a - wrap64 (rd l (i : Int)))) (wrap64 (wrap64 (rd l (i : Int)) - a)) = dK l a i := by
      rw [wrap64_id (rd l (i : Int)) (by omega) (by omega), wrap64_id (a - rd l (i : Int)) (by omega) (by omega), wrap64_id (rd l (i : Int) - a) (by omega) (by omega), mx_comm']; rfl
    by_cases c : dK l a i < dK l a b
    · obtain ⟨b', g1, g2, g3⟩ := ih (i + 1) k i (by omega) (by omega) (by omega) (best_take hB c)
      refine ⟨b', g1, g2, ?_⟩
      rw [impl_NearestKnot.l0, if_pos (by omega), if_pos (by omega), if_pos (by omega), hm, if_pos c, wrap_nat i (by omega)]
      exact g3
    · obtain ⟨b', g1, g2, g3⟩ := ih (i + 1) k b (by omega) (by omega) hb (best_keep hB c)
      refine ⟨b', g1, g2, ?_⟩
      rw [impl_NearestKnot.l0, if_pos (by omega), if_pos (by omega), if_pos (by omega), hm, if_neg c, wrap_nat i (by omega)]
      exact g3
theorem size3_eq (n : Int) (h : -1000 ≤ n ∧ n ≤ 1000) : spec_l03Size.f n = some (mx n (-n)) := by
  unfold spec_l03Size.f spec_l00Max.f
  rw [wrap64_id (-n) (by omega) (by omega)]
  unfold mx
  by_cases c : n > -n
  · rw [if_pos c, Option.bind_some, if_neg (by omega)]
  · rw [if_neg c, Option.bind_some]
    by_cases e : n < -n
    · rw [if_pos e]
    · rw [if_neg e, show -n = n by omega]
theorem size3_dK {p : Int} {l : List Int} (h : RopeI p l) (hp : p ≤ 400) (a : Int) (ha : 0 ≤ a ∧ a ≤ 400) (i : Nat) (hi : i < l.length) : spec_l03Size.f (wrap64 (wrap64 (rd l (i : Int)) - a)) = some (dK l a i) := by
  have hr := h.rng i hi
  rw [wrap64_id (rd l (i : Int)) (by omega) (by omega), wrap64_id (rd l (i : Int) - a) (by omega) (by omega), size3_eq _ (by omega), show -(rd l (i : Int) - a) = a - rd l (i : Int) by omega]
  rfl
theorem specNear_l0 {p : Int} {l : List Int} (h : RopeI p l) (hp : p ≤ 400) (hl : l.length ≤ 1000) (a : Int) (ha : 0 ≤ a ∧ a ≤ 400) : ∀ (d i k b : Nat), i + d = l.length → d < k → b < l.length → BestB l a i b → ∃ b', b' < l.length ∧ BestB l a l.length b' ∧ spec_NearestKnot.l0 k a (b : Int) (i : Int) p l = some ((b' : Int), 0) := by
  intro d
  induction d with
  | zero =>
    intro i k b hi hk hb hB
    obtain ⟨k, rfl⟩ : ∃ m, k = m + 1 := ⟨k - 1, by omega⟩
    refine ⟨b, hb, by rwa [show l.length = i by omega], ?_⟩
    rw [spec_NearestKnot.l0, if_neg (by omega)]
  | succ d ih =>
    intro i k b hi hk hb hB
    obtain ⟨k, rfl⟩ : ∃ m, k = m + 1 := ⟨k - 1, by omega⟩
    by_cases c : dK l a i < dK l a b
    · obtain ⟨b', g1, g2, g3⟩ := ih (i + 1) k i (by omega) (by omega) (by omega) (best_take hB c)
      refine ⟨b', g1, g2, ?_⟩
      rw [spec_NearestKnot.l0, if_pos (by omega), if_pos (by omega), size3_dK h hp a ha i (by omega), Option.bind_some, if_pos (by omega), if_pos (by omega), size3_dK h hp a ha b hb, Option.bind_some, if_pos c, wrap_nat i (by omega)]
      exact g3
    · obtain ⟨b', g1, g2, g3⟩ := ih (i + 1) k b (by omega) (by omega) hb (best_keep hB c)
      refine ⟨b', g1, g2, ?_⟩
      rw [spec_NearestKnot.l0, if_pos (by omega), if_pos (by omega), size3_dK h hp a ha i (by omega), Option.bind_some, if_pos (by omega), if_pos (by omega), size3_dK h hp a ha b hb, Option.bind_some, if_neg c, wrap_nat i (by omega)]
      exact g3
theorem near_eq {p : Int} {l : List Int} (h : ropeOk p l = true) (a : Int) (ha : 0 ≤ a ∧ a ≤ p) (k : Nat) (hk : 1100000 < k) : ∃ b, b < l.length ∧ BestB l a l.length b ∧ impl_NearestKnot.f k p l a = some ((b : Int), 0) ∧ spec_NearestKnot.f k p l a = some ((b : Int), 0) := by
  obtain ⟨hI, hp, hl⟩ := ropeI_of h
  have hz := hI.zero
  have hd0 : dK l a 0 = a := by
    unfold dK mx
    rw [hz]
    split <;> omega
  obtain ⟨b, b1, b2, b3⟩ := implNear_l0 hI hp.2 (by omega) a (by omega) l.length 0 k 0 (by omega) (by omega) (by omega) ⟨fun j hj => by omega, fun j hj => by omega⟩
  obtain ⟨c, c1, c2, c3⟩ := specNear_l0 hI hp.2 (by omega) a (by omega) (l.length - 1) 1 k 0 (by omega) (by omega) (by omega) ⟨fun j hj => by rw [show j = 0 by omega]; exact Int.le_refl _, fun j hj => by omega⟩
  obtain rfl := best_uniq b1 c1 b2 c2
  refine ⟨b, b1, b2, ?_, ?_⟩
  · unfold impl_NearestKnot.f
    rw [implRope_eq p (by omega) l (by omega) k (by omega), Option.bind_some, if_pos h, wrap64_id p (by omega) (by omega), within_eq, Option.bind_some, if_pos (decide_eq_true (by omega))]
    rw [hd0] at b3
    exact b3
  · unfold spec_NearestKnot.f
    rw [specRope_eq p (by omega) l (by omega) k (by omega), Option.bind_some, if_pos h, wrap64_id p (by omega) (by omega), in_eq, Option.bind_some, if_pos (decide_eq_true (by omega))]
    exact c3

instance decHold : DecidableEq S52 := fun x y =>
  if h : x.f0 = y.f0 ∧ x.f1 = y.f1 then isTrue (by obtain ⟨a, b⟩ := x; obtain ⟨a', b'⟩ := y; simp only at h; rw [h.1, h.2]) else isFalse (fun e => h (by rw [e]; exact ⟨rfl, rfl⟩))
theorem rd_hold_cons (x : S52) (r : List S52) (j : Nat) : rd_T52 (x :: r) ((j + 1 : Nat) : Int) = rd_T52 r (j : Int) := by
  simp only [rd_T52, Int.toNat_natCast]
  rfl
def clashB (h0 h1 : Int) (l : List S52) : Bool := l.any (fun x => decide (x.f0 = h0) || decide (x.f1 = h1))
theorem clash_l0 (l : List S52) (hl : l.length ≤ 1048576) (h0 h1 : Int) : ∀ (d i k : Nat), i + d = l.length → d < k → ∃ r : Int, slices_IndexFunc_Hold_at_TakeHold_1.l0 k l (l.length : Int) (i : Int) h0 h1 = some r ∧ decide (r ≥ 0) = clashB h0 h1 (l.drop i) := by
  intro d
  induction d with
  | zero =>
    intro i k hi hk
    obtain ⟨k, rfl⟩ : ∃ m, k = m + 1 := ⟨k - 1, by omega⟩
    refine ⟨-1, ?_, ?_⟩
    · simp only [slices_IndexFunc_Hold_at_TakeHold_1.l0]
      rw [if_neg (by omega)]
    · rw [List.drop_eq_nil_of_le (by omega)]; simp [clashB]
  | succ d ih =>
    intro i k hi hk
    obtain ⟨k, rfl⟩ : ∃ m, k = m + 1 := ⟨k - 1, by omega⟩
    obtain ⟨r, e1, e2⟩ := ih (i + 1) k (by omega) (by omega)
    have hone : impl_TakeHold_1.f (rd_T52 l (i : Int)).f0 (rd_T52 l (i : Int)).f1 h0 h1 = some (decide ((rd_T52 l (i : Int)).f0 = h0) || decide ((rd_T52 l (i : Int)).f1 = h1)) := by
      unfold impl_TakeHold_1.f
      by_cases c : (rd_T52 l (i : Int)).f0 = h0
      · rw [if_pos c, decide_eq_true c, Bool.true_or]
      · rw [if_neg c, decide_eq_false c, Bool.false_or]
        congr 1
    simp only [slices_IndexFunc_Hold_at_TakeHold_1.l0]
    rw [if_pos (by omega), if_pos (by omega), if_pos (by omega), hone, Option.bind_some, drop_hold l i (by omega), wrap_nat i (by omega)]
    by_cases g : (decide ((rd_T52 l (i : Int)).f0 = h0) || decide ((rd_T52 l (i : Int)).f1 = h1)) = true
    · refine ⟨(i : Int), by rw [if_pos g], ?_⟩
      unfold clashB
      rw [List.any_cons, g, Bool.true_or]
      exact decide_eq_true (by omega)
    · refine ⟨r, by rw [if_neg g]; exact e1, ?_⟩
      rw [e2]
      unfold clashB
      rw [List.any_cons, Bool.eq_false_iff.mpr g, Bool.false_or]
theorem clash_eq (l : List S52) (hl : l.length ≤ 1048576) (h0 h1 : Int) (k : Nat) (hk : l.length < k) : slices_ContainsFunc_Hold_at_TakeHold_1.f k l h0 h1 = some (clashB h0 h1 l) := by
  unfold slices_ContainsFunc_Hold_at_TakeHold_1.f slices_IndexFunc_Hold_at_TakeHold_1.f
  obtain ⟨r, e1, e2⟩ := clash_l0 l hl h0 h1 l.length 0 k (by omega) (by omega)
  rw [show ((0 : Nat) : Int) = 0 from rfl] at e1
  rw [e1, Option.bind_some, e2]
  rfl
def insH (h : S52) (l : List S52) : List S52 := Go.Proofs.YtlggjfhoecaelaaGreatDoor.H.insT (fun x : S52 => x.f1) h l
theorem insH_split (h : S52) : ∀ (l : List S52) (a : Nat), a ≤ l.length → (∀ j, j < a → (rd_T52 l (j : Int)).f1 < h.f1) → (a < l.length → ¬ (rd_T52 l (a : Int)).f1 < h.f1) → insH h l = l.take a ++ h :: l.drop a := by
  intro l
  induction l with
  | nil =>
    intro a ha _ _
    obtain rfl : a = 0 := by simpa using ha
    rfl
  | cons x r ih =>
    intro a ha h1 h2
    unfold insH
    simp only [Go.Proofs.YtlggjfhoecaelaaGreatDoor.H.insT]
    cases a with
    | zero =>
      have := h2 (by simp)
      rw [rd_hold_get _ 0 (by simp)] at this
      rw [if_neg (by simpa using this)]
      rfl
    | succ a =>
      have hx := h1 0 (by omega)
      rw [rd_hold_get _ 0 (by simp)] at hx
      rw [if_pos (by simpa using hx)]
      have := ih a (by simpa using ha) (fun j hj => by have := h1 (j + 1) (by omega); rwa [rd_hold_cons] at this) (fun hlt => by have := h2 (by simp; omega); rwa [rd_hold_cons] at this)
      unfold insH at this
      rw [this]
      rfl
theorem specTake_l0 (l : List S52) (hl : l.length ≤ 1048576) (hs : ∀ j, j < l.length → ∀ i, i < j → (rd_T52 l (i : Int)).f1 < (rd_T52 l (j : Int)).f1) (h0 h1 : Int) : ∀ (d i a k : Nat), i + d = l.length → 2 * d + 2 < k → a ≤ i → (∀ j, j < a → (rd_T52 l (j : Int)).f1 < h1) → (∀ j, a ≤ j → j < i → ¬ (rd_T52 l (j : Int)).f1 < h1) →
    spec_TakeHold.l0 k l (a : Int) (i : Int) h0 h1 = if clashB h0 h1 (l.drop i) = true then some (([] : List S52), (4 : Int)) else some (insH ⟨h0, h1⟩ l, 0) := by
  intro d
  induction d with
  | zero =>
    intro i a k hi hk ha b1 b2
    obtain ⟨k, rfl⟩ : ∃ m, k = m + 1 := ⟨k - 1, by omega⟩
    have hsp := insH_split ⟨h0, h1⟩ l a (by omega) b1 (fun hlt => b2 a (Nat.le_refl _) (by omega))
    simp only [spec_TakeHold.l0, Option.bind_some]
    rw [if_neg (by omega), if_pos (by omega), if_pos (by omega), Int.toNat_natCast, if_pos (by rw [List.length_take]; simp only [List.length_nil]; omega), if_pos (by rw [List.nil_append, List.length_take]; simp only [List.length_singleton]; omega), if_pos (by simp only [List.nil_append, List.length_append, List.length_take, List.length_singleton, List.length_drop]; omega), List.drop_eq_nil_of_le (show l.length ≤ i by omega)]
    rw [if_neg (by simp [clashB]), hsp]
    simp
  | succ d ih =>
    intro i a k hi hk ha b1 b2
    obtain ⟨k, rfl⟩ : ∃ m, k = m + 2 := ⟨k - 2, by omega⟩
    have hj1 : spec_TakeHold.j1 (k + 1) l (a : Int) (i : Int) false h0 h1 = if clashB h0 h1 (l.drop (i + 1)) = true then some (([] : List S52), (4 : Int)) else some (insH ⟨h0, h1⟩ l, 0) := by
      simp only [spec_TakeHold.j1]
      rw [if_neg (by decide), if_pos (by omega), if_pos (by omega), wrap_nat i (by omega)]
      by_cases c : (rd_T52 l (i : Int)).f1 < h1
      · rw [if_pos c]
        refine ih (i + 1) (i + 1) k (by omega) (by omega) (Nat.le_refl _) (fun j hj => ?_) (fun j h2 h3 => by omega)
        by_cases e : j = i
        · subst e; exact c
        · have := hs i (by omega) j (by omega); omega
      · rw [if_neg c]
        refine ih (i + 1) a k (by omega) (by omega) (by omega) b1 (fun j h2 h3 => ?_)
        by_cases e : j = i
        · subst e; exact c
        · exact b2 j h2 (by omega)
    simp only [spec_TakeHold.l0]
    rw [if_pos (by omega), if_pos (by omega), drop_hold l i (by omega)]
    unfold clashB at hj1 ⊢
    rw [List.any_cons]
    by_cases c1 : (rd_T52 l (i : Int)).f0 = h0
    · rw [if_pos c1, decide_eq_true c1, Bool.true_or, Bool.true_or, if_pos rfl]
      simp only [spec_TakeHold.j1]
      rw [if_pos trivial]
    · rw [if_neg c1, decide_eq_false c1, Bool.false_or]
      by_cases c2 : (rd_T52 l (i : Int)).f1 = h1
      · rw [beq_iff_eq.2 c2, decide_eq_true c2, Bool.true_or, if_pos rfl]
        simp only [spec_TakeHold.j1]
        rw [if_pos trivial]
      · rw [beq_eq_false_iff_ne.2 c2, decide_eq_false c2, Bool.false_or]
        exact hj1
def oneB (n : Int) (h0 h1 : Int) : Bool := decide (0 ≤ h0 ∧ h0 ≤ 999) && decide (0 ≤ h1 ∧ h1 ≤ n - 1)
theorem holdsOk_one (p : Int) (kn : List Int) (hr : ropeOk p kn = true) (h0 h1 : Int) : holdsOk p kn [⟨h0, h1⟩] = oneB (kn.length : Int) h0 h1 := by
  unfold holdsOk oneB
  rw [hr, Bool.true_and]
  have e : rd_T52 [(⟨h0, h1⟩ : S52)] ((0 : Nat) : Int) = ⟨h0, h1⟩ := rd_hold_get _ 0 (by simp)
  simp only [List.length_singleton, holdsFrom, holdAt, Bool.and_true, dupFrom]
  rw [e]
  simp
theorem isHold_one (p : Int) (kn : List Int) (hkn : kn.length ≤ 1048576) (h0 h1 : Int) (r0 : -32768 ≤ h0 ∧ h0 ≤ 32767) (r1 : -128 ≤ h1 ∧ h1 ≤ 127) : impl_Rope_isHold.f p kn h0 h1 = some (oneB (kn.length : Int) h0 h1) := by
  unfold impl_Rope_isHold.f impl_size_int16.f oneB
  rw [wrap64_id h0 (by omega) (by omega), wrap64_id h1 (by omega) (by omega), within_eq, Option.bind_some]
  by_cases c : 0 ≤ h0 ∧ h0 ≤ 999
  · rw [decide_eq_true c, if_pos rfl, Option.bind_some, wrap64_id ((kn.length : Int) - 1) (by omega) (by omega), within_eq, Option.bind_some, Bool.true_and]
  · rw [decide_eq_false c, if_neg (by decide), Bool.false_and]
def finT (p : Int) (kn : List Int) (l : List S52) (h0 h1 : Int) : List S52 × Int :=
  if holdsOk p kn l = true then (if oneB (kn.length : Int) h0 h1 = true then (if clashB h0 h1 l = true then ([], 4) else (insH ⟨h0, h1⟩ l, 0)) else ([], 2)) else ([], 1)
theorem insH_len (h : S52) (l : List S52) : (insH h l).length = l.length + 1 := by
  unfold insH
  rw [(Go.Proofs.YtlggjfhoecaelaaGreatDoor.H.insT_perm _ h l).length_eq, List.length_append]; rfl
theorem finT_len (p : Int) (kn : List Int) (l : List S52) (h0 h1 : Int) : (finT p kn l h0 h1).1.length ≤ 41 := by
  unfold finT
  split
  · rename_i h
    have := (holdsOk_facts p kn l h).2.2.1
    split
    · split
      · simp
      · simp only [insH_len]; omega
    · simp
  · simp
theorem spec_finT (p : Int) (hp : -32768 ≤ p ∧ p ≤ 32767) (kn : List Int) (l : List S52) (hl : l.length ≤ 1048576) (hkn : kn.length ≤ 1048576) (hr : ∀ h ∈ l, holdR h) (h0 h1 : Int) (r0 : -32768 ≤ h0 ∧ h0 ≤ 32767) (r1 : -128 ≤ h1 ∧ h1 ≤ 127) (k : Nat) (hk : 1100000000000 < k) : spec_TakeHold.f k p kn l h0 h1 = some (finT p kn l h0 h1) := by
  unfold spec_TakeHold.f finT
  rw [specHolds_eq p hp kn l hl hkn hr k hk, Option.bind_some]
  by_cases c : holdsOk p kn l = true
  · obtain ⟨f1, f2, f3, f4, f5⟩ := holdsOk_facts p kn l c
    rw [if_pos c, if_pos c, specHolds_eq p hp kn [⟨h0, h1⟩] (by simp) hkn (fun h hh => by rw [List.mem_singleton.1 hh]; exact ⟨r0, r1⟩) k hk, Option.bind_some, holdsOk_one p kn f1]
    by_cases c2 : oneB (kn.length : Int) h0 h1 = true
    · rw [if_pos c2, if_pos c2]
      have hho : holdsFrom l (kn.length : Int) l.length 0 = true := by
        unfold holdsOk at c
        rw [Bool.and_eq_true] at c
        exact c.2
      have := specTake_l0 l hl (hold_lt l _ hho) h0 h1 l.length 0 0 k (by omega) (by omega) (Nat.le_refl _) (fun j hj => by omega) (fun j h2 h3 => by omega)
      rw [show ((0 : Nat) : Int) = 0 from rfl, List.drop_zero] at this
      rw [this]
      split <;> rfl
    · rw [if_neg c2, if_neg c2]
  · rw [if_neg c, if_neg c]
theorem impl_finT (p : Int) (hp : -32768 ≤ p ∧ p ≤ 32767) (kn : List Int) (l : List S52) (hl : l.length ≤ 1048576) (hkn : kn.length ≤ 1048576) (hr : ∀ h ∈ l, holdR h) (h0 h1 : Int) (r0 : -32768 ≤ h0 ∧ h0 ≤ 32767) (r1 : -128 ≤ h1 ∧ h1 ≤ 127) (k : Nat) (hk : 1100000000000 < k) : impl_TakeHold.f k p kn l h0 h1 = some (finT p kn l h0 h1) := by
  unfold impl_TakeHold.f finT
  rw [implHolds_eq p hp kn l hl hkn hr k (by omega), Option.bind_some]
  by_cases c : holdsOk p kn l = true
  · obtain ⟨f1, f2, f3, f4, f5⟩ := holdsOk_facts p kn l c
    rw [if_pos c, if_pos c, isHold_one p kn hkn h0 h1 r0 r1, Option.bind_some]
    by_cases c2 : oneB (kn.length : Int) h0 h1 = true
    · rw [if_pos c2, if_pos c2, clash_eq l hl h0 h1 k (by omega), Option.bind_some]
      by_cases c3 : clashB h0 h1 l = true
      · rw [if_pos c3, if_pos c3]
      · rw [if_neg c3, if_neg c3]
        have hz : 0 ≤ h1 ∧ h1 < 128 := by
          unfold oneB at c2
          rw [Bool.and_eq_true, decide_eq_true_iff, decide_eq_true_iff] at c2
          omega
        have hok : impl_TakeHold.okT l h1 := ⟨by omega, f4, hz, f5, fun x hx e => c3 (by
          unfold clashB
          rw [List.any_eq_true]
          exact ⟨x, hx, by rw [decide_eq_true e, Bool.or_true]⟩)⟩
        rw [if_pos hok]
        rfl
    · rw [if_neg c2, if_neg c2]
  · rw [if_neg c, if_neg c]

/-! Holds: closed up, one taken and let go. -/
def clH (l : List S52) : Nat → Nat → List S52
  | 0, _ => []
  | d + 1, i => (⟨(rd_T52 l (i : Int)).f0, (i : Int)⟩ : S52) :: clH l d (i + 1)
theorem clH_s (l : List S52) (d i : Nat) : clH l (d + 1) i = (⟨(rd_T52 l (i : Int)).f0, (i : Int)⟩ : S52) :: clH l d (i + 1) := rfl
theorem clH_len (l : List S52) : ∀ d i : Nat, (clH l d i).length = d
  | 0, _ => rfl
  | d + 1, i => by rw [clH_s, List.length_cons, clH_len l d (i + 1)]
theorem clH_rd (l : List S52) : ∀ (d i j : Nat), j < d → rd_T52 (clH l d i) (j : Int) = ⟨(rd_T52 l ((i + j : Nat) : Int)).f0, ((i + j : Nat) : Int)⟩ := by
  intro d
  induction d with
  | zero => intro i j h; omega
  | succ d ih =>
    intro i j h
    rw [clH_s]
    cases j with
    | zero => rfl
    | succ j => rw [rd_hold_cons, ih (i + 1) j (by omega), show i + 1 + j = i + (j + 1) by omega]
theorem rd_hold_app (A l : List S52) (i : Nat) (h : A.length = i) : rd_T52 (A ++ l.drop i) (i : Int) = rd_T52 l (i : Int) := by
  unfold rd_T52
  rw [Int.toNat_natCast, List.getD_eq_getElem?_getD, List.getD_eq_getElem?_getD, List.getElem?_append_right (by omega), h, Nat.sub_self, List.getElem?_drop, Nat.add_zero]
theorem implClose_l0 (l : List S52) (hl : l.length ≤ 100) : ∀ (d i k : Nat) (A : List S52), i + d = l.length → d < k → A.length = i → impl_CloseUp.l0 k (A ++ l.drop i) (l.length : Int) (i : Int) = some (A ++ clH l d i, 0) := by
  intro d
  induction d with
  | zero =>
    intro i k A hi hk hA
    obtain ⟨k, rfl⟩ : ∃ m, k = m + 1 := ⟨k - 1, by omega⟩
    rw [impl_CloseUp.l0, if_neg (by omega), List.drop_eq_nil_of_le (by omega)]
    rfl
  | succ d ih =>
    intro i k A hi hk hA
    obtain ⟨k, rfl⟩ : ∃ m, k = m + 1 := ⟨k - 1, by omega⟩
    have hb := ih (i + 1) k (A ++ [(⟨(rd_T52 l (i : Int)).f0, (i : Int)⟩ : S52)]) (by omega) (by omega) (by rw [List.length_append, List.length_singleton]; omega)
    rw [impl_CloseUp.l0, if_pos (by omega), if_pos (by omega), if_pos (by rw [List.length_append, List.length_drop]; omega), rd_hold_app A l i hA, i8_small i (by omega), wrap_nat i (by omega), Int.toNat_natCast, set_drop _ _ i _ hA (by omega), hb, List.append_assoc]
    rfl
theorem specClose_l0 (l : List S52) (hl : l.length ≤ 100) : ∀ (d i k : Nat) (A : List S52), i + d = l.length → d < k → A.length = i → spec_CloseUp.l0 k l A (i : Int) = some (A ++ clH l d i, 0) := by
  intro d
  induction d with
  | zero =>
    intro i k A hi hk hA
    obtain ⟨k, rfl⟩ : ∃ m, k = m + 1 := ⟨k - 1, by omega⟩
    rw [spec_CloseUp.l0, if_neg (by omega), show clH l 0 i = [] from rfl, List.append_nil]
  | succ d ih =>
    intro i k A hi hk hA
    obtain ⟨k, rfl⟩ : ∃ m, k = m + 1 := ⟨k - 1, by omega⟩
    have hb := ih (i + 1) k (A ++ [(⟨(rd_T52 l (i : Int)).f0, (i : Int)⟩ : S52)]) (by omega) (by omega) (by rw [List.length_append, List.length_singleton]; omega)
    rw [spec_CloseUp.l0, if_pos (by omega), if_pos (by omega), if_pos (by omega), i8_small i (by omega), wrap_nat i (by omega), hb, List.append_assoc]
    rfl
theorem cloneH_eq (l : List S52) (hl : l.length ≤ 1000000) : slices_Clone_Hold.f l = some l := by
  unfold slices_Clone_Hold.f
  rw [Option.bind_some, if_pos (by rw [List.length_nil]; omega), List.nil_append]
theorem implClose_eq {p : Int} {kn : List Int} {l : List S52} (ho : HOK p kn l) (hp : 1 ≤ p ∧ p ≤ 400) (hk8 : kn.length ≤ 40) (k : Nat) (hk : 3100000 < k) : impl_CloseUp.f k p kn l = some (clH l l.length 0, 0) := by
  have hl := ho.len
  have key := implClose_l0 l (by omega) l.length 0 k [] (by omega) (by omega) rfl
  rw [List.drop_zero, List.nil_append, List.nil_append] at key
  unfold impl_CloseUp.f
  rw [implHolds_eq p (by omega) kn l (by omega) (by omega) (ho.holdR (by omega)) k (by omega), Option.bind_some, if_pos ho.ok, cloneH_eq l (by omega), Option.bind_some]
  exact key
theorem specClose_eq {p : Int} {kn : List Int} {l : List S52} (ho : HOK p kn l) (hp : 1 ≤ p ∧ p ≤ 400) (hk8 : kn.length ≤ 40) (k : Nat) (hk : 1100000000000 < k) : spec_CloseUp.f k p kn l = some (clH l l.length 0, 0) := by
  have hl := ho.len
  have key := specClose_l0 l (by omega) l.length 0 k [] (by omega) (by omega) rfl
  rw [List.nil_append] at key
  unfold spec_CloseUp.f
  rw [Option.bind_some, specHolds_eq p (by omega) kn l (by omega) (by omega) (ho.holdR (by omega)) k hk, Option.bind_some, if_pos ho.ok]
  exact key
theorem implGaps_eq {p : Int} {kn : List Int} {l : List S52} (ho : HOK p kn l) (hp : 1 ≤ p ∧ p ≤ 400) (hk8 : kn.length ≤ 40) (k : Nat) (hk : 3100000 < k) : impl_GapsOf.f k p kn l = some (listF (gapG kn l) (l.length - 1) 1, 0) := by
  have hl := ho.len
  unfold impl_GapsOf.f
  rw [implHolds_eq p (by omega) kn l (by omega) (by omega) (ho.holdR (by omega)) k (by omega), Option.bind_some, if_pos ho.ok]
  exact (gaps_eq p kn l (by omega) ho.ok k (by omega)).2
theorem specGaps_eq {p : Int} {kn : List Int} {l : List S52} (ho : HOK p kn l) (hp : 1 ≤ p ∧ p ≤ 400) (hk8 : kn.length ≤ 40) (k : Nat) (hk : 1100000000000 < k) : spec_GapsOf.f k p kn l = some (listF (gapG kn l) (l.length - 1) 1, 0) := by
  have hl := ho.len
  unfold spec_GapsOf.f
  rw [specHolds_eq p (by omega) kn l (by omega) (by omega) (ho.holdR (by omega)) k hk, Option.bind_some, if_pos ho.ok, (gaps_eq p kn l (by omega) ho.ok k (by omega)).1, Option.bind_some]
theorem sameHolds_l0 (l : List S52) (hl : l.length ≤ 1000) : ∀ (d i k : Nat), i + d = l.length → d < k → spec_SameHolds.l0 k l l (i : Int) = some true := by
  intro d
  induction d with
  | zero =>
    intro i k hi hk
    obtain ⟨k, rfl⟩ : ∃ m, k = m + 1 := ⟨k - 1, by omega⟩
    rw [spec_SameHolds.l0, if_neg (by omega)]
  | succ d ih =>
    intro i k hi hk
    obtain ⟨k, rfl⟩ : ∃ m, k = m + 1 := ⟨k - 1, by omega⟩
    rw [spec_SameHolds.l0, if_pos (by omega), if_pos (by omega), if_pos (by omega), if_neg (by simp), wrap_nat i (by omega)]
    exact ih (i + 1) k (by omega) (by omega)
theorem sameHolds_eq (l : List S52) (hl : l.length ≤ 1000) (k : Nat) (hk : 1000 < k) : spec_SameHolds.f k l l = some true := by
  unfold spec_SameHolds.f
  rw [if_pos rfl]
  exact sameHolds_l0 l hl l.length 0 k (by omega) (by omega)
theorem equalH_l0 (l : List S52) (hl : l.length ≤ 1000) : ∀ (d i k : Nat), i + d = l.length → d < k → slices_Equal_Hold.l0 k l l (l.length : Int) (i : Int) = some true := by
  intro d
  induction d with
  | zero =>
    intro i k hi hk
    obtain ⟨k, rfl⟩ : ∃ m, k = m + 1 := ⟨k - 1, by omega⟩
    rw [slices_Equal_Hold.l0, if_neg (by omega)]
  | succ d ih =>
    intro i k hi hk
    obtain ⟨k, rfl⟩ : ∃ m, k = m + 1 := ⟨k - 1, by omega⟩
    rw [slices_Equal_Hold.l0, if_pos (by omega), if_pos (by omega), if_pos (by omega), if_pos (by omega), if_neg (by simp), wrap_nat i (by omega)]
    exact ih (i + 1) k (by omega) (by omega)
theorem implSameHolds_eq (l : List S52) (hl : l.length ≤ 1000) (k : Nat) (hk : 1000 < k) : impl_SameHolds.f k l l = some true := by
  unfold impl_SameHolds.f slices_Equal_Hold.f
  rw [if_pos rfl]
  have := equalH_l0 l hl l.length 0 k (by omega) (by omega)
  rw [show ((0 : Nat) : Int) = 0 from rfl] at this
  rw [this, Option.bind_some]
theorem ins_at (h : S52) : ∀ l : List S52, ∃ a, a < (insH h l).length ∧ rd_T52 (insH h l) (a : Int) = h ∧ (insH h l).eraseIdx a = l := by
  intro l
  induction l with
  | nil => exact ⟨0, Nat.zero_lt_one, rfl, rfl⟩
  | cons x r ih =>
    by_cases c : x.f1 < h.f1
    · have e : insH h (x :: r) = x :: insH h r := by
        unfold insH
        simp only [Go.Proofs.YtlggjfhoecaelaaGreatDoor.H.insT]
        rw [if_pos c]
      obtain ⟨a, a1, a2, a3⟩ := ih
      rw [e]
      refine ⟨a + 1, by rw [List.length_cons]; omega, by rw [rd_hold_cons]; exact a2, by rw [List.eraseIdx_cons_succ, a3]⟩
    · have e : insH h (x :: r) = h :: x :: r := by
        unfold insH
        simp only [Go.Proofs.YtlggjfhoecaelaaGreatDoor.H.insT]
        rw [if_neg c]
      rw [e]
      exact ⟨0, by rw [List.length_cons]; omega, rfl, rfl⟩
theorem ins_ok {p : Int} {kn : List Int} {l : List S52} (ho : HOK p kn l) (h0 h1 : Int) (r0 : 0 ≤ h0 ∧ h0 ≤ 999) (r1 : 0 ≤ h1 ∧ h1 ≤ (kn.length : Int) - 1) (hc : ¬ clashB h0 h1 l = true) : HOK p kn (insH ⟨h0, h1⟩ l) := by
  have hn : ∀ x ∈ l, x.f0 ≠ h0 ∧ x.f1 ≠ h1 := fun x hx => by
    refine ⟨fun e => hc ?_, fun e => hc ?_⟩ <;> (unfold clashB; rw [List.any_eq_true])
    · exact ⟨x, hx, by rw [decide_eq_true e, Bool.true_or]⟩
    · exact ⟨x, hx, by rw [decide_eq_true e, Bool.or_true]⟩
  have hp := Go.Proofs.YtlggjfhoecaelaaGreatDoor.H.insT_perm (fun x : S52 => x.f1) ⟨h0, h1⟩ l
  refine ⟨ho.rope, fun x hx => ?_, ?_, ?_⟩
  · rcases List.mem_append.1 (hp.mem_iff.1 hx) with q | q
    · exact ho.rng x q
    · rw [List.mem_singleton.1 q]; exact ⟨r0, r1⟩
  · exact Go.Proofs.YtlggjfhoecaelaaGreatDoor.H.insT_sorted (fun x : S52 => x.f1) ⟨h0, h1⟩ l ho.up (fun x hx => (hn x hx).2)
  · refine (hp.pairwise_iff (fun {a b} hab => Ne.symm hab)).2 ?_
    rw [List.pairwise_append]
    exact ⟨ho.dis, List.pairwise_singleton _ _, fun a ha b hb => by rw [List.mem_singleton.1 hb]; exact (hn a ha).1⟩
theorem letGo_eq {p : Int} {kn : List Int} {l : List S52} (ho : HOK p kn l) (hp : 1 ≤ p ∧ p ≤ 400) (hk8 : kn.length ≤ 40) (a : Nat) (ha : a < l.length) (k : Nat) (hk : 3100000 < k) : impl_LetGo.f k p kn l (a : Int) = some (l.eraseIdx a, 0) := by
  have hl := ho.len
  unfold impl_LetGo.f impl_size_Hold.f impl_without.f
  rw [implHolds_eq p (by omega) kn l (by omega) (by omega) (ho.holdR (by omega)) k (by omega), Option.bind_some, if_pos ho.ok, Option.bind_some, wrap64_id ((l.length : Int) - 1) (by omega) (by omega), within_eq, Option.bind_some, if_pos (decide_eq_true (by omega)), if_pos (by omega), if_pos (by omega), cloneH_eq l (by omega), Option.bind_some, if_pos rfl, Option.bind_some, Int.toNat_natCast]

/-! Even ropes. -/
def finE (P : Int) (K : List Int) : Int × List Int × Int := if (K.length : Int) > 40 then (0, [], 3) else (P, K, 0)
structure EvenI (L g : Int) (K : List Int) : Prop where
  rope : RopeI L K
  two : 2 ≤ K.length
  mid : ∀ j : Nat, 1 ≤ j → j + 1 < K.length → spG K j = g
  last : spG K (K.length - 1) ≤ g
theorem spG_app_lt (l : List Int) (x : Int) (j : Nat) (h : j < l.length) : spG (l ++ [x]) j = spG l j := by
  unfold spG
  rw [rd_app_lt l x j h, rd_app_lt l x (j - 1) (by omega)]
theorem spG_app_eq {p : Int} {l : List Int} (h : RopeI p l) (x : Int) : spG (l ++ [x]) l.length = x - p := by
  have := h.len
  unfold spG
  rw [rd_app_eq l x l.length rfl, rd_app_lt l x (l.length - 1) (by omega), h.last]
theorem even_end {L g q : Int} {acc : List Int} (h : RopeI q acc) (hq : q < L) (hg : L - q ≤ g) (hm : ∀ j : Nat, 1 ≤ j → j < acc.length → spG acc j = g) : EvenI L g (acc ++ [L]) := by
  have h1 := h.len
  refine ⟨h.app L hq, by rw [List.length_append, List.length_singleton]; omega, fun j j1 j2 => ?_, ?_⟩
  · rw [List.length_append, List.length_singleton] at j2
    rw [spG_app_lt acc L j (by omega)]
    exact hm j j1 (by omega)
  · rw [List.length_append, List.length_singleton, Nat.add_sub_cancel, spG_app_eq h]
    exact hg
theorem even_l0 (L g P : Int) (hL : L ≤ 400) (g1 : 1 ≤ g) (g2 : g ≤ 9) (hgL : g ≤ L) : ∀ (d k : Nat) (q : Int) (acc : List Int), L ≤ q + g + d → d + 1 < k → RopeI q acc → 0 ≤ q → q < L → acc.length + d ≤ 1000 → (∀ j : Nat, 1 ≤ j → j < acc.length → spG acc j = g) →
    ∃ K, EvenI L g K ∧ impl_EvenRope.l0 k L g (q + g) P acc = some (finE P K) ∧ spec_EvenRope.l0 k L g (q + g) P acc = some (finE P K) := by
  intro d
  induction d with
  | zero =>
    intro k q acc hd hk h h0 hq ha hm
    obtain ⟨k, rfl⟩ : ∃ m, k = m + 1 := ⟨k - 1, by omega⟩
    refine ⟨acc ++ [L], even_end h hq (by omega) hm, ?_, ?_⟩
    · rw [impl_EvenRope.l0, if_neg (by omega), if_pos (by omega), Option.bind_some, i16_id L (by omega)]
      unfold finE
      split <;> rfl
    · rw [spec_EvenRope.l0, if_neg (by omega), if_pos (by omega), Option.bind_some, i16_id L (by omega)]
      unfold finE
      split <;> rfl
  | succ d ih =>
    intro k q acc hd hk h h0 hq ha hm
    obtain ⟨k, rfl⟩ : ∃ m, k = m + 1 := ⟨k - 1, by omega⟩
    by_cases c : q + g < L
    · have h2 := h.app (q + g) (by omega)
      obtain ⟨K, e1, e2, e3⟩ := ih k (q + g) (acc ++ [q + g]) (by omega) (by omega) h2 (by omega) c (by rw [List.length_append, List.length_singleton]; omega) (fun j j1 j2 => by
        rw [List.length_append, List.length_singleton] at j2
        by_cases e : j = acc.length
        · rw [e, spG_app_eq h]; omega
        · rw [spG_app_lt acc _ j (by omega)]; exact hm j j1 (by omega))
      have hmn : mn g L = g := by unfold mn; split <;> omega
      refine ⟨K, e1, ?_, ?_⟩
      · rw [impl_EvenRope.l0, if_pos c, if_pos (by omega), hmn, wrap64_id (q + g + g) (by omega) (by omega), i16_id (q + g) (by omega)]
        exact e2
      · rw [spec_EvenRope.l0, if_pos c, if_pos (by omega)]
        unfold spec_l00Min.f
        rw [if_pos (by omega), Option.bind_some, wrap64_id (q + g + g) (by omega) (by omega), i16_id (q + g) (by omega)]
        exact e3
    · refine ⟨acc ++ [L], even_end h hq (by omega) hm, ?_, ?_⟩
      · rw [impl_EvenRope.l0, if_neg c, if_pos (by omega), Option.bind_some, i16_id L (by omega)]
        unfold finE
        split <;> rfl
      · rw [spec_EvenRope.l0, if_neg c, if_pos (by omega), Option.bind_some, i16_id L (by omega)]
        unfold finE
        split <;> rfl
theorem rope0 : RopeI 0 [0] := ⟨by simp, rfl, rfl, fun j h1 h2 => by simp at h2; omega⟩
theorem even_eq (L g : Int) (hL : 1 ≤ L ∧ L ≤ 400) (hg : 1 ≤ g ∧ g ≤ 9) (k : Nat) (hk : 2000 < k) : ∃ K, EvenI L g K ∧ impl_EvenRope.f k L g = some (finE L K) ∧ spec_EvenRope.f k L g = some (finE L K) := by
  obtain ⟨k, rfl⟩ : ∃ m, k = m + 3 := ⟨k - 3, by omega⟩
  have hdec : decide (g < 1) = false := decide_eq_false (by omega)
  have key : ∃ K, EvenI L g K ∧ impl_EvenRope.l0 (k + 2) L g 0 L [] = some (finE L K) ∧ spec_EvenRope.l0 (k + 2) L g 0 L [] = some (finE L K) := by
    by_cases c : g ≤ L
    · obtain ⟨K, e1, e2, e3⟩ := even_l0 L g L hL.2 hg.1 hg.2 c 400 (k + 1) 0 [0] (by omega) (by omega) rope0 (by omega) (by omega) (by simp) (fun j h1 h2 => by simp at h2; omega)
      rw [show (0 : Int) + g = g by omega] at e2 e3
      have hmn : mn g L = g := by unfold mn; split <;> omega
      refine ⟨K, e1, ?_, ?_⟩
      · rw [impl_EvenRope.l0, if_pos (by omega), if_pos (by simp), hmn, show (0 : Int) + g = g by omega, wrap64_id g (by omega) (by omega), i16_id 0 (by omega)]
        exact e2
      · rw [spec_EvenRope.l0, if_pos (by omega), if_pos (by simp)]
        unfold spec_l00Min.f
        rw [if_pos (by omega), Option.bind_some, show (0 : Int) + g = g by omega, wrap64_id g (by omega) (by omega), i16_id 0 (by omega)]
        exact e3
    · have hmn : mn g L = L := by unfold mn; split <;> omega
      refine ⟨[0] ++ [L], even_end rope0 (by omega) (by omega) (fun j h1 h2 => by simp at h2; omega), ?_, ?_⟩
      · rw [impl_EvenRope.l0, if_pos (by omega), if_pos (by simp), hmn, show (0 : Int) + L = L by omega, wrap64_id L (by omega) (by omega), i16_id 0 (by omega), impl_EvenRope.l0, if_neg (by omega), if_pos (by simp), Option.bind_some, i16_id L (by omega), List.nil_append]
        unfold finE
        split <;> rfl
      · rw [spec_EvenRope.l0, if_pos (by omega), if_pos (by simp)]
        unfold spec_l00Min.f
        rw [if_pos (by omega), Option.bind_some, show (0 : Int) + g = g by omega, wrap64_id g (by omega) (by omega), i16_id 0 (by omega), spec_EvenRope.l0, if_neg (by omega), if_pos (by simp), Option.bind_some, i16_id L (by omega), List.nil_append]
        unfold finE
        split <;> rfl
  obtain ⟨K, e1, e2, e3⟩ := key
  refine ⟨K, e1, ?_, ?_⟩
  · unfold impl_EvenRope.f
    rw [within_eq, Option.bind_some, if_pos (decide_eq_true (by omega)), hdec, impl_EvenRope.j0, if_neg (by decide), i16_id L (by omega)]
    exact e2
  · unfold spec_EvenRope.f
    rw [in_eq, Option.bind_some, if_pos (decide_eq_true (by omega)), hdec, spec_EvenRope.j0, if_neg (by decide), i16_id L (by omega)]
    exact e3
theorem EvenI.ok {L g : Int} {K : List Int} (h : EvenI L g K) (hL : 1 ≤ L ∧ L ≤ 400) (hl : K.length ≤ 40) : ropeOk L K = true := h.rope.ok hL ⟨h.two, hl⟩

theorem same_l0 (l : List Int) (hl : l.length ≤ 1048576) : ∀ (d i k : Nat), i + d = l.length → d < k → spec_l00Same.l0 k l l (i : Int) = some true := by
  intro d
  induction d with
  | zero =>
    intro i k hi hk
    obtain ⟨k, rfl⟩ : ∃ m, k = m + 1 := ⟨k - 1, by omega⟩
    simp only [spec_l00Same.l0]
    rw [if_neg (by omega)]
  | succ d ih =>
    intro i k hi hk
    obtain ⟨k, rfl⟩ : ∃ m, k = m + 1 := ⟨k - 1, by omega⟩
    simp only [spec_l00Same.l0]
    rw [if_pos (by omega), if_pos (by omega), if_pos (by omega), if_pos trivial, wrap_nat i (by omega), ih (i + 1) k (by omega) (by omega)]
theorem same_eq (l : List Int) (hl : l.length ≤ 1000) (k : Nat) (hk : 1000 < k) : spec_SameNumbers.f k l l = some true := by
  unfold spec_SameNumbers.f spec_l00Same.f
  rw [if_pos rfl]
  have := same_l0 l (by omega) l.length 0 k (by omega) (by omega)
  rw [show ((0 : Nat) : Int) = 0 from rfl] at this
  rw [this, Option.bind_some]

theorem p6pick_big (c : List Int) (hc : srcOk c) (n : Int) (hn : 201 ≤ n ∧ n ≤ 100000) : ∃ v, spec_P6Pick.f c n = some v ∧ 0 ≤ v ∧ v ≤ n - 1 := by
  unfold spec_P6Pick.f spec_l00From.f
  simp only [Option.bind_some]
  obtain ⟨v, s', e, v0, v1⟩ := pick_big c hc 0 0 n (by decide) hn
  rw [e]
  exact ⟨v, rfl, v0, v1⟩
theorem sameRope_l0 (p : Int) (l : List Int) (hl : l.length ≤ 1000) : ∀ (d i k : Nat), i + d = l.length → d < k → spec_SameRope.l0 k (i : Int) p l p l = some true := by
  intro d
  induction d with
  | zero =>
    intro i k hi hk
    obtain ⟨k, rfl⟩ : ∃ m, k = m + 1 := ⟨k - 1, by omega⟩
    rw [spec_SameRope.l0, if_neg (by omega)]
  | succ d ih =>
    intro i k hi hk
    obtain ⟨k, rfl⟩ : ∃ m, k = m + 1 := ⟨k - 1, by omega⟩
    rw [spec_SameRope.l0, if_pos (by omega), if_pos (by omega), if_pos (by omega), if_pos rfl, wrap_nat i (by omega)]
    exact ih (i + 1) k (by omega) (by omega)
theorem sameRope_eq (p : Int) (l : List Int) (hl : l.length ≤ 1000) (k : Nat) (hk : 1010 < k) : spec_SameRope.f k p l p l = some true := by
  obtain ⟨k, rfl⟩ : ∃ m, k = m + 1 := ⟨k - 1, by omega⟩
  unfold spec_SameRope.f
  rw [if_pos rfl, spec_SameRope.j0, if_neg (by simp)]
  exact sameRope_l0 p l hl l.length 0 k (by omega) (by omega)
theorem equalI_l0 (l : List Int) (hl : l.length ≤ 1000) : ∀ (d i k : Nat), i + d = l.length → d < k → slices_Equal_Sint16_int16.l0 k l l (l.length : Int) (i : Int) = some true := by
  intro d
  induction d with
  | zero =>
    intro i k hi hk
    obtain ⟨k, rfl⟩ : ∃ m, k = m + 1 := ⟨k - 1, by omega⟩
    rw [slices_Equal_Sint16_int16.l0, if_neg (by omega)]
  | succ d ih =>
    intro i k hi hk
    obtain ⟨k, rfl⟩ : ∃ m, k = m + 1 := ⟨k - 1, by omega⟩
    rw [slices_Equal_Sint16_int16.l0, if_pos (by omega), if_pos (by omega), if_pos (by omega), if_pos (by omega), if_pos rfl, wrap_nat i (by omega)]
    exact ih (i + 1) k (by omega) (by omega)
theorem implSameRope_eq (p : Int) (l : List Int) (hl : l.length ≤ 1000) (k : Nat) (hk : 1010 < k) : impl_SameRope.f k p l p l = some true := by
  unfold impl_SameRope.f slices_Equal_Sint16_int16.f
  rw [if_pos rfl, if_pos rfl]
  have := equalI_l0 l hl l.length 0 k (by omega) (by omega)
  rw [show ((0 : Nat) : Int) = 0 from rfl] at this
  rw [this, Option.bind_some]
theorem law_l4 {L g : Int} {K : List Int} (h : EvenI L g K) (hK : K.length ≤ 40) (P : Int) : ∀ (d i k : Nat), i + d = K.length - 1 → d < k → laws_FnRopes.l4 k g (listF (spG K) (K.length - 1) 1) 0 (i : Int) P K = some true := by
  have h2 := h.two
  have hl := listF_len (spG K) (K.length - 1) 1
  intro d
  induction d with
  | zero =>
    intro i k hi hk
    obtain ⟨k, rfl⟩ : ∃ m, k = m + 1 := ⟨k - 1, by omega⟩
    rw [laws_FnRopes.l4, if_neg (by omega), if_pos rfl, hl, wrap64_id _ (by omega) (by omega), beq_iff_eq.2 (by omega)]
  | succ d ih =>
    intro i k hi hk
    obtain ⟨k, rfl⟩ : ∃ m, k = m + 1 := ⟨k - 1, by omega⟩
    have hv := listF_rd (spG K) (K.length - 1) 1 i (by omega)
    have hb := ih (i + 1) k (by omega) (by omega)
    by_cases c : i + 1 < K.length - 1
    · have hm := h.mid (1 + i) (by omega) (by omega)
      rw [laws_FnRopes.l4, if_pos (by omega), if_pos (by omega), hv, if_neg (by omega), wrap_nat i (by omega), if_pos (by omega), if_pos hm]
      exact hb
    · have hm := h.last
      rw [show K.length - 1 = 1 + i by omega] at hm
      rw [laws_FnRopes.l4, if_pos (by omega), if_pos (by omega), hv, if_neg (by omega), wrap_nat i (by omega), if_neg (by omega)]
      exact hb
theorem law_j9 (b : List Int) (hb : srcOk b) (p : Int) (kn : List Int) (hp : 1 ≤ p ∧ p ≤ 400) (k : Nat) (hk : 2200000 < k) : laws_FnRopes.j9 k b p kn = some true := by
  obtain ⟨k, rfl⟩ : ∃ m, k = m + 2 := ⟨k - 2, by omega⟩
  obtain ⟨t, e1, t0, t1⟩ := p6pick_eq b hb 9 (by omega)
  obtain ⟨K, e2, e3, e4⟩ := even_eq p (1 + t) hp (by omega) (k + 1) (by omega)
  rw [laws_FnRopes.j9, e1, Option.bind_some, wrap64_id p (by omega) (by omega), wrap64_id (1 + t) (by omega) (by omega), e3, Option.bind_some, e4, Option.bind_some, if_pos rfl]
  unfold finE
  by_cases c : (K.length : Int) > 40
  · rw [if_pos c]
    dsimp only
    rw [sameRope_eq 0 [] (by simp) _ (by omega), Option.bind_some, if_pos rfl, if_neg (by decide), laws_FnRopes.j10, if_neg (by decide), if_neg (by decide)]
  · rw [if_neg c]
    dsimp only
    have hr := e2.ok hp (by omega)
    rw [sameRope_eq p K (by omega) _ (by omega), Option.bind_some, if_pos rfl, if_pos rfl, laws_FnRopes.j10, if_neg (by decide), if_pos rfl, implSp_eq hr k (by omega), Option.bind_some]
    exact law_l4 e2 (by omega) p (K.length - 1) 0 k (by omega) (by omega)
theorem law_l3 (b : List Int) (hb : srcOk b) {p : Int} {kn : List Int} {hs W : List S52} (ho : HOK p kn hs) (hw : HOK p kn W) (hp : 1 ≤ p ∧ p ≤ 400) (hk8 : kn.length ≤ 40) (h0 h1 : Int) (a : Nat) (ha : a < W.length) (hx : rd_T52 W (a : Int) = ⟨h0, h1⟩) (he : W.eraseIdx a = hs) : ∀ (d i k : Nat), i + d = W.length → d + 5000000 < k → laws_FnRopes.l3 k b hs W (if a < i then (a : Int) else -1) (i : Int) p kn h0 h1 = some true := by
  have hwl := hw.len
  have hsl : W.length = hs.length + 1 := by rw [← he, List.length_eraseIdx_of_lt ha]; omega
  intro d
  induction d with
  | zero =>
    intro i k hi hk
    obtain ⟨k, rfl⟩ : ∃ m, k = m + 1 := ⟨k - 1, by omega⟩
    rw [if_pos (by omega), laws_FnRopes.l3, if_neg (by omega), letGo_eq hw hp hk8 a ha k (by omega), Option.bind_some, if_neg (by omega), implHolds_eq p (by omega) kn W (by omega) (by omega) (hw.holdR (by omega)) k (by omega), Option.bind_some, hw.ok, if_pos rfl, wrap64_id ((hs.length : Int) + 1) (by omega) (by omega), if_pos (by omega)]
    dsimp only
    rw [he, if_pos rfl, if_pos rfl, sameHolds_eq hs (by omega) k (by omega), Option.bind_some, if_pos rfl]
    exact law_j9 b hb p kn hp k (by omega)
  | succ d ih =>
    intro i k hi hk
    obtain ⟨k, rfl⟩ : ∃ m, k = m + 1 := ⟨k - 1, by omega⟩
    have hb2 := ih (i + 1) k (by omega) (by omega)
    rw [laws_FnRopes.l3, if_pos (by omega), if_pos (by omega), wrap_nat i (by omega)]
    by_cases e : i = a
    · subst e
      rw [if_pos (by omega)] at hb2
      rw [hx, if_pos (by simp)]
      exact hb2
    · have hdis := List.pairwise_iff_getElem.1 hw.dis
      have hne : (rd_T52 W (i : Int)).f0 ≠ h0 := by
        have ea : W[a].f0 = h0 := by rw [← rd_hold_get W a ha, hx]
        rw [rd_hold_get W i (by omega)]
        rcases Nat.lt_or_gt_of_ne e with g | g
        · rw [← ea]; exact hdis i a (by omega) ha g
        · rw [← ea]; exact Ne.symm (hdis a i ha (by omega) g)
      rw [beq_eq_false_iff_ne.2 hne, Bool.false_and, if_neg (by decide)]
      by_cases g : a < i
      · rw [if_pos (by omega)] at hb2
        rw [if_pos g]
        exact hb2
      · rw [if_neg (by omega)] at hb2
        rw [if_neg g]
        exact hb2
theorem law_l2 (a b : List Int) (ha : srcOk a) (hb : srcOk b) {p : Int} {kn : List Int} {hs : List S52} (h : ropeOk p kn = true) (ho : HOK p kn hs) (hk8 : kn.length ≤ 8) : ∀ (d i k : Nat), i + d = hs.length → d + 1100000100000 < k → laws_FnRopes.l2 k a b hs (clH hs hs.length 0) (i : Int) p kn = some true := by
  obtain ⟨hI, hp, hl⟩ := ropeI_of h
  have hsl := ho.len
  have hcl := clH_len hs hs.length 0
  intro d
  induction d with
  | zero =>
    intro i k hi hk
    obtain ⟨k, rfl⟩ : ∃ m, k = m + 1 := ⟨k - 1, by omega⟩
    obtain ⟨v, e1, v0, v1⟩ := p6pick_big a ha 1000 (by omega)
    obtain ⟨u, e2, u0, u1⟩ := p6pick_eq b hb (kn.length : Int) (by omega)
    have r0 : -32768 ≤ v ∧ v ≤ 32767 := by omega
    have r1 : -128 ≤ u ∧ u ≤ 127 := by omega
    have hi8 : IntKind.i8.wrap u = u := i8_id u (by omega)
    rw [laws_FnRopes.l2, if_neg (by omega), e1, Option.bind_some, e2, Option.bind_some, i16_id v (by omega), hi8,
      impl_finT p (by omega) kn hs (by omega) (by omega) (ho.holdR (by omega)) v u r0 r1 k (by omega), Option.bind_some,
      spec_finT p (by omega) kn hs (by omega) (by omega) (ho.holdR (by omega)) v u r0 r1 k (by omega), Option.bind_some, if_pos rfl]
    have hfl := finT_len p kn hs v u
    rw [sameHolds_eq _ (by omega) k (by omega), Option.bind_some]
    obtain ⟨k, rfl⟩ : ∃ m, k = m + 1 := ⟨k - 1, by omega⟩
    rw [laws_FnRopes.j7, if_neg (by decide)]
    have hone : oneB (kn.length : Int) v u = true := by
      unfold oneB
      rw [decide_eq_true (by omega), decide_eq_true (by omega)]; rfl
    unfold finT
    rw [if_pos ho.ok, if_pos hone]
    by_cases c : clashB v u hs = true
    · rw [if_pos c]
      dsimp only
      rw [if_neg (by decide), if_pos rfl]
      exact law_j9 b hb p kn hp k (by omega)
    · rw [if_neg c]
      dsimp only
      rw [if_pos rfl]
      obtain ⟨q, q1, q2, q3⟩ := ins_at ⟨v, u⟩ hs
      have hw := ins_ok ho v u (by omega) (by omega) c
      have hwl := hw.len
      have := law_l3 b hb ho hw hp (by omega) v u q q1 q2 q3 (insH ⟨v, u⟩ hs).length 0 k (by omega) (by omega)
      rw [if_neg (by omega)] at this
      exact this
  | succ d ih =>
    intro i k hi hk
    obtain ⟨k, rfl⟩ : ∃ m, k = m + 1 := ⟨k - 1, by omega⟩
    have hv := clH_rd hs hs.length 0 i (by omega)
    rw [Nat.zero_add] at hv
    rw [laws_FnRopes.l2, if_pos (by omega), if_pos (by omega), hv, if_pos (by rw [i8_small i (by omega)]), if_pos (by omega), if_pos rfl, wrap_nat i (by omega)]
    exact ih (i + 1) k (by omega) (by omega)
theorem law_l1 (a b : List Int) (ha : srcOk a) (hb : srcOk b) {p : Int} {kn : List Int} {hs : List S52} (h : ropeOk p kn = true) (ho : HOK p kn hs) (hk8 : kn.length ≤ 8) (t : Int) (ht : 0 ≤ t ∧ t ≤ p) (q : Nat) (hq : q < kn.length) (hB : BestB kn t kn.length q) : ∀ (d i k : Nat), i + d = kn.length → d + 1100000200000 < k → laws_FnRopes.l1 k a b hs t (q : Int) (dK kn t q) (i : Int) p kn = some true := by
  obtain ⟨hI, hp, hl⟩ := ropeI_of h
  have hsl := ho.len
  have hcl := clH_len hs hs.length 0
  intro d
  induction d with
  | zero =>
    intro i k hi hk
    obtain ⟨k, rfl⟩ : ∃ m, k = m + 1 := ⟨k - 1, by omega⟩
    have hgl := listF_len (gapG kn hs) (hs.length - 1) 1
    rw [laws_FnRopes.l1, if_neg (by omega), implClose_eq ho hp (by omega) k (by omega), Option.bind_some, specClose_eq ho hp (by omega) k (by omega), Option.bind_some, implGaps_eq ho hp (by omega) k (by omega), Option.bind_some, specGaps_eq ho hp (by omega) k (by omega), Option.bind_some, if_pos rfl, if_pos rfl]
    dsimp only
    rw [sameHolds_eq _ (by omega) k (by omega), Option.bind_some, if_pos rfl, implSameHolds_eq _ (by omega) k (by omega), Option.bind_some, if_pos rfl, if_pos (by omega), if_pos rfl, if_pos rfl, same_eq _ (by omega) k (by omega), Option.bind_some]
    obtain ⟨k, rfl⟩ : ∃ m, k = m + 1 := ⟨k - 1, by omega⟩
    rw [laws_FnRopes.j5, if_neg (by decide)]
    exact law_l2 a b ha hb h ho hk8 hs.length 0 k (by omega) (by omega)
  | succ d ih =>
    intro i k hi hk
    obtain ⟨k, rfl⟩ : ∃ m, k = m + 1 := ⟨k - 1, by omega⟩
    have hr := hI.rng i (by omega)
    have hm : mx (wrap64 (wrap64 (rd kn (i : Int)) - t)) (wrap64 (t - wrap64 (rd kn (i : Int)))) = dK kn t i := by
      rw [wrap64_id (rd kn (i : Int)) (by omega) (by omega), wrap64_id (rd kn (i : Int) - t) (by omega) (by omega), wrap64_id (t - rd kn (i : Int)) (by omega) (by omega)]; rfl
    have h1 := hB.1 i (by omega)
    have hb2 := ih (i + 1) k (by omega) (by omega)
    rw [laws_FnRopes.l1, if_pos (by omega), if_pos (by omega), hm, if_neg (by omega), wrap_nat i (by omega)]
    by_cases e : dK kn t i = dK kn t q
    · rw [if_pos e, if_neg (fun g => by
        have := hB.2 i (by omega)
        omega)]
      exact hb2
    · rw [if_neg e]
      exact hb2
theorem law_l0 (a b : List Int) (ha : srcOk a) (hb : srcOk b) {p : Int} {kn : List Int} {hs : List S52} (h : ropeOk p kn = true) (ho : HOK p kn hs) (hk8 : kn.length ≤ 8) (hp42 : p ≤ 42) : ∀ (d i k : Nat), i + d + 1 = kn.length → 1 ≤ i → d + 1100000300000 < k → laws_FnRopes.l0 k a b hs (listF (spG kn) (kn.length - 1) 1) (i : Int) p kn = some true := by
  obtain ⟨hI, hp, hl⟩ := ropeI_of h
  intro d
  induction d with
  | zero =>
    intro i k hi h1 hk
    obtain ⟨k, rfl⟩ : ∃ m, k = m + 1 := ⟨k - 1, by omega⟩
    obtain ⟨t, e1, t0, t1⟩ := p6pick_eq b hb (p + 1) (by omega)
    obtain ⟨q, q1, q2, q3, q4⟩ := near_eq h t (by omega) k (by omega)
    have hr := hI.rng q q1
    rw [laws_FnRopes.l0, wrap_nat i (by omega), if_neg (by omega), wrap64_id p (by omega) (by omega), wrap64_id (p + 1) (by omega) (by omega), e1, Option.bind_some, q3, Option.bind_some, q4, Option.bind_some, if_pos rfl, if_pos rfl]
    dsimp only
    obtain ⟨k, rfl⟩ : ∃ m, k = m + 1 := ⟨k - 1, by omega⟩
    rw [laws_FnRopes.j3, if_neg (by simp), if_pos (by omega), if_pos (by omega), wrap64_id (rd kn (q : Int)) (by omega) (by omega), wrap64_id (rd kn (q : Int) - t) (by omega) (by omega), wrap64_id (t - rd kn (q : Int)) (by omega) (by omega)]
    exact law_l1 a b ha hb h ho hk8 t (by omega) q q1 q2 kn.length 0 k (by omega) (by omega)
  | succ d ih =>
    intro i k hi h1 hk
    obtain ⟨k, rfl⟩ : ∃ m, k = m + 1 := ⟨k - 1, by omega⟩
    have hb2 := ih (i + 1) k (by omega) (by omega) (by omega)
    have hLe := hI.left i (by omega)
    have hRi := hI.right i (by omega)
    have u1 := hI.up i h1 (by omega)
    have u2 := hI.up (i + 1) (by omega) (by omega)
    rw [Nat.add_sub_cancel] at u2
    have g0 := hI.rng (i - 1) (by omega)
    have g2 := hI.rng (i + 1) (by omega)
    have tl : (kn.take (i + 1)).length = i + 1 := by rw [List.length_take]; omega
    have dl : ((kn.drop i).map (fun x => x - rd kn (i : Int))).length = kn.length - i := by rw [List.length_map, List.length_drop]
    have okL := hLe.ok (by omega) (by omega)
    have okR := hRi.ok (by omega) (by omega)
    have hsp := sp_cut kn i (by omega)
    have l1 := listF_len (spG (kn.take (i + 1))) ((kn.take (i + 1)).length - 1) 1
    have l2 := listF_len (spG ((kn.drop i).map (fun x => x - rd kn (i : Int)))) (((kn.drop i).map (fun x => x - rd kn (i : Int))).length - 1) 1
    have l3 := listF_len (spG kn) (kn.length - 1) 1
    rw [laws_FnRopes.l0, wrap_nat i (by omega), if_pos (by omega), implCut_eq h i h1 (by omega) k (by omega), Option.bind_some, specCut_eq h i h1 (by omega) k (by omega), Option.bind_some]
    unfold cutR
    dsimp only
    rw [implSp_eq okL k (by omega), Option.bind_some, implSp_eq okR k (by omega), Option.bind_some, if_pos rfl, if_pos rfl, sameRope_eq _ _ (by omega) k (by omega), Option.bind_some, if_pos rfl, sameRope_eq _ _ (by omega) k (by omega), Option.bind_some, if_pos rfl, if_pos (by rw [show rd kn (i : Int) + (p - rd kn (i : Int)) = p by omega]; exact i16_id p (by omega))]
    dsimp only
    rw [if_pos rfl, if_pos rfl, Option.bind_some, if_pos (by rw [List.length_nil]; omega), Option.bind_some, List.nil_append, if_pos (by omega), hsp, same_eq _ (by omega) k (by omega), Option.bind_some, if_pos rfl]
    exact hb2
theorem main : laws_FnRopes.Pure := by
  intro a b mx ha0 hb0
  refine rounds_of 1200000000000 fun k hk => ?_
  unfold laws_FnRopes.f laws_f6big.f
  rw [Option.bind_some]
  obtain ⟨k, rfl⟩ : ∃ m, k = m + 1 := ⟨k - 1, by omega⟩
  by_cases ca : (a.length : Int) > 4096
  · rw [decide_eq_true ca, if_pos rfl, laws_FnRopes.j0, if_pos rfl]
  rw [decide_eq_false ca, if_neg (by decide), Option.bind_some]
  by_cases cb : (b.length : Int) > 4096
  · rw [decide_eq_true cb, laws_FnRopes.j0, if_pos rfl]
  rw [decide_eq_false cb, laws_FnRopes.j0, if_neg (by decide)]
  have sa : srcOk a := ⟨by omega, fun x hx => by have := wf_u8 (ha0.2 x hx); omega⟩
  have sb : srcOk b := ⟨by omega, fun x hx => by have := wf_u8 (hb0.2 x hx); omega⟩
  obtain ⟨p, kn, e1, h, hk8, p0, p1⟩ := p6rope_eq a sa k (by omega)
  obtain ⟨hs, e2, ho⟩ := p6holds_eq b sb p kn hk8 h k (by omega)
  obtain ⟨hI, hp, hl⟩ := ropeI_of h
  have hsl := ho.len
  have l3 := listF_len (spG kn) (kn.length - 1) 1
  rw [e1, Option.bind_some]
  dsimp only
  rw [e2, Option.bind_some, implText_eq2 p kn h k (by omega), Option.bind_some, readText p kn h mx k (by omega), Option.bind_some, implSp_eq h k (by omega), Option.bind_some, specSp_eq h k (by omega), Option.bind_some]
  dsimp only
  rw [if_pos rfl, sameRope_eq p kn (by omega) k (by omega), Option.bind_some, if_pos rfl, if_pos rfl, implSameRope_eq p kn (by omega) k (by omega), Option.bind_some, if_pos rfl, implRope_eq p (by omega) kn (by omega) k (by omega), Option.bind_some, h, if_pos rfl, if_pos rfl, if_pos rfl, same_eq _ (by omega) k (by omega), Option.bind_some, if_pos rfl, implHolds_eq p (by omega) kn hs (by omega) (by omega) (ho.holdR (by omega)) k (by omega), Option.bind_some, ho.ok]
  obtain ⟨k, rfl⟩ : ∃ m, k = m + 1 := ⟨k - 1, by omega⟩
  rw [laws_FnRopes.j1, if_neg (by decide)]
  exact law_l0 a b sa sb h ho hk8 p1 (kn.length - 2) 1 k (by omega) (Nat.le_refl _) (by omega)

end Go.Proofs.YtlggjfhoecaelaaGreatDoor.PureFnRopes
namespace Go.Proofs.YtlggjfhoecaelaaGreatDoor.Pure
theorem FnRopes : Go.Proofs.YtlggjfhoecaelaaGreatDoor.P.laws_FnRopes.Pure := Go.Proofs.YtlggjfhoecaelaaGreatDoor.PureFnRopes.main
end Go.Proofs.YtlggjfhoecaelaaGreatDoor.Pure
