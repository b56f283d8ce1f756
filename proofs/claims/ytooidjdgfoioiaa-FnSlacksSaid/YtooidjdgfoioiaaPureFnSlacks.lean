/- A rope that is made for drawn spots has no slack there and fits them; the slacks of the program and of the reference are one, and who can stand has none below nothing: law of FnSlacks, no condition. -/
import Derived.Test.YtooidjdgfoioiaaP36
import Derived.Laws.BitsLemmas
namespace Go.Proofs.Ytooidjdgfoioiaa.PureFnSlacks
open Go.RowKit Go.Proofs.Ytooidjdgfoioiaa.P Go.Proofs.YtooidjdgfoioiaaW.PrintWords Go.Proofs.YtooidjdgfoioiaaW.PrintLast
set_option linter.unusedSimpArgs false
set_option linter.unusedVariables false

theorem wrap64_id (x : Int) (h0 : -9223372036854775808 ≤ x) (h1 : x ≤ 9223372036854775807) : wrap64 x = x := by unfold wrap64; omega
theorem wrap_nat (n : Nat) (h : n < 4611686018427387904) : wrap64 ((n : Int) + 1) = ((n + 1 : Nat) : Int) := by
  rw [wrap64_id _ (by omega) (by omega)]; omega
theorem rd_nat (l : List Int) (i : Nat) : rd l (i : Int) = l.getD i 0 := by simp [rd]
theorem drop_rd (l : List Int) (i : Nat) (h : i < l.length) : l.drop i = rd l (i : Int) :: l.drop (i + 1) := by
  rw [List.drop_eq_getElem_cons h, rd_nat, List.getD_eq_getElem?_getD, List.getElem?_eq_getElem h]; rfl
theorem drop_getD {α : Type} (z : α) (l : List α) (i : Nat) (h : i < l.length) : l.drop i = l.getD i z :: l.drop (i + 1) := by
  rw [List.drop_eq_getElem_cons h, List.getD_eq_getElem?_getD, List.getElem?_eq_getElem h]; rfl
theorem take_getD {α : Type} (z : α) (l : List α) (i : Nat) (h : i < l.length) : l.take (i + 1) = l.take i ++ [l.getD i z] := by
  rw [List.take_succ_eq_append_getElem h, List.getD_eq_getElem?_getD, List.getElem?_eq_getElem h]; rfl
theorem set_drop {α : Type} (a g : List α) (i : Nat) (v : α) (h : a.length = i) (hg : i < g.length) : (a ++ g.drop i).set i v = (a ++ [v]) ++ g.drop (i + 1) := by
  subst h
  rw [List.set_append_right _ _ (Nat.le_refl _), Nat.sub_self, List.drop_eq_getElem_cons hg, List.set_cons_zero]
  simp
theorem rounds_of (B : Nat) {α : Type} {F : Nat → Option α} {v : α} (h : ∀ k, B ≤ k → F k = some v) : ∃ k, F k = some v := ⟨B, h B (Nat.le_refl _)⟩

theorem wrap_u16 (n : Int) : IntKind.u16.wrap n = n % 65536 := by simp [IntKind.wrap, IntKind.bits, IntKind.signed]
theorem wrap_u64 (n : Int) : IntKind.u64.wrap n = n % 18446744073709551616 := by simp [IntKind.wrap, IntKind.bits, IntKind.signed]
theorem wraps_u16 (n : Int) (h₀ : 0 ≤ n) (h₁ : n < 2 ^ 16) : IntKind.u16.wrap n = n := by rw [wrap_u16]; omega
theorem wrap_u64_id (n : Int) (h0 : 0 ≤ n) (h1 : n < 18446744073709551616) : IntKind.u64.wrap n = n := by rw [wrap_u64]; omega
theorem and_one (x : Int) (h₀ : 0 ≤ x) (h₁ : x < 65536) : Go.bits .and .u16 x 1 = x % 2 := by
  have := Go.bits_mask .u16 16 (by decide) wraps_u16 1 (by decide) x h₀ (by omega)
  simpa using this
theorem wf_u8 {a : Int} (h : (Lit.int .u8 a).wf = true) : 0 ≤ a ∧ a ≤ 255 := by
  simp [Lit.wf, IntKind.min, IntKind.max, IntKind.bits, IntKind.signed] at h
  omega
theorem shr_range (a n : Int) (h0 : 0 ≤ a) (h1 : a < 65536) : 0 ≤ shr .u16 a n ∧ shr .u16 a n < 65536 := by
  unfold shr
  have hp : (0 : Int) < 2 ^ min n.toNat IntKind.u16.bits := Int.pow_pos (by decide)
  constructor
  · exact Int.ediv_nonneg h0 (Int.le_of_lt hp)
  · exact Int.lt_of_le_of_lt (Int.ediv_le_self _ h0) h1
def rowsR (w h : Int) : Int → List Int → Bool
  | _, [] => true
  | i, x :: r => if shr .u16 x w = 0 then (if h ≤ i then (if x = 0 then rowsR w h (i + 1) r else false) else rowsR w h (i + 1) r) else false
def okR (w h : Int) (us : List Int) : Bool := decide (1 ≤ w ∧ w ≤ 10) && (decide (1 ≤ h ∧ h ≤ 10) && rowsR w h 0 us)
def cellR (w h x y : Int) : Bool := decide (0 ≤ x ∧ x ≤ w - 1) && decide (0 ≤ y ∧ y ≤ h - 1)
def freeR (w h : Int) (us : List Int) (x y : Int) : Bool := cellR w h x y && (shr .u16 (us.getD y.toNat 0) x % 2 == 0)
theorem inR_eq (a b c : Int) : spec_l00In.f a b c = some (decide (b ≤ a ∧ a ≤ c)) := by
  unfold spec_l00In.f
  by_cases h : a ≥ b
  · rw [if_pos h]; simp [h]
  · rw [if_neg h]; simp; omega
theorem okR_l0_10 (w h u0 u1 u2 u3 u4 u5 u6 u7 u8 u9 : Int) (k : Nat) : spec_l01Ok.l0 (k + 1) 10 w h u0 u1 u2 u3 u4 u5 u6 u7 u8 u9 = some (rowsR w h 10 []) := by
  rw [spec_l01Ok.l0, if_neg (by decide)]; rfl
theorem okR_l0_9 (w h u0 u1 u2 u3 u4 u5 u6 u7 u8 u9 : Int) (hw : 1 ≤ w ∧ w ≤ 10) (hh : 1 ≤ h ∧ h ≤ 10) (k : Nat) : spec_l01Ok.l0 (k + 2) 9 w h u0 u1 u2 u3 u4 u5 u6 u7 u8 u9 = some (rowsR w h 9 [u9]) := by
  rw [spec_l01Ok.l0, if_pos (by decide), if_pos (by decide), if_neg (by decide), if_neg (by decide), if_neg (by decide), if_neg (by decide), if_neg (by decide), if_neg (by decide), if_neg (by decide), if_neg (by decide), if_neg (by decide), if_pos rfl, wrap_u64_id w (by omega) (by omega), wrap64_id h (by omega) (by omega), if_pos (by omega)]
  rw [wrap64_id (9 + 1) (by decide) (by decide), rowsR, show ((9 : Int) + 1) = 10 from rfl]
  by_cases c : shr .u16 u9 w = 0
  · rw [if_pos c, if_pos c]
    by_cases d : h ≤ 9
    · rw [if_pos d, if_pos d]
      by_cases e : u9 = 0
      · rw [if_pos e, if_pos e]; exact okR_l0_10 w h u0 u1 u2 u3 u4 u5 u6 u7 u8 u9 k
      · rw [if_neg e, if_neg e]
    · rw [if_neg d, if_neg d]; exact okR_l0_10 w h u0 u1 u2 u3 u4 u5 u6 u7 u8 u9 k
  · rw [if_neg c, if_neg c]
theorem okR_l0_8 (w h u0 u1 u2 u3 u4 u5 u6 u7 u8 u9 : Int) (hw : 1 ≤ w ∧ w ≤ 10) (hh : 1 ≤ h ∧ h ≤ 10) (k : Nat) : spec_l01Ok.l0 (k + 3) 8 w h u0 u1 u2 u3 u4 u5 u6 u7 u8 u9 = some (rowsR w h 8 [u8, u9]) := by
  rw [spec_l01Ok.l0, if_pos (by decide), if_pos (by decide), if_neg (by decide), if_neg (by decide), if_neg (by decide), if_neg (by decide), if_neg (by decide), if_neg (by decide), if_neg (by decide), if_neg (by decide), if_pos rfl, wrap_u64_id w (by omega) (by omega), wrap64_id h (by omega) (by omega), if_pos (by omega)]
  rw [wrap64_id (8 + 1) (by decide) (by decide), rowsR, show ((8 : Int) + 1) = 9 from rfl]
  by_cases c : shr .u16 u8 w = 0
  · rw [if_pos c, if_pos c]
    by_cases d : h ≤ 8
    · rw [if_pos d, if_pos d]
      by_cases e : u8 = 0
      · rw [if_pos e, if_pos e]; exact okR_l0_9 w h u0 u1 u2 u3 u4 u5 u6 u7 u8 u9 hw hh k
      · rw [if_neg e, if_neg e]
    · rw [if_neg d, if_neg d]; exact okR_l0_9 w h u0 u1 u2 u3 u4 u5 u6 u7 u8 u9 hw hh k
  · rw [if_neg c, if_neg c]
theorem okR_l0_7 (w h u0 u1 u2 u3 u4 u5 u6 u7 u8 u9 : Int) (hw : 1 ≤ w ∧ w ≤ 10) (hh : 1 ≤ h ∧ h ≤ 10) (k : Nat) : spec_l01Ok.l0 (k + 4) 7 w h u0 u1 u2 u3 u4 u5 u6 u7 u8 u9 = some (rowsR w h 7 [u7, u8, u9]) := by
  rw [spec_l01Ok.l0, if_pos (by decide), if_pos (by decide), if_neg (by decide), if_neg (by decide), if_neg (by decide), if_neg (by decide), if_neg (by decide), if_neg (by decide), if_neg (by decide), if_pos rfl, wrap_u64_id w (by omega) (by omega), wrap64_id h (by omega) (by omega), if_pos (by omega)]
  rw [wrap64_id (7 + 1) (by decide) (by decide), rowsR, show ((7 : Int) + 1) = 8 from rfl]
  by_cases c : shr .u16 u7 w = 0
  · rw [if_pos c, if_pos c]
    by_cases d : h ≤ 7
    · rw [if_pos d, if_pos d]
      by_cases e : u7 = 0
      · rw [if_pos e, if_pos e]; exact okR_l0_8 w h u0 u1 u2 u3 u4 u5 u6 u7 u8 u9 hw hh k
      · rw [if_neg e, if_neg e]
    · rw [if_neg d, if_neg d]; exact okR_l0_8 w h u0 u1 u2 u3 u4 u5 u6 u7 u8 u9 hw hh k
  · rw [if_neg c, if_neg c]
theorem okR_l0_6 (w h u0 u1 u2 u3 u4 u5 u6 u7 u8 u9 : Int) (hw : 1 ≤ w ∧ w ≤ 10) (hh : 1 ≤ h ∧ h ≤ 10) (k : Nat) : spec_l01Ok.l0 (k + 5) 6 w h u0 u1 u2 u3 u4 u5 u6 u7 u8 u9 = some (rowsR w h 6 [u6, u7, u8, u9]) := by
  rw [spec_l01Ok.l0, if_pos (by decide), if_pos (by decide), if_neg (by decide), if_neg (by decide), if_neg (by decide), if_neg (by decide), if_neg (by decide), if_neg (by decide), if_pos rfl, wrap_u64_id w (by omega) (by omega), wrap64_id h (by omega) (by omega), if_pos (by omega)]
  rw [wrap64_id (6 + 1) (by decide) (by decide), rowsR, show ((6 : Int) + 1) = 7 from rfl]
  by_cases c : shr .u16 u6 w = 0
  · rw [if_pos c, if_pos c]
    by_cases d : h ≤ 6
    · rw [if_pos d, if_pos d]
      by_cases e : u6 = 0
      · rw [if_pos e, if_pos e]; exact okR_l0_7 w h u0 u1 u2 u3 u4 u5 u6 u7 u8 u9 hw hh k
      · rw [if_neg e, if_neg e]
    · rw [if_neg d, if_neg d]; exact okR_l0_7 w h u0 u1 u2 u3 u4 u5 u6 u7 u8 u9 hw hh k
  · rw [if_neg c, if_neg c]
theorem okR_l0_5 (w h u0 u1 u2 u3 u4 u5 u6 u7 u8 u9 : Int) (hw : 1 ≤ w ∧ w ≤ 10) (hh : 1 ≤ h ∧ h ≤ 10) (k : Nat) : spec_l01Ok.l0 (k + 6) 5 w h u0 u1 u2 u3 u4 u5 u6 u7 u8 u9 = some (rowsR w h 5 [u5, u6, u7, u8, u9]) := by
  rw [spec_l01Ok.l0, if_pos (by decide), if_pos (by decide), if_neg (by decide), if_neg (by decide), if_neg (by decide), if_neg (by decide), if_neg (by decide), if_pos rfl, wrap_u64_id w (by omega) (by omega), wrap64_id h (by omega) (by omega), if_pos (by omega)]
  rw [wrap64_id (5 + 1) (by decide) (by decide), rowsR, show ((5 : Int) + 1) = 6 from rfl]
  by_cases c : shr .u16 u5 w = 0
  · rw [if_pos c, if_pos c]
    by_cases d : h ≤ 5
    · rw [if_pos d, if_pos d]
      by_cases e : u5 = 0
      · rw [if_pos e, if_pos e]; exact okR_l0_6 w h u0 u1 u2 u3 u4 u5 u6 u7 u8 u9 hw hh k
      · rw [if_neg e, if_neg e]
    · rw [if_neg d, if_neg d]; exact okR_l0_6 w h u0 u1 u2 u3 u4 u5 u6 u7 u8 u9 hw hh k
  · rw [if_neg c, if_neg c]
theorem okR_l0_4 (w h u0 u1 u2 u3 u4 u5 u6 u7 u8 u9 : Int) (hw : 1 ≤ w ∧ w ≤ 10) (hh : 1 ≤ h ∧ h ≤ 10) (k : Nat) : spec_l01Ok.l0 (k + 7) 4 w h u0 u1 u2 u3 u4 u5 u6 u7 u8 u9 = some (rowsR w h 4 [u4, u5, u6, u7, u8, u9]) := by
  rw [spec_l01Ok.l0, if_pos (by decide), if_pos (by decide), if_neg (by decide), if_neg (by decide), if_neg (by decide), if_neg (by decide), if_pos rfl, wrap_u64_id w (by omega) (by omega), wrap64_id h (by omega) (by omega), if_pos (by omega)]
  rw [wrap64_id (4 + 1) (by decide) (by decide), rowsR, show ((4 : Int) + 1) = 5 from rfl]
  by_cases c : shr .u16 u4 w = 0
  · rw [if_pos c, if_pos c]
    by_cases d : h ≤ 4
    · rw [if_pos d, if_pos d]
      by_cases e : u4 = 0
      · rw [if_pos e, if_pos e]; exact okR_l0_5 w h u0 u1 u2 u3 u4 u5 u6 u7 u8 u9 hw hh k
      · rw [if_neg e, if_neg e]
    · rw [if_neg d, if_neg d]; exact okR_l0_5 w h u0 u1 u2 u3 u4 u5 u6 u7 u8 u9 hw hh k
  · rw [if_neg c, if_neg c]
theorem okR_l0_3 (w h u0 u1 u2 u3 u4 u5 u6 u7 u8 u9 : Int) (hw : 1 ≤ w ∧ w ≤ 10) (hh : 1 ≤ h ∧ h ≤ 10) (k : Nat) : spec_l01Ok.l0 (k + 8) 3 w h u0 u1 u2 u3 u4 u5 u6 u7 u8 u9 = some (rowsR w h 3 [u3, u4, u5, u6, u7, u8, u9]) := by
  rw [spec_l01Ok.l0, if_pos (by decide), if_pos (by decide), if_neg (by decide), if_neg (by decide), if_neg (by decide), if_pos rfl, wrap_u64_id w (by omega) (by omega), wrap64_id h (by omega) (by omega), if_pos (by omega)]
  rw [wrap64_id (3 + 1) (by decide) (by decide), rowsR, show ((3 : Int) + 1) = 4 from rfl]
  by_cases c : shr .u16 u3 w = 0
  · rw [if_pos c, if_pos c]
    by_cases d : h ≤ 3
    · rw [if_pos d, if_pos d]
      by_cases e : u3 = 0
      · rw [if_pos e, if_pos e]; exact okR_l0_4 w h u0 u1 u2 u3 u4 u5 u6 u7 u8 u9 hw hh k
      · rw [if_neg e, if_neg e]
    · rw [if_neg d, if_neg d]; exact okR_l0_4 w h u0 u1 u2 u3 u4 u5 u6 u7 u8 u9 hw hh k
  · rw [if_neg c, if_neg c]
theorem okR_l0_2 (w h u0 u1 u2 u3 u4 u5 u6 u7 u8 u9 : Int) (hw : 1 ≤ w ∧ w ≤ 10) (hh : 1 ≤ h ∧ h ≤ 10) (k : Nat) : spec_l01Ok.l0 (k + 9) 2 w h u0 u1 u2 u3 u4 u5 u6 u7 u8 u9 = some (rowsR w h 2 [u2, u3, u4, u5, u6, u7, u8, u9]) := by
  rw [spec_l01Ok.l0, if_pos (by decide), if_pos (by decide), if_neg (by decide), if_neg (by decide), if_pos rfl, wrap_u64_id w (by omega) (by omega), wrap64_id h (by omega) (by omega), if_pos (by omega)]
  rw [wrap64_id (2 + 1) (by decide) (by decide), rowsR, show ((2 : Int) + 1) = 3 from rfl]
  by_cases c : shr .u16 u2 w = 0
  · rw [if_pos c, if_pos c]
    by_cases d : h ≤ 2
    · rw [if_pos d, if_pos d]
      by_cases e : u2 = 0
      · rw [if_pos e, if_pos e]; exact okR_l0_3 w h u0 u1 u2 u3 u4 u5 u6 u7 u8 u9 hw hh k
      · rw [if_neg e, if_neg e]
    · rw [if_neg d, if_neg d]; exact okR_l0_3 w h u0 u1 u2 u3 u4 u5 u6 u7 u8 u9 hw hh k
  · rw [if_neg c, if_neg c]
theorem okR_l0_1 (w h u0 u1 u2 u3 u4 u5 u6 u7 u8 u9 : Int) (hw : 1 ≤ w ∧ w ≤ 10) (hh : 1 ≤ h ∧ h ≤ 10) (k : Nat) : spec_l01Ok.l0 (k + 10) 1 w h u0 u1 u2 u3 u4 u5 u6 u7 u8 u9 = some (rowsR w h 1 [u1, u2, u3, u4, u5, u6, u7, u8, u9]) := by
  rw [spec_l01Ok.l0, if_pos (by decide), if_pos (by decide), if_neg (by decide), if_pos rfl, wrap_u64_id w (by omega) (by omega), wrap64_id h (by omega) (by omega), if_pos (by omega)]
  rw [wrap64_id (1 + 1) (by decide) (by decide), rowsR, show ((1 : Int) + 1) = 2 from rfl]
  by_cases c : shr .u16 u1 w = 0
  · rw [if_pos c, if_pos c]
    by_cases d : h ≤ 1
    · rw [if_pos d, if_pos d]
      by_cases e : u1 = 0
      · rw [if_pos e, if_pos e]; exact okR_l0_2 w h u0 u1 u2 u3 u4 u5 u6 u7 u8 u9 hw hh k
      · rw [if_neg e, if_neg e]
    · rw [if_neg d, if_neg d]; exact okR_l0_2 w h u0 u1 u2 u3 u4 u5 u6 u7 u8 u9 hw hh k
  · rw [if_neg c, if_neg c]
theorem okR_l0_0 (w h u0 u1 u2 u3 u4 u5 u6 u7 u8 u9 : Int) (hw : 1 ≤ w ∧ w ≤ 10) (hh : 1 ≤ h ∧ h ≤ 10) (k : Nat) : spec_l01Ok.l0 (k + 11) 0 w h u0 u1 u2 u3 u4 u5 u6 u7 u8 u9 = some (rowsR w h 0 [u0, u1, u2, u3, u4, u5, u6, u7, u8, u9]) := by
  rw [spec_l01Ok.l0, if_pos (by decide), if_pos (by decide), if_pos rfl, wrap_u64_id w (by omega) (by omega), wrap64_id h (by omega) (by omega), if_pos (by omega)]
  rw [wrap64_id (0 + 1) (by decide) (by decide), rowsR, show ((0 : Int) + 1) = 1 from rfl]
  by_cases c : shr .u16 u0 w = 0
  · rw [if_pos c, if_pos c]
    by_cases d : h ≤ 0
    · rw [if_pos d, if_pos d]
      by_cases e : u0 = 0
      · rw [if_pos e, if_pos e]; exact okR_l0_1 w h u0 u1 u2 u3 u4 u5 u6 u7 u8 u9 hw hh k
      · rw [if_neg e, if_neg e]
    · rw [if_neg d, if_neg d]; exact okR_l0_1 w h u0 u1 u2 u3 u4 u5 u6 u7 u8 u9 hw hh k
  · rw [if_neg c, if_neg c]
theorem specOk_eq (w h u0 u1 u2 u3 u4 u5 u6 u7 u8 u9 : Int) (iw : -128 ≤ w ∧ w ≤ 127) (ih : -128 ≤ h ∧ h ≤ 127) (k : Nat) (hk : 12 ≤ k) : spec_l01Ok.f k w h u0 u1 u2 u3 u4 u5 u6 u7 u8 u9 = some (okR w h [u0, u1, u2, u3, u4, u5, u6, u7, u8, u9]) := by
  unfold spec_l01Ok.f okR
  rw [wrap64_id w (by omega) (by omega), wrap64_id h (by omega) (by omega), inR_eq, inR_eq, Option.bind_some, Option.bind_some]
  obtain ⟨k, rfl⟩ : ∃ m, k = m + 12 := ⟨k - 12, by omega⟩
  by_cases cw : 1 ≤ w ∧ w ≤ 10
  · rw [decide_eq_true cw, if_pos rfl, Bool.true_and]
    by_cases ch : 1 ≤ h ∧ h ≤ 10
    · rw [decide_eq_true ch, Bool.true_and, spec_l01Ok.j0, if_neg (by decide)]
      exact okR_l0_0 w h u0 u1 u2 u3 u4 u5 u6 u7 u8 u9 cw ch k
    · rw [decide_eq_false ch, Bool.false_and, spec_l01Ok.j0, if_pos (by decide)]
  · rw [decide_eq_false cw, if_neg (by decide), Bool.false_and, spec_l01Ok.j0, if_pos rfl]
theorem specIs_eq (w h u0 u1 u2 u3 u4 u5 u6 u7 u8 u9 : Int) (iw : -128 ≤ w ∧ w ≤ 127) (ih : -128 ≤ h ∧ h ≤ 127) (x y : Int) (hx : -128 ≤ x ∧ x ≤ 127) (hy : -128 ≤ y ∧ y ≤ 127) : spec_l01Is.f w h u0 u1 u2 u3 u4 u5 u6 u7 u8 u9 x y = some (cellR w h x y) := by
  unfold spec_l01Is.f cellR
  rw [wrap64_id w (by omega) (by omega), wrap64_id h (by omega) (by omega), wrap64_id x (by omega) (by omega), wrap64_id y (by omega) (by omega), wrap64_id (w - 1) (by omega) (by omega), wrap64_id (h - 1) (by omega) (by omega), inR_eq, inR_eq, Option.bind_some, Option.bind_some]
  by_cases c : 0 ≤ x ∧ x ≤ w - 1
  · rw [decide_eq_true c, if_pos rfl, Bool.true_and]
  · rw [decide_eq_false c, if_neg (by decide), Bool.false_and]
theorem specAsked_eq (w h u0 u1 u2 u3 u4 u5 u6 u7 u8 u9 : Int) (iw : -128 ≤ w ∧ w ≤ 127) (ih : -128 ≤ h ∧ h ≤ 127) (x y : Int) (hx : -128 ≤ x ∧ x ≤ 127) (hy : -128 ≤ y ∧ y ≤ 127) (k : Nat) (hk : 12 ≤ k) : spec_l01Asked.f k w h u0 u1 u2 u3 u4 u5 u6 u7 u8 u9 x y true = some (if okR w h [u0, u1, u2, u3, u4, u5, u6, u7, u8, u9] = true then (if cellR w h x y = true then 0 else 2) else 1) := by
  unfold spec_l01Asked.f
  rw [specOk_eq w h u0 u1 u2 u3 u4 u5 u6 u7 u8 u9 iw ih k hk, Option.bind_some, specIs_eq w h u0 u1 u2 u3 u4 u5 u6 u7 u8 u9 iw ih x y hx hy, Option.bind_some]
  by_cases c : okR w h [u0, u1, u2, u3, u4, u5, u6, u7, u8, u9] = true
  · rw [if_pos c, if_pos c]
    by_cases d : cellR w h x y = true
    · rw [if_pos d, if_pos d, if_pos rfl]
    · rw [if_neg d, if_neg d]
  · rw [if_neg c, if_neg c]
theorem cellR_iff {w h x y : Int} : cellR w h x y = true ↔ (0 ≤ x ∧ x ≤ w - 1) ∧ (0 ≤ y ∧ y ≤ h - 1) := by
  unfold cellR; rw [Bool.and_eq_true, decide_eq_true_eq, decide_eq_true_eq]
set_option maxRecDepth 4000 in
theorem sfree_at (w h u0 u1 u2 u3 u4 u5 u6 u7 u8 u9 : Int) (r0 : 0 ≤ u0 ∧ u0 < 65536) (r1 : 0 ≤ u1 ∧ u1 < 65536) (r2 : 0 ≤ u2 ∧ u2 < 65536) (r3 : 0 ≤ u3 ∧ u3 < 65536) (r4 : 0 ≤ u4 ∧ u4 < 65536) (r5 : 0 ≤ u5 ∧ u5 < 65536) (r6 : 0 ≤ u6 ∧ u6 < 65536) (r7 : 0 ≤ u7 ∧ u7 < 65536) (r8 : 0 ≤ u8 ∧ u8 < 65536) (r9 : 0 ≤ u9 ∧ u9 < 65536) (x y : Int) (hx : 0 ≤ x ∧ x < 10) (hy : 0 ≤ y ∧ y < 10) : (if 0 ≤ y then (if y < 10 then (if y = 0 then (if 0 ≤ IntKind.u64.wrap x then some (Int.tmod (shr .u16 u0 (IntKind.u64.wrap x)) 2 == 0) else none) else (if y = 1 then (if 0 ≤ IntKind.u64.wrap x then some (Int.tmod (shr .u16 u1 (IntKind.u64.wrap x)) 2 == 0) else none) else (if y = 2 then (if 0 ≤ IntKind.u64.wrap x then some (Int.tmod (shr .u16 u2 (IntKind.u64.wrap x)) 2 == 0) else none) else (if y = 3 then (if 0 ≤ IntKind.u64.wrap x then some (Int.tmod (shr .u16 u3 (IntKind.u64.wrap x)) 2 == 0) else none) else (if y = 4 then (if 0 ≤ IntKind.u64.wrap x then some (Int.tmod (shr .u16 u4 (IntKind.u64.wrap x)) 2 == 0) else none) else (if y = 5 then (if 0 ≤ IntKind.u64.wrap x then some (Int.tmod (shr .u16 u5 (IntKind.u64.wrap x)) 2 == 0) else none) else (if y = 6 then (if 0 ≤ IntKind.u64.wrap x then some (Int.tmod (shr .u16 u6 (IntKind.u64.wrap x)) 2 == 0) else none) else (if y = 7 then (if 0 ≤ IntKind.u64.wrap x then some (Int.tmod (shr .u16 u7 (IntKind.u64.wrap x)) 2 == 0) else none) else (if y = 8 then (if 0 ≤ IntKind.u64.wrap x then some (Int.tmod (shr .u16 u8 (IntKind.u64.wrap x)) 2 == 0) else none) else (if y = 9 then (if 0 ≤ IntKind.u64.wrap x then some (Int.tmod (shr .u16 u9 (IntKind.u64.wrap x)) 2 == 0) else none) else (none))))))))))) else none) else none) = some (shr .u16 ([u0, u1, u2, u3, u4, u5, u6, u7, u8, u9].getD y.toNat 0) x % 2 == 0) := by
  rw [if_pos hy.1, if_pos hy.2]
  have hc : y = 0 ∨ y = 1 ∨ y = 2 ∨ y = 3 ∨ y = 4 ∨ y = 5 ∨ y = 6 ∨ y = 7 ∨ y = 8 ∨ y = 9 := by omega
  rcases hc with rfl | rfl | rfl | rfl | rfl | rfl | rfl | rfl | rfl | rfl
  · rw [if_pos rfl]; rw [wrap_u64_id x (by omega) (by omega), if_pos hx.1, Int.tmod_eq_emod_of_nonneg (shr_range _ _ r0.1 r0.2).1]; rfl
  · rw [if_neg (by decide), if_pos rfl]; rw [wrap_u64_id x (by omega) (by omega), if_pos hx.1, Int.tmod_eq_emod_of_nonneg (shr_range _ _ r1.1 r1.2).1]; rfl
  · rw [if_neg (by decide), if_neg (by decide), if_pos rfl]; rw [wrap_u64_id x (by omega) (by omega), if_pos hx.1, Int.tmod_eq_emod_of_nonneg (shr_range _ _ r2.1 r2.2).1]; rfl
  · rw [if_neg (by decide), if_neg (by decide), if_neg (by decide), if_pos rfl]; rw [wrap_u64_id x (by omega) (by omega), if_pos hx.1, Int.tmod_eq_emod_of_nonneg (shr_range _ _ r3.1 r3.2).1]; rfl
  · rw [if_neg (by decide), if_neg (by decide), if_neg (by decide), if_neg (by decide), if_pos rfl]; rw [wrap_u64_id x (by omega) (by omega), if_pos hx.1, Int.tmod_eq_emod_of_nonneg (shr_range _ _ r4.1 r4.2).1]; rfl
  · rw [if_neg (by decide), if_neg (by decide), if_neg (by decide), if_neg (by decide), if_neg (by decide), if_pos rfl]; rw [wrap_u64_id x (by omega) (by omega), if_pos hx.1, Int.tmod_eq_emod_of_nonneg (shr_range _ _ r5.1 r5.2).1]; rfl
  · rw [if_neg (by decide), if_neg (by decide), if_neg (by decide), if_neg (by decide), if_neg (by decide), if_neg (by decide), if_pos rfl]; rw [wrap_u64_id x (by omega) (by omega), if_pos hx.1, Int.tmod_eq_emod_of_nonneg (shr_range _ _ r6.1 r6.2).1]; rfl
  · rw [if_neg (by decide), if_neg (by decide), if_neg (by decide), if_neg (by decide), if_neg (by decide), if_neg (by decide), if_neg (by decide), if_pos rfl]; rw [wrap_u64_id x (by omega) (by omega), if_pos hx.1, Int.tmod_eq_emod_of_nonneg (shr_range _ _ r7.1 r7.2).1]; rfl
  · rw [if_neg (by decide), if_neg (by decide), if_neg (by decide), if_neg (by decide), if_neg (by decide), if_neg (by decide), if_neg (by decide), if_neg (by decide), if_pos rfl]; rw [wrap_u64_id x (by omega) (by omega), if_pos hx.1, Int.tmod_eq_emod_of_nonneg (shr_range _ _ r8.1 r8.2).1]; rfl
  · rw [if_neg (by decide), if_neg (by decide), if_neg (by decide), if_neg (by decide), if_neg (by decide), if_neg (by decide), if_neg (by decide), if_neg (by decide), if_neg (by decide), if_pos rfl]; rw [wrap_u64_id x (by omega) (by omega), if_pos hx.1, Int.tmod_eq_emod_of_nonneg (shr_range _ _ r9.1 r9.2).1]; rfl
set_option maxRecDepth 4000 in
theorem ifree_at (w h u0 u1 u2 u3 u4 u5 u6 u7 u8 u9 : Int) (r0 : 0 ≤ u0 ∧ u0 < 65536) (r1 : 0 ≤ u1 ∧ u1 < 65536) (r2 : 0 ≤ u2 ∧ u2 < 65536) (r3 : 0 ≤ u3 ∧ u3 < 65536) (r4 : 0 ≤ u4 ∧ u4 < 65536) (r5 : 0 ≤ u5 ∧ u5 < 65536) (r6 : 0 ≤ u6 ∧ u6 < 65536) (r7 : 0 ≤ u7 ∧ u7 < 65536) (r8 : 0 ≤ u8 ∧ u8 < 65536) (r9 : 0 ≤ u9 ∧ u9 < 65536) (x y : Int) (hx : 0 ≤ x ∧ x < 10) (hy : 0 ≤ y ∧ y < 10) : (if 0 ≤ y then (if y < 10 then (if y = 0 then (if 0 ≤ x then some (Go.bits .and .u16 (shr .u16 u0 x) 1 == 0) else none) else (if y = 1 then (if 0 ≤ x then some (Go.bits .and .u16 (shr .u16 u1 x) 1 == 0) else none) else (if y = 2 then (if 0 ≤ x then some (Go.bits .and .u16 (shr .u16 u2 x) 1 == 0) else none) else (if y = 3 then (if 0 ≤ x then some (Go.bits .and .u16 (shr .u16 u3 x) 1 == 0) else none) else (if y = 4 then (if 0 ≤ x then some (Go.bits .and .u16 (shr .u16 u4 x) 1 == 0) else none) else (if y = 5 then (if 0 ≤ x then some (Go.bits .and .u16 (shr .u16 u5 x) 1 == 0) else none) else (if y = 6 then (if 0 ≤ x then some (Go.bits .and .u16 (shr .u16 u6 x) 1 == 0) else none) else (if y = 7 then (if 0 ≤ x then some (Go.bits .and .u16 (shr .u16 u7 x) 1 == 0) else none) else (if y = 8 then (if 0 ≤ x then some (Go.bits .and .u16 (shr .u16 u8 x) 1 == 0) else none) else (if y = 9 then (if 0 ≤ x then some (Go.bits .and .u16 (shr .u16 u9 x) 1 == 0) else none) else (none))))))))))) else none) else none) = some (shr .u16 ([u0, u1, u2, u3, u4, u5, u6, u7, u8, u9].getD y.toNat 0) x % 2 == 0) := by
  rw [if_pos hy.1, if_pos hy.2]
  have hc : y = 0 ∨ y = 1 ∨ y = 2 ∨ y = 3 ∨ y = 4 ∨ y = 5 ∨ y = 6 ∨ y = 7 ∨ y = 8 ∨ y = 9 := by omega
  rcases hc with rfl | rfl | rfl | rfl | rfl | rfl | rfl | rfl | rfl | rfl
  · rw [if_pos rfl]; rw [if_pos hx.1, and_one _ (shr_range _ _ r0.1 r0.2).1 (shr_range _ _ r0.1 r0.2).2]; rfl
  · rw [if_neg (by decide), if_pos rfl]; rw [if_pos hx.1, and_one _ (shr_range _ _ r1.1 r1.2).1 (shr_range _ _ r1.1 r1.2).2]; rfl
  · rw [if_neg (by decide), if_neg (by decide), if_pos rfl]; rw [if_pos hx.1, and_one _ (shr_range _ _ r2.1 r2.2).1 (shr_range _ _ r2.1 r2.2).2]; rfl
  · rw [if_neg (by decide), if_neg (by decide), if_neg (by decide), if_pos rfl]; rw [if_pos hx.1, and_one _ (shr_range _ _ r3.1 r3.2).1 (shr_range _ _ r3.1 r3.2).2]; rfl
  · rw [if_neg (by decide), if_neg (by decide), if_neg (by decide), if_neg (by decide), if_pos rfl]; rw [if_pos hx.1, and_one _ (shr_range _ _ r4.1 r4.2).1 (shr_range _ _ r4.1 r4.2).2]; rfl
  · rw [if_neg (by decide), if_neg (by decide), if_neg (by decide), if_neg (by decide), if_neg (by decide), if_pos rfl]; rw [if_pos hx.1, and_one _ (shr_range _ _ r5.1 r5.2).1 (shr_range _ _ r5.1 r5.2).2]; rfl
  · rw [if_neg (by decide), if_neg (by decide), if_neg (by decide), if_neg (by decide), if_neg (by decide), if_neg (by decide), if_pos rfl]; rw [if_pos hx.1, and_one _ (shr_range _ _ r6.1 r6.2).1 (shr_range _ _ r6.1 r6.2).2]; rfl
  · rw [if_neg (by decide), if_neg (by decide), if_neg (by decide), if_neg (by decide), if_neg (by decide), if_neg (by decide), if_neg (by decide), if_pos rfl]; rw [if_pos hx.1, and_one _ (shr_range _ _ r7.1 r7.2).1 (shr_range _ _ r7.1 r7.2).2]; rfl
  · rw [if_neg (by decide), if_neg (by decide), if_neg (by decide), if_neg (by decide), if_neg (by decide), if_neg (by decide), if_neg (by decide), if_neg (by decide), if_pos rfl]; rw [if_pos hx.1, and_one _ (shr_range _ _ r8.1 r8.2).1 (shr_range _ _ r8.1 r8.2).2]; rfl
  · rw [if_neg (by decide), if_neg (by decide), if_neg (by decide), if_neg (by decide), if_neg (by decide), if_neg (by decide), if_neg (by decide), if_neg (by decide), if_neg (by decide), if_pos rfl]; rw [if_pos hx.1, and_one _ (shr_range _ _ r9.1 r9.2).1 (shr_range _ _ r9.1 r9.2).2]; rfl
theorem specFree_eq (w h u0 u1 u2 u3 u4 u5 u6 u7 u8 u9 : Int) (iw : 1 ≤ w ∧ w ≤ 10) (ih : 1 ≤ h ∧ h ≤ 10) (r0 : 0 ≤ u0 ∧ u0 < 65536) (r1 : 0 ≤ u1 ∧ u1 < 65536) (r2 : 0 ≤ u2 ∧ u2 < 65536) (r3 : 0 ≤ u3 ∧ u3 < 65536) (r4 : 0 ≤ u4 ∧ u4 < 65536) (r5 : 0 ≤ u5 ∧ u5 < 65536) (r6 : 0 ≤ u6 ∧ u6 < 65536) (r7 : 0 ≤ u7 ∧ u7 < 65536) (r8 : 0 ≤ u8 ∧ u8 < 65536) (r9 : 0 ≤ u9 ∧ u9 < 65536) (x y : Int) (hx : -128 ≤ x ∧ x ≤ 127) (hy : -128 ≤ y ∧ y ≤ 127) : spec_l01Free.f w h u0 u1 u2 u3 u4 u5 u6 u7 u8 u9 x y = some (freeR w h [u0, u1, u2, u3, u4, u5, u6, u7, u8, u9] x y) := by
  unfold spec_l01Free.f freeR
  rw [specIs_eq w h u0 u1 u2 u3 u4 u5 u6 u7 u8 u9 (by omega) (by omega) x y hx hy, Option.bind_some]
  by_cases c : cellR w h x y = true
  · rw [if_pos c, c, Bool.true_and]
    have := cellR_iff.1 c
    exact sfree_at w h u0 u1 u2 u3 u4 u5 u6 u7 u8 u9 r0 r1 r2 r3 r4 r5 r6 r7 r8 r9 x y (by omega) (by omega)
  · rw [if_neg c, Bool.eq_false_iff.2 c, Bool.false_and]
def twoR (w h : Int) (us : List Int) (x y x2 y2 : Int) : Int := if okR w h us = true then (if cellR w h x y = true then (if cellR w h x2 y2 = true then (if freeR w h us x y = true then (if freeR w h us x2 y2 = true then 0 else 4) else 4) else 2) else 2) else 1
theorem okR_iff {w h : Int} {us : List Int} (c : okR w h us = true) : (1 ≤ w ∧ w ≤ 10) ∧ (1 ≤ h ∧ h ≤ 10) := by
  unfold okR at c; rw [Bool.and_eq_true, Bool.and_eq_true, decide_eq_true_eq, decide_eq_true_eq] at c; exact ⟨c.1, c.2.1⟩
theorem specTwo_eq (w h u0 u1 u2 u3 u4 u5 u6 u7 u8 u9 : Int) (iw : -128 ≤ w ∧ w ≤ 127) (ih : -128 ≤ h ∧ h ≤ 127) (r0 : 0 ≤ u0 ∧ u0 < 65536) (r1 : 0 ≤ u1 ∧ u1 < 65536) (r2 : 0 ≤ u2 ∧ u2 < 65536) (r3 : 0 ≤ u3 ∧ u3 < 65536) (r4 : 0 ≤ u4 ∧ u4 < 65536) (r5 : 0 ≤ u5 ∧ u5 < 65536) (r6 : 0 ≤ u6 ∧ u6 < 65536) (r7 : 0 ≤ u7 ∧ u7 < 65536) (r8 : 0 ≤ u8 ∧ u8 < 65536) (r9 : 0 ≤ u9 ∧ u9 < 65536) (x y x2 y2 : Int) (hx : -128 ≤ x ∧ x ≤ 127) (hy : -128 ≤ y ∧ y ≤ 127) (hx2 : -128 ≤ x2 ∧ x2 ≤ 127) (hy2 : -128 ≤ y2 ∧ y2 ≤ 127) (k : Nat) (hk : 13 ≤ k) : spec_l01Two.f k w h u0 u1 u2 u3 u4 u5 u6 u7 u8 u9 x y x2 y2 = some (twoR w h [u0, u1, u2, u3, u4, u5, u6, u7, u8, u9] x y x2 y2) := by
  unfold spec_l01Two.f twoR
  rw [specAsked_eq w h u0 u1 u2 u3 u4 u5 u6 u7 u8 u9 iw ih x y hx hy k (by omega), Option.bind_some, specAsked_eq w h u0 u1 u2 u3 u4 u5 u6 u7 u8 u9 iw ih x2 y2 hx2 hy2 k (by omega), Option.bind_some]
  obtain ⟨k, rfl⟩ : ∃ m, k = m + 1 := ⟨k - 1, by omega⟩
  by_cases c : okR w h [u0, u1, u2, u3, u4, u5, u6, u7, u8, u9] = true
  · have ho := okR_iff c
    simp only [if_pos c]
    by_cases d : cellR w h x y = true
    · simp only [if_pos d]
      by_cases e : cellR w h x2 y2 = true
      · simp only [if_pos e]
        rw [if_pos trivial, spec_l01Two.j0, if_pos rfl, specFree_eq w h u0 u1 u2 u3 u4 u5 u6 u7 u8 u9 ho.1 ho.2 r0 r1 r2 r3 r4 r5 r6 r7 r8 r9 x y hx hy, Option.bind_some, specFree_eq w h u0 u1 u2 u3 u4 u5 u6 u7 u8 u9 ho.1 ho.2 r0 r1 r2 r3 r4 r5 r6 r7 r8 r9 x2 y2 hx2 hy2, Option.bind_some]
        split
        · split <;> rfl
        · rfl
      · simp only [if_neg e]
        rw [if_pos trivial, spec_l01Two.j0, if_neg (by decide)]
    · simp only [if_neg d]
      rw [if_neg (by decide), spec_l01Two.j0, if_neg (by decide)]
  · simp only [if_neg c]
    rw [if_neg (by decide), spec_l01Two.j0, if_neg (by decide)]
def nextR (s : Int × Int) (i : Int) : Int × Int := if i = 0 then (s.1, s.2 - 1) else if i = 1 then (s.1 + 1, s.2) else if i = 2 then (s.1, s.2 + 1) else (s.1 - 1, s.2)
def nbR (w h : Int) (us : List Int) (s : Int × Int) : List (Int × Int) := [nextR s 0, nextR s 1, nextR s 2, nextR s 3].filter (fun t => freeR w h us t.1 t.2)
theorem wrap_i8 (n : Int) (h0 : -128 ≤ n) (h1 : n ≤ 127) : IntKind.i8.wrap n = n := by simp [IntKind.wrap, IntKind.bits, IntKind.signed]; omega
theorem specNext_eq (x y i : Int) (hx : 0 ≤ x ∧ x < 10) (hy : 0 ≤ y ∧ y < 10) (hi : 0 ≤ i ∧ i < 4) : spec_l01Next.f x y i = some (nextR (x, y) i) := by
  unfold spec_l01Next.f nextR
  rw [wrap_i8 (y - 1) (by omega) (by omega), wrap_i8 (x + 1) (by omega) (by omega), wrap_i8 (y + 1) (by omega) (by omega), wrap_i8 (x - 1) (by omega) (by omega)]
  have hc : i = 0 ∨ i = 1 ∨ i = 2 ∨ i = 3 := by omega
  rcases hc with rfl | rfl | rfl | rfl <;> rfl
theorem nextR_rng (s : Int × Int) (i : Int) (hx : 0 ≤ s.1 ∧ s.1 < 10) (hy : 0 ≤ s.2 ∧ s.2 < 10) : (-128 ≤ (nextR s i).1 ∧ (nextR s i).1 ≤ 127) ∧ (-128 ≤ (nextR s i).2 ∧ (nextR s i).2 ≤ 127) := by
  unfold nextR
  split <;> (try split) <;> (try split) <;> (refine ⟨⟨?_, ?_⟩, ⟨?_, ?_⟩⟩ <;> (show _ ≤ _) <;> (dsimp only) <;> omega)
def toS (t : Int × Int) : S62 := ⟨t.1, t.2⟩
theorem specBeside_step (w h u0 u1 u2 u3 u4 u5 u6 u7 u8 u9 : Int) (iw : 1 ≤ w ∧ w ≤ 10) (ih : 1 ≤ h ∧ h ≤ 10) (r0 : 0 ≤ u0 ∧ u0 < 65536) (r1 : 0 ≤ u1 ∧ u1 < 65536) (r2 : 0 ≤ u2 ∧ u2 < 65536) (r3 : 0 ≤ u3 ∧ u3 < 65536) (r4 : 0 ≤ u4 ∧ u4 < 65536) (r5 : 0 ≤ u5 ∧ u5 < 65536) (r6 : 0 ≤ u6 ∧ u6 < 65536) (r7 : 0 ≤ u7 ∧ u7 < 65536) (r8 : 0 ≤ u8 ∧ u8 < 65536) (r9 : 0 ≤ u9 ∧ u9 < 65536) (x y i : Int) (hx : 0 ≤ x ∧ x < 10) (hy : 0 ≤ y ∧ y < 10) (hi : 0 ≤ i ∧ i < 4) (l : List S62) (hl : l.length ≤ 100) (k : Nat) : spec_l01Beside.l0 (k + 1) l i w h u0 u1 u2 u3 u4 u5 u6 u7 u8 u9 x y = spec_l01Beside.l0 k (l ++ ([nextR (x, y) i].filter (fun t => freeR w h [u0, u1, u2, u3, u4, u5, u6, u7, u8, u9] t.1 t.2)).map toS) (i + 1) w h u0 u1 u2 u3 u4 u5 u6 u7 u8 u9 x y := by
  have hr := nextR_rng (x, y) i hx hy
  rw [spec_l01Beside.l0, if_pos hi.2, specNext_eq x y i hx hy hi, Option.bind_some]
  generalize nextR (x, y) i = t at hr
  rw [specFree_eq w h u0 u1 u2 u3 u4 u5 u6 u7 u8 u9 iw ih r0 r1 r2 r3 r4 r5 r6 r7 r8 r9 t.1 t.2 hr.1 hr.2, Option.bind_some, wrap64_id (i + 1) (by omega) (by omega)]
  by_cases c : freeR w h [u0, u1, u2, u3, u4, u5, u6, u7, u8, u9] t.1 t.2 = true
  · rw [if_pos c, if_pos (by omega), List.filter_cons_of_pos (p := fun t : Int × Int => freeR w h [u0, u1, u2, u3, u4, u5, u6, u7, u8, u9] t.1 t.2) c]; rfl
  · rw [if_neg c, List.filter_cons_of_neg (p := fun t : Int × Int => freeR w h [u0, u1, u2, u3, u4, u5, u6, u7, u8, u9] t.1 t.2) c, List.filter_nil, List.map_nil, List.append_nil]
theorem specBeside_eq (w h u0 u1 u2 u3 u4 u5 u6 u7 u8 u9 : Int) (iw : 1 ≤ w ∧ w ≤ 10) (ih : 1 ≤ h ∧ h ≤ 10) (r0 : 0 ≤ u0 ∧ u0 < 65536) (r1 : 0 ≤ u1 ∧ u1 < 65536) (r2 : 0 ≤ u2 ∧ u2 < 65536) (r3 : 0 ≤ u3 ∧ u3 < 65536) (r4 : 0 ≤ u4 ∧ u4 < 65536) (r5 : 0 ≤ u5 ∧ u5 < 65536) (r6 : 0 ≤ u6 ∧ u6 < 65536) (r7 : 0 ≤ u7 ∧ u7 < 65536) (r8 : 0 ≤ u8 ∧ u8 < 65536) (r9 : 0 ≤ u9 ∧ u9 < 65536) (x y : Int) (hx : 0 ≤ x ∧ x < 10) (hy : 0 ≤ y ∧ y < 10) (k : Nat) (hk : 5 ≤ k) : spec_l01Beside.f k w h u0 u1 u2 u3 u4 u5 u6 u7 u8 u9 x y = some ((nbR w h [u0, u1, u2, u3, u4, u5, u6, u7, u8, u9] (x, y)).map toS) := by
  obtain ⟨k, rfl⟩ : ∃ m, k = m + 5 := ⟨k - 5, by omega⟩
  have hf : ∀ (t : List (Int × Int)) (p : Int × Int → Bool), ((t.filter p).map toS).length ≤ t.length := fun t p => by rw [List.length_map]; exact List.length_filter_le _ _
  have f0 := hf [nextR (x, y) 0] (fun t => freeR w h [u0, u1, u2, u3, u4, u5, u6, u7, u8, u9] t.1 t.2)
  have f1 := hf [nextR (x, y) 1] (fun t => freeR w h [u0, u1, u2, u3, u4, u5, u6, u7, u8, u9] t.1 t.2)
  have f2 := hf [nextR (x, y) 2] (fun t => freeR w h [u0, u1, u2, u3, u4, u5, u6, u7, u8, u9] t.1 t.2)
  simp only [List.length_singleton] at f0 f1 f2
  unfold spec_l01Beside.f nbR
  rw [specBeside_step w h u0 u1 u2 u3 u4 u5 u6 u7 u8 u9 iw ih r0 r1 r2 r3 r4 r5 r6 r7 r8 r9 x y 0 hx hy (by decide) [] (by simp), show (0 : Int) + 1 = 1 from rfl]
  rw [specBeside_step w h u0 u1 u2 u3 u4 u5 u6 u7 u8 u9 iw ih r0 r1 r2 r3 r4 r5 r6 r7 r8 r9 x y 1 hx hy (by decide) _ (by rw [List.nil_append]; omega), show (1 : Int) + 1 = 2 from rfl]
  rw [specBeside_step w h u0 u1 u2 u3 u4 u5 u6 u7 u8 u9 iw ih r0 r1 r2 r3 r4 r5 r6 r7 r8 r9 x y 2 hx hy (by decide) _ (by rw [List.nil_append, List.length_append]; omega), show (2 : Int) + 1 = 3 from rfl]
  rw [specBeside_step w h u0 u1 u2 u3 u4 u5 u6 u7 u8 u9 iw ih r0 r1 r2 r3 r4 r5 r6 r7 r8 r9 x y 3 hx hy (by decide) _ (by rw [List.nil_append, List.length_append, List.length_append]; omega), show (3 : Int) + 1 = 4 from rfl]
  rw [spec_l01Beside.l0, if_neg (by decide), List.nil_append, ← List.map_append, ← List.map_append, ← List.map_append, ← List.filter_append, ← List.filter_append, ← List.filter_append]
  rfl

theorem nodup_len {α : Type} [DecidableEq α] : ∀ (S T : List α), S.Nodup → (∀ x ∈ S, x ∈ T) → S.length ≤ T.length
  | [], T, _, _ => Nat.zero_le _
  | a :: S, T, h, hs => by
    rw [List.nodup_cons] at h
    have ha := hs a List.mem_cons_self
    have h2 := nodup_len S (T.erase a) h.2 (fun x hx => (List.mem_erase_of_ne (fun e => h.1 (by rw [← e]; exact hx))).2 (hs x (List.mem_cons_of_mem _ hx)))
    rw [List.length_erase_of_mem ha] at h2
    have : 0 < T.length := List.length_pos_of_mem ha
    rw [List.length_cons]
    omega
def gridAll : List (Int × Int) := (List.range 100).map (fun i : Nat => (((i / 10 : Nat) : Int), ((i % 10 : Nat) : Int)))
theorem grid_mem {s : Int × Int} (h : Go.Proofs.Ytooidjdgfoioiaa.H.inG s = true) : s ∈ gridAll := by
  obtain ⟨h1, h2, h3, h4⟩ := Go.Proofs.Ytooidjdgfoioiaa.H.inG_iff.1 h
  refine List.mem_map.2 ⟨s.1.toNat * 10 + s.2.toNat, List.mem_range.2 (by omega), ?_⟩
  obtain ⟨x, y⟩ := s
  dsimp only at h1 h2 h3 h4 ⊢
  rw [Prod.mk.injEq]
  constructor <;> omega
structure BInv (l : List (Int × Int)) (M : Int × Int → Option Int) : Prop where
  nd : l.Nodup
  inl : ∀ s ∈ l, Go.Proofs.Ytooidjdgfoioiaa.H.inG s = true ∧ ∃ d, M s = some d
  mem : ∀ s d, M s = some d → s ∈ l
theorem BInv.len {l : List (Int × Int)} {M : Int × Int → Option Int} (h : BInv l M) : l.length ≤ 100 := by
  have := nodup_len l gridAll h.nd (fun s hs => grid_mem (h.inl s hs).1)
  simpa [gridAll] using this
theorem BInv.put {l : List (Int × Int)} {M : Int × Int → Option Int} (h : BInv l M) {s : Int × Int} (hs : Go.Proofs.Ytooidjdgfoioiaa.H.inG s = true) (hn : M s = none) (d : Int) : BInv (l ++ [s]) (Go.Proofs.Ytooidjdgfoioiaa.H.farPut M s d) := by
  have hsl : s ∉ l := fun x => by obtain ⟨e, he⟩ := (h.inl s x).2; rw [hn] at he; cases he
  refine ⟨?_, ?_, ?_⟩
  · rw [List.nodup_append]
    exact ⟨h.nd, by simp, fun a ha b hb e => hsl (by rw [List.mem_singleton.1 hb] at e; rw [← e]; exact ha)⟩
  · intro t ht
    unfold Go.Proofs.Ytooidjdgfoioiaa.H.farPut
    rcases List.mem_append.1 ht with q | q
    · obtain ⟨a, e, b⟩ := h.inl t q
      refine ⟨a, ?_⟩
      by_cases c : t = s
      · exact ⟨d, by rw [if_pos c]⟩
      · exact ⟨e, by rw [if_neg c]; exact b⟩
    · rw [List.mem_singleton.1 q]
      exact ⟨hs, d, by rw [if_pos rfl]⟩
  · intro t e ht
    unfold Go.Proofs.Ytooidjdgfoioiaa.H.farPut at ht
    by_cases c : t = s
    · rw [c]; simp
    · rw [if_neg c] at ht
      exact List.mem_append_left _ (h.mem t e ht)
theorem BInv.one {a : Int × Int} (ha : Go.Proofs.Ytooidjdgfoioiaa.H.inG a = true) : BInv [a] (Go.Proofs.Ytooidjdgfoioiaa.H.farPut (fun _ => none) a 0) := by
  refine ⟨by simp, fun s hs => ?_, fun s d hs => ?_⟩
  · rw [List.mem_singleton.1 hs]; exact ⟨ha, 0, by unfold Go.Proofs.Ytooidjdgfoioiaa.H.farPut; rw [if_pos rfl]⟩
  · unfold Go.Proofs.Ytooidjdgfoioiaa.H.farPut at hs
    by_cases c : s = a
    · rw [c]; simp
    · rw [if_neg c] at hs; cases hs
theorem bfsIn_some (cur : Int × Int) : ∀ (nx l : List (Int × Int)) (M : Int × Int → Option Int), (∀ s ∈ nx, Go.Proofs.Ytooidjdgfoioiaa.H.inG s = true) → BInv l M → cur ∈ l → ∃ t M', Go.Proofs.Ytooidjdgfoioiaa.H.bfsIn cur nx l M = some (l ++ t, M') ∧ BInv (l ++ t) M'
  | [], l, M, _, h, _ => ⟨[], M, by rw [List.append_nil]; rfl, by rw [List.append_nil]; exact h⟩
  | s :: r, l, M, hn, h, hc => by
    have hs := hn s List.mem_cons_self
    have hr : ∀ t ∈ r, Go.Proofs.Ytooidjdgfoioiaa.H.inG t = true := fun t ht => hn t (List.mem_cons_of_mem _ ht)
    unfold Go.Proofs.Ytooidjdgfoioiaa.H.bfsIn
    rw [if_pos hs]
    cases hM : M s with
    | some d => exact bfsIn_some cur r l M hr h hc
    | none =>
      obtain ⟨d, hd⟩ := (h.inl cur hc).2
      have hl := h.len
      dsimp only
      rw [hd]
      dsimp only
      rw [if_pos (by omega)]
      obtain ⟨t, M', e1, e2⟩ := bfsIn_some cur r (l ++ [s]) _ hr (h.put hs hM (d + 1)) (List.mem_append_left _ hc)
      rw [List.append_assoc] at e1 e2
      exact ⟨[s] ++ t, M', e1, e2⟩
theorem bfs_some (bes : Int × Int → Option (List (Int × Int))) (hb : ∀ s, Go.Proofs.Ytooidjdgfoioiaa.H.inG s = true → ∃ nx, bes s = some nx ∧ ∀ t ∈ nx, Go.Proofs.Ytooidjdgfoioiaa.H.inG t = true) : ∀ (k i : Nat) (l : List (Int × Int)) (M : Int × Int → Option Int), BInv l M → 1 ≤ k → 101 ≤ k + i → ∃ R, Go.Proofs.Ytooidjdgfoioiaa.H.bfs bes k i l M = some R
  | 0, i, l, M, _, h1, _ => absurd h1 (by decide)
  | k + 1, i, l, M, h, _, h2 => by
    unfold Go.Proofs.Ytooidjdgfoioiaa.H.bfs
    by_cases c : i < l.length
    · have hl := h.len
      obtain ⟨nx, e1, e2⟩ := hb l[i] (h.inl _ (List.getElem_mem c)).1
      obtain ⟨t, M', e3, e4⟩ := bfsIn_some l[i] nx l M e2 h (List.getElem_mem c)
      rw [dif_pos c, e1, Option.bind_some, e3, Option.bind_some]
      exact bfs_some bes hb k (i + 1) _ _ e4 (by omega) (by omega)
    · rw [dif_neg c]; exact ⟨M, rfl⟩
theorem bfs_congr (bes bes' : Int × Int → Option (List (Int × Int))) (hb : ∀ s, Go.Proofs.Ytooidjdgfoioiaa.H.inG s = true → bes s = bes' s ∧ ∃ nx, bes' s = some nx ∧ ∀ t ∈ nx, Go.Proofs.Ytooidjdgfoioiaa.H.inG t = true) : ∀ (k i : Nat) (l : List (Int × Int)) (M : Int × Int → Option Int), BInv l M → Go.Proofs.Ytooidjdgfoioiaa.H.bfs bes k i l M = Go.Proofs.Ytooidjdgfoioiaa.H.bfs bes' k i l M
  | 0, i, l, M, _ => rfl
  | k + 1, i, l, M, h => by
    unfold Go.Proofs.Ytooidjdgfoioiaa.H.bfs
    by_cases c : i < l.length
    · obtain ⟨e0, nx, e1, e2⟩ := hb l[i] (h.inl _ (List.getElem_mem c)).1
      obtain ⟨t, M', e3, e4⟩ := bfsIn_some l[i] nx l M e2 h (List.getElem_mem c)
      rw [dif_pos c, dif_pos c, e0, e1, Option.bind_some, Option.bind_some, e3, Option.bind_some, Option.bind_some]
      exact bfs_congr bes bes' hb k (i + 1) _ _ e4
    · rw [dif_neg c, dif_neg c]
theorem nbR_in {w h : Int} {us : List Int} (hw : w ≤ 10) (hh : h ≤ 10) (s : Int × Int) : ∀ t ∈ nbR w h us s, Go.Proofs.Ytooidjdgfoioiaa.H.inG t = true := by
  intro t ht
  have := (List.mem_filter.1 ht).2
  unfold freeR at this
  rw [Bool.and_eq_true] at this
  have := cellR_iff.1 this.1
  exact Go.Proofs.Ytooidjdgfoioiaa.H.inG_iff.2 ⟨by omega, by omega, by omega, by omega⟩
def bfsR (w h : Int) (us : List Int) (a : Int × Int) : Option (Int × Int → Option Int) := Go.Proofs.Ytooidjdgfoioiaa.H.bfs (fun s => some (nbR w h us s)) 101 0 [a] (Go.Proofs.Ytooidjdgfoioiaa.H.farPut (fun _ => none) a 0)
def farR (w h : Int) (us : List Int) (a b : Int × Int) : Int × Int := match bfsR w h us a with
  | some R => (match R b with | some d => ((d, 0) : Int × Int) | none => (0, 6))
  | none => (0, 0)
theorem bfs_far (w h : Int) (us : List Int) (hw : w ≤ 10) (hh : h ≤ 10) (bes : Int × Int → Option (List (Int × Int))) (hb : ∀ s, Go.Proofs.Ytooidjdgfoioiaa.H.inG s = true → bes s = some (nbR w h us s)) (a b : Int × Int) (ha : Go.Proofs.Ytooidjdgfoioiaa.H.inG a = true) (hb2 : Go.Proofs.Ytooidjdgfoioiaa.H.inG b = true) (k : Nat) (hk : 101 ≤ k) :
    ((Go.Proofs.Ytooidjdgfoioiaa.H.bfsFrom bes k a).bind fun R => (if Go.Proofs.Ytooidjdgfoioiaa.H.inG b = true then some (match R b with | some d => ((d, 0) : Int × Int) | none => (0, 6)) else none)) = some (farR w h us a b) := by
  have h1 : Go.Proofs.Ytooidjdgfoioiaa.H.bfs bes k 0 [a] (Go.Proofs.Ytooidjdgfoioiaa.H.farPut (fun _ => none) a 0) = Go.Proofs.Ytooidjdgfoioiaa.H.bfs (fun s => some (nbR w h us s)) k 0 [a] (Go.Proofs.Ytooidjdgfoioiaa.H.farPut (fun _ => none) a 0) := bfs_congr _ _ (fun s hs => ⟨hb s hs, _, rfl, nbR_in hw hh s⟩) k 0 _ _ (BInv.one ha)
  obtain ⟨R, hR⟩ := bfs_some (fun s => some (nbR w h us s)) (fun s hs => ⟨_, rfl, nbR_in hw hh s⟩) 101 0 [a] (Go.Proofs.Ytooidjdgfoioiaa.H.farPut (fun _ => none) a 0) (BInv.one ha) (by decide) (by decide)
  have h2 := Go.Proofs.Ytooidjdgfoioiaa.H.bfs_mono (bes := fun s => some (nbR w h us s)) (fun s r e => e) 101 k hk 0 _ _ R hR
  unfold Go.Proofs.Ytooidjdgfoioiaa.H.bfsFrom farR bfsR
  rw [if_pos ha, h1, h2, Option.bind_some, if_pos hb2, hR]

theorem twoR_iff {w h : Int} {us : List Int} {x y x2 y2 : Int} (e : twoR w h us x y x2 y2 = 0) : okR w h us = true ∧ cellR w h x y = true ∧ cellR w h x2 y2 = true := by
  unfold twoR at e
  by_cases c : okR w h us = true
  · rw [if_pos c] at e
    by_cases d : cellR w h x y = true
    · rw [if_pos d] at e
      by_cases f : cellR w h x2 y2 = true
      · exact ⟨c, d, f⟩
      · rw [if_neg f] at e; exact absurd e (by decide)
    · rw [if_neg d] at e; exact absurd e (by decide)
  · rw [if_neg c] at e; exact absurd e (by decide)
def stepsR (w h : Int) (us : List Int) (x y x2 y2 : Int) : Int × Int := if twoR w h us x y x2 y2 = 0 then farR w h us (x, y) (x2, y2) else (0, twoR w h us x y x2 y2)
theorem cell_in {w h x y : Int} (hw : w ≤ 10) (hh : h ≤ 10) (c : cellR w h x y = true) : Go.Proofs.Ytooidjdgfoioiaa.H.inG (x, y) = true := by
  have := cellR_iff.1 c
  exact Go.Proofs.Ytooidjdgfoioiaa.H.inG_iff.2 ⟨this.1.1, by show x < 10; omega, this.2.1, by show y < 10; omega⟩
theorem spots_back (l : List (Int × Int)) : (l.map toS).map (fun x => (x.f0, x.f1)) = l := by
  rw [List.map_map]; exact (List.map_congr_left (fun x _ => rfl)).trans (List.map_id l)
theorem specBes_eq (w h u0 u1 u2 u3 u4 u5 u6 u7 u8 u9 : Int) (iw : 1 ≤ w ∧ w ≤ 10) (ih : 1 ≤ h ∧ h ≤ 10) (r0 : 0 ≤ u0 ∧ u0 < 65536) (r1 : 0 ≤ u1 ∧ u1 < 65536) (r2 : 0 ≤ u2 ∧ u2 < 65536) (r3 : 0 ≤ u3 ∧ u3 < 65536) (r4 : 0 ≤ u4 ∧ u4 < 65536) (r5 : 0 ≤ u5 ∧ u5 < 65536) (r6 : 0 ≤ u6 ∧ u6 < 65536) (r7 : 0 ≤ u7 ∧ u7 < 65536) (r8 : 0 ≤ u8 ∧ u8 < 65536) (r9 : 0 ≤ u9 ∧ u9 < 65536) (k : Nat) (hk : 5 ≤ k) (s : Int × Int) (hs : Go.Proofs.Ytooidjdgfoioiaa.H.inG s = true) : spec_StepsBetween.bes k w h u0 u1 u2 u3 u4 u5 u6 u7 u8 u9 s = some (nbR w h [u0, u1, u2, u3, u4, u5, u6, u7, u8, u9] s) := by
  obtain ⟨h1, h2, h3, h4⟩ := Go.Proofs.Ytooidjdgfoioiaa.H.inG_iff.1 hs
  unfold spec_StepsBetween.bes
  rw [specBeside_eq w h u0 u1 u2 u3 u4 u5 u6 u7 u8 u9 iw ih r0 r1 r2 r3 r4 r5 r6 r7 r8 r9 s.1 s.2 ⟨h1, h2⟩ ⟨h3, h4⟩ k hk, Option.map_some, spots_back]
theorem specSteps_eq (w h u0 u1 u2 u3 u4 u5 u6 u7 u8 u9 : Int) (iw : -128 ≤ w ∧ w ≤ 127) (ih : -128 ≤ h ∧ h ≤ 127) (r0 : 0 ≤ u0 ∧ u0 < 65536) (r1 : 0 ≤ u1 ∧ u1 < 65536) (r2 : 0 ≤ u2 ∧ u2 < 65536) (r3 : 0 ≤ u3 ∧ u3 < 65536) (r4 : 0 ≤ u4 ∧ u4 < 65536) (r5 : 0 ≤ u5 ∧ u5 < 65536) (r6 : 0 ≤ u6 ∧ u6 < 65536) (r7 : 0 ≤ u7 ∧ u7 < 65536) (r8 : 0 ≤ u8 ∧ u8 < 65536) (r9 : 0 ≤ u9 ∧ u9 < 65536) (x y x2 y2 : Int) (hx : -128 ≤ x ∧ x ≤ 127) (hy : -128 ≤ y ∧ y ≤ 127) (hx2 : -128 ≤ x2 ∧ x2 ≤ 127) (hy2 : -128 ≤ y2 ∧ y2 ≤ 127) (k : Nat) (hk : 110 ≤ k) : spec_StepsBetween.f k w h u0 u1 u2 u3 u4 u5 u6 u7 u8 u9 x y x2 y2 = some (stepsR w h [u0, u1, u2, u3, u4, u5, u6, u7, u8, u9] x y x2 y2) := by
  unfold spec_StepsBetween.f stepsR
  rw [specTwo_eq w h u0 u1 u2 u3 u4 u5 u6 u7 u8 u9 iw ih r0 r1 r2 r3 r4 r5 r6 r7 r8 r9 x y x2 y2 hx hy hx2 hy2 k (by omega), Option.bind_some]
  by_cases e : twoR w h [u0, u1, u2, u3, u4, u5, u6, u7, u8, u9] x y x2 y2 = 0
  · obtain ⟨c, d, f⟩ := twoR_iff e
    have ho := okR_iff c
    rw [if_pos e, if_pos e]
    unfold spec_StepsBetween.far
    exact bfs_far w h [u0, u1, u2, u3, u4, u5, u6, u7, u8, u9] ho.1.2 ho.2.2 _ (specBes_eq w h u0 u1 u2 u3 u4 u5 u6 u7 u8 u9 ho.1 ho.2 r0 r1 r2 r3 r4 r5 r6 r7 r8 r9 k (by omega)) (x, y) (x2, y2) (cell_in ho.1.2 ho.2.2 d) (cell_in ho.1.2 ho.2.2 f) k (by omega)
  · rw [if_neg e, if_neg e]
theorem withinR_eq (a b c : Int) : impl_within.f a b c = some (decide (b ≤ a ∧ a ≤ c)) := by
  unfold impl_within.f
  by_cases h : b ≤ a
  · rw [if_pos h]; simp [h]
  · rw [if_neg h]; simp [h]
theorem rows_eq (w h : Int) (ih : 1 ≤ h ∧ h ≤ 10) : ∀ (l : List Int) (i : Nat), impl_ValidRoom.rows w h i l = rowsR w h (i : Int) l
  | [], i => by unfold impl_ValidRoom.rows rowsR; rfl
  | x :: r, i => by
    unfold impl_ValidRoom.rows rowsR
    rw [rows_eq w h ih r (i + 1), wrap64_id h (by omega) (by omega)]
    rfl
theorem implOk_eq (w h u0 u1 u2 u3 u4 u5 u6 u7 u8 u9 : Int) (iw : -128 ≤ w ∧ w ≤ 127) (ih : -128 ≤ h ∧ h ≤ 127) : impl_ValidRoom.f w h u0 u1 u2 u3 u4 u5 u6 u7 u8 u9 = some (okR w h [u0, u1, u2, u3, u4, u5, u6, u7, u8, u9]) := by
  unfold impl_ValidRoom.f okR
  rw [wrap64_id w (by omega) (by omega), wrap64_id h (by omega) (by omega), withinR_eq, withinR_eq, Option.bind_some, Option.bind_some]
  by_cases cw : 1 ≤ w ∧ w ≤ 10
  · rw [decide_eq_true cw, if_pos rfl, Bool.true_and]
    by_cases ch : 1 ≤ h ∧ h ≤ 10
    · rw [decide_eq_true ch, if_pos rfl, if_pos (by omega), Bool.true_and, rows_eq w h ch]
      rfl
    · rw [decide_eq_false ch, if_neg (by decide), Bool.false_and]
  · rw [decide_eq_false cw, if_neg (by decide), Bool.false_and]
def cellI (w h x y : Int) : Bool := decide (0 ≤ x ∧ x ≤ mn w 10 - 1) && decide (0 ≤ y ∧ y ≤ mn h 10 - 1)
def freeI (w h : Int) (us : List Int) (x y : Int) : Bool := cellI w h x y && (shr .u16 (us.getD y.toNat 0) x % 2 == 0)
theorem mn_le (w : Int) : mn w 10 ≤ 10 ∧ mn w 10 ≤ w ∧ (w ≤ 10 → mn w 10 = w) ∧ (-128 ≤ w → -128 ≤ mn w 10) := by
  unfold mn; split <;> omega
theorem cellI_R (w h x y : Int) (hw : w ≤ 10) (hh : h ≤ 10) : cellI w h x y = cellR w h x y := by
  unfold cellI cellR; rw [(mn_le w).2.2.1 hw, (mn_le h).2.2.1 hh]
theorem freeI_R (w h : Int) (us : List Int) (x y : Int) (hw : w ≤ 10) (hh : h ≤ 10) : freeI w h us x y = freeR w h us x y := by
  unfold freeI freeR; rw [cellI_R w h x y hw hh]
theorem isCell_eq (w h u0 u1 u2 u3 u4 u5 u6 u7 u8 u9 : Int) (iw : -128 ≤ w ∧ w ≤ 127) (ih : -128 ≤ h ∧ h ≤ 127) (x y : Int) (hx : -128 ≤ x ∧ x ≤ 127) (hy : -128 ≤ y ∧ y ≤ 127) : impl_Room_isCell.f w h u0 u1 u2 u3 u4 u5 u6 u7 u8 u9 x y = some (cellI w h x y) := by
  have m1 := mn_le w
  have m2 := mn_le h
  unfold impl_Room_isCell.f cellI
  rw [wrap64_id w (by omega) (by omega), wrap64_id h (by omega) (by omega), wrap64_id x (by omega) (by omega), wrap64_id y (by omega) (by omega), wrap64_id (mn w 10 - 1) (by omega) (by omega), wrap64_id (mn h 10 - 1) (by omega) (by omega), withinR_eq, withinR_eq, Option.bind_some, Option.bind_some]
  by_cases c : 0 ≤ x ∧ x ≤ mn w 10 - 1
  · rw [decide_eq_true c, if_pos rfl, Bool.true_and]
  · rw [decide_eq_false c, if_neg (by decide), Bool.false_and]
theorem isFree_eq (w h u0 u1 u2 u3 u4 u5 u6 u7 u8 u9 : Int) (iw : -128 ≤ w ∧ w ≤ 127) (ih : -128 ≤ h ∧ h ≤ 127) (r0 : 0 ≤ u0 ∧ u0 < 65536) (r1 : 0 ≤ u1 ∧ u1 < 65536) (r2 : 0 ≤ u2 ∧ u2 < 65536) (r3 : 0 ≤ u3 ∧ u3 < 65536) (r4 : 0 ≤ u4 ∧ u4 < 65536) (r5 : 0 ≤ u5 ∧ u5 < 65536) (r6 : 0 ≤ u6 ∧ u6 < 65536) (r7 : 0 ≤ u7 ∧ u7 < 65536) (r8 : 0 ≤ u8 ∧ u8 < 65536) (r9 : 0 ≤ u9 ∧ u9 < 65536) (x y : Int) (hx : -128 ≤ x ∧ x ≤ 127) (hy : -128 ≤ y ∧ y ≤ 127) : impl_Room_isFree.f w h u0 u1 u2 u3 u4 u5 u6 u7 u8 u9 x y = some (freeI w h [u0, u1, u2, u3, u4, u5, u6, u7, u8, u9] x y) := by
  unfold impl_Room_isFree.f freeI
  rw [isCell_eq w h u0 u1 u2 u3 u4 u5 u6 u7 u8 u9 iw ih x y hx hy, Option.bind_some]
  by_cases c : cellI w h x y = true
  · rw [if_pos c, c, Bool.true_and]
    unfold cellI at c
    rw [Bool.and_eq_true, decide_eq_true_eq, decide_eq_true_eq] at c
    have m1 := mn_le w
    have m2 := mn_le h
    exact ifree_at w h u0 u1 u2 u3 u4 u5 u6 u7 u8 u9 r0 r1 r2 r3 r4 r5 r6 r7 r8 r9 x y (by omega) (by omega)
  · rw [if_neg c, Bool.eq_false_iff.2 c, Bool.false_and]
def spotR (s : S62) : Prop := (-128 ≤ s.f0 ∧ s.f0 ≤ 127) ∧ (-128 ≤ s.f1 ∧ s.f1 ≤ 127)
theorem drop_spot (l : List S62) (i : Nat) (h : i < l.length) : l.drop i = rd_T62 l (i : Int) :: l.drop (i + 1) := by
  rw [drop_getD z62 l i h]; simp [rd_T62]
theorem rd_spot_mem (l : List S62) (i : Nat) (h : i < l.length) : rd_T62 l (i : Int) ∈ l := by
  have := drop_spot l i h
  exact List.mem_of_mem_drop (by rw [this]; exact List.mem_cons_self)
theorem cell_l0 (w h u0 u1 u2 u3 u4 u5 u6 u7 u8 u9 : Int) (iw : -128 ≤ w ∧ w ≤ 127) (ih : -128 ≤ h ∧ h ≤ 127) (l : List S62) (hl : l.length ≤ 1048576) (hr : ∀ s ∈ l, spotR s) : ∀ (d i k : Nat), i + d = l.length → d < k → ∃ q : Int, slices_IndexFunc_Spot_at_cellCode_1.l0 k l (l.length : Int) (i : Int) w h u0 u1 u2 u3 u4 u5 u6 u7 u8 u9 = some q ∧ decide (q ≥ 0) = (l.drop i).any (fun s => !cellI w h s.f0 s.f1) := by
  intro d
  induction d with
  | zero =>
    intro i k hi hk
    obtain ⟨k, rfl⟩ : ∃ m, k = m + 1 := ⟨k - 1, by omega⟩
    refine ⟨-1, ?_, ?_⟩
    · rw [slices_IndexFunc_Spot_at_cellCode_1.l0, if_neg (by omega)]
    · rw [List.drop_eq_nil_of_le (by omega)]; rfl
  | succ d ihd =>
    intro i k hi hk
    obtain ⟨k, rfl⟩ : ∃ m, k = m + 1 := ⟨k - 1, by omega⟩
    obtain ⟨q, e1, e2⟩ := ihd (i + 1) k (by omega) (by omega)
    rw [slices_IndexFunc_Spot_at_cellCode_1.l0, if_pos (by omega), if_pos (by omega), if_pos (by omega)]
    unfold impl_cellCode_1.f
    rw [isCell_eq w h u0 u1 u2 u3 u4 u5 u6 u7 u8 u9 iw ih _ _ (hr _ (rd_spot_mem l i (by omega))).1 (hr _ (rd_spot_mem l i (by omega))).2, Option.bind_some, Option.bind_some, drop_spot l i (by omega), wrap_nat i (by omega), List.any_cons]
    generalize rd_T62 l (i : Int) = s
    by_cases c : (!cellI w h s.f0 s.f1) = true
    · exact ⟨(i : Int), by rw [if_pos c], by rw [c, Bool.true_or]; exact decide_eq_true (by omega)⟩
    · exact ⟨q, by rw [if_neg c]; exact e1, by rw [e2, Bool.eq_false_iff.2 c, Bool.false_or]⟩
theorem state_l0 (w h u0 u1 u2 u3 u4 u5 u6 u7 u8 u9 : Int) (iw : -128 ≤ w ∧ w ≤ 127) (ih : -128 ≤ h ∧ h ≤ 127) (r0 : 0 ≤ u0 ∧ u0 < 65536) (r1 : 0 ≤ u1 ∧ u1 < 65536) (r2 : 0 ≤ u2 ∧ u2 < 65536) (r3 : 0 ≤ u3 ∧ u3 < 65536) (r4 : 0 ≤ u4 ∧ u4 < 65536) (r5 : 0 ≤ u5 ∧ u5 < 65536) (r6 : 0 ≤ u6 ∧ u6 < 65536) (r7 : 0 ≤ u7 ∧ u7 < 65536) (r8 : 0 ≤ u8 ∧ u8 < 65536) (r9 : 0 ≤ u9 ∧ u9 < 65536) (l : List S62) (hl : l.length ≤ 1048576) (hr : ∀ s ∈ l, spotR s) : ∀ (d i k : Nat), i + d = l.length → d < k → ∃ q : Int, slices_IndexFunc_Spot_at_stateCode_1.l0 k l (l.length : Int) (i : Int) w h u0 u1 u2 u3 u4 u5 u6 u7 u8 u9 = some q ∧ decide (q ≥ 0) = (l.drop i).any (fun s => !freeI w h [u0, u1, u2, u3, u4, u5, u6, u7, u8, u9] s.f0 s.f1) := by
  intro d
  induction d with
  | zero =>
    intro i k hi hk
    obtain ⟨k, rfl⟩ : ∃ m, k = m + 1 := ⟨k - 1, by omega⟩
    refine ⟨-1, ?_, ?_⟩
    · rw [slices_IndexFunc_Spot_at_stateCode_1.l0, if_neg (by omega)]
    · rw [List.drop_eq_nil_of_le (by omega)]; rfl
  | succ d ihd =>
    intro i k hi hk
    obtain ⟨k, rfl⟩ : ∃ m, k = m + 1 := ⟨k - 1, by omega⟩
    obtain ⟨q, e1, e2⟩ := ihd (i + 1) k (by omega) (by omega)
    rw [slices_IndexFunc_Spot_at_stateCode_1.l0, if_pos (by omega), if_pos (by omega), if_pos (by omega)]
    unfold impl_stateCode_1.f
    rw [isFree_eq w h u0 u1 u2 u3 u4 u5 u6 u7 u8 u9 iw ih r0 r1 r2 r3 r4 r5 r6 r7 r8 r9 _ _ (hr _ (rd_spot_mem l i (by omega))).1 (hr _ (rd_spot_mem l i (by omega))).2, Option.bind_some, Option.bind_some, drop_spot l i (by omega), wrap_nat i (by omega), List.any_cons]
    generalize rd_T62 l (i : Int) = s
    by_cases c : (!freeI w h [u0, u1, u2, u3, u4, u5, u6, u7, u8, u9] s.f0 s.f1) = true
    · exact ⟨(i : Int), by rw [if_pos c], by rw [c, Bool.true_or]; exact decide_eq_true (by omega)⟩
    · exact ⟨q, by rw [if_neg c]; exact e1, by rw [e2, Bool.eq_false_iff.2 c, Bool.false_or]⟩
theorem unless_eq (a : Bool) (b : Int) : impl_unless.f a b = some (if a = true then 0 else b) := by unfold impl_unless.f; split <;> rfl
theorem cellCode_eq (w h u0 u1 u2 u3 u4 u5 u6 u7 u8 u9 : Int) (iw : -128 ≤ w ∧ w ≤ 127) (ih : -128 ≤ h ∧ h ≤ 127) (l : List S62) (hl : l.length ≤ 1048576) (hr : ∀ s ∈ l, spotR s) (k : Nat) (hk : l.length < k) : impl_cellCode.f k w h u0 u1 u2 u3 u4 u5 u6 u7 u8 u9 l = some (if okR w h [u0, u1, u2, u3, u4, u5, u6, u7, u8, u9] = true then (if l.any (fun s => !cellI w h s.f0 s.f1) = true then 2 else 0) else 1) := by
  unfold impl_cellCode.f slices_ContainsFunc_Spot_at_cellCode_1.f slices_IndexFunc_Spot_at_cellCode_1.f
  rw [implOk_eq w h u0 u1 u2 u3 u4 u5 u6 u7 u8 u9 iw ih, Option.bind_some]
  obtain ⟨q, e1, e2⟩ := cell_l0 w h u0 u1 u2 u3 u4 u5 u6 u7 u8 u9 iw ih l hl hr l.length 0 k (by omega) hk
  rw [show ((0 : Nat) : Int) = 0 from rfl] at e1
  rw [List.drop_zero] at e2
  by_cases c : okR w h [u0, u1, u2, u3, u4, u5, u6, u7, u8, u9] = true
  · rw [if_pos c, if_pos c, e1, Option.bind_some, Option.bind_some, unless_eq, Option.bind_some, e2]
    cases (l.any (fun s => !cellI w h s.f0 s.f1)) <;> rfl
  · rw [if_neg c, if_neg c]
theorem stateCode_eq (w h u0 u1 u2 u3 u4 u5 u6 u7 u8 u9 : Int) (iw : -128 ≤ w ∧ w ≤ 127) (ih : -128 ≤ h ∧ h ≤ 127) (r0 : 0 ≤ u0 ∧ u0 < 65536) (r1 : 0 ≤ u1 ∧ u1 < 65536) (r2 : 0 ≤ u2 ∧ u2 < 65536) (r3 : 0 ≤ u3 ∧ u3 < 65536) (r4 : 0 ≤ u4 ∧ u4 < 65536) (r5 : 0 ≤ u5 ∧ u5 < 65536) (r6 : 0 ≤ u6 ∧ u6 < 65536) (r7 : 0 ≤ u7 ∧ u7 < 65536) (r8 : 0 ≤ u8 ∧ u8 < 65536) (r9 : 0 ≤ u9 ∧ u9 < 65536) (l : List S62) (hl : l.length ≤ 1048576) (hr : ∀ s ∈ l, spotR s) (k : Nat) (hk : l.length < k) : impl_stateCode.f k w h u0 u1 u2 u3 u4 u5 u6 u7 u8 u9 l = some (if l.any (fun s => !freeI w h [u0, u1, u2, u3, u4, u5, u6, u7, u8, u9] s.f0 s.f1) = true then 4 else 0) := by
  unfold impl_stateCode.f slices_ContainsFunc_Spot_at_stateCode_1.f slices_IndexFunc_Spot_at_stateCode_1.f
  obtain ⟨q, e1, e2⟩ := state_l0 w h u0 u1 u2 u3 u4 u5 u6 u7 u8 u9 iw ih r0 r1 r2 r3 r4 r5 r6 r7 r8 r9 l hl hr l.length 0 k (by omega) hk
  rw [show ((0 : Nat) : Int) = 0 from rfl] at e1
  rw [List.drop_zero] at e2
  rw [e1, Option.bind_some, Option.bind_some, unless_eq, Option.bind_some, e2]
  cases (l.any (fun s => !freeI w h [u0, u1, u2, u3, u4, u5, u6, u7, u8, u9] s.f0 s.f1)) <;> rfl
theorem firstOf_eq (a b : Int) (k : Nat) (hk : 3 ≤ k) : impl_firstOf.f k [a, b] = some (if a = 0 then b else a) := by
  obtain ⟨k, rfl⟩ : ∃ m, k = m + 3 := ⟨k - 3, by omega⟩
  unfold impl_firstOf.f
  have hl : (([a, b] : List Int).length : Int) = 2 := rfl
  rw [hl, impl_firstOf.l0, if_pos (by decide), if_pos (by decide), if_pos (by rw [hl]; decide), show rd [a, b] 0 = a from rfl]
  by_cases c : a = 0
  · rw [if_pos c, if_pos c, wrap64_id (0 + 1) (by decide) (by decide), impl_firstOf.l0, if_pos (by decide), if_pos (by decide), if_pos (by rw [hl]; decide), show rd [a, b] (0 + 1) = b from rfl]
    by_cases d : b = 0
    · rw [if_pos d, wrap64_id (0 + 1 + 1) (by decide) (by decide), impl_firstOf.l0, if_neg (by decide), d]
    · rw [if_neg d]
  · rw [if_neg c, if_neg c]
theorem implNext_eq (x y i : Int) (hx : 0 ≤ x ∧ x < 10) (hy : 0 ≤ y ∧ y < 10) (hi : 0 ≤ i ∧ i < 4) : impl_NextSpot.f x y i = some (nextR (x, y) i) := by
  unfold impl_NextSpot.f nextR
  rw [wrap_i8 (y - 1) (by omega) (by omega), wrap_i8 (x + 1) (by omega) (by omega), wrap_i8 (y + 1) (by omega) (by omega), wrap_i8 (x - 1) (by omega) (by omega)]
  have hc : i = 0 ∨ i = 1 ∨ i = 2 ∨ i = 3 := by omega
  rcases hc with rfl | rfl | rfl | rfl <;> rfl
theorem implBeside_step (w h u0 u1 u2 u3 u4 u5 u6 u7 u8 u9 : Int) (iw : 1 ≤ w ∧ w ≤ 10) (ih : 1 ≤ h ∧ h ≤ 10) (r0 : 0 ≤ u0 ∧ u0 < 65536) (r1 : 0 ≤ u1 ∧ u1 < 65536) (r2 : 0 ≤ u2 ∧ u2 < 65536) (r3 : 0 ≤ u3 ∧ u3 < 65536) (r4 : 0 ≤ u4 ∧ u4 < 65536) (r5 : 0 ≤ u5 ∧ u5 < 65536) (r6 : 0 ≤ u6 ∧ u6 < 65536) (r7 : 0 ≤ u7 ∧ u7 < 65536) (r8 : 0 ≤ u8 ∧ u8 < 65536) (r9 : 0 ≤ u9 ∧ u9 < 65536) (x y i : Int) (hx : 0 ≤ x ∧ x < 10) (hy : 0 ≤ y ∧ y < 10) (hi : 0 ≤ i ∧ i < 4) (l : List S62) (hl : l.length ≤ 100) (k : Nat) : impl_Room_beside.l0 (k + 1) l i w h u0 u1 u2 u3 u4 u5 u6 u7 u8 u9 x y = impl_Room_beside.l0 k (l ++ ([nextR (x, y) i].filter (fun t => freeR w h [u0, u1, u2, u3, u4, u5, u6, u7, u8, u9] t.1 t.2)).map toS) (i + 1) w h u0 u1 u2 u3 u4 u5 u6 u7 u8 u9 x y := by
  have hr := nextR_rng (x, y) i hx hy
  rw [impl_Room_beside.l0, if_pos hi.2, implNext_eq x y i hx hy hi, Option.bind_some]
  generalize nextR (x, y) i = t at hr
  rw [isFree_eq w h u0 u1 u2 u3 u4 u5 u6 u7 u8 u9 (by omega) (by omega) r0 r1 r2 r3 r4 r5 r6 r7 r8 r9 t.1 t.2 hr.1 hr.2, Option.bind_some, wrap64_id (i + 1) (by omega) (by omega), freeI_R w h _ _ _ iw.2 ih.2]
  by_cases c : freeR w h [u0, u1, u2, u3, u4, u5, u6, u7, u8, u9] t.1 t.2 = true
  · rw [if_pos c, if_pos (by omega), List.filter_cons_of_pos (p := fun t : Int × Int => freeR w h [u0, u1, u2, u3, u4, u5, u6, u7, u8, u9] t.1 t.2) c]; rfl
  · rw [if_neg c, List.filter_cons_of_neg (p := fun t : Int × Int => freeR w h [u0, u1, u2, u3, u4, u5, u6, u7, u8, u9] t.1 t.2) c, List.filter_nil, List.map_nil, List.append_nil]
theorem implBeside_eq (w h u0 u1 u2 u3 u4 u5 u6 u7 u8 u9 : Int) (iw : 1 ≤ w ∧ w ≤ 10) (ih : 1 ≤ h ∧ h ≤ 10) (r0 : 0 ≤ u0 ∧ u0 < 65536) (r1 : 0 ≤ u1 ∧ u1 < 65536) (r2 : 0 ≤ u2 ∧ u2 < 65536) (r3 : 0 ≤ u3 ∧ u3 < 65536) (r4 : 0 ≤ u4 ∧ u4 < 65536) (r5 : 0 ≤ u5 ∧ u5 < 65536) (r6 : 0 ≤ u6 ∧ u6 < 65536) (r7 : 0 ≤ u7 ∧ u7 < 65536) (r8 : 0 ≤ u8 ∧ u8 < 65536) (r9 : 0 ≤ u9 ∧ u9 < 65536) (x y : Int) (hx : 0 ≤ x ∧ x < 10) (hy : 0 ≤ y ∧ y < 10) (k : Nat) (hk : 5 ≤ k) : impl_Room_beside.f k w h u0 u1 u2 u3 u4 u5 u6 u7 u8 u9 x y = some ((nbR w h [u0, u1, u2, u3, u4, u5, u6, u7, u8, u9] (x, y)).map toS) := by
  obtain ⟨k, rfl⟩ : ∃ m, k = m + 5 := ⟨k - 5, by omega⟩
  have hf : ∀ (t : List (Int × Int)) (p : Int × Int → Bool), ((t.filter p).map toS).length ≤ t.length := fun t p => by rw [List.length_map]; exact List.length_filter_le _ _
  have f0 := hf [nextR (x, y) 0] (fun t => freeR w h [u0, u1, u2, u3, u4, u5, u6, u7, u8, u9] t.1 t.2)
  have f1 := hf [nextR (x, y) 1] (fun t => freeR w h [u0, u1, u2, u3, u4, u5, u6, u7, u8, u9] t.1 t.2)
  have f2 := hf [nextR (x, y) 2] (fun t => freeR w h [u0, u1, u2, u3, u4, u5, u6, u7, u8, u9] t.1 t.2)
  simp only [List.length_singleton] at f0 f1 f2
  unfold impl_Room_beside.f nbR
  rw [implBeside_step w h u0 u1 u2 u3 u4 u5 u6 u7 u8 u9 iw ih r0 r1 r2 r3 r4 r5 r6 r7 r8 r9 x y 0 hx hy (by decide) [] (by simp), show (0 : Int) + 1 = 1 from rfl]
  rw [implBeside_step w h u0 u1 u2 u3 u4 u5 u6 u7 u8 u9 iw ih r0 r1 r2 r3 r4 r5 r6 r7 r8 r9 x y 1 hx hy (by decide) _ (by rw [List.nil_append]; omega), show (1 : Int) + 1 = 2 from rfl]
  rw [implBeside_step w h u0 u1 u2 u3 u4 u5 u6 u7 u8 u9 iw ih r0 r1 r2 r3 r4 r5 r6 r7 r8 r9 x y 2 hx hy (by decide) _ (by rw [List.nil_append, List.length_append]; omega), show (2 : Int) + 1 = 3 from rfl]
  rw [implBeside_step w h u0 u1 u2 u3 u4 u5 u6 u7 u8 u9 iw ih r0 r1 r2 r3 r4 r5 r6 r7 r8 r9 x y 3 hx hy (by decide) _ (by rw [List.nil_append, List.length_append, List.length_append]; omega), show (3 : Int) + 1 = 4 from rfl]
  rw [impl_Room_beside.l0, if_neg (by decide), List.nil_append, ← List.map_append, ← List.map_append, ← List.map_append, ← List.filter_append, ← List.filter_append, ← List.filter_append]
  rfl
theorem implBes_eq (w h u0 u1 u2 u3 u4 u5 u6 u7 u8 u9 : Int) (iw : 1 ≤ w ∧ w ≤ 10) (ih : 1 ≤ h ∧ h ≤ 10) (r0 : 0 ≤ u0 ∧ u0 < 65536) (r1 : 0 ≤ u1 ∧ u1 < 65536) (r2 : 0 ≤ u2 ∧ u2 < 65536) (r3 : 0 ≤ u3 ∧ u3 < 65536) (r4 : 0 ≤ u4 ∧ u4 < 65536) (r5 : 0 ≤ u5 ∧ u5 < 65536) (r6 : 0 ≤ u6 ∧ u6 < 65536) (r7 : 0 ≤ u7 ∧ u7 < 65536) (r8 : 0 ≤ u8 ∧ u8 < 65536) (r9 : 0 ≤ u9 ∧ u9 < 65536) (k : Nat) (hk : 5 ≤ k) (s : Int × Int) (hs : Go.Proofs.Ytooidjdgfoioiaa.H.inG s = true) : impl_StepsBetween.bes k w h u0 u1 u2 u3 u4 u5 u6 u7 u8 u9 s = some (nbR w h [u0, u1, u2, u3, u4, u5, u6, u7, u8, u9] s) := by
  obtain ⟨h1, h2, h3, h4⟩ := Go.Proofs.Ytooidjdgfoioiaa.H.inG_iff.1 hs
  unfold impl_StepsBetween.bes
  rw [implBeside_eq w h u0 u1 u2 u3 u4 u5 u6 u7 u8 u9 iw ih r0 r1 r2 r3 r4 r5 r6 r7 r8 r9 s.1 s.2 ⟨h1, h2⟩ ⟨h3, h4⟩ k hk, Option.map_some, spots_back]
theorem implSteps_eq (w h u0 u1 u2 u3 u4 u5 u6 u7 u8 u9 : Int) (iw : -128 ≤ w ∧ w ≤ 127) (ih : -128 ≤ h ∧ h ≤ 127) (r0 : 0 ≤ u0 ∧ u0 < 65536) (r1 : 0 ≤ u1 ∧ u1 < 65536) (r2 : 0 ≤ u2 ∧ u2 < 65536) (r3 : 0 ≤ u3 ∧ u3 < 65536) (r4 : 0 ≤ u4 ∧ u4 < 65536) (r5 : 0 ≤ u5 ∧ u5 < 65536) (r6 : 0 ≤ u6 ∧ u6 < 65536) (r7 : 0 ≤ u7 ∧ u7 < 65536) (r8 : 0 ≤ u8 ∧ u8 < 65536) (r9 : 0 ≤ u9 ∧ u9 < 65536) (x y x2 y2 : Int) (hx : -128 ≤ x ∧ x ≤ 127) (hy : -128 ≤ y ∧ y ≤ 127) (hx2 : -128 ≤ x2 ∧ x2 ≤ 127) (hy2 : -128 ≤ y2 ∧ y2 ≤ 127) (k : Nat) (hk : 110 ≤ k) : impl_StepsBetween.f k w h u0 u1 u2 u3 u4 u5 u6 u7 u8 u9 x y x2 y2 = some (stepsR w h [u0, u1, u2, u3, u4, u5, u6, u7, u8, u9] x y x2 y2) := by
  have hr : ∀ s ∈ ([⟨x, y⟩, ⟨x2, y2⟩] : List S62), spotR s := fun s hs => by
    rcases List.mem_cons.1 hs with q | q
    · rw [q]; exact ⟨hx, hy⟩
    · rw [List.mem_singleton.1 q]; exact ⟨hx2, hy2⟩
  unfold impl_StepsBetween.f stepsR
  rw [cellCode_eq w h u0 u1 u2 u3 u4 u5 u6 u7 u8 u9 iw ih _ (by simp) hr k (by simp; omega), Option.bind_some, stateCode_eq w h u0 u1 u2 u3 u4 u5 u6 u7 u8 u9 iw ih r0 r1 r2 r3 r4 r5 r6 r7 r8 r9 _ (by simp) hr k (by simp; omega), Option.bind_some, firstOf_eq _ _ k (by omega), Option.bind_some]
  have key : (if (if okR w h [u0, u1, u2, u3, u4, u5, u6, u7, u8, u9] = true then (if ([⟨x, y⟩, ⟨x2, y2⟩] : List S62).any (fun s => !cellI w h s.f0 s.f1) = true then (2 : Int) else 0) else 1) = 0 then (if ([⟨x, y⟩, ⟨x2, y2⟩] : List S62).any (fun s => !freeI w h [u0, u1, u2, u3, u4, u5, u6, u7, u8, u9] s.f0 s.f1) = true then (4 : Int) else 0) else (if okR w h [u0, u1, u2, u3, u4, u5, u6, u7, u8, u9] = true then (if ([⟨x, y⟩, ⟨x2, y2⟩] : List S62).any (fun s => !cellI w h s.f0 s.f1) = true then (2 : Int) else 0) else 1)) = twoR w h [u0, u1, u2, u3, u4, u5, u6, u7, u8, u9] x y x2 y2 := by
    unfold twoR
    simp only [List.any_cons, List.any_nil, Bool.or_false]
    by_cases c : okR w h [u0, u1, u2, u3, u4, u5, u6, u7, u8, u9] = true
    · have ho := okR_iff c
      rw [cellI_R w h x y ho.1.2 ho.2.2, cellI_R w h x2 y2 ho.1.2 ho.2.2, freeI_R w h _ x y ho.1.2 ho.2.2, freeI_R w h _ x2 y2 ho.1.2 ho.2.2, if_pos c, if_pos c]
      cases cellR w h x y <;> cases cellR w h x2 y2 <;> cases freeR w h [u0, u1, u2, u3, u4, u5, u6, u7, u8, u9] x y <;> cases freeR w h [u0, u1, u2, u3, u4, u5, u6, u7, u8, u9] x2 y2 <;> rfl
    · rw [if_neg c, if_neg c]; rfl
  rw [key]
  by_cases e : twoR w h [u0, u1, u2, u3, u4, u5, u6, u7, u8, u9] x y x2 y2 = 0
  · obtain ⟨c, d, f⟩ := twoR_iff e
    have ho := okR_iff c
    rw [if_pos e, if_pos e]
    unfold impl_StepsBetween.far
    exact bfs_far w h [u0, u1, u2, u3, u4, u5, u6, u7, u8, u9] ho.1.2 ho.2.2 _ (implBes_eq w h u0 u1 u2 u3 u4 u5 u6 u7 u8 u9 ho.1 ho.2 r0 r1 r2 r3 r4 r5 r6 r7 r8 r9 k (by omega)) (x, y) (x2, y2) (cell_in ho.1.2 ho.2.2 d) (cell_in ho.1.2 ho.2.2 f) k (by omega)
  · rw [if_neg e, if_neg e]
theorem specCells_l0 (w h u0 u1 u2 u3 u4 u5 u6 u7 u8 u9 : Int) (iw : -128 ≤ w ∧ w ≤ 127) (ih : -128 ≤ h ∧ h ≤ 127) (l : List S62) (hl : l.length ≤ 1048576) (hr : ∀ s ∈ l, spotR s) : ∀ (d i k : Nat), i + d = l.length → d < k → spec_l03Cells.l0 k l (i : Int) w h u0 u1 u2 u3 u4 u5 u6 u7 u8 u9 = some ((l.drop i).all (fun s => cellR w h s.f0 s.f1)) := by
  intro d
  induction d with
  | zero =>
    intro i k hi hk
    obtain ⟨k, rfl⟩ : ∃ m, k = m + 1 := ⟨k - 1, by omega⟩
    rw [spec_l03Cells.l0, if_neg (by omega), List.drop_eq_nil_of_le (by omega)]; rfl
  | succ d ihd =>
    intro i k hi hk
    obtain ⟨k, rfl⟩ : ∃ m, k = m + 1 := ⟨k - 1, by omega⟩
    rw [spec_l03Cells.l0, if_pos (by omega), if_pos (by omega), specIs_eq w h u0 u1 u2 u3 u4 u5 u6 u7 u8 u9 iw ih _ _ (hr _ (rd_spot_mem l i (by omega))).1 (hr _ (rd_spot_mem l i (by omega))).2, Option.bind_some, drop_spot l i (by omega), wrap_nat i (by omega), List.all_cons]
    by_cases c : cellR w h (rd_T62 l (i : Int)).f0 (rd_T62 l (i : Int)).f1 = true
    · rw [if_pos c, c, Bool.true_and]; exact ihd (i + 1) k (by omega) (by omega)
    · rw [if_neg c, Bool.eq_false_iff.2 c, Bool.false_and]
theorem specCells_eq (w h u0 u1 u2 u3 u4 u5 u6 u7 u8 u9 : Int) (iw : -128 ≤ w ∧ w ≤ 127) (ih : -128 ≤ h ∧ h ≤ 127) (l : List S62) (hl : l.length ≤ 1048576) (hr : ∀ s ∈ l, spotR s) (k : Nat) (hk : l.length < k) : spec_l03Cells.f k w h u0 u1 u2 u3 u4 u5 u6 u7 u8 u9 l = some (l.all (fun s => cellR w h s.f0 s.f1)) := by
  unfold spec_l03Cells.f
  have := specCells_l0 w h u0 u1 u2 u3 u4 u5 u6 u7 u8 u9 iw ih l hl hr l.length 0 k (by omega) hk
  rwa [List.drop_zero] at this
theorem any_all (w h : Int) (hw : w ≤ 10) (hh : h ≤ 10) (l : List S62) : l.any (fun s => !cellI w h s.f0 s.f1) = !(l.all (fun s => cellR w h s.f0 s.f1)) := by
  induction l with
  | nil => rfl
  | cons s r ih => rw [List.any_cons, List.all_cons, ih, cellI_R w h _ _ hw hh, Bool.not_and]

instance decSpot : DecidableEq S62 := fun x y =>
  if h : x.f0 = y.f0 ∧ x.f1 = y.f1 then isTrue (by obtain ⟨a, b⟩ := x; obtain ⟨a', b'⟩ := y; simp only at h; rw [h.1, h.2]) else isFalse (fun e => h (by rw [e]; exact ⟨rfl, rfl⟩))
def codeF (st : Nat → Int × Int) : Nat → Nat → Int
  | 0, _ => 0
  | d + 1, i => if (st i).2 = 0 then codeF st d (i + 1) else (st i).2
def distF (st : Nat → Int × Int) : Nat → Nat → List Int
  | 0, _ => []
  | d + 1, i => (st i).1 :: distF st d (i + 1)
theorem distF_len (st : Nat → Int × Int) : ∀ d i, (distF st d i).length = d
  | 0, _ => rfl
  | d + 1, i => by unfold distF; rw [List.length_cons, distF_len st d (i + 1)]
def stR (w h : Int) (us : List Int) (l : List S62) (i : Nat) : Int × Int := stepsR w h us (rd_T62 l ((i - 1 : Nat) : Int)).f0 (rd_T62 l ((i - 1 : Nat) : Int)).f1 (rd_T62 l (i : Int)).f0 (rd_T62 l (i : Int)).f1
theorem implAlong_l0 (w h u0 u1 u2 u3 u4 u5 u6 u7 u8 u9 : Int) (iw : -128 ≤ w ∧ w ≤ 127) (ih : -128 ≤ h ∧ h ≤ 127) (r0 : 0 ≤ u0 ∧ u0 < 65536) (r1 : 0 ≤ u1 ∧ u1 < 65536) (r2 : 0 ≤ u2 ∧ u2 < 65536) (r3 : 0 ≤ u3 ∧ u3 < 65536) (r4 : 0 ≤ u4 ∧ u4 < 65536) (r5 : 0 ≤ u5 ∧ u5 < 65536) (r6 : 0 ≤ u6 ∧ u6 < 65536) (r7 : 0 ≤ u7 ∧ u7 < 65536) (r8 : 0 ≤ u8 ∧ u8 < 65536) (r9 : 0 ≤ u9 ∧ u9 < 65536) (l : List S62) (hl : l.length ≤ 1048576) (hr : ∀ s ∈ l, spotR s) : ∀ (d i k : Nat) (acc : List Int), i + d = l.length → 1 ≤ i → d + 120 < k → acc.length + d ≤ 1048576 → impl_stepsAlong.l0 k l acc (i : Int) w h u0 u1 u2 u3 u4 u5 u6 u7 u8 u9 = some (if codeF (stR w h [u0, u1, u2, u3, u4, u5, u6, u7, u8, u9] l) d i = 0 then (acc ++ distF (stR w h [u0, u1, u2, u3, u4, u5, u6, u7, u8, u9] l) d i, 0) else ([], codeF (stR w h [u0, u1, u2, u3, u4, u5, u6, u7, u8, u9] l) d i)) := by
  intro d
  induction d with
  | zero =>
    intro i k acc hi h1 hk ha
    obtain ⟨k, rfl⟩ : ∃ m, k = m + 1 := ⟨k - 1, by omega⟩
    rw [impl_stepsAlong.l0, if_neg (by omega)]
    unfold codeF distF
    rw [if_pos rfl, List.append_nil]
  | succ d ihd =>
    intro i k acc hi h1 hk ha
    obtain ⟨k, rfl⟩ : ∃ m, k = m + 1 := ⟨k - 1, by omega⟩
    have e : wrap64 ((i : Int) - 1) = ((i - 1 : Nat) : Int) := by rw [wrap64_id _ (by omega) (by omega)]; omega
    have m1 := hr _ (rd_spot_mem l (i - 1) (by omega))
    have m2 := hr _ (rd_spot_mem l i (by omega))
    rw [impl_stepsAlong.l0, e, if_pos (by omega), if_pos (by omega), if_pos (by omega), if_pos (by omega), implSteps_eq w h u0 u1 u2 u3 u4 u5 u6 u7 u8 u9 iw ih r0 r1 r2 r3 r4 r5 r6 r7 r8 r9 _ _ _ _ m1.1 m1.2 m2.1 m2.2 k (by omega), Option.bind_some]
    have hst : stepsR w h [u0, u1, u2, u3, u4, u5, u6, u7, u8, u9] (rd_T62 l ((i - 1 : Nat) : Int)).f0 (rd_T62 l ((i - 1 : Nat) : Int)).f1 (rd_T62 l (i : Int)).f0 (rd_T62 l (i : Int)).f1 = stR w h [u0, u1, u2, u3, u4, u5, u6, u7, u8, u9] l i := rfl
    rw [hst]
    unfold codeF distF
    by_cases c : (stR w h [u0, u1, u2, u3, u4, u5, u6, u7, u8, u9] l i).2 = 0
    · rw [if_pos c, if_pos c, if_pos (by omega), wrap_nat i (by omega), ihd (i + 1) k (acc ++ [(stR w h [u0, u1, u2, u3, u4, u5, u6, u7, u8, u9] l i).1]) (by omega) (by omega) (by omega) (by rw [List.length_append, List.length_singleton]; omega), List.append_assoc]
      rfl
    · rw [if_neg c, if_neg c, if_neg c]
theorem implAlong_eq (w h u0 u1 u2 u3 u4 u5 u6 u7 u8 u9 : Int) (iw : -128 ≤ w ∧ w ≤ 127) (ih : -128 ≤ h ∧ h ≤ 127) (r0 : 0 ≤ u0 ∧ u0 < 65536) (r1 : 0 ≤ u1 ∧ u1 < 65536) (r2 : 0 ≤ u2 ∧ u2 < 65536) (r3 : 0 ≤ u3 ∧ u3 < 65536) (r4 : 0 ≤ u4 ∧ u4 < 65536) (r5 : 0 ≤ u5 ∧ u5 < 65536) (r6 : 0 ≤ u6 ∧ u6 < 65536) (r7 : 0 ≤ u7 ∧ u7 < 65536) (r8 : 0 ≤ u8 ∧ u8 < 65536) (r9 : 0 ≤ u9 ∧ u9 < 65536) (l : List S62) (hl : l.length ≤ 1048576) (hr : ∀ s ∈ l, spotR s) (k : Nat) (hk : l.length + 120 < k) : impl_stepsAlong.f k w h u0 u1 u2 u3 u4 u5 u6 u7 u8 u9 l = some (if codeF (stR w h [u0, u1, u2, u3, u4, u5, u6, u7, u8, u9] l) (l.length - 1) 1 = 0 then (distF (stR w h [u0, u1, u2, u3, u4, u5, u6, u7, u8, u9] l) (l.length - 1) 1, 0) else ([], codeF (stR w h [u0, u1, u2, u3, u4, u5, u6, u7, u8, u9] l) (l.length - 1) 1)) := by
  unfold impl_stepsAlong.f
  by_cases c : l.length = 0
  · obtain ⟨k, rfl⟩ : ∃ m, k = m + 1 := ⟨k - 1, by omega⟩
    rw [impl_stepsAlong.l0, if_neg (by omega), c]
    rfl
  · have := implAlong_l0 w h u0 u1 u2 u3 u4 u5 u6 u7 u8 u9 iw ih r0 r1 r2 r3 r4 r5 r6 r7 r8 r9 l hl hr (l.length - 1) 1 k [] (by omega) (Nat.le_refl _) (by omega) (by simp; omega)
    rwa [List.nil_append] at this

theorem in_eq (a b c : Int) : spec_l00In.f a b c = some (decide (b ≤ a ∧ a ≤ c)) := by
  unfold spec_l00In.f
  by_cases h : b ≤ a
  · rw [if_pos (by omega)]; simp [h]
  · rw [if_neg (by omega)]; simp [h]
theorem within_eq (a b c : Int) : impl_within.f a b c = some (decide (b ≤ a ∧ a ≤ c)) := by
  unfold impl_within.f
  by_cases h : b ≤ a
  · rw [if_pos (by omega)]; simp [h]
  · rw [if_neg (by omega)]; simp [h]
def srcOk (c : List Int) : Prop := c.length ≤ 4096 ∧ ∀ x ∈ c, 0 ≤ x ∧ x ≤ 255
theorem and64_255 (x : Int) (h0 : 0 ≤ x) (h1 : x < 18446744073709551616) : Go.bits .and .u64 x 255 = x % 256 := by
  have := Go.bits_mask .u64 64 (by decide) (fun n a b => wrap_u64_id n a (by simpa using b)) 8 (by decide) x h0 (by omega)
  simpa using this
theorem wrap_u64_range (x : Int) : 0 ≤ IntKind.u64.wrap x ∧ IntKind.u64.wrap x < 18446744073709551616 := by
  rw [wrap_u64]
  omega
theorem next_eq (c : List Int) (hc : srcOk c) (a s : Int) (ha : 0 ≤ a ∧ a ≤ 1000000) : ∃ v s', spec_l00Src_next.f c a s = some (v, a + 1, s') ∧ 0 ≤ v ∧ v ≤ 255 := by
  have hw : wrap64 (a + 1) = a + 1 := wrap64_id _ (by omega) (by omega)
  have hb : ∀ X : Int, 0 ≤ wrap64 (Go.bits .and .u64 (IntKind.u64.wrap X / 1099511627776) 255) ∧ wrap64 (Go.bits .and .u64 (IntKind.u64.wrap X / 1099511627776) 255) ≤ 255 := by
    intro X
    have h := wrap_u64_range X
    rw [and64_255 _ (by omega) (by omega), wrap64_id _ (by omega) (by omega)]
    omega
  unfold spec_l00Src_next.f
  rw [hw]
  by_cases h1 : a < (c.length : Int)
  · rw [if_pos h1, if_pos ha.1]
    have hr : 0 ≤ rd c a ∧ rd c a ≤ 255 := by
      obtain ⟨i, rfl⟩ := Int.eq_ofNat_of_zero_le ha.1
      rw [rd_nat, List.getD_eq_getElem?_getD, List.getElem?_eq_getElem (by omega)]
      exact hc.2 _ (List.getElem_mem _)
    by_cases h2 : a + 1 ≤ (c.length : Int)
    · rw [if_pos h2, wrap64_id (rd c a) (by omega) (by omega)]
      exact ⟨_, _, rfl, hr.1, hr.2⟩
    · rw [if_neg h2]
      exact ⟨_, _, rfl, hb _⟩
  · rw [if_neg h1]
    by_cases h2 : a + 1 ≤ (c.length : Int)
    · rw [if_pos h2]
      exact ⟨_, _, rfl, by decide, by decide⟩
    · rw [if_neg h2]
      exact ⟨_, _, rfl, hb _⟩
theorem pick_eq (c : List Int) (hc : srcOk c) (a s n : Int) (ha : 0 ≤ a ∧ a ≤ 1000000) (hn : 2 ≤ n ∧ n ≤ 200) : ∃ v s', spec_l00Src_pick.f c a s n = some (v, a + 1, s') ∧ 0 ≤ v ∧ v ≤ n - 1 := by
  obtain ⟨v, s', e, h0, h1⟩ := next_eq c hc a s ha
  unfold spec_l00Src_pick.f
  rw [if_neg (by omega), e]
  simp only [Option.bind_some]
  rw [if_neg (by omega), if_neg (by omega), Int.tmod_eq_emod_of_nonneg h0]
  exact ⟨_, _, rfl, Int.emod_nonneg _ (by omega), by have := Int.emod_lt_of_pos v (show 0 < n by omega); omega⟩
theorem i8_id (n : Int) (h : 0 ≤ n ∧ n ≤ 100) : IntKind.i8.wrap n = n := by
  simp [IntKind.wrap, IntKind.bits, IntKind.signed]
  omega
def upFrom (l : List Int) : Nat → Nat → Bool
  | 0, _ => true
  | d + 1, i => !decide (rd l (i : Int) ≤ rd l ((i : Int) - 1)) && upFrom l d (i + 1)
def ropeOk (p : Int) (l : List Int) : Bool :=
  decide (1 ≤ p ∧ p ≤ 400) && (decide (2 ≤ l.length ∧ l.length ≤ 40) && (decide (rd l 0 = 0) && (decide (rd l ((l.length : Int) - 1) = p) && upFrom l (l.length - 1) 1)))
theorem specRope_l0 (l : List Int) (p : Int) (hl : l.length ≤ 1048576) : ∀ (d i k : Nat), 1 ≤ i → i + d = l.length → d < k → spec_l03Ok.l0 k (l.length : Int) (i : Int) p l = some (upFrom l d i) := by
  intro d
  induction d with
  | zero =>
    intro i k h1 hi hk
    obtain ⟨k, rfl⟩ : ∃ m, k = m + 1 := ⟨k - 1, by omega⟩
    simp only [spec_l03Ok.l0]
    rw [if_neg (by omega)]
    rfl
  | succ d ih =>
    intro i k h1 hi hk
    obtain ⟨k, rfl⟩ : ∃ m, k = m + 1 := ⟨k - 1, by omega⟩
    simp only [spec_l03Ok.l0]
    rw [wrap64_id ((i : Int) - 1) (by omega) (by omega), if_pos (by omega), if_pos (by omega), if_pos (by omega), if_pos (by omega), if_pos (by omega), wrap_nat i (by omega)]
    unfold upFrom
    by_cases e : rd l (i : Int) ≤ rd l ((i : Int) - 1)
    · rw [if_pos e, decide_eq_true e]; rfl
    · rw [if_neg e, decide_eq_false e, ih (i + 1) k (by omega) (by omega) (by omega)]; rfl
theorem specRope_eq (p : Int) (hp : -32768 ≤ p ∧ p ≤ 32767) (l : List Int) (hl : l.length ≤ 1048576) (k : Nat) (hk : 1048590 < k) : spec_l03Ok.f k p l = some (ropeOk p l) := by
  obtain ⟨k, rfl⟩ : ∃ m, k = m + 1 := ⟨k - 1, by omega⟩
  unfold spec_l03Ok.f ropeOk
  rw [wrap64_id p (by omega) (by omega), in_eq, Option.bind_some]
  simp only [spec_l03Ok.j0, if_true]
  by_cases c1 : 1 ≤ p ∧ p ≤ 400
  · rw [decide_eq_true c1, if_pos rfl]
    by_cases c2 : 2 ≤ l.length ∧ l.length ≤ 40
    · rw [decide_eq_true c2, if_neg (by omega), if_neg (by omega), if_pos (by omega), wrap64_id ((l.length : Int) - 1) (by omega) (by omega)]
      by_cases c3 : rd l 0 = 0
      · rw [if_pos c3, decide_eq_true c3, if_pos (by omega), if_pos (by omega)]
        by_cases c4 : rd l ((l.length : Int) - 1) = p
        · have := specRope_l0 l p hl (l.length - 1) 1 k (by omega) (by omega) (by omega)
          rw [show ((1 : Nat) : Int) = 1 from rfl] at this
          rw [decide_eq_true c4, if_neg (by simp [c4]), this]; rfl
        · rw [decide_eq_false c4, if_pos (by simp [c4])]; rfl
      · rw [if_neg c3, decide_eq_false c3]; rfl
    · rw [decide_eq_false c2]
      by_cases c5 : (l.length : Int) < 2
      · rw [if_pos c5]; rfl
      · rw [if_neg c5, if_pos (by omega)]; rfl
  · rw [decide_eq_false c1, if_neg (by decide)]; rfl
theorem implRope_l0 (l : List Int) (p : Int) (h2 : 2 ≤ l.length) (hl : l.length ≤ 1048576) : ∀ (d i k : Nat), 1 ≤ i → i + d = l.length → d < k → impl_ValidRope.l0 k (i : Int) p l = some (upFrom l d i && (decide (rd l 0 = 0) && decide (rd l ((l.length : Int) - 1) = p))) := by
  intro d
  induction d with
  | zero =>
    intro i k h1 hi hk
    obtain ⟨k, rfl⟩ : ∃ m, k = m + 1 := ⟨k - 1, by omega⟩
    simp only [impl_ValidRope.l0]
    rw [if_neg (by omega), if_pos (by omega), wrap64_id ((l.length : Int) - 1) (by omega) (by omega)]
    unfold upFrom
    by_cases c3 : rd l 0 = 0
    · rw [if_pos c3, decide_eq_true c3, if_pos (by omega), if_pos (by omega)]; rfl
    · rw [if_neg c3, decide_eq_false c3]; rfl
  | succ d ih =>
    intro i k h1 hi hk
    obtain ⟨k, rfl⟩ : ∃ m, k = m + 1 := ⟨k - 1, by omega⟩
    simp only [impl_ValidRope.l0]
    rw [wrap64_id ((i : Int) - 1) (by omega) (by omega), if_pos (by omega), if_pos (by omega), if_pos (by omega), if_pos (by omega), wrap_nat i (by omega)]
    conv => rhs; unfold upFrom
    by_cases e : rd l (i : Int) ≤ rd l ((i : Int) - 1)
    · rw [if_pos e, decide_eq_true e]; rfl
    · rw [if_neg e, decide_eq_false e, ih (i + 1) k (by omega) (by omega) (by omega)]; rfl
theorem implRope_eq (p : Int) (hp : -32768 ≤ p ∧ p ≤ 32767) (l : List Int) (hl : l.length ≤ 1048576) (k : Nat) (hk : 1048590 < k) : impl_ValidRope.f k p l = some (ropeOk p l) := by
  obtain ⟨k, rfl⟩ : ∃ m, k = m + 1 := ⟨k - 1, by omega⟩
  unfold impl_ValidRope.f ropeOk impl_size_int16.f
  rw [wrap64_id p (by omega) (by omega), within_eq, Option.bind_some, Option.bind_some, within_eq, Option.bind_some]
  simp only [impl_ValidRope.j0, if_true]
  by_cases c1 : 1 ≤ p ∧ p ≤ 400
  · rw [decide_eq_true c1, if_pos rfl]
    by_cases c2 : 2 ≤ l.length ∧ l.length ≤ 40
    · have := implRope_l0 l p c2.1 hl (l.length - 1) 1 k (by omega) (by omega) (by omega)
      rw [show ((1 : Nat) : Int) = 1 from rfl] at this
      rw [decide_eq_true (show 2 ≤ (l.length : Int) ∧ (l.length : Int) ≤ 40 by omega), decide_eq_true c2, if_neg (by decide), this]
      generalize upFrom l (l.length - 1) 1 = u
      generalize decide (rd l 0 = 0) = v
      generalize decide (rd l ((l.length : Int) - 1) = p) = x
      cases u <;> cases v <;> cases x <;> rfl
    · rw [decide_eq_false (show ¬ (2 ≤ (l.length : Int) ∧ (l.length : Int) ≤ 40) by omega), decide_eq_false c2, if_pos (by decide)]; rfl
  · rw [decide_eq_false c1, if_neg (by decide)]; rfl
def dupFrom (l : List S65) (w : Int) : Nat → Nat → Bool
  | 0, _ => false
  | d + 1, j => decide ((rd_T65 l (j : Int)).f0 = w) || dupFrom l w d (j + 1)
def holdAt (l : List S65) (n : Int) (i : Nat) : Bool :=
  decide (0 ≤ (rd_T65 l (i : Int)).f0 ∧ (rd_T65 l (i : Int)).f0 ≤ 999) && (decide (0 ≤ (rd_T65 l (i : Int)).f1 ∧ (rd_T65 l (i : Int)).f1 ≤ n - 1) && (!(decide (0 < i) && decide ((rd_T65 l (i : Int)).f1 ≤ (rd_T65 l ((i : Int) - 1)).f1)) && !dupFrom l (rd_T65 l (i : Int)).f0 i 0))
def holdsFrom (l : List S65) (n : Int) : Nat → Nat → Bool
  | 0, _ => true
  | d + 1, i => holdAt l n i && holdsFrom l n d (i + 1)
def holdR (h : S65) : Prop := (-32768 ≤ h.f0 ∧ h.f0 ≤ 32767) ∧ (-128 ≤ h.f1 ∧ h.f1 ≤ 127)
theorem mem_hold (s : List S65) (i : Nat) (h : i < s.length) : rd_T65 s (i : Int) ∈ s := by
  have h2 : rd_T65 s (i : Int) = s.getD i z65 := by simp [rd_T65]
  rw [h2, List.getD_eq_getElem?_getD, List.getElem?_eq_getElem h]
  exact List.getElem_mem _
theorem specHolds_l1 (l : List S65) (p : Int) (kn : List Int) (hl : l.length ≤ 1048576) (i : Nat) (hi : i < l.length) : ∀ (d j k : Nat), j + d = i → d < k → spec_l03Holds.l1 k l (i : Int) (j : Int) p kn = if dupFrom l (rd_T65 l (i : Int)).f0 d j = true then some false else spec_l03Holds.l0 (k - (d + 1)) l ((i + 1 : Nat) : Int) p kn := by
  intro d
  induction d with
  | zero =>
    intro j k hj hk
    obtain ⟨k, rfl⟩ : ∃ m, k = m + 1 := ⟨k - 1, by omega⟩
    simp only [spec_l03Holds.l1]
    rw [if_neg (by omega), wrap_nat i (by omega), if_neg (by simp [dupFrom])]
    simp
  | succ d ih =>
    intro j k hj hk
    obtain ⟨k, rfl⟩ : ∃ m, k = m + 1 := ⟨k - 1, by omega⟩
    simp only [spec_l03Holds.l1]
    rw [if_pos (by omega), if_pos (by omega), if_pos (by omega), if_pos (by omega), if_pos (by omega), wrap_nat j (by omega)]
    unfold dupFrom
    by_cases e : (rd_T65 l (j : Int)).f0 = (rd_T65 l (i : Int)).f0
    · rw [if_pos e, decide_eq_true e]; simp
    · rw [if_neg e, decide_eq_false e, ih (j + 1) k (by omega) (by omega), Bool.false_or, show k + 1 - (d + 1 + 1) = k - (d + 1) by omega]
theorem specHolds_l0 (l : List S65) (p : Int) (kn : List Int) (hl : l.length ≤ 1048576) (hkn : kn.length ≤ 1048576) (hr : ∀ h ∈ l, holdR h) : ∀ (d i k : Nat), i + d = l.length → d * 1048600 < k → spec_l03Holds.l0 k l (i : Int) p kn = some (holdsFrom l (kn.length : Int) d i) := by
  intro d
  induction d with
  | zero =>
    intro i k hi hk
    obtain ⟨k, rfl⟩ : ∃ m, k = m + 1 := ⟨k - 1, by omega⟩
    simp only [spec_l03Holds.l0]
    rw [if_neg (by omega)]
    rfl
  | succ d ih =>
    intro i k hi hk
    obtain ⟨D, hD⟩ : ∃ D, D = d * 1048600 := ⟨_, rfl⟩
    rw [Nat.succ_mul, ← hD] at hk
    obtain ⟨k, rfl⟩ : ∃ m, k = m + 4 := ⟨k - 4, by omega⟩
    have hh := hr _ (mem_hold l i (by omega))
    obtain ⟨⟨a1, a2⟩, b1, b2⟩ := hh
    simp only [spec_l03Holds.l0]
    rw [if_pos (by omega), if_pos (by omega), wrap64_id _ (by omega) (by omega), wrap64_id ((rd_T65 l (i : Int)).f1) (by omega) (by omega), wrap64_id ((kn.length : Int) - 1) (by omega) (by omega), in_eq, Option.bind_some]
    unfold holdsFrom holdAt
    have ih' := fun q (hq : D < q) => ih (i + 1) q (by omega) (by rw [← hD]; exact hq)
    have l1 := specHolds_l1 l p kn hl i (by omega) i 0 (k + 1) (by omega) (by omega)
    have hq := ih' (k - i) (by omega)
    rw [show ((0 : Nat) : Int) = 0 from rfl, Nat.add_sub_add_right] at l1
    simp only [hq] at l1
    by_cases c1 : 0 ≤ (rd_T65 l (i : Int)).f0 ∧ (rd_T65 l (i : Int)).f0 ≤ 999
    · rw [decide_eq_true c1, if_pos rfl, in_eq, Option.bind_some]
      by_cases c2 : 0 ≤ (rd_T65 l (i : Int)).f1 ∧ (rd_T65 l (i : Int)).f1 ≤ (kn.length : Int) - 1
      · rw [decide_eq_true c2]
        simp only [spec_l03Holds.j1]
        rw [if_neg (by decide)]
        by_cases c3 : 0 < i
        · rw [if_pos (by omega), if_pos (by omega), if_pos (by omega), wrap64_id ((i : Int) - 1) (by omega) (by omega), if_pos (by omega), if_pos (by omega), decide_eq_true c3]
          simp only [spec_l03Holds.j2]
          by_cases c4 : (rd_T65 l (i : Int)).f1 ≤ (rd_T65 l ((i : Int) - 1)).f1
          · rw [decide_eq_true c4, if_pos rfl]; rfl
          · rw [decide_eq_false c4, if_neg (by decide), l1]
            by_cases c5 : dupFrom l (rd_T65 l (i : Int)).f0 i 0 = true
            · rw [if_pos c5, c5]; rfl
            · rw [if_neg c5, Bool.eq_false_iff.mpr c5]; rfl
        · rw [if_neg (by omega), decide_eq_false c3]
          simp only [spec_l03Holds.j2]
          rw [if_neg (by decide), l1]
          by_cases c5 : dupFrom l (rd_T65 l (i : Int)).f0 i 0 = true
          · rw [if_pos c5, c5]; rfl
          · rw [if_neg c5, Bool.eq_false_iff.mpr c5]; rfl
      · rw [decide_eq_false c2]
        simp only [spec_l03Holds.j1]
        rw [if_pos (by decide)]; rfl
    · rw [decide_eq_false c1, if_neg (by decide)]
      simp only [spec_l03Holds.j1]
      rw [if_pos (by decide)]; rfl
def holdsOk (p : Int) (kn : List Int) (l : List S65) : Bool := ropeOk p kn && holdsFrom l (kn.length : Int) l.length 0
theorem specHolds_eq (p : Int) (hp : -32768 ≤ p ∧ p ≤ 32767) (kn : List Int) (l : List S65) (hl : l.length ≤ 1048576) (hkn : kn.length ≤ 1048576) (hr : ∀ h ∈ l, holdR h) (k : Nat) (hk : 1100000000000 < k) : spec_l03Holds.f k p kn l = some (holdsOk p kn l) := by
  unfold spec_l03Holds.f holdsOk
  rw [specRope_eq p hp kn hkn k (by omega), Option.bind_some]
  by_cases c : ropeOk p kn = true
  · have := specHolds_l0 l p kn hl hkn hr l.length 0 k (by omega) (by omega)
    rw [show ((0 : Nat) : Int) = 0 from rfl] at this
    rw [if_pos c, c, this]; rfl
  · rw [if_neg c, Bool.eq_false_iff.mpr c]; rfl
theorem rd_take_hold (l : List S65) (i j : Nat) (h : j < i) : rd_T65 (l.take i) (j : Int) = rd_T65 l (j : Int) := by
  simp [rd_T65, List.getD_eq_getElem?_getD, List.getElem?_take, h]
theorem implDup_l0 (l : List S65) (hl : l.length ≤ 1048576) (i : Nat) (hi : i ≤ l.length) (w v : Int) : ∀ (d j k : Nat), j + d = i → d < k → ∃ r : Int, slices_IndexFunc_Hold_at_ValidHolds_1.l0 k (l.take i) (i : Int) (j : Int) w v = some r ∧ decide (r ≥ 0) = dupFrom l w d j := by
  intro d
  induction d with
  | zero =>
    intro j k hj hk
    obtain ⟨k, rfl⟩ : ∃ m, k = m + 1 := ⟨k - 1, by omega⟩
    simp only [slices_IndexFunc_Hold_at_ValidHolds_1.l0]
    rw [if_neg (by omega)]
    exact ⟨-1, rfl, rfl⟩
  | succ d ih =>
    intro j k hj hk
    obtain ⟨k, rfl⟩ : ∃ m, k = m + 1 := ⟨k - 1, by omega⟩
    have hlen : ((l.take i).length : Int) = i := by rw [List.length_take]; omega
    simp only [slices_IndexFunc_Hold_at_ValidHolds_1.l0, impl_ValidHolds_1.f, Option.bind_some]
    rw [if_pos (by omega), if_pos (by omega), if_pos (by omega), rd_take_hold l i j (by omega), wrap_nat j (by omega)]
    unfold dupFrom
    by_cases e : (rd_T65 l (j : Int)).f0 = w
    · refine ⟨(j : Int), by rw [if_pos (by simp [e])], ?_⟩
      rw [decide_eq_true e]; simp
    · obtain ⟨r, h1, h2⟩ := ih (j + 1) k (by omega) (by omega)
      refine ⟨r, by rw [if_neg (by simp [e]), h1], ?_⟩
      rw [decide_eq_false e, h2]; rfl
theorem implDup_eq (l : List S65) (hl : l.length ≤ 1048576) (i : Nat) (hi : i ≤ l.length) (w v : Int) (k : Nat) (hk : 1048580 < k) : slices_ContainsFunc_Hold_at_ValidHolds_1.f k (l.take i) w v = some (dupFrom l w i 0) := by
  unfold slices_ContainsFunc_Hold_at_ValidHolds_1.f slices_IndexFunc_Hold_at_ValidHolds_1.f
  obtain ⟨r, h1, h2⟩ := implDup_l0 l hl i hi w v i 0 k (by omega) (by omega)
  rw [show ((l.take i).length : Int) = i by rw [List.length_take]; omega]
  rw [show ((0 : Nat) : Int) = 0 from rfl] at h1
  rw [h1, Option.bind_some, h2]
theorem implHolds_l0 (l : List S65) (p : Int) (hp : -32768 ≤ p ∧ p ≤ 32767) (kn : List Int) (hl : l.length ≤ 1048576) (hkn : kn.length ≤ 1048576) (hr : ∀ h ∈ l, holdR h) : ∀ (d i k : Nat), i + d = l.length → d + 1048600 < k → impl_ValidHolds.l0 k l l (l.length : Int) (i : Int) p kn = some (holdsFrom l (kn.length : Int) d i && ropeOk p kn) := by
  intro d
  induction d with
  | zero =>
    intro i k hi hk
    obtain ⟨k, rfl⟩ : ∃ m, k = m + 1 := ⟨k - 1, by omega⟩
    simp only [impl_ValidHolds.l0]
    rw [if_neg (by omega), implRope_eq p hp kn hkn k (by omega), Option.bind_some]
    rfl
  | succ d ih =>
    intro i k hi hk
    obtain ⟨k, rfl⟩ : ∃ m, k = m + 1 := ⟨k - 1, by omega⟩
    have hh := hr _ (mem_hold l i (by omega))
    obtain ⟨⟨a1, a2⟩, b1, b2⟩ := hh
    simp only [impl_ValidHolds.l0, impl_Rope_isHold.f, impl_size_int16.f]
    rw [if_pos (by omega), if_pos (by omega), if_pos (by omega), wrap64_id _ (by omega) (by omega), wrap64_id ((rd_T65 l (i : Int)).f1) (by omega) (by omega), wrap64_id ((i : Int) - 1) (by omega) (by omega), within_eq, Option.bind_some, Option.bind_some, wrap64_id ((kn.length : Int) - 1) (by omega) (by omega), wrap_nat i (by omega), Int.toNat_natCast, within_eq, Option.bind_some]
    have ih' := ih (i + 1) k (by omega) (by omega)
    have hd := implDup_eq l hl i (by omega) (rd_T65 l (i : Int)).f0 (rd_T65 l (i : Int)).f1 k (by omega)
    unfold holdsFrom holdAt
    by_cases c1 : 0 ≤ (rd_T65 l (i : Int)).f0 ∧ (rd_T65 l (i : Int)).f0 ≤ 999
    · rw [decide_eq_true c1, if_pos rfl, Option.bind_some]
      by_cases c2 : 0 ≤ (rd_T65 l (i : Int)).f1 ∧ (rd_T65 l (i : Int)).f1 ≤ (kn.length : Int) - 1
      · rw [decide_eq_true c2, if_pos rfl]
        by_cases c3 : 0 < i
        · rw [if_pos (by omega), if_pos (by omega), if_pos (by omega), decide_eq_true c3]
          by_cases c4 : (rd_T65 l (i : Int)).f1 ≤ (rd_T65 l ((i : Int) - 1)).f1
          · rw [if_pos c4, decide_eq_true c4]; rfl
          · rw [if_neg c4, if_pos (by omega), hd, Option.bind_some, decide_eq_false c4]
            by_cases c5 : dupFrom l (rd_T65 l (i : Int)).f0 i 0 = true
            · rw [if_pos c5, c5]; rfl
            · rw [if_neg c5, Bool.eq_false_iff.mpr c5, ih']; rfl
        · rw [if_neg (by omega), if_pos (by omega), hd, Option.bind_some, decide_eq_false c3]
          by_cases c5 : dupFrom l (rd_T65 l (i : Int)).f0 i 0 = true
          · rw [if_pos c5, c5]; rfl
          · rw [if_neg c5, Bool.eq_false_iff.mpr c5, ih']; rfl
      · rw [decide_eq_false c2, if_neg (by decide)]; rfl
    · rw [decide_eq_false c1, if_neg (by decide), Option.bind_some, if_neg (by decide)]; rfl
theorem implHolds_eq (p : Int) (hp : -32768 ≤ p ∧ p ≤ 32767) (kn : List Int) (l : List S65) (hl : l.length ≤ 1048576) (hkn : kn.length ≤ 1048576) (hr : ∀ h ∈ l, holdR h) (k : Nat) (hk : 3000000 < k) : impl_ValidHolds.f k p kn l = some (holdsOk p kn l) := by
  unfold impl_ValidHolds.f holdsOk
  have := implHolds_l0 l p hp kn hl hkn hr l.length 0 k (by omega) (by omega)
  rw [show ((0 : Nat) : Int) = 0 from rfl] at this
  rw [this, Bool.and_comm]
theorem rd_hold_get (l : List S65) (i : Nat) (h : i < l.length) : rd_T65 l (i : Int) = l[i] := by
  have h2 : rd_T65 l (i : Int) = l.getD i z65 := by simp [rd_T65]
  rw [h2, List.getD_eq_getElem?_getD, List.getElem?_eq_getElem h, Option.getD_some]
theorem holdAt_of (l : List S65) (n : Int) : ∀ (d i0 : Nat), holdsFrom l n d i0 = true → ∀ i, i0 ≤ i → i < i0 + d → holdAt l n i = true := by
  intro d
  induction d with
  | zero => intro i0 _ i h1 h2; omega
  | succ d ih =>
    intro i0 h i h1 h2
    unfold holdsFrom at h
    rw [Bool.and_eq_true] at h
    by_cases e : i = i0
    · subst e; exact h.1
    · exact ih (i0 + 1) h.2 i (by omega) (by omega)
theorem hold_rng (l : List S65) (n : Int) (h : holdsFrom l n l.length 0 = true) (i : Nat) (hi : i < l.length) : (0 ≤ (rd_T65 l (i : Int)).f1 ∧ (rd_T65 l (i : Int)).f1 ≤ n - 1) ∧ (0 < i → (rd_T65 l ((i : Int) - 1)).f1 < (rd_T65 l (i : Int)).f1) := by
  have := holdAt_of l n l.length 0 h i (Nat.zero_le _) (by omega)
  unfold holdAt at this
  rw [Bool.and_eq_true, Bool.and_eq_true, Bool.and_eq_true, decide_eq_true_iff, decide_eq_true_iff] at this
  obtain ⟨_, h2, h3, _⟩ := this
  refine ⟨h2, fun h0 => ?_⟩
  rw [decide_eq_true h0, Bool.true_and, Bool.not_eq_true', decide_eq_false_iff_not] at h3
  omega
theorem hold_lt (l : List S65) (n : Int) (h : holdsFrom l n l.length 0 = true) : ∀ (j : Nat), j < l.length → ∀ i, i < j → (rd_T65 l (i : Int)).f1 < (rd_T65 l (j : Int)).f1 := by
  intro j
  induction j with
  | zero => intro _ i h1; omega
  | succ j ih =>
    intro hj i hi
    have h1 := (hold_rng l n h (j + 1) hj).2 (by omega)
    rw [show (((j + 1 : Nat) : Int) - 1) = (j : Int) by omega] at h1
    by_cases e : i = j
    · subst e; exact h1
    · have := ih (by omega) i (by omega); omega
theorem hold_ge (l : List S65) (n : Int) (h : holdsFrom l n l.length 0 = true) : ∀ (j : Nat), j < l.length → (j : Int) ≤ (rd_T65 l (j : Int)).f1 := by
  intro j
  induction j with
  | zero => intro hj; have := (hold_rng l n h 0 hj).1.1; omega
  | succ j ih =>
    intro hj
    have h1 := (hold_rng l n h (j + 1) hj).2 (by omega)
    rw [show (((j + 1 : Nat) : Int) - 1) = (j : Int) by omega] at h1
    have := ih (by omega)
    omega
theorem holdsOk_facts (p : Int) (kn : List Int) (l : List S65) (h : holdsOk p kn l = true) : ropeOk p kn = true ∧ (kn.length ≤ 40) ∧ l.length ≤ 40 ∧ (∀ x ∈ l, 0 ≤ x.f1 ∧ x.f1 < 128) ∧ l.Pairwise (fun a b => a.f1 < b.f1) := by
  unfold holdsOk at h
  rw [Bool.and_eq_true] at h
  obtain ⟨h1, h2⟩ := h
  have h3 := h1
  unfold ropeOk at h3
  rw [Bool.and_eq_true, Bool.and_eq_true, decide_eq_true_iff, decide_eq_true_iff] at h3
  have hk := h3.2.1.2
  refine ⟨h1, hk, ?_, fun x hx => ?_, ?_⟩
  · by_cases e : l.length = 0
    · omega
    · have a := hold_ge l _ h2 (l.length - 1) (by omega)
      have b := (hold_rng l _ h2 (l.length - 1) (by omega)).1.2
      omega
  · obtain ⟨i, hi, rfl⟩ := List.getElem_of_mem hx
    have := (hold_rng l _ h2 i hi).1
    rw [rd_hold_get l i hi] at this
    omega
  · rw [List.pairwise_iff_getElem]
    intro i j hi hj hij
    have := hold_lt l _ h2 j hj i hij
    rwa [rd_hold_get l i hi, rd_hold_get l j hj] at this

structure HOK (p : Int) (kn : List Int) (l : List S65) : Prop where
  rope : ropeOk p kn = true
  rng : ∀ h ∈ l, (0 ≤ h.f0 ∧ h.f0 ≤ 999) ∧ 0 ≤ h.f1 ∧ h.f1 ≤ (kn.length : Int) - 1
  up : l.Pairwise (fun a b => a.f1 < b.f1)
  dis : l.Pairwise (fun a b => a.f0 ≠ b.f0)
theorem dupFrom_none (l : List S65) (w : Int) : ∀ (d j : Nat), (∀ t : Nat, j ≤ t → t < j + d → (rd_T65 l (t : Int)).f0 ≠ w) → dupFrom l w d j = false := by
  intro d
  induction d with
  | zero => intro j _; rfl
  | succ d ih =>
    intro j h
    unfold dupFrom
    rw [decide_eq_false (h j (Nat.le_refl _) (by omega)), ih (j + 1) (fun t h1 h2 => h t (by omega) (by omega))]
    rfl
theorem holdsFrom_mk (l : List S65) (n : Int) : ∀ (d i : Nat), (∀ j, i ≤ j → j < i + d → holdAt l n j = true) → holdsFrom l n d i = true := by
  intro d
  induction d with
  | zero => intro i _; rfl
  | succ d ih =>
    intro i h
    unfold holdsFrom
    rw [h i (Nat.le_refl _) (by omega), ih (i + 1) (fun t h1 h2 => h t (by omega) (by omega))]
    rfl
theorem HOK.ok {p : Int} {kn : List Int} {l : List S65} (h : HOK p kn l) : holdsOk p kn l = true := by
  unfold holdsOk
  rw [h.rope, Bool.true_and]
  refine holdsFrom_mk l _ _ _ fun j _ hj => ?_
  have hj : j < l.length := by omega
  obtain ⟨r1, r2⟩ := h.rng _ (mem_hold l j hj)
  have hup := List.pairwise_iff_getElem.1 h.up
  have hdis := List.pairwise_iff_getElem.1 h.dis
  unfold holdAt
  rw [decide_eq_true r1, decide_eq_true r2, Bool.true_and, Bool.true_and, dupFrom_none l _ j 0 (fun t _ ht => by
    have ht' : t < j := by omega
    rw [rd_hold_get l t (by omega), rd_hold_get l j hj]
    exact hdis t j (by omega) hj ht')]
  by_cases c : 0 < j
  · have h1 := hup (j - 1) j (by omega) hj (by omega)
    rw [show ((j : Int) - 1) = ((j - 1 : Nat) : Int) by omega, rd_hold_get l j hj, rd_hold_get l (j - 1) (by omega), decide_eq_true c, decide_eq_false (by omega)]
    rfl
  · rw [decide_eq_false c]; rfl
theorem HOK.holdR {p : Int} {kn : List Int} {l : List S65} (h : HOK p kn l) (hk : kn.length ≤ 100) : ∀ x ∈ l, holdR x := fun x hx => by
  obtain ⟨r1, r2⟩ := h.rng x hx
  exact ⟨⟨by omega, by omega⟩, by omega, by omega⟩
theorem HOK.len {p : Int} {kn : List Int} {l : List S65} (h : HOK p kn l) : l.length ≤ 40 := (holdsOk_facts p kn l h.ok).2.2.1
theorem HOK.erase {p : Int} {kn : List Int} {l : List S65} (h : HOK p kn l) (k : Nat) : HOK p kn (l.eraseIdx k) :=
  ⟨h.rope, fun x hx => h.rng x (List.mem_of_mem_eraseIdx hx), h.up.sublist (List.eraseIdx_sublist _ _), h.dis.sublist (List.eraseIdx_sublist _ _)⟩

theorem p6pick_eq (c : List Int) (hc : srcOk c) (n : Int) (hn : 2 ≤ n ∧ n ≤ 200) : ∃ v, spec_P6Pick.f c n = some v ∧ 0 ≤ v ∧ v ≤ n - 1 := by
  unfold spec_P6Pick.f spec_l00From.f
  simp only [Option.bind_some]
  obtain ⟨v, s', e, v0, v1⟩ := pick_eq c hc 0 0 n (by decide) hn
  rw [e]
  exact ⟨v, rfl, v0, v1⟩

theorem i16_id (n : Int) (h : 0 ≤ n ∧ n ≤ 10000) : IntKind.i16.wrap n = n := by
  simp [IntKind.wrap, IntKind.bits, IntKind.signed]
  omega
theorem rd_app_lt (l : List Int) (x : Int) (j : Nat) (h : j < l.length) : rd (l ++ [x]) (j : Int) = rd l (j : Int) := by
  rw [rd_nat, rd_nat, List.getD_eq_getElem?_getD, List.getD_eq_getElem?_getD, List.getElem?_append_left h]
theorem rd_app_eq (l : List Int) (x : Int) (j : Nat) (h : j = l.length) : rd (l ++ [x]) (j : Int) = x := by
  subst h
  rw [rd_nat, List.getD_eq_getElem?_getD, List.getElem?_append_right (Nat.le_refl _), Nat.sub_self]; rfl
structure RopeI (p : Int) (l : List Int) : Prop where
  len : 1 ≤ l.length
  zero : rd l ((0 : Nat) : Int) = 0
  last : rd l ((l.length - 1 : Nat) : Int) = p
  up : ∀ j : Nat, 1 ≤ j → j < l.length → rd l ((j - 1 : Nat) : Int) < rd l (j : Int)
theorem RopeI.app {p : Int} {l : List Int} (h : RopeI p l) (x : Int) (hx : p < x) : RopeI x (l ++ [x]) where
  len := by simp
  zero := by rw [rd_app_lt l x 0 (by have := h.len; omega)]; exact h.zero
  last := by rw [List.length_append, List.length_singleton, Nat.add_sub_cancel]; exact rd_app_eq l x _ rfl
  up j h1 h2 := by
    rw [List.length_append, List.length_singleton] at h2
    by_cases e : j = l.length
    · rw [rd_app_eq l x j e, rd_app_lt l x (j - 1) (by omega), e, h.last]; exact hx
    · rw [rd_app_lt l x j (by omega), rd_app_lt l x (j - 1) (by omega)]; exact h.up j h1 (by omega)
theorem upFrom_mk (l : List Int) : ∀ (d i : Nat), 1 ≤ i → (∀ j : Nat, i ≤ j → j < i + d → rd l ((j - 1 : Nat) : Int) < rd l (j : Int)) → upFrom l d i = true := by
  intro d
  induction d with
  | zero => intro i _ _; rfl
  | succ d ih =>
    intro i h1 h
    unfold upFrom
    have := h i (Nat.le_refl _) (by omega)
    rw [show ((i : Int) - 1) = ((i - 1 : Nat) : Int) by omega, decide_eq_false (by omega), ih (i + 1) (by omega) (fun t q1 q2 => h t (by omega) (by omega))]
    rfl
theorem RopeI.ok {p : Int} {l : List Int} (h : RopeI p l) (hp : 1 ≤ p ∧ p ≤ 400) (hl : 2 ≤ l.length ∧ l.length ≤ 40) : ropeOk p l = true := by
  unfold ropeOk
  have h0 := h.zero
  have h1 := h.last
  rw [show ((l.length - 1 : Nat) : Int) = (l.length : Int) - 1 by omega] at h1
  rw [decide_eq_true hp, decide_eq_true hl, decide_eq_true (show rd l 0 = 0 from h0), decide_eq_true h1, upFrom_mk l _ 1 (by omega) (fun j q1 q2 => h.up j q1 (by omega))]
  rfl
theorem drawnR_l0 (c : List Int) (hc : srcOk c) : ∀ (d k : Nat) (a s p : Int) (kn : List Int), d < k → d ≤ 10 → 0 ≤ a → a + d ≤ 900000 → 0 ≤ p → p + 6 * d ≤ 400 → kn.length + d ≤ 40 → RopeI p kn → ∃ p' kn' a' s', spec_l03Drawn.l0 k (d : Int) c a s p kn = some (p', kn', a', s') ∧ RopeI p' kn' ∧ kn'.length = kn.length + d ∧ p + d ≤ p' ∧ p' ≤ p + 6 * d := by
  intro d
  induction d with
  | zero =>
    intro k a s p kn hk _ h0 h1 _ _ _ hr
    obtain ⟨k, rfl⟩ : ∃ m, k = m + 1 := ⟨k - 1, by omega⟩
    simp only [spec_l03Drawn.l0]
    rw [if_neg (by omega)]
    exact ⟨p, kn, a, s, rfl, hr, rfl, by omega, by omega⟩
  | succ d ih =>
    intro k a s p kn hk hd h0 h1 hp hp2 hl hr
    obtain ⟨k, rfl⟩ : ∃ m, k = m + 1 := ⟨k - 1, by omega⟩
    obtain ⟨v, s2, e, v0, v1⟩ := pick_eq c hc a s 6 (by omega) (by decide)
    simp only [spec_l03Drawn.l0]
    rw [if_pos (by omega), e]
    simp only [Option.bind_some]
    rw [if_pos (by omega), wrap64_id (1 + v) (by omega) (by omega), i16_id (1 + v) (by omega), i16_id (p + (1 + v)) (by omega), wrap64_id _ (by omega) (by omega), show ((d + 1 : Nat) : Int) - 1 = (d : Int) by omega]
    obtain ⟨p', kn', a', s', q1, q2, q3, q4, q5⟩ := ih k (a + 1) s2 (p + (1 + v)) (kn ++ [p + (1 + v)]) (by omega) (by omega) (by omega) (by omega) (by omega) (by omega) (by simp; omega) (hr.app _ (by omega))
    exact ⟨p', kn', a', s', q1, q2, by rw [q3]; simp; omega, by omega, by omega⟩
theorem p6rope_eq (c : List Int) (hc : srcOk c) (k : Nat) (hk : 20 ≤ k) : ∃ p kn, spec_P6Rope.f k c = some (p, kn) ∧ ropeOk p kn = true ∧ kn.length ≤ 8 ∧ 1 ≤ p ∧ p ≤ 42 := by
  unfold spec_P6Rope.f spec_l00From.f spec_l03Drawn.f
  simp only [Option.bind_some]
  obtain ⟨v, s', e, v0, v1⟩ := pick_eq c hc 0 0 7 (by decide) (by decide)
  rw [e]
  simp only [Option.bind_some]
  rw [wrap64_id (1 + v) (by omega) (by omega)]
  obtain ⟨d, hd⟩ := Int.eq_ofNat_of_zero_le (show 0 ≤ 1 + v by omega)
  rw [hd]
  obtain ⟨p', kn', a', s2, q1, q2, q3, q4, q5⟩ := drawnR_l0 c hc d k (0 + 1) s' 0 [0] (by omega) (by omega) (by decide) (by omega) (by decide) (by omega) (by simp; omega) ⟨by simp, rfl, rfl, fun j h1 h2 => by simp at h2; omega⟩
  rw [q1]
  refine ⟨p', kn', rfl, q2.ok (by omega) (by rw [q3]; simp; omega), by rw [q3]; simp; omega, by omega, by omega⟩
theorem pick_big (c : List Int) (hc : srcOk c) (a s n : Int) (ha : 0 ≤ a ∧ a ≤ 900000) (hn : 201 ≤ n ∧ n ≤ 100000) : ∃ v s', spec_l00Src_pick.f c a s n = some (v, a + 1 + 1, s') ∧ 0 ≤ v ∧ v ≤ n - 1 := by
  obtain ⟨v, s', e, h0, h1⟩ := next_eq c hc a s (by omega)
  obtain ⟨u, s2, e2, u0, u1⟩ := next_eq c hc (a + 1) s' (by omega)
  unfold spec_l00Src_pick.f
  rw [if_neg (by omega), e]
  simp only [Option.bind_some]
  rw [if_pos (by omega), e2]
  simp only [Option.bind_some]
  rw [if_neg (by omega), wrap64_id (v * 256) (by omega) (by omega), wrap64_id (v * 256 + u) (by omega) (by omega), Int.tmod_eq_emod_of_nonneg (by omega)]
  exact ⟨_, _, rfl, Int.emod_nonneg _ (by omega), by have := Int.emod_lt_of_pos (v * 256 + u) (show 0 < n by omega); omega⟩
theorem i8_small (n : Nat) (h : n ≤ 100) : IntKind.i8.wrap (n : Int) = (n : Int) := i8_id _ (by omega)
structure HeldI (v0 T : Int) (j : Nat) (xs : List S65) : Prop where
  len : xs.length ≤ j
  rng : ∀ h ∈ xs, (0 ≤ h.f0 ∧ h.f0 ≤ 999) ∧ 0 ≤ h.f1 ∧ h.f1 ≤ (j : Int) - 1
  up : xs.Pairwise (fun a b => a.f1 < b.f1)
  dis : xs.Pairwise (fun a b => a.f0 ≠ b.f0)
  off : ∀ h ∈ xs, ∃ t : Int, 0 ≤ t ∧ t < T ∧ h.f0 = (v0 + t) % 1000
  tot : 0 ≤ T ∧ T ≤ 31 * (j : Int)
theorem held_go (c : List Int) (hc : srcOk c) (p : Int) (kn : List Int) (hkn : kn.length ≤ 8) (v0 : Int) (hv : 0 ≤ v0 ∧ v0 ≤ 899) : ∀ (d j k : Nat) (xs : List S65) (T a s : Int), j + d = kn.length → 2 * d + 3 ≤ k → 0 ≤ a → a + 2 * d ≤ 900000 → HeldI v0 T j xs →
    ∃ ys T' a' s', spec_l03Held.l0 k xs ((v0 + T) % 1000) (j : Int) c a s p kn = some (ys, a', s') ∧ HeldI v0 T' kn.length ys := by
  intro d
  induction d with
  | zero =>
    intro j k xs T a s hj hk h0 h1 hI
    obtain ⟨k, rfl⟩ : ∃ m, k = m + 2 := ⟨k - 2, by omega⟩
    simp only [spec_l03Held.l0, spec_l03Held.j1]
    rw [if_neg (by omega), if_neg (by decide)]
    have hj : j = kn.length := by omega
    subst hj
    exact ⟨xs, T, a, s, rfl, hI⟩
  | succ d ih =>
    intro j k xs T a s hj hk h0 h1 hI
    obtain ⟨k, rfl⟩ : ∃ m, k = m + 2 := ⟨k - 2, by omega⟩
    simp only [spec_l03Held.l0, spec_l03Held.j1]
    have htot := hI.tot
    rw [if_pos (by omega), if_pos (by simp; omega)]
    obtain ⟨v, s1, e1, v1, v2⟩ := pick_eq c hc a s 2 (by omega) (by decide)
    unfold spec_l00Src_one.f
    rw [e1]
    simp only [Option.bind_some]
    by_cases b : v = 0
    · subst b
      have hlen := hI.len
      rw [if_pos (by decide), if_pos (by omega)]
      obtain ⟨u, s2, e2, u1, u2⟩ := pick_eq c hc (a + 1) s1 30 (by omega) (by decide)
      rw [e2]
      simp only [Option.bind_some]
      have hw := Int.emod_nonneg (v0 + T) (show (1000 : Int) ≠ 0 by decide)
      have hw2 := Int.emod_lt_of_pos (v0 + T) (show (0 : Int) < 1000 by decide)
      rw [i16_id _ (by omega), i8_small j (by omega), wrap64_id ((v0 + T) % 1000 + 1) (by omega) (by omega), wrap64_id _ (by omega) (by omega), Int.tmod_eq_emod_of_nonneg (by omega), wrap_nat j (by omega)]
      have hm : ((v0 + T) % 1000 + 1 + u) % 1000 = (v0 + (T + 1 + u)) % 1000 := by omega
      rw [hm]
      refine ih (j + 1) k _ (T + 1 + u) (a + 1 + 1) s2 (by omega) (by omega) (by omega) (by omega) ⟨by simp; omega, ?_, ?_, ?_, ?_, by omega⟩
      · intro h hh
        rcases List.mem_append.1 hh with q | q
        · have := hI.rng h q; omega
        · rw [List.mem_singleton.1 q]; exact ⟨⟨by show 0 ≤ (v0 + T) % 1000; omega, by show (v0 + T) % 1000 ≤ 999; omega⟩, by show (0 : Int) ≤ (j : Int); omega, by show (j : Int) ≤ ((j + 1 : Nat) : Int) - 1; omega⟩
      · rw [List.pairwise_append]
        refine ⟨hI.up, List.pairwise_singleton _ _, fun x hx y hy => ?_⟩
        rw [List.mem_singleton.1 hy]
        have := (hI.rng x hx).2.2
        show x.f1 < (j : Int)
        omega
      · rw [List.pairwise_append]
        refine ⟨hI.dis, List.pairwise_singleton _ _, fun x hx y hy => ?_⟩
        rw [List.mem_singleton.1 hy]
        obtain ⟨t, t0, t1, t2⟩ := hI.off x hx
        show x.f0 ≠ (v0 + T) % 1000
        rw [t2]
        omega
      · intro h hh
        rcases List.mem_append.1 hh with q | q
        · obtain ⟨t, t0, t1, t2⟩ := hI.off h q
          exact ⟨t, t0, by omega, t2⟩
        · rw [List.mem_singleton.1 q]
          exact ⟨T, by omega, by omega, rfl⟩
    · rw [if_neg (by simpa using b), wrap_nat j (by omega)]
      refine ih (j + 1) k xs T (a + 1) s1 (by omega) (by omega) (by omega) (by omega) ⟨by have := hI.len; omega, fun h hh => by have := hI.rng h hh; omega, hI.up, hI.dis, hI.off, by omega⟩
theorem p6holds_eq (c : List Int) (hc : srcOk c) (p : Int) (kn : List Int) (hkn : kn.length ≤ 8) (hr : ropeOk p kn = true) (k : Nat) (hk : 50 ≤ k) : ∃ hs, spec_P6Holds.f k c p kn = some hs ∧ HOK p kn hs := by
  unfold spec_P6Holds.f spec_l00From.f spec_l03Held.f
  simp only [Option.bind_some]
  obtain ⟨v, s', e, v0, v1⟩ := pick_big c hc 0 0 900 (by decide) (by decide)
  rw [e]
  simp only [Option.bind_some]
  obtain ⟨ys, T', a', s2, q, hI⟩ := held_go c hc p kn hkn v (by omega) kn.length 0 k [] 0 (0 + 1 + 1) s' (by omega) (by omega) (by decide) (by omega) ⟨by simp, by simp, List.Pairwise.nil, List.Pairwise.nil, by simp, by decide⟩
  rw [show (v + 0) % 1000 = v by omega, show ((0 : Nat) : Int) = 0 from rfl] at q
  rw [q]
  exact ⟨ys, rfl, hr, hI.rng, hI.up, hI.dis⟩

/-! Rooms that are drawn are valid and have a free cell. -/
def wallC : Bool := (List.range 64).all fun u => (List.range 6).all fun x => [true, false].all fun on =>
  decide (0 ≤ wallV (u : Int) (x : Int) on) && ((List.range 7).all (fun w => !(decide (x < w) && decide (u < 2 ^ w)) || decide (wallV (u : Int) (x : Int) on < (2 ^ w : Nat))) && (on || (shr .u16 (wallV (u : Int) (x : Int) on) (x : Int) % 2 == 0)))
set_option maxRecDepth 100000 in
theorem wallC_true : wallC = true := by kernel_rfl
theorem wall_facts (w : Nat) (hw : w ≤ 6) (u x : Int) (on : Bool) (hx : 0 ≤ x ∧ x < (w : Int)) (hu : 0 ≤ u ∧ u < ((2 ^ w : Nat) : Int)) : (0 ≤ wallV u x on ∧ wallV u x on < ((2 ^ w : Nat) : Int)) ∧ (on = false → (shr .u16 (wallV u x on) x % 2 == 0) = true) := by
  obtain ⟨un, rfl⟩ := Int.eq_ofNat_of_zero_le hu.1
  obtain ⟨xn, rfl⟩ := Int.eq_ofNat_of_zero_le hx.1
  have h64 : (2 ^ w : Nat) ≤ 2 ^ 6 := Nat.pow_le_pow_right (by decide) hw
  have h := List.all_eq_true.1 wallC_true un (List.mem_range.2 (by omega))
  have h := List.all_eq_true.1 h xn (List.mem_range.2 (by omega))
  have h := List.all_eq_true.1 h on (by cases on <;> simp)
  rw [Bool.and_eq_true, Bool.and_eq_true] at h
  have h2 := List.all_eq_true.1 h.2.1 w (List.mem_range.2 (by omega))
  rw [decide_eq_true (show xn < w by omega), decide_eq_true (show un < 2 ^ w by omega), Bool.and_self, Bool.not_true, Bool.false_or] at h2
  refine ⟨⟨of_decide_eq_true h.1, of_decide_eq_true h2⟩, fun e => ?_⟩
  have h3 := h.2.2
  rw [e, Bool.false_or] at h3
  rw [e]; exact h3
structure RoomI (w h : Nat) (us : List Int) : Prop where
  len : us.length = 10
  row : ∀ j, j < 10 → (0 ≤ us.getD j 0 ∧ us.getD j 0 < ((2 ^ w : Nat) : Int)) ∧ (h ≤ j → us.getD j 0 = 0)
theorem getD_set (us : List Int) (y j : Nat) (v : Int) (hy : y < us.length) : (us.set y v).getD j 0 = if j = y then v else us.getD j 0 := by
  rw [List.getD_eq_getElem?_getD, List.getD_eq_getElem?_getD, List.getElem?_set]
  by_cases e : j = y
  · rw [if_pos e.symm, if_pos e, if_pos hy]; rfl
  · rw [if_neg (fun z => e z.symm), if_neg e]
theorem RoomI.wall {w h : Nat} {us : List Int} (H : RoomI w h us) (hw : w ≤ 6) (hh : h ≤ 6) (x : Int) (y : Nat) (on : Bool) (hx : 0 ≤ x ∧ x < (w : Int)) (hy : y < h) : RoomI w h (us.set y (wallV (us.getD y 0) x on)) := by
  have hl := H.len
  refine ⟨by rw [List.length_set]; exact hl, fun j hj => ?_⟩
  rw [getD_set _ _ _ _ (by omega)]
  by_cases e : j = y
  · rw [if_pos e]
    exact ⟨(wall_facts w hw _ x on hx (H.row y (by omega)).1).1, fun z => by omega⟩
  · rw [if_neg e]; exact H.row j hj
theorem wall_eq (W Hh : Int) (us : List Int) (hl : us.length = 10) (x y : Int) (on : Bool) (hy : 0 ≤ y ∧ y < 10) : ∃ us', us' = us.set y.toNat (wallV (us.getD y.toNat 0) x on) ∧ spec_l01Wall.f W Hh (us.getD 0 0) (us.getD 1 0) (us.getD 2 0) (us.getD 3 0) (us.getD 4 0) (us.getD 5 0) (us.getD 6 0) (us.getD 7 0) (us.getD 8 0) (us.getD 9 0) x y on = some (us'.getD 0 0, us'.getD 1 0, us'.getD 2 0, us'.getD 3 0, us'.getD 4 0, us'.getD 5 0, us'.getD 6 0, us'.getD 7 0, us'.getD 8 0, us'.getD 9 0) := by
  refine ⟨_, rfl, ?_⟩
  unfold spec_l01Wall.f
  rw [if_pos hy]
  unfold spec_l01Wall.us
  rw [← ten_of us hl]
theorem one_eq (c : List Int) (hc : srcOk c) (a s n : Int) (ha : 0 ≤ a ∧ a ≤ 900000) (hn : 2 ≤ n ∧ n ≤ 200) : ∃ b s', spec_l00Src_one.f c a s n = some (b, a + 1, s') := by
  obtain ⟨v, s', e, _⟩ := pick_eq c hc a s n (by omega) hn
  unfold spec_l00Src_one.f
  rw [e]
  exact ⟨_, _, rfl⟩
theorem pick_any (c : List Int) (hc : srcOk c) (a s n : Int) (ha : 0 ≤ a ∧ a ≤ 900000) (hn : 1 ≤ n ∧ n ≤ 200) : ∃ v a' s', spec_l00Src_pick.f c a s n = some (v, a', s') ∧ (0 ≤ v ∧ v ≤ n - 1) ∧ (a ≤ a' ∧ a' ≤ a + 1) := by
  by_cases h : n ≤ 1
  · unfold spec_l00Src_pick.f
    rw [if_pos h]
    exact ⟨_, _, _, rfl, by omega, by omega⟩
  · obtain ⟨v, s', e, h0, h1⟩ := pick_eq c hc a s n (by omega) (by omega)
    exact ⟨_, _, _, e, by omega, by omega⟩
theorem draw_l1 (c : List Int) (hc : srcOk c) (few : Int) (hf : 2 ≤ few ∧ few ≤ 200) (w h : Nat) (hw : 1 ≤ w ∧ w ≤ 6) (hh : 1 ≤ h ∧ h ≤ 6) (y : Nat) (hy : y < h) : ∀ (d i k : Nat) (a s : Int) (us : List Int), i + d = w → d < k → (0 ≤ a ∧ a + d ≤ 900000) → RoomI w h us →
    ∃ us' a' s', RoomI w h us' ∧ (a ≤ a' ∧ a' ≤ a + d) ∧ spec_l01Drawn.l1 k few (y : Int) (i : Int) c a s (w : Int) (h : Int) (us.getD 0 0) (us.getD 1 0) (us.getD 2 0) (us.getD 3 0) (us.getD 4 0) (us.getD 5 0) (us.getD 6 0) (us.getD 7 0) (us.getD 8 0) (us.getD 9 0) = spec_l01Drawn.l0 (k - (d + 1)) few ((y + 1 : Nat) : Int) c a' s' (w : Int) (h : Int) (us'.getD 0 0) (us'.getD 1 0) (us'.getD 2 0) (us'.getD 3 0) (us'.getD 4 0) (us'.getD 5 0) (us'.getD 6 0) (us'.getD 7 0) (us'.getD 8 0) (us'.getD 9 0) := by
  intro d
  induction d with
  | zero =>
    intro i k a s us hi hk ha H
    obtain ⟨k, rfl⟩ : ∃ m, k = m + 1 := ⟨k - 1, by omega⟩
    refine ⟨us, a, s, H, by omega, ?_⟩
    rw [spec_l01Drawn.l1, if_neg (by omega), show ((y : Int) + 1) = ((y + 1 : Nat) : Int) from rfl, i8_small (y + 1) (by omega)]
    rfl
  | succ d ih =>
    intro i k a s us hi hk ha H
    obtain ⟨k, rfl⟩ : ∃ m, k = m + 1 := ⟨k - 1, by omega⟩
    obtain ⟨b, s1, e1⟩ := one_eq c hc a s few (by omega) hf
    have ek : k + 1 - (d + 1 + 1) = k - (d + 1) := by omega
    rw [spec_l01Drawn.l1, if_pos (by omega), e1, Option.bind_some, show ((i : Int) + 1) = ((i + 1 : Nat) : Int) from rfl, i8_small (i + 1) (by omega), ek]
    by_cases hb : b = true
    · obtain ⟨us2, h2, e2⟩ := wall_eq (w : Int) (h : Int) us H.len (i : Int) (y : Int) true (by omega)
      rw [Int.toNat_natCast] at h2
      have H2 : RoomI w h us2 := by rw [h2]; exact H.wall hw.2 hh.2 (i : Int) y true (by omega) hy
      obtain ⟨us', a', s', g1, g2, g3⟩ := ih (i + 1) k (a + 1) s1 us2 (by omega) (by omega) (by omega) H2
      refine ⟨us', a', s', g1, by omega, ?_⟩
      rw [if_pos hb, e2, Option.bind_some]
      exact g3
    · obtain ⟨us', a', s', g1, g2, g3⟩ := ih (i + 1) k (a + 1) s1 us (by omega) (by omega) (by omega) H
      refine ⟨us', a', s', g1, by omega, ?_⟩
      rw [if_neg hb]
      exact g3
theorem RoomI.ok {w h : Nat} {us : List Int} (H : RoomI w h us) (hw : 1 ≤ w ∧ w ≤ 6) (hh : 1 ≤ h ∧ h ≤ 6) : okR (w : Int) (h : Int) us = true := by
  have h64 : (2 ^ w : Nat) ≤ 2 ^ 6 := Nat.pow_le_pow_right (by decide) hw.2
  have key : ∀ (l : List Int) (i : Nat), (∀ j, j < l.length → (0 ≤ l.getD j 0 ∧ l.getD j 0 < ((2 ^ w : Nat) : Int)) ∧ (h ≤ i + j → l.getD j 0 = 0)) → rowsR (w : Int) (h : Int) (i : Int) l = true := by
    intro l
    induction l with
    | nil => intro i _; rfl
    | cons x r ih =>
      intro i hx
      have h0 := hx 0 (by simp)
      have hr := ih (i + 1) (fun j hj => by
        have := hx (j + 1) (by simpa using hj)
        refine ⟨this.1, fun z => this.2 (by omega)⟩)
      have e0 : (x :: r).getD 0 0 = x := rfl
      rw [e0] at h0
      unfold rowsR
      have hs : shr .u16 x (w : Int) = 0 := by
        unfold shr
        rw [Int.toNat_natCast, Nat.min_eq_left (by show w ≤ 16; omega)]
        exact Int.ediv_eq_zero_of_lt h0.1.1 (by have := h0.1.2; simpa using this)
      rw [if_pos hs]
      by_cases c : (h : Int) ≤ (i : Int)
      · rw [if_pos c, if_pos (h0.2 (by omega))]; exact hr
      · rw [if_neg c]; exact hr
  have hl := H.len
  unfold okR
  rw [decide_eq_true (show 1 ≤ (w : Int) ∧ (w : Int) ≤ 10 by omega), decide_eq_true (show 1 ≤ (h : Int) ∧ (h : Int) ≤ 10 by omega), Bool.true_and, Bool.true_and]
  exact key us 0 (fun j hj => by
    have := H.row j (by omega)
    exact ⟨this.1, fun z => this.2 (by omega)⟩)
theorem draw_l0 (c : List Int) (hc : srcOk c) (few : Int) (hf : 2 ≤ few ∧ few ≤ 200) (w h : Nat) (hw : 1 ≤ w ∧ w ≤ 6) (hh : 1 ≤ h ∧ h ≤ 6) : ∀ (d y k : Nat) (a s : Int) (us : List Int), y + d = h → d * 10 + 1 < k → (0 ≤ a ∧ a + 10 * d + 10 ≤ 900000) → RoomI w h us →
    ∃ us' a' s', RoomI w h us' ∧ (∃ x y : Nat, x < w ∧ y < h ∧ freeR (w : Int) (h : Int) us' (x : Int) (y : Int) = true) ∧ spec_l01Drawn.l0 k few (y : Int) c a s (w : Int) (h : Int) (us.getD 0 0) (us.getD 1 0) (us.getD 2 0) (us.getD 3 0) (us.getD 4 0) (us.getD 5 0) (us.getD 6 0) (us.getD 7 0) (us.getD 8 0) (us.getD 9 0) = some ((w : Int), (h : Int), us'.getD 0 0, us'.getD 1 0, us'.getD 2 0, us'.getD 3 0, us'.getD 4 0, us'.getD 5 0, us'.getD 6 0, us'.getD 7 0, us'.getD 8 0, us'.getD 9 0, a', s') := by
  intro d
  induction d with
  | zero =>
    intro y k a s us hi hk ha H
    obtain ⟨k, rfl⟩ : ∃ m, k = m + 1 := ⟨k - 1, by omega⟩
    obtain ⟨v, a1, s1, e1, v1, v2⟩ := pick_any c hc a s (w : Int) (by omega) (by omega)
    obtain ⟨z, a2, s2, e2, z1, z2⟩ := pick_any c hc a1 s1 (h : Int) (by omega) (by omega)
    obtain ⟨xn, rfl⟩ := Int.eq_ofNat_of_zero_le v1.1
    obtain ⟨yn, rfl⟩ := Int.eq_ofNat_of_zero_le z1.1
    obtain ⟨us2, h2, e3⟩ := wall_eq (w : Int) (h : Int) us H.len (xn : Int) (yn : Int) false (by omega)
    rw [Int.toNat_natCast] at h2
    have hl := H.len
    have H2 : RoomI w h us2 := by rw [h2]; exact H.wall hw.2 hh.2 (xn : Int) yn false (by omega) (by omega)
    refine ⟨us2, a2, s2, H2, ⟨xn, yn, by omega, by omega, ?_⟩, ?_⟩
    · unfold freeR
      rw [Bool.and_eq_true]
      refine ⟨?_, ?_⟩
      · unfold cellR
        rw [decide_eq_true (by omega), decide_eq_true (by omega)]; rfl
      · rw [Int.toNat_natCast, h2, getD_set _ _ _ _ (by omega), if_pos rfl]
        exact (wall_facts w hw.2 _ (xn : Int) false (by omega) (H.row yn (by omega)).1).2 rfl
    · rw [spec_l01Drawn.l0, if_neg (by omega), wrap64_id (w : Int) (by omega) (by omega), wrap64_id (h : Int) (by omega) (by omega), e1, Option.bind_some]
      dsimp only
      rw [e2, Option.bind_some]
      dsimp only
      rw [i8_small xn (by omega), i8_small yn (by omega), e3, Option.bind_some]
  | succ d ih =>
    intro y k a s us hi hk ha H
    obtain ⟨k, rfl⟩ : ∃ m, k = m + 1 := ⟨k - 1, by omega⟩
    obtain ⟨us1, a1, s1, g1, g2, g3⟩ := draw_l1 c hc few hf w h hw hh y (by omega) w 0 k a s us (by omega) (by omega) (by omega) H
    obtain ⟨us', a', s', f1, f2, f3⟩ := ih (y + 1) (k - (w + 1)) a1 s1 us1 (by omega) (by omega) (by omega) g1
    refine ⟨us', a', s', f1, f2, ?_⟩
    rw [spec_l01Drawn.l0, if_pos (by omega)]
    rw [show ((0 : Nat) : Int) = 0 from rfl] at g3
    rw [g3]
    exact f3
theorem from_eq (c : List Int) : ∃ s, spec_l00From.f c = some (c, 0, s) := by
  unfold spec_l00From.f
  exact ⟨_, rfl⟩
theorem p6room_eq (c : List Int) (hc : srcOk c) (k : Nat) (hk : 100 ≤ k) : ∃ (w h : Nat) (us : List Int), spec_P6Room.f k c = some ((w : Int), (h : Int), us.getD 0 0, us.getD 1 0, us.getD 2 0, us.getD 3 0, us.getD 4 0, us.getD 5 0, us.getD 6 0, us.getD 7 0, us.getD 8 0, us.getD 9 0) ∧ (1 ≤ w ∧ w ≤ 6) ∧ (1 ≤ h ∧ h ≤ 6) ∧ RoomI w h us ∧ ∃ x y : Nat, x < w ∧ y < h ∧ freeR (w : Int) (h : Int) us (x : Int) (y : Int) = true := by
  obtain ⟨s, e0⟩ := from_eq c
  obtain ⟨v1, s1, e1, a1, b1⟩ := pick_eq c hc 0 s 6 (by omega) (by omega)
  obtain ⟨v2, s2, e2, a2, b2⟩ := pick_eq c hc (0 + 1) s1 6 (by omega) (by omega)
  obtain ⟨v3, s3, e3, a3, b3⟩ := pick_eq c hc (0 + 1 + 1) s2 6 (by omega) (by omega)
  obtain ⟨n1, rfl⟩ := Int.eq_ofNat_of_zero_le a1
  obtain ⟨n2, rfl⟩ := Int.eq_ofNat_of_zero_le a2
  have hz : ∀ j : Nat, j < 10 → ([0, 0, 0, 0, 0, 0, 0, 0, 0, 0] : List Int).getD j 0 = 0 := by decide
  have H : RoomI (n1 + 1) (n2 + 1) [0, 0, 0, 0, 0, 0, 0, 0, 0, 0] := ⟨rfl, fun j hj => by
    rw [hz j hj]
    have : 0 < 2 ^ (n1 + 1) := Nat.two_pow_pos _
    exact ⟨by omega, fun _ => rfl⟩⟩
  obtain ⟨us, a, s', h1, h2, h3⟩ := draw_l0 c hc (2 + v3) (by omega) (n1 + 1) (n2 + 1) (by omega) (by omega) (n2 + 1) 0 k (0 + 1 + 1 + 1) s3 _ (by omega) (by omega) (by omega) H
  refine ⟨n1 + 1, n2 + 1, us, ?_, by omega, by omega, h1, h2⟩
  unfold spec_P6Room.f spec_l01Drawn.f
  rw [e0, Option.bind_some]
  dsimp only
  rw [e1, Option.bind_some]
  dsimp only
  rw [e2, Option.bind_some]
  dsimp only
  rw [e3, Option.bind_some]
  dsimp only
  have w1 : IntKind.i8.wrap (wrap64 (1 + (n1 : Int))) = ((n1 + 1 : Nat) : Int) := by
    rw [wrap64_id _ (by omega) (by omega), show 1 + (n1 : Int) = ((n1 + 1 : Nat) : Int) by omega]
    exact i8_small (n1 + 1) (by omega)
  have w2 : IntKind.i8.wrap (wrap64 (1 + (n2 : Int))) = ((n2 + 1 : Nat) : Int) := by
    rw [wrap64_id _ (by omega) (by omega), show 1 + (n2 : Int) = ((n2 + 1 : Nat) : Int) by omega]
    exact i8_small (n2 + 1) (by omega)
  rw [w1, w2, wrap64_id (2 + v3) (by omega) (by omega)]
  rw [show ((0 : Nat) : Int) = 0 from rfl] at h3
  have h4 : spec_l01Drawn.l0 k (2 + v3) 0 c (0 + 1 + 1 + 1) s3 ((n1 + 1 : Nat) : Int) ((n2 + 1 : Nat) : Int) 0 0 0 0 0 0 0 0 0 0 = _ := h3
  rw [h4, Option.bind_some]

/-! Stands that are drawn are free cells. -/
theorem RoomI.rng {w h : Nat} {us : List Int} (H : RoomI w h us) (hw : w ≤ 6) (j : Nat) (hj : j < 10) : 0 ≤ us.getD j 0 ∧ us.getD j 0 < 65536 := by
  have h64 : (2 ^ w : Nat) ≤ 2 ^ 6 := Nat.pow_le_pow_right (by decide) hw
  have h2 := (H.row j hj).1
  have h3 : ((2 ^ w : Nat) : Int) ≤ ((2 ^ 6 : Nat) : Int) := Int.ofNat_le.2 h64
  have h4 : ((2 ^ 6 : Nat) : Int) = 64 := by decide
  omega
theorem free_us {w h : Nat} {us : List Int} (H : RoomI w h us) (hw : 1 ≤ w ∧ w ≤ 6) (hh : 1 ≤ h ∧ h ≤ 6) (x y : Int) (hx : -128 ≤ x ∧ x ≤ 127) (hy : -128 ≤ y ∧ y ≤ 127) : spec_l01Free.f (w : Int) (h : Int) (us.getD 0 0) (us.getD 1 0) (us.getD 2 0) (us.getD 3 0) (us.getD 4 0) (us.getD 5 0) (us.getD 6 0) (us.getD 7 0) (us.getD 8 0) (us.getD 9 0) x y = some (freeR (w : Int) (h : Int) us x y) := by
  have hr := H.rng hw.2
  rw [specFree_eq (w : Int) (h : Int) _ _ _ _ _ _ _ _ _ _ (by omega) (by omega) (hr 0 (by omega)) (hr 1 (by omega)) (hr 2 (by omega)) (hr 3 (by omega)) (hr 4 (by omega)) (hr 5 (by omega)) (hr 6 (by omega)) (hr 7 (by omega)) (hr 8 (by omega)) (hr 9 (by omega)) x y hx hy, ← ten_of us H.len]
def freeS (w h : Nat) (us : List Int) (s : S62) : Prop := freeR (w : Int) (h : Int) us s.f0 s.f1 = true
theorem all_l1 {w h : Nat} {us : List Int} (H : RoomI w h us) (hw : 1 ≤ w ∧ w ≤ 6) (hh : 1 ≤ h ∧ h ≤ 6) (y : Nat) (hy : y < h) : ∀ (d i k : Nat) (fs : List S62), i + d = w → d < k → fs.length + d ≤ 1000 → (∀ s ∈ fs, freeS w h us s) →
    ∃ fs', (∀ s ∈ fs', freeS w h us s) ∧ fs.length ≤ fs'.length ∧ fs'.length ≤ fs.length + d ∧ (∀ x : Nat, i ≤ x → x < w → freeR (w : Int) (h : Int) us (x : Int) (y : Int) = true → 1 ≤ fs'.length) ∧ spec_l01All.l1 k fs (y : Int) (i : Int) (w : Int) (h : Int) (us.getD 0 0) (us.getD 1 0) (us.getD 2 0) (us.getD 3 0) (us.getD 4 0) (us.getD 5 0) (us.getD 6 0) (us.getD 7 0) (us.getD 8 0) (us.getD 9 0) = spec_l01All.l0 (k - (d + 1)) fs' ((y + 1 : Nat) : Int) (w : Int) (h : Int) (us.getD 0 0) (us.getD 1 0) (us.getD 2 0) (us.getD 3 0) (us.getD 4 0) (us.getD 5 0) (us.getD 6 0) (us.getD 7 0) (us.getD 8 0) (us.getD 9 0) := by
  intro d
  induction d with
  | zero =>
    intro i k fs hi hk hl hf
    obtain ⟨k, rfl⟩ : ∃ m, k = m + 1 := ⟨k - 1, by omega⟩
    refine ⟨fs, hf, by omega, by omega, fun x h1 h2 _ => by omega, ?_⟩
    rw [spec_l01All.l1, if_neg (by omega), show ((y : Int) + 1) = ((y + 1 : Nat) : Int) from rfl, i8_small (y + 1) (by omega)]
    rfl
  | succ d ih =>
    intro i k fs hi hk hl hf
    obtain ⟨k, rfl⟩ : ∃ m, k = m + 1 := ⟨k - 1, by omega⟩
    have ek : k + 1 - (d + 1 + 1) = k - (d + 1) := by omega
    rw [spec_l01All.l1, if_pos (by omega), free_us H hw hh (i : Int) (y : Int) (by omega) (by omega), Option.bind_some, show ((i : Int) + 1) = ((i + 1 : Nat) : Int) from rfl, i8_small (i + 1) (by omega), ek]
    by_cases c : freeR (w : Int) (h : Int) us (i : Int) (y : Int) = true
    · obtain ⟨fs', g1, g2, g3, g4, g5⟩ := ih (i + 1) k (fs ++ [(⟨(i : Int), (y : Int)⟩ : S62)]) (by omega) (by omega) (by rw [List.length_append, List.length_singleton]; omega) (fun s hs => by
        rcases List.mem_append.1 hs with q | q
        · exact hf s q
        · rw [List.mem_singleton.1 q]; exact c)
      rw [List.length_append, List.length_singleton] at g2 g3
      refine ⟨fs', g1, by omega, by omega, fun x _ _ _ => by omega, ?_⟩
      rw [if_pos c, if_pos (by omega)]
      exact g5
    · obtain ⟨fs', g1, g2, g3, g4, g5⟩ := ih (i + 1) k fs (by omega) (by omega) (by omega) hf
      refine ⟨fs', g1, g2, by omega, fun x h1 h2 h3 => ?_, ?_⟩
      · by_cases e : x = i
        · subst e; exact absurd h3 c
        · exact g4 x (by omega) h2 h3
      · rw [if_neg c]
        exact g5
theorem all_l0 {w h : Nat} {us : List Int} (H : RoomI w h us) (hw : 1 ≤ w ∧ w ≤ 6) (hh : 1 ≤ h ∧ h ≤ 6) : ∀ (d y k : Nat) (fs : List S62), y + d = h → d * 10 < k → fs.length + 10 * d ≤ 1000 → (∀ s ∈ fs, freeS w h us s) →
    ∃ fs', (∀ s ∈ fs', freeS w h us s) ∧ fs.length ≤ fs'.length ∧ fs'.length ≤ fs.length + 6 * d ∧ (∀ x y' : Nat, y ≤ y' → y' < h → x < w → freeR (w : Int) (h : Int) us (x : Int) (y' : Int) = true → 1 ≤ fs'.length) ∧ spec_l01All.l0 k fs (y : Int) (w : Int) (h : Int) (us.getD 0 0) (us.getD 1 0) (us.getD 2 0) (us.getD 3 0) (us.getD 4 0) (us.getD 5 0) (us.getD 6 0) (us.getD 7 0) (us.getD 8 0) (us.getD 9 0) = some fs' := by
  intro d
  induction d with
  | zero =>
    intro y k fs hi hk hl hf
    obtain ⟨k, rfl⟩ : ∃ m, k = m + 1 := ⟨k - 1, by omega⟩
    refine ⟨fs, hf, by omega, by omega, fun x y' h1 h2 _ _ => by omega, ?_⟩
    rw [spec_l01All.l0, if_neg (by omega)]
  | succ d ih =>
    intro y k fs hi hk hl hf
    obtain ⟨k, rfl⟩ : ∃ m, k = m + 1 := ⟨k - 1, by omega⟩
    obtain ⟨f1, g1, g2, g3, g4, g5⟩ := all_l1 H hw hh y (by omega) w 0 k fs (by omega) (by omega) (by omega) hf
    obtain ⟨f2, e1, e2, e3, e4, e5⟩ := ih (y + 1) (k - (w + 1)) f1 (by omega) (by omega) (by omega) g1
    refine ⟨f2, e1, by omega, by omega, fun x y' h1 h2 h3 h4 => ?_, ?_⟩
    · by_cases e : y' = y
      · subst e
        have := g4 x (by omega) h3 h4
        omega
      · exact e4 x y' (by omega) h2 h3 h4
    · rw [spec_l01All.l0, if_pos (by omega)]
      rw [show ((0 : Nat) : Int) = 0 from rfl] at g5
      rw [g5]
      exact e5
theorem rd_spot_in (l : List S62) (i : Nat) (h : i < l.length) : rd_T62 l (i : Int) ∈ l := by
  unfold rd_T62
  rw [Int.toNat_natCast, List.getD_eq_getElem?_getD, List.getElem?_eq_getElem h]
  exact List.getElem_mem h
theorem stands_l0 (c : List Int) (hc : srcOk c) (fs : List S62) (h1 : 1 ≤ fs.length) (h2 : fs.length ≤ 200) (n : Nat) (hn : n ≤ 100) : ∀ (d j k : Nat) (a s : Int) (out : List S62), j + d = n → d < k → (0 ≤ a ∧ a + d ≤ 900000) → out.length = j → (∀ s ∈ out, s ∈ fs) →
    ∃ out', out'.length = n ∧ (∀ s ∈ out', s ∈ fs) ∧ spec_P6Stands.l0 k (n : Int) fs out (j : Int) c a s = some out' := by
  intro d
  induction d with
  | zero =>
    intro j k a s out hi hk ha hl ho
    obtain ⟨k, rfl⟩ : ∃ m, k = m + 1 := ⟨k - 1, by omega⟩
    refine ⟨out, by omega, ho, ?_⟩
    rw [spec_P6Stands.l0, if_neg (by omega)]
  | succ d ih =>
    intro j k a s out hi hk ha hl ho
    obtain ⟨k, rfl⟩ : ∃ m, k = m + 1 := ⟨k - 1, by omega⟩
    obtain ⟨v, a1, s1, e1, v1, v2⟩ := pick_any c hc a s (fs.length : Int) (by omega) (by omega)
    obtain ⟨vn, rfl⟩ := Int.eq_ofNat_of_zero_le v1.1
    have hm := rd_spot_in fs vn (by omega)
    obtain ⟨out', g1, g2, g3⟩ := ih (j + 1) k a1 s1 (out ++ [(⟨(rd_T62 fs (vn : Int)).f0, (rd_T62 fs (vn : Int)).f1⟩ : S62)]) (by omega) (by omega) (by omega) (by rw [List.length_append, List.length_singleton]; omega) (fun s hs => by
      rcases List.mem_append.1 hs with q | q
      · exact ho s q
      · rw [List.mem_singleton.1 q]; exact hm)
    refine ⟨out', g1, g2, ?_⟩
    rw [spec_P6Stands.l0, if_pos (by omega), if_pos (by omega), e1, Option.bind_some]
    dsimp only
    rw [if_pos (by omega), if_pos (by omega), if_pos (by omega), wrap_nat j (by omega)]
    exact g3
theorem p6stands_eq (c : List Int) (hc : srcOk c) {w h : Nat} {us : List Int} (H : RoomI w h us) (hw : 1 ≤ w ∧ w ≤ 6) (hh : 1 ≤ h ∧ h ≤ 6) (hx : ∃ x y : Nat, x < w ∧ y < h ∧ freeR (w : Int) (h : Int) us (x : Int) (y : Int) = true) (n : Nat) (hn : n ≤ 100) (k : Nat) (hk : 200 ≤ k) :
    ∃ sp, sp.length = n ∧ (∀ s ∈ sp, freeS w h us s) ∧ spec_P6Stands.f k c (w : Int) (h : Int) (us.getD 0 0) (us.getD 1 0) (us.getD 2 0) (us.getD 3 0) (us.getD 4 0) (us.getD 5 0) (us.getD 6 0) (us.getD 7 0) (us.getD 8 0) (us.getD 9 0) (n : Int) = some sp := by
  obtain ⟨x, y, x1, y1, xy⟩ := hx
  obtain ⟨s, e0⟩ := from_eq c
  obtain ⟨fs, g1, g2, g3, g4, g5⟩ := all_l0 H hw hh h 0 k [] (by omega) (by omega) (by simp; omega) (fun s hs => by simp at hs)
  have h1 := g4 x y (by omega) y1 x1 xy
  rw [List.length_nil] at g3
  obtain ⟨sp, f1, f2, f3⟩ := stands_l0 c hc fs h1 (by omega) n hn n 0 k 0 s [] (by omega) (by omega) (by omega) rfl (fun s hs => by simp at hs)
  refine ⟨sp, f1, fun s hs => g1 s (f2 s hs), ?_⟩
  rw [show ((0 : Nat) : Int) = 0 from rfl] at g5 f3
  unfold spec_P6Stands.f spec_l01All.f
  rw [e0, Option.bind_some, g5, Option.bind_some]
  exact f3

/-! How long the ways are. -/
def DB (l : List (Int × Int)) (M : Int × Int → Option Int) : Prop := ∀ s d, M s = some d → 0 ≤ d ∧ d < (l.length : Int)
theorem bfsIn_db (cur : Int × Int) : ∀ (nx l : List (Int × Int)) (M : Int × Int → Option Int) (l' : List (Int × Int)) (M' : Int × Int → Option Int), DB l M → Go.Proofs.Ytooidjdgfoioiaa.H.bfsIn cur nx l M = some (l', M') → DB l' M'
  | [], l, M, l', M', h, e => by
    unfold Go.Proofs.Ytooidjdgfoioiaa.H.bfsIn at e
    injection e with e
    injection e with e1 e2
    rw [← e1, ← e2]; exact h
  | s :: r, l, M, l', M', h, e => by
    unfold Go.Proofs.Ytooidjdgfoioiaa.H.bfsIn at e
    by_cases c : Go.Proofs.Ytooidjdgfoioiaa.H.inG s = true
    · rw [if_pos c] at e
      cases hM : M s with
      | some d => rw [hM] at e; exact bfsIn_db cur r l M l' M' h e
      | none =>
        rw [hM] at e
        dsimp only at e
        cases hc : M cur with
        | none => rw [hc] at e; cases e
        | some d =>
          rw [hc] at e
          dsimp only at e
          by_cases g : l.length < 1000
          · rw [if_pos g] at e
            refine bfsIn_db cur r _ _ l' M' (fun t x hx => ?_) e
            unfold Go.Proofs.Ytooidjdgfoioiaa.H.farPut at hx
            rw [List.length_append, List.length_singleton]
            by_cases q : t = s
            · rw [if_pos q] at hx
              injection hx with hx
              have := h cur d hc
              omega
            · rw [if_neg q] at hx
              have := h t x hx
              omega
          · rw [if_neg g] at e; cases e
    · rw [if_neg c] at e; cases e
theorem bfs_db (bes : Int × Int → Option (List (Int × Int))) (hb : ∀ s, Go.Proofs.Ytooidjdgfoioiaa.H.inG s = true → ∃ nx, bes s = some nx ∧ ∀ t ∈ nx, Go.Proofs.Ytooidjdgfoioiaa.H.inG t = true) : ∀ (k i : Nat) (l : List (Int × Int)) (M R : Int × Int → Option Int), BInv l M → DB l M → Go.Proofs.Ytooidjdgfoioiaa.H.bfs bes k i l M = some R → ∀ s d, R s = some d → 0 ≤ d ∧ d ≤ 99
  | 0, i, l, M, R, _, _, e => by unfold Go.Proofs.Ytooidjdgfoioiaa.H.bfs at e; cases e
  | k + 1, i, l, M, R, h, hd, e => by
    unfold Go.Proofs.Ytooidjdgfoioiaa.H.bfs at e
    by_cases c : i < l.length
    · obtain ⟨nx, e1, e2⟩ := hb l[i] (h.inl _ (List.getElem_mem c)).1
      obtain ⟨t, M', e3, e4⟩ := bfsIn_some l[i] nx l M e2 h (List.getElem_mem c)
      rw [dif_pos c, e1, Option.bind_some, e3, Option.bind_some] at e
      exact bfs_db bes hb k (i + 1) _ _ R e4 (bfsIn_db l[i] nx l M _ _ hd e3) e
    · rw [dif_neg c] at e
      injection e with e
      subst e
      intro s d hs
      have h1 := hd s d hs
      have h2 := h.len
      omega
theorem farR_rng (w h : Int) (us : List Int) (hw : w ≤ 10) (hh : h ≤ 10) (a b : Int × Int) (ha : Go.Proofs.Ytooidjdgfoioiaa.H.inG a = true) : ((farR w h us a b).2 = 0 ∧ 0 ≤ (farR w h us a b).1 ∧ (farR w h us a b).1 ≤ 99) ∨ farR w h us a b = (0, 6) := by
  obtain ⟨R, hR⟩ := bfs_some (fun s => some (nbR w h us s)) (fun s hs => ⟨_, rfl, nbR_in hw hh s⟩) 101 0 [a] (Go.Proofs.Ytooidjdgfoioiaa.H.farPut (fun _ => none) a 0) (BInv.one ha) (by decide) (by decide)
  have hd := bfs_db (fun s => some (nbR w h us s)) (fun s hs => ⟨_, rfl, nbR_in hw hh s⟩) 101 0 [a] (Go.Proofs.Ytooidjdgfoioiaa.H.farPut (fun _ => none) a 0) R (BInv.one ha) (fun s d hs => by
    unfold Go.Proofs.Ytooidjdgfoioiaa.H.farPut at hs
    by_cases q : s = a
    · rw [if_pos q] at hs; injection hs with hs; subst hs; simp
    · rw [if_neg q] at hs; cases hs) hR
  unfold farR bfsR
  rw [hR]
  dsimp only
  cases hb : R b with
  | none => exact Or.inr rfl
  | some d => exact Or.inl ⟨rfl, hd b d hb⟩
theorem far_pick (o : Option Int) : some (o.getD (-1)) = some (if (match o with | some d => ((d, 0) : Int × Int) | none => (0, 6)).2 = 0 then (match o with | some d => ((d, 0) : Int × Int) | none => (0, 6)).1 else -1) := by
  cases o <;> rfl
theorem p6steps_eq {w h : Nat} {us : List Int} (H : RoomI w h us) (hw : 1 ≤ w ∧ w ≤ 6) (hh : 1 ≤ h ∧ h ≤ 6) (x y x2 y2 : Int) (h1 : cellR (w : Int) (h : Int) x y = true) (h2 : cellR (w : Int) (h : Int) x2 y2 = true) (k : Nat) (hk : 110 ≤ k) :
    spec_P6Steps.f k (w : Int) (h : Int) (us.getD 0 0) (us.getD 1 0) (us.getD 2 0) (us.getD 3 0) (us.getD 4 0) (us.getD 5 0) (us.getD 6 0) (us.getD 7 0) (us.getD 8 0) (us.getD 9 0) x y x2 y2 = some (if (farR (w : Int) (h : Int) us (x, y) (x2, y2)).2 = 0 then (farR (w : Int) (h : Int) us (x, y) (x2, y2)).1 else -1) := by
  have hr := H.rng hw.2
  have ha := cell_in (show (w : Int) ≤ 10 by omega) (show (h : Int) ≤ 10 by omega) h1
  have hb2 := cell_in (show (w : Int) ≤ 10 by omega) (show (h : Int) ≤ 10 by omega) h2
  have hb := specBes_eq (w : Int) (h : Int) _ _ _ _ _ _ _ _ _ _ (by omega) (by omega) (hr 0 (by omega)) (hr 1 (by omega)) (hr 2 (by omega)) (hr 3 (by omega)) (hr 4 (by omega)) (hr 5 (by omega)) (hr 6 (by omega)) (hr 7 (by omega)) (hr 8 (by omega)) (hr 9 (by omega)) k (by omega)
  rw [← ten_of us H.len] at hb
  have e1 := bfs_congr _ (fun s => some (nbR (w : Int) (h : Int) us s)) (fun s hs => ⟨hb s hs, _, rfl, nbR_in (show (w : Int) ≤ 10 by omega) (show (h : Int) ≤ 10 by omega) s⟩) k 0 _ _ (BInv.one ha)
  obtain ⟨R, hR⟩ := bfs_some (fun s => some (nbR (w : Int) (h : Int) us s)) (fun s hs => ⟨_, rfl, nbR_in (show (w : Int) ≤ 10 by omega) (show (h : Int) ≤ 10 by omega) s⟩) 101 0 [(x, y)] (Go.Proofs.Ytooidjdgfoioiaa.H.farPut (fun _ => none) (x, y) 0) (BInv.one ha) (by decide) (by decide)
  have e2 := Go.Proofs.Ytooidjdgfoioiaa.H.bfs_mono (bes := fun s => some (nbR (w : Int) (h : Int) us s)) (fun s r e => e) 101 k (by omega) 0 _ _ R hR
  unfold spec_P6Steps.f Go.Proofs.Ytooidjdgfoioiaa.H.bfsFrom
  rw [if_pos ha, e1, e2, Option.bind_some, if_pos hb2]
  unfold farR bfsR
  rw [hR]
  dsimp only
  exact far_pick (R (x2, y2))

def runT : Int → List Int → Int
  | t, [] => t
  | t, x :: r => runT (wrap64 (t + x)) r
def runL : Int → List Int → List Int
  | _, [] => []
  | t, x :: r => wrap64 (t + x) :: runL (wrap64 (t + x)) r
theorem runT_cons (t x : Int) (r : List Int) : runT t (x :: r) = runT (wrap64 (t + x)) r := rfl
theorem runL_cons (t x : Int) (r : List Int) : runL t (x :: r) = wrap64 (t + x) :: runL (wrap64 (t + x)) r := rfl
theorem runL_len : ∀ (t : Int) (l : List Int), (runL t l).length = l.length
  | _, [] => rfl
  | t, x :: r => by unfold runL; rw [List.length_cons, List.length_cons, runL_len _ r]
def finR (z : Bool) (t : Int) (acc : List Int) : Int × List Int × Int := if z = true then (0, [], 4) else if t > 400 then (0, [], 3) else (IntKind.i16.wrap t, acc.map (fun x => IntKind.i16.wrap x), 0)
def ropeR (w h : Int) (us : List Int) (l : List S62) : Int × List Int × Int :=
  if okR w h us = true then (if (l.length : Int) > 40 then (0, [], 3) else (if (l.length : Int) < 2 then (0, [], 2) else (if l.all (fun s => cellR w h s.f0 s.f1) = true then (if codeF (stR w h us l) (l.length - 1) 1 = 0 then finR ((distF (stR w h us l) (l.length - 1) 1).any (fun x => x == 0)) (runT 0 (distF (stR w h us l) (l.length - 1) 1)) ([0] ++ runL 0 (distF (stR w h us l) (l.length - 1) 1)) else (0, [], codeF (stR w h us l) (l.length - 1) 1)) else (0, [], 2)))) else (0, [], 1)
theorem specMap_l1 (p : Int) (a : List Int) (ha : a.length ≤ 1048576) : ∀ (d i k : Nat), i + d = a.length → d < k → spec_RopeFor.l1 k a (i : Int) p ((a.take i).map (fun x => IntKind.i16.wrap x)) = some (p, a.map (fun x => IntKind.i16.wrap x), 0) := by
  intro d
  induction d with
  | zero =>
    intro i k hi hk
    obtain ⟨k, rfl⟩ : ∃ m, k = m + 1 := ⟨k - 1, by omega⟩
    rw [spec_RopeFor.l1, if_neg (by omega), List.take_of_length_le (by omega)]
  | succ d ihd =>
    intro i k hi hk
    obtain ⟨k, rfl⟩ : ∃ m, k = m + 1 := ⟨k - 1, by omega⟩
    rw [spec_RopeFor.l1, if_pos (by omega), if_pos (by omega), if_pos (by rw [List.length_map, List.length_take]; omega), wrap_nat i (by omega)]
    have e : (a.take i).map (fun x => IntKind.i16.wrap x) ++ [IntKind.i16.wrap (rd a (i : Int))] = (a.take (i + 1)).map (fun x => IntKind.i16.wrap x) := by
      rw [take_getD 0 a i (by omega), List.map_append, rd_nat]; rfl
    rw [e]
    exact ihd (i + 1) k (by omega) (by omega)
theorem specRopeF_l0 (w h u0 u1 u2 u3 u4 u5 u6 u7 u8 u9 : Int) (iw : -128 ≤ w ∧ w ≤ 127) (ih : -128 ≤ h ∧ h ≤ 127) (r0 : 0 ≤ u0 ∧ u0 < 65536) (r1 : 0 ≤ u1 ∧ u1 < 65536) (r2 : 0 ≤ u2 ∧ u2 < 65536) (r3 : 0 ≤ u3 ∧ u3 < 65536) (r4 : 0 ≤ u4 ∧ u4 < 65536) (r5 : 0 ≤ u5 ∧ u5 < 65536) (r6 : 0 ≤ u6 ∧ u6 < 65536) (r7 : 0 ≤ u7 ∧ u7 < 65536) (r8 : 0 ≤ u8 ∧ u8 < 65536) (r9 : 0 ≤ u9 ∧ u9 < 65536) (l : List S62) (hl : l.length ≤ 40) (hr : ∀ s ∈ l, spotR s) : ∀ (d i k : Nat) (z : Bool) (t : Int) (acc : List Int), i + d = l.length → 1 ≤ i → d + 300 < k → acc.length + d ≤ 100 → spec_RopeFor.l0 k l z t acc (i : Int) w h u0 u1 u2 u3 u4 u5 u6 u7 u8 u9 = some (if codeF (stR w h [u0, u1, u2, u3, u4, u5, u6, u7, u8, u9] l) d i = 0 then finR (z || (distF (stR w h [u0, u1, u2, u3, u4, u5, u6, u7, u8, u9] l) d i).any (fun x => x == 0)) (runT t (distF (stR w h [u0, u1, u2, u3, u4, u5, u6, u7, u8, u9] l) d i)) (acc ++ runL t (distF (stR w h [u0, u1, u2, u3, u4, u5, u6, u7, u8, u9] l) d i)) else (0, [], codeF (stR w h [u0, u1, u2, u3, u4, u5, u6, u7, u8, u9] l) d i)) := by
  intro d
  induction d with
  | zero =>
    intro i k z t acc hi h1 hk ha
    obtain ⟨k, rfl⟩ : ∃ m, k = m + 1 := ⟨k - 1, by omega⟩
    rw [spec_RopeFor.l0, if_neg (by omega)]
    unfold codeF distF runT runL finR
    rw [if_pos rfl, List.any_nil, Bool.or_false, List.append_nil]
    by_cases c : z = true
    · rw [if_pos c, if_pos c]
    · rw [if_neg c, if_neg c]
      by_cases g : t > 400
      · rw [if_pos g, if_pos g]
      · rw [if_neg g, if_neg g]
        have := specMap_l1 (IntKind.i16.wrap t) acc (by omega) acc.length 0 k (by omega) (by omega)
        rw [List.take_zero] at this
        exact this
  | succ d ihd =>
    intro i k z t acc hi h1 hk ha
    obtain ⟨k, rfl⟩ : ∃ m, k = m + 1 := ⟨k - 1, by omega⟩
    have e : wrap64 ((i : Int) - 1) = ((i - 1 : Nat) : Int) := by rw [wrap64_id _ (by omega) (by omega)]; omega
    have m1 := hr _ (rd_spot_mem l (i - 1) (by omega))
    have m2 := hr _ (rd_spot_mem l i (by omega))
    rw [spec_RopeFor.l0, e, if_pos (by omega), if_pos (by omega), if_pos (by omega), if_pos (by omega), specSteps_eq w h u0 u1 u2 u3 u4 u5 u6 u7 u8 u9 iw ih r0 r1 r2 r3 r4 r5 r6 r7 r8 r9 _ _ _ _ m1.1 m1.2 m2.1 m2.2 k (by omega), Option.bind_some]
    have hst : stepsR w h [u0, u1, u2, u3, u4, u5, u6, u7, u8, u9] (rd_T62 l ((i - 1 : Nat) : Int)).f0 (rd_T62 l ((i - 1 : Nat) : Int)).f1 (rd_T62 l (i : Int)).f0 (rd_T62 l (i : Int)).f1 = stR w h [u0, u1, u2, u3, u4, u5, u6, u7, u8, u9] l i := rfl
    rw [hst]
    unfold codeF distF
    by_cases c : (stR w h [u0, u1, u2, u3, u4, u5, u6, u7, u8, u9] l i).2 = 0
    · rw [if_pos c, if_pos c, wrap_nat i (by omega), List.any_cons]
      unfold runT runL
      have hap : ∀ (a : List Int) (x : Int) (r : List Int), a ++ x :: r = (a ++ [x]) ++ r := fun a x r => by rw [List.append_assoc]; rfl
      by_cases g : z = true
      · rw [if_pos g, if_pos (by omega), ihd (i + 1) k true _ _ (by omega) (by omega) (by omega) (by rw [List.length_append, List.length_singleton]; omega), g, Bool.true_or, Bool.true_or, ← hap]
      · rw [if_neg g, if_pos (by omega), ihd (i + 1) k _ _ _ (by omega) (by omega) (by omega) (by rw [List.length_append, List.length_singleton]; omega), Bool.eq_false_iff.2 g, Bool.false_or, ← hap]
    · rw [if_neg c, if_neg c, if_neg c]
theorem implRopeF_l0 (ds : List Int) (hd : ds.length ≤ 1000) : ∀ (d i k : Nat) (t : Int) (acc : List Int), i + d = ds.length → d < k → acc.length + d ≤ 2000 → impl_RopeFor.l0 k t acc ds (ds.length : Int) (i : Int) = some (if runT t (ds.drop i) > 400 then (0, [], 3) else (IntKind.i16.wrap (runT t (ds.drop i)), acc ++ (runL t (ds.drop i)).map (fun x => IntKind.i16.wrap x), 0)) := by
  intro d
  induction d with
  | zero =>
    intro i k t acc hi hk ha
    obtain ⟨k, rfl⟩ : ∃ m, k = m + 1 := ⟨k - 1, by omega⟩
    rw [impl_RopeFor.l0, if_neg (by omega), List.drop_eq_nil_of_le (by omega)]
    unfold runT runL
    rw [List.map_nil, List.append_nil]
    split <;> rfl
  | succ d ihd =>
    intro i k t acc hi hk ha
    obtain ⟨k, rfl⟩ : ∃ m, k = m + 1 := ⟨k - 1, by omega⟩
    rw [impl_RopeFor.l0, if_pos (by omega), if_pos (by omega), if_pos (by omega), if_pos (by omega), wrap_nat i (by omega), ihd (i + 1) k _ _ (by omega) (by omega) (by rw [List.length_append, List.length_singleton]; omega), drop_rd ds i (by omega), runT_cons, runL_cons, List.map_cons, List.append_assoc]
    rfl
theorem contains_l0 (l : List Int) (a : Int) (hl : l.length ≤ 1048576) : ∀ (d i k : Nat), i + d = l.length → d < k → ∃ q : Int, slices_Index_Sint64_int64.l0 k l a (l.length : Int) (i : Int) = some q ∧ decide (q ≥ 0) = (l.drop i).any (fun x => x == a) := by
  intro d
  induction d with
  | zero =>
    intro i k hi hk
    obtain ⟨k, rfl⟩ : ∃ m, k = m + 1 := ⟨k - 1, by omega⟩
    refine ⟨-1, ?_, ?_⟩
    · rw [slices_Index_Sint64_int64.l0, if_neg (by omega)]
    · rw [List.drop_eq_nil_of_le (by omega)]; rfl
  | succ d ihd =>
    intro i k hi hk
    obtain ⟨k, rfl⟩ : ∃ m, k = m + 1 := ⟨k - 1, by omega⟩
    obtain ⟨q, e1, e2⟩ := ihd (i + 1) k (by omega) (by omega)
    rw [slices_Index_Sint64_int64.l0, if_pos (by omega), if_pos (by omega), if_pos (by omega), drop_rd l i (by omega), wrap_nat i (by omega), List.any_cons]
    by_cases c : a = rd l (i : Int)
    · exact ⟨(i : Int), by rw [if_pos c], by rw [beq_iff_eq.2 c.symm, Bool.true_or]; exact decide_eq_true (by omega)⟩
    · exact ⟨q, by rw [if_neg c]; exact e1, by rw [e2, beq_eq_false_iff_ne.2 (fun x => c x.symm), Bool.false_or]⟩
theorem contains_eq (l : List Int) (a : Int) (hl : l.length ≤ 1048576) (k : Nat) (hk : l.length < k) : slices_Contains_Sint64_int64.f k l a = some (l.any (fun x => x == a)) := by
  unfold slices_Contains_Sint64_int64.f slices_Index_Sint64_int64.f
  obtain ⟨q, e1, e2⟩ := contains_l0 l a hl l.length 0 k (by omega) hk
  rw [show ((0 : Nat) : Int) = 0 from rfl] at e1
  rw [List.drop_zero] at e2
  rw [e1, Option.bind_some, e2]
theorem ropeR_len (w h : Int) (us : List Int) (l : List S62) : (ropeR w h us l).2.1.length ≤ 41 := by
  unfold ropeR finR
  split
  · split
    · exact Nat.zero_le _
    · split
      · exact Nat.zero_le _
      · split
        · split
          · split
            · exact Nat.zero_le _
            · split
              · exact Nat.zero_le _
              · dsimp only
                rw [List.length_map, List.length_append, runL_len, distF_len, List.length_singleton]
                omega
          · exact Nat.zero_le _
        · exact Nat.zero_le _
  · exact Nat.zero_le _
theorem specRopeFor_eq (w h u0 u1 u2 u3 u4 u5 u6 u7 u8 u9 : Int) (iw : -128 ≤ w ∧ w ≤ 127) (ih : -128 ≤ h ∧ h ≤ 127) (r0 : 0 ≤ u0 ∧ u0 < 65536) (r1 : 0 ≤ u1 ∧ u1 < 65536) (r2 : 0 ≤ u2 ∧ u2 < 65536) (r3 : 0 ≤ u3 ∧ u3 < 65536) (r4 : 0 ≤ u4 ∧ u4 < 65536) (r5 : 0 ≤ u5 ∧ u5 < 65536) (r6 : 0 ≤ u6 ∧ u6 < 65536) (r7 : 0 ≤ u7 ∧ u7 < 65536) (r8 : 0 ≤ u8 ∧ u8 < 65536) (r9 : 0 ≤ u9 ∧ u9 < 65536) (l : List S62) (hl : l.length ≤ 1048576) (hr : ∀ s ∈ l, spotR s) (k : Nat) (hk : 1048600 < k) : spec_RopeFor.f k w h u0 u1 u2 u3 u4 u5 u6 u7 u8 u9 l = some (ropeR w h [u0, u1, u2, u3, u4, u5, u6, u7, u8, u9] l) := by
  unfold spec_RopeFor.f ropeR
  rw [specOk_eq w h u0 u1 u2 u3 u4 u5 u6 u7 u8 u9 iw ih k (by omega), Option.bind_some]
  by_cases c : okR w h [u0, u1, u2, u3, u4, u5, u6, u7, u8, u9] = true
  · rw [if_pos c, if_pos c]
    by_cases h4 : (l.length : Int) > 40
    · rw [if_pos h4, if_pos h4]
    · obtain ⟨k, rfl⟩ : ∃ m, k = m + 1 := ⟨k - 1, by omega⟩
      rw [if_neg h4, if_neg h4]
      by_cases h2 : (l.length : Int) < 2
      · rw [if_pos h2, if_pos h2, spec_RopeFor.j0, if_pos rfl]
      · rw [if_neg h2, if_neg h2, specCells_eq w h u0 u1 u2 u3 u4 u5 u6 u7 u8 u9 iw ih l hl hr _ (by omega), Option.bind_some, spec_RopeFor.j0]
        by_cases ca : l.all (fun s => cellR w h s.f0 s.f1) = true
        · rw [ca, if_neg (by decide), if_pos rfl]
          have := specRopeF_l0 w h u0 u1 u2 u3 u4 u5 u6 u7 u8 u9 iw ih r0 r1 r2 r3 r4 r5 r6 r7 r8 r9 l (by omega) hr (l.length - 1) 1 k false 0 [0] (by omega) (Nat.le_refl _) (by omega) (by simp; omega)
          rw [Bool.false_or] at this
          exact this
        · rw [Bool.eq_false_iff.2 ca, if_pos (show (!false) = true from rfl), if_neg (by decide)]
  · rw [if_neg c, if_neg c]
theorem implRopeFor_eq (w h u0 u1 u2 u3 u4 u5 u6 u7 u8 u9 : Int) (iw : -128 ≤ w ∧ w ≤ 127) (ih : -128 ≤ h ∧ h ≤ 127) (r0 : 0 ≤ u0 ∧ u0 < 65536) (r1 : 0 ≤ u1 ∧ u1 < 65536) (r2 : 0 ≤ u2 ∧ u2 < 65536) (r3 : 0 ≤ u3 ∧ u3 < 65536) (r4 : 0 ≤ u4 ∧ u4 < 65536) (r5 : 0 ≤ u5 ∧ u5 < 65536) (r6 : 0 ≤ u6 ∧ u6 < 65536) (r7 : 0 ≤ u7 ∧ u7 < 65536) (r8 : 0 ≤ u8 ∧ u8 < 65536) (r9 : 0 ≤ u9 ∧ u9 < 65536) (l : List S62) (hl : l.length ≤ 1048576) (hr : ∀ s ∈ l, spotR s) (k : Nat) (hk : 1048600 < k) : impl_RopeFor.f k w h u0 u1 u2 u3 u4 u5 u6 u7 u8 u9 l = some (ropeR w h [u0, u1, u2, u3, u4, u5, u6, u7, u8, u9] l) := by
  unfold impl_RopeFor.f ropeR
  rw [implOk_eq w h u0 u1 u2 u3 u4 u5 u6 u7 u8 u9 iw ih, Option.bind_some]
  by_cases c : okR w h [u0, u1, u2, u3, u4, u5, u6, u7, u8, u9] = true
  · have ho := okR_iff c
    rw [if_pos c, if_pos c]
    by_cases h4 : (l.length : Int) > 40
    · rw [if_pos h4, if_pos h4]
    · rw [if_neg h4, if_neg h4]
      by_cases h2 : (l.length : Int) < 2
      · rw [if_pos h2, if_pos h2]
      · rw [if_neg h2, if_neg h2, cellCode_eq w h u0 u1 u2 u3 u4 u5 u6 u7 u8 u9 iw ih l hl hr k (by omega), Option.bind_some, if_pos c, any_all w h ho.1.2 ho.2.2 l]
        by_cases ca : l.all (fun s => cellR w h s.f0 s.f1) = true
        · rw [ca, if_pos rfl]
          rw [show (if (!true) = true then (2 : Int) else 0) = 0 from rfl, if_pos rfl, implAlong_eq w h u0 u1 u2 u3 u4 u5 u6 u7 u8 u9 iw ih r0 r1 r2 r3 r4 r5 r6 r7 r8 r9 l hl hr k (by omega), Option.bind_some]
          by_cases cz : codeF (stR w h [u0, u1, u2, u3, u4, u5, u6, u7, u8, u9] l) (l.length - 1) 1 = 0
          · rw [if_pos cz, if_pos cz]
            dsimp only
            rw [if_pos rfl, contains_eq _ 0 (by rw [distF_len]; omega) k (by rw [distF_len]; omega), Option.bind_some]
            unfold finR
            by_cases g : (distF (stR w h [u0, u1, u2, u3, u4, u5, u6, u7, u8, u9] l) (l.length - 1) 1).any (fun x => x == 0) = true
            · rw [if_pos g, if_pos g]
            · rw [if_neg g, if_neg g]
              have := implRopeF_l0 (distF (stR w h [u0, u1, u2, u3, u4, u5, u6, u7, u8, u9] l) (l.length - 1) 1) (by rw [distF_len]; omega) (l.length - 1) 0 k 0 [0] (by rw [distF_len]; omega) (by omega) (by simp; omega)
              rw [List.drop_zero, show ((0 : Nat) : Int) = 0 from rfl] at this
              rw [this, List.map_append]
              rfl
          · rw [if_neg cz, if_neg cz]
            dsimp only
            rw [if_neg cz]
        · rw [if_neg ca, Bool.eq_false_iff.2 ca]
          rw [show (if (!false) = true then (2 : Int) else 0) = 2 from rfl, if_neg (by decide)]
  · rw [if_neg c, if_neg c]

instance decHold : DecidableEq S65 := fun x y =>
  if h : x.f0 = y.f0 ∧ x.f1 = y.f1 then isTrue (by obtain ⟨a, b⟩ := x; obtain ⟨a', b'⟩ := y; simp only at h; rw [h.1, h.2]) else isFalse (fun e => h (by rw [e]; exact ⟨rfl, rfl⟩))
def listF (g : Nat → Int) : Nat → Nat → List Int
  | 0, _ => []
  | d + 1, i => g i :: listF g d (i + 1)
theorem listF_len (g : Nat → Int) : ∀ d i, (listF g d i).length = d
  | 0, _ => rfl
  | d + 1, i => by unfold listF; rw [List.length_cons, listF_len g d (i + 1)]
theorem distF_list (st : Nat → Int × Int) : ∀ d i, distF st d i = listF (fun i => (st i).1) d i
  | 0, _ => rfl
  | d + 1, i => by unfold distF listF; rw [distF_list st d (i + 1)]
theorem listF_rd (g : Nat → Int) : ∀ (d i j : Nat), j < d → rd (listF g d i) (j : Int) = g (i + j)
  | 0, _, _, h => absurd h (by omega)
  | d + 1, i, 0, _ => rfl
  | d + 1, i, j + 1, h => by
    have := listF_rd g d (i + 1) j (by omega)
    rw [rd_nat] at this ⊢
    unfold listF
    rw [List.getD_cons_succ, this]
    congr 1; omega
theorem up_le (l : List Int) : ∀ (d i : Nat), 1 ≤ i → upFrom l d i = true → ∀ j, i ≤ j → j < i + d → rd l ((j : Int) - 1) < rd l (j : Int) := by
  intro d
  induction d with
  | zero => intro i _ _ j h1 h2; omega
  | succ d ihd =>
    intro i h1 hu j h2 h3
    unfold upFrom at hu
    rw [Bool.and_eq_true] at hu
    by_cases e : j = i
    · subst e
      have := hu.1
      simp at this
      omega
    · exact ihd (i + 1) (by omega) hu.2 j (by omega) (by omega)
theorem rope_up (p : Int) (l : List Int) (h : ropeOk p l = true) : ∀ (j : Nat), j < l.length → (0 ≤ rd l (j : Int)) ∧ ∀ i, j ≤ i → i < l.length → rd l (j : Int) ≤ rd l (i : Int) := by
  unfold ropeOk at h
  simp only [Bool.and_eq_true, decide_eq_true_eq] at h
  obtain ⟨h1, h2, h3, h4, h5⟩ := h
  have up := up_le l (l.length - 1) 1 (Nat.le_refl _) h5
  have mono : ∀ (j i : Nat), j ≤ i → i < l.length → rd l (j : Int) ≤ rd l (i : Int) := by
    intro j i hji
    induction i with
    | zero => intro _; obtain rfl : j = 0 := by omega
              exact Int.le_refl _
    | succ i ihi =>
      intro hi
      by_cases e : j = i + 1
      · subst e; exact Int.le_refl _
      · have a := ihi (by omega) (by omega)
        have b := up (i + 1) (by omega) (by omega)
        rw [show ((i + 1 : Nat) : Int) - 1 = (i : Int) from by omega] at b
        omega
  intro j hj
  refine ⟨?_, fun i h1 h2 => mono j i h1 h2⟩
  have := mono 0 j (by omega) hj
  rw [show ((0 : Nat) : Int) = 0 from rfl, h3] at this
  exact this
theorem rope_rng (p : Int) (l : List Int) (h : ropeOk p l = true) (j : Nat) (hj : j < l.length) : 0 ≤ rd l (j : Int) ∧ rd l (j : Int) ≤ 400 := by
  obtain ⟨a, b⟩ := rope_up p l h j hj
  have c := b (l.length - 1) (by omega) (by omega)
  unfold ropeOk at h
  simp only [Bool.and_eq_true, decide_eq_true_eq] at h
  obtain ⟨h1, h2, h3, h4, h5⟩ := h
  rw [show ((l.length - 1 : Nat) : Int) = (l.length : Int) - 1 from by omega, h4] at c
  omega
theorem holds_at (l : List S65) (n : Int) : ∀ (d i : Nat), holdsFrom l n d i = true → ∀ j, i ≤ j → j < i + d → 0 ≤ (rd_T65 l (j : Int)).f1 ∧ (rd_T65 l (j : Int)).f1 ≤ n - 1 := by
  intro d
  induction d with
  | zero => intro i _ j h1 h2; omega
  | succ d ihd =>
    intro i hh j h1 h2
    unfold holdsFrom at hh
    rw [Bool.and_eq_true] at hh
    by_cases e : j = i
    · subst e
      have := hh.1
      unfold holdAt at this
      rw [Bool.and_eq_true, Bool.and_eq_true, decide_eq_true_eq, decide_eq_true_eq] at this
      exact this.2.1
    · exact ihd (i + 1) hh.2 j (by omega) (by omega)
def gapG (kn : List Int) (l : List S65) (i : Nat) : Int := rd kn (rd_T65 l (i : Int)).f1 - rd kn (rd_T65 l ((i - 1 : Nat) : Int)).f1
theorem gap_facts (p : Int) (kn : List Int) (l : List S65) (hh : holdsOk p kn l = true) (i : Nat) (hi : i < l.length) : (0 ≤ (rd_T65 l (i : Int)).f1 ∧ (rd_T65 l (i : Int)).f1 < (kn.length : Int)) ∧ 0 ≤ rd kn (rd_T65 l (i : Int)).f1 ∧ rd kn (rd_T65 l (i : Int)).f1 ≤ 400 := by
  unfold holdsOk at hh
  rw [Bool.and_eq_true] at hh
  have a := holds_at l _ l.length 0 hh.2 i (Nat.zero_le _) (by omega)
  have e : (rd_T65 l (i : Int)).f1 = ((rd_T65 l (i : Int)).f1.toNat : Int) := by omega
  refine ⟨by omega, ?_⟩
  rw [e]
  exact rope_rng p kn hh.1 _ (by omega)
theorem gaps_l0 (p : Int) (kn : List Int) (l : List S65) (hl : l.length ≤ 1048576) (hh : holdsOk p kn l = true) : ∀ (d i k : Nat) (acc : List Int), i + d = l.length → 1 ≤ i → d < k → acc.length + d ≤ 1048576 → spec_l03Gaps.l0 k l acc (i : Int) p kn = some (acc ++ listF (gapG kn l) d i) ∧ impl_GapsOf.l0 k l acc (i : Int) p kn = some (acc ++ listF (gapG kn l) d i, 0) := by
  intro d
  induction d with
  | zero =>
    intro i k acc hi h1 hk ha
    obtain ⟨k, rfl⟩ : ∃ m, k = m + 1 := ⟨k - 1, by omega⟩
    rw [spec_l03Gaps.l0, impl_GapsOf.l0, if_neg (by omega), if_neg (by omega)]
    unfold listF
    rw [List.append_nil]
    exact ⟨rfl, rfl⟩
  | succ d ihd =>
    intro i k acc hi h1 hk ha
    obtain ⟨k, rfl⟩ : ∃ m, k = m + 1 := ⟨k - 1, by omega⟩
    have e : wrap64 ((i : Int) - 1) = ((i - 1 : Nat) : Int) := by rw [wrap64_id _ (by omega) (by omega)]; omega
    obtain ⟨⟨f1, f2⟩, f3, f4⟩ := gap_facts p kn l hh i (by omega)
    obtain ⟨⟨g1, g2⟩, g3, g4⟩ := gap_facts p kn l hh (i - 1) (by omega)
    have hg : gapG kn l i = rd kn (rd_T65 l (i : Int)).f1 - rd kn (rd_T65 l ((i - 1 : Nat) : Int)).f1 := rfl
    have e1 : wrap64 (wrap64 (rd kn (rd_T65 l (i : Int)).f1) - wrap64 (rd kn (rd_T65 l ((i - 1 : Nat) : Int)).f1)) = gapG kn l i := by
      rw [wrap64_id (rd kn (rd_T65 l (i : Int)).f1) (by omega) (by omega), wrap64_id (rd kn (rd_T65 l ((i - 1 : Nat) : Int)).f1) (by omega) (by omega), wrap64_id _ (by omega) (by omega), hg]
    have e2 : wrap64 (IntKind.i16.wrap (rd kn (rd_T65 l (i : Int)).f1 - rd kn (rd_T65 l ((i - 1 : Nat) : Int)).f1)) = gapG kn l i := by
      have : IntKind.i16.wrap (rd kn (rd_T65 l (i : Int)).f1 - rd kn (rd_T65 l ((i - 1 : Nat) : Int)).f1) = rd kn (rd_T65 l (i : Int)).f1 - rd kn (rd_T65 l ((i - 1 : Nat) : Int)).f1 := by simp [IntKind.wrap, IntKind.bits, IntKind.signed]; omega
      rw [this, wrap64_id _ (by omega) (by omega), hg]
    have q := ihd (i + 1) k (acc ++ [gapG kn l i]) (by omega) (by omega) (by omega) (by rw [List.length_append, List.length_singleton]; omega)
    have hap : acc ++ listF (gapG kn l) (d + 1) i = (acc ++ [gapG kn l i]) ++ listF (gapG kn l) d (i + 1) := by rw [List.append_assoc]; rfl
    constructor
    · rw [spec_l03Gaps.l0, e, if_pos (by omega), if_pos (by omega), if_pos f1, if_pos f2, if_pos (by omega), if_pos (by omega), if_pos g1, if_pos g2, if_pos (by omega), wrap_nat i (by omega), e1, hap]
      exact q.1
    · rw [impl_GapsOf.l0, e, if_pos (by omega), if_pos (by omega), if_pos f1, if_pos f2, if_pos (by omega), if_pos (by omega), if_pos g1, if_pos g2, if_pos (by omega), wrap_nat i (by omega), e2, hap]
      exact q.2
theorem gaps_eq (p : Int) (kn : List Int) (l : List S65) (hl : l.length ≤ 1048576) (hh : holdsOk p kn l = true) (k : Nat) (hk : l.length < k) : spec_l03Gaps.f k p kn l = some (listF (gapG kn l) (l.length - 1) 1) ∧ impl_GapsOf.l0 k l [] 1 p kn = some (listF (gapG kn l) (l.length - 1) 1, 0) := by
  unfold spec_l03Gaps.f
  by_cases c : l.length = 0
  · obtain ⟨k, rfl⟩ : ∃ m, k = m + 1 := ⟨k - 1, by omega⟩
    rw [spec_l03Gaps.l0, impl_GapsOf.l0, if_neg (by omega), if_neg (by omega), c]
    exact ⟨rfl, rfl⟩
  · have := gaps_l0 p kn l hl hh (l.length - 1) 1 k [] (by omega) (Nat.le_refl _) (by omega) (by simp; omega)
    rwa [List.nil_append] at this
def slkZ (g : Nat → Int) (st : Nat → Int × Int) (i : Nat) : Int := wrap64 (g i - (st i).1)
theorem specSlack_l0 (w h u0 u1 u2 u3 u4 u5 u6 u7 u8 u9 : Int) (iw : -128 ≤ w ∧ w ≤ 127) (ih : -128 ≤ h ∧ h ≤ 127) (r0 : 0 ≤ u0 ∧ u0 < 65536) (r1 : 0 ≤ u1 ∧ u1 < 65536) (r2 : 0 ≤ u2 ∧ u2 < 65536) (r3 : 0 ≤ u3 ∧ u3 < 65536) (r4 : 0 ≤ u4 ∧ u4 < 65536) (r5 : 0 ≤ u5 ∧ u5 < 65536) (r6 : 0 ≤ u6 ∧ u6 < 65536) (r7 : 0 ≤ u7 ∧ u7 < 65536) (r8 : 0 ≤ u8 ∧ u8 < 65536) (r9 : 0 ≤ u9 ∧ u9 < 65536) (l : List S62) (hl : l.length ≤ 1048576) (hr : ∀ s ∈ l, spotR s) (g : Nat → Int) : ∀ (d i k : Nat) (acc : List Int), i + d = l.length → 1 ≤ i → d + 120 < k → acc.length + d ≤ 1048576 → spec_SlacksOf.l0 k l acc (listF g (l.length - 1) 1) (i : Int) w h u0 u1 u2 u3 u4 u5 u6 u7 u8 u9 = some (if codeF (stR w h [u0, u1, u2, u3, u4, u5, u6, u7, u8, u9] l) d i = 0 then (acc ++ listF (slkZ g (stR w h [u0, u1, u2, u3, u4, u5, u6, u7, u8, u9] l)) d i, 0) else ([], codeF (stR w h [u0, u1, u2, u3, u4, u5, u6, u7, u8, u9] l) d i)) := by
  intro d
  induction d with
  | zero =>
    intro i k acc hi h1 hk ha
    obtain ⟨k, rfl⟩ : ∃ m, k = m + 1 := ⟨k - 1, by omega⟩
    rw [spec_SlacksOf.l0, if_neg (by omega)]
    unfold codeF listF
    rw [if_pos rfl, List.append_nil]
  | succ d ihd =>
    intro i k acc hi h1 hk ha
    obtain ⟨k, rfl⟩ : ∃ m, k = m + 1 := ⟨k - 1, by omega⟩
    have e : wrap64 ((i : Int) - 1) = ((i - 1 : Nat) : Int) := by rw [wrap64_id _ (by omega) (by omega)]; omega
    have m1 := hr _ (rd_spot_mem l (i - 1) (by omega))
    have m2 := hr _ (rd_spot_mem l i (by omega))
    rw [spec_SlacksOf.l0, e, if_pos (by omega), if_pos (by omega), if_pos (by omega), if_pos (by omega), specSteps_eq w h u0 u1 u2 u3 u4 u5 u6 u7 u8 u9 iw ih r0 r1 r2 r3 r4 r5 r6 r7 r8 r9 _ _ _ _ m1.1 m1.2 m2.1 m2.2 k (by omega), Option.bind_some]
    have hst : stepsR w h [u0, u1, u2, u3, u4, u5, u6, u7, u8, u9] (rd_T62 l ((i - 1 : Nat) : Int)).f0 (rd_T62 l ((i - 1 : Nat) : Int)).f1 (rd_T62 l (i : Int)).f0 (rd_T62 l (i : Int)).f1 = stR w h [u0, u1, u2, u3, u4, u5, u6, u7, u8, u9] l i := rfl
    have hgi : rd (listF g (l.length - 1) 1) ((i - 1 : Nat) : Int) = g i := by rw [listF_rd g _ 1 (i - 1) (by omega)]; congr 1; omega
    have hap : acc ++ listF (slkZ g (stR w h [u0, u1, u2, u3, u4, u5, u6, u7, u8, u9] l)) (d + 1) i = (acc ++ [slkZ g (stR w h [u0, u1, u2, u3, u4, u5, u6, u7, u8, u9] l) i]) ++ listF (slkZ g (stR w h [u0, u1, u2, u3, u4, u5, u6, u7, u8, u9] l)) d (i + 1) := by rw [List.append_assoc]; rfl
    rw [hst, hap]
    unfold codeF
    by_cases c : (stR w h [u0, u1, u2, u3, u4, u5, u6, u7, u8, u9] l i).2 = 0
    · rw [if_pos c, if_pos c, if_pos (by rw [listF_len]; omega), if_pos (by omega), wrap_nat i (by omega), hgi]
      exact ihd (i + 1) k (acc ++ [slkZ g (stR w h [u0, u1, u2, u3, u4, u5, u6, u7, u8, u9] l) i]) (by omega) (by omega) (by omega) (by rw [List.length_append, List.length_singleton]; omega)
    · rw [if_neg c, if_neg c, if_neg c]
theorem implSlack_l0 (g : Nat → Int) (st : Nat → Int × Int) (n : Nat) (hn : n ≤ 1048576) : ∀ (d j k : Nat), j + d = n → d < k → impl_SlacksOf.l0 k ((listF (slkZ g st) n 1).take j ++ (listF g n 1).drop j) (distF st n 1) (n : Int) (j : Int) = some (listF (slkZ g st) n 1, 0) := by
  intro d
  induction d with
  | zero =>
    intro j k hj hk
    obtain ⟨k, rfl⟩ : ∃ m, k = m + 1 := ⟨k - 1, by omega⟩
    rw [impl_SlacksOf.l0, if_neg (by omega), List.take_of_length_le (by rw [listF_len]; omega), List.drop_eq_nil_of_le (by rw [listF_len]; omega), List.append_nil]
  | succ d ihd =>
    intro j k hj hk
    obtain ⟨k, rfl⟩ : ∃ m, k = m + 1 := ⟨k - 1, by omega⟩
    have hlt : ((listF (slkZ g st) n 1).take j).length = j := by rw [List.length_take, listF_len]; omega
    have hlen : ((listF (slkZ g st) n 1).take j ++ (listF g n 1).drop j).length = n := by rw [List.length_append, hlt, List.length_drop, listF_len]; omega
    have hrd : rd ((listF (slkZ g st) n 1).take j ++ (listF g n 1).drop j) (j : Int) = g (1 + j) := by
      rw [rd_nat, drop_rd _ j (by rw [listF_len]; omega), listF_rd g n 1 j (by omega), List.getD_eq_getElem?_getD, List.getElem?_append_right (by omega), hlt, Nat.sub_self]
      rfl
    have hd2 : rd (distF st n 1) (j : Int) = (st (1 + j)).1 := by rw [distF_list, listF_rd _ n 1 j (by omega)]
    rw [impl_SlacksOf.l0, if_pos (by omega), if_pos (by omega), if_pos (by rw [hlen]; omega), if_pos (by rw [distF_len]; omega), hrd, hd2, wrap_nat j (by omega), Int.toNat_natCast, set_drop _ _ j _ hlt (by rw [listF_len]; omega)]
    have ht : (listF (slkZ g st) n 1).take j ++ [wrap64 (g (1 + j) - (st (1 + j)).1)] = (listF (slkZ g st) n 1).take (j + 1) := by
      rw [take_getD 0 _ j (by rw [listF_len]; omega), ← rd_nat, listF_rd _ n 1 j (by omega)]
      rfl
    rw [ht]
    exact ihd (j + 1) k (by omega) (by omega)
def slackR (w h : Int) (us : List Int) (p : Int) (kn : List Int) (l2 : List S65) (l3 : List S62) : List Int × Int :=
  if okR w h us = true ∧ holdsOk p kn l2 = true then (if l3.length = l2.length ∧ l3.all (fun s => cellR w h s.f0 s.f1) = true then (if codeF (stR w h us l3) (l3.length - 1) 1 = 0 then (listF (slkZ (gapG kn l2) (stR w h us l3)) (l3.length - 1) 1, 0) else ([], codeF (stR w h us l3) (l3.length - 1) 1)) else ([], 2)) else ([], 1)
theorem slackR_len (w h : Int) (us : List Int) (p : Int) (kn : List Int) (l2 : List S65) (l3 : List S62) : (slackR w h us p kn l2 l3).1.length ≤ l3.length := by
  unfold slackR
  split
  · split
    · split
      · dsimp only; rw [listF_len]; omega
      · exact Nat.zero_le _
    · exact Nat.zero_le _
  · exact Nat.zero_le _
theorem specSlack_eq (w h u0 u1 u2 u3 u4 u5 u6 u7 u8 u9 : Int) (iw : -128 ≤ w ∧ w ≤ 127) (ih : -128 ≤ h ∧ h ≤ 127) (r0 : 0 ≤ u0 ∧ u0 < 65536) (r1 : 0 ≤ u1 ∧ u1 < 65536) (r2 : 0 ≤ u2 ∧ u2 < 65536) (r3 : 0 ≤ u3 ∧ u3 < 65536) (r4 : 0 ≤ u4 ∧ u4 < 65536) (r5 : 0 ≤ u5 ∧ u5 < 65536) (r6 : 0 ≤ u6 ∧ u6 < 65536) (r7 : 0 ≤ u7 ∧ u7 < 65536) (r8 : 0 ≤ u8 ∧ u8 < 65536) (r9 : 0 ≤ u9 ∧ u9 < 65536) (p : Int) (hp : -32768 ≤ p ∧ p ≤ 32767) (kn : List Int) (l2 : List S65) (l3 : List S62) (hkn : kn.length ≤ 1048576) (hl2 : l2.length ≤ 1048576) (hl3 : l3.length ≤ 1048576) (hr2 : ∀ x ∈ l2, holdR x) (hr3 : ∀ s ∈ l3, spotR s) (k : Nat) (hk : 1100000000010 < k) : spec_SlacksOf.f k w h u0 u1 u2 u3 u4 u5 u6 u7 u8 u9 p kn l2 l3 = some (slackR w h [u0, u1, u2, u3, u4, u5, u6, u7, u8, u9] p kn l2 l3) := by
  obtain ⟨k, rfl⟩ : ∃ m, k = m + 2 := ⟨k - 2, by omega⟩
  unfold spec_SlacksOf.f slackR
  rw [Option.bind_some, specOk_eq w h u0 u1 u2 u3 u4 u5 u6 u7 u8 u9 iw ih _ (by omega), Option.bind_some, specHolds_eq p hp kn l2 hl2 hkn hr2 _ (by omega), Option.bind_some]
  by_cases c : okR w h [u0, u1, u2, u3, u4, u5, u6, u7, u8, u9] = true
  · by_cases d : holdsOk p kn l2 = true
    · rw [if_pos c, if_pos (⟨c, d⟩ : _ ∧ _), d, spec_SlacksOf.j0, if_neg (by decide), specCells_eq w h u0 u1 u2 u3 u4 u5 u6 u7 u8 u9 iw ih l3 hl3 hr3 _ (by omega), Option.bind_some]
      by_cases e : l3.length = l2.length
      · rw [if_pos (show (l3.length : Int) = (l2.length : Int) by omega), spec_SlacksOf.j1]
        by_cases f : l3.all (fun s => cellR w h s.f0 s.f1) = true
        · rw [if_pos (⟨e, f⟩ : _ ∧ _), f, if_neg (by decide), (gaps_eq p kn l2 hl2 d k (by omega)).1, Option.bind_some]
          rw [← e]
          by_cases z : l3.length = 0
          · obtain ⟨k, rfl⟩ : ∃ m, k = m + 1 := ⟨k - 1, by omega⟩
            rw [spec_SlacksOf.l0, if_neg (by omega), z]
            rfl
          · have := specSlack_l0 w h u0 u1 u2 u3 u4 u5 u6 u7 u8 u9 iw ih r0 r1 r2 r3 r4 r5 r6 r7 r8 r9 l3 hl3 hr3 (gapG kn l2) (l3.length - 1) 1 k [] (by omega) (Nat.le_refl _) (by omega) (by simp; omega)
            rw [List.nil_append] at this
            exact this
        · rw [Bool.eq_false_iff.2 f, if_pos (show (!false) = true from rfl), if_neg (show ¬ (l3.length = l2.length ∧ false = true) from fun x => absurd x.2 (by decide))]
      · rw [if_neg (show ¬ (l3.length : Int) = (l2.length : Int) by omega), spec_SlacksOf.j1, if_pos rfl, if_neg (fun x => e x.1)]
    · rw [if_pos c, if_neg (fun x => d x.2), Bool.eq_false_iff.2 d, spec_SlacksOf.j0, if_pos (show (!false) = true from rfl)]
  · rw [if_neg c, if_neg (fun x => c x.1), spec_SlacksOf.j0, if_pos rfl]
theorem implSlack_eq (w h u0 u1 u2 u3 u4 u5 u6 u7 u8 u9 : Int) (iw : -128 ≤ w ∧ w ≤ 127) (ih : -128 ≤ h ∧ h ≤ 127) (r0 : 0 ≤ u0 ∧ u0 < 65536) (r1 : 0 ≤ u1 ∧ u1 < 65536) (r2 : 0 ≤ u2 ∧ u2 < 65536) (r3 : 0 ≤ u3 ∧ u3 < 65536) (r4 : 0 ≤ u4 ∧ u4 < 65536) (r5 : 0 ≤ u5 ∧ u5 < 65536) (r6 : 0 ≤ u6 ∧ u6 < 65536) (r7 : 0 ≤ u7 ∧ u7 < 65536) (r8 : 0 ≤ u8 ∧ u8 < 65536) (r9 : 0 ≤ u9 ∧ u9 < 65536) (p : Int) (hp : -32768 ≤ p ∧ p ≤ 32767) (kn : List Int) (l2 : List S65) (l3 : List S62) (hkn : kn.length ≤ 1048576) (hl2 : l2.length ≤ 1048576) (hl3 : l3.length ≤ 1048576) (hr2 : ∀ x ∈ l2, holdR x) (hr3 : ∀ s ∈ l3, spotR s) (k : Nat) (hk : 1100000000010 < k) : impl_SlacksOf.f k w h u0 u1 u2 u3 u4 u5 u6 u7 u8 u9 p kn l2 l3 = some (slackR w h [u0, u1, u2, u3, u4, u5, u6, u7, u8, u9] p kn l2 l3) := by
  obtain ⟨k, rfl⟩ : ∃ m, k = m + 2 := ⟨k - 2, by omega⟩
  unfold impl_SlacksOf.f impl_GapsOf.f slackR
  rw [implHolds_eq p hp kn l2 hl2 hkn hr2 _ (by omega), Option.bind_some]
  by_cases d : holdsOk p kn l2 = true
  · rw [if_pos d, (gaps_eq p kn l2 hl2 d (k + 2) (by omega)).2, Option.bind_some]
    dsimp only
    rw [if_pos rfl, implOk_eq w h u0 u1 u2 u3 u4 u5 u6 u7 u8 u9 iw ih, Option.bind_some, impl_SlacksOf.j0]
    by_cases c : okR w h [u0, u1, u2, u3, u4, u5, u6, u7, u8, u9] = true
    · have ho := okR_iff c
      rw [c, if_neg (by decide), if_pos (⟨rfl, d⟩ : _ ∧ _)]
      by_cases e : l3.length = l2.length
      · rw [if_pos (show (l3.length : Int) = (l2.length : Int) by omega), cellCode_eq w h u0 u1 u2 u3 u4 u5 u6 u7 u8 u9 iw ih l3 hl3 hr3 _ (by omega), Option.bind_some, if_pos c, any_all w h ho.1.2 ho.2.2 l3]
        by_cases f : l3.all (fun s => cellR w h s.f0 s.f1) = true
        · rw [if_pos (⟨e, f⟩ : _ ∧ _), f]
          rw [show (if (!true) = true then (2 : Int) else 0) = 0 from rfl, if_pos rfl, implAlong_eq w h u0 u1 u2 u3 u4 u5 u6 u7 u8 u9 iw ih r0 r1 r2 r3 r4 r5 r6 r7 r8 r9 l3 hl3 hr3 _ (by omega), Option.bind_some]
          by_cases z : codeF (stR w h [u0, u1, u2, u3, u4, u5, u6, u7, u8, u9] l3) (l3.length - 1) 1 = 0
          · rw [if_pos z, if_pos z]
            dsimp only
            rw [if_pos rfl, listF_len]
            have := implSlack_l0 (gapG kn l2) (stR w h [u0, u1, u2, u3, u4, u5, u6, u7, u8, u9] l3) (l2.length - 1) (by omega) (l2.length - 1) 0 (k + 1) (by omega) (by omega)
            rw [List.take_zero, List.drop_zero, List.nil_append, show ((0 : Nat) : Int) = 0 from rfl] at this
            rw [e]
            exact this
          · rw [if_neg z, if_neg z]
            dsimp only
            rw [if_neg z]
        · rw [Bool.eq_false_iff.2 f]
          rw [show (if (!false) = true then (2 : Int) else 0) = 2 from rfl, if_neg (show ¬ (2 : Int) = 0 by decide), if_neg (show ¬ (l3.length = l2.length ∧ false = true) from fun x => absurd x.2 (by decide))]
      · rw [if_neg (show ¬ (l3.length : Int) = (l2.length : Int) by omega), if_neg (fun x => e x.1)]
    · rw [Bool.eq_false_iff.2 c, if_pos (show (!false) = true from rfl), if_neg (fun x => absurd x.1 (by decide))]
  · rw [if_neg d, Option.bind_some]
    dsimp only
    rw [if_neg (by decide), impl_SlacksOf.j0, if_pos rfl, if_neg (fun x => d x.2)]

theorem implStand_l0 (l : List Int) (hl : l.length ≤ 1048576) : ∀ (d i k : Nat), i + d = l.length → d < k → ∃ q : Int, slices_IndexFunc_Sint64_int64_at_CanStand_1.l0 k l (l.length : Int) (i : Int) = some q ∧ decide (q ≥ 0) = (l.drop i).any (fun x => decide (x < 0)) := by
  intro d
  induction d with
  | zero =>
    intro i k hi hk
    obtain ⟨k, rfl⟩ : ∃ m, k = m + 1 := ⟨k - 1, by omega⟩
    refine ⟨-1, ?_, ?_⟩
    · rw [slices_IndexFunc_Sint64_int64_at_CanStand_1.l0, if_neg (by omega)]
    · rw [List.drop_eq_nil_of_le (by omega)]; rfl
  | succ d ihd =>
    intro i k hi hk
    obtain ⟨k, rfl⟩ : ∃ m, k = m + 1 := ⟨k - 1, by omega⟩
    obtain ⟨q, e1, e2⟩ := ihd (i + 1) k (by omega) (by omega)
    rw [slices_IndexFunc_Sint64_int64_at_CanStand_1.l0, if_pos (by omega), if_pos (by omega), if_pos (by omega)]
    unfold impl_CanStand_1.f
    rw [Option.bind_some, drop_rd l i (by omega), wrap_nat i (by omega), List.any_cons]
    by_cases c : rd l (i : Int) < 0
    · exact ⟨(i : Int), by rw [if_pos (decide_eq_true c)], by rw [decide_eq_true c, Bool.true_or]; exact decide_eq_true (by omega)⟩
    · exact ⟨q, by rw [if_neg (by simpa using c)]; exact e1, by rw [e2, decide_eq_false c, Bool.false_or]⟩
def standR (Q : List Int × Int) : Bool × Int := if Q.2 = 0 then (!Q.1.any (fun x => decide (x < 0)), 0) else (false, Q.2)
theorem implStand_eq (w h u0 u1 u2 u3 u4 u5 u6 u7 u8 u9 : Int) (iw : -128 ≤ w ∧ w ≤ 127) (ih : -128 ≤ h ∧ h ≤ 127) (r0 : 0 ≤ u0 ∧ u0 < 65536) (r1 : 0 ≤ u1 ∧ u1 < 65536) (r2 : 0 ≤ u2 ∧ u2 < 65536) (r3 : 0 ≤ u3 ∧ u3 < 65536) (r4 : 0 ≤ u4 ∧ u4 < 65536) (r5 : 0 ≤ u5 ∧ u5 < 65536) (r6 : 0 ≤ u6 ∧ u6 < 65536) (r7 : 0 ≤ u7 ∧ u7 < 65536) (r8 : 0 ≤ u8 ∧ u8 < 65536) (r9 : 0 ≤ u9 ∧ u9 < 65536) (p : Int) (hp : -32768 ≤ p ∧ p ≤ 32767) (kn : List Int) (s2 : List S65) (s3 : List S62) (hkn : kn.length ≤ 1048576) (hq2 : s2.length ≤ 1048576) (hq3 : s3.length ≤ 1048576) (hr2 : ∀ x ∈ s2, holdR x) (hr3 : ∀ s ∈ s3, spotR s) (k : Nat) (hk : 1100000000010 < k) : impl_CanStand.f k w h u0 u1 u2 u3 u4 u5 u6 u7 u8 u9 p kn s2 s3 = some (standR (slackR w h [u0, u1, u2, u3, u4, u5, u6, u7, u8, u9] p kn s2 s3)) := by
  unfold impl_CanStand.f standR slices_ContainsFunc_Sint64_int64_at_CanStand_1.f slices_IndexFunc_Sint64_int64_at_CanStand_1.f
  rw [implSlack_eq w h u0 u1 u2 u3 u4 u5 u6 u7 u8 u9 iw ih r0 r1 r2 r3 r4 r5 r6 r7 r8 r9 p hp kn s2 s3 hkn hq2 hq3 hr2 hr3 k (by omega), Option.bind_some]
  have hRl := slackR_len w h [u0, u1, u2, u3, u4, u5, u6, u7, u8, u9] p kn s2 s3
  generalize slackR w h [u0, u1, u2, u3, u4, u5, u6, u7, u8, u9] p kn s2 s3 = Q at hRl
  by_cases c : Q.2 = 0
  · obtain ⟨q, q1, q2⟩ := implStand_l0 Q.1 (by omega) Q.1.length 0 k (by omega) (by omega)
    rw [show ((0 : Nat) : Int) = 0 from rfl] at q1
    rw [List.drop_zero] at q2
    rw [if_pos c, if_pos c, q1, Option.bind_some, Option.bind_some, q2]
  · rw [if_neg c, if_neg c]

/-! A rope for spots that are drawn: its ways, its knots, its holds. -/
def WayI (q : Int × Int) : Prop := (q.2 = 0 ∧ 0 ≤ q.1 ∧ q.1 ≤ 99) ∨ q = (0, 6)
def tF (st : Nat → Int × Int) (i : Nat) : Int := if (st i).2 = 0 then (st i).1 else -1
def badF (st : Nat → Int × Int) : Nat → Nat → Bool
  | 0, _ => false
  | d + 1, i => decide (tF st i < 0) || badF st d (i + 1)
def zerF (st : Nat → Int × Int) : Nat → Nat → Bool
  | 0, _ => false
  | d + 1, i => (tF st i == 0) || zerF st d (i + 1)
theorem codeF_s (st : Nat → Int × Int) (d i : Nat) : codeF st (d + 1) i = if (st i).2 = 0 then codeF st d (i + 1) else (st i).2 := rfl
theorem distF_s (st : Nat → Int × Int) (d i : Nat) : distF st (d + 1) i = (st i).1 :: distF st d (i + 1) := rfl
theorem badF_s (st : Nat → Int × Int) (d i : Nat) : badF st (d + 1) i = (decide (tF st i < 0) || badF st d (i + 1)) := rfl
theorem zerF_s (st : Nat → Int × Int) (d i : Nat) : zerF st (d + 1) i = ((tF st i == 0) || zerF st d (i + 1)) := rfl
theorem tF_good {st : Nat → Int × Int} {i : Nat} (e : (st i).2 = 0) : tF st i = (st i).1 := by unfold tF; rw [if_pos e]
theorem tF_bad {st : Nat → Int × Int} {i : Nat} (e : st i = (0, 6)) : tF st i = -1 := by unfold tF; rw [e]; rfl
theorem way_code (st : Nat → Int × Int) : ∀ (d i : Nat), (∀ j, i ≤ j → j < i + d → WayI (st j)) → codeF st d i = if badF st d i = true then 6 else 0 := by
  intro d
  induction d with
  | zero => intro i _; rfl
  | succ d ih =>
    intro i h
    have hr := ih (i + 1) (fun j a b => h j (by omega) (by omega))
    rw [codeF_s, badF_s]
    rcases h i (Nat.le_refl _) (by omega) with ⟨e, e0, e1⟩ | e
    · rw [if_pos e, hr, tF_good e, decide_eq_false (by omega), Bool.false_or]
    · rw [tF_bad e, e, if_neg (by decide), decide_eq_true (by decide), Bool.true_or, if_pos rfl]
theorem way_dist (st : Nat → Int × Int) : ∀ (d i : Nat), (∀ j, i ≤ j → j < i + d → WayI (st j)) → badF st d i = false → (distF st d i).any (fun x => x == 0) = zerF st d i ∧ (zerF st d i = false → ∀ j, i ≤ j → j < i + d → 1 ≤ (st j).1 ∧ (st j).1 ≤ 99) := by
  intro d
  induction d with
  | zero => intro i _ _; exact ⟨rfl, fun _ j h1 h2 => by omega⟩
  | succ d ih =>
    intro i h hb
    rw [badF_s, Bool.or_eq_false_iff] at hb
    obtain ⟨r1, r2⟩ := ih (i + 1) (fun j a b => h j (by omega) (by omega)) hb.2
    rcases h i (Nat.le_refl _) (by omega) with ⟨e, e0, e1⟩ | e
    · rw [distF_s, zerF_s, List.any_cons, r1, tF_good e]
      refine ⟨rfl, fun hz j h1 h2 => ?_⟩
      rw [Bool.or_eq_false_iff] at hz
      by_cases q : j = i
      · subst q
        have := beq_eq_false_iff_ne.1 hz.1
        omega
      · exact r2 hz.2 j (by omega) (by omega)
    · rw [tF_bad e] at hb
      exact absurd hb.1 (by decide)
theorem run_rope (st : Nat → Int × Int) : ∀ (d i : Nat) (p : Int) (l : List Int), RopeI p l → 0 ≤ p → p + 99 * d ≤ 400 → (∀ j, i ≤ j → j < i + d → 1 ≤ (st j).1 ∧ (st j).1 ≤ 99) → RopeI (runT p (distF st d i)) (l ++ runL p (distF st d i)) ∧ p + d ≤ runT p (distF st d i) ∧ runT p (distF st d i) ≤ p + 99 * d := by
  intro d
  induction d with
  | zero =>
    intro i p l h h0 h1 _
    have e1 : runT p (distF st 0 i) = p := rfl
    have e2 : runL p (distF st 0 i) = [] := rfl
    rw [e1, e2, List.append_nil]
    exact ⟨h, by omega, by omega⟩
  | succ d ih =>
    intro i p l h h0 h1 hs
    have hi := hs i (Nat.le_refl _) (by omega)
    obtain ⟨g1, g2, g3⟩ := ih (i + 1) (p + (st i).1) (l ++ [p + (st i).1]) (h.app _ (by omega)) (by omega) (by omega) (fun j a b => hs j (by omega) (by omega))
    rw [distF_s, runT_cons, runL_cons, wrap64_id _ (by omega) (by omega)]
    rw [List.append_assoc] at g1
    exact ⟨g1, by omega, by omega⟩
theorem run_gap (st : Nat → Int × Int) : ∀ (d i : Nat) (t : Int), 0 ≤ t → t + 99 * d ≤ 100000 → (∀ j, i ≤ j → j < i + d → 1 ≤ (st j).1 ∧ (st j).1 ≤ 99) → ∀ j, j < d → rd (t :: runL t (distF st d i)) ((j + 1 : Nat) : Int) - rd (t :: runL t (distF st d i)) (j : Int) = (st (i + j)).1 := by
  intro d
  induction d with
  | zero => intro i t _ _ _ j hj; omega
  | succ d ih =>
    intro i t h0 h1 hs j hj
    have hi := hs i (Nat.le_refl _) (by omega)
    rw [distF_s, runL_cons, wrap64_id _ (by omega) (by omega)]
    cases j with
    | zero =>
      show t + (st i).1 - t = (st i).1
      omega
    | succ j =>
      have := ih (i + 1) (t + (st i).1) (by omega) (by omega) (fun j a b => hs j (by omega) (by omega)) j (by omega)
      rw [show i + (j + 1) = i + 1 + j by omega, ← this]
      rfl
def mkH : Nat → Nat → List S65
  | 0, _ => []
  | d + 1, i => (⟨10 + (i : Int), (i : Int)⟩ : S65) :: mkH d (i + 1)
theorem mkH_s (d i : Nat) : mkH (d + 1) i = (⟨10 + (i : Int), (i : Int)⟩ : S65) :: mkH d (i + 1) := rfl
theorem mkH_len : ∀ d i : Nat, (mkH d i).length = d
  | 0, _ => rfl
  | d + 1, i => by rw [mkH_s, List.length_cons, mkH_len d (i + 1)]
theorem mkH_mem : ∀ (d i : Nat) (x : S65), x ∈ mkH d i → ∃ j : Nat, (i ≤ j ∧ j < i + d) ∧ x.f0 = 10 + (j : Int) ∧ x.f1 = (j : Int) := by
  intro d
  induction d with
  | zero => intro i x h; exact absurd h (by simp [mkH])
  | succ d ih =>
    intro i x h
    rw [mkH_s] at h
    rcases List.mem_cons.1 h with e | e
    · subst e; exact ⟨i, ⟨Nat.le_refl _, by omega⟩, rfl, rfl⟩
    · obtain ⟨j, h1, h2⟩ := ih (i + 1) x e
      exact ⟨j, ⟨by omega, by omega⟩, h2⟩
theorem mkH_rd : ∀ (d i j : Nat), j < d → (rd_T65 (mkH d i) (j : Int)).f1 = ((i + j : Nat) : Int) := by
  intro d
  induction d with
  | zero => intro i j h; omega
  | succ d ih =>
    intro i j h
    cases j with
    | zero => rfl
    | succ j =>
      have := ih (i + 1) j (by omega)
      rw [show i + (j + 1) = i + 1 + j by omega, ← this]
      rfl
theorem mkH_ok (p : Int) (kn : List Int) (n : Nat) (hn : kn.length = n) (h5 : n ≤ 40) (hr : ropeOk p kn = true) : HOK p kn (mkH n 0) := by
  refine ⟨hr, fun x hx => ?_, ?_, ?_⟩
  · obtain ⟨j, ⟨h1, h2⟩, h3, h4⟩ := mkH_mem n 0 x hx
    rw [h3, h4]
    exact ⟨⟨by omega, by omega⟩, by omega, by omega⟩
  · have key : ∀ d i : Nat, (mkH d i).Pairwise (fun a b => a.f1 < b.f1) := by
      intro d
      induction d with
      | zero => intro i; exact List.Pairwise.nil
      | succ d ih =>
        intro i
        rw [mkH_s]
        refine List.pairwise_cons.2 ⟨fun b hb => ?_, ih (i + 1)⟩
        obtain ⟨j, ⟨h1, h2⟩, h3, h4⟩ := mkH_mem d (i + 1) b hb
        rw [h4]
        show (i : Int) < (j : Int)
        omega
    exact key n 0
  · have key : ∀ d i : Nat, (mkH d i).Pairwise (fun a b => a.f0 ≠ b.f0) := by
      intro d
      induction d with
      | zero => intro i; exact List.Pairwise.nil
      | succ d ih =>
        intro i
        rw [mkH_s]
        refine List.pairwise_cons.2 ⟨fun b hb => ?_, ih (i + 1)⟩
        obtain ⟨j, ⟨h1, h2⟩, h3, h4⟩ := mkH_mem d (i + 1) b hb
        rw [h3]
        show 10 + (i : Int) ≠ 10 + (j : Int)
        omega
    exact key n 0
theorem free_cell {w h : Nat} {us : List Int} {s : S62} (e : freeS w h us s) : cellR (w : Int) (h : Int) s.f0 s.f1 = true := by
  unfold freeS freeR at e
  rw [Bool.and_eq_true] at e
  exact e.1
theorem cell_spotR {w h : Nat} (hw : w ≤ 6) (hh : h ≤ 6) {s : S62} (e : cellR (w : Int) (h : Int) s.f0 s.f1 = true) : spotR s := by
  have := cellR_iff.1 e
  exact ⟨⟨by omega, by omega⟩, by omega, by omega⟩
theorem st_way {w h : Nat} {us : List Int} (H : RoomI w h us) (hw : 1 ≤ w ∧ w ≤ 6) (hh : 1 ≤ h ∧ h ≤ 6) (sp : List S62) (hs : ∀ s ∈ sp, freeS w h us s) (i : Nat) (hi : i < sp.length) : stR (w : Int) (h : Int) us sp i = farR (w : Int) (h : Int) us ((rd_T62 sp ((i - 1 : Nat) : Int)).f0, (rd_T62 sp ((i - 1 : Nat) : Int)).f1) ((rd_T62 sp (i : Int)).f0, (rd_T62 sp (i : Int)).f1) ∧ WayI (stR (w : Int) (h : Int) us sp i) := by
  have m1 := hs _ (rd_spot_mem sp (i - 1) (by omega))
  have m2 := hs _ (rd_spot_mem sp i hi)
  have e : stR (w : Int) (h : Int) us sp i = farR (w : Int) (h : Int) us ((rd_T62 sp ((i - 1 : Nat) : Int)).f0, (rd_T62 sp ((i - 1 : Nat) : Int)).f1) ((rd_T62 sp (i : Int)).f0, (rd_T62 sp (i : Int)).f1) := by
    unfold stR stepsR
    rw [if_pos]
    unfold twoR
    rw [if_pos (H.ok hw hh), if_pos (free_cell m1), if_pos (free_cell m2), if_pos (show freeR _ _ _ _ _ = true from m1), if_pos (show freeR _ _ _ _ _ = true from m2)]
  refine ⟨e, ?_⟩
  rw [e]
  rcases farR_rng (w : Int) (h : Int) us (by omega) (by omega) _ ((rd_T62 sp (i : Int)).f0, (rd_T62 sp (i : Int)).f1) (cell_in (show (w : Int) ≤ 10 by omega) (show (h : Int) ≤ 10 by omega) (free_cell m1)) with q | q
  · exact Or.inl q
  · exact Or.inr q

theorem same_l0 (l : List Int) (hl : l.length ≤ 1048576) : ∀ (d i k : Nat), i + d = l.length → d < k → spec_l00Same.l0 k l l (i : Int) = some true := by
  intro d
  induction d with
  | zero =>
    intro i k hi hk
    obtain ⟨k, rfl⟩ : ∃ m, k = m + 1 := ⟨k - 1, by omega⟩
    simp only [spec_l00Same.l0]
    rw [if_neg (by omega)]
  | succ d ih =>
    intro i k hi hk
    obtain ⟨k, rfl⟩ : ∃ m, k = m + 1 := ⟨k - 1, by omega⟩
    simp only [spec_l00Same.l0]
    rw [if_pos (by omega), if_pos (by omega), if_pos (by omega), if_pos trivial, wrap_nat i (by omega), ih (i + 1) k (by omega) (by omega)]
theorem same_eq (l : List Int) (hl : l.length ≤ 1000) (k : Nat) (hk : 1000 < k) : spec_SameNumbers.f k l l = some true := by
  unfold spec_SameNumbers.f spec_l00Same.f
  rw [if_pos rfl]
  have := same_l0 l (by omega) l.length 0 k (by omega) (by omega)
  rw [show ((0 : Nat) : Int) = 0 from rfl] at this
  rw [this, Option.bind_some]

theorem ten_ex (us : List Int) (h : us.length = 10) : ∃ u0 u1 u2 u3 u4 u5 u6 u7 u8 u9 : Int, us = [u0, u1, u2, u3, u4, u5, u6, u7, u8, u9] := ⟨_, _, _, _, _, _, _, _, _, _, ten_of us h⟩
theorem law_l0 {w h : Nat} {u0 u1 u2 u3 u4 u5 u6 u7 u8 u9 : Int} (H : RoomI w h [u0, u1, u2, u3, u4, u5, u6, u7, u8, u9]) (hw : 1 ≤ w ∧ w ≤ 6) (hh : 1 ≤ h ∧ h ≤ 6) (x0 x1 : List Int) (sp : List S62) (hs : ∀ s ∈ sp, freeS w h [u0, u1, u2, u3, u4, u5, u6, u7, u8, u9] s) (hn : sp.length ≤ 5) (x8 p : Int) (kn : List Int) : ∀ (d i k : Nat) (b z : Bool), i + d = sp.length → 1 ≤ i → d + 120 < k →
    laws_FnSlacks.l0 k x0 x1 sp x8 b z (i : Int) (w : Int) (h : Int) u0 u1 u2 u3 u4 u5 u6 u7 u8 u9 p kn = laws_FnSlacks.l0 (k - d) x0 x1 sp x8 (b || badF (stR (w : Int) (h : Int) [u0, u1, u2, u3, u4, u5, u6, u7, u8, u9] sp) d i) (z || zerF (stR (w : Int) (h : Int) [u0, u1, u2, u3, u4, u5, u6, u7, u8, u9] sp) d i) (sp.length : Int) (w : Int) (h : Int) u0 u1 u2 u3 u4 u5 u6 u7 u8 u9 p kn := by
  intro d
  induction d with
  | zero =>
    intro i k b z hi h1 hk
    rw [show badF (stR (w : Int) (h : Int) [u0, u1, u2, u3, u4, u5, u6, u7, u8, u9] sp) 0 i = false from rfl, show zerF (stR (w : Int) (h : Int) [u0, u1, u2, u3, u4, u5, u6, u7, u8, u9] sp) 0 i = false from rfl, Bool.or_false, Bool.or_false, Nat.sub_zero, show i = sp.length by omega]
  | succ d ih =>
    intro i k b z hi h1 hk
    obtain ⟨k, rfl⟩ : ∃ m, k = m + 1 := ⟨k - 1, by omega⟩
    have e : wrap64 ((i : Int) - 1) = ((i - 1 : Nat) : Int) := by rw [wrap64_id _ (by omega) (by omega)]; omega
    have m1 := hs _ (rd_spot_mem sp (i - 1) (by omega))
    have m2 := hs _ (rd_spot_mem sp i (by omega))
    have hp : spec_P6Steps.f k (w : Int) (h : Int) u0 u1 u2 u3 u4 u5 u6 u7 u8 u9 (rd_T62 sp ((i - 1 : Nat) : Int)).f0 (rd_T62 sp ((i - 1 : Nat) : Int)).f1 (rd_T62 sp (i : Int)).f0 (rd_T62 sp (i : Int)).f1 = some (tF (stR (w : Int) (h : Int) [u0, u1, u2, u3, u4, u5, u6, u7, u8, u9] sp) i) := by
      have q := p6steps_eq H hw hh _ _ _ _ (free_cell m1) (free_cell m2) k (by omega)
      rw [← (st_way H hw hh sp hs i (by omega)).1] at q
      exact q
    have hb := ih (i + 1) k (b || decide (tF (stR (w : Int) (h : Int) [u0, u1, u2, u3, u4, u5, u6, u7, u8, u9] sp) i < 0)) (z || (tF (stR (w : Int) (h : Int) [u0, u1, u2, u3, u4, u5, u6, u7, u8, u9] sp) i == 0)) (by omega) (by omega) (by omega)
    rw [show k + 1 - (d + 1) = k - d by omega, badF_s, zerF_s, ← Bool.or_assoc, ← Bool.or_assoc, ← hb]
    rw [laws_FnSlacks.l0, if_pos (by omega), e, if_pos (by omega), if_pos (by omega), if_pos (by omega), hp, Option.bind_some, wrap_nat i (by omega)]
    cases b <;> cases z <;> rfl
theorem law_l1 (w h u0 u1 u2 u3 u4 u5 u6 u7 u8 u9 : Int) (x0 x1 : List Int) (sp : List S62) (hn : sp.length ≤ 40) (p : Int) (kn : List Int) : ∀ (d i k : Nat) (acc : List S65), i + d = sp.length → d < k → acc.length = i →
    laws_FnSlacks.l1 k x0 x1 sp acc (i : Int) w h u0 u1 u2 u3 u4 u5 u6 u7 u8 u9 p kn = laws_FnSlacks.l1 (k - d) x0 x1 sp (acc ++ mkH d i) (sp.length : Int) w h u0 u1 u2 u3 u4 u5 u6 u7 u8 u9 p kn := by
  intro d
  induction d with
  | zero =>
    intro i k acc hi hk ha
    rw [show mkH 0 i = [] from rfl, List.append_nil, Nat.sub_zero, show i = sp.length by omega]
  | succ d ih =>
    intro i k acc hi hk ha
    obtain ⟨k, rfl⟩ : ∃ m, k = m + 1 := ⟨k - 1, by omega⟩
    have hb := ih (i + 1) k (acc ++ [(⟨10 + (i : Int), (i : Int)⟩ : S65)]) (by omega) (by omega) (by rw [List.length_append, List.length_singleton]; omega)
    rw [List.append_assoc] at hb
    rw [show k + 1 - (d + 1) = k - d by omega, mkH_s]
    rw [laws_FnSlacks.l1, if_pos (by omega), if_pos (by omega), wrap64_id (10 + (i : Int)) (by omega) (by omega), i16_id (10 + (i : Int)) (by omega), i8_small i (by omega), wrap_nat i (by omega)]
    exact hb
theorem law_l3 (A : List Int) (hA : A.length ≤ 1000) (q : Int) (sb : Bool) : ∀ (d i k : Nat) (m : Int), i + d = A.length → d + 1010 < k → (q = 0 → sb = (decide (m ≥ 0) && !(A.drop i).any (fun x => decide (x < 0)))) → laws_FnSlacks.l3 k A q A q sb q m (i : Int) = some true := by
  intro d
  induction d with
  | zero =>
    intro i k m hi hk hs
    obtain ⟨k, rfl⟩ : ∃ m, k = m + 1 := ⟨k - 1, by omega⟩
    rw [laws_FnSlacks.l3, if_neg (by omega), if_pos rfl, same_eq A hA k (by omega), Option.bind_some, if_pos rfl, if_pos rfl]
    by_cases c : q = 0
    · have h2 := hs c
      rw [List.drop_eq_nil_of_le (by omega), List.any_nil, Bool.not_false, Bool.and_true] at h2
      rw [if_pos c, h2, beq_self_eq_true]
    · rw [if_neg c]
  | succ d ih =>
    intro i k m hi hk hs
    obtain ⟨k, rfl⟩ : ∃ m, k = m + 1 := ⟨k - 1, by omega⟩
    rw [laws_FnSlacks.l3, if_pos (by omega), if_pos (by omega), wrap_nat i (by omega)]
    refine ih (i + 1) k _ (by omega) (by omega) (fun c => ?_)
    rw [hs c, drop_rd A i (by omega), List.any_cons]
    have e : decide (mn m (rd A (i : Int)) ≥ 0) = (decide (m ≥ 0) && !decide (rd A (i : Int) < 0)) := by
      unfold mn
      by_cases c1 : m ≥ 0
      · by_cases c2 : rd A (i : Int) < 0
        · rw [decide_eq_true c1, decide_eq_true c2]; split <;> simp <;> omega
        · rw [decide_eq_true c1, decide_eq_false c2]; split <;> simp <;> omega
      · rw [decide_eq_false c1]; split <;> simp <;> omega
    rw [e, Bool.not_or, Bool.and_assoc]
theorem law_tail {w h : Nat} {u0 u1 u2 u3 u4 u5 u6 u7 u8 u9 : Int} (H : RoomI w h [u0, u1, u2, u3, u4, u5, u6, u7, u8, u9]) (hw : 1 ≤ w ∧ w ≤ 6) (hh : 1 ≤ h ∧ h ≤ 6) (a b : List Int) (ha : srcOk a) (hb : srcOk b) (hx : ∃ x y : Nat, x < w ∧ y < h ∧ freeR (w : Int) (h : Int) [u0, u1, u2, u3, u4, u5, u6, u7, u8, u9] (x : Int) (y : Int) = true) (A : List Int) (hA : A.length ≤ 100) (hz : ∀ j : Nat, j < A.length → rd A (j : Int) = 0) : ∀ (d i k : Nat), i + d = A.length → d + 1100000010000 < k → laws_FnSlacks.l2 k a b A (i : Int) (w : Int) (h : Int) u0 u1 u2 u3 u4 u5 u6 u7 u8 u9 = some true := by
  intro d
  induction d with
  | zero =>
    intro i k hi hk
    obtain ⟨k, rfl⟩ : ∃ m, k = m + 1 := ⟨k - 1, by omega⟩
    have hr := H.rng hw.2
    obtain ⟨p, kn, e1, r1, r2, r3, r4⟩ := p6rope_eq b hb k (by omega)
    obtain ⟨hs, e2, ho⟩ := p6holds_eq a ha p kn r2 r1 k (by omega)
    have hl := ho.len
    obtain ⟨sp, s1, s2, s3⟩ := p6stands_eq a ha H hw hh hx hs.length (by omega) k (by omega)
    have s3' : spec_P6Stands.f k a (w : Int) (h : Int) u0 u1 u2 u3 u4 u5 u6 u7 u8 u9 (hs.length : Int) = some sp := s3
    have hsp : ∀ s ∈ sp, spotR s := fun s q => cell_spotR hw.2 hh.2 (free_cell (s2 s q))
    rw [laws_FnSlacks.l2, if_neg (by omega), e1, Option.bind_some]
    dsimp only
    rw [e2, Option.bind_some, s3', Option.bind_some,
      implSlack_eq (w : Int) (h : Int) u0 u1 u2 u3 u4 u5 u6 u7 u8 u9 (by omega) (by omega) (hr 0 (by omega)) (hr 1 (by omega)) (hr 2 (by omega)) (hr 3 (by omega)) (hr 4 (by omega)) (hr 5 (by omega)) (hr 6 (by omega)) (hr 7 (by omega)) (hr 8 (by omega)) (hr 9 (by omega)) p (by omega) kn hs sp (by omega) (by omega) (by omega) (ho.holdR (by omega)) hsp k (by omega), Option.bind_some,
      specSlack_eq (w : Int) (h : Int) u0 u1 u2 u3 u4 u5 u6 u7 u8 u9 (by omega) (by omega) (hr 0 (by omega)) (hr 1 (by omega)) (hr 2 (by omega)) (hr 3 (by omega)) (hr 4 (by omega)) (hr 5 (by omega)) (hr 6 (by omega)) (hr 7 (by omega)) (hr 8 (by omega)) (hr 9 (by omega)) p (by omega) kn hs sp (by omega) (by omega) (by omega) (ho.holdR (by omega)) hsp k (by omega), Option.bind_some,
      implStand_eq (w : Int) (h : Int) u0 u1 u2 u3 u4 u5 u6 u7 u8 u9 (by omega) (by omega) (hr 0 (by omega)) (hr 1 (by omega)) (hr 2 (by omega)) (hr 3 (by omega)) (hr 4 (by omega)) (hr 5 (by omega)) (hr 6 (by omega)) (hr 7 (by omega)) (hr 8 (by omega)) (hr 9 (by omega)) p (by omega) kn hs sp (by omega) (by omega) (by omega) (ho.holdR (by omega)) hsp k (by omega), Option.bind_some]
    have hQ := slackR_len (w : Int) (h : Int) [u0, u1, u2, u3, u4, u5, u6, u7, u8, u9] p kn hs sp
    generalize slackR (w : Int) (h : Int) [u0, u1, u2, u3, u4, u5, u6, u7, u8, u9] p kn hs sp = Q at hQ ⊢
    have e3 : (standR Q).2 = Q.2 := by unfold standR; by_cases c : Q.2 = 0 <;> simp [c]
    rw [e3]
    exact law_l3 Q.1 (by omega) Q.2 (standR Q).1 Q.1.length 0 k 0 (by omega) (by omega) (fun c => by unfold standR; rw [if_pos c]; simp)
  | succ d ih =>
    intro i k hi hk
    obtain ⟨k, rfl⟩ : ∃ m, k = m + 1 := ⟨k - 1, by omega⟩
    rw [laws_FnSlacks.l2, if_pos (by omega), if_pos (by omega), if_pos (hz i (by omega)), wrap_nat i (by omega)]
    exact ih (i + 1) k (by omega) (by omega)
theorem i16_map (p : Int) (l : List Int) (h : ropeOk p l = true) : l.map (fun x => IntKind.i16.wrap x) = l := by
  have : ∀ x ∈ l, IntKind.i16.wrap x = id x := fun x hx => by
    obtain ⟨j, hj, e⟩ := List.getElem_of_mem hx
    have := rope_rng p l h j hj
    rw [rd_nat, List.getD_eq_getElem?_getD, List.getElem?_eq_getElem hj, Option.getD_some, e] at this
    exact i16_id x (by omega)
  rw [List.map_congr_left this, List.map_id]
theorem sameRope_l0 (p : Int) (l : List Int) (hl : l.length ≤ 1000) : ∀ (d i k : Nat), i + d = l.length → d < k → spec_SameRope.l0 k (i : Int) p l p l = some true := by
  intro d
  induction d with
  | zero =>
    intro i k hi hk
    obtain ⟨k, rfl⟩ : ∃ m, k = m + 1 := ⟨k - 1, by omega⟩
    rw [spec_SameRope.l0, if_neg (by omega)]
  | succ d ih =>
    intro i k hi hk
    obtain ⟨k, rfl⟩ : ∃ m, k = m + 1 := ⟨k - 1, by omega⟩
    rw [spec_SameRope.l0, if_pos (by omega), if_pos (by omega), if_pos (by omega), if_pos rfl, wrap_nat i (by omega)]
    exact ih (i + 1) k (by omega) (by omega)
theorem sameRope_eq (p : Int) (l : List Int) (hl : l.length ≤ 1000) (k : Nat) (hk : 1010 < k) : spec_SameRope.f k p l p l = some true := by
  obtain ⟨k, rfl⟩ : ∃ m, k = m + 1 := ⟨k - 1, by omega⟩
  unfold spec_SameRope.f
  rw [if_pos rfl, spec_SameRope.j0, if_neg (by simp)]
  exact sameRope_l0 p l hl l.length 0 k (by omega) (by omega)
theorem law_good {w h : Nat} {u0 u1 u2 u3 u4 u5 u6 u7 u8 u9 : Int} (H : RoomI w h [u0, u1, u2, u3, u4, u5, u6, u7, u8, u9]) (hw : 1 ≤ w ∧ w ≤ 6) (hh : 1 ≤ h ∧ h ≤ 6) (a b : List Int) (ha : srcOk a) (hb : srcOk b) (hx : ∃ x y : Nat, x < w ∧ y < h ∧ freeR (w : Int) (h : Int) [u0, u1, u2, u3, u4, u5, u6, u7, u8, u9] (x : Int) (y : Int) = true) (sp : List S62) (hs : ∀ s ∈ sp, freeS w h [u0, u1, u2, u3, u4, u5, u6, u7, u8, u9] s) (h2 : 2 ≤ sp.length) (hn : sp.length ≤ 5) (hbad : badF (stR (w : Int) (h : Int) [u0, u1, u2, u3, u4, u5, u6, u7, u8, u9] sp) (sp.length - 1) 1 = false) (hzer : zerF (stR (w : Int) (h : Int) [u0, u1, u2, u3, u4, u5, u6, u7, u8, u9] sp) (sp.length - 1) 1 = false) (k : Nat) (hk : 1100000100000 < k) :
    laws_FnSlacks.j3 k a b sp 0 false false false (w : Int) (h : Int) u0 u1 u2 u3 u4 u5 u6 u7 u8 u9 (runT 0 (distF (stR (w : Int) (h : Int) [u0, u1, u2, u3, u4, u5, u6, u7, u8, u9] sp) (sp.length - 1) 1)) ([0] ++ runL 0 (distF (stR (w : Int) (h : Int) [u0, u1, u2, u3, u4, u5, u6, u7, u8, u9] sp) (sp.length - 1) 1)) = some true := by
  obtain ⟨k, rfl⟩ : ∃ m, k = m + 1 := ⟨k - 1, by omega⟩
  have hr := H.rng hw.2
  have hway : ∀ j, 1 ≤ j → j < 1 + (sp.length - 1) → WayI ((stR (w : Int) (h : Int) [u0, u1, u2, u3, u4, u5, u6, u7, u8, u9] sp) j) := fun j a b => (st_way H hw hh sp hs j (by omega)).2
  obtain ⟨d1, d2⟩ := way_dist (stR (w : Int) (h : Int) [u0, u1, u2, u3, u4, u5, u6, u7, u8, u9] sp) (sp.length - 1) 1 hway hbad
  have hd := d2 hzer
  obtain ⟨g1, g2, g3⟩ := run_rope (stR (w : Int) (h : Int) [u0, u1, u2, u3, u4, u5, u6, u7, u8, u9] sp) (sp.length - 1) 1 0 [0] ⟨by simp, rfl, rfl, fun j h1 h2 => by simp at h2; omega⟩ (by omega) (by omega) hd
  have hgap := run_gap (stR (w : Int) (h : Int) [u0, u1, u2, u3, u4, u5, u6, u7, u8, u9] sp) (sp.length - 1) 1 0 (by omega) (by omega) hd
  have hkl : ([0] ++ runL 0 (distF (stR (w : Int) (h : Int) [u0, u1, u2, u3, u4, u5, u6, u7, u8, u9] sp) (sp.length - 1) 1)).length = sp.length := by rw [List.length_append, runL_len, distF_len, List.length_singleton]; omega
  have hok := g1.ok (by omega) (by rw [hkl]; omega)
  have hgap2 : ∀ j, j < sp.length - 1 → rd ([0] ++ runL 0 (distF (stR (w : Int) (h : Int) [u0, u1, u2, u3, u4, u5, u6, u7, u8, u9] sp) (sp.length - 1) 1)) ((j + 1 : Nat) : Int) - rd ([0] ++ runL 0 (distF (stR (w : Int) (h : Int) [u0, u1, u2, u3, u4, u5, u6, u7, u8, u9] sp) (sp.length - 1) 1)) (j : Int) = ((stR (w : Int) (h : Int) [u0, u1, u2, u3, u4, u5, u6, u7, u8, u9] sp) (1 + j)).1 := hgap
  clear hgap
  have hcode : codeF (stR (w : Int) (h : Int) [u0, u1, u2, u3, u4, u5, u6, u7, u8, u9] sp) (sp.length - 1) 1 = 0 := by rw [way_code (stR (w : Int) (h : Int) [u0, u1, u2, u3, u4, u5, u6, u7, u8, u9] sp) _ 1 hway, hbad]; rfl
  generalize runT 0 (distF (stR (w : Int) (h : Int) [u0, u1, u2, u3, u4, u5, u6, u7, u8, u9] sp) (sp.length - 1) 1) = p at g2 g3 hok
  generalize [0] ++ runL 0 (distF (stR (w : Int) (h : Int) [u0, u1, u2, u3, u4, u5, u6, u7, u8, u9] sp) (sp.length - 1) 1) = kn at hkl hok hgap2
  have hH := mkH_ok p kn sp.length hkl (by omega) hok
  have hsp : ∀ s ∈ sp, spotR s := fun s q => cell_spotR hw.2 hh.2 (free_cell (hs s q))
  have hall : sp.all (fun s => cellR (w : Int) (h : Int) s.f0 s.f1) = true := List.all_eq_true.2 (fun s q => free_cell (hs s q))
  have hml := mkH_len sp.length 0
  have hQ : slackR (w : Int) (h : Int) [u0, u1, u2, u3, u4, u5, u6, u7, u8, u9] p kn (mkH sp.length 0) sp = (listF (slkZ (gapG kn (mkH sp.length 0)) (stR (w : Int) (h : Int) [u0, u1, u2, u3, u4, u5, u6, u7, u8, u9] sp)) (sp.length - 1) 1, 0) := by
    unfold slackR
    rw [if_pos ⟨H.ok hw hh, hH.ok⟩, if_pos ⟨hml.symm, hall⟩, if_pos hcode]
  have hz : ∀ j : Nat, j < (listF (slkZ (gapG kn (mkH sp.length 0)) (stR (w : Int) (h : Int) [u0, u1, u2, u3, u4, u5, u6, u7, u8, u9] sp)) (sp.length - 1) 1).length → rd (listF (slkZ (gapG kn (mkH sp.length 0)) (stR (w : Int) (h : Int) [u0, u1, u2, u3, u4, u5, u6, u7, u8, u9] sp)) (sp.length - 1) 1) (j : Int) = 0 := by
    intro j hj
    rw [listF_len] at hj
    rw [listF_rd _ _ 1 j hj]
    unfold slkZ gapG
    rw [mkH_rd sp.length 0 (1 + j) (by omega), mkH_rd sp.length 0 (1 + j - 1) (by omega), show 0 + (1 + j) = j + 1 by omega, show 0 + (1 + j - 1) = j by omega, hgap2 j hj, Int.sub_self]
    exact wrap64_id 0 (by omega) (by omega)
  have hll := listF_len (slkZ (gapG kn (mkH sp.length 0)) (stR (w : Int) (h : Int) [u0, u1, u2, u3, u4, u5, u6, u7, u8, u9] sp)) (sp.length - 1) 1
  rw [laws_FnSlacks.j3, if_neg (by decide), if_pos rfl, if_pos (by omega), implRope_eq p (by omega) kn (by omega) k (by omega), Option.bind_some, hok]
  obtain ⟨k, rfl⟩ : ∃ m, k = m + 1 := ⟨k - 1, by omega⟩
  rw [laws_FnSlacks.j4, if_neg (by decide)]
  have hl1 := law_l1 (w : Int) (h : Int) u0 u1 u2 u3 u4 u5 u6 u7 u8 u9 a b sp (by omega) p kn sp.length 0 k [] (by omega) (by omega) rfl
  rw [List.nil_append, show ((0 : Nat) : Int) = 0 from rfl] at hl1
  rw [hl1]
  obtain ⟨q, hq⟩ : ∃ q, k - sp.length = q + 2 := ⟨k - sp.length - 2, by omega⟩
  rw [hq, laws_FnSlacks.l1, if_neg (by omega),
    implSlack_eq (w : Int) (h : Int) u0 u1 u2 u3 u4 u5 u6 u7 u8 u9 (by omega) (by omega) (hr 0 (by omega)) (hr 1 (by omega)) (hr 2 (by omega)) (hr 3 (by omega)) (hr 4 (by omega)) (hr 5 (by omega)) (hr 6 (by omega)) (hr 7 (by omega)) (hr 8 (by omega)) (hr 9 (by omega)) p (by omega) kn (mkH sp.length 0) sp (by omega) (by omega) (by omega) (hH.holdR (by omega)) hsp _ (by omega), Option.bind_some,
    implStand_eq (w : Int) (h : Int) u0 u1 u2 u3 u4 u5 u6 u7 u8 u9 (by omega) (by omega) (hr 0 (by omega)) (hr 1 (by omega)) (hr 2 (by omega)) (hr 3 (by omega)) (hr 4 (by omega)) (hr 5 (by omega)) (hr 6 (by omega)) (hr 7 (by omega)) (hr 8 (by omega)) (hr 9 (by omega)) p (by omega) kn (mkH sp.length 0) sp (by omega) (by omega) (by omega) (hH.holdR (by omega)) hsp _ (by omega), Option.bind_some, hQ]
  have hany : (listF (slkZ (gapG kn (mkH sp.length 0)) (stR (w : Int) (h : Int) [u0, u1, u2, u3, u4, u5, u6, u7, u8, u9] sp)) (sp.length - 1) 1).any (fun x => decide (x < 0)) = false := by
    rw [List.any_eq_false]
    intro x hx
    obtain ⟨j, hj, e⟩ := List.getElem_of_mem hx
    have := hz j hj
    rw [rd_nat, List.getD_eq_getElem?_getD, List.getElem?_eq_getElem hj, Option.getD_some, e] at this
    rw [this]; decide
  generalize listF (slkZ (gapG kn (mkH sp.length 0)) (stR (w : Int) (h : Int) [u0, u1, u2, u3, u4, u5, u6, u7, u8, u9] sp)) (sp.length - 1) 1 = A at hz hll hany
  dsimp only
  unfold standR
  rw [if_pos rfl, if_pos (by rw [hll, wrap64_id _ (by omega) (by omega)]; omega), if_pos rfl, if_pos rfl]
  dsimp only
  rw [hany, laws_FnSlacks.j6, if_neg (by decide)]
  exact law_tail H hw hh a b ha hb hx A (by omega) hz A.length 0 q (by omega) (by omega)
theorem main : laws_FnSlacks.Pure := by
  intro a b ha1 ha2 ha3 hb1 hb2 hb3
  refine rounds_of 1200000000000 fun k hk => ?_
  unfold laws_FnSlacks.f laws_f6big.f
  rw [Option.bind_some]
  obtain ⟨k, rfl⟩ : ∃ m, k = m + 1 := ⟨k - 1, by omega⟩
  by_cases ca : (a.length : Int) > 4096
  · rw [decide_eq_true ca, if_pos rfl, laws_FnSlacks.j0, if_pos rfl]
  rw [decide_eq_false ca, if_neg (by decide), Option.bind_some]
  by_cases cb : (b.length : Int) > 4096
  · rw [decide_eq_true cb, laws_FnSlacks.j0, if_pos rfl]
  rw [decide_eq_false cb, laws_FnSlacks.j0, if_neg (by decide)]
  have sa : srcOk a := ⟨by omega, fun x hx => by have := wf_u8 (ha3 x hx); omega⟩
  have sb : srcOk b := ⟨by omega, fun x hx => by have := wf_u8 (hb3 x hx); omega⟩
  obtain ⟨w, h, us, er, hw, hh, H, hx⟩ := p6room_eq a sa k (by omega)
  obtain ⟨u0, u1, u2, u3, u4, u5, u6, u7, u8, u9, rfl⟩ := ten_ex us H.len
  obtain ⟨v, ep, v0, v1⟩ := p6pick_eq a sa 4 (by omega)
  obtain ⟨n, rfl⟩ := Int.eq_ofNat_of_zero_le v0
  have er' : spec_P6Room.f k a = some ((w : Int), (h : Int), u0, u1, u2, u3, u4, u5, u6, u7, u8, u9) := er
  obtain ⟨sp, s1, s2, s3⟩ := p6stands_eq b sb H hw hh hx (2 + n) (by omega) k (by omega)
  have s3' : spec_P6Stands.f k b (w : Int) (h : Int) u0 u1 u2 u3 u4 u5 u6 u7 u8 u9 ((2 + n : Nat) : Int) = some sp := s3
  have hr := H.rng hw.2
  have hsp : ∀ s ∈ sp, spotR s := fun s q => cell_spotR hw.2 hh.2 (free_cell (s2 s q))
  have hall : sp.all (fun s => cellR (w : Int) (h : Int) s.f0 s.f1) = true := List.all_eq_true.2 (fun s q => free_cell (s2 s q))
  rw [er', Option.bind_some]
  dsimp only
  rw [ep, Option.bind_some, show wrap64 (2 + (n : Int)) = ((2 + n : Nat) : Int) by rw [wrap64_id _ (by omega) (by omega)]; omega, s3', Option.bind_some,
    implRopeFor_eq (w : Int) (h : Int) u0 u1 u2 u3 u4 u5 u6 u7 u8 u9 (by omega) (by omega) (hr 0 (by omega)) (hr 1 (by omega)) (hr 2 (by omega)) (hr 3 (by omega)) (hr 4 (by omega)) (hr 5 (by omega)) (hr 6 (by omega)) (hr 7 (by omega)) (hr 8 (by omega)) (hr 9 (by omega)) sp (by omega) hsp k (by omega), Option.bind_some,
    specRopeFor_eq (w : Int) (h : Int) u0 u1 u2 u3 u4 u5 u6 u7 u8 u9 (by omega) (by omega) (hr 0 (by omega)) (hr 1 (by omega)) (hr 2 (by omega)) (hr 3 (by omega)) (hr 4 (by omega)) (hr 5 (by omega)) (hr 6 (by omega)) (hr 7 (by omega)) (hr 8 (by omega)) (hr 9 (by omega)) sp (by omega) hsp k (by omega), Option.bind_some]
  have hway : ∀ j, 1 ≤ j → j < 1 + (sp.length - 1) → WayI ((stR (w : Int) (h : Int) [u0, u1, u2, u3, u4, u5, u6, u7, u8, u9] sp) j) := fun j a b => (st_way H hw hh sp s2 j (by omega)).2
  have hcode := way_code (stR (w : Int) (h : Int) [u0, u1, u2, u3, u4, u5, u6, u7, u8, u9] sp) (sp.length - 1) 1 hway
  have hR : ropeR (w : Int) (h : Int) [u0, u1, u2, u3, u4, u5, u6, u7, u8, u9] sp = if codeF (stR (w : Int) (h : Int) [u0, u1, u2, u3, u4, u5, u6, u7, u8, u9] sp) (sp.length - 1) 1 = 0 then finR ((distF (stR (w : Int) (h : Int) [u0, u1, u2, u3, u4, u5, u6, u7, u8, u9] sp) (sp.length - 1) 1).any (fun x => x == 0)) (runT 0 (distF (stR (w : Int) (h : Int) [u0, u1, u2, u3, u4, u5, u6, u7, u8, u9] sp) (sp.length - 1) 1)) ([0] ++ runL 0 (distF (stR (w : Int) (h : Int) [u0, u1, u2, u3, u4, u5, u6, u7, u8, u9] sp) (sp.length - 1) 1)) else (0, [], codeF (stR (w : Int) (h : Int) [u0, u1, u2, u3, u4, u5, u6, u7, u8, u9] sp) (sp.length - 1) 1) := by
    unfold ropeR
    rw [if_pos (H.ok hw hh), if_neg (by omega), if_neg (by omega), if_pos hall]
  have hRl := ropeR_len (w : Int) (h : Int) [u0, u1, u2, u3, u4, u5, u6, u7, u8, u9] sp
  have hT : spec_SameRope.f k (ropeR (w : Int) (h : Int) [u0, u1, u2, u3, u4, u5, u6, u7, u8, u9] sp).1 (ropeR (w : Int) (h : Int) [u0, u1, u2, u3, u4, u5, u6, u7, u8, u9] sp).2.1 (ropeR (w : Int) (h : Int) [u0, u1, u2, u3, u4, u5, u6, u7, u8, u9] sp).1 (ropeR (w : Int) (h : Int) [u0, u1, u2, u3, u4, u5, u6, u7, u8, u9] sp).2.1 = some true := sameRope_eq _ _ (by omega) k (by omega)
  rw [if_pos rfl, hT, Option.bind_some]
  obtain ⟨k, rfl⟩ : ∃ m, k = m + 1 := ⟨k - 1, by omega⟩
  rw [laws_FnSlacks.j1, if_neg (by decide)]
  have hl0 := law_l0 H hw hh a b sp s2 (by omega) (ropeR (w : Int) (h : Int) [u0, u1, u2, u3, u4, u5, u6, u7, u8, u9] sp).2.2 (ropeR (w : Int) (h : Int) [u0, u1, u2, u3, u4, u5, u6, u7, u8, u9] sp).1 (ropeR (w : Int) (h : Int) [u0, u1, u2, u3, u4, u5, u6, u7, u8, u9] sp).2.1 (sp.length - 1) 1 k false false (by omega) (Nat.le_refl _) (by omega)
  rw [Bool.false_or, Bool.false_or, show ((1 : Nat) : Int) = 1 from rfl] at hl0
  rw [hl0]
  obtain ⟨q, hq⟩ : ∃ q, k - (sp.length - 1) = q + 1 := ⟨k - (sp.length - 1) - 1, by omega⟩
  rw [hq, laws_FnSlacks.l0, if_neg (by omega), if_neg (by omega)]
  by_cases cbad : badF (stR (w : Int) (h : Int) [u0, u1, u2, u3, u4, u5, u6, u7, u8, u9] sp) (sp.length - 1) 1 = true
  · rw [cbad, if_pos rfl] at hcode
    rw [hcode, if_neg (by decide)] at hR
    obtain ⟨q, rfl⟩ : ∃ m, q = m + 1 := ⟨q - 1, by omega⟩
    rw [cbad, if_pos rfl, hR, laws_FnSlacks.j3, if_pos rfl]
    dsimp only
    rw [if_neg (by decide), if_pos rfl, if_pos rfl]
  · have cbad := Bool.eq_false_iff.2 cbad
    rw [cbad, if_neg (by decide)] at hcode
    obtain ⟨d1, d2⟩ := way_dist (stR (w : Int) (h : Int) [u0, u1, u2, u3, u4, u5, u6, u7, u8, u9] sp) (sp.length - 1) 1 hway cbad
    rw [hcode, if_pos rfl, d1] at hR
    by_cases cz : zerF (stR (w : Int) (h : Int) [u0, u1, u2, u3, u4, u5, u6, u7, u8, u9] sp) (sp.length - 1) 1 = true
    · rw [cz] at hR
      unfold finR at hR
      rw [if_pos rfl] at hR
      obtain ⟨q, rfl⟩ : ∃ m, q = m + 1 := ⟨q - 1, by omega⟩
      rw [cbad, cz, if_neg (by decide), hR, laws_FnSlacks.j3, if_pos rfl]
      dsimp only
      rw [if_neg (by decide), if_neg (by decide), if_pos rfl, if_pos rfl]
      rfl
    · have cz := Bool.eq_false_iff.2 cz
      have hg := law_good H hw hh a b sa sb hx sp s2 (by omega) (by omega) cbad cz q (by omega)
      have hd := d2 cz
      obtain ⟨g1, g2, g3⟩ := run_rope (stR (w : Int) (h : Int) [u0, u1, u2, u3, u4, u5, u6, u7, u8, u9] sp) (sp.length - 1) 1 0 [0] ⟨by simp, rfl, rfl, fun j h1 h2 => by simp at h2; omega⟩ (by omega) (by omega) hd
      have hkl : ([0] ++ runL 0 (distF (stR (w : Int) (h : Int) [u0, u1, u2, u3, u4, u5, u6, u7, u8, u9] sp) (sp.length - 1) 1)).length = sp.length := by rw [List.length_append, runL_len, distF_len, List.length_singleton]; omega
      have hok := g1.ok (by omega) (by rw [hkl]; omega)
      rw [cz] at hR
      unfold finR at hR
      rw [if_neg (by decide), if_neg (by omega), i16_id _ (by omega), i16_map _ _ hok] at hR
      rw [cbad, cz, if_neg (by decide), hR]
      exact hg

end Go.Proofs.Ytooidjdgfoioiaa.PureFnSlacks
namespace Go.Proofs.Ytooidjdgfoioiaa.Pure
theorem FnSlacks : Go.Proofs.Ytooidjdgfoioiaa.P.laws_FnSlacks.Pure := Go.Proofs.Ytooidjdgfoioiaa.PureFnSlacks.main
end Go.Proofs.Ytooidjdgfoioiaa.Pure
