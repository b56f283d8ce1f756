/- For every room, rope, list of holds and list of spots the program's SlacksOf returns the reference's slacks and code, in memory of its own, and leaves what it was given as it was; no condition. -/
import Derived.Test.YtooidjdgfoioiaaP32
import Derived.Laws.BitsLemmas
namespace Go.Proofs.Ytooidjdgfoioiaa.PureFnExactSlacksOf
open Go.RowKit Go.Proofs.Ytooidjdgfoioiaa.P Go.Proofs.YtooidjdgfoioiaaW.PrintWords Go.Proofs.YtooidjdgfoioiaaW.PrintLast
set_option linter.unusedSimpArgs false
set_option linter.unusedVariables false

theorem wrap64_id (x : Int) (h0 : -9223372036854775808 ≤ x) (h1 : x ≤ 9223372036854775807) : wrap64 x = x := by unfold wrap64; omega
theorem wrap_nat (n : Nat) (h : n < 4611686018427387904) : wrap64 ((n : Int) + 1) = ((n + 1 : Nat) : Int) := by
  rw [wrap64_id _ (by omega) (by omega)]; omega
theorem rd_nat (l : List Int) (i : Nat) : rd l (i : Int) = l.getD i 0 := by simp [rd]
theorem drop_rd (l : List Int) (i : Nat) (h : i < l.length) : l.drop i = rd l (i : Int) :: l.drop (i + 1) := by
  rw [List.drop_eq_getElem_cons h, rd_nat, List.getD_eq_getElem?_getD, List.getElem?_eq_getElem h]; rfl
theorem drop_getD {α : Type} (z : α) (l : List α) (i : Nat) (h : i < l.length) : l.drop i = l.getD i z :: l.drop (i + 1) := by
  rw [List.drop_eq_getElem_cons h, List.getD_eq_getElem?_getD, List.getElem?_eq_getElem h]; rfl
theorem take_getD {α : Type} (z : α) (l : List α) (i : Nat) (h : i < l.length) : l.take (i + 1) = l.take i ++ [l.getD i z] := by
  rw [List.take_succ_eq_append_getElem h, List.getD_eq_getElem?_getD, List.getElem?_eq_getElem h]; rfl
theorem set_rep {α : Type} (a : List α) (i d : Nat) (z v : α) (h : a.length = i) : (a ++ List.replicate (d + 1) z).set i v = (a ++ [v]) ++ List.replicate d z := by
  subst h
  rw [List.set_append_right _ _ (Nat.le_refl _), Nat.sub_self, List.replicate_succ, List.set_cons_zero]
  simp
theorem set_drop {α : Type} (a g : List α) (i : Nat) (v : α) (h : a.length = i) (hg : i < g.length) : (a ++ g.drop i).set i v = (a ++ [v]) ++ g.drop (i + 1) := by
  subst h
  rw [List.set_append_right _ _ (Nat.le_refl _), Nat.sub_self, List.drop_eq_getElem_cons hg, List.set_cons_zero]
  simp
theorem getD_range_map {α : Type} (z : α) (f : Nat → α) (n i : Nat) (h : i < n) : ((List.range n).map f).getD i z = f i := by
  rw [List.getD_eq_getElem?_getD, List.getElem?_map, List.getElem?_range h]; rfl
theorem rounds_of (B : Nat) {α : Type} {F : Nat → Option α} {v : α} (h : ∀ k, B ≤ k → F k = some v) : ∃ k, F k = some v := ⟨B, h B (Nat.le_refl _)⟩

theorem wrap_u16 (n : Int) : IntKind.u16.wrap n = n % 65536 := by simp [IntKind.wrap, IntKind.bits, IntKind.signed]
theorem wrap_u64 (n : Int) : IntKind.u64.wrap n = n % 18446744073709551616 := by simp [IntKind.wrap, IntKind.bits, IntKind.signed]
theorem wraps_u16 (n : Int) (h₀ : 0 ≤ n) (h₁ : n < 2 ^ 16) : IntKind.u16.wrap n = n := by rw [wrap_u16]; omega
theorem wrap_u64_id (n : Int) (h0 : 0 ≤ n) (h1 : n < 18446744073709551616) : IntKind.u64.wrap n = n := by rw [wrap_u64]; omega
theorem and_one (x : Int) (h₀ : 0 ≤ x) (h₁ : x < 65536) : Go.bits .and .u16 x 1 = x % 2 := by
  have := Go.bits_mask .u16 16 (by decide) wraps_u16 1 (by decide) x h₀ (by omega)
  simpa using this
theorem wf_u16 {a : Int} (h : (Lit.int .u16 a).wf = true) : 0 ≤ a ∧ a < 65536 := by
  simp [Lit.wf, IntKind.min, IntKind.max, IntKind.bits, IntKind.signed] at h
  omega
theorem wf_i16 {a : Int} (h : (Lit.int .i16 a).wf = true) : -32768 ≤ a ∧ a ≤ 32767 := by
  simp [Lit.wf, IntKind.min, IntKind.max, IntKind.bits, IntKind.signed] at h
  omega
theorem wf_i8 {a : Int} (h : (Lit.int .i8 a).wf = true) : -128 ≤ a ∧ a ≤ 127 := by
  simp [Lit.wf, IntKind.min, IntKind.max, IntKind.bits, IntKind.signed] at h
  omega
theorem shr_range (a n : Int) (h0 : 0 ≤ a) (h1 : a < 65536) : 0 ≤ shr .u16 a n ∧ shr .u16 a n < 65536 := by
  unfold shr
  have hp : (0 : Int) < 2 ^ min n.toNat IntKind.u16.bits := Int.pow_pos (by decide)
  constructor
  · exact Int.ediv_nonneg h0 (Int.le_of_lt hp)
  · exact Int.lt_of_le_of_lt (Int.ediv_le_self _ h0) h1
def rowsR (w h : Int) : Int → List Int → Bool
  | _, [] => true
  | i, x :: r => if shr .u16 x w = 0 then (if h ≤ i then (if x = 0 then rowsR w h (i + 1) r else false) else rowsR w h (i + 1) r) else false
def okR (w h : Int) (us : List Int) : Bool := decide (1 ≤ w ∧ w ≤ 10) && (decide (1 ≤ h ∧ h ≤ 10) && rowsR w h 0 us)
def cellR (w h x y : Int) : Bool := decide (0 ≤ x ∧ x ≤ w - 1) && decide (0 ≤ y ∧ y ≤ h - 1)
def freeR (w h : Int) (us : List Int) (x y : Int) : Bool := cellR w h x y && (shr .u16 (us.getD y.toNat 0) x % 2 == 0)
theorem inR_eq (a b c : Int) : spec_l00In.f a b c = some (decide (b ≤ a ∧ a ≤ c)) := by
  unfold spec_l00In.f
  by_cases h : a ≥ b
  · rw [if_pos h]; simp [h]
  · rw [if_neg h]; simp; omega
theorem okR_l0_10 (w h u0 u1 u2 u3 u4 u5 u6 u7 u8 u9 : Int) (k : Nat) : spec_l01Ok.l0 (k + 1) 10 w h u0 u1 u2 u3 u4 u5 u6 u7 u8 u9 = some (rowsR w h 10 []) := by
  rw [spec_l01Ok.l0, if_neg (by decide)]; rfl
theorem okR_l0_9 (w h u0 u1 u2 u3 u4 u5 u6 u7 u8 u9 : Int) (hw : 1 ≤ w ∧ w ≤ 10) (hh : 1 ≤ h ∧ h ≤ 10) (k : Nat) : spec_l01Ok.l0 (k + 2) 9 w h u0 u1 u2 u3 u4 u5 u6 u7 u8 u9 = some (rowsR w h 9 [u9]) := by
  rw [spec_l01Ok.l0, if_pos (by decide), if_pos (by decide), if_neg (by decide), if_neg (by decide), if_neg (by decide), if_neg (by decide), if_neg (by decide), if_neg (by decide), if_neg (by decide), if_neg (by decide), if_neg (by decide), if_pos rfl, wrap_u64_id w (by omega) (by omega), wrap64_id h (by omega) (by omega), if_pos (by omega)]
  rw [wrap64_id (9 + 1) (by decide) (by decide), rowsR, show ((9 : Int) + 1) = 10 from rfl]
  by_cases c : shr .u16 u9 w = 0
  · rw [if_pos c, if_pos c]
    by_cases d : h ≤ 9
    · rw [if_pos d, if_pos d]
      by_cases e : u9 = 0
      · rw [if_pos e, if_pos e]; exact okR_l0_10 w h u0 u1 u2 u3 u4 u5 u6 u7 u8 u9 k
      · rw [if_neg e, if_neg e]
    · rw [if_neg d, if_neg d]; exact okR_l0_10 w h u0 u1 u2 u3 u4 u5 u6 u7 u8 u9 k
  · rw [if_neg c, if_neg c]
theorem okR_l0_8 (w h u0 u1 u2 u3 u4 u5 u6 u7 u8 u9 : Int) (hw : 1 ≤ w ∧ w ≤ 10) (hh : 1 ≤ h ∧ h ≤ 10) (k : Nat) : spec_l01Ok.l0 (k + 3) 8 w h u0 u1 u2 u3 u4 u5 u6 u7 u8 u9 = some (rowsR w h 8 [u8, u9]) := by
  rw [spec_l01Ok.l0, if_pos (by decide), if_pos (by decide), if_neg (by decide), if_neg (by decide), if_neg (by decide), if_neg (by decide), if_neg (by decide), if_neg (by decide), if_neg (by decide), if_neg (by decide), if_pos rfl, wrap_u64_id w (by omega) (by omega), wrap64_id h (by omega) (by omega), if_pos (by omega)]
  rw [wrap64_id (8 + 1) (by decide) (by decide), rowsR, show ((8 : Int) + 1) = 9 from rfl]
  by_cases c : shr .u16 u8 w = 0
  · rw [if_pos c, if_pos c]
    by_cases d : h ≤ 8
    · rw [if_pos d, if_pos d]
      by_cases e : u8 = 0
      · rw [if_pos e, if_pos e]; exact okR_l0_9 w h u0 u1 u2 u3 u4 u5 u6 u7 u8 u9 hw hh k
      · rw [if_neg e, if_neg e]
    · rw [if_neg d, if_neg d]; exact okR_l0_9 w h u0 u1 u2 u3 u4 u5 u6 u7 u8 u9 hw hh k
  · rw [if_neg c, if_neg c]
theorem okR_l0_7 (w h u0 u1 u2 u3 u4 u5 u6 u7 u8 u9 : Int) (hw : 1 ≤ w ∧ w ≤ 10) (hh : 1 ≤ h ∧ h ≤ 10) (k : Nat) : spec_l01Ok.l0 (k + 4) 7 w h u0 u1 u2 u3 u4 u5 u6 u7 u8 u9 = some (rowsR w h 7 [u7, u8, u9]) := by
  rw [spec_l01Ok.l0, if_pos (by decide), if_pos (by decide), if_neg (by decide), if_neg (by decide), if_neg (by decide), if_neg (by decide), if_neg (by decide), if_neg (by decide), if_neg (by decide), if_pos rfl, wrap_u64_id w (by omega) (by omega), wrap64_id h (by omega) (by omega), if_pos (by omega)]
  rw [wrap64_id (7 + 1) (by decide) (by decide), rowsR, show ((7 : Int) + 1) = 8 from rfl]
  by_cases c : shr .u16 u7 w = 0
  · rw [if_pos c, if_pos c]
    by_cases d : h ≤ 7
    · rw [if_pos d, if_pos d]
      by_cases e : u7 = 0
      · rw [if_pos e, if_pos e]; exact okR_l0_8 w h u0 u1 u2 u3 u4 u5 u6 u7 u8 u9 hw hh k
      · rw [if_neg e, if_neg e]
    · rw [if_neg d, if_neg d]; exact okR_l0_8 w h u0 u1 u2 u3 u4 u5 u6 u7 u8 u9 hw hh k
  · rw [if_neg c, if_neg c]
theorem okR_l0_6 (w h u0 u1 u2 u3 u4 u5 u6 u7 u8 u9 : Int) (hw : 1 ≤ w ∧ w ≤ 10) (hh : 1 ≤ h ∧ h ≤ 10) (k : Nat) : spec_l01Ok.l0 (k + 5) 6 w h u0 u1 u2 u3 u4 u5 u6 u7 u8 u9 = some (rowsR w h 6 [u6, u7, u8, u9]) := by
  rw [spec_l01Ok.l0, if_pos (by decide), if_pos (by decide), if_neg (by decide), if_neg (by decide), if_neg (by decide), if_neg (by decide), if_neg (by decide), if_neg (by decide), if_pos rfl, wrap_u64_id w (by omega) (by omega), wrap64_id h (by omega) (by omega), if_pos (by omega)]
  rw [wrap64_id (6 + 1) (by decide) (by decide), rowsR, show ((6 : Int) + 1) = 7 from rfl]
  by_cases c : shr .u16 u6 w = 0
  · rw [if_pos c, if_pos c]
    by_cases d : h ≤ 6
    · rw [if_pos d, if_pos d]
      by_cases e : u6 = 0
      · rw [if_pos e, if_pos e]; exact okR_l0_7 w h u0 u1 u2 u3 u4 u5 u6 u7 u8 u9 hw hh k
      · rw [if_neg e, if_neg e]
    · rw [if_neg d, if_neg d]; exact okR_l0_7 w h u0 u1 u2 u3 u4 u5 u6 u7 u8 u9 hw hh k
  · rw [if_neg c, if_neg c]
theorem okR_l0_5 (w h u0 u1 u2 u3 u4 u5 u6 u7 u8 u9 : Int) (hw : 1 ≤ w ∧ w ≤ 10) (hh : 1 ≤ h ∧ h ≤ 10) (k : Nat) : spec_l01Ok.l0 (k + 6) 5 w h u0 u1 u2 u3 u4 u5 u6 u7 u8 u9 = some (rowsR w h 5 [u5, u6, u7, u8, u9]) := by
  rw [spec_l01Ok.l0, if_pos (by decide), if_pos (by decide), if_neg (by decide), if_neg (by decide), if_neg (by decide), if_neg (by decide), if_neg (by decide), if_pos rfl, wrap_u64_id w (by omega) (by omega), wrap64_id h (by omega) (by omega), if_pos (by omega)]
  rw [wrap64_id (5 + 1) (by decide) (by decide), rowsR, show ((5 : Int) + 1) = 6 from rfl]
  by_cases c : shr .u16 u5 w = 0
  · rw [if_pos c, if_pos c]
    by_cases d : h ≤ 5
    · rw [if_pos d, if_pos d]
      by_cases e : u5 = 0
      · rw [if_pos e, if_pos e]; exact okR_l0_6 w h u0 u1 u2 u3 u4 u5 u6 u7 u8 u9 hw hh k
      · rw [if_neg e, if_neg e]
    · rw [if_neg d, if_neg d]; exact okR_l0_6 w h u0 u1 u2 u3 u4 u5 u6 u7 u8 u9 hw hh k
  · rw [if_neg c, if_neg c]
theorem okR_l0_4 (w h u0 u1 u2 u3 u4 u5 u6 u7 u8 u9 : Int) (hw : 1 ≤ w ∧ w ≤ 10) (hh : 1 ≤ h ∧ h ≤ 10) (k : Nat) : spec_l01Ok.l0 (k + 7) 4 w h u0 u1 u2 u3 u4 u5 u6 u7 u8 u9 = some (rowsR w h 4 [u4, u5, u6, u7, u8, u9]) := by
  rw [spec_l01Ok.l0, if_pos (by decide), if_pos (by decide), if_neg (by decide), if_neg (by decide), if_neg (by decide), if_neg (by decide), if_pos rfl, wrap_u64_id w (by omega) (by omega), wrap64_id h (by omega) (by omega), if_pos (by omega)]
  rw [wrap64_id (4 + 1) (by decide) (by decide), rowsR, show ((4 : Int) + 1) = 5 from rfl]
  by_cases c : shr .u16 u4 w = 0
  · rw [if_pos c, if_pos c]
    by_cases d : h ≤ 4
    · rw [if_pos d, if_pos d]
      by_cases e : u4 = 0
      · rw [if_pos e, if_pos e]; exact okR_l0_5 w h u0 u1 u2 u3 u4 u5 u6 u7 u8 u9 hw hh k
      · rw [if_neg e, if_neg e]
    · rw [if_neg d, if_neg d]; exact okR_l0_5 w h u0 u1 u2 u3 u4 u5 u6 u7 u8 u9 hw hh k
  · rw [if_neg c, if_neg c]
theorem okR_l0_3 (w h u0 u1 u2 u3 u4 u5 u6 u7 u8 u9 : Int) (hw : 1 ≤ w ∧ w ≤ 10) (hh : 1 ≤ h ∧ h ≤ 10) (k : Nat) : spec_l01Ok.l0 (k + 8) 3 w h u0 u1 u2 u3 u4 u5 u6 u7 u8 u9 = some (rowsR w h 3 [u3, u4, u5, u6, u7, u8, u9]) := by
  rw [spec_l01Ok.l0, if_pos (by decide), if_pos (by decide), if_neg (by decide), if_neg (by decide), if_neg (by decide), if_pos rfl, wrap_u64_id w (by omega) (by omega), wrap64_id h (by omega) (by omega), if_pos (by omega)]
  rw [wrap64_id (3 + 1) (by decide) (by decide), rowsR, show ((3 : Int) + 1) = 4 from rfl]
  by_cases c : shr .u16 u3 w = 0
  · rw [if_pos c, if_pos c]
    by_cases d : h ≤ 3
    · rw [if_pos d, if_pos d]
      by_cases e : u3 = 0
      · rw [if_pos e, if_pos e]; exact okR_l0_4 w h u0 u1 u2 u3 u4 u5 u6 u7 u8 u9 hw hh k
      · rw [if_neg e, if_neg e]
    · rw [if_neg d, if_neg d]; exact okR_l0_4 w h u0 u1 u2 u3 u4 u5 u6 u7 u8 u9 hw hh k
  · rw [if_neg c, if_neg c]
theorem okR_l0_2 (w h u0 u1 u2 u3 u4 u5 u6 u7 u8 u9 : Int) (hw : 1 ≤ w ∧ w ≤ 10) (hh : 1 ≤ h ∧ h ≤ 10) (k : Nat) : spec_l01Ok.l0 (k + 9) 2 w h u0 u1 u2 u3 u4 u5 u6 u7 u8 u9 = some (rowsR w h 2 [u2, u3, u4, u5, u6, u7, u8, u9]) := by
  rw [spec_l01Ok.l0, if_pos (by decide), if_pos (by decide), if_neg (by decide), if_neg (by decide), if_pos rfl, wrap_u64_id w (by omega) (by omega), wrap64_id h (by omega) (by omega), if_pos (by omega)]
  rw [wrap64_id (2 + 1) (by decide) (by decide), rowsR, show ((2 : Int) + 1) = 3 from rfl]
  by_cases c : shr .u16 u2 w = 0
  · rw [if_pos c, if_pos c]
    by_cases d : h ≤ 2
    · rw [if_pos d, if_pos d]
      by_cases e : u2 = 0
      · rw [if_pos e, if_pos e]; exact okR_l0_3 w h u0 u1 u2 u3 u4 u5 u6 u7 u8 u9 hw hh k
      · rw [if_neg e, if_neg e]
    · rw [if_neg d, if_neg d]; exact okR_l0_3 w h u0 u1 u2 u3 u4 u5 u6 u7 u8 u9 hw hh k
  · rw [if_neg c, if_neg c]
theorem okR_l0_1 (w h u0 u1 u2 u3 u4 u5 u6 u7 u8 u9 : Int) (hw : 1 ≤ w ∧ w ≤ 10) (hh : 1 ≤ h ∧ h ≤ 10) (k : Nat) : spec_l01Ok.l0 (k + 10) 1 w h u0 u1 u2 u3 u4 u5 u6 u7 u8 u9 = some (rowsR w h 1 [u1, u2, u3, u4, u5, u6, u7, u8, u9]) := by
  rw [spec_l01Ok.l0, if_pos (by decide), if_pos (by decide), if_neg (by decide), if_pos rfl, wrap_u64_id w (by omega) (by omega), wrap64_id h (by omega) (by omega), if_pos (by omega)]
  rw [wrap64_id (1 + 1) (by decide) (by decide), rowsR, show ((1 : Int) + 1) = 2 from rfl]
  by_cases c : shr .u16 u1 w = 0
  · rw [if_pos c, if_pos c]
    by_cases d : h ≤ 1
    · rw [if_pos d, if_pos d]
      by_cases e : u1 = 0
      · rw [if_pos e, if_pos e]; exact okR_l0_2 w h u0 u1 u2 u3 u4 u5 u6 u7 u8 u9 hw hh k
      · rw [if_neg e, if_neg e]
    · rw [if_neg d, if_neg d]; exact okR_l0_2 w h u0 u1 u2 u3 u4 u5 u6 u7 u8 u9 hw hh k
  · rw [if_neg c, if_neg c]
theorem okR_l0_0 (w h u0 u1 u2 u3 u4 u5 u6 u7 u8 u9 : Int) (hw : 1 ≤ w ∧ w ≤ 10) (hh : 1 ≤ h ∧ h ≤ 10) (k : Nat) : spec_l01Ok.l0 (k + 11) 0 w h u0 u1 u2 u3 u4 u5 u6 u7 u8 u9 = some (rowsR w h 0 [u0, u1, u2, u3, u4, u5, u6, u7, u8, u9]) := by
  rw [spec_l01Ok.l0, if_pos (by decide), if_pos (by decide), if_pos rfl, wrap_u64_id w (by omega) (by omega), wrap64_id h (by omega) (by omega), if_pos (by omega)]
  rw [wrap64_id (0 + 1) (by decide) (by decide), rowsR, show ((0 : Int) + 1) = 1 from rfl]
  by_cases c : shr .u16 u0 w = 0
  · rw [if_pos c, if_pos c]
    by_cases d : h ≤ 0
    · rw [if_pos d, if_pos d]
      by_cases e : u0 = 0
      · rw [if_pos e, if_pos e]; exact okR_l0_1 w h u0 u1 u2 u3 u4 u5 u6 u7 u8 u9 hw hh k
      · rw [if_neg e, if_neg e]
    · rw [if_neg d, if_neg d]; exact okR_l0_1 w h u0 u1 u2 u3 u4 u5 u6 u7 u8 u9 hw hh k
  · rw [if_neg c, if_neg c]
theorem specOk_eq (w h u0 u1 u2 u3 u4 u5 u6 u7 u8 u9 : Int) (iw : -128 ≤ w ∧ w ≤ 127) (ih : -128 ≤ h ∧ h ≤ 127) (k : Nat) (hk : 12 ≤ k) : spec_l01Ok.f k w h u0 u1 u2 u3 u4 u5 u6 u7 u8 u9 = some (okR w h [u0, u1, u2, u3, u4, u5, u6, u7, u8, u9]) := by
  unfold spec_l01Ok.f okR
  rw [wrap64_id w (by omega) (by omega), wrap64_id h (by omega) (by omega), inR_eq, inR_eq, Option.bind_some, Option.bind_some]
  obtain ⟨k, rfl⟩ : ∃ m, k = m + 12 := ⟨k - 12, by omega⟩
  by_cases cw : 1 ≤ w ∧ w ≤ 10
  · rw [decide_eq_true cw, if_pos rfl, Bool.true_and]
    by_cases ch : 1 ≤ h ∧ h ≤ 10
    · rw [decide_eq_true ch, Bool.true_and, spec_l01Ok.j0, if_neg (by decide)]
      exact okR_l0_0 w h u0 u1 u2 u3 u4 u5 u6 u7 u8 u9 cw ch k
    · rw [decide_eq_false ch, Bool.false_and, spec_l01Ok.j0, if_pos (by decide)]
  · rw [decide_eq_false cw, if_neg (by decide), Bool.false_and, spec_l01Ok.j0, if_pos rfl]
theorem specIs_eq (w h u0 u1 u2 u3 u4 u5 u6 u7 u8 u9 : Int) (iw : -128 ≤ w ∧ w ≤ 127) (ih : -128 ≤ h ∧ h ≤ 127) (x y : Int) (hx : -128 ≤ x ∧ x ≤ 127) (hy : -128 ≤ y ∧ y ≤ 127) : spec_l01Is.f w h u0 u1 u2 u3 u4 u5 u6 u7 u8 u9 x y = some (cellR w h x y) := by
  unfold spec_l01Is.f cellR
  rw [wrap64_id w (by omega) (by omega), wrap64_id h (by omega) (by omega), wrap64_id x (by omega) (by omega), wrap64_id y (by omega) (by omega), wrap64_id (w - 1) (by omega) (by omega), wrap64_id (h - 1) (by omega) (by omega), inR_eq, inR_eq, Option.bind_some, Option.bind_some]
  by_cases c : 0 ≤ x ∧ x ≤ w - 1
  · rw [decide_eq_true c, if_pos rfl, Bool.true_and]
  · rw [decide_eq_false c, if_neg (by decide), Bool.false_and]
theorem specAsked_eq (w h u0 u1 u2 u3 u4 u5 u6 u7 u8 u9 : Int) (iw : -128 ≤ w ∧ w ≤ 127) (ih : -128 ≤ h ∧ h ≤ 127) (x y : Int) (hx : -128 ≤ x ∧ x ≤ 127) (hy : -128 ≤ y ∧ y ≤ 127) (k : Nat) (hk : 12 ≤ k) : spec_l01Asked.f k w h u0 u1 u2 u3 u4 u5 u6 u7 u8 u9 x y true = some (if okR w h [u0, u1, u2, u3, u4, u5, u6, u7, u8, u9] = true then (if cellR w h x y = true then 0 else 2) else 1) := by
  unfold spec_l01Asked.f
  rw [specOk_eq w h u0 u1 u2 u3 u4 u5 u6 u7 u8 u9 iw ih k hk, Option.bind_some, specIs_eq w h u0 u1 u2 u3 u4 u5 u6 u7 u8 u9 iw ih x y hx hy, Option.bind_some]
  by_cases c : okR w h [u0, u1, u2, u3, u4, u5, u6, u7, u8, u9] = true
  · rw [if_pos c, if_pos c]
    by_cases d : cellR w h x y = true
    · rw [if_pos d, if_pos d, if_pos rfl]
    · rw [if_neg d, if_neg d]
  · rw [if_neg c, if_neg c]
theorem cellR_iff {w h x y : Int} : cellR w h x y = true ↔ (0 ≤ x ∧ x ≤ w - 1) ∧ (0 ≤ y ∧ y ≤ h - 1) := by
  unfold cellR; rw [Bool.and_eq_true, decide_eq_true_eq, decide_eq_true_eq]
set_option maxRecDepth 4000 in
theorem sfree_at (w h u0 u1 u2 u3 u4 u5 u6 u7 u8 u9 : Int) (r0 : 0 ≤ u0 ∧ u0 < 65536) (r1 : 0 ≤ u1 ∧ u1 < 65536) (r2 : 0 ≤ u2 ∧ u2 < 65536) (r3 : 0 ≤ u3 ∧ u3 < 65536) (r4 : 0 ≤ u4 ∧ u4 < 65536) (r5 : 0 ≤ u5 ∧ u5 < 65536) (r6 : 0 ≤ u6 ∧ u6 < 65536) (r7 : 0 ≤ u7 ∧ u7 < 65536) (r8 : 0 ≤ u8 ∧ u8 < 65536) (r9 : 0 ≤ u9 ∧ u9 < 65536) (x y : Int) (hx : 0 ≤ x ∧ x < 10) (hy : 0 ≤ y ∧ y < 10) : (if 0 ≤ y then (if y < 10 then (if y = 0 then (if 0 ≤ IntKind.u64.wrap x then some (Int.tmod (shr .u16 u0 (IntKind.u64.wrap x)) 2 == 0) else none) else (if y = 1 then (if 0 ≤ IntKind.u64.wrap x then some (Int.tmod (shr .u16 u1 (IntKind.u64.wrap x)) 2 == 0) else none) else (if y = 2 then (if 0 ≤ IntKind.u64.wrap x then some (Int.tmod (shr .u16 u2 (IntKind.u64.wrap x)) 2 == 0) else none) else (if y = 3 then (if 0 ≤ IntKind.u64.wrap x then some (Int.tmod (shr .u16 u3 (IntKind.u64.wrap x)) 2 == 0) else none) else (if y = 4 then (if 0 ≤ IntKind.u64.wrap x then some (Int.tmod (shr .u16 u4 (IntKind.u64.wrap x)) 2 == 0) else none) else (if y = 5 then (if 0 ≤ IntKind.u64.wrap x then some (Int.tmod (shr .u16 u5 (IntKind.u64.wrap x)) 2 == 0) else none) else (if y = 6 then (if 0 ≤ IntKind.u64.wrap x then some (Int.tmod (shr .u16 u6 (IntKind.u64.wrap x)) 2 == 0) else none) else (if y = 7 then (if 0 ≤ IntKind.u64.wrap x then some (Int.tmod (shr .u16 u7 (IntKind.u64.wrap x)) 2 == 0) else none) else (if y = 8 then (if 0 ≤ IntKind.u64.wrap x then some (Int.tmod (shr .u16 u8 (IntKind.u64.wrap x)) 2 == 0) else none) else (if y = 9 then (if 0 ≤ IntKind.u64.wrap x then some (Int.tmod (shr .u16 u9 (IntKind.u64.wrap x)) 2 == 0) else none) else (none))))))))))) else none) else none) = some (shr .u16 ([u0, u1, u2, u3, u4, u5, u6, u7, u8, u9].getD y.toNat 0) x % 2 == 0) := by
  rw [if_pos hy.1, if_pos hy.2]
  have hc : y = 0 ∨ y = 1 ∨ y = 2 ∨ y = 3 ∨ y = 4 ∨ y = 5 ∨ y = 6 ∨ y = 7 ∨ y = 8 ∨ y = 9 := by omega
  rcases hc with rfl | rfl | rfl | rfl | rfl | rfl | rfl | rfl | rfl | rfl
  · rw [if_pos rfl]; rw [wrap_u64_id x (by omega) (by omega), if_pos hx.1, Int.tmod_eq_emod_of_nonneg (shr_range _ _ r0.1 r0.2).1]; rfl
  · rw [if_neg (by decide), if_pos rfl]; rw [wrap_u64_id x (by omega) (by omega), if_pos hx.1, Int.tmod_eq_emod_of_nonneg (shr_range _ _ r1.1 r1.2).1]; rfl
  · rw [if_neg (by decide), if_neg (by decide), if_pos rfl]; rw [wrap_u64_id x (by omega) (by omega), if_pos hx.1, Int.tmod_eq_emod_of_nonneg (shr_range _ _ r2.1 r2.2).1]; rfl
  · rw [if_neg (by decide), if_neg (by decide), if_neg (by decide), if_pos rfl]; rw [wrap_u64_id x (by omega) (by omega), if_pos hx.1, Int.tmod_eq_emod_of_nonneg (shr_range _ _ r3.1 r3.2).1]; rfl
  · rw [if_neg (by decide), if_neg (by decide), if_neg (by decide), if_neg (by decide), if_pos rfl]; rw [wrap_u64_id x (by omega) (by omega), if_pos hx.1, Int.tmod_eq_emod_of_nonneg (shr_range _ _ r4.1 r4.2).1]; rfl
  · rw [if_neg (by decide), if_neg (by decide), if_neg (by decide), if_neg (by decide), if_neg (by decide), if_pos rfl]; rw [wrap_u64_id x (by omega) (by omega), if_pos hx.1, Int.tmod_eq_emod_of_nonneg (shr_range _ _ r5.1 r5.2).1]; rfl
  · rw [if_neg (by decide), if_neg (by decide), if_neg (by decide), if_neg (by decide), if_neg (by decide), if_neg (by decide), if_pos rfl]; rw [wrap_u64_id x (by omega) (by omega), if_pos hx.1, Int.tmod_eq_emod_of_nonneg (shr_range _ _ r6.1 r6.2).1]; rfl
  · rw [if_neg (by decide), if_neg (by decide), if_neg (by decide), if_neg (by decide), if_neg (by decide), if_neg (by decide), if_neg (by decide), if_pos rfl]; rw [wrap_u64_id x (by omega) (by omega), if_pos hx.1, Int.tmod_eq_emod_of_nonneg (shr_range _ _ r7.1 r7.2).1]; rfl
  · rw [if_neg (by decide), if_neg (by decide), if_neg (by decide), if_neg (by decide), if_neg (by decide), if_neg (by decide), if_neg (by decide), if_neg (by decide), if_pos rfl]; rw [wrap_u64_id x (by omega) (by omega), if_pos hx.1, Int.tmod_eq_emod_of_nonneg (shr_range _ _ r8.1 r8.2).1]; rfl
  · rw [if_neg (by decide), if_neg (by decide), if_neg (by decide), if_neg (by decide), if_neg (by decide), if_neg (by decide), if_neg (by decide), if_neg (by decide), if_neg (by decide), if_pos rfl]; rw [wrap_u64_id x (by omega) (by omega), if_pos hx.1, Int.tmod_eq_emod_of_nonneg (shr_range _ _ r9.1 r9.2).1]; rfl
set_option maxRecDepth 4000 in
theorem ifree_at (w h u0 u1 u2 u3 u4 u5 u6 u7 u8 u9 : Int) (r0 : 0 ≤ u0 ∧ u0 < 65536) (r1 : 0 ≤ u1 ∧ u1 < 65536) (r2 : 0 ≤ u2 ∧ u2 < 65536) (r3 : 0 ≤ u3 ∧ u3 < 65536) (r4 : 0 ≤ u4 ∧ u4 < 65536) (r5 : 0 ≤ u5 ∧ u5 < 65536) (r6 : 0 ≤ u6 ∧ u6 < 65536) (r7 : 0 ≤ u7 ∧ u7 < 65536) (r8 : 0 ≤ u8 ∧ u8 < 65536) (r9 : 0 ≤ u9 ∧ u9 < 65536) (x y : Int) (hx : 0 ≤ x ∧ x < 10) (hy : 0 ≤ y ∧ y < 10) : (if 0 ≤ y then (if y < 10 then (if y = 0 then (if 0 ≤ x then some (Go.bits .and .u16 (shr .u16 u0 x) 1 == 0) else none) else (if y = 1 then (if 0 ≤ x then some (Go.bits .and .u16 (shr .u16 u1 x) 1 == 0) else none) else (if y = 2 then (if 0 ≤ x then some (Go.bits .and .u16 (shr .u16 u2 x) 1 == 0) else none) else (if y = 3 then (if 0 ≤ x then some (Go.bits .and .u16 (shr .u16 u3 x) 1 == 0) else none) else (if y = 4 then (if 0 ≤ x then some (Go.bits .and .u16 (shr .u16 u4 x) 1 == 0) else none) else (if y = 5 then (if 0 ≤ x then some (Go.bits .and .u16 (shr .u16 u5 x) 1 == 0) else none) else (if y = 6 then (if 0 ≤ x then some (Go.bits .and .u16 (shr .u16 u6 x) 1 == 0) else none) else (if y = 7 then (if 0 ≤ x then some (Go.bits .and .u16 (shr .u16 u7 x) 1 == 0) else none) else (if y = 8 then (if 0 ≤ x then some (Go.bits .and .u16 (shr .u16 u8 x) 1 == 0) else none) else (if y = 9 then (if 0 ≤ x then some (Go.bits .and .u16 (shr .u16 u9 x) 1 == 0) else none) else (none))))))))))) else none) else none) = some (shr .u16 ([u0, u1, u2, u3, u4, u5, u6, u7, u8, u9].getD y.toNat 0) x % 2 == 0) := by
  rw [if_pos hy.1, if_pos hy.2]
  have hc : y = 0 ∨ y = 1 ∨ y = 2 ∨ y = 3 ∨ y = 4 ∨ y = 5 ∨ y = 6 ∨ y = 7 ∨ y = 8 ∨ y = 9 := by omega
  rcases hc with rfl | rfl | rfl | rfl | rfl | rfl | rfl | rfl | rfl | rfl
  · rw [if_pos rfl]; rw [if_pos hx.1, and_one _ (shr_range _ _ r0.1 r0.2).1 (shr_range _ _ r0.1 r0.2).2]; rfl
  · rw [if_neg (by decide), if_pos rfl]; rw [if_pos hx.1, and_one _ (shr_range _ _ r1.1 r1.2).1 (shr_range _ _ r1.1 r1.2).2]; rfl
  · rw [if_neg (by decide), if_neg (by decide), if_pos rfl]; rw [if_pos hx.1, and_one _ (shr_range _ _ r2.1 r2.2).1 (shr_range _ _ r2.1 r2.2).2]; rfl
  · rw [if_neg (by decide), if_neg (by decide), if_neg (by decide), if_pos rfl]; rw [if_pos hx.1, and_one _ (shr_range _ _ r3.1 r3.2).1 (shr_range _ _ r3.1 r3.2).2]; rfl
  · rw [if_neg (by decide), if_neg (by decide), if_neg (by decide), if_neg (by decide), if_pos rfl]; rw [if_pos hx.1, and_one _ (shr_range _ _ r4.1 r4.2).1 (shr_range _ _ r4.1 r4.2).2]; rfl
  · rw [if_neg (by decide), if_neg (by decide), if_neg (by decide), if_neg (by decide), if_neg (by decide), if_pos rfl]; rw [if_pos hx.1, and_one _ (shr_range _ _ r5.1 r5.2).1 (shr_range _ _ r5.1 r5.2).2]; rfl
  · rw [if_neg (by decide), if_neg (by decide), if_neg (by decide), if_neg (by decide), if_neg (by decide), if_neg (by decide), if_pos rfl]; rw [if_pos hx.1, and_one _ (shr_range _ _ r6.1 r6.2).1 (shr_range _ _ r6.1 r6.2).2]; rfl
  · rw [if_neg (by decide), if_neg (by decide), if_neg (by decide), if_neg (by decide), if_neg (by decide), if_neg (by decide), if_neg (by decide), if_pos rfl]; rw [if_pos hx.1, and_one _ (shr_range _ _ r7.1 r7.2).1 (shr_range _ _ r7.1 r7.2).2]; rfl
  · rw [if_neg (by decide), if_neg (by decide), if_neg (by decide), if_neg (by decide), if_neg (by decide), if_neg (by decide), if_neg (by decide), if_neg (by decide), if_pos rfl]; rw [if_pos hx.1, and_one _ (shr_range _ _ r8.1 r8.2).1 (shr_range _ _ r8.1 r8.2).2]; rfl
  · rw [if_neg (by decide), if_neg (by decide), if_neg (by decide), if_neg (by decide), if_neg (by decide), if_neg (by decide), if_neg (by decide), if_neg (by decide), if_neg (by decide), if_pos rfl]; rw [if_pos hx.1, and_one _ (shr_range _ _ r9.1 r9.2).1 (shr_range _ _ r9.1 r9.2).2]; rfl
theorem specFree_eq (w h u0 u1 u2 u3 u4 u5 u6 u7 u8 u9 : Int) (iw : 1 ≤ w ∧ w ≤ 10) (ih : 1 ≤ h ∧ h ≤ 10) (r0 : 0 ≤ u0 ∧ u0 < 65536) (r1 : 0 ≤ u1 ∧ u1 < 65536) (r2 : 0 ≤ u2 ∧ u2 < 65536) (r3 : 0 ≤ u3 ∧ u3 < 65536) (r4 : 0 ≤ u4 ∧ u4 < 65536) (r5 : 0 ≤ u5 ∧ u5 < 65536) (r6 : 0 ≤ u6 ∧ u6 < 65536) (r7 : 0 ≤ u7 ∧ u7 < 65536) (r8 : 0 ≤ u8 ∧ u8 < 65536) (r9 : 0 ≤ u9 ∧ u9 < 65536) (x y : Int) (hx : -128 ≤ x ∧ x ≤ 127) (hy : -128 ≤ y ∧ y ≤ 127) : spec_l01Free.f w h u0 u1 u2 u3 u4 u5 u6 u7 u8 u9 x y = some (freeR w h [u0, u1, u2, u3, u4, u5, u6, u7, u8, u9] x y) := by
  unfold spec_l01Free.f freeR
  rw [specIs_eq w h u0 u1 u2 u3 u4 u5 u6 u7 u8 u9 (by omega) (by omega) x y hx hy, Option.bind_some]
  by_cases c : cellR w h x y = true
  · rw [if_pos c, c, Bool.true_and]
    have := cellR_iff.1 c
    exact sfree_at w h u0 u1 u2 u3 u4 u5 u6 u7 u8 u9 r0 r1 r2 r3 r4 r5 r6 r7 r8 r9 x y (by omega) (by omega)
  · rw [if_neg c, Bool.eq_false_iff.2 c, Bool.false_and]
def twoR (w h : Int) (us : List Int) (x y x2 y2 : Int) : Int := if okR w h us = true then (if cellR w h x y = true then (if cellR w h x2 y2 = true then (if freeR w h us x y = true then (if freeR w h us x2 y2 = true then 0 else 4) else 4) else 2) else 2) else 1
theorem okR_iff {w h : Int} {us : List Int} (c : okR w h us = true) : (1 ≤ w ∧ w ≤ 10) ∧ (1 ≤ h ∧ h ≤ 10) := by
  unfold okR at c; rw [Bool.and_eq_true, Bool.and_eq_true, decide_eq_true_eq, decide_eq_true_eq] at c; exact ⟨c.1, c.2.1⟩
theorem specTwo_eq (w h u0 u1 u2 u3 u4 u5 u6 u7 u8 u9 : Int) (iw : -128 ≤ w ∧ w ≤ 127) (ih : -128 ≤ h ∧ h ≤ 127) (r0 : 0 ≤ u0 ∧ u0 < 65536) (r1 : 0 ≤ u1 ∧ u1 < 65536) (r2 : 0 ≤ u2 ∧ u2 < 65536) (r3 : 0 ≤ u3 ∧ u3 < 65536) (r4 : 0 ≤ u4 ∧ u4 < 65536) (r5 : 0 ≤ u5 ∧ u5 < 65536) (r6 : 0 ≤ u6 ∧ u6 < 65536) (r7 : 0 ≤ u7 ∧ u7 < 65536) (r8 : 0 ≤ u8 ∧ u8 < 65536) (r9 : 0 ≤ u9 ∧ u9 < 65536) (x y x2 y2 : Int) (hx : -128 ≤ x ∧ x ≤ 127) (hy : -128 ≤ y ∧ y ≤ 127) (hx2 : -128 ≤ x2 ∧ x2 ≤ 127) (hy2 : -128 ≤ y2 ∧ y2 ≤ 127) (k : Nat) (hk : 13 ≤ k) : spec_l01Two.f k w h u0 u1 u2 u3 u4 u5 u6 u7 u8 u9 x y x2 y2 = some (twoR w h [u0, u1, u2, u3, u4, u5, u6, u7, u8, u9] x y x2 y2) := by
  unfold spec_l01Two.f twoR
  rw [specAsked_eq w h u0 u1 u2 u3 u4 u5 u6 u7 u8 u9 iw ih x y hx hy k (by omega), Option.bind_some, specAsked_eq w h u0 u1 u2 u3 u4 u5 u6 u7 u8 u9 iw ih x2 y2 hx2 hy2 k (by omega), Option.bind_some]
  obtain ⟨k, rfl⟩ : ∃ m, k = m + 1 := ⟨k - 1, by omega⟩
  by_cases c : okR w h [u0, u1, u2, u3, u4, u5, u6, u7, u8, u9] = true
  · have ho := okR_iff c
    simp only [if_pos c]
    by_cases d : cellR w h x y = true
    · simp only [if_pos d]
      by_cases e : cellR w h x2 y2 = true
      · simp only [if_pos e]
        rw [if_pos trivial, spec_l01Two.j0, if_pos rfl, specFree_eq w h u0 u1 u2 u3 u4 u5 u6 u7 u8 u9 ho.1 ho.2 r0 r1 r2 r3 r4 r5 r6 r7 r8 r9 x y hx hy, Option.bind_some, specFree_eq w h u0 u1 u2 u3 u4 u5 u6 u7 u8 u9 ho.1 ho.2 r0 r1 r2 r3 r4 r5 r6 r7 r8 r9 x2 y2 hx2 hy2, Option.bind_some]
        split
        · split <;> rfl
        · rfl
      · simp only [if_neg e]
        rw [if_pos trivial, spec_l01Two.j0, if_neg (by decide)]
    · simp only [if_neg d]
      rw [if_neg (by decide), spec_l01Two.j0, if_neg (by decide)]
  · simp only [if_neg c]
    rw [if_neg (by decide), spec_l01Two.j0, if_neg (by decide)]
def nextR (s : Int × Int) (i : Int) : Int × Int := if i = 0 then (s.1, s.2 - 1) else if i = 1 then (s.1 + 1, s.2) else if i = 2 then (s.1, s.2 + 1) else (s.1 - 1, s.2)
def nbR (w h : Int) (us : List Int) (s : Int × Int) : List (Int × Int) := [nextR s 0, nextR s 1, nextR s 2, nextR s 3].filter (fun t => freeR w h us t.1 t.2)
theorem wrap_i8 (n : Int) (h0 : -128 ≤ n) (h1 : n ≤ 127) : IntKind.i8.wrap n = n := by simp [IntKind.wrap, IntKind.bits, IntKind.signed]; omega
theorem specNext_eq (x y i : Int) (hx : 0 ≤ x ∧ x < 10) (hy : 0 ≤ y ∧ y < 10) (hi : 0 ≤ i ∧ i < 4) : spec_l01Next.f x y i = some (nextR (x, y) i) := by
  unfold spec_l01Next.f nextR
  rw [wrap_i8 (y - 1) (by omega) (by omega), wrap_i8 (x + 1) (by omega) (by omega), wrap_i8 (y + 1) (by omega) (by omega), wrap_i8 (x - 1) (by omega) (by omega)]
  have hc : i = 0 ∨ i = 1 ∨ i = 2 ∨ i = 3 := by omega
  rcases hc with rfl | rfl | rfl | rfl <;> rfl
theorem nextR_rng (s : Int × Int) (i : Int) (hx : 0 ≤ s.1 ∧ s.1 < 10) (hy : 0 ≤ s.2 ∧ s.2 < 10) : (-128 ≤ (nextR s i).1 ∧ (nextR s i).1 ≤ 127) ∧ (-128 ≤ (nextR s i).2 ∧ (nextR s i).2 ≤ 127) := by
  unfold nextR
  split <;> (try split) <;> (try split) <;> (refine ⟨⟨?_, ?_⟩, ⟨?_, ?_⟩⟩ <;> (show _ ≤ _) <;> (dsimp only) <;> omega)
def toS (t : Int × Int) : S62 := ⟨t.1, t.2⟩
theorem specBeside_step (w h u0 u1 u2 u3 u4 u5 u6 u7 u8 u9 : Int) (iw : 1 ≤ w ∧ w ≤ 10) (ih : 1 ≤ h ∧ h ≤ 10) (r0 : 0 ≤ u0 ∧ u0 < 65536) (r1 : 0 ≤ u1 ∧ u1 < 65536) (r2 : 0 ≤ u2 ∧ u2 < 65536) (r3 : 0 ≤ u3 ∧ u3 < 65536) (r4 : 0 ≤ u4 ∧ u4 < 65536) (r5 : 0 ≤ u5 ∧ u5 < 65536) (r6 : 0 ≤ u6 ∧ u6 < 65536) (r7 : 0 ≤ u7 ∧ u7 < 65536) (r8 : 0 ≤ u8 ∧ u8 < 65536) (r9 : 0 ≤ u9 ∧ u9 < 65536) (x y i : Int) (hx : 0 ≤ x ∧ x < 10) (hy : 0 ≤ y ∧ y < 10) (hi : 0 ≤ i ∧ i < 4) (l : List S62) (hl : l.length ≤ 100) (k : Nat) : spec_l01Beside.l0 (k + 1) l i w h u0 u1 u2 u3 u4 u5 u6 u7 u8 u9 x y = spec_l01Beside.l0 k (l ++ ([nextR (x, y) i].filter (fun t => freeR w h [u0, u1, u2, u3, u4, u5, u6, u7, u8, u9] t.1 t.2)).map toS) (i + 1) w h u0 u1 u2 u3 u4 u5 u6 u7 u8 u9 x y := by
  have hr := nextR_rng (x, y) i hx hy
  rw [spec_l01Beside.l0, if_pos hi.2, specNext_eq x y i hx hy hi, Option.bind_some]
  generalize nextR (x, y) i = t at hr
  rw [specFree_eq w h u0 u1 u2 u3 u4 u5 u6 u7 u8 u9 iw ih r0 r1 r2 r3 r4 r5 r6 r7 r8 r9 t.1 t.2 hr.1 hr.2, Option.bind_some, wrap64_id (i + 1) (by omega) (by omega)]
  by_cases c : freeR w h [u0, u1, u2, u3, u4, u5, u6, u7, u8, u9] t.1 t.2 = true
  · rw [if_pos c, if_pos (by omega), List.filter_cons_of_pos (p := fun t : Int × Int => freeR w h [u0, u1, u2, u3, u4, u5, u6, u7, u8, u9] t.1 t.2) c]; rfl
  · rw [if_neg c, List.filter_cons_of_neg (p := fun t : Int × Int => freeR w h [u0, u1, u2, u3, u4, u5, u6, u7, u8, u9] t.1 t.2) c, List.filter_nil, List.map_nil, List.append_nil]
theorem specBeside_eq (w h u0 u1 u2 u3 u4 u5 u6 u7 u8 u9 : Int) (iw : 1 ≤ w ∧ w ≤ 10) (ih : 1 ≤ h ∧ h ≤ 10) (r0 : 0 ≤ u0 ∧ u0 < 65536) (r1 : 0 ≤ u1 ∧ u1 < 65536) (r2 : 0 ≤ u2 ∧ u2 < 65536) (r3 : 0 ≤ u3 ∧ u3 < 65536) (r4 : 0 ≤ u4 ∧ u4 < 65536) (r5 : 0 ≤ u5 ∧ u5 < 65536) (r6 : 0 ≤ u6 ∧ u6 < 65536) (r7 : 0 ≤ u7 ∧ u7 < 65536) (r8 : 0 ≤ u8 ∧ u8 < 65536) (r9 : 0 ≤ u9 ∧ u9 < 65536) (x y : Int) (hx : 0 ≤ x ∧ x < 10) (hy : 0 ≤ y ∧ y < 10) (k : Nat) (hk : 5 ≤ k) : spec_l01Beside.f k w h u0 u1 u2 u3 u4 u5 u6 u7 u8 u9 x y = some ((nbR w h [u0, u1, u2, u3, u4, u5, u6, u7, u8, u9] (x, y)).map toS) := by
  obtain ⟨k, rfl⟩ : ∃ m, k = m + 5 := ⟨k - 5, by omega⟩
  have hf : ∀ (t : List (Int × Int)) (p : Int × Int → Bool), ((t.filter p).map toS).length ≤ t.length := fun t p => by rw [List.length_map]; exact List.length_filter_le _ _
  have f0 := hf [nextR (x, y) 0] (fun t => freeR w h [u0, u1, u2, u3, u4, u5, u6, u7, u8, u9] t.1 t.2)
  have f1 := hf [nextR (x, y) 1] (fun t => freeR w h [u0, u1, u2, u3, u4, u5, u6, u7, u8, u9] t.1 t.2)
  have f2 := hf [nextR (x, y) 2] (fun t => freeR w h [u0, u1, u2, u3, u4, u5, u6, u7, u8, u9] t.1 t.2)
  simp only [List.length_singleton] at f0 f1 f2
  unfold spec_l01Beside.f nbR
  rw [specBeside_step w h u0 u1 u2 u3 u4 u5 u6 u7 u8 u9 iw ih r0 r1 r2 r3 r4 r5 r6 r7 r8 r9 x y 0 hx hy (by decide) [] (by simp), show (0 : Int) + 1 = 1 from rfl]
  rw [specBeside_step w h u0 u1 u2 u3 u4 u5 u6 u7 u8 u9 iw ih r0 r1 r2 r3 r4 r5 r6 r7 r8 r9 x y 1 hx hy (by decide) _ (by rw [List.nil_append]; omega), show (1 : Int) + 1 = 2 from rfl]
  rw [specBeside_step w h u0 u1 u2 u3 u4 u5 u6 u7 u8 u9 iw ih r0 r1 r2 r3 r4 r5 r6 r7 r8 r9 x y 2 hx hy (by decide) _ (by rw [List.nil_append, List.length_append]; omega), show (2 : Int) + 1 = 3 from rfl]
  rw [specBeside_step w h u0 u1 u2 u3 u4 u5 u6 u7 u8 u9 iw ih r0 r1 r2 r3 r4 r5 r6 r7 r8 r9 x y 3 hx hy (by decide) _ (by rw [List.nil_append, List.length_append, List.length_append]; omega), show (3 : Int) + 1 = 4 from rfl]
  rw [spec_l01Beside.l0, if_neg (by decide), List.nil_append, ← List.map_append, ← List.map_append, ← List.map_append, ← List.filter_append, ← List.filter_append, ← List.filter_append]
  rfl

theorem nodup_len {α : Type} [DecidableEq α] : ∀ (S T : List α), S.Nodup → (∀ x ∈ S, x ∈ T) → S.length ≤ T.length
  | [], T, _, _ => Nat.zero_le _
  | a :: S, T, h, hs => by
    rw [List.nodup_cons] at h
    have ha := hs a List.mem_cons_self
    have h2 := nodup_len S (T.erase a) h.2 (fun x hx => (List.mem_erase_of_ne (fun e => h.1 (by rw [← e]; exact hx))).2 (hs x (List.mem_cons_of_mem _ hx)))
    rw [List.length_erase_of_mem ha] at h2
    have : 0 < T.length := List.length_pos_of_mem ha
    rw [List.length_cons]
    omega
def gridAll : List (Int × Int) := (List.range 100).map (fun i : Nat => (((i / 10 : Nat) : Int), ((i % 10 : Nat) : Int)))
theorem grid_mem {s : Int × Int} (h : Go.Proofs.Ytooidjdgfoioiaa.H.inG s = true) : s ∈ gridAll := by
  obtain ⟨h1, h2, h3, h4⟩ := Go.Proofs.Ytooidjdgfoioiaa.H.inG_iff.1 h
  refine List.mem_map.2 ⟨s.1.toNat * 10 + s.2.toNat, List.mem_range.2 (by omega), ?_⟩
  obtain ⟨x, y⟩ := s
  dsimp only at h1 h2 h3 h4 ⊢
  rw [Prod.mk.injEq]
  constructor <;> omega
structure BInv (l : List (Int × Int)) (M : Int × Int → Option Int) : Prop where
  nd : l.Nodup
  inl : ∀ s ∈ l, Go.Proofs.Ytooidjdgfoioiaa.H.inG s = true ∧ ∃ d, M s = some d
  mem : ∀ s d, M s = some d → s ∈ l
theorem BInv.len {l : List (Int × Int)} {M : Int × Int → Option Int} (h : BInv l M) : l.length ≤ 100 := by
  have := nodup_len l gridAll h.nd (fun s hs => grid_mem (h.inl s hs).1)
  simpa [gridAll] using this
theorem BInv.put {l : List (Int × Int)} {M : Int × Int → Option Int} (h : BInv l M) {s : Int × Int} (hs : Go.Proofs.Ytooidjdgfoioiaa.H.inG s = true) (hn : M s = none) (d : Int) : BInv (l ++ [s]) (Go.Proofs.Ytooidjdgfoioiaa.H.farPut M s d) := by
  have hsl : s ∉ l := fun x => by obtain ⟨e, he⟩ := (h.inl s x).2; rw [hn] at he; cases he
  refine ⟨?_, ?_, ?_⟩
  · rw [List.nodup_append]
    exact ⟨h.nd, by simp, fun a ha b hb e => hsl (by rw [List.mem_singleton.1 hb] at e; rw [← e]; exact ha)⟩
  · intro t ht
    unfold Go.Proofs.Ytooidjdgfoioiaa.H.farPut
    rcases List.mem_append.1 ht with q | q
    · obtain ⟨a, e, b⟩ := h.inl t q
      refine ⟨a, ?_⟩
      by_cases c : t = s
      · exact ⟨d, by rw [if_pos c]⟩
      · exact ⟨e, by rw [if_neg c]; exact b⟩
    · rw [List.mem_singleton.1 q]
      exact ⟨hs, d, by rw [if_pos rfl]⟩
  · intro t e ht
    unfold Go.Proofs.Ytooidjdgfoioiaa.H.farPut at ht
    by_cases c : t = s
    · rw [c]; simp
    · rw [if_neg c] at ht
      exact List.mem_append_left _ (h.mem t e ht)
theorem BInv.one {a : Int × Int} (ha : Go.Proofs.Ytooidjdgfoioiaa.H.inG a = true) : BInv [a] (Go.Proofs.Ytooidjdgfoioiaa.H.farPut (fun _ => none) a 0) := by
  refine ⟨by simp, fun s hs => ?_, fun s d hs => ?_⟩
  · rw [List.mem_singleton.1 hs]; exact ⟨ha, 0, by unfold Go.Proofs.Ytooidjdgfoioiaa.H.farPut; rw [if_pos rfl]⟩
  · unfold Go.Proofs.Ytooidjdgfoioiaa.H.farPut at hs
    by_cases c : s = a
    · rw [c]; simp
    · rw [if_neg c] at hs; cases hs
theorem bfsIn_some (cur : Int × Int) : ∀ (nx l : List (Int × Int)) (M : Int × Int → Option Int), (∀ s ∈ nx, Go.Proofs.Ytooidjdgfoioiaa.H.inG s = true) → BInv l M → cur ∈ l → ∃ t M', Go.Proofs.Ytooidjdgfoioiaa.H.bfsIn cur nx l M = some (l ++ t, M') ∧ BInv (l ++ t) M'
  | [], l, M, _, h, _ => ⟨[], M, by rw [List.append_nil]; rfl, by rw [List.append_nil]; exact h⟩
  | s :: r, l, M, hn, h, hc => by
    have hs := hn s List.mem_cons_self
    have hr : ∀ t ∈ r, Go.Proofs.Ytooidjdgfoioiaa.H.inG t = true := fun t ht => hn t (List.mem_cons_of_mem _ ht)
    unfold Go.Proofs.Ytooidjdgfoioiaa.H.bfsIn
    rw [if_pos hs]
    cases hM : M s with
    | some d => exact bfsIn_some cur r l M hr h hc
    | none =>
      obtain ⟨d, hd⟩ := (h.inl cur hc).2
      have hl := h.len
      dsimp only
      rw [hd]
      dsimp only
      rw [if_pos (by omega)]
      obtain ⟨t, M', e1, e2⟩ := bfsIn_some cur r (l ++ [s]) _ hr (h.put hs hM (d + 1)) (List.mem_append_left _ hc)
      rw [List.append_assoc] at e1 e2
      exact ⟨[s] ++ t, M', e1, e2⟩
theorem bfs_some (bes : Int × Int → Option (List (Int × Int))) (hb : ∀ s, Go.Proofs.Ytooidjdgfoioiaa.H.inG s = true → ∃ nx, bes s = some nx ∧ ∀ t ∈ nx, Go.Proofs.Ytooidjdgfoioiaa.H.inG t = true) : ∀ (k i : Nat) (l : List (Int × Int)) (M : Int × Int → Option Int), BInv l M → 1 ≤ k → 101 ≤ k + i → ∃ R, Go.Proofs.Ytooidjdgfoioiaa.H.bfs bes k i l M = some R
  | 0, i, l, M, _, h1, _ => absurd h1 (by decide)
  | k + 1, i, l, M, h, _, h2 => by
    unfold Go.Proofs.Ytooidjdgfoioiaa.H.bfs
    by_cases c : i < l.length
    · have hl := h.len
      obtain ⟨nx, e1, e2⟩ := hb l[i] (h.inl _ (List.getElem_mem c)).1
      obtain ⟨t, M', e3, e4⟩ := bfsIn_some l[i] nx l M e2 h (List.getElem_mem c)
      rw [dif_pos c, e1, Option.bind_some, e3, Option.bind_some]
      exact bfs_some bes hb k (i + 1) _ _ e4 (by omega) (by omega)
    · rw [dif_neg c]; exact ⟨M, rfl⟩
theorem bfs_congr (bes bes' : Int × Int → Option (List (Int × Int))) (hb : ∀ s, Go.Proofs.Ytooidjdgfoioiaa.H.inG s = true → bes s = bes' s ∧ ∃ nx, bes' s = some nx ∧ ∀ t ∈ nx, Go.Proofs.Ytooidjdgfoioiaa.H.inG t = true) : ∀ (k i : Nat) (l : List (Int × Int)) (M : Int × Int → Option Int), BInv l M → Go.Proofs.Ytooidjdgfoioiaa.H.bfs bes k i l M = Go.Proofs.Ytooidjdgfoioiaa.H.bfs bes' k i l M
  | 0, i, l, M, _ => rfl
  | k + 1, i, l, M, h => by
    unfold Go.Proofs.Ytooidjdgfoioiaa.H.bfs
    by_cases c : i < l.length
    · obtain ⟨e0, nx, e1, e2⟩ := hb l[i] (h.inl _ (List.getElem_mem c)).1
      obtain ⟨t, M', e3, e4⟩ := bfsIn_some l[i] nx l M e2 h (List.getElem_mem c)
      rw [dif_pos c, dif_pos c, e0, e1, Option.bind_some, Option.bind_some, e3, Option.bind_some, Option.bind_some]
      exact bfs_congr bes bes' hb k (i + 1) _ _ e4
    · rw [dif_neg c, dif_neg c]
theorem nbR_in {w h : Int} {us : List Int} (hw : w ≤ 10) (hh : h ≤ 10) (s : Int × Int) : ∀ t ∈ nbR w h us s, Go.Proofs.Ytooidjdgfoioiaa.H.inG t = true := by
  intro t ht
  have := (List.mem_filter.1 ht).2
  unfold freeR at this
  rw [Bool.and_eq_true] at this
  have := cellR_iff.1 this.1
  exact Go.Proofs.Ytooidjdgfoioiaa.H.inG_iff.2 ⟨by omega, by omega, by omega, by omega⟩
def bfsR (w h : Int) (us : List Int) (a : Int × Int) : Option (Int × Int → Option Int) := Go.Proofs.Ytooidjdgfoioiaa.H.bfs (fun s => some (nbR w h us s)) 101 0 [a] (Go.Proofs.Ytooidjdgfoioiaa.H.farPut (fun _ => none) a 0)
def farR (w h : Int) (us : List Int) (a b : Int × Int) : Int × Int := match bfsR w h us a with
  | some R => (match R b with | some d => ((d, 0) : Int × Int) | none => (0, 6))
  | none => (0, 0)
theorem bfs_far (w h : Int) (us : List Int) (hw : w ≤ 10) (hh : h ≤ 10) (bes : Int × Int → Option (List (Int × Int))) (hb : ∀ s, Go.Proofs.Ytooidjdgfoioiaa.H.inG s = true → bes s = some (nbR w h us s)) (a b : Int × Int) (ha : Go.Proofs.Ytooidjdgfoioiaa.H.inG a = true) (hb2 : Go.Proofs.Ytooidjdgfoioiaa.H.inG b = true) (k : Nat) (hk : 101 ≤ k) :
    ((Go.Proofs.Ytooidjdgfoioiaa.H.bfsFrom bes k a).bind fun R => (if Go.Proofs.Ytooidjdgfoioiaa.H.inG b = true then some (match R b with | some d => ((d, 0) : Int × Int) | none => (0, 6)) else none)) = some (farR w h us a b) := by
  have h1 : Go.Proofs.Ytooidjdgfoioiaa.H.bfs bes k 0 [a] (Go.Proofs.Ytooidjdgfoioiaa.H.farPut (fun _ => none) a 0) = Go.Proofs.Ytooidjdgfoioiaa.H.bfs (fun s => some (nbR w h us s)) k 0 [a] (Go.Proofs.Ytooidjdgfoioiaa.H.farPut (fun _ => none) a 0) := bfs_congr _ _ (fun s hs => ⟨hb s hs, _, rfl, nbR_in hw hh s⟩) k 0 _ _ (BInv.one ha)
  obtain ⟨R, hR⟩ := bfs_some (fun s => some (nbR w h us s)) (fun s hs => ⟨_, rfl, nbR_in hw hh s⟩) 101 0 [a] (Go.Proofs.Ytooidjdgfoioiaa.H.farPut (fun _ => none) a 0) (BInv.one ha) (by decide) (by decide)
  have h2 := Go.Proofs.Ytooidjdgfoioiaa.H.bfs_mono (bes := fun s => some (nbR w h us s)) (fun s r e => e) 101 k hk 0 _ _ R hR
  unfold Go.Proofs.Ytooidjdgfoioiaa.H.bfsFrom farR bfsR
  rw [if_pos ha, h1, h2, Option.bind_some, if_pos hb2, hR]

theorem twoR_iff {w h : Int} {us : List Int} {x y x2 y2 : Int} (e : twoR w h us x y x2 y2 = 0) : okR w h us = true ∧ cellR w h x y = true ∧ cellR w h x2 y2 = true := by
  unfold twoR at e
  by_cases c : okR w h us = true
  · rw [if_pos c] at e
    by_cases d : cellR w h x y = true
    · rw [if_pos d] at e
      by_cases f : cellR w h x2 y2 = true
      · exact ⟨c, d, f⟩
      · rw [if_neg f] at e; exact absurd e (by decide)
    · rw [if_neg d] at e; exact absurd e (by decide)
  · rw [if_neg c] at e; exact absurd e (by decide)
def stepsR (w h : Int) (us : List Int) (x y x2 y2 : Int) : Int × Int := if twoR w h us x y x2 y2 = 0 then farR w h us (x, y) (x2, y2) else (0, twoR w h us x y x2 y2)
theorem cell_in {w h x y : Int} (hw : w ≤ 10) (hh : h ≤ 10) (c : cellR w h x y = true) : Go.Proofs.Ytooidjdgfoioiaa.H.inG (x, y) = true := by
  have := cellR_iff.1 c
  exact Go.Proofs.Ytooidjdgfoioiaa.H.inG_iff.2 ⟨this.1.1, by show x < 10; omega, this.2.1, by show y < 10; omega⟩
theorem spots_back (l : List (Int × Int)) : (l.map toS).map (fun x => (x.f0, x.f1)) = l := by
  rw [List.map_map]; exact (List.map_congr_left (fun x _ => rfl)).trans (List.map_id l)
theorem specBes_eq (w h u0 u1 u2 u3 u4 u5 u6 u7 u8 u9 : Int) (iw : 1 ≤ w ∧ w ≤ 10) (ih : 1 ≤ h ∧ h ≤ 10) (r0 : 0 ≤ u0 ∧ u0 < 65536) (r1 : 0 ≤ u1 ∧ u1 < 65536) (r2 : 0 ≤ u2 ∧ u2 < 65536) (r3 : 0 ≤ u3 ∧ u3 < 65536) (r4 : 0 ≤ u4 ∧ u4 < 65536) (r5 : 0 ≤ u5 ∧ u5 < 65536) (r6 : 0 ≤ u6 ∧ u6 < 65536) (r7 : 0 ≤ u7 ∧ u7 < 65536) (r8 : 0 ≤ u8 ∧ u8 < 65536) (r9 : 0 ≤ u9 ∧ u9 < 65536) (k : Nat) (hk : 5 ≤ k) (s : Int × Int) (hs : Go.Proofs.Ytooidjdgfoioiaa.H.inG s = true) : spec_StepsBetween.bes k w h u0 u1 u2 u3 u4 u5 u6 u7 u8 u9 s = some (nbR w h [u0, u1, u2, u3, u4, u5, u6, u7, u8, u9] s) := by
  obtain ⟨h1, h2, h3, h4⟩ := Go.Proofs.Ytooidjdgfoioiaa.H.inG_iff.1 hs
  unfold spec_StepsBetween.bes
  rw [specBeside_eq w h u0 u1 u2 u3 u4 u5 u6 u7 u8 u9 iw ih r0 r1 r2 r3 r4 r5 r6 r7 r8 r9 s.1 s.2 ⟨h1, h2⟩ ⟨h3, h4⟩ k hk, Option.map_some, spots_back]
theorem specSteps_eq (w h u0 u1 u2 u3 u4 u5 u6 u7 u8 u9 : Int) (iw : -128 ≤ w ∧ w ≤ 127) (ih : -128 ≤ h ∧ h ≤ 127) (r0 : 0 ≤ u0 ∧ u0 < 65536) (r1 : 0 ≤ u1 ∧ u1 < 65536) (r2 : 0 ≤ u2 ∧ u2 < 65536) (r3 : 0 ≤ u3 ∧ u3 < 65536) (r4 : 0 ≤ u4 ∧ u4 < 65536) (r5 : 0 ≤ u5 ∧ u5 < 65536) (r6 : 0 ≤ u6 ∧ u6 < 65536) (r7 : 0 ≤ u7 ∧ u7 < 65536) (r8 : 0 ≤ u8 ∧ u8 < 65536) (r9 : 0 ≤ u9 ∧ u9 < 65536) (x y x2 y2 : Int) (hx : -128 ≤ x ∧ x ≤ 127) (hy : -128 ≤ y ∧ y ≤ 127) (hx2 : -128 ≤ x2 ∧ x2 ≤ 127) (hy2 : -128 ≤ y2 ∧ y2 ≤ 127) (k : Nat) (hk : 110 ≤ k) : spec_StepsBetween.f k w h u0 u1 u2 u3 u4 u5 u6 u7 u8 u9 x y x2 y2 = some (stepsR w h [u0, u1, u2, u3, u4, u5, u6, u7, u8, u9] x y x2 y2) := by
  unfold spec_StepsBetween.f stepsR
  rw [specTwo_eq w h u0 u1 u2 u3 u4 u5 u6 u7 u8 u9 iw ih r0 r1 r2 r3 r4 r5 r6 r7 r8 r9 x y x2 y2 hx hy hx2 hy2 k (by omega), Option.bind_some]
  by_cases e : twoR w h [u0, u1, u2, u3, u4, u5, u6, u7, u8, u9] x y x2 y2 = 0
  · obtain ⟨c, d, f⟩ := twoR_iff e
    have ho := okR_iff c
    rw [if_pos e, if_pos e]
    unfold spec_StepsBetween.far
    exact bfs_far w h [u0, u1, u2, u3, u4, u5, u6, u7, u8, u9] ho.1.2 ho.2.2 _ (specBes_eq w h u0 u1 u2 u3 u4 u5 u6 u7 u8 u9 ho.1 ho.2 r0 r1 r2 r3 r4 r5 r6 r7 r8 r9 k (by omega)) (x, y) (x2, y2) (cell_in ho.1.2 ho.2.2 d) (cell_in ho.1.2 ho.2.2 f) k (by omega)
  · rw [if_neg e, if_neg e]
theorem withinR_eq (a b c : Int) : impl_within.f a b c = some (decide (b ≤ a ∧ a ≤ c)) := by
  unfold impl_within.f
  by_cases h : b ≤ a
  · rw [if_pos h]; simp [h]
  · rw [if_neg h]; simp [h]
theorem rows_eq (w h : Int) (ih : 1 ≤ h ∧ h ≤ 10) : ∀ (l : List Int) (i : Nat), impl_ValidRoom.rows w h i l = rowsR w h (i : Int) l
  | [], i => by unfold impl_ValidRoom.rows rowsR; rfl
  | x :: r, i => by
    unfold impl_ValidRoom.rows rowsR
    rw [rows_eq w h ih r (i + 1), wrap64_id h (by omega) (by omega)]
    rfl
theorem implOk_eq (w h u0 u1 u2 u3 u4 u5 u6 u7 u8 u9 : Int) (iw : -128 ≤ w ∧ w ≤ 127) (ih : -128 ≤ h ∧ h ≤ 127) : impl_ValidRoom.f w h u0 u1 u2 u3 u4 u5 u6 u7 u8 u9 = some (okR w h [u0, u1, u2, u3, u4, u5, u6, u7, u8, u9]) := by
  unfold impl_ValidRoom.f okR
  rw [wrap64_id w (by omega) (by omega), wrap64_id h (by omega) (by omega), withinR_eq, withinR_eq, Option.bind_some, Option.bind_some]
  by_cases cw : 1 ≤ w ∧ w ≤ 10
  · rw [decide_eq_true cw, if_pos rfl, Bool.true_and]
    by_cases ch : 1 ≤ h ∧ h ≤ 10
    · rw [decide_eq_true ch, if_pos rfl, if_pos (by omega), Bool.true_and, rows_eq w h ch]
      rfl
    · rw [decide_eq_false ch, if_neg (by decide), Bool.false_and]
  · rw [decide_eq_false cw, if_neg (by decide), Bool.false_and]
def cellI (w h x y : Int) : Bool := decide (0 ≤ x ∧ x ≤ mn w 10 - 1) && decide (0 ≤ y ∧ y ≤ mn h 10 - 1)
def freeI (w h : Int) (us : List Int) (x y : Int) : Bool := cellI w h x y && (shr .u16 (us.getD y.toNat 0) x % 2 == 0)
theorem mn_le (w : Int) : mn w 10 ≤ 10 ∧ mn w 10 ≤ w ∧ (w ≤ 10 → mn w 10 = w) ∧ (-128 ≤ w → -128 ≤ mn w 10) := by
  unfold mn; split <;> omega
theorem cellI_R (w h x y : Int) (hw : w ≤ 10) (hh : h ≤ 10) : cellI w h x y = cellR w h x y := by
  unfold cellI cellR; rw [(mn_le w).2.2.1 hw, (mn_le h).2.2.1 hh]
theorem freeI_R (w h : Int) (us : List Int) (x y : Int) (hw : w ≤ 10) (hh : h ≤ 10) : freeI w h us x y = freeR w h us x y := by
  unfold freeI freeR; rw [cellI_R w h x y hw hh]
theorem isCell_eq (w h u0 u1 u2 u3 u4 u5 u6 u7 u8 u9 : Int) (iw : -128 ≤ w ∧ w ≤ 127) (ih : -128 ≤ h ∧ h ≤ 127) (x y : Int) (hx : -128 ≤ x ∧ x ≤ 127) (hy : -128 ≤ y ∧ y ≤ 127) : impl_Room_isCell.f w h u0 u1 u2 u3 u4 u5 u6 u7 u8 u9 x y = some (cellI w h x y) := by
  have m1 := mn_le w
  have m2 := mn_le h
  unfold impl_Room_isCell.f cellI
  rw [wrap64_id w (by omega) (by omega), wrap64_id h (by omega) (by omega), wrap64_id x (by omega) (by omega), wrap64_id y (by omega) (by omega), wrap64_id (mn w 10 - 1) (by omega) (by omega), wrap64_id (mn h 10 - 1) (by omega) (by omega), withinR_eq, withinR_eq, Option.bind_some, Option.bind_some]
  by_cases c : 0 ≤ x ∧ x ≤ mn w 10 - 1
  · rw [decide_eq_true c, if_pos rfl, Bool.true_and]
  · rw [decide_eq_false c, if_neg (by decide), Bool.false_and]
theorem isFree_eq (w h u0 u1 u2 u3 u4 u5 u6 u7 u8 u9 : Int) (iw : -128 ≤ w ∧ w ≤ 127) (ih : -128 ≤ h ∧ h ≤ 127) (r0 : 0 ≤ u0 ∧ u0 < 65536) (r1 : 0 ≤ u1 ∧ u1 < 65536) (r2 : 0 ≤ u2 ∧ u2 < 65536) (r3 : 0 ≤ u3 ∧ u3 < 65536) (r4 : 0 ≤ u4 ∧ u4 < 65536) (r5 : 0 ≤ u5 ∧ u5 < 65536) (r6 : 0 ≤ u6 ∧ u6 < 65536) (r7 : 0 ≤ u7 ∧ u7 < 65536) (r8 : 0 ≤ u8 ∧ u8 < 65536) (r9 : 0 ≤ u9 ∧ u9 < 65536) (x y : Int) (hx : -128 ≤ x ∧ x ≤ 127) (hy : -128 ≤ y ∧ y ≤ 127) : impl_Room_isFree.f w h u0 u1 u2 u3 u4 u5 u6 u7 u8 u9 x y = some (freeI w h [u0, u1, u2, u3, u4, u5, u6, u7, u8, u9] x y) := by
  unfold impl_Room_isFree.f freeI
  rw [isCell_eq w h u0 u1 u2 u3 u4 u5 u6 u7 u8 u9 iw ih x y hx hy, Option.bind_some]
  by_cases c : cellI w h x y = true
  · rw [if_pos c, c, Bool.true_and]
    unfold cellI at c
    rw [Bool.and_eq_true, decide_eq_true_eq, decide_eq_true_eq] at c
    have m1 := mn_le w
    have m2 := mn_le h
    exact ifree_at w h u0 u1 u2 u3 u4 u5 u6 u7 u8 u9 r0 r1 r2 r3 r4 r5 r6 r7 r8 r9 x y (by omega) (by omega)
  · rw [if_neg c, Bool.eq_false_iff.2 c, Bool.false_and]
def spotR (s : S62) : Prop := (-128 ≤ s.f0 ∧ s.f0 ≤ 127) ∧ (-128 ≤ s.f1 ∧ s.f1 ≤ 127)
theorem drop_spot (l : List S62) (i : Nat) (h : i < l.length) : l.drop i = rd_T62 l (i : Int) :: l.drop (i + 1) := by
  rw [drop_getD z62 l i h]; simp [rd_T62]
theorem rd_spot_mem (l : List S62) (i : Nat) (h : i < l.length) : rd_T62 l (i : Int) ∈ l := by
  have := drop_spot l i h
  exact List.mem_of_mem_drop (by rw [this]; exact List.mem_cons_self)
theorem cell_l0 (w h u0 u1 u2 u3 u4 u5 u6 u7 u8 u9 : Int) (iw : -128 ≤ w ∧ w ≤ 127) (ih : -128 ≤ h ∧ h ≤ 127) (l : List S62) (hl : l.length ≤ 1048576) (hr : ∀ s ∈ l, spotR s) : ∀ (d i k : Nat), i + d = l.length → d < k → ∃ q : Int, slices_IndexFunc_Spot_at_cellCode_1.l0 k l (l.length : Int) (i : Int) w h u0 u1 u2 u3 u4 u5 u6 u7 u8 u9 = some q ∧ decide (q ≥ 0) = (l.drop i).any (fun s => !cellI w h s.f0 s.f1) := by
  intro d
  induction d with
  | zero =>
    intro i k hi hk
    obtain ⟨k, rfl⟩ : ∃ m, k = m + 1 := ⟨k - 1, by omega⟩
    refine ⟨-1, ?_, ?_⟩
    · rw [slices_IndexFunc_Spot_at_cellCode_1.l0, if_neg (by omega)]
    · rw [List.drop_eq_nil_of_le (by omega)]; rfl
  | succ d ihd =>
    intro i k hi hk
    obtain ⟨k, rfl⟩ : ∃ m, k = m + 1 := ⟨k - 1, by omega⟩
    obtain ⟨q, e1, e2⟩ := ihd (i + 1) k (by omega) (by omega)
    rw [slices_IndexFunc_Spot_at_cellCode_1.l0, if_pos (by omega), if_pos (by omega), if_pos (by omega)]
    unfold impl_cellCode_1.f
    rw [isCell_eq w h u0 u1 u2 u3 u4 u5 u6 u7 u8 u9 iw ih _ _ (hr _ (rd_spot_mem l i (by omega))).1 (hr _ (rd_spot_mem l i (by omega))).2, Option.bind_some, Option.bind_some, drop_spot l i (by omega), wrap_nat i (by omega), List.any_cons]
    generalize rd_T62 l (i : Int) = s
    by_cases c : (!cellI w h s.f0 s.f1) = true
    · exact ⟨(i : Int), by rw [if_pos c], by rw [c, Bool.true_or]; exact decide_eq_true (by omega)⟩
    · exact ⟨q, by rw [if_neg c]; exact e1, by rw [e2, Bool.eq_false_iff.2 c, Bool.false_or]⟩
theorem state_l0 (w h u0 u1 u2 u3 u4 u5 u6 u7 u8 u9 : Int) (iw : -128 ≤ w ∧ w ≤ 127) (ih : -128 ≤ h ∧ h ≤ 127) (r0 : 0 ≤ u0 ∧ u0 < 65536) (r1 : 0 ≤ u1 ∧ u1 < 65536) (r2 : 0 ≤ u2 ∧ u2 < 65536) (r3 : 0 ≤ u3 ∧ u3 < 65536) (r4 : 0 ≤ u4 ∧ u4 < 65536) (r5 : 0 ≤ u5 ∧ u5 < 65536) (r6 : 0 ≤ u6 ∧ u6 < 65536) (r7 : 0 ≤ u7 ∧ u7 < 65536) (r8 : 0 ≤ u8 ∧ u8 < 65536) (r9 : 0 ≤ u9 ∧ u9 < 65536) (l : List S62) (hl : l.length ≤ 1048576) (hr : ∀ s ∈ l, spotR s) : ∀ (d i k : Nat), i + d = l.length → d < k → ∃ q : Int, slices_IndexFunc_Spot_at_stateCode_1.l0 k l (l.length : Int) (i : Int) w h u0 u1 u2 u3 u4 u5 u6 u7 u8 u9 = some q ∧ decide (q ≥ 0) = (l.drop i).any (fun s => !freeI w h [u0, u1, u2, u3, u4, u5, u6, u7, u8, u9] s.f0 s.f1) := by
  intro d
  induction d with
  | zero =>
    intro i k hi hk
    obtain ⟨k, rfl⟩ : ∃ m, k = m + 1 := ⟨k - 1, by omega⟩
    refine ⟨-1, ?_, ?_⟩
    · rw [slices_IndexFunc_Spot_at_stateCode_1.l0, if_neg (by omega)]
    · rw [List.drop_eq_nil_of_le (by omega)]; rfl
  | succ d ihd =>
    intro i k hi hk
    obtain ⟨k, rfl⟩ : ∃ m, k = m + 1 := ⟨k - 1, by omega⟩
    obtain ⟨q, e1, e2⟩ := ihd (i + 1) k (by omega) (by omega)
    rw [slices_IndexFunc_Spot_at_stateCode_1.l0, if_pos (by omega), if_pos (by omega), if_pos (by omega)]
    unfold impl_stateCode_1.f
    rw [isFree_eq w h u0 u1 u2 u3 u4 u5 u6 u7 u8 u9 iw ih r0 r1 r2 r3 r4 r5 r6 r7 r8 r9 _ _ (hr _ (rd_spot_mem l i (by omega))).1 (hr _ (rd_spot_mem l i (by omega))).2, Option.bind_some, Option.bind_some, drop_spot l i (by omega), wrap_nat i (by omega), List.any_cons]
    generalize rd_T62 l (i : Int) = s
    by_cases c : (!freeI w h [u0, u1, u2, u3, u4, u5, u6, u7, u8, u9] s.f0 s.f1) = true
    · exact ⟨(i : Int), by rw [if_pos c], by rw [c, Bool.true_or]; exact decide_eq_true (by omega)⟩
    · exact ⟨q, by rw [if_neg c]; exact e1, by rw [e2, Bool.eq_false_iff.2 c, Bool.false_or]⟩
theorem unless_eq (a : Bool) (b : Int) : impl_unless.f a b = some (if a = true then 0 else b) := by unfold impl_unless.f; split <;> rfl
theorem cellCode_eq (w h u0 u1 u2 u3 u4 u5 u6 u7 u8 u9 : Int) (iw : -128 ≤ w ∧ w ≤ 127) (ih : -128 ≤ h ∧ h ≤ 127) (l : List S62) (hl : l.length ≤ 1048576) (hr : ∀ s ∈ l, spotR s) (k : Nat) (hk : l.length < k) : impl_cellCode.f k w h u0 u1 u2 u3 u4 u5 u6 u7 u8 u9 l = some (if okR w h [u0, u1, u2, u3, u4, u5, u6, u7, u8, u9] = true then (if l.any (fun s => !cellI w h s.f0 s.f1) = true then 2 else 0) else 1) := by
  unfold impl_cellCode.f slices_ContainsFunc_Spot_at_cellCode_1.f slices_IndexFunc_Spot_at_cellCode_1.f
  rw [implOk_eq w h u0 u1 u2 u3 u4 u5 u6 u7 u8 u9 iw ih, Option.bind_some]
  obtain ⟨q, e1, e2⟩ := cell_l0 w h u0 u1 u2 u3 u4 u5 u6 u7 u8 u9 iw ih l hl hr l.length 0 k (by omega) hk
  rw [show ((0 : Nat) : Int) = 0 from rfl] at e1
  rw [List.drop_zero] at e2
  by_cases c : okR w h [u0, u1, u2, u3, u4, u5, u6, u7, u8, u9] = true
  · rw [if_pos c, if_pos c, e1, Option.bind_some, Option.bind_some, unless_eq, Option.bind_some, e2]
    cases (l.any (fun s => !cellI w h s.f0 s.f1)) <;> rfl
  · rw [if_neg c, if_neg c]
theorem stateCode_eq (w h u0 u1 u2 u3 u4 u5 u6 u7 u8 u9 : Int) (iw : -128 ≤ w ∧ w ≤ 127) (ih : -128 ≤ h ∧ h ≤ 127) (r0 : 0 ≤ u0 ∧ u0 < 65536) (r1 : 0 ≤ u1 ∧ u1 < 65536) (r2 : 0 ≤ u2 ∧ u2 < 65536) (r3 : 0 ≤ u3 ∧ u3 < 65536) (r4 : 0 ≤ u4 ∧ u4 < 65536) (r5 : 0 ≤ u5 ∧ u5 < 65536) (r6 : 0 ≤ u6 ∧ u6 < 65536) (r7 : 0 ≤ u7 ∧ u7 < 65536) (r8 : 0 ≤ u8 ∧ u8 < 65536) (r9 : 0 ≤ u9 ∧ u9 < 65536) (l : List S62) (hl : l.length ≤ 1048576) (hr : ∀ s ∈ l, spotR s) (k : Nat) (hk : l.length < k) : impl_stateCode.f k w h u0 u1 u2 u3 u4 u5 u6 u7 u8 u9 l = some (if l.any (fun s => !freeI w h [u0, u1, u2, u3, u4, u5, u6, u7, u8, u9] s.f0 s.f1) = true then 4 else 0) := by
  unfold impl_stateCode.f slices_ContainsFunc_Spot_at_stateCode_1.f slices_IndexFunc_Spot_at_stateCode_1.f
  obtain ⟨q, e1, e2⟩ := state_l0 w h u0 u1 u2 u3 u4 u5 u6 u7 u8 u9 iw ih r0 r1 r2 r3 r4 r5 r6 r7 r8 r9 l hl hr l.length 0 k (by omega) hk
  rw [show ((0 : Nat) : Int) = 0 from rfl] at e1
  rw [List.drop_zero] at e2
  rw [e1, Option.bind_some, Option.bind_some, unless_eq, Option.bind_some, e2]
  cases (l.any (fun s => !freeI w h [u0, u1, u2, u3, u4, u5, u6, u7, u8, u9] s.f0 s.f1)) <;> rfl
theorem firstOf_eq (a b : Int) (k : Nat) (hk : 3 ≤ k) : impl_firstOf.f k [a, b] = some (if a = 0 then b else a) := by
  obtain ⟨k, rfl⟩ : ∃ m, k = m + 3 := ⟨k - 3, by omega⟩
  unfold impl_firstOf.f
  have hl : (([a, b] : List Int).length : Int) = 2 := rfl
  rw [hl, impl_firstOf.l0, if_pos (by decide), if_pos (by decide), if_pos (by rw [hl]; decide), show rd [a, b] 0 = a from rfl]
  by_cases c : a = 0
  · rw [if_pos c, if_pos c, wrap64_id (0 + 1) (by decide) (by decide), impl_firstOf.l0, if_pos (by decide), if_pos (by decide), if_pos (by rw [hl]; decide), show rd [a, b] (0 + 1) = b from rfl]
    by_cases d : b = 0
    · rw [if_pos d, wrap64_id (0 + 1 + 1) (by decide) (by decide), impl_firstOf.l0, if_neg (by decide), d]
    · rw [if_neg d]
  · rw [if_neg c, if_neg c]
theorem implNext_eq (x y i : Int) (hx : 0 ≤ x ∧ x < 10) (hy : 0 ≤ y ∧ y < 10) (hi : 0 ≤ i ∧ i < 4) : impl_NextSpot.f x y i = some (nextR (x, y) i) := by
  unfold impl_NextSpot.f nextR
  rw [wrap_i8 (y - 1) (by omega) (by omega), wrap_i8 (x + 1) (by omega) (by omega), wrap_i8 (y + 1) (by omega) (by omega), wrap_i8 (x - 1) (by omega) (by omega)]
  have hc : i = 0 ∨ i = 1 ∨ i = 2 ∨ i = 3 := by omega
  rcases hc with rfl | rfl | rfl | rfl <;> rfl
theorem implBeside_step (w h u0 u1 u2 u3 u4 u5 u6 u7 u8 u9 : Int) (iw : 1 ≤ w ∧ w ≤ 10) (ih : 1 ≤ h ∧ h ≤ 10) (r0 : 0 ≤ u0 ∧ u0 < 65536) (r1 : 0 ≤ u1 ∧ u1 < 65536) (r2 : 0 ≤ u2 ∧ u2 < 65536) (r3 : 0 ≤ u3 ∧ u3 < 65536) (r4 : 0 ≤ u4 ∧ u4 < 65536) (r5 : 0 ≤ u5 ∧ u5 < 65536) (r6 : 0 ≤ u6 ∧ u6 < 65536) (r7 : 0 ≤ u7 ∧ u7 < 65536) (r8 : 0 ≤ u8 ∧ u8 < 65536) (r9 : 0 ≤ u9 ∧ u9 < 65536) (x y i : Int) (hx : 0 ≤ x ∧ x < 10) (hy : 0 ≤ y ∧ y < 10) (hi : 0 ≤ i ∧ i < 4) (l : List S62) (hl : l.length ≤ 100) (k : Nat) : impl_Room_beside.l0 (k + 1) l i w h u0 u1 u2 u3 u4 u5 u6 u7 u8 u9 x y = impl_Room_beside.l0 k (l ++ ([nextR (x, y) i].filter (fun t => freeR w h [u0, u1, u2, u3, u4, u5, u6, u7, u8, u9] t.1 t.2)).map toS) (i + 1) w h u0 u1 u2 u3 u4 u5 u6 u7 u8 u9 x y := by
  have hr := nextR_rng (x, y) i hx hy
  rw [impl_Room_beside.l0, if_pos hi.2, implNext_eq x y i hx hy hi, Option.bind_some]
  generalize nextR (x, y) i = t at hr
  rw [isFree_eq w h u0 u1 u2 u3 u4 u5 u6 u7 u8 u9 (by omega) (by omega) r0 r1 r2 r3 r4 r5 r6 r7 r8 r9 t.1 t.2 hr.1 hr.2, Option.bind_some, wrap64_id (i + 1) (by omega) (by omega), freeI_R w h _ _ _ iw.2 ih.2]
  by_cases c : freeR w h [u0, u1, u2, u3, u4, u5, u6, u7, u8, u9] t.1 t.2 = true
  · rw [if_pos c, if_pos (by omega), List.filter_cons_of_pos (p := fun t : Int × Int => freeR w h [u0, u1, u2, u3, u4, u5, u6, u7, u8, u9] t.1 t.2) c]; rfl
  · rw [if_neg c, List.filter_cons_of_neg (p := fun t : Int × Int => freeR w h [u0, u1, u2, u3, u4, u5, u6, u7, u8, u9] t.1 t.2) c, List.filter_nil, List.map_nil, List.append_nil]
theorem implBeside_eq (w h u0 u1 u2 u3 u4 u5 u6 u7 u8 u9 : Int) (iw : 1 ≤ w ∧ w ≤ 10) (ih : 1 ≤ h ∧ h ≤ 10) (r0 : 0 ≤ u0 ∧ u0 < 65536) (r1 : 0 ≤ u1 ∧ u1 < 65536) (r2 : 0 ≤ u2 ∧ u2 < 65536) (r3 : 0 ≤ u3 ∧ u3 < 65536) (r4 : 0 ≤ u4 ∧ u4 < 65536) (r5 : 0 ≤ u5 ∧ u5 < 65536) (r6 : 0 ≤ u6 ∧ u6 < 65536) (r7 : 0 ≤ u7 ∧ u7 < 65536) (r8 : 0 ≤ u8 ∧ u8 < 65536) (r9 : 0 ≤ u9 ∧ u9 < 65536) (x y : Int) (hx : 0 ≤ x ∧ x < 10) (hy : 0 ≤ y ∧ y < 10) (k : Nat) (hk : 5 ≤ k) : impl_Room_beside.f k w h u0 u1 u2 u3 u4 u5 u6 u7 u8 u9 x y = some ((nbR w h [u0, u1, u2, u3, u4, u5, u6, u7, u8, u9] (x, y)).map toS) := by
  obtain ⟨k, rfl⟩ : ∃ m, k = m + 5 := ⟨k - 5, by omega⟩
  have hf : ∀ (t : List (Int × Int)) (p : Int × Int → Bool), ((t.filter p).map toS).length ≤ t.length := fun t p => by rw [List.length_map]; exact List.length_filter_le _ _
  have f0 := hf [nextR (x, y) 0] (fun t => freeR w h [u0, u1, u2, u3, u4, u5, u6, u7, u8, u9] t.1 t.2)
  have f1 := hf [nextR (x, y) 1] (fun t => freeR w h [u0, u1, u2, u3, u4, u5, u6, u7, u8, u9] t.1 t.2)
  have f2 := hf [nextR (x, y) 2] (fun t => freeR w h [u0, u1, u2, u3, u4, u5, u6, u7, u8, u9] t.1 t.2)
  simp only [List.length_singleton] at f0 f1 f2
  unfold impl_Room_beside.f nbR
  rw [implBeside_step w h u0 u1 u2 u3 u4 u5 u6 u7 u8 u9 iw ih r0 r1 r2 r3 r4 r5 r6 r7 r8 r9 x y 0 hx hy (by decide) [] (by simp), show (0 : Int) + 1 = 1 from rfl]
  rw [implBeside_step w h u0 u1 u2 u3 u4 u5 u6 u7 u8 u9 iw ih r0 r1 r2 r3 r4 r5 r6 r7 r8 r9 x y 1 hx hy (by decide) _ (by rw [List.nil_append]; omega), show (1 : Int) + 1 = 2 from rfl]
  rw [implBeside_step w h u0 u1 u2 u3 u4 u5 u6 u7 u8 u9 iw ih r0 r1 r2 r3 r4 r5 r6 r7 r8 r9 x y 2 hx hy (by decide) _ (by rw [List.nil_append, List.length_append]; omega), show (2 : Int) + 1 = 3 from rfl]
  rw [implBeside_step w h u0 u1 u2 u3 u4 u5 u6 u7 u8 u9 iw ih r0 r1 r2 r3 r4 r5 r6 r7 r8 r9 x y 3 hx hy (by decide) _ (by rw [List.nil_append, List.length_append, List.length_append]; omega), show (3 : Int) + 1 = 4 from rfl]
  rw [impl_Room_beside.l0, if_neg (by decide), List.nil_append, ← List.map_append, ← List.map_append, ← List.map_append, ← List.filter_append, ← List.filter_append, ← List.filter_append]
  rfl
theorem implBes_eq (w h u0 u1 u2 u3 u4 u5 u6 u7 u8 u9 : Int) (iw : 1 ≤ w ∧ w ≤ 10) (ih : 1 ≤ h ∧ h ≤ 10) (r0 : 0 ≤ u0 ∧ u0 < 65536) (r1 : 0 ≤ u1 ∧ u1 < 65536) (r2 : 0 ≤ u2 ∧ u2 < 65536) (r3 : 0 ≤ u3 ∧ u3 < 65536) (r4 : 0 ≤ u4 ∧ u4 < 65536) (r5 : 0 ≤ u5 ∧ u5 < 65536) (r6 : 0 ≤ u6 ∧ u6 < 65536) (r7 : 0 ≤ u7 ∧ u7 < 65536) (r8 : 0 ≤ u8 ∧ u8 < 65536) (r9 : 0 ≤ u9 ∧ u9 < 65536) (k : Nat) (hk : 5 ≤ k) (s : Int × Int) (hs : Go.Proofs.Ytooidjdgfoioiaa.H.inG s = true) : impl_StepsBetween.bes k w h u0 u1 u2 u3 u4 u5 u6 u7 u8 u9 s = some (nbR w h [u0, u1, u2, u3, u4, u5, u6, u7, u8, u9] s) := by
  obtain ⟨h1, h2, h3, h4⟩ := Go.Proofs.Ytooidjdgfoioiaa.H.inG_iff.1 hs
  unfold impl_StepsBetween.bes
  rw [implBeside_eq w h u0 u1 u2 u3 u4 u5 u6 u7 u8 u9 iw ih r0 r1 r2 r3 r4 r5 r6 r7 r8 r9 s.1 s.2 ⟨h1, h2⟩ ⟨h3, h4⟩ k hk, Option.map_some, spots_back]
theorem implSteps_eq (w h u0 u1 u2 u3 u4 u5 u6 u7 u8 u9 : Int) (iw : -128 ≤ w ∧ w ≤ 127) (ih : -128 ≤ h ∧ h ≤ 127) (r0 : 0 ≤ u0 ∧ u0 < 65536) (r1 : 0 ≤ u1 ∧ u1 < 65536) (r2 : 0 ≤ u2 ∧ u2 < 65536) (r3 : 0 ≤ u3 ∧ u3 < 65536) (r4 : 0 ≤ u4 ∧ u4 < 65536) (r5 : 0 ≤ u5 ∧ u5 < 65536) (r6 : 0 ≤ u6 ∧ u6 < 65536) (r7 : 0 ≤ u7 ∧ u7 < 65536) (r8 : 0 ≤ u8 ∧ u8 < 65536) (r9 : 0 ≤ u9 ∧ u9 < 65536) (x y x2 y2 : Int) (hx : -128 ≤ x ∧ x ≤ 127) (hy : -128 ≤ y ∧ y ≤ 127) (hx2 : -128 ≤ x2 ∧ x2 ≤ 127) (hy2 : -128 ≤ y2 ∧ y2 ≤ 127) (k : Nat) (hk : 110 ≤ k) : impl_StepsBetween.f k w h u0 u1 u2 u3 u4 u5 u6 u7 u8 u9 x y x2 y2 = some (stepsR w h [u0, u1, u2, u3, u4, u5, u6, u7, u8, u9] x y x2 y2) := by
  have hr : ∀ s ∈ ([⟨x, y⟩, ⟨x2, y2⟩] : List S62), spotR s := fun s hs => by
    rcases List.mem_cons.1 hs with q | q
    · rw [q]; exact ⟨hx, hy⟩
    · rw [List.mem_singleton.1 q]; exact ⟨hx2, hy2⟩
  unfold impl_StepsBetween.f stepsR
  rw [cellCode_eq w h u0 u1 u2 u3 u4 u5 u6 u7 u8 u9 iw ih _ (by simp) hr k (by simp; omega), Option.bind_some, stateCode_eq w h u0 u1 u2 u3 u4 u5 u6 u7 u8 u9 iw ih r0 r1 r2 r3 r4 r5 r6 r7 r8 r9 _ (by simp) hr k (by simp; omega), Option.bind_some, firstOf_eq _ _ k (by omega), Option.bind_some]
  have key : (if (if okR w h [u0, u1, u2, u3, u4, u5, u6, u7, u8, u9] = true then (if ([⟨x, y⟩, ⟨x2, y2⟩] : List S62).any (fun s => !cellI w h s.f0 s.f1) = true then (2 : Int) else 0) else 1) = 0 then (if ([⟨x, y⟩, ⟨x2, y2⟩] : List S62).any (fun s => !freeI w h [u0, u1, u2, u3, u4, u5, u6, u7, u8, u9] s.f0 s.f1) = true then (4 : Int) else 0) else (if okR w h [u0, u1, u2, u3, u4, u5, u6, u7, u8, u9] = true then (if ([⟨x, y⟩, ⟨x2, y2⟩] : List S62).any (fun s => !cellI w h s.f0 s.f1) = true then (2 : Int) else 0) else 1)) = twoR w h [u0, u1, u2, u3, u4, u5, u6, u7, u8, u9] x y x2 y2 := by
    unfold twoR
    simp only [List.any_cons, List.any_nil, Bool.or_false]
    by_cases c : okR w h [u0, u1, u2, u3, u4, u5, u6, u7, u8, u9] = true
    · have ho := okR_iff c
      rw [cellI_R w h x y ho.1.2 ho.2.2, cellI_R w h x2 y2 ho.1.2 ho.2.2, freeI_R w h _ x y ho.1.2 ho.2.2, freeI_R w h _ x2 y2 ho.1.2 ho.2.2, if_pos c, if_pos c]
      cases cellR w h x y <;> cases cellR w h x2 y2 <;> cases freeR w h [u0, u1, u2, u3, u4, u5, u6, u7, u8, u9] x y <;> cases freeR w h [u0, u1, u2, u3, u4, u5, u6, u7, u8, u9] x2 y2 <;> rfl
    · rw [if_neg c, if_neg c]; rfl
  rw [key]
  by_cases e : twoR w h [u0, u1, u2, u3, u4, u5, u6, u7, u8, u9] x y x2 y2 = 0
  · obtain ⟨c, d, f⟩ := twoR_iff e
    have ho := okR_iff c
    rw [if_pos e, if_pos e]
    unfold impl_StepsBetween.far
    exact bfs_far w h [u0, u1, u2, u3, u4, u5, u6, u7, u8, u9] ho.1.2 ho.2.2 _ (implBes_eq w h u0 u1 u2 u3 u4 u5 u6 u7 u8 u9 ho.1 ho.2 r0 r1 r2 r3 r4 r5 r6 r7 r8 r9 k (by omega)) (x, y) (x2, y2) (cell_in ho.1.2 ho.2.2 d) (cell_in ho.1.2 ho.2.2 f) k (by omega)
  · rw [if_neg e, if_neg e]
theorem specCells_l0 (w h u0 u1 u2 u3 u4 u5 u6 u7 u8 u9 : Int) (iw : -128 ≤ w ∧ w ≤ 127) (ih : -128 ≤ h ∧ h ≤ 127) (l : List S62) (hl : l.length ≤ 1048576) (hr : ∀ s ∈ l, spotR s) : ∀ (d i k : Nat), i + d = l.length → d < k → spec_l03Cells.l0 k l (i : Int) w h u0 u1 u2 u3 u4 u5 u6 u7 u8 u9 = some ((l.drop i).all (fun s => cellR w h s.f0 s.f1)) := by
  intro d
  induction d with
  | zero =>
    intro i k hi hk
    obtain ⟨k, rfl⟩ : ∃ m, k = m + 1 := ⟨k - 1, by omega⟩
    rw [spec_l03Cells.l0, if_neg (by omega), List.drop_eq_nil_of_le (by omega)]; rfl
  | succ d ihd =>
    intro i k hi hk
    obtain ⟨k, rfl⟩ : ∃ m, k = m + 1 := ⟨k - 1, by omega⟩
    rw [spec_l03Cells.l0, if_pos (by omega), if_pos (by omega), specIs_eq w h u0 u1 u2 u3 u4 u5 u6 u7 u8 u9 iw ih _ _ (hr _ (rd_spot_mem l i (by omega))).1 (hr _ (rd_spot_mem l i (by omega))).2, Option.bind_some, drop_spot l i (by omega), wrap_nat i (by omega), List.all_cons]
    by_cases c : cellR w h (rd_T62 l (i : Int)).f0 (rd_T62 l (i : Int)).f1 = true
    · rw [if_pos c, c, Bool.true_and]; exact ihd (i + 1) k (by omega) (by omega)
    · rw [if_neg c, Bool.eq_false_iff.2 c, Bool.false_and]
theorem specCells_eq (w h u0 u1 u2 u3 u4 u5 u6 u7 u8 u9 : Int) (iw : -128 ≤ w ∧ w ≤ 127) (ih : -128 ≤ h ∧ h ≤ 127) (l : List S62) (hl : l.length ≤ 1048576) (hr : ∀ s ∈ l, spotR s) (k : Nat) (hk : l.length < k) : spec_l03Cells.f k w h u0 u1 u2 u3 u4 u5 u6 u7 u8 u9 l = some (l.all (fun s => cellR w h s.f0 s.f1)) := by
  unfold spec_l03Cells.f
  have := specCells_l0 w h u0 u1 u2 u3 u4 u5 u6 u7 u8 u9 iw ih l hl hr l.length 0 k (by omega) hk
  rwa [List.drop_zero] at this
theorem any_all (w h : Int) (hw : w ≤ 10) (hh : h ≤ 10) (l : List S62) : l.any (fun s => !cellI w h s.f0 s.f1) = !(l.all (fun s => cellR w h s.f0 s.f1)) := by
  induction l with
  | nil => rfl
  | cons s r ih => rw [List.any_cons, List.all_cons, ih, cellI_R w h _ _ hw hh, Bool.not_and]

def cvSpot (x : S82) : S62 := ⟨x.f0, x.f1⟩
theorem toSpotS_l0 (l : List S82) (hl : l.length ≤ 1048576) : ∀ (d i k : Nat), i + d = l.length → d < k → laws_toSpotS.l0 k l ((l.map cvSpot).take i ++ List.replicate d z62) (i : Int) = some (l.map cvSpot) := by
  intro d
  induction d with
  | zero =>
    intro i k hi hk
    obtain ⟨k, rfl⟩ : ∃ m, k = m + 1 := ⟨k - 1, by omega⟩
    simp only [laws_toSpotS.l0]
    rw [if_neg (by omega), List.take_of_length_le (by simp; omega)]
    simp
  | succ d ih =>
    intro i k hi hk
    obtain ⟨k, rfl⟩ : ∃ m, k = m + 1 := ⟨k - 1, by omega⟩
    have hlen : (((l.map cvSpot).take i ++ List.replicate (d + 1) z62).length : Int) = l.length := by simp; omega
    have hg : (l.map cvSpot).getD i z62 = cvSpot (rd_T82 l (i : Int)) := by
      simp [rd_T82, List.getD_eq_getElem?_getD, List.getElem?_map, List.getElem?_eq_getElem (show i < l.length by omega)]
    have hstep := set_rep ((l.map cvSpot).take i) i d z62 (cvSpot (rd_T82 l (i : Int))) (by simp; omega)
    rw [← hg, ← take_getD z62 (l.map cvSpot) i (by simp; omega), hg] at hstep
    simp only [laws_toSpotS.l0, laws_toSpot.f, Option.bind_some]
    rw [if_pos (by omega), if_pos (by omega), if_pos (by rw [hlen]; omega), wrap_nat i (by omega), Int.toNat_natCast]
    exact (congrArg (fun o => laws_toSpotS.l0 k l o ((i + 1 : Nat) : Int)) hstep).trans (ih (i + 1) k (by omega) (by omega))
theorem toSpotS_eq (l : List S82) (hl : l.length ≤ 1048576) (k : Nat) (hk : l.length < k) : laws_toSpotS.f k l = some (l.map cvSpot) := by
  unfold laws_toSpotS.f
  rw [if_pos (by omega), if_pos (by omega)]
  have := toSpotS_l0 l hl l.length 0 k (by omega) hk
  simpa using this

instance decSpot : DecidableEq S62 := fun x y =>
  if h : x.f0 = y.f0 ∧ x.f1 = y.f1 then isTrue (by obtain ⟨a, b⟩ := x; obtain ⟨a', b'⟩ := y; simp only at h; rw [h.1, h.2]) else isFalse (fun e => h (by rw [e]; exact ⟨rfl, rfl⟩))
theorem eqSpot_eq (x y : S62) : laws_eqSpot.f x.f0 x.f1 y.f0 y.f1 = some (decide (x = y)) := by
  obtain ⟨a, b⟩ := x
  obtain ⟨a', b'⟩ := y
  unfold laws_eqSpot.f
  by_cases h1 : a = a' <;> by_cases h2 : b = b' <;> simp [h1, h2]
theorem eqSpotS_l0 (a b : List S62) (hab : a.length = b.length) (hl : a.length ≤ 1048576) : ∀ (d i k : Nat), i + d = a.length → d < k → laws_eqSpotS.l0 k a b (i : Int) = some (decide (a.drop i = b.drop i)) := by
  intro d
  induction d with
  | zero =>
    intro i k hi hk
    obtain ⟨k, rfl⟩ : ∃ m, k = m + 1 := ⟨k - 1, by omega⟩
    simp only [laws_eqSpotS.l0]
    rw [if_neg (by omega), List.drop_eq_nil_of_le (by omega), List.drop_eq_nil_of_le (by omega)]
    simp
  | succ d ih =>
    intro i k hi hk
    obtain ⟨k, rfl⟩ : ∃ m, k = m + 1 := ⟨k - 1, by omega⟩
    have ha : a.drop i = rd_T62 a (i : Int) :: a.drop (i + 1) := by
      rw [drop_getD z62 a i (by omega)]; simp [rd_T62]
    have hb : b.drop i = rd_T62 b (i : Int) :: b.drop (i + 1) := by
      rw [drop_getD z62 b i (by omega)]; simp [rd_T62]
    simp only [laws_eqSpotS.l0]
    rw [if_pos (by omega), if_pos (by omega), if_pos (by omega), ha, hb]
    rw [eqSpot_eq (rd_T62 a (i : Int)) (rd_T62 b (i : Int))]
    simp only [Option.bind_some]
    by_cases e : rd_T62 a (i : Int) = rd_T62 b (i : Int)
    · rw [decide_eq_true e, if_pos rfl, wrap_nat i (by omega), ih (i + 1) k (by omega) (by omega)]
      simp [e]
    · rw [decide_eq_false e, if_neg (by decide)]
      simp [e]
theorem eqSpotS_eq (a b : List S62) (hl : a.length ≤ 1048576) (k : Nat) (hk : a.length < k) : laws_eqSpotS.f k a b = some (decide (a = b)) := by
  unfold laws_eqSpotS.f
  by_cases h : a.length = b.length
  · rw [if_pos (by omega)]
    have := eqSpotS_l0 a b h hl a.length 0 k (by omega) hk
    simpa using this
  · rw [if_neg (by omega)]
    have : a ≠ b := fun e => h (by rw [e])
    simp [this]

theorem szSpotS_eq (l : List S82) (a : Int) (h0 : 0 ≤ a) (h1 : a ≤ 1048576) (hl : l.length ≤ 9223372036854775807) : laws_szSpotS.f l a = some (if a < l.length then -1 else a - l.length) := by
  unfold laws_szSpotS.f
  rw [wrap64_id _ (by omega) (by omega)]
  by_cases h : a < (l.length : Int)
  · rw [if_pos (by omega), if_pos h]
  · rw [if_neg (by omega), if_neg h]

theorem toU_10 (k : Nat) (u0 u1 u2 u3 u4 u5 u6 u7 u8 u9 v0 v1 v2 v3 v4 v5 v6 v7 v8 v9 : Int) : laws_toUint16A10.l0 (k + 1) 10 u0 u1 u2 u3 u4 u5 u6 u7 u8 u9 v0 v1 v2 v3 v4 v5 v6 v7 v8 v9 = some (v0, v1, v2, v3, v4, v5, v6, v7, v8, v9) := by
  rw [laws_toUint16A10.l0, if_neg (by decide)]
theorem toU_9 (k : Nat) (u0 u1 u2 u3 u4 u5 u6 u7 u8 u9 v0 v1 v2 v3 v4 v5 v6 v7 v8 v9 : Int) : laws_toUint16A10.l0 (k + 2) 9 u0 u1 u2 u3 u4 u5 u6 u7 u8 u9 v0 v1 v2 v3 v4 v5 v6 v7 v8 v9 = some (v0, v1, v2, v3, v4, v5, v6, v7, v8, u9) := by
  rw [laws_toUint16A10.l0, if_pos (by decide), if_pos (by decide), if_neg (by decide), if_neg (by decide), if_neg (by decide), if_neg (by decide), if_neg (by decide), if_neg (by decide), if_neg (by decide), if_neg (by decide), if_neg (by decide), if_pos rfl, wrap64_id (9 + 1) (by decide) (by decide)]
  exact toU_10 k u0 u1 u2 u3 u4 u5 u6 u7 u8 u9 v0 v1 v2 v3 v4 v5 v6 v7 v8 u9
theorem toU_8 (k : Nat) (u0 u1 u2 u3 u4 u5 u6 u7 u8 u9 v0 v1 v2 v3 v4 v5 v6 v7 v8 v9 : Int) : laws_toUint16A10.l0 (k + 3) 8 u0 u1 u2 u3 u4 u5 u6 u7 u8 u9 v0 v1 v2 v3 v4 v5 v6 v7 v8 v9 = some (v0, v1, v2, v3, v4, v5, v6, v7, u8, u9) := by
  rw [laws_toUint16A10.l0, if_pos (by decide), if_pos (by decide), if_neg (by decide), if_neg (by decide), if_neg (by decide), if_neg (by decide), if_neg (by decide), if_neg (by decide), if_neg (by decide), if_neg (by decide), if_pos rfl, wrap64_id (8 + 1) (by decide) (by decide)]
  exact toU_9 k u0 u1 u2 u3 u4 u5 u6 u7 u8 u9 v0 v1 v2 v3 v4 v5 v6 v7 u8 v9
theorem toU_7 (k : Nat) (u0 u1 u2 u3 u4 u5 u6 u7 u8 u9 v0 v1 v2 v3 v4 v5 v6 v7 v8 v9 : Int) : laws_toUint16A10.l0 (k + 4) 7 u0 u1 u2 u3 u4 u5 u6 u7 u8 u9 v0 v1 v2 v3 v4 v5 v6 v7 v8 v9 = some (v0, v1, v2, v3, v4, v5, v6, u7, u8, u9) := by
  rw [laws_toUint16A10.l0, if_pos (by decide), if_pos (by decide), if_neg (by decide), if_neg (by decide), if_neg (by decide), if_neg (by decide), if_neg (by decide), if_neg (by decide), if_neg (by decide), if_pos rfl, wrap64_id (7 + 1) (by decide) (by decide)]
  exact toU_8 k u0 u1 u2 u3 u4 u5 u6 u7 u8 u9 v0 v1 v2 v3 v4 v5 v6 u7 v8 v9
theorem toU_6 (k : Nat) (u0 u1 u2 u3 u4 u5 u6 u7 u8 u9 v0 v1 v2 v3 v4 v5 v6 v7 v8 v9 : Int) : laws_toUint16A10.l0 (k + 5) 6 u0 u1 u2 u3 u4 u5 u6 u7 u8 u9 v0 v1 v2 v3 v4 v5 v6 v7 v8 v9 = some (v0, v1, v2, v3, v4, v5, u6, u7, u8, u9) := by
  rw [laws_toUint16A10.l0, if_pos (by decide), if_pos (by decide), if_neg (by decide), if_neg (by decide), if_neg (by decide), if_neg (by decide), if_neg (by decide), if_neg (by decide), if_pos rfl, wrap64_id (6 + 1) (by decide) (by decide)]
  exact toU_7 k u0 u1 u2 u3 u4 u5 u6 u7 u8 u9 v0 v1 v2 v3 v4 v5 u6 v7 v8 v9
theorem toU_5 (k : Nat) (u0 u1 u2 u3 u4 u5 u6 u7 u8 u9 v0 v1 v2 v3 v4 v5 v6 v7 v8 v9 : Int) : laws_toUint16A10.l0 (k + 6) 5 u0 u1 u2 u3 u4 u5 u6 u7 u8 u9 v0 v1 v2 v3 v4 v5 v6 v7 v8 v9 = some (v0, v1, v2, v3, v4, u5, u6, u7, u8, u9) := by
  rw [laws_toUint16A10.l0, if_pos (by decide), if_pos (by decide), if_neg (by decide), if_neg (by decide), if_neg (by decide), if_neg (by decide), if_neg (by decide), if_pos rfl, wrap64_id (5 + 1) (by decide) (by decide)]
  exact toU_6 k u0 u1 u2 u3 u4 u5 u6 u7 u8 u9 v0 v1 v2 v3 v4 u5 v6 v7 v8 v9
theorem toU_4 (k : Nat) (u0 u1 u2 u3 u4 u5 u6 u7 u8 u9 v0 v1 v2 v3 v4 v5 v6 v7 v8 v9 : Int) : laws_toUint16A10.l0 (k + 7) 4 u0 u1 u2 u3 u4 u5 u6 u7 u8 u9 v0 v1 v2 v3 v4 v5 v6 v7 v8 v9 = some (v0, v1, v2, v3, u4, u5, u6, u7, u8, u9) := by
  rw [laws_toUint16A10.l0, if_pos (by decide), if_pos (by decide), if_neg (by decide), if_neg (by decide), if_neg (by decide), if_neg (by decide), if_pos rfl, wrap64_id (4 + 1) (by decide) (by decide)]
  exact toU_5 k u0 u1 u2 u3 u4 u5 u6 u7 u8 u9 v0 v1 v2 v3 u4 v5 v6 v7 v8 v9
theorem toU_3 (k : Nat) (u0 u1 u2 u3 u4 u5 u6 u7 u8 u9 v0 v1 v2 v3 v4 v5 v6 v7 v8 v9 : Int) : laws_toUint16A10.l0 (k + 8) 3 u0 u1 u2 u3 u4 u5 u6 u7 u8 u9 v0 v1 v2 v3 v4 v5 v6 v7 v8 v9 = some (v0, v1, v2, u3, u4, u5, u6, u7, u8, u9) := by
  rw [laws_toUint16A10.l0, if_pos (by decide), if_pos (by decide), if_neg (by decide), if_neg (by decide), if_neg (by decide), if_pos rfl, wrap64_id (3 + 1) (by decide) (by decide)]
  exact toU_4 k u0 u1 u2 u3 u4 u5 u6 u7 u8 u9 v0 v1 v2 u3 v4 v5 v6 v7 v8 v9
theorem toU_2 (k : Nat) (u0 u1 u2 u3 u4 u5 u6 u7 u8 u9 v0 v1 v2 v3 v4 v5 v6 v7 v8 v9 : Int) : laws_toUint16A10.l0 (k + 9) 2 u0 u1 u2 u3 u4 u5 u6 u7 u8 u9 v0 v1 v2 v3 v4 v5 v6 v7 v8 v9 = some (v0, v1, u2, u3, u4, u5, u6, u7, u8, u9) := by
  rw [laws_toUint16A10.l0, if_pos (by decide), if_pos (by decide), if_neg (by decide), if_neg (by decide), if_pos rfl, wrap64_id (2 + 1) (by decide) (by decide)]
  exact toU_3 k u0 u1 u2 u3 u4 u5 u6 u7 u8 u9 v0 v1 u2 v3 v4 v5 v6 v7 v8 v9
theorem toU_1 (k : Nat) (u0 u1 u2 u3 u4 u5 u6 u7 u8 u9 v0 v1 v2 v3 v4 v5 v6 v7 v8 v9 : Int) : laws_toUint16A10.l0 (k + 10) 1 u0 u1 u2 u3 u4 u5 u6 u7 u8 u9 v0 v1 v2 v3 v4 v5 v6 v7 v8 v9 = some (v0, u1, u2, u3, u4, u5, u6, u7, u8, u9) := by
  rw [laws_toUint16A10.l0, if_pos (by decide), if_pos (by decide), if_neg (by decide), if_pos rfl, wrap64_id (1 + 1) (by decide) (by decide)]
  exact toU_2 k u0 u1 u2 u3 u4 u5 u6 u7 u8 u9 v0 u1 v2 v3 v4 v5 v6 v7 v8 v9
theorem toU_0 (k : Nat) (u0 u1 u2 u3 u4 u5 u6 u7 u8 u9 v0 v1 v2 v3 v4 v5 v6 v7 v8 v9 : Int) : laws_toUint16A10.l0 (k + 11) 0 u0 u1 u2 u3 u4 u5 u6 u7 u8 u9 v0 v1 v2 v3 v4 v5 v6 v7 v8 v9 = some (u0, u1, u2, u3, u4, u5, u6, u7, u8, u9) := by
  rw [laws_toUint16A10.l0, if_pos (by decide), if_pos (by decide), if_pos rfl, wrap64_id (0 + 1) (by decide) (by decide)]
  exact toU_1 k u0 u1 u2 u3 u4 u5 u6 u7 u8 u9 u0 v1 v2 v3 v4 v5 v6 v7 v8 v9
theorem toRoom_eq (w h u0 u1 u2 u3 u4 u5 u6 u7 u8 u9 : Int) (k : Nat) (hk : 12 ≤ k) : laws_toRoom.f k w h u0 u1 u2 u3 u4 u5 u6 u7 u8 u9 = some (w, h, u0, u1, u2, u3, u4, u5, u6, u7, u8, u9) := by
  obtain ⟨k, rfl⟩ : ∃ m, k = m + 11 := ⟨k - 11, by omega⟩
  unfold laws_toRoom.f laws_toUint16A10.f
  rw [toU_0, Option.bind_some]
def codeF (st : Nat → Int × Int) : Nat → Nat → Int
  | 0, _ => 0
  | d + 1, i => if (st i).2 = 0 then codeF st d (i + 1) else (st i).2
def distF (st : Nat → Int × Int) : Nat → Nat → List Int
  | 0, _ => []
  | d + 1, i => (st i).1 :: distF st d (i + 1)
theorem distF_len (st : Nat → Int × Int) : ∀ d i, (distF st d i).length = d
  | 0, _ => rfl
  | d + 1, i => by unfold distF; rw [List.length_cons, distF_len st d (i + 1)]
def stR (w h : Int) (us : List Int) (l : List S62) (i : Nat) : Int × Int := stepsR w h us (rd_T62 l ((i - 1 : Nat) : Int)).f0 (rd_T62 l ((i - 1 : Nat) : Int)).f1 (rd_T62 l (i : Int)).f0 (rd_T62 l (i : Int)).f1
theorem implAlong_l0 (w h u0 u1 u2 u3 u4 u5 u6 u7 u8 u9 : Int) (iw : -128 ≤ w ∧ w ≤ 127) (ih : -128 ≤ h ∧ h ≤ 127) (r0 : 0 ≤ u0 ∧ u0 < 65536) (r1 : 0 ≤ u1 ∧ u1 < 65536) (r2 : 0 ≤ u2 ∧ u2 < 65536) (r3 : 0 ≤ u3 ∧ u3 < 65536) (r4 : 0 ≤ u4 ∧ u4 < 65536) (r5 : 0 ≤ u5 ∧ u5 < 65536) (r6 : 0 ≤ u6 ∧ u6 < 65536) (r7 : 0 ≤ u7 ∧ u7 < 65536) (r8 : 0 ≤ u8 ∧ u8 < 65536) (r9 : 0 ≤ u9 ∧ u9 < 65536) (l : List S62) (hl : l.length ≤ 1048576) (hr : ∀ s ∈ l, spotR s) : ∀ (d i k : Nat) (acc : List Int), i + d = l.length → 1 ≤ i → d + 120 < k → acc.length + d ≤ 1048576 → impl_stepsAlong.l0 k l acc (i : Int) w h u0 u1 u2 u3 u4 u5 u6 u7 u8 u9 = some (if codeF (stR w h [u0, u1, u2, u3, u4, u5, u6, u7, u8, u9] l) d i = 0 then (acc ++ distF (stR w h [u0, u1, u2, u3, u4, u5, u6, u7, u8, u9] l) d i, 0) else ([], codeF (stR w h [u0, u1, u2, u3, u4, u5, u6, u7, u8, u9] l) d i)) := by
  intro d
  induction d with
  | zero =>
    intro i k acc hi h1 hk ha
    obtain ⟨k, rfl⟩ : ∃ m, k = m + 1 := ⟨k - 1, by omega⟩
    rw [impl_stepsAlong.l0, if_neg (by omega)]
    unfold codeF distF
    rw [if_pos rfl, List.append_nil]
  | succ d ihd =>
    intro i k acc hi h1 hk ha
    obtain ⟨k, rfl⟩ : ∃ m, k = m + 1 := ⟨k - 1, by omega⟩
    have e : wrap64 ((i : Int) - 1) = ((i - 1 : Nat) : Int) := by rw [wrap64_id _ (by omega) (by omega)]; omega
    have m1 := hr _ (rd_spot_mem l (i - 1) (by omega))
    have m2 := hr _ (rd_spot_mem l i (by omega))
    rw [impl_stepsAlong.l0, e, if_pos (by omega), if_pos (by omega), if_pos (by omega), if_pos (by omega), implSteps_eq w h u0 u1 u2 u3 u4 u5 u6 u7 u8 u9 iw ih r0 r1 r2 r3 r4 r5 r6 r7 r8 r9 _ _ _ _ m1.1 m1.2 m2.1 m2.2 k (by omega), Option.bind_some]
    have hst : stepsR w h [u0, u1, u2, u3, u4, u5, u6, u7, u8, u9] (rd_T62 l ((i - 1 : Nat) : Int)).f0 (rd_T62 l ((i - 1 : Nat) : Int)).f1 (rd_T62 l (i : Int)).f0 (rd_T62 l (i : Int)).f1 = stR w h [u0, u1, u2, u3, u4, u5, u6, u7, u8, u9] l i := rfl
    rw [hst]
    unfold codeF distF
    by_cases c : (stR w h [u0, u1, u2, u3, u4, u5, u6, u7, u8, u9] l i).2 = 0
    · rw [if_pos c, if_pos c, if_pos (by omega), wrap_nat i (by omega), ihd (i + 1) k (acc ++ [(stR w h [u0, u1, u2, u3, u4, u5, u6, u7, u8, u9] l i).1]) (by omega) (by omega) (by omega) (by rw [List.length_append, List.length_singleton]; omega), List.append_assoc]
      rfl
    · rw [if_neg c, if_neg c, if_neg c]
theorem implAlong_eq (w h u0 u1 u2 u3 u4 u5 u6 u7 u8 u9 : Int) (iw : -128 ≤ w ∧ w ≤ 127) (ih : -128 ≤ h ∧ h ≤ 127) (r0 : 0 ≤ u0 ∧ u0 < 65536) (r1 : 0 ≤ u1 ∧ u1 < 65536) (r2 : 0 ≤ u2 ∧ u2 < 65536) (r3 : 0 ≤ u3 ∧ u3 < 65536) (r4 : 0 ≤ u4 ∧ u4 < 65536) (r5 : 0 ≤ u5 ∧ u5 < 65536) (r6 : 0 ≤ u6 ∧ u6 < 65536) (r7 : 0 ≤ u7 ∧ u7 < 65536) (r8 : 0 ≤ u8 ∧ u8 < 65536) (r9 : 0 ≤ u9 ∧ u9 < 65536) (l : List S62) (hl : l.length ≤ 1048576) (hr : ∀ s ∈ l, spotR s) (k : Nat) (hk : l.length + 120 < k) : impl_stepsAlong.f k w h u0 u1 u2 u3 u4 u5 u6 u7 u8 u9 l = some (if codeF (stR w h [u0, u1, u2, u3, u4, u5, u6, u7, u8, u9] l) (l.length - 1) 1 = 0 then (distF (stR w h [u0, u1, u2, u3, u4, u5, u6, u7, u8, u9] l) (l.length - 1) 1, 0) else ([], codeF (stR w h [u0, u1, u2, u3, u4, u5, u6, u7, u8, u9] l) (l.length - 1) 1)) := by
  unfold impl_stepsAlong.f
  by_cases c : l.length = 0
  · obtain ⟨k, rfl⟩ : ∃ m, k = m + 1 := ⟨k - 1, by omega⟩
    rw [impl_stepsAlong.l0, if_neg (by omega), c]
    rfl
  · have := implAlong_l0 w h u0 u1 u2 u3 u4 u5 u6 u7 u8 u9 iw ih r0 r1 r2 r3 r4 r5 r6 r7 r8 r9 l hl hr (l.length - 1) 1 k [] (by omega) (Nat.le_refl _) (by omega) (by simp; omega)
    rwa [List.nil_append] at this

theorem toInt16S_l0 (l : List Int) (hl : l.length ≤ 1048576) : ∀ (d i k : Nat), i + d = l.length → d < k → laws_toInt16S.l0 k l ((l.map id).take i ++ List.replicate d 0) (i : Int) = some (l.map id) := by
  intro d
  induction d with
  | zero =>
    intro i k hi hk
    obtain ⟨k, rfl⟩ : ∃ m, k = m + 1 := ⟨k - 1, by omega⟩
    simp only [laws_toInt16S.l0]
    rw [if_neg (by omega), List.take_of_length_le (by simp; omega)]
    simp
  | succ d ih =>
    intro i k hi hk
    obtain ⟨k, rfl⟩ : ∃ m, k = m + 1 := ⟨k - 1, by omega⟩
    have hlen : (((l.map id).take i ++ List.replicate (d + 1) 0).length : Int) = l.length := by simp; omega
    have hg : (l.map id).getD i 0 = id (rd l (i : Int)) := by
      simp [rd, List.getD_eq_getElem?_getD, List.getElem?_map, List.getElem?_eq_getElem (show i < l.length by omega)]
    have hstep := set_rep ((l.map id).take i) i d 0 (id (rd l (i : Int))) (by simp; omega)
    rw [← hg, ← take_getD 0 (l.map id) i (by simp; omega), hg] at hstep
    simp only [laws_toInt16S.l0]
    rw [if_pos (by omega), if_pos (by omega), if_pos (by rw [hlen]; omega), wrap_nat i (by omega), Int.toNat_natCast]
    exact (congrArg (fun o => laws_toInt16S.l0 k l o ((i + 1 : Nat) : Int)) hstep).trans (ih (i + 1) k (by omega) (by omega))
theorem toInt16S_eq (l : List Int) (hl : l.length ≤ 1048576) (k : Nat) (hk : l.length < k) : laws_toInt16S.f k l = some l := by
  unfold laws_toInt16S.f
  rw [if_pos (by omega), if_pos (by omega)]
  have := toInt16S_l0 l hl l.length 0 k (by omega) hk
  simpa using this

theorem eqInt16S_l0 (a b : List Int) (hab : a.length = b.length) (hl : a.length ≤ 1048576) : ∀ (d i k : Nat), i + d = a.length → d < k → laws_eqInt16S.l0 k a b (i : Int) = some (decide (a.drop i = b.drop i)) := by
  intro d
  induction d with
  | zero =>
    intro i k hi hk
    obtain ⟨k, rfl⟩ : ∃ m, k = m + 1 := ⟨k - 1, by omega⟩
    simp only [laws_eqInt16S.l0]
    rw [if_neg (by omega), List.drop_eq_nil_of_le (by omega), List.drop_eq_nil_of_le (by omega)]
    simp
  | succ d ih =>
    intro i k hi hk
    obtain ⟨k, rfl⟩ : ∃ m, k = m + 1 := ⟨k - 1, by omega⟩
    have ha : a.drop i = rd a (i : Int) :: a.drop (i + 1) := by
      rw [drop_getD 0 a i (by omega)]; simp [rd]
    have hb : b.drop i = rd b (i : Int) :: b.drop (i + 1) := by
      rw [drop_getD 0 b i (by omega)]; simp [rd]
    simp only [laws_eqInt16S.l0]
    rw [if_pos (by omega), if_pos (by omega), if_pos (by omega), ha, hb]
    by_cases e : rd a (i : Int) = rd b (i : Int)
    · rw [if_pos e, wrap_nat i (by omega), ih (i + 1) k (by omega) (by omega)]
      simp [e]
    · rw [if_neg e]
      simp [e]
theorem eqInt16S_eq (a b : List Int) (hl : a.length ≤ 1048576) (k : Nat) (hk : a.length < k) : laws_eqInt16S.f k a b = some (decide (a = b)) := by
  unfold laws_eqInt16S.f
  by_cases h : a.length = b.length
  · rw [if_pos (by omega)]
    have := eqInt16S_l0 a b h hl a.length 0 k (by omega) hk
    simpa using this
  · rw [if_neg (by omega)]
    have : a ≠ b := fun e => h (by rw [e])
    simp [this]

theorem szInt16S_eq (l : List Int) (a : Int) (h0 : 0 ≤ a) (h1 : a ≤ 1048576) (hl : l.length ≤ 9223372036854775807) : laws_szInt16S.f l a = some (if a < l.length then -1 else a - l.length) := by
  unfold laws_szInt16S.f
  rw [wrap64_id _ (by omega) (by omega)]
  by_cases h : a < (l.length : Int)
  · rw [if_pos (by omega), if_pos h]
  · rw [if_neg (by omega), if_neg h]

def marksI (m : Int) (n : Nat) : List Int := (List.range n).map (fun (j : Nat) => IntKind.i16.wrap (m + (j : Int)))
theorem marksI_length (m : Int) (n : Nat) : (marksI m n).length = n := by simp [marksI]
theorem markInt16S_l0 (m : Int) (h0 : 0 ≤ m) (h1 : m ≤ 4194304) (g : List Int) (hl : g.length ≤ 1048576) : ∀ (d i k : Nat), i + d = g.length → d < k → laws_markInt16S.l0 k ((marksI m g.length).take i ++ g.drop i) (m + (i : Int)) (i : Int) = some (m + (g.length : Int), marksI m g.length) := by
  intro d
  induction d with
  | zero =>
    intro i k hi hk
    obtain ⟨k, rfl⟩ : ∃ m, k = m + 1 := ⟨k - 1, by omega⟩
    obtain rfl : i = g.length := by omega
    simp only [laws_markInt16S.l0]
    rw [List.drop_eq_nil_of_le (Nat.le_refl _), List.take_of_length_le (by rw [marksI_length]; omega), List.append_nil, if_neg (by rw [marksI_length]; omega)]
  | succ d ih =>
    intro i k hi hk
    obtain ⟨k, rfl⟩ : ∃ m, k = m + 1 := ⟨k - 1, by omega⟩
    have hlen : (((marksI m g.length).take i ++ g.drop i).length : Int) = g.length := by simp [marksI_length]; omega
    have hstep := set_drop ((marksI m g.length).take i) g i (IntKind.i16.wrap (m + (i : Int))) (by simp [marksI_length]; omega) (by omega)
    have hg : (marksI m g.length).getD i 0 = IntKind.i16.wrap (m + (i : Int)) := getD_range_map 0 _ _ _ (by omega)
    rw [← hg, ← take_getD 0 (marksI m g.length) i (by rw [marksI_length]; omega), hg] at hstep
    simp only [laws_markInt16S.l0]
    rw [if_pos (by rw [hlen]; omega), if_pos (by omega), wrap_nat i (by omega), Int.toNat_natCast, wrap64_id _ (by omega) (by omega), hstep]
    have := ih (i + 1) k (by omega) (by omega)
    rw [show m + ((i + 1 : Nat) : Int) = m + (i : Int) + 1 by omega] at this
    exact this
theorem markInt16S_eq (m : Int) (h0 : 0 ≤ m) (h1 : m ≤ 4194304) (g : List Int) (hl : g.length ≤ 1048576) (k : Nat) (hk : g.length < k) : laws_markInt16S.f k g m = some (m + (g.length : Int), marksI m g.length) := by
  unfold laws_markInt16S.f
  have := markInt16S_l0 m h0 h1 g hl g.length 0 k (by omega) hk
  simpa using this
theorem toRope_eq (p : Int) (l : List Int) (hl : l.length ≤ 1048576) (k : Nat) (hk : 1048576 < k) : laws_toRope.f k p l = some (p, l) := by
  unfold laws_toRope.f
  rw [toInt16S_eq l hl k (by omega), Option.bind_some]
theorem eqRope_eq (p : Int) (l : List Int) (q : Int) (m : List Int) (hl : l.length ≤ 1048576) (k : Nat) (hk : 1048576 < k) : laws_eqRope.f k p l q m = some (decide (p = q ∧ l = m)) := by
  unfold laws_eqRope.f
  rw [eqInt16S_eq l m hl k (by omega)]
  by_cases h1 : p = q <;> by_cases h2 : l = m <;> simp [h1, h2]
theorem szRope_eq (p : Int) (l : List Int) (a : Int) (h0 : 0 ≤ a) (h1 : a ≤ 1048576) (hl : l.length ≤ 9223372036854775807) : laws_szRope.f p l a = some (if a < (l.length : Int) then -1 else a - l.length) := by
  unfold laws_szRope.f
  rw [szInt16S_eq l a h0 h1 hl, Option.bind_some]
  by_cases h : a < (l.length : Int)
  · rw [if_pos h, if_pos (by decide)]
  · rw [if_neg h, if_neg (by omega)]
theorem markRope_eq (m : Int) (h0 : 0 ≤ m) (h1 : m ≤ 4194304) (p : Int) (l : List Int) (hl : l.length ≤ 1048576) (k : Nat) (hk : l.length < k) : laws_markRope.f k p l m = some (m + (l.length : Int), marksI m l.length) := by
  unfold laws_markRope.f
  rw [markInt16S_eq m h0 h1 l hl k hk]
  simp only [Option.bind_some]
theorem in_eq (a b c : Int) : spec_l00In.f a b c = some (decide (b ≤ a ∧ a ≤ c)) := by
  unfold spec_l00In.f
  by_cases h : b ≤ a
  · rw [if_pos (by omega)]; simp [h]
  · rw [if_neg (by omega)]; simp [h]
theorem within_eq (a b c : Int) : impl_within.f a b c = some (decide (b ≤ a ∧ a ≤ c)) := by
  unfold impl_within.f
  by_cases h : b ≤ a
  · rw [if_pos (by omega)]; simp [h]
  · rw [if_neg (by omega)]; simp [h]
def upFrom (l : List Int) : Nat → Nat → Bool
  | 0, _ => true
  | d + 1, i => !decide (rd l (i : Int) ≤ rd l ((i : Int) - 1)) && upFrom l d (i + 1)
def ropeOk (p : Int) (l : List Int) : Bool :=
  decide (1 ≤ p ∧ p ≤ 400) && (decide (2 ≤ l.length ∧ l.length ≤ 40) && (decide (rd l 0 = 0) && (decide (rd l ((l.length : Int) - 1) = p) && upFrom l (l.length - 1) 1)))
theorem specRope_l0 (l : List Int) (p : Int) (hl : l.length ≤ 1048576) : ∀ (d i k : Nat), 1 ≤ i → i + d = l.length → d < k → spec_l03Ok.l0 k (l.length : Int) (i : Int) p l = some (upFrom l d i) := by
  intro d
  induction d with
  | zero =>
    intro i k h1 hi hk
    obtain ⟨k, rfl⟩ : ∃ m, k = m + 1 := ⟨k - 1, by omega⟩
    simp only [spec_l03Ok.l0]
    rw [if_neg (by omega)]
    rfl
  | succ d ih =>
    intro i k h1 hi hk
    obtain ⟨k, rfl⟩ : ∃ m, k = m + 1 := ⟨k - 1, by omega⟩
    simp only [spec_l03Ok.l0]
    rw [wrap64_id ((i : Int) - 1) (by omega) (by omega), if_pos (by omega), if_pos (by omega), if_pos (by omega), if_pos (by omega), if_pos (by omega), wrap_nat i (by omega)]
    unfold upFrom
    by_cases e : rd l (i : Int) ≤ rd l ((i : Int) - 1)
    · rw [if_pos e, decide_eq_true e]; rfl
    · rw [if_neg e, decide_eq_false e, ih (i + 1) k (by omega) (by omega) (by omega)]; rfl
theorem specRope_eq (p : Int) (hp : -32768 ≤ p ∧ p ≤ 32767) (l : List Int) (hl : l.length ≤ 1048576) (k : Nat) (hk : 1048590 < k) : spec_l03Ok.f k p l = some (ropeOk p l) := by
  obtain ⟨k, rfl⟩ : ∃ m, k = m + 1 := ⟨k - 1, by omega⟩
  unfold spec_l03Ok.f ropeOk
  rw [wrap64_id p (by omega) (by omega), in_eq, Option.bind_some]
  simp only [spec_l03Ok.j0, if_true]
  by_cases c1 : 1 ≤ p ∧ p ≤ 400
  · rw [decide_eq_true c1, if_pos rfl]
    by_cases c2 : 2 ≤ l.length ∧ l.length ≤ 40
    · rw [decide_eq_true c2, if_neg (by omega), if_neg (by omega), if_pos (by omega), wrap64_id ((l.length : Int) - 1) (by omega) (by omega)]
      by_cases c3 : rd l 0 = 0
      · rw [if_pos c3, decide_eq_true c3, if_pos (by omega), if_pos (by omega)]
        by_cases c4 : rd l ((l.length : Int) - 1) = p
        · have := specRope_l0 l p hl (l.length - 1) 1 k (by omega) (by omega) (by omega)
          rw [show ((1 : Nat) : Int) = 1 from rfl] at this
          rw [decide_eq_true c4, if_neg (by simp [c4]), this]; rfl
        · rw [decide_eq_false c4, if_pos (by simp [c4])]; rfl
      · rw [if_neg c3, decide_eq_false c3]; rfl
    · rw [decide_eq_false c2]
      by_cases c5 : (l.length : Int) < 2
      · rw [if_pos c5]; rfl
      · rw [if_neg c5, if_pos (by omega)]; rfl
  · rw [decide_eq_false c1, if_neg (by decide)]; rfl
theorem implRope_l0 (l : List Int) (p : Int) (h2 : 2 ≤ l.length) (hl : l.length ≤ 1048576) : ∀ (d i k : Nat), 1 ≤ i → i + d = l.length → d < k → impl_ValidRope.l0 k (i : Int) p l = some (upFrom l d i && (decide (rd l 0 = 0) && decide (rd l ((l.length : Int) - 1) = p))) := by
  intro d
  induction d with
  | zero =>
    intro i k h1 hi hk
    obtain ⟨k, rfl⟩ : ∃ m, k = m + 1 := ⟨k - 1, by omega⟩
    simp only [impl_ValidRope.l0]
    rw [if_neg (by omega), if_pos (by omega), wrap64_id ((l.length : Int) - 1) (by omega) (by omega)]
    unfold upFrom
    by_cases c3 : rd l 0 = 0
    · rw [if_pos c3, decide_eq_true c3, if_pos (by omega), if_pos (by omega)]; rfl
    · rw [if_neg c3, decide_eq_false c3]; rfl
  | succ d ih =>
    intro i k h1 hi hk
    obtain ⟨k, rfl⟩ : ∃ m, k = m + 1 := ⟨k - 1, by omega⟩
    simp only [impl_ValidRope.l0]
    rw [wrap64_id ((i : Int) - 1) (by omega) (by omega), if_pos (by omega), if_pos (by omega), if_pos (by omega), if_pos (by omega), wrap_nat i (by omega)]
    conv => rhs; unfold upFrom
    by_cases e : rd l (i : Int) ≤ rd l ((i : Int) - 1)
    · rw [if_pos e, decide_eq_true e]; rfl
    · rw [if_neg e, decide_eq_false e, ih (i + 1) k (by omega) (by omega) (by omega)]; rfl
theorem implRope_eq (p : Int) (hp : -32768 ≤ p ∧ p ≤ 32767) (l : List Int) (hl : l.length ≤ 1048576) (k : Nat) (hk : 1048590 < k) : impl_ValidRope.f k p l = some (ropeOk p l) := by
  obtain ⟨k, rfl⟩ : ∃ m, k = m + 1 := ⟨k - 1, by omega⟩
  unfold impl_ValidRope.f ropeOk impl_size_int16.f
  rw [wrap64_id p (by omega) (by omega), within_eq, Option.bind_some, Option.bind_some, within_eq, Option.bind_some]
  simp only [impl_ValidRope.j0, if_true]
  by_cases c1 : 1 ≤ p ∧ p ≤ 400
  · rw [decide_eq_true c1, if_pos rfl]
    by_cases c2 : 2 ≤ l.length ∧ l.length ≤ 40
    · have := implRope_l0 l p c2.1 hl (l.length - 1) 1 k (by omega) (by omega) (by omega)
      rw [show ((1 : Nat) : Int) = 1 from rfl] at this
      rw [decide_eq_true (show 2 ≤ (l.length : Int) ∧ (l.length : Int) ≤ 40 by omega), decide_eq_true c2, if_neg (by decide), this]
      generalize upFrom l (l.length - 1) 1 = u
      generalize decide (rd l 0 = 0) = v
      generalize decide (rd l ((l.length : Int) - 1) = p) = x
      cases u <;> cases v <;> cases x <;> rfl
    · rw [decide_eq_false (show ¬ (2 ≤ (l.length : Int) ∧ (l.length : Int) ≤ 40) by omega), decide_eq_false c2, if_pos (by decide)]; rfl
  · rw [decide_eq_false c1, if_neg (by decide)]; rfl
def dupFrom (l : List S65) (w : Int) : Nat → Nat → Bool
  | 0, _ => false
  | d + 1, j => decide ((rd_T65 l (j : Int)).f0 = w) || dupFrom l w d (j + 1)
def holdAt (l : List S65) (n : Int) (i : Nat) : Bool :=
  decide (0 ≤ (rd_T65 l (i : Int)).f0 ∧ (rd_T65 l (i : Int)).f0 ≤ 999) && (decide (0 ≤ (rd_T65 l (i : Int)).f1 ∧ (rd_T65 l (i : Int)).f1 ≤ n - 1) && (!(decide (0 < i) && decide ((rd_T65 l (i : Int)).f1 ≤ (rd_T65 l ((i : Int) - 1)).f1)) && !dupFrom l (rd_T65 l (i : Int)).f0 i 0))
def holdsFrom (l : List S65) (n : Int) : Nat → Nat → Bool
  | 0, _ => true
  | d + 1, i => holdAt l n i && holdsFrom l n d (i + 1)
def holdR (h : S65) : Prop := (-32768 ≤ h.f0 ∧ h.f0 ≤ 32767) ∧ (-128 ≤ h.f1 ∧ h.f1 ≤ 127)
theorem mem_hold (s : List S65) (i : Nat) (h : i < s.length) : rd_T65 s (i : Int) ∈ s := by
  have h2 : rd_T65 s (i : Int) = s.getD i z65 := by simp [rd_T65]
  rw [h2, List.getD_eq_getElem?_getD, List.getElem?_eq_getElem h]
  exact List.getElem_mem _
theorem specHolds_l1 (l : List S65) (p : Int) (kn : List Int) (hl : l.length ≤ 1048576) (i : Nat) (hi : i < l.length) : ∀ (d j k : Nat), j + d = i → d < k → spec_l03Holds.l1 k l (i : Int) (j : Int) p kn = if dupFrom l (rd_T65 l (i : Int)).f0 d j = true then some false else spec_l03Holds.l0 (k - (d + 1)) l ((i + 1 : Nat) : Int) p kn := by
  intro d
  induction d with
  | zero =>
    intro j k hj hk
    obtain ⟨k, rfl⟩ : ∃ m, k = m + 1 := ⟨k - 1, by omega⟩
    simp only [spec_l03Holds.l1]
    rw [if_neg (by omega), wrap_nat i (by omega), if_neg (by simp [dupFrom])]
    simp
  | succ d ih =>
    intro j k hj hk
    obtain ⟨k, rfl⟩ : ∃ m, k = m + 1 := ⟨k - 1, by omega⟩
    simp only [spec_l03Holds.l1]
    rw [if_pos (by omega), if_pos (by omega), if_pos (by omega), if_pos (by omega), if_pos (by omega), wrap_nat j (by omega)]
    unfold dupFrom
    by_cases e : (rd_T65 l (j : Int)).f0 = (rd_T65 l (i : Int)).f0
    · rw [if_pos e, decide_eq_true e]; simp
    · rw [if_neg e, decide_eq_false e, ih (j + 1) k (by omega) (by omega), Bool.false_or, show k + 1 - (d + 1 + 1) = k - (d + 1) by omega]
theorem specHolds_l0 (l : List S65) (p : Int) (kn : List Int) (hl : l.length ≤ 1048576) (hkn : kn.length ≤ 1048576) (hr : ∀ h ∈ l, holdR h) : ∀ (d i k : Nat), i + d = l.length → d * 1048600 < k → spec_l03Holds.l0 k l (i : Int) p kn = some (holdsFrom l (kn.length : Int) d i) := by
  intro d
  induction d with
  | zero =>
    intro i k hi hk
    obtain ⟨k, rfl⟩ : ∃ m, k = m + 1 := ⟨k - 1, by omega⟩
    simp only [spec_l03Holds.l0]
    rw [if_neg (by omega)]
    rfl
  | succ d ih =>
    intro i k hi hk
    obtain ⟨D, hD⟩ : ∃ D, D = d * 1048600 := ⟨_, rfl⟩
    rw [Nat.succ_mul, ← hD] at hk
    obtain ⟨k, rfl⟩ : ∃ m, k = m + 4 := ⟨k - 4, by omega⟩
    have hh := hr _ (mem_hold l i (by omega))
    obtain ⟨⟨a1, a2⟩, b1, b2⟩ := hh
    simp only [spec_l03Holds.l0]
    rw [if_pos (by omega), if_pos (by omega), wrap64_id _ (by omega) (by omega), wrap64_id ((rd_T65 l (i : Int)).f1) (by omega) (by omega), wrap64_id ((kn.length : Int) - 1) (by omega) (by omega), in_eq, Option.bind_some]
    unfold holdsFrom holdAt
    have ih' := fun q (hq : D < q) => ih (i + 1) q (by omega) (by rw [← hD]; exact hq)
    have l1 := specHolds_l1 l p kn hl i (by omega) i 0 (k + 1) (by omega) (by omega)
    have hq := ih' (k - i) (by omega)
    rw [show ((0 : Nat) : Int) = 0 from rfl, Nat.add_sub_add_right] at l1
    simp only [hq] at l1
    by_cases c1 : 0 ≤ (rd_T65 l (i : Int)).f0 ∧ (rd_T65 l (i : Int)).f0 ≤ 999
    · rw [decide_eq_true c1, if_pos rfl, in_eq, Option.bind_some]
      by_cases c2 : 0 ≤ (rd_T65 l (i : Int)).f1 ∧ (rd_T65 l (i : Int)).f1 ≤ (kn.length : Int) - 1
      · rw [decide_eq_true c2]
        simp only [spec_l03Holds.j1]
        rw [if_neg (by decide)]
        by_cases c3 : 0 < i
        · rw [if_pos (by omega), if_pos (by omega), if_pos (by omega), wrap64_id ((i : Int) - 1) (by omega) (by omega), if_pos (by omega), if_pos (by omega), decide_eq_true c3]
          simp only [spec_l03Holds.j2]
          by_cases c4 : (rd_T65 l (i : Int)).f1 ≤ (rd_T65 l ((i : Int) - 1)).f1
          · rw [decide_eq_true c4, if_pos rfl]; rfl
          · rw [decide_eq_false c4, if_neg (by decide), l1]
            by_cases c5 : dupFrom l (rd_T65 l (i : Int)).f0 i 0 = true
            · rw [if_pos c5, c5]; rfl
            · rw [if_neg c5, Bool.eq_false_iff.mpr c5]; rfl
        · rw [if_neg (by omega), decide_eq_false c3]
          simp only [spec_l03Holds.j2]
          rw [if_neg (by decide), l1]
          by_cases c5 : dupFrom l (rd_T65 l (i : Int)).f0 i 0 = true
          · rw [if_pos c5, c5]; rfl
          · rw [if_neg c5, Bool.eq_false_iff.mpr c5]; rfl
      · rw [decide_eq_false c2]
        simp only [spec_l03Holds.j1]
        rw [if_pos (by decide)]; rfl
    · rw [decide_eq_false c1, if_neg (by decide)]
      simp only [spec_l03Holds.j1]
      rw [if_pos (by decide)]; rfl
def holdsOk (p : Int) (kn : List Int) (l : List S65) : Bool := ropeOk p kn && holdsFrom l (kn.length : Int) l.length 0
theorem specHolds_eq (p : Int) (hp : -32768 ≤ p ∧ p ≤ 32767) (kn : List Int) (l : List S65) (hl : l.length ≤ 1048576) (hkn : kn.length ≤ 1048576) (hr : ∀ h ∈ l, holdR h) (k : Nat) (hk : 1100000000000 < k) : spec_l03Holds.f k p kn l = some (holdsOk p kn l) := by
  unfold spec_l03Holds.f holdsOk
  rw [specRope_eq p hp kn hkn k (by omega), Option.bind_some]
  by_cases c : ropeOk p kn = true
  · have := specHolds_l0 l p kn hl hkn hr l.length 0 k (by omega) (by omega)
    rw [show ((0 : Nat) : Int) = 0 from rfl] at this
    rw [if_pos c, c, this]; rfl
  · rw [if_neg c, Bool.eq_false_iff.mpr c]; rfl
theorem rd_take_hold (l : List S65) (i j : Nat) (h : j < i) : rd_T65 (l.take i) (j : Int) = rd_T65 l (j : Int) := by
  simp [rd_T65, List.getD_eq_getElem?_getD, List.getElem?_take, h]
theorem implDup_l0 (l : List S65) (hl : l.length ≤ 1048576) (i : Nat) (hi : i ≤ l.length) (w v : Int) : ∀ (d j k : Nat), j + d = i → d < k → ∃ r : Int, slices_IndexFunc_Hold_at_ValidHolds_1.l0 k (l.take i) (i : Int) (j : Int) w v = some r ∧ decide (r ≥ 0) = dupFrom l w d j := by
  intro d
  induction d with
  | zero =>
    intro j k hj hk
    obtain ⟨k, rfl⟩ : ∃ m, k = m + 1 := ⟨k - 1, by omega⟩
    simp only [slices_IndexFunc_Hold_at_ValidHolds_1.l0]
    rw [if_neg (by omega)]
    exact ⟨-1, rfl, rfl⟩
  | succ d ih =>
    intro j k hj hk
    obtain ⟨k, rfl⟩ : ∃ m, k = m + 1 := ⟨k - 1, by omega⟩
    have hlen : ((l.take i).length : Int) = i := by rw [List.length_take]; omega
    simp only [slices_IndexFunc_Hold_at_ValidHolds_1.l0, impl_ValidHolds_1.f, Option.bind_some]
    rw [if_pos (by omega), if_pos (by omega), if_pos (by omega), rd_take_hold l i j (by omega), wrap_nat j (by omega)]
    unfold dupFrom
    by_cases e : (rd_T65 l (j : Int)).f0 = w
    · refine ⟨(j : Int), by rw [if_pos (by simp [e])], ?_⟩
      rw [decide_eq_true e]; simp
    · obtain ⟨r, h1, h2⟩ := ih (j + 1) k (by omega) (by omega)
      refine ⟨r, by rw [if_neg (by simp [e]), h1], ?_⟩
      rw [decide_eq_false e, h2]; rfl
theorem implDup_eq (l : List S65) (hl : l.length ≤ 1048576) (i : Nat) (hi : i ≤ l.length) (w v : Int) (k : Nat) (hk : 1048580 < k) : slices_ContainsFunc_Hold_at_ValidHolds_1.f k (l.take i) w v = some (dupFrom l w i 0) := by
  unfold slices_ContainsFunc_Hold_at_ValidHolds_1.f slices_IndexFunc_Hold_at_ValidHolds_1.f
  obtain ⟨r, h1, h2⟩ := implDup_l0 l hl i hi w v i 0 k (by omega) (by omega)
  rw [show ((l.take i).length : Int) = i by rw [List.length_take]; omega]
  rw [show ((0 : Nat) : Int) = 0 from rfl] at h1
  rw [h1, Option.bind_some, h2]
theorem implHolds_l0 (l : List S65) (p : Int) (hp : -32768 ≤ p ∧ p ≤ 32767) (kn : List Int) (hl : l.length ≤ 1048576) (hkn : kn.length ≤ 1048576) (hr : ∀ h ∈ l, holdR h) : ∀ (d i k : Nat), i + d = l.length → d + 1048600 < k → impl_ValidHolds.l0 k l l (l.length : Int) (i : Int) p kn = some (holdsFrom l (kn.length : Int) d i && ropeOk p kn) := by
  intro d
  induction d with
  | zero =>
    intro i k hi hk
    obtain ⟨k, rfl⟩ : ∃ m, k = m + 1 := ⟨k - 1, by omega⟩
    simp only [impl_ValidHolds.l0]
    rw [if_neg (by omega), implRope_eq p hp kn hkn k (by omega), Option.bind_some]
    rfl
  | succ d ih =>
    intro i k hi hk
    obtain ⟨k, rfl⟩ : ∃ m, k = m + 1 := ⟨k - 1, by omega⟩
    have hh := hr _ (mem_hold l i (by omega))
    obtain ⟨⟨a1, a2⟩, b1, b2⟩ := hh
    simp only [impl_ValidHolds.l0, impl_Rope_isHold.f, impl_size_int16.f]
    rw [if_pos (by omega), if_pos (by omega), if_pos (by omega), wrap64_id _ (by omega) (by omega), wrap64_id ((rd_T65 l (i : Int)).f1) (by omega) (by omega), wrap64_id ((i : Int) - 1) (by omega) (by omega), within_eq, Option.bind_some, Option.bind_some, wrap64_id ((kn.length : Int) - 1) (by omega) (by omega), wrap_nat i (by omega), Int.toNat_natCast, within_eq, Option.bind_some]
    have ih' := ih (i + 1) k (by omega) (by omega)
    have hd := implDup_eq l hl i (by omega) (rd_T65 l (i : Int)).f0 (rd_T65 l (i : Int)).f1 k (by omega)
    unfold holdsFrom holdAt
    by_cases c1 : 0 ≤ (rd_T65 l (i : Int)).f0 ∧ (rd_T65 l (i : Int)).f0 ≤ 999
    · rw [decide_eq_true c1, if_pos rfl, Option.bind_some]
      by_cases c2 : 0 ≤ (rd_T65 l (i : Int)).f1 ∧ (rd_T65 l (i : Int)).f1 ≤ (kn.length : Int) - 1
      · rw [decide_eq_true c2, if_pos rfl]
        by_cases c3 : 0 < i
        · rw [if_pos (by omega), if_pos (by omega), if_pos (by omega), decide_eq_true c3]
          by_cases c4 : (rd_T65 l (i : Int)).f1 ≤ (rd_T65 l ((i : Int) - 1)).f1
          · rw [if_pos c4, decide_eq_true c4]; rfl
          · rw [if_neg c4, if_pos (by omega), hd, Option.bind_some, decide_eq_false c4]
            by_cases c5 : dupFrom l (rd_T65 l (i : Int)).f0 i 0 = true
            · rw [if_pos c5, c5]; rfl
            · rw [if_neg c5, Bool.eq_false_iff.mpr c5, ih']; rfl
        · rw [if_neg (by omega), if_pos (by omega), hd, Option.bind_some, decide_eq_false c3]
          by_cases c5 : dupFrom l (rd_T65 l (i : Int)).f0 i 0 = true
          · rw [if_pos c5, c5]; rfl
          · rw [if_neg c5, Bool.eq_false_iff.mpr c5, ih']; rfl
      · rw [decide_eq_false c2, if_neg (by decide)]; rfl
    · rw [decide_eq_false c1, if_neg (by decide), Option.bind_some, if_neg (by decide)]; rfl
theorem implHolds_eq (p : Int) (hp : -32768 ≤ p ∧ p ≤ 32767) (kn : List Int) (l : List S65) (hl : l.length ≤ 1048576) (hkn : kn.length ≤ 1048576) (hr : ∀ h ∈ l, holdR h) (k : Nat) (hk : 3000000 < k) : impl_ValidHolds.f k p kn l = some (holdsOk p kn l) := by
  unfold impl_ValidHolds.f holdsOk
  have := implHolds_l0 l p hp kn hl hkn hr l.length 0 k (by omega) (by omega)
  rw [show ((0 : Nat) : Int) = 0 from rfl] at this
  rw [this, Bool.and_comm]
def cvHold (x : S92) : S65 := ⟨x.f0, x.f1⟩
theorem toHoldS_l0 (l : List S92) (hl : l.length ≤ 1048576) : ∀ (d i k : Nat), i + d = l.length → d < k → laws_toHoldS.l0 k l ((l.map cvHold).take i ++ List.replicate d z65) (i : Int) = some (l.map cvHold) := by
  intro d
  induction d with
  | zero =>
    intro i k hi hk
    obtain ⟨k, rfl⟩ : ∃ m, k = m + 1 := ⟨k - 1, by omega⟩
    simp only [laws_toHoldS.l0]
    rw [if_neg (by omega), List.take_of_length_le (by simp; omega)]
    simp
  | succ d ih =>
    intro i k hi hk
    obtain ⟨k, rfl⟩ : ∃ m, k = m + 1 := ⟨k - 1, by omega⟩
    have hlen : (((l.map cvHold).take i ++ List.replicate (d + 1) z65).length : Int) = l.length := by simp; omega
    have hg : (l.map cvHold).getD i z65 = cvHold (rd_T92 l (i : Int)) := by
      simp [rd_T92, List.getD_eq_getElem?_getD, List.getElem?_map, List.getElem?_eq_getElem (show i < l.length by omega)]
    have hstep := set_rep ((l.map cvHold).take i) i d z65 (cvHold (rd_T92 l (i : Int))) (by simp; omega)
    rw [← hg, ← take_getD z65 (l.map cvHold) i (by simp; omega), hg] at hstep
    simp only [laws_toHoldS.l0, laws_toHold.f, Option.bind_some]
    rw [if_pos (by omega), if_pos (by omega), if_pos (by rw [hlen]; omega), wrap_nat i (by omega), Int.toNat_natCast]
    exact (congrArg (fun o => laws_toHoldS.l0 k l o ((i + 1 : Nat) : Int)) hstep).trans (ih (i + 1) k (by omega) (by omega))
theorem toHoldS_eq (l : List S92) (hl : l.length ≤ 1048576) (k : Nat) (hk : l.length < k) : laws_toHoldS.f k l = some (l.map cvHold) := by
  unfold laws_toHoldS.f
  rw [if_pos (by omega), if_pos (by omega)]
  have := toHoldS_l0 l hl l.length 0 k (by omega) hk
  simpa using this

instance decHold : DecidableEq S65 := fun x y =>
  if h : x.f0 = y.f0 ∧ x.f1 = y.f1 then isTrue (by obtain ⟨a, b⟩ := x; obtain ⟨a', b'⟩ := y; simp only at h; rw [h.1, h.2]) else isFalse (fun e => h (by rw [e]; exact ⟨rfl, rfl⟩))
theorem eqHold_eq (x y : S65) : laws_eqHold.f x.f0 x.f1 y.f0 y.f1 = some (decide (x = y)) := by
  obtain ⟨a, b⟩ := x
  obtain ⟨a', b'⟩ := y
  unfold laws_eqHold.f
  by_cases h1 : a = a' <;> by_cases h2 : b = b' <;> simp [h1, h2]
theorem eqHoldS_l0 (a b : List S65) (hab : a.length = b.length) (hl : a.length ≤ 1048576) : ∀ (d i k : Nat), i + d = a.length → d < k → laws_eqHoldS.l0 k a b (i : Int) = some (decide (a.drop i = b.drop i)) := by
  intro d
  induction d with
  | zero =>
    intro i k hi hk
    obtain ⟨k, rfl⟩ : ∃ m, k = m + 1 := ⟨k - 1, by omega⟩
    simp only [laws_eqHoldS.l0]
    rw [if_neg (by omega), List.drop_eq_nil_of_le (by omega), List.drop_eq_nil_of_le (by omega)]
    simp
  | succ d ih =>
    intro i k hi hk
    obtain ⟨k, rfl⟩ : ∃ m, k = m + 1 := ⟨k - 1, by omega⟩
    have ha : a.drop i = rd_T65 a (i : Int) :: a.drop (i + 1) := by
      rw [drop_getD z65 a i (by omega)]; simp [rd_T65]
    have hb : b.drop i = rd_T65 b (i : Int) :: b.drop (i + 1) := by
      rw [drop_getD z65 b i (by omega)]; simp [rd_T65]
    simp only [laws_eqHoldS.l0]
    rw [if_pos (by omega), if_pos (by omega), if_pos (by omega), ha, hb]
    rw [eqHold_eq (rd_T65 a (i : Int)) (rd_T65 b (i : Int))]
    simp only [Option.bind_some]
    by_cases e : rd_T65 a (i : Int) = rd_T65 b (i : Int)
    · rw [decide_eq_true e, if_pos rfl, wrap_nat i (by omega), ih (i + 1) k (by omega) (by omega)]
      simp [e]
    · rw [decide_eq_false e, if_neg (by decide)]
      simp [e]
theorem eqHoldS_eq (a b : List S65) (hl : a.length ≤ 1048576) (k : Nat) (hk : a.length < k) : laws_eqHoldS.f k a b = some (decide (a = b)) := by
  unfold laws_eqHoldS.f
  by_cases h : a.length = b.length
  · rw [if_pos (by omega)]
    have := eqHoldS_l0 a b h hl a.length 0 k (by omega) hk
    simpa using this
  · rw [if_neg (by omega)]
    have : a ≠ b := fun e => h (by rw [e])
    simp [this]

theorem szHoldS_eq (l : List S92) (a : Int) (h0 : 0 ≤ a) (h1 : a ≤ 1048576) (hl : l.length ≤ 9223372036854775807) : laws_szHoldS.f l a = some (if a < l.length then -1 else a - l.length) := by
  unfold laws_szHoldS.f
  rw [wrap64_id _ (by omega) (by omega)]
  by_cases h : a < (l.length : Int)
  · rw [if_pos (by omega), if_pos h]
  · rw [if_neg (by omega), if_neg h]

def listF (g : Nat → Int) : Nat → Nat → List Int
  | 0, _ => []
  | d + 1, i => g i :: listF g d (i + 1)
theorem listF_len (g : Nat → Int) : ∀ d i, (listF g d i).length = d
  | 0, _ => rfl
  | d + 1, i => by unfold listF; rw [List.length_cons, listF_len g d (i + 1)]
theorem distF_list (st : Nat → Int × Int) : ∀ d i, distF st d i = listF (fun i => (st i).1) d i
  | 0, _ => rfl
  | d + 1, i => by unfold distF listF; rw [distF_list st d (i + 1)]
theorem listF_rd (g : Nat → Int) : ∀ (d i j : Nat), j < d → rd (listF g d i) (j : Int) = g (i + j)
  | 0, _, _, h => absurd h (by omega)
  | d + 1, i, 0, _ => rfl
  | d + 1, i, j + 1, h => by
    have := listF_rd g d (i + 1) j (by omega)
    rw [rd_nat] at this ⊢
    unfold listF
    rw [List.getD_cons_succ, this]
    congr 1; omega
theorem up_le (l : List Int) : ∀ (d i : Nat), 1 ≤ i → upFrom l d i = true → ∀ j, i ≤ j → j < i + d → rd l ((j : Int) - 1) < rd l (j : Int) := by
  intro d
  induction d with
  | zero => intro i _ _ j h1 h2; omega
  | succ d ihd =>
    intro i h1 hu j h2 h3
    unfold upFrom at hu
    rw [Bool.and_eq_true] at hu
    by_cases e : j = i
    · subst e
      have := hu.1
      simp at this
      omega
    · exact ihd (i + 1) (by omega) hu.2 j (by omega) (by omega)
theorem rope_up (p : Int) (l : List Int) (h : ropeOk p l = true) : ∀ (j : Nat), j < l.length → (0 ≤ rd l (j : Int)) ∧ ∀ i, j ≤ i → i < l.length → rd l (j : Int) ≤ rd l (i : Int) := by
  unfold ropeOk at h
  simp only [Bool.and_eq_true, decide_eq_true_eq] at h
  obtain ⟨h1, h2, h3, h4, h5⟩ := h
  have up := up_le l (l.length - 1) 1 (Nat.le_refl _) h5
  have mono : ∀ (j i : Nat), j ≤ i → i < l.length → rd l (j : Int) ≤ rd l (i : Int) := by
    intro j i hji
    induction i with
    | zero => intro _; obtain rfl : j = 0 := by omega
              exact Int.le_refl _
    | succ i ihi =>
      intro hi
      by_cases e : j = i + 1
      · subst e; exact Int.le_refl _
      · have a := ihi (by omega) (by omega)
        have b := up (i + 1) (by omega) (by omega)
        rw [show ((i + 1 : Nat) : Int) - 1 = (i : Int) from by omega] at b
        omega
  intro j hj
  refine ⟨?_, fun i h1 h2 => mono j i h1 h2⟩
  have := mono 0 j (by omega) hj
  rw [show ((0 : Nat) : Int) = 0 from rfl, h3] at this
  exact this
theorem rope_rng (p : Int) (l : List Int) (h : ropeOk p l = true) (j : Nat) (hj : j < l.length) : 0 ≤ rd l (j : Int) ∧ rd l (j : Int) ≤ 400 := by
  obtain ⟨a, b⟩ := rope_up p l h j hj
  have c := b (l.length - 1) (by omega) (by omega)
  unfold ropeOk at h
  simp only [Bool.and_eq_true, decide_eq_true_eq] at h
  obtain ⟨h1, h2, h3, h4, h5⟩ := h
  rw [show ((l.length - 1 : Nat) : Int) = (l.length : Int) - 1 from by omega, h4] at c
  omega
theorem holds_at (l : List S65) (n : Int) : ∀ (d i : Nat), holdsFrom l n d i = true → ∀ j, i ≤ j → j < i + d → 0 ≤ (rd_T65 l (j : Int)).f1 ∧ (rd_T65 l (j : Int)).f1 ≤ n - 1 := by
  intro d
  induction d with
  | zero => intro i _ j h1 h2; omega
  | succ d ihd =>
    intro i hh j h1 h2
    unfold holdsFrom at hh
    rw [Bool.and_eq_true] at hh
    by_cases e : j = i
    · subst e
      have := hh.1
      unfold holdAt at this
      rw [Bool.and_eq_true, Bool.and_eq_true, decide_eq_true_eq, decide_eq_true_eq] at this
      exact this.2.1
    · exact ihd (i + 1) hh.2 j (by omega) (by omega)
def gapG (kn : List Int) (l : List S65) (i : Nat) : Int := rd kn (rd_T65 l (i : Int)).f1 - rd kn (rd_T65 l ((i - 1 : Nat) : Int)).f1
theorem gap_facts (p : Int) (kn : List Int) (l : List S65) (hh : holdsOk p kn l = true) (i : Nat) (hi : i < l.length) : (0 ≤ (rd_T65 l (i : Int)).f1 ∧ (rd_T65 l (i : Int)).f1 < (kn.length : Int)) ∧ 0 ≤ rd kn (rd_T65 l (i : Int)).f1 ∧ rd kn (rd_T65 l (i : Int)).f1 ≤ 400 := by
  unfold holdsOk at hh
  rw [Bool.and_eq_true] at hh
  have a := holds_at l _ l.length 0 hh.2 i (Nat.zero_le _) (by omega)
  have e : (rd_T65 l (i : Int)).f1 = ((rd_T65 l (i : Int)).f1.toNat : Int) := by omega
  refine ⟨by omega, ?_⟩
  rw [e]
  exact rope_rng p kn hh.1 _ (by omega)
theorem gaps_l0 (p : Int) (kn : List Int) (l : List S65) (hl : l.length ≤ 1048576) (hh : holdsOk p kn l = true) : ∀ (d i k : Nat) (acc : List Int), i + d = l.length → 1 ≤ i → d < k → acc.length + d ≤ 1048576 → spec_l03Gaps.l0 k l acc (i : Int) p kn = some (acc ++ listF (gapG kn l) d i) ∧ impl_GapsOf.l0 k l acc (i : Int) p kn = some (acc ++ listF (gapG kn l) d i, 0) := by
  intro d
  induction d with
  | zero =>
    intro i k acc hi h1 hk ha
    obtain ⟨k, rfl⟩ : ∃ m, k = m + 1 := ⟨k - 1, by omega⟩
    rw [spec_l03Gaps.l0, impl_GapsOf.l0, if_neg (by omega), if_neg (by omega)]
    unfold listF
    rw [List.append_nil]
    exact ⟨rfl, rfl⟩
  | succ d ihd =>
    intro i k acc hi h1 hk ha
    obtain ⟨k, rfl⟩ : ∃ m, k = m + 1 := ⟨k - 1, by omega⟩
    have e : wrap64 ((i : Int) - 1) = ((i - 1 : Nat) : Int) := by rw [wrap64_id _ (by omega) (by omega)]; omega
    obtain ⟨⟨f1, f2⟩, f3, f4⟩ := gap_facts p kn l hh i (by omega)
    obtain ⟨⟨g1, g2⟩, g3, g4⟩ := gap_facts p kn l hh (i - 1) (by omega)
    have hg : gapG kn l i = rd kn (rd_T65 l (i : Int)).f1 - rd kn (rd_T65 l ((i - 1 : Nat) : Int)).f1 := rfl
    have e1 : wrap64 (wrap64 (rd kn (rd_T65 l (i : Int)).f1) - wrap64 (rd kn (rd_T65 l ((i - 1 : Nat) : Int)).f1)) = gapG kn l i := by
      rw [wrap64_id (rd kn (rd_T65 l (i : Int)).f1) (by omega) (by omega), wrap64_id (rd kn (rd_T65 l ((i - 1 : Nat) : Int)).f1) (by omega) (by omega), wrap64_id _ (by omega) (by omega), hg]
    have e2 : wrap64 (IntKind.i16.wrap (rd kn (rd_T65 l (i : Int)).f1 - rd kn (rd_T65 l ((i - 1 : Nat) : Int)).f1)) = gapG kn l i := by
      have : IntKind.i16.wrap (rd kn (rd_T65 l (i : Int)).f1 - rd kn (rd_T65 l ((i - 1 : Nat) : Int)).f1) = rd kn (rd_T65 l (i : Int)).f1 - rd kn (rd_T65 l ((i - 1 : Nat) : Int)).f1 := by simp [IntKind.wrap, IntKind.bits, IntKind.signed]; omega
      rw [this, wrap64_id _ (by omega) (by omega), hg]
    have q := ihd (i + 1) k (acc ++ [gapG kn l i]) (by omega) (by omega) (by omega) (by rw [List.length_append, List.length_singleton]; omega)
    have hap : acc ++ listF (gapG kn l) (d + 1) i = (acc ++ [gapG kn l i]) ++ listF (gapG kn l) d (i + 1) := by rw [List.append_assoc]; rfl
    constructor
    · rw [spec_l03Gaps.l0, e, if_pos (by omega), if_pos (by omega), if_pos f1, if_pos f2, if_pos (by omega), if_pos (by omega), if_pos g1, if_pos g2, if_pos (by omega), wrap_nat i (by omega), e1, hap]
      exact q.1
    · rw [impl_GapsOf.l0, e, if_pos (by omega), if_pos (by omega), if_pos f1, if_pos f2, if_pos (by omega), if_pos (by omega), if_pos g1, if_pos g2, if_pos (by omega), wrap_nat i (by omega), e2, hap]
      exact q.2
theorem gaps_eq (p : Int) (kn : List Int) (l : List S65) (hl : l.length ≤ 1048576) (hh : holdsOk p kn l = true) (k : Nat) (hk : l.length < k) : spec_l03Gaps.f k p kn l = some (listF (gapG kn l) (l.length - 1) 1) ∧ impl_GapsOf.l0 k l [] 1 p kn = some (listF (gapG kn l) (l.length - 1) 1, 0) := by
  unfold spec_l03Gaps.f
  by_cases c : l.length = 0
  · obtain ⟨k, rfl⟩ : ∃ m, k = m + 1 := ⟨k - 1, by omega⟩
    rw [spec_l03Gaps.l0, impl_GapsOf.l0, if_neg (by omega), if_neg (by omega), c]
    exact ⟨rfl, rfl⟩
  · have := gaps_l0 p kn l hl hh (l.length - 1) 1 k [] (by omega) (Nat.le_refl _) (by omega) (by simp; omega)
    rwa [List.nil_append] at this
def slkZ (g : Nat → Int) (st : Nat → Int × Int) (i : Nat) : Int := wrap64 (g i - (st i).1)
theorem specSlack_l0 (w h u0 u1 u2 u3 u4 u5 u6 u7 u8 u9 : Int) (iw : -128 ≤ w ∧ w ≤ 127) (ih : -128 ≤ h ∧ h ≤ 127) (r0 : 0 ≤ u0 ∧ u0 < 65536) (r1 : 0 ≤ u1 ∧ u1 < 65536) (r2 : 0 ≤ u2 ∧ u2 < 65536) (r3 : 0 ≤ u3 ∧ u3 < 65536) (r4 : 0 ≤ u4 ∧ u4 < 65536) (r5 : 0 ≤ u5 ∧ u5 < 65536) (r6 : 0 ≤ u6 ∧ u6 < 65536) (r7 : 0 ≤ u7 ∧ u7 < 65536) (r8 : 0 ≤ u8 ∧ u8 < 65536) (r9 : 0 ≤ u9 ∧ u9 < 65536) (l : List S62) (hl : l.length ≤ 1048576) (hr : ∀ s ∈ l, spotR s) (g : Nat → Int) : ∀ (d i k : Nat) (acc : List Int), i + d = l.length → 1 ≤ i → d + 120 < k → acc.length + d ≤ 1048576 → spec_SlacksOf.l0 k l acc (listF g (l.length - 1) 1) (i : Int) w h u0 u1 u2 u3 u4 u5 u6 u7 u8 u9 = some (if codeF (stR w h [u0, u1, u2, u3, u4, u5, u6, u7, u8, u9] l) d i = 0 then (acc ++ listF (slkZ g (stR w h [u0, u1, u2, u3, u4, u5, u6, u7, u8, u9] l)) d i, 0) else ([], codeF (stR w h [u0, u1, u2, u3, u4, u5, u6, u7, u8, u9] l) d i)) := by
  intro d
  induction d with
  | zero =>
    intro i k acc hi h1 hk ha
    obtain ⟨k, rfl⟩ : ∃ m, k = m + 1 := ⟨k - 1, by omega⟩
    rw [spec_SlacksOf.l0, if_neg (by omega)]
    unfold codeF listF
    rw [if_pos rfl, List.append_nil]
  | succ d ihd =>
    intro i k acc hi h1 hk ha
    obtain ⟨k, rfl⟩ : ∃ m, k = m + 1 := ⟨k - 1, by omega⟩
    have e : wrap64 ((i : Int) - 1) = ((i - 1 : Nat) : Int) := by rw [wrap64_id _ (by omega) (by omega)]; omega
    have m1 := hr _ (rd_spot_mem l (i - 1) (by omega))
    have m2 := hr _ (rd_spot_mem l i (by omega))
    rw [spec_SlacksOf.l0, e, if_pos (by omega), if_pos (by omega), if_pos (by omega), if_pos (by omega), specSteps_eq w h u0 u1 u2 u3 u4 u5 u6 u7 u8 u9 iw ih r0 r1 r2 r3 r4 r5 r6 r7 r8 r9 _ _ _ _ m1.1 m1.2 m2.1 m2.2 k (by omega), Option.bind_some]
    have hst : stepsR w h [u0, u1, u2, u3, u4, u5, u6, u7, u8, u9] (rd_T62 l ((i - 1 : Nat) : Int)).f0 (rd_T62 l ((i - 1 : Nat) : Int)).f1 (rd_T62 l (i : Int)).f0 (rd_T62 l (i : Int)).f1 = stR w h [u0, u1, u2, u3, u4, u5, u6, u7, u8, u9] l i := rfl
    have hgi : rd (listF g (l.length - 1) 1) ((i - 1 : Nat) : Int) = g i := by rw [listF_rd g _ 1 (i - 1) (by omega)]; congr 1; omega
    have hap : acc ++ listF (slkZ g (stR w h [u0, u1, u2, u3, u4, u5, u6, u7, u8, u9] l)) (d + 1) i = (acc ++ [slkZ g (stR w h [u0, u1, u2, u3, u4, u5, u6, u7, u8, u9] l) i]) ++ listF (slkZ g (stR w h [u0, u1, u2, u3, u4, u5, u6, u7, u8, u9] l)) d (i + 1) := by rw [List.append_assoc]; rfl
    rw [hst, hap]
    unfold codeF
    by_cases c : (stR w h [u0, u1, u2, u3, u4, u5, u6, u7, u8, u9] l i).2 = 0
    · rw [if_pos c, if_pos c, if_pos (by rw [listF_len]; omega), if_pos (by omega), wrap_nat i (by omega), hgi]
      exact ihd (i + 1) k (acc ++ [slkZ g (stR w h [u0, u1, u2, u3, u4, u5, u6, u7, u8, u9] l) i]) (by omega) (by omega) (by omega) (by rw [List.length_append, List.length_singleton]; omega)
    · rw [if_neg c, if_neg c, if_neg c]
theorem implSlack_l0 (g : Nat → Int) (st : Nat → Int × Int) (n : Nat) (hn : n ≤ 1048576) : ∀ (d j k : Nat), j + d = n → d < k → impl_SlacksOf.l0 k ((listF (slkZ g st) n 1).take j ++ (listF g n 1).drop j) (distF st n 1) (n : Int) (j : Int) = some (listF (slkZ g st) n 1, 0) := by
  intro d
  induction d with
  | zero =>
    intro j k hj hk
    obtain ⟨k, rfl⟩ : ∃ m, k = m + 1 := ⟨k - 1, by omega⟩
    rw [impl_SlacksOf.l0, if_neg (by omega), List.take_of_length_le (by rw [listF_len]; omega), List.drop_eq_nil_of_le (by rw [listF_len]; omega), List.append_nil]
  | succ d ihd =>
    intro j k hj hk
    obtain ⟨k, rfl⟩ : ∃ m, k = m + 1 := ⟨k - 1, by omega⟩
    have hlt : ((listF (slkZ g st) n 1).take j).length = j := by rw [List.length_take, listF_len]; omega
    have hlen : ((listF (slkZ g st) n 1).take j ++ (listF g n 1).drop j).length = n := by rw [List.length_append, hlt, List.length_drop, listF_len]; omega
    have hrd : rd ((listF (slkZ g st) n 1).take j ++ (listF g n 1).drop j) (j : Int) = g (1 + j) := by
      rw [rd_nat, drop_rd _ j (by rw [listF_len]; omega), listF_rd g n 1 j (by omega), List.getD_eq_getElem?_getD, List.getElem?_append_right (by omega), hlt, Nat.sub_self]
      rfl
    have hd2 : rd (distF st n 1) (j : Int) = (st (1 + j)).1 := by rw [distF_list, listF_rd _ n 1 j (by omega)]
    rw [impl_SlacksOf.l0, if_pos (by omega), if_pos (by omega), if_pos (by rw [hlen]; omega), if_pos (by rw [distF_len]; omega), hrd, hd2, wrap_nat j (by omega), Int.toNat_natCast, set_drop _ _ j _ hlt (by rw [listF_len]; omega)]
    have ht : (listF (slkZ g st) n 1).take j ++ [wrap64 (g (1 + j) - (st (1 + j)).1)] = (listF (slkZ g st) n 1).take (j + 1) := by
      rw [take_getD 0 _ j (by rw [listF_len]; omega), ← rd_nat, listF_rd _ n 1 j (by omega)]
      rfl
    rw [ht]
    exact ihd (j + 1) k (by omega) (by omega)
def slackR (w h : Int) (us : List Int) (p : Int) (kn : List Int) (l2 : List S65) (l3 : List S62) : List Int × Int :=
  if okR w h us = true ∧ holdsOk p kn l2 = true then (if l3.length = l2.length ∧ l3.all (fun s => cellR w h s.f0 s.f1) = true then (if codeF (stR w h us l3) (l3.length - 1) 1 = 0 then (listF (slkZ (gapG kn l2) (stR w h us l3)) (l3.length - 1) 1, 0) else ([], codeF (stR w h us l3) (l3.length - 1) 1)) else ([], 2)) else ([], 1)
theorem slackR_len (w h : Int) (us : List Int) (p : Int) (kn : List Int) (l2 : List S65) (l3 : List S62) : (slackR w h us p kn l2 l3).1.length ≤ l3.length := by
  unfold slackR
  split
  · split
    · split
      · dsimp only; rw [listF_len]; omega
      · exact Nat.zero_le _
    · exact Nat.zero_le _
  · exact Nat.zero_le _
theorem specSlack_eq (w h u0 u1 u2 u3 u4 u5 u6 u7 u8 u9 : Int) (iw : -128 ≤ w ∧ w ≤ 127) (ih : -128 ≤ h ∧ h ≤ 127) (r0 : 0 ≤ u0 ∧ u0 < 65536) (r1 : 0 ≤ u1 ∧ u1 < 65536) (r2 : 0 ≤ u2 ∧ u2 < 65536) (r3 : 0 ≤ u3 ∧ u3 < 65536) (r4 : 0 ≤ u4 ∧ u4 < 65536) (r5 : 0 ≤ u5 ∧ u5 < 65536) (r6 : 0 ≤ u6 ∧ u6 < 65536) (r7 : 0 ≤ u7 ∧ u7 < 65536) (r8 : 0 ≤ u8 ∧ u8 < 65536) (r9 : 0 ≤ u9 ∧ u9 < 65536) (p : Int) (hp : -32768 ≤ p ∧ p ≤ 32767) (kn : List Int) (l2 : List S65) (l3 : List S62) (hkn : kn.length ≤ 1048576) (hl2 : l2.length ≤ 1048576) (hl3 : l3.length ≤ 1048576) (hr2 : ∀ x ∈ l2, holdR x) (hr3 : ∀ s ∈ l3, spotR s) (k : Nat) (hk : 1100000000010 < k) : spec_SlacksOf.f k w h u0 u1 u2 u3 u4 u5 u6 u7 u8 u9 p kn l2 l3 = some (slackR w h [u0, u1, u2, u3, u4, u5, u6, u7, u8, u9] p kn l2 l3) := by
  obtain ⟨k, rfl⟩ : ∃ m, k = m + 2 := ⟨k - 2, by omega⟩
  unfold spec_SlacksOf.f slackR
  rw [Option.bind_some, specOk_eq w h u0 u1 u2 u3 u4 u5 u6 u7 u8 u9 iw ih _ (by omega), Option.bind_some, specHolds_eq p hp kn l2 hl2 hkn hr2 _ (by omega), Option.bind_some]
  by_cases c : okR w h [u0, u1, u2, u3, u4, u5, u6, u7, u8, u9] = true
  · by_cases d : holdsOk p kn l2 = true
    · rw [if_pos c, if_pos (⟨c, d⟩ : _ ∧ _), d, spec_SlacksOf.j0, if_neg (by decide), specCells_eq w h u0 u1 u2 u3 u4 u5 u6 u7 u8 u9 iw ih l3 hl3 hr3 _ (by omega), Option.bind_some]
      by_cases e : l3.length = l2.length
      · rw [if_pos (show (l3.length : Int) = (l2.length : Int) by omega), spec_SlacksOf.j1]
        by_cases f : l3.all (fun s => cellR w h s.f0 s.f1) = true
        · rw [if_pos (⟨e, f⟩ : _ ∧ _), f, if_neg (by decide), (gaps_eq p kn l2 hl2 d k (by omega)).1, Option.bind_some]
          rw [← e]
          by_cases z : l3.length = 0
          · obtain ⟨k, rfl⟩ : ∃ m, k = m + 1 := ⟨k - 1, by omega⟩
            rw [spec_SlacksOf.l0, if_neg (by omega), z]
            rfl
          · have := specSlack_l0 w h u0 u1 u2 u3 u4 u5 u6 u7 u8 u9 iw ih r0 r1 r2 r3 r4 r5 r6 r7 r8 r9 l3 hl3 hr3 (gapG kn l2) (l3.length - 1) 1 k [] (by omega) (Nat.le_refl _) (by omega) (by simp; omega)
            rw [List.nil_append] at this
            exact this
        · rw [Bool.eq_false_iff.2 f, if_pos (show (!false) = true from rfl), if_neg (show ¬ (l3.length = l2.length ∧ false = true) from fun x => absurd x.2 (by decide))]
      · rw [if_neg (show ¬ (l3.length : Int) = (l2.length : Int) by omega), spec_SlacksOf.j1, if_pos rfl, if_neg (fun x => e x.1)]
    · rw [if_pos c, if_neg (fun x => d x.2), Bool.eq_false_iff.2 d, spec_SlacksOf.j0, if_pos (show (!false) = true from rfl)]
  · rw [if_neg c, if_neg (fun x => c x.1), spec_SlacksOf.j0, if_pos rfl]
theorem implSlack_eq (w h u0 u1 u2 u3 u4 u5 u6 u7 u8 u9 : Int) (iw : -128 ≤ w ∧ w ≤ 127) (ih : -128 ≤ h ∧ h ≤ 127) (r0 : 0 ≤ u0 ∧ u0 < 65536) (r1 : 0 ≤ u1 ∧ u1 < 65536) (r2 : 0 ≤ u2 ∧ u2 < 65536) (r3 : 0 ≤ u3 ∧ u3 < 65536) (r4 : 0 ≤ u4 ∧ u4 < 65536) (r5 : 0 ≤ u5 ∧ u5 < 65536) (r6 : 0 ≤ u6 ∧ u6 < 65536) (r7 : 0 ≤ u7 ∧ u7 < 65536) (r8 : 0 ≤ u8 ∧ u8 < 65536) (r9 : 0 ≤ u9 ∧ u9 < 65536) (p : Int) (hp : -32768 ≤ p ∧ p ≤ 32767) (kn : List Int) (l2 : List S65) (l3 : List S62) (hkn : kn.length ≤ 1048576) (hl2 : l2.length ≤ 1048576) (hl3 : l3.length ≤ 1048576) (hr2 : ∀ x ∈ l2, holdR x) (hr3 : ∀ s ∈ l3, spotR s) (k : Nat) (hk : 1100000000010 < k) : impl_SlacksOf.f k w h u0 u1 u2 u3 u4 u5 u6 u7 u8 u9 p kn l2 l3 = some (slackR w h [u0, u1, u2, u3, u4, u5, u6, u7, u8, u9] p kn l2 l3) := by
  obtain ⟨k, rfl⟩ : ∃ m, k = m + 2 := ⟨k - 2, by omega⟩
  unfold impl_SlacksOf.f impl_GapsOf.f slackR
  rw [implHolds_eq p hp kn l2 hl2 hkn hr2 _ (by omega), Option.bind_some]
  by_cases d : holdsOk p kn l2 = true
  · rw [if_pos d, (gaps_eq p kn l2 hl2 d (k + 2) (by omega)).2, Option.bind_some]
    dsimp only
    rw [if_pos rfl, implOk_eq w h u0 u1 u2 u3 u4 u5 u6 u7 u8 u9 iw ih, Option.bind_some, impl_SlacksOf.j0]
    by_cases c : okR w h [u0, u1, u2, u3, u4, u5, u6, u7, u8, u9] = true
    · have ho := okR_iff c
      rw [c, if_neg (by decide), if_pos (⟨rfl, d⟩ : _ ∧ _)]
      by_cases e : l3.length = l2.length
      · rw [if_pos (show (l3.length : Int) = (l2.length : Int) by omega), cellCode_eq w h u0 u1 u2 u3 u4 u5 u6 u7 u8 u9 iw ih l3 hl3 hr3 _ (by omega), Option.bind_some, if_pos c, any_all w h ho.1.2 ho.2.2 l3]
        by_cases f : l3.all (fun s => cellR w h s.f0 s.f1) = true
        · rw [if_pos (⟨e, f⟩ : _ ∧ _), f]
          rw [show (if (!true) = true then (2 : Int) else 0) = 0 from rfl, if_pos rfl, implAlong_eq w h u0 u1 u2 u3 u4 u5 u6 u7 u8 u9 iw ih r0 r1 r2 r3 r4 r5 r6 r7 r8 r9 l3 hl3 hr3 _ (by omega), Option.bind_some]
          by_cases z : codeF (stR w h [u0, u1, u2, u3, u4, u5, u6, u7, u8, u9] l3) (l3.length - 1) 1 = 0
          · rw [if_pos z, if_pos z]
            dsimp only
            rw [if_pos rfl, listF_len]
            have := implSlack_l0 (gapG kn l2) (stR w h [u0, u1, u2, u3, u4, u5, u6, u7, u8, u9] l3) (l2.length - 1) (by omega) (l2.length - 1) 0 (k + 1) (by omega) (by omega)
            rw [List.take_zero, List.drop_zero, List.nil_append, show ((0 : Nat) : Int) = 0 from rfl] at this
            rw [e]
            exact this
          · rw [if_neg z, if_neg z]
            dsimp only
            rw [if_neg z]
        · rw [Bool.eq_false_iff.2 f]
          rw [show (if (!false) = true then (2 : Int) else 0) = 2 from rfl, if_neg (show ¬ (2 : Int) = 0 by decide), if_neg (show ¬ (l3.length = l2.length ∧ false = true) from fun x => absurd x.2 (by decide))]
      · rw [if_neg (show ¬ (l3.length : Int) = (l2.length : Int) by omega), if_neg (fun x => e x.1)]
    · rw [Bool.eq_false_iff.2 c, if_pos (show (!false) = true from rfl), if_neg (fun x => absurd x.1 (by decide))]
  · rw [if_neg d, Option.bind_some]
    dsimp only
    rw [if_neg (by decide), impl_SlacksOf.j0, if_pos rfl, if_neg (fun x => d x.2)]

theorem eqInt64S_l0 (a b : List Int) (hab : a.length = b.length) (hl : a.length ≤ 1048576) : ∀ (d i k : Nat), i + d = a.length → d < k → laws_eqInt64S.l0 k a b (i : Int) = some (decide (a.drop i = b.drop i)) := by
  intro d
  induction d with
  | zero =>
    intro i k hi hk
    obtain ⟨k, rfl⟩ : ∃ m, k = m + 1 := ⟨k - 1, by omega⟩
    simp only [laws_eqInt64S.l0]
    rw [if_neg (by omega), List.drop_eq_nil_of_le (by omega), List.drop_eq_nil_of_le (by omega)]
    simp
  | succ d ih =>
    intro i k hi hk
    obtain ⟨k, rfl⟩ : ∃ m, k = m + 1 := ⟨k - 1, by omega⟩
    have ha : a.drop i = rd a (i : Int) :: a.drop (i + 1) := by
      rw [drop_getD 0 a i (by omega)]; simp [rd]
    have hb : b.drop i = rd b (i : Int) :: b.drop (i + 1) := by
      rw [drop_getD 0 b i (by omega)]; simp [rd]
    simp only [laws_eqInt64S.l0]
    rw [if_pos (by omega), if_pos (by omega), if_pos (by omega), ha, hb]
    by_cases e : rd a (i : Int) = rd b (i : Int)
    · rw [if_pos e, wrap_nat i (by omega), ih (i + 1) k (by omega) (by omega)]
      simp [e]
    · rw [if_neg e]
      simp [e]
theorem eqInt64S_eq (a b : List Int) (hl : a.length ≤ 1048576) (k : Nat) (hk : a.length < k) : laws_eqInt64S.f k a b = some (decide (a = b)) := by
  unfold laws_eqInt64S.f
  by_cases h : a.length = b.length
  · rw [if_pos (by omega)]
    have := eqInt64S_l0 a b h hl a.length 0 k (by omega) hk
    simpa using this
  · rw [if_neg (by omega)]
    have : a ≠ b := fun e => h (by rw [e])
    simp [this]

def marks64 (m : Int) (n : Nat) : List Int := (List.range n).map (fun (j : Nat) => m + (j : Int))
theorem marks64_length (m : Int) (n : Nat) : (marks64 m n).length = n := by simp [marks64]
theorem markInt64S_l0 (m : Int) (h0 : 0 ≤ m) (h1 : m ≤ 4194304) (g : List Int) (hl : g.length ≤ 1048576) : ∀ (d i k : Nat), i + d = g.length → d < k → laws_markInt64S.l0 k ((marks64 m g.length).take i ++ g.drop i) (m + (i : Int)) (i : Int) = some (m + (g.length : Int), marks64 m g.length) := by
  intro d
  induction d with
  | zero =>
    intro i k hi hk
    obtain ⟨k, rfl⟩ : ∃ m, k = m + 1 := ⟨k - 1, by omega⟩
    obtain rfl : i = g.length := by omega
    simp only [laws_markInt64S.l0]
    rw [List.drop_eq_nil_of_le (Nat.le_refl _), List.take_of_length_le (by rw [marks64_length]; omega), List.append_nil, if_neg (by rw [marks64_length]; omega)]
  | succ d ih =>
    intro i k hi hk
    obtain ⟨k, rfl⟩ : ∃ m, k = m + 1 := ⟨k - 1, by omega⟩
    have hlen : (((marks64 m g.length).take i ++ g.drop i).length : Int) = g.length := by simp [marks64_length]; omega
    have hstep := set_drop ((marks64 m g.length).take i) g i (m + (i : Int)) (by simp [marks64_length]; omega) (by omega)
    have hg : (marks64 m g.length).getD i 0 = m + (i : Int) := getD_range_map 0 _ _ _ (by omega)
    rw [← hg, ← take_getD 0 (marks64 m g.length) i (by rw [marks64_length]; omega), hg] at hstep
    simp only [laws_markInt64S.l0]
    rw [if_pos (by rw [hlen]; omega), if_pos (by omega), wrap_nat i (by omega), Int.toNat_natCast, wrap64_id _ (by omega) (by omega), hstep]
    have := ih (i + 1) k (by omega) (by omega)
    rw [show m + ((i + 1 : Nat) : Int) = m + (i : Int) + 1 by omega] at this
    exact this
theorem markInt64S_eq (m : Int) (h0 : 0 ≤ m) (h1 : m ≤ 4194304) (g : List Int) (hl : g.length ≤ 1048576) (k : Nat) (hk : g.length < k) : laws_markInt64S.f k g m = some (m + (g.length : Int), marks64 m g.length) := by
  unfold laws_markInt64S.f
  have := markInt64S_l0 m h0 h1 g hl g.length 0 k (by omega) hk
  simpa using this
theorem heldInt64S_l0 (m : Int) (h0 : 0 ≤ m) (h1 : m ≤ 4194304) (n : Nat) (hl : n ≤ 1048576) : ∀ (d i k : Nat), i + d = n → d < k → laws_heldInt64S.l0 k (marks64 m n) (m + (i : Int)) (i : Int) = some (m + (n : Int)) := by
  intro d
  induction d with
  | zero =>
    intro i k hi hk
    obtain ⟨k, rfl⟩ : ∃ m, k = m + 1 := ⟨k - 1, by omega⟩
    obtain rfl : i = n := by omega
    simp only [laws_heldInt64S.l0]
    rw [if_neg (by rw [marks64_length]; omega)]
  | succ d ih =>
    intro i k hi hk
    obtain ⟨k, rfl⟩ : ∃ m, k = m + 1 := ⟨k - 1, by omega⟩
    have hg : rd (marks64 m n) (i : Int) = m + (i : Int) := by
      rw [rd_nat]; exact getD_range_map 0 _ _ _ (by omega)
    simp only [laws_heldInt64S.l0]
    rw [if_pos (by rw [marks64_length]; omega), if_pos (by omega), if_pos hg, wrap_nat i (by omega), wrap64_id _ (by omega) (by omega)]
    have := ih (i + 1) k (by omega) (by omega)
    rw [show m + ((i + 1 : Nat) : Int) = m + (i : Int) + 1 by omega] at this
    exact this
theorem heldInt64S_eq (m : Int) (h0 : 0 ≤ m) (h1 : m ≤ 4194304) (n : Nat) (hl : n ≤ 1048576) (k : Nat) (hk : n < k) : laws_heldInt64S.f k (marks64 m n) m = some (m + (n : Int)) := by
  unfold laws_heldInt64S.f
  have := heldInt64S_l0 m h0 h1 n hl n 0 k (by omega) hk
  simpa using this

theorem markHold_rng (m : List S65) (hl : m.length ≤ 1048576) : ∀ (d i k : Nat) (x : List S65) (a : Int), x.length = m.length → i + d = m.length → d < k → 0 ≤ a → a ≤ 8388608 + 2 * (i : Int) → ∃ v, laws_markHoldS.l0 k x a (i : Int) = some v ∧ 0 ≤ v.1 ∧ v.1 ≤ a + 2 * (d : Int) := by
  intro d
  induction d with
  | zero =>
    intro i k x a hx hi hk ha _
    obtain ⟨k, rfl⟩ : ∃ m, k = m + 1 := ⟨k - 1, by omega⟩
    simp only [laws_markHoldS.l0]
    rw [if_neg (by omega)]
    exact ⟨_, rfl, ha, by show a ≤ _; omega⟩
  | succ d ih =>
    intro i k x a hx hi hk ha h3
    obtain ⟨k, rfl⟩ : ∃ m, k = m + 1 := ⟨k - 1, by omega⟩
    simp only [laws_markHoldS.l0, Option.bind_some]
    rw [if_pos (by omega), if_pos (by omega), wrap_nat i (by omega)]
    have w1 : wrap64 (a + 1) = a + 1 := wrap64_id _ (by omega) (by omega)
    have w2 : wrap64 (a + 1 + 1) = a + 1 + 1 := wrap64_id _ (by omega) (by omega)
    rw [w1, w2]
    have hgen : ∀ x' : List S65, x'.length = m.length → ∃ v, laws_markHoldS.l0 k x' (a + 1 + 1) ((i + 1 : Nat) : Int) = some v ∧ 0 ≤ v.1 ∧ v.1 ≤ a + 2 * ((d + 1 : Nat) : Int) := fun x' hx' => by
      obtain ⟨v, e1, e2, e3⟩ := ih (i + 1) k x' (a + 1 + 1) hx' (by omega) (by omega) (by omega) (by omega)
      exact ⟨v, e1, e2, by omega⟩
    exact hgen _ (by simp [hx])
theorem markHold_any (m : List S65) (hl : m.length ≤ 1048576) (a : Int) (h0 : 0 ≤ a) (h1 : a ≤ 8388608) (k : Nat) (hk : m.length < k) : ∃ v, laws_markHoldS.f k m a = some v ∧ 0 ≤ v.1 ∧ v.1 ≤ a + 2 * (m.length : Int) := by
  unfold laws_markHoldS.f
  exact markHold_rng m hl m.length 0 k m a rfl (by omega) hk h0 (by omega)
theorem markSpot_rng (m : List S62) (hl : m.length ≤ 1048576) : ∀ (d i k : Nat) (x : List S62) (a : Int), x.length = m.length → i + d = m.length → d < k → 0 ≤ a → a ≤ 8388608 + 2 * (i : Int) → ∃ v, laws_markSpotS.l0 k x a (i : Int) = some v ∧ 0 ≤ v.1 ∧ v.1 ≤ a + 2 * (d : Int) := by
  intro d
  induction d with
  | zero =>
    intro i k x a hx hi hk ha _
    obtain ⟨k, rfl⟩ : ∃ m, k = m + 1 := ⟨k - 1, by omega⟩
    simp only [laws_markSpotS.l0]
    rw [if_neg (by omega)]
    exact ⟨_, rfl, ha, by show a ≤ _; omega⟩
  | succ d ih =>
    intro i k x a hx hi hk ha h3
    obtain ⟨k, rfl⟩ : ∃ m, k = m + 1 := ⟨k - 1, by omega⟩
    simp only [laws_markSpotS.l0, Option.bind_some]
    rw [if_pos (by omega), if_pos (by omega), wrap_nat i (by omega)]
    have w1 : wrap64 (a + 1) = a + 1 := wrap64_id _ (by omega) (by omega)
    have w2 : wrap64 (a + 1 + 1) = a + 1 + 1 := wrap64_id _ (by omega) (by omega)
    rw [w1, w2]
    have hgen : ∀ x' : List S62, x'.length = m.length → ∃ v, laws_markSpotS.l0 k x' (a + 1 + 1) ((i + 1 : Nat) : Int) = some v ∧ 0 ≤ v.1 ∧ v.1 ≤ a + 2 * ((d + 1 : Nat) : Int) := fun x' hx' => by
      obtain ⟨v, e1, e2, e3⟩ := ih (i + 1) k x' (a + 1 + 1) hx' (by omega) (by omega) (by omega) (by omega)
      exact ⟨v, e1, e2, by omega⟩
    exact hgen _ (by simp [hx])
theorem markSpot_any (m : List S62) (hl : m.length ≤ 1048576) (a : Int) (h0 : 0 ≤ a) (h1 : a ≤ 8388608) (k : Nat) (hk : m.length < k) : ∃ v, laws_markSpotS.f k m a = some v ∧ 0 ≤ v.1 ∧ v.1 ≤ a + 2 * (m.length : Int) := by
  unfold laws_markSpotS.f
  exact markSpot_rng m hl m.length 0 k m a rfl (by omega) hk h0 (by omega)
theorem main : laws_FnExactSlacksOf.Pure := by
  intro w h u0 u1 u2 u3 u4 u5 u6 u7 u8 u9 p kn l2 l3 ww wh z0 z1 z2 z3 z4 z5 z6 z7 z8 z9 zp hkn hl2 hl3
  have iw := wf_i8 ww
  have ih := wf_i8 wh
  have r0 := wf_u16 z0
  have r1 := wf_u16 z1
  have r2 := wf_u16 z2
  have r3 := wf_u16 z3
  have r4 := wf_u16 z4
  have r5 := wf_u16 z5
  have r6 := wf_u16 z6
  have r7 := wf_u16 z7
  have r8 := wf_u16 z8
  have r9 := wf_u16 z9
  have hp := wf_i16 zp
  refine rounds_of 1200000000000 fun k hk => ?_
  unfold laws_FnExactSlacksOf.f
  rw [szRope_eq p kn 1048576 (by decide) (by decide) hkn.1, Option.bind_some]
  by_cases n1 : (1048576 : Int) < (kn.length : Int)
  · rw [if_pos n1, if_pos (by decide)]
  rw [if_neg n1, if_neg (by omega), szHoldS_eq l2 _ (by omega) (by omega) hl2.1, Option.bind_some]
  by_cases n2 : (1048576 : Int) - (kn.length : Int) < (l2.length : Int)
  · rw [if_pos n2, if_pos (by decide)]
  rw [if_neg n2, if_neg (by omega), szSpotS_eq l3 _ (by omega) (by omega) hl3.1, Option.bind_some]
  by_cases n3 : (1048576 : Int) - (kn.length : Int) - (l2.length : Int) < (l3.length : Int)
  · rw [if_pos n3, if_pos (by decide)]
  rw [if_neg n3, if_neg (by omega)]
  have hq2 : (l2.map cvHold).length ≤ 1048576 := by rw [List.length_map]; omega
  have hq3 : (l3.map cvSpot).length ≤ 1048576 := by rw [List.length_map]; omega
  have hr2 : ∀ x ∈ l2.map cvHold, holdR x := by
    intro x hx
    obtain ⟨y, hy, rfl⟩ := List.mem_map.1 hx
    obtain ⟨h1, h2⟩ := hl2.2 y hy
    exact ⟨wf_i16 h1, wf_i8 h2⟩
  have hr3 : ∀ s ∈ l3.map cvSpot, spotR s := by
    intro s hs
    obtain ⟨x, hx, rfl⟩ := List.mem_map.1 hs
    obtain ⟨h1, h2⟩ := hl3.2 x hx
    exact ⟨wf_i8 h1, wf_i8 h2⟩
  rw [toRoom_eq w h u0 u1 u2 u3 u4 u5 u6 u7 u8 u9 k (by omega), toRope_eq p kn (by omega) k (by omega), toHoldS_eq l2 (by omega) k (by omega), toSpotS_eq l3 (by omega) k (by omega)]
  simp only [Option.bind_some]
  have hg2l : (l2.map cvHold).length = l2.length := List.length_map _
  generalize hg2 : l2.map cvHold = s2 at hq2 hr2 hg2l
  have hg3l : (l3.map cvSpot).length = l3.length := List.length_map _
  generalize hg3 : l3.map cvSpot = s3 at hq3 hr3 hg3l
  have e2 : ∀ k, 1100000000010 < k → impl_SlacksOf.f k w h u0 u1 u2 u3 u4 u5 u6 u7 u8 u9 p kn s2 s3 = some (slackR w h [u0, u1, u2, u3, u4, u5, u6, u7, u8, u9] p kn s2 s3) := fun k hk => implSlack_eq w h u0 u1 u2 u3 u4 u5 u6 u7 u8 u9 iw ih r0 r1 r2 r3 r4 r5 r6 r7 r8 r9 p hp kn s2 s3 (by omega) hq2 hq3 hr2 hr3 k hk
  rw [specSlack_eq w h u0 u1 u2 u3 u4 u5 u6 u7 u8 u9 iw ih r0 r1 r2 r3 r4 r5 r6 r7 r8 r9 p hp kn s2 s3 (by omega) hq2 hq3 hr2 hr3 k (by omega), e2 k (by omega)]
  simp only [Option.bind_some]
  have hRl := slackR_len w h [u0, u1, u2, u3, u4, u5, u6, u7, u8, u9] p kn s2 s3
  generalize slackR w h [u0, u1, u2, u3, u4, u5, u6, u7, u8, u9] p kn s2 s3 = Q at hRl e2
  obtain ⟨V, c⟩ := Q
  have hV : V.length ≤ 1048576 := by have : V.length ≤ s3.length := hRl; omega
  rw [eqInt64S_eq V V hV k (by omega)]
  simp only [Option.bind_some, decide_true, if_true]
  obtain ⟨k, rfl⟩ : ∃ m, k = m + 3 := ⟨k - 3, by omega⟩
  obtain ⟨v2, hv2, hv20, hv21⟩ := markHold_any s2 hq2 (1 + (kn.length : Int)) (by omega) (by omega) (k + 2) (by omega)
  simp only [laws_FnExactSlacksOf.j0]
  rw [if_neg (by simp), toRope_eq p kn (by omega) _ (by omega)]
  simp only [Option.bind_some]
  rw [eqRope_eq p kn p kn (by omega) _ (by omega)]
  simp only [Option.bind_some, and_self, decide_true, if_true]
  rw [toHoldS_eq l2 (by omega) _ (by omega), hg2]
  simp only [Option.bind_some]
  rw [eqHoldS_eq s2 s2 hq2 _ (by omega)]
  simp only [Option.bind_some, decide_true, if_true]
  rw [toSpotS_eq l3 (by omega) _ (by omega), hg3]
  simp only [Option.bind_some]
  rw [eqSpotS_eq s3 s3 hq3 _ (by omega)]
  simp only [Option.bind_some, decide_true, if_true]
  rw [markRope_eq 1 (by decide) (by decide) p kn (by omega) _ (by omega)]
  simp only [Option.bind_some]
  rw [hv2]
  simp only [Option.bind_some]
  obtain ⟨v3, hv3, hv30, _⟩ := markSpot_any s3 hq3 v2.1 hv20 (by omega) (k + 2) (by omega)
  rw [hv3]
  simp only [Option.bind_some]
  rw [if_neg (by omega), eqInt64S_eq V V hV _ (by omega)]
  simp only [Option.bind_some, decide_true, if_true, laws_FnExactSlacksOf.j1]
  rw [if_neg (by simp), markInt64S_eq 1 (by decide) (by decide) V hV _ (by omega)]
  simp only [Option.bind_some]
  rw [heldInt64S_eq 1 (by decide) (by decide) V.length hV _ (by omega)]
  simp only [Option.bind_some]
  rw [if_neg (by omega), if_pos trivial, toRoom_eq w h u0 u1 u2 u3 u4 u5 u6 u7 u8 u9 _ (by omega), toRope_eq p kn (by omega) _ (by omega), toHoldS_eq l2 (by omega) _ (by omega), hg2, toSpotS_eq l3 (by omega) _ (by omega), hg3]
  simp only [Option.bind_some]
  rw [e2 _ (by omega)]
  simp only [Option.bind_some]
  rw [eqInt64S_eq V V hV _ (by omega)]
  simp only [Option.bind_some, decide_true, if_true, laws_FnExactSlacksOf.j2]
  rw [if_neg (by simp), heldInt64S_eq 1 (by decide) (by decide) V.length hV _ (by omega)]
  simp only [Option.bind_some]
  rw [if_neg (by omega), if_pos trivial]

end Go.Proofs.Ytooidjdgfoioiaa.PureFnExactSlacksOf
namespace Go.Proofs.Ytooidjdgfoioiaa.Pure
theorem FnExactSlacksOf : Go.Proofs.Ytooidjdgfoioiaa.P.laws_FnExactSlacksOf.Pure := Go.Proofs.Ytooidjdgfoioiaa.PureFnExactSlacksOf.main
end Go.Proofs.Ytooidjdgfoioiaa.Pure
