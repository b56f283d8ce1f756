-- Printed by wip/print (my turned copy of the kit's print) out of the translation; Lean checks it.
import Derived.Test.YtooidjdgfoioiaaP0
import Derived.Test.YtooidjdgfoioiaaP2
import Derived.Test.YtooidjdgfoioiaaP3
import Derived.Test.YtooidjdgfoioiaaP6
namespace Go.Proofs.Ytooidjdgfoioiaa.P
open Go.RowKit Go.Proofs.YtooidjdgfoioiaaW.PrintWords Go.Proofs.YtooidjdgfoioiaaW.PrintLast Go.Proofs.YtooidjdgfoioiaaW.PrintMore
attribute [local go_sem] max2_int min2_int max_two min_two max_three min_three max_four min_four   -- for this text's walks alone
set_option linter.unusedVariables false
set_option linter.unusedSimpArgs false

/-! ### spec_RopeFor: function 8 -/
mutual
def spec_RopeFor.j0 : Nat → List (S62) → Bool → Int → Int → Int → Int → Int → Int → Int → Int → Int → Int → Int → Int → Option (Int × List Int × Int)
  | 0, _, _, _, _, _, _, _, _, _, _, _, _, _, _ => none
  | k + 1, x1, x28, x159000, x159001, x159002, x159003, x159004, x159005, x159006, x159007, x159008, x159009, x159010, x159011 => if x28 = true then (some (0, ([] : List Int), 2)) else (spec_RopeFor.l0 k x1 false 0 (([0] : List Int)) 1 x159000 x159001 x159002 x159003 x159004 x159005 x159006 x159007 x159008 x159009 x159010 x159011)
def spec_RopeFor.l0 : Nat → List (S62) → Bool → Int → List Int → Int → Int → Int → Int → Int → Int → Int → Int → Int → Int → Int → Int → Int → Option (Int × List Int × Int)
  | 0, _, _, _, _, _, _, _, _, _, _, _, _, _, _, _, _, _ => none
  | k + 1, x1, x6, x7, x8, x9, x159000, x159001, x159002, x159003, x159004, x159005, x159006, x159007, x159008, x159009, x159010, x159011 => if x9 < (x1.length : Int) then (if 0 ≤ (wrap64 (x9 - 1)) then (if (wrap64 (x9 - 1)) < (x1.length : Int) then (if 0 ≤ x9 then ((spec_StepsBetween.f k x159000 x159001 x159002 x159003 x159004 x159005 x159006 x159007 x159008 x159009 x159010 x159011 ((rd_T62 x1 (wrap64 (x9 - 1))).f0) ((rd_T62 x1 (wrap64 (x9 - 1))).f1) ((rd_T62 x1 x9).f0) ((rd_T62 x1 x9).f1)).bind fun bt167 => (if bt167.2 = 0 then (if x6 = true then (if x8.length < 17592186044416 then (spec_RopeFor.l0 k x1 true (wrap64 (x7 + bt167.1)) (x8 ++ [wrap64 (x7 + bt167.1)]) (wrap64 (x9 + 1)) x159000 x159001 x159002 x159003 x159004 x159005 x159006 x159007 x159008 x159009 x159010 x159011) else (none)) else (if x8.length < 17592186044416 then (spec_RopeFor.l0 k x1 (bt167.1 == 0) (wrap64 (x7 + bt167.1)) (x8 ++ [wrap64 (x7 + bt167.1)]) (wrap64 (x9 + 1)) x159000 x159001 x159002 x159003 x159004 x159005 x159006 x159007 x159008 x159009 x159010 x159011) else (none))) else (some (0, ([] : List Int), bt167.2)))) else (none)) else (none)) else (none)) else (if x6 = true then (some (0, ([] : List Int), 4)) else (if x7 > 400 then (some (0, ([] : List Int), 3)) else (spec_RopeFor.l1 k x8 0 (IntKind.i16.wrap (x7)) ([] : List Int))))
def spec_RopeFor.l1 : Nat → List Int → Int → Int → List Int → Option (Int × List Int × Int)
  | 0, _, _, _, _ => none
  | k + 1, x8, x13, x176000, x176001 => if x13 < (x8.length : Int) then (if 0 ≤ x13 then (if x176001.length < 70368744177664 then (spec_RopeFor.l1 k x8 (wrap64 (x13 + 1)) x176000 (x176001 ++ [IntKind.i16.wrap (rd x8 x13)])) else (none)) else (none)) else (some (x176000, x176001, 0))
end
def spec_RopeFor.f (k : Nat) (a0_0 : Int) (a0_1 : Int) (a0_2 : Int) (a0_3 : Int) (a0_4 : Int) (a0_5 : Int) (a0_6 : Int) (a0_7 : Int) (a0_8 : Int) (a0_9 : Int) (a0_10 : Int) (a0_11 : Int) (l1 : List (S62)) : Option (Int × List Int × Int) := (spec_l01Ok.f k a0_0 a0_1 a0_2 a0_3 a0_4 a0_5 a0_6 a0_7 a0_8 a0_9 a0_10 a0_11).bind fun t160 => (if t160 = true then (if (l1.length : Int) > 40 then (some (0, ([] : List Int), 3)) else (if (l1.length : Int) < 2 then (spec_RopeFor.j0 k l1 true a0_0 a0_1 a0_2 a0_3 a0_4 a0_5 a0_6 a0_7 a0_8 a0_9 a0_10 a0_11) else ((spec_l03Cells.f k a0_0 a0_1 a0_2 a0_3 a0_4 a0_5 a0_6 a0_7 a0_8 a0_9 a0_10 a0_11 l1).bind fun t161 => (spec_RopeFor.j0 k l1 (!t161) a0_0 a0_1 a0_2 a0_3 a0_4 a0_5 a0_6 a0_7 a0_8 a0_9 a0_10 a0_11)))) else (some (0, ([] : List Int), 1)))
theorem spec_RopeFor.mono_l : ∀ k, (∀ y0 y1 y2 y3 y4 y5 y6 y7 y8 y9 y10 y11 y12 y13, LeO (spec_RopeFor.j0 k y0 y1 y2 y3 y4 y5 y6 y7 y8 y9 y10 y11 y12 y13) (spec_RopeFor.j0 (k + 1) y0 y1 y2 y3 y4 y5 y6 y7 y8 y9 y10 y11 y12 y13)) ∧ (∀ y0 y1 y2 y3 y4 y5 y6 y7 y8 y9 y10 y11 y12 y13 y14 y15 y16, LeO (spec_RopeFor.l0 k y0 y1 y2 y3 y4 y5 y6 y7 y8 y9 y10 y11 y12 y13 y14 y15 y16) (spec_RopeFor.l0 (k + 1) y0 y1 y2 y3 y4 y5 y6 y7 y8 y9 y10 y11 y12 y13 y14 y15 y16)) ∧ (∀ y0 y1 y2 y3, LeO (spec_RopeFor.l1 k y0 y1 y2 y3) (spec_RopeFor.l1 (k + 1) y0 y1 y2 y3))
  | 0 => ⟨fun _ _ _ _ _ _ _ _ _ _ _ _ _ _ r h => by simp [spec_RopeFor.j0] at h, fun _ _ _ _ _ _ _ _ _ _ _ _ _ _ _ _ _ r h => by simp [spec_RopeFor.l0] at h, fun _ _ _ _ r h => by simp [spec_RopeFor.l1] at h⟩
  | k + 1 => by
    obtain ⟨ih0, ih1, ih2⟩ := spec_RopeFor.mono_l k
    refine ⟨?_, ?_, ?_⟩
    · intro y0 y1 y2 y3 y4 y5 y6 y7 y8 y9 y10 y11 y12 y13
      unfold spec_RopeFor.j0
      repeat' first
      | (with_reducible exact ih0 _ _ _ _ _ _ _ _ _ _ _ _ _ _)
      | (with_reducible exact ih1 _ _ _ _ _ _ _ _ _ _ _ _ _ _ _ _ _)
      | (with_reducible exact ih2 _ _ _ _)
      | (with_reducible exact spec_StepsBetween.mono _ _ _ _ _ _ _ _ _ _ _ _ _ _ _ _ _)
      | (with_reducible exact spec_l01Ok.mono _ _ _ _ _ _ _ _ _ _ _ _ _)
      | (with_reducible exact spec_l03Cells.mono _ _ _ _ _ _ _ _ _ _ _ _ _ _)
      | (with_reducible exact LeO.refl _)
      | (with_reducible exact LeO.none _)
      | (with_reducible refine LeO.ite ?_ ?_)
      | (with_reducible refine LeO.bind ?_ (fun _ => ?_))
      | exact ih0 _ _ _ _ _ _ _ _ _ _ _ _ _ _
      | exact ih1 _ _ _ _ _ _ _ _ _ _ _ _ _ _ _ _ _
      | exact ih2 _ _ _ _
      | exact spec_StepsBetween.mono _ _ _ _ _ _ _ _ _ _ _ _ _ _ _ _ _
      | exact spec_l01Ok.mono _ _ _ _ _ _ _ _ _ _ _ _ _
      | exact spec_l03Cells.mono _ _ _ _ _ _ _ _ _ _ _ _ _ _
      | exact LeO.none _
      | refine LeO.ite ?_ ?_
      | refine LeO.bind ?_ (fun _ => ?_)
    · intro y0 y1 y2 y3 y4 y5 y6 y7 y8 y9 y10 y11 y12 y13 y14 y15 y16
      unfold spec_RopeFor.l0
      repeat' first
      | (with_reducible exact ih0 _ _ _ _ _ _ _ _ _ _ _ _ _ _)
      | (with_reducible exact ih1 _ _ _ _ _ _ _ _ _ _ _ _ _ _ _ _ _)
      | (with_reducible exact ih2 _ _ _ _)
      | (with_reducible exact spec_StepsBetween.mono _ _ _ _ _ _ _ _ _ _ _ _ _ _ _ _ _)
      | (with_reducible exact spec_l01Ok.mono _ _ _ _ _ _ _ _ _ _ _ _ _)
      | (with_reducible exact spec_l03Cells.mono _ _ _ _ _ _ _ _ _ _ _ _ _ _)
      | (with_reducible exact LeO.refl _)
      | (with_reducible exact LeO.none _)
      | (with_reducible refine LeO.ite ?_ ?_)
      | (with_reducible refine LeO.bind ?_ (fun _ => ?_))
      | exact ih0 _ _ _ _ _ _ _ _ _ _ _ _ _ _
      | exact ih1 _ _ _ _ _ _ _ _ _ _ _ _ _ _ _ _ _
      | exact ih2 _ _ _ _
      | exact spec_StepsBetween.mono _ _ _ _ _ _ _ _ _ _ _ _ _ _ _ _ _
      | exact spec_l01Ok.mono _ _ _ _ _ _ _ _ _ _ _ _ _
      | exact spec_l03Cells.mono _ _ _ _ _ _ _ _ _ _ _ _ _ _
      | exact LeO.none _
      | refine LeO.ite ?_ ?_
      | refine LeO.bind ?_ (fun _ => ?_)
    · intro y0 y1 y2 y3
      unfold spec_RopeFor.l1
      repeat' first
      | (with_reducible exact ih0 _ _ _ _ _ _ _ _ _ _ _ _ _ _)
      | (with_reducible exact ih1 _ _ _ _ _ _ _ _ _ _ _ _ _ _ _ _ _)
      | (with_reducible exact ih2 _ _ _ _)
      | (with_reducible exact spec_StepsBetween.mono _ _ _ _ _ _ _ _ _ _ _ _ _ _ _ _ _)
      | (with_reducible exact spec_l01Ok.mono _ _ _ _ _ _ _ _ _ _ _ _ _)
      | (with_reducible exact spec_l03Cells.mono _ _ _ _ _ _ _ _ _ _ _ _ _ _)
      | (with_reducible exact LeO.refl _)
      | (with_reducible exact LeO.none _)
      | (with_reducible refine LeO.ite ?_ ?_)
      | (with_reducible refine LeO.bind ?_ (fun _ => ?_))
      | exact ih0 _ _ _ _ _ _ _ _ _ _ _ _ _ _
      | exact ih1 _ _ _ _ _ _ _ _ _ _ _ _ _ _ _ _ _
      | exact ih2 _ _ _ _
      | exact spec_StepsBetween.mono _ _ _ _ _ _ _ _ _ _ _ _ _ _ _ _ _
      | exact spec_l01Ok.mono _ _ _ _ _ _ _ _ _ _ _ _ _
      | exact spec_l03Cells.mono _ _ _ _ _ _ _ _ _ _ _ _ _ _
      | exact LeO.none _
      | refine LeO.ite ?_ ?_
      | refine LeO.bind ?_ (fun _ => ?_)
theorem spec_RopeFor.mono : ∀ a0 a1 a2 a3 a4 a5 a6 a7 a8 a9 a10 a11 a12 k, LeO (spec_RopeFor.f k a0 a1 a2 a3 a4 a5 a6 a7 a8 a9 a10 a11 a12) (spec_RopeFor.f (k + 1) a0 a1 a2 a3 a4 a5 a6 a7 a8 a9 a10 a11 a12) := by
  intro a0 a1 a2 a3 a4 a5 a6 a7 a8 a9 a10 a11 a12 k
  obtain ⟨ih0, ih1, ih2⟩ := spec_RopeFor.mono_l k
  unfold spec_RopeFor.f
  repeat' first
      | (with_reducible exact ih0 _ _ _ _ _ _ _ _ _ _ _ _ _ _)
      | (with_reducible exact ih1 _ _ _ _ _ _ _ _ _ _ _ _ _ _ _ _ _)
      | (with_reducible exact ih2 _ _ _ _)
      | (with_reducible exact spec_StepsBetween.mono _ _ _ _ _ _ _ _ _ _ _ _ _ _ _ _ _)
      | (with_reducible exact spec_l01Ok.mono _ _ _ _ _ _ _ _ _ _ _ _ _)
      | (with_reducible exact spec_l03Cells.mono _ _ _ _ _ _ _ _ _ _ _ _ _ _)
      | (with_reducible exact LeO.refl _)
      | (with_reducible exact LeO.none _)
      | (with_reducible refine LeO.ite ?_ ?_)
      | (with_reducible refine LeO.bind ?_ (fun _ => ?_))
      | exact ih0 _ _ _ _ _ _ _ _ _ _ _ _ _ _
      | exact ih1 _ _ _ _ _ _ _ _ _ _ _ _ _ _ _ _ _
      | exact ih2 _ _ _ _
      | exact spec_StepsBetween.mono _ _ _ _ _ _ _ _ _ _ _ _ _ _ _ _ _
      | exact spec_l01Ok.mono _ _ _ _ _ _ _ _ _ _ _ _ _
      | exact spec_l03Cells.mono _ _ _ _ _ _ _ _ _ _ _ _ _ _
      | exact LeO.none _
      | refine LeO.ite ?_ ?_
      | refine LeO.bind ?_ (fun _ => ?_)
def spec_RopeFor.T13 : Bool × List (List Nat × List Nat) := (true, [([], []), ([], []), ([], []), ([2], [2]), ([1, 3], [1, 3]), ([4], [4]), ([], []), ([], []), ([6, 7], [6, 7]), ([8], [8]), ([0, 5, 9], [0, 5, 9]), ([10], [10]), ([11], [11]), ([11], [11]), ([12, 10, 0, 1, 2, 3, 4, 5, 6, 7, 8, 9, 10, 11, 12], [12]), ([13, 14, 0, 1, 2, 3, 4, 5, 6, 7, 8, 9, 10, 11, 12, 13, 14], [13])])
def spec_RopeFor.B13 : List Nat := [0, 0, 0, 4, 14, 30, 0, 0, 192, 448, 1023, 2047, 4095, 4095, 8191, 32767]
theorem spec_RopeFor.tab13 : rtab .any (opsOf Try.f8 13) = spec_RopeFor.T13 := by kernel_rfl
theorem spec_RopeFor.bits13 : waitsOk spec_RopeFor.T13.2 spec_RopeFor.B13 = true := by kernel_rfl
def spec_RopeFor.T27 : Bool × List (List Nat × List Nat) := (true, [([], []), ([0], [0]), ([], []), ([], []), ([2, 3], [2, 3]), ([4], [4]), ([5], [5]), ([6], [6]), ([1, 7], [1, 7]), ([0, 1, 2, 3, 4, 5, 6, 7, 8], []), ([9, 8, 8, 0, 1, 2, 3, 4, 5, 6, 7, 8], [8, 9])])
def spec_RopeFor.B27 : List Nat := [0, 1, 0, 0, 12, 28, 60, 124, 255, 511, 1023]
theorem spec_RopeFor.tab27 : rtab .any (opsOf Try.f8 27) = spec_RopeFor.T27 := by kernel_rfl
theorem spec_RopeFor.bits27 : waitsOk spec_RopeFor.T27.2 spec_RopeFor.B27 = true := by kernel_rfl
set_option maxHeartbeats 8000000 in
set_option maxRecDepth 100000 in
theorem spec_RopeFor.calls (k : Nat) (a0_0 : Int) (a0_1 : Int) (a0_2 : Int) (a0_3 : Int) (a0_4 : Int) (a0_5 : Int) (a0_6 : Int) (a0_7 : Int) (a0_8 : Int) (a0_9 : Int) (a0_10 : Int) (a0_11 : Int) (A1 : Option Addr) (c1 : Nat) (l1 : List (S62)) (r1 : Int) (r2 : List Int) (r3 : Int) (w : World) (hr1 : Kd.C k62 w A1 l1.length l1) (hc1 : l1.length ≤ c1) (h : spec_RopeFor.f k a0_0 a0_1 a0_2 a0_3 a0_4 a0_5 a0_6 a0_7 a0_8 a0_9 a0_10 a0_11 l1 = some (r1, r2, r3)) :
    Calls Try.prog 8 #[.agg #[.int .i8 a0_0, .int .i8 a0_1, .int .u16 a0_2, .int .u16 a0_3, .int .u16 a0_4, .int .u16 a0_5, .int .u16 a0_6, .int .u16 a0_7, .int .u16 a0_8, .int .u16 a0_9, .int .u16 a0_10, .int .u16 a0_11], .slice A1 l1.length c1] w fun e w' => ∃ v1_ : Value, e = .returned (.tuple #[.agg #[.int .i16 r1, v1_], .int .i64 r3]) ∧ Kd.R (Kd.int .i16) 29 w' w.heap.size (fun _ => True) v1_ r2 ∧ Below w.heap.size w w' := by
 have hu35 := Try.underlying35
 have hu32 := Try.underlying32
 have hu62 := Try.underlying62
 have HR1 := ak hr1
 have HC1 := ak hc1
 clear hr1 hc1
 have HB := ak (Below.refl w.heap.size w)
 have H : ((spec_l01Ok.f k a0_0 a0_1 a0_2 a0_3 a0_4 a0_5 a0_6 a0_7 a0_8 a0_9 a0_10 a0_11).bind fun t160 => (if t160 = true then (if (l1.length : Int) > 40 then (some (0, ([] : List Int), 3)) else (if (l1.length : Int) < 2 then (spec_RopeFor.j0 k l1 true a0_0 a0_1 a0_2 a0_3 a0_4 a0_5 a0_6 a0_7 a0_8 a0_9 a0_10 a0_11) else ((spec_l03Cells.f k a0_0 a0_1 a0_2 a0_3 a0_4 a0_5 a0_6 a0_7 a0_8 a0_9 a0_10 a0_11 l1).bind fun t161 => (spec_RopeFor.j0 k l1 (!t161) a0_0 a0_1 a0_2 a0_3 a0_4 a0_5 a0_6 a0_7 a0_8 a0_9 a0_10 a0_11)))) else (some (0, ([] : List Int), 1)))) = some (r1, r2, r3) := h
 clear h
 replace H := Option.bind_eq_some_iff.mp H
 obtain ⟨t160, A30, H⟩ := H
 replace H : (if t160 = true then (if (l1.length : Int) > 40 then (some (0, ([] : List Int), 3)) else (if (l1.length : Int) < 2 then (spec_RopeFor.j0 k l1 true a0_0 a0_1 a0_2 a0_3 a0_4 a0_5 a0_6 a0_7 a0_8 a0_9 a0_10 a0_11) else ((spec_l03Cells.f k a0_0 a0_1 a0_2 a0_3 a0_4 a0_5 a0_6 a0_7 a0_8 a0_9 a0_10 a0_11 l1).bind fun t161 => (spec_RopeFor.j0 k l1 (!t161) a0_0 a0_1 a0_2 a0_3 a0_4 a0_5 a0_6 a0_7 a0_8 a0_9 a0_10 a0_11)))) else (some (0, ([] : List Int), 1))) = some (r1, r2, r3) := H
 have A3 := ak A30
 clear A30
 by_cases c4 : t160 = true
 {
 subst c4
 have H1 : (if (l1.length : Int) > 40 then (some (0, ([] : List Int), 3)) else (if (l1.length : Int) < 2 then (spec_RopeFor.j0 k l1 true a0_0 a0_1 a0_2 a0_3 a0_4 a0_5 a0_6 a0_7 a0_8 a0_9 a0_10 a0_11) else ((spec_l03Cells.f k a0_0 a0_1 a0_2 a0_3 a0_4 a0_5 a0_6 a0_7 a0_8 a0_9 a0_10 a0_11 l1).bind fun t161 => (spec_RopeFor.j0 k l1 (!t161) a0_0 a0_1 a0_2 a0_3 a0_4 a0_5 a0_6 a0_7 a0_8 a0_9 a0_10 a0_11)))) = some (r1, r2, r3) := by rw [if_pos rfl] at H; exact H
 clear H
 have H := H1
 clear H1
 by_cases c5 : (l1.length : Int) > 40
 {
 rw [if_pos c5] at H
 have c5b0 : decide (40 < (l1.length : Int)) = true := decide_eq_true c5
 have c5b1 : decide (40 < l1.length) = true := decide_eq_true (by omega)
 clear c5
 simp only [Option.some.injEq, Prod.mk.injEq] at H
 obtain ⟨rfl, rfl, rfl⟩ := H
 go_enter Try.func8, Try.ntmps8
 go_wp2_with (first | ((with_reducible refine gate_dst (N := 2) rfl ?_); refine box_event ?hg (N := 2) ?hd (cs := #[.int .i8 a0_0, .int .i8 a0_1, .int .u16 a0_2, .int .u16 a0_3, .int .u16 a0_4, .int .u16 a0_5, .int .u16 a0_6, .int .u16 a0_7, .int .u16 a0_8, .int .u16 a0_9, .int .u16 a0_10, .int .u16 a0_11]) (t := 35) ?hr ?_; (case hd => rfl); (case hg => rfl); (case hr => first | (go_simp; done) | (go_simp; rfl)); intro gb158 hg w6 hbox hb; have BK158 := ak (hbox); have GW158 := ak ((by rw [hg]; exact (below_size (zB HB.out)) : w.heap.size ≤ gb158)); have GE158 := ak ((by rw [hg]; exact (below_size (zB HB.out)) : w.heap.size ≤ gb158)); replace HB := kB HB hb; clear hb hbox hg) | ((with_reducible refine gate_dst (N := 4) rfl ?_); refine box_event ?hg (N := 4) ?hd (cs := #[.int .i16 0, .slice none 0 0]) (t := 32) ?hr ?_; (case hd => rfl); (case hg => rfl); (case hr => first | (go_simp; done) | (go_simp; rfl)); intro gb159 hg w7 hbox hb; have BK159 := ak (hbox); have GW159 := ak ((by rw [hg]; exact (below_size (zBG HB.out GE158.out)) : w.heap.size ≤ gb159)); have GE159 := ak ((by rw [hg]; exact (below_size (zBG HB.out GE158.out)) : w.heap.size ≤ gb159)); have NB158_159 := ak ((by rw [hg]; exact Nat.ne_of_lt (blk_lt (g := gb158) (o := .cells #[.int .i8 a0_0, .int .i8 a0_1, .int .u16 a0_2, .int .u16 a0_3, .int .u16 a0_4, .int .u16 a0_5, .int .u16 a0_6, .int .u16 a0_7, .int .u16 a0_8, .int .u16 a0_9, .int .u16 a0_10, .int .u16 a0_11] 35 (0, 0)) (zK BK158.out)) : gb158 ≠ gb159)); have NB159_158 := ak ((by rw [hg]; exact Nat.ne_of_gt (blk_lt (g := gb158) (o := .cells #[.int .i8 a0_0, .int .i8 a0_1, .int .u16 a0_2, .int .u16 a0_3, .int .u16 a0_4, .int .u16 a0_5, .int .u16 a0_6, .int .u16 a0_7, .int .u16 a0_8, .int .u16 a0_9, .int .u16 a0_10, .int .u16 a0_11] 35 (0, 0)) (zK BK158.out)) : gb159 ≠ gb158)); replace BK158 := kK BK158 hb; replace HB := kB1 HB GE158 hb; clear hb hbox hg) | ((with_reducible refine gate_callee (f := 40) rfl ?_); refine goesL_ (some 14) rfl rfl Try.func40 (by kernel_rfl) rfl #[.pointer (some ⟨gb158, 0, none⟩)] rfl (by (try simp only [List.map_toArray, List.map_cons, List.map_nil]); first | done | rfl | (simp only [List.length_drop, List.length_take]; rfl)) ?_; (with_reducible refine (spec_l01Ok.calls k gb158 a0_0 a0_1 a0_2 a0_3 a0_4 a0_5 a0_6 a0_7 a0_8 a0_9 a0_10 a0_11 true _ ?side1 A3.out).mono ?_); (case side1 => exact (by first | exact BK158.out | ((with_reducible repeat (first | refine blk_drewN ?_ _ | refine blk_drew ?_ | refine blk_alloc ?_ _)); exact BK158.out))); rintro e w' ⟨rfl, ⟨nd, rfl⟩⟩; refine ⟨_, rfl, ?_⟩; (try (rw [drewN_self w7]; generalize hq_ : World.drewN w7 _ = w7; have n0_ : Aside0 (w7.heap[gb158]? = some (.cells #[.int .i8 a0_0, .int .i8 a0_1, .int .u16 a0_2, .int .u16 a0_3, .int .u16 a0_4, .int .u16 a0_5, .int .u16 a0_6, .int .u16 a0_7, .int .u16 a0_8, .int .u16 a0_9, .int .u16 a0_10, .int .u16 a0_11] 35 (0, 0))) := ⟨by rw [← hq_]; exact (zK BK158.out)⟩; have n1_ : Aside0 (w7.heap[gb159]? = some (.cells #[.int .i16 0, .slice none 0 0] 32 (0, 0))) := ⟨by rw [← hq_]; exact (zK BK159.out)⟩; have n2_ : Aside0 (Below w.heap.size w w7) := ⟨by rw [← hq_]; exact (by repeat (first | (with_reducible first | exact HB.out | apply below_alloc | apply pw_below_drewN | apply below_drew1 | refine below_set ?_ GE158.out | refine below_set ?_ GE159.out) | exact HB.out))⟩; clear BK158 BK159 HB hq_; have BK158 := n0_; have BK159 := n1_; have HB := n2_; clear n0_ n1_ n2_)); have hnb8 := NB159_158.out; have hnc8 := NB158_159.out; obtain ⟨hcz9_0, hcz9_1, hfz9_0, hfz9_1⟩ := cz2 w7 BK159))
 refine bodyPost_ret (results_ct rfl _ _ gb159 32 #[.int .i16 0, .slice none 0 0] (0, 0) _ rfl (by (with_reducible repeat (first | refine blk_drewN ?_ _ | refine blk_drew ?_ | refine blk_alloc ?_ _)); refine blk_put (cs := #[.int .i16 0, .slice none 0 0]) ?_ 1 _ rfl; (with_reducible repeat (first | refine blk_drewN ?_ _ | refine blk_drew ?_ | refine blk_alloc ?_ _)); refine blk_put (cs := #[.int .i16 0, .slice none 0 0]) ?_ 0 _ rfl; (with_reducible repeat (first | refine blk_drewN ?_ _ | refine blk_drew ?_ | refine blk_alloc ?_ _)); exact BK159.out) Try.underlying32 rfl (by kernel_rfl)) rfl ?_
 exact ⟨_, by first | rfl | (simp [errW_none, errW_some] <;> rfl) | (simp [*, errW_none, errW_some] <;> rfl), by first | exact Kd.R_nil _ _ _ _ _ | exact Kd.N_nil _ _ _ _ _ | exact Kd.V_nil _ _ _ _ _ | exact Kd.Q_nil _ _ _ _ _ | exact Kd.S_nil _ _ _ _ _, by repeat (first | (with_reducible first | exact HB.out | apply below_alloc | apply pw_below_drewN | apply below_drew1 | refine below_set ?_ GE158.out | refine below_set ?_ GE159.out) | exact HB.out)⟩
 }
 {
 rw [if_neg c5] at H
 have c5b0 : decide (40 < (l1.length : Int)) = false := decide_eq_false c5
 have c5b1 : decide (40 < l1.length) = false := decide_eq_false (by omega)
 clear c5
 have HC10 := ak H
 clear H
 go_enter Try.func8, Try.ntmps8
 go_upto_region 5 with (first | ((with_reducible refine gate_dst (N := 2) rfl ?_); refine box_event ?hg (N := 2) ?hd (cs := #[.int .i8 a0_0, .int .i8 a0_1, .int .u16 a0_2, .int .u16 a0_3, .int .u16 a0_4, .int .u16 a0_5, .int .u16 a0_6, .int .u16 a0_7, .int .u16 a0_8, .int .u16 a0_9, .int .u16 a0_10, .int .u16 a0_11]) (t := 35) ?hr ?_; (case hd => rfl); (case hg => rfl); (case hr => first | (go_simp; done) | (go_simp; rfl)); intro gb158 hg w11 hbox hb; have BK158 := ak (hbox); have GW158 := ak ((by rw [hg]; exact (below_size (zB HB.out)) : w.heap.size ≤ gb158)); have GE158 := ak ((by rw [hg]; exact (below_size (zB HB.out)) : w.heap.size ≤ gb158)); replace HB := kB HB hb; clear hb hbox hg) | ((with_reducible refine gate_dst (N := 4) rfl ?_); refine box_event ?hg (N := 4) ?hd (cs := #[.int .i16 0, .slice none 0 0]) (t := 32) ?hr ?_; (case hd => rfl); (case hg => rfl); (case hr => first | (go_simp; done) | (go_simp; rfl)); intro gb159 hg w12 hbox hb; have BK159 := ak (hbox); have GW159 := ak ((by rw [hg]; exact (below_size (zBG HB.out GE158.out)) : w.heap.size ≤ gb159)); have GE159 := ak ((by rw [hg]; exact (below_size (zBG HB.out GE158.out)) : w.heap.size ≤ gb159)); have NB158_159 := ak ((by rw [hg]; exact Nat.ne_of_lt (blk_lt (g := gb158) (o := .cells #[.int .i8 a0_0, .int .i8 a0_1, .int .u16 a0_2, .int .u16 a0_3, .int .u16 a0_4, .int .u16 a0_5, .int .u16 a0_6, .int .u16 a0_7, .int .u16 a0_8, .int .u16 a0_9, .int .u16 a0_10, .int .u16 a0_11] 35 (0, 0)) (zK BK158.out)) : gb158 ≠ gb159)); have NB159_158 := ak ((by rw [hg]; exact Nat.ne_of_gt (blk_lt (g := gb158) (o := .cells #[.int .i8 a0_0, .int .i8 a0_1, .int .u16 a0_2, .int .u16 a0_3, .int .u16 a0_4, .int .u16 a0_5, .int .u16 a0_6, .int .u16 a0_7, .int .u16 a0_8, .int .u16 a0_9, .int .u16 a0_10, .int .u16 a0_11] 35 (0, 0)) (zK BK158.out)) : gb159 ≠ gb158)); replace BK158 := kK BK158 hb; replace HB := kB1 HB GE158 hb; clear hb hbox hg) | ((with_reducible refine gate_callee (f := 40) rfl ?_); refine goesL_ (some 14) rfl rfl Try.func40 (by kernel_rfl) rfl #[.pointer (some ⟨gb158, 0, none⟩)] rfl (by (try simp only [List.map_toArray, List.map_cons, List.map_nil]); first | done | rfl | (simp only [List.length_drop, List.length_take]; rfl)) ?_; (with_reducible refine (spec_l01Ok.calls k gb158 a0_0 a0_1 a0_2 a0_3 a0_4 a0_5 a0_6 a0_7 a0_8 a0_9 a0_10 a0_11 true _ ?side1 A3.out).mono ?_); (case side1 => exact (by first | exact BK158.out | ((with_reducible repeat (first | refine blk_drewN ?_ _ | refine blk_drew ?_ | refine blk_alloc ?_ _)); exact BK158.out))); rintro e w' ⟨rfl, ⟨nd, rfl⟩⟩; refine ⟨_, rfl, ?_⟩))
 (try simp only [Act.put, zs, zz, zk])
 go_cut [28] (fun v28 wc => ∃ (kq : Nat) (x28_9 : Bool) (x159000_9 : Int) (x159001_9 : Int) (x159002_9 : Int) (x159003_9 : Int) (x159004_9 : Int) (x159005_9 : Int) (x159006_9 : Int) (x159007_9 : Int) (x159008_9 : Int) (x159009_9 : Int) (x159010_9 : Int) (x159011_9 : Int), v28 = .bool x28_9 ∧ Aside0 (spec_RopeFor.j0 kq l1 x28_9 x159000_9 x159001_9 x159002_9 x159003_9 x159004_9 x159005_9 x159006_9 x159007_9 x159008_9 x159009_9 x159010_9 x159011_9 = some (r1, r2, r3)) ∧ Aside0 (kq ≤ k) ∧ Aside0 (wc.heap[gb158]? = some (.cells #[.int .i8 x159000_9, .int .i8 x159001_9, .int .u16 x159002_9, .int .u16 x159003_9, .int .u16 x159004_9, .int .u16 x159005_9, .int .u16 x159006_9, .int .u16 x159007_9, .int .u16 x159008_9, .int .u16 x159009_9, .int .u16 x159010_9, .int .u16 x159011_9] 35 (0, 0))) ∧ Aside0 (wc.heap[gb159]? = some (.cells #[.int .i16 0, (.slice none 0 0)] 32 (0, 0))) ∧ Aside0 (Below w.heap.size w wc))
 case first => (
 have H := HC10.out
 clear HC10
 by_cases c13 : (l1.length : Int) < 2
 {
 rw [if_pos c13] at H
 have c13b0 : decide ((l1.length : Int) < 2) = true := decide_eq_true c13
 have c13b1 : decide (l1.length < 2) = true := decide_eq_true (by omega)
 clear c13
 (first | rw [c13b0] | (simp only [i64_w, i32_w]; rw [c13b0]) | skip)
 have H' := ak H
 clear H
 go_wp2
 go_meet
 case rel => exact ⟨_, (true), (a0_0), (a0_1), (a0_2), (a0_3), (a0_4), (a0_5), (a0_6), (a0_7), (a0_8), (a0_9), (a0_10), (a0_11), (by first | rfl | (simp; done) | (simp [*]; done)), H', ⟨by first | omega | exact Nat.le_refl _⟩, ⟨(zK BK158.out)⟩, ⟨(zK BK159.out)⟩, ⟨by repeat (first | (with_reducible first | exact HB.out | apply below_alloc | apply pw_below_drewN | apply below_drew1 | refine below_set ?_ GE158.out | refine below_set ?_ GE159.out) | exact HB.out)⟩⟩
 }
 {
 rw [if_neg c13] at H
 have c13b0 : decide ((l1.length : Int) < 2) = false := decide_eq_false c13
 have c13b1 : decide (l1.length < 2) = false := decide_eq_false (by omega)
 clear c13
 (first | rw [c13b0] | (simp only [i64_w, i32_w]; rw [c13b0]) | skip)
 replace H := Option.bind_eq_some_iff.mp H
 obtain ⟨t161, A140, H⟩ := H
 replace H : (spec_RopeFor.j0 k l1 (!t161) a0_0 a0_1 a0_2 a0_3 a0_4 a0_5 a0_6 a0_7 a0_8 a0_9 a0_10 a0_11) = some (r1, r2, r3) := H
 have A14 := ak A140
 clear A140
 have H' := ak H
 clear H
 go_wp2_with (first | (go_at_call 41; (with_reducible refine (spec_l03Cells.calls k gb158 a0_0 a0_1 a0_2 a0_3 a0_4 a0_5 a0_6 a0_7 a0_8 a0_9 a0_10 a0_11 _ _ l1 t161 _ ?side1 ?side2 ?side3 A14.out).mono ?_); (case side1 => repeat (first | exact (Kd.C_below HR1.out HB.out) | (with_reducible refine Kd.C_alloc ?_ _) | (with_reducible refine Kd.C_drewN ?_ _) | (with_reducible refine Kd.C_drew ?_))); (case side2 => exact HC1.out); (case side3 => exact (by first | exact BK158.out | ((with_reducible repeat (first | refine blk_drewN ?_ _ | refine blk_drew ?_ | refine blk_alloc ?_ _)); exact BK158.out))); rintro e w15 ⟨rfl, hb⟩; replace BK158 := kK BK158 hb; replace BK159 := kK BK159 hb; replace HB := kB2 HB GE158 GE159 hb; (try clear hb)))
 go_meet
 case rel => exact ⟨_, (!t161), (a0_0), (a0_1), (a0_2), (a0_3), (a0_4), (a0_5), (a0_6), (a0_7), (a0_8), (a0_9), (a0_10), (a0_11), (by first | rfl | (simp; done) | (simp [*]; done)), H', ⟨by first | omega | exact Nat.le_refl _⟩, ⟨(zK BK158.out)⟩, ⟨(zK BK159.out)⟩, ⟨by repeat (first | (with_reducible first | exact HB.out | apply below_alloc | apply pw_below_drewN | apply below_drew1 | refine below_set ?_ GE158.out | refine below_set ?_ GE159.out) | exact HB.out)⟩⟩
 }
 )
 case rest => (
 clear HC10
 try clear c1
 try clear c4
 try clear c5
 try clear c5b0
 try clear c5b1
 obtain ⟨kq, x28_9, x159000_9, x159001_9, x159002_9, x159003_9, x159004_9, x159005_9, x159006_9, x159007_9, x159008_9, x159009_9, x159010_9, x159011_9, rfl, HA, HJ9, BK158, BK159, HB⟩ := hcut
 cases kq with
 | zero => exact absurd HA.out (by simp [spec_RopeFor.j0])
 | succ kj9 => (
 have H := HA.out
 clear HA
 simp only [spec_RopeFor.j0] at H
 by_cases c16 : x28_9 = true
 {
 subst c16
 have H1 : (some (0, ([] : List Int), 2)) = some (r1, r2, r3) := by rw [if_pos rfl] at H; exact H
 clear H
 have H := H1
 clear H1
 simp only [Option.some.injEq, Prod.mk.injEq] at H
 obtain ⟨rfl, rfl, rfl⟩ := H
 have hnb17 := NB159_158.out
 have hnc17 := NB158_159.out
 have hcz18_0 : wc.cell? ⟨gb159, 0, none⟩ = some (.int .i16 0) := (blk_cell BK159.out 0).trans rfl
 have hcz18_1 : wc.cell? ⟨gb159, 1, none⟩ = some (.slice none 0 0) := (blk_cell BK159.out 1).trans rfl
 have hfz18_0 := blk_frozen BK159.out 0
 have hfz18_1 := blk_frozen BK159.out 1
 go_wp2
 refine bodyPost_ret (results_ct rfl _ _ gb159 32 #[.int .i16 0, .slice none 0 0] (0, 0) _ rfl (by (with_reducible repeat (first | refine blk_drewN ?_ _ | refine blk_drew ?_ | refine blk_alloc ?_ _)); refine blk_put (cs := #[.int .i16 0, .slice none 0 0]) ?_ 1 _ rfl; (with_reducible repeat (first | refine blk_drewN ?_ _ | refine blk_drew ?_ | refine blk_alloc ?_ _)); refine blk_put (cs := #[.int .i16 0, .slice none 0 0]) ?_ 0 _ rfl; (with_reducible repeat (first | refine blk_drewN ?_ _ | refine blk_drew ?_ | refine blk_alloc ?_ _)); exact BK159.out) Try.underlying32 rfl (by kernel_rfl)) rfl ?_
 exact ⟨_, by first | rfl | (simp [errW_none, errW_some] <;> rfl) | (simp [*, errW_none, errW_some] <;> rfl), by first | exact Kd.R_nil _ _ _ _ _ | exact Kd.N_nil _ _ _ _ _ | exact Kd.V_nil _ _ _ _ _ | exact Kd.Q_nil _ _ _ _ _ | exact Kd.S_nil _ _ _ _ _, by repeat (first | (with_reducible first | exact HB.out | apply below_alloc | apply pw_below_drewN | apply below_drew1 | refine below_set ?_ GE158.out | refine below_set ?_ GE159.out) | exact HB.out)⟩
 }
 {
 replace c16 := Bool.eq_false_iff.mpr c16
 subst c16
 have H1 : (spec_RopeFor.l0 kj9 l1 false 0 (([0] : List Int)) 1 x159000_9 x159001_9 x159002_9 x159003_9 x159004_9 x159005_9 x159006_9 x159007_9 x159008_9 x159009_9 x159010_9 x159011_9) = some (r1, r2, r3) := by rw [if_neg (show ¬ (false = true) by decide)] at H; exact H
 clear H
 have H := H1
 clear H1
 obtain ⟨y162, hy162⟩ : ∃ y_ : List Int, y_ = (([0] : List Int)) := ⟨_, rfl⟩
 replace H : (spec_RopeFor.l0 kj9 l1 false 0 y162 1 x159000_9 x159001_9 x159002_9 x159003_9 x159004_9 x159005_9 x159006_9 x159007_9 x159008_9 x159009_9 x159010_9 x159011_9) = some (r1, r2, r3) := by first | (rw [hy162]; with_reducible exact H) | (have H2_ := (Option.bind_some _ _).symm.trans H; rw [hy162]; with_reducible exact H2_) | (have H2_ := (Option.bind_some _ _).symm.trans H; with_reducible exact H2_) | with_reducible exact H | (rw [hy162]; exact H) | exact H
 have Ny162 := ak hy162
 clear hy162
 have H' := ak H
 clear H
 go_wp2_with (first | ((with_reducible refine gate_dst (N := 30) rfl ?_); refine Kd.R_lit (Kd.int .i64) _ 2 ?hg (N := 30) ?hd (xs := ([0] : List Int)) (inner := [.int .i64 0]) (ok := fun _ => True) (okp := fun _ => True) ?hr ?hp (fun _ hk => hk) trivial (Below.refl _ _) (Nat.le_refl _) (by simp) ?_; (case hd => rfl); (case hg => rfl); (case hr => first | (go_simp; done) | (go_simp; rfl)); (case hp => exact (Reps.one (show Kd.M (Kd.int .i64) _ _ _ 0 [.int .i64 0] from rfl) (Reps.none _ _))); intro v163 w19 ho20 hb hg_ hnew_; clear hg_ hnew_; (first | rw [← Ny162.out] at ho20 | (simp only [Int.reduceToNat] at ho20; rw [← Ny162.out] at ho20)); have HO164 := ak (Kd.R_lower ho20 (below_size (by repeat (first | (with_reducible first | exact HB.out | apply below_alloc | apply pw_below_drewN | apply below_drew1 | refine below_set ?_ GE158.out | refine below_set ?_ GE159.out) | exact HB.out)))); replace BK158 := kK BK158 hb; replace BK159 := kK BK159 hb; replace HB := kB2 HB GE158 GE159 hb; clear hb ho20))
 go_loopg [6, 7, 8, 9] kj9 (fun kq v6 v7 v8 v9 w' => ∃ (x6_2 : Bool) (x7_2 : Int) (x8_2 : List Int) (x9_2 : Int) (x160000_2 : Int), v6 = .bool x6_2 ∧ v7 = .int .i64 x7_2 ∧ v9 = .int .i64 x9_2 ∧ Aside0 (spec_RopeFor.l0 kq l1 x6_2 x7_2 x8_2 x9_2 x159000_9 x159001_9 x159002_9 x159003_9 x159004_9 x159005_9 x159006_9 x159007_9 x159008_9 x159009_9 x159010_9 x159011_9 = some (r1, r2, r3)) ∧ Aside0 (kq ≤ kj9) ∧ Aside0 (Kd.R (Kd.int .i64) 2 w' w.heap.size (fun _ => True) v8 x8_2) ∧ Aside0 (w'.heap[gb158]? = some (.cells #[.int .i8 x159000_9, .int .i8 x159001_9, .int .u16 x159002_9, .int .u16 x159003_9, .int .u16 x159004_9, .int .u16 x159005_9, .int .u16 x159006_9, .int .u16 x159007_9, .int .u16 x159008_9, .int .u16 x159009_9, .int .u16 x159010_9, .int .u16 x159011_9] 35 (0, 0))) ∧ Aside0 (w'.heap[gb159]? = some (.cells #[.int .i16 x160000_2, (.slice none 0 0)] 32 (0, 0))) ∧ Aside0 (Below w.heap.size w w'))
 case atStart => exact ⟨(false), (0), (y162), (1), (0), (by first | rfl | (simp; done) | (simp [*]; done)), (by first | rfl | (simp; done) | (simp [*]; done)), (by first | rfl | (simp; done) | (simp [*]; done)), H', ⟨Nat.le_refl _⟩, ⟨(zR HO164.out)⟩, ⟨(zK BK158.out)⟩, ⟨(zK BK159.out)⟩, ⟨by repeat (first | (with_reducible first | exact HB.out | apply below_alloc | apply pw_below_drewN | apply below_drew1 | refine below_set ?_ GE158.out | refine below_set ?_ GE159.out) | exact HB.out)⟩⟩
 case round => (
 clear H'
 try clear c1
 try clear c4
 try clear c5
 try clear c5b0
 try clear c5b1
 try clear c16
 obtain ⟨x6_2, x7_2, x8_2, x9_2, x160000_2, rfl, rfl, rfl, HA, HK2, HO_8, BK158, BK159, HB⟩ := hrel
 cases gk with
 | zero => exact absurd HA.out (by simp [spec_RopeFor.l0])
 | succ k2 => (
 have H := HA.out
 clear HA
 simp only [spec_RopeFor.l0] at H
 by_cases c21 : x9_2 < (l1.length : Int)
 {
 rw [if_pos c21] at H
 have c21b0 : decide (x9_2 < (l1.length : Int)) = true := decide_eq_true c21
 clear c21
 obtain ⟨ji22, hji22⟩ : ∃ j_ : Int, (wrap64 (x9_2 - 1)) = j_ := ⟨_, rfl⟩
 replace H : (if 0 ≤ (ji22) then (if (ji22) < (l1.length : Int) then (if 0 ≤ x9_2 then ((spec_StepsBetween.f k2 x159000_9 x159001_9 x159002_9 x159003_9 x159004_9 x159005_9 x159006_9 x159007_9 x159008_9 x159009_9 x159010_9 x159011_9 ((rd_T62 l1 (ji22)).f0) ((rd_T62 l1 (ji22)).f1) ((rd_T62 l1 x9_2).f0) ((rd_T62 l1 x9_2).f1)).bind fun bt167 => (if bt167.2 = 0 then (if x6_2 = true then (if x8_2.length < 17592186044416 then (spec_RopeFor.l0 k2 l1 true (wrap64 (x7_2 + bt167.1)) (x8_2 ++ [wrap64 (x7_2 + bt167.1)]) (wrap64 (x9_2 + 1)) x159000_9 x159001_9 x159002_9 x159003_9 x159004_9 x159005_9 x159006_9 x159007_9 x159008_9 x159009_9 x159010_9 x159011_9) else (none)) else (if x8_2.length < 17592186044416 then (spec_RopeFor.l0 k2 l1 (bt167.1 == 0) (wrap64 (x7_2 + bt167.1)) (x8_2 ++ [wrap64 (x7_2 + bt167.1)]) (wrap64 (x9_2 + 1)) x159000_9 x159001_9 x159002_9 x159003_9 x159004_9 x159005_9 x159006_9 x159007_9 x159008_9 x159009_9 x159010_9 x159011_9) else (none))) else (some (0, ([] : List Int), bt167.2)))) else (none)) else (none)) else (none)) = some (r1, r2, r3) := by first | (rw [hji22] at H; exact H) | (simp only [hji22] at H ⊢; exact H)
 have hji22w : (IntKind.i64.wrap (x9_2 - 1)) = ji22 := (i64_w _).trans hji22
 by_cases c23 : 0 ≤ (ji22)
 {
 rw [if_pos c23] at H
 have c23b0 : decide (0 ≤ (ji22)) = true := decide_eq_true c23
 clear c23
 by_cases c24 : (ji22) < (l1.length : Int)
 {
 rw [if_pos c24] at H
 have c24b0 : decide ((ji22) < (l1.length : Int)) = true := decide_eq_true c24
 clear c24
 by_cases c25 : 0 ≤ x9_2
 {
 rw [if_pos c25] at H
 have c25b0 : decide (0 ≤ x9_2) = true := decide_eq_true c25
 clear c25
 replace H := Option.bind_eq_some_iff.mp H
 obtain ⟨⟨t167, t168⟩, A260, H⟩ := H
 replace H : (if t168 = 0 then (if x6_2 = true then (if x8_2.length < 17592186044416 then (spec_RopeFor.l0 k2 l1 true (wrap64 (x7_2 + t167)) (x8_2 ++ [wrap64 (x7_2 + t167)]) (wrap64 (x9_2 + 1)) x159000_9 x159001_9 x159002_9 x159003_9 x159004_9 x159005_9 x159006_9 x159007_9 x159008_9 x159009_9 x159010_9 x159011_9) else (none)) else (if x8_2.length < 17592186044416 then (spec_RopeFor.l0 k2 l1 (t167 == 0) (wrap64 (x7_2 + t167)) (x8_2 ++ [wrap64 (x7_2 + t167)]) (wrap64 (x9_2 + 1)) x159000_9 x159001_9 x159002_9 x159003_9 x159004_9 x159005_9 x159006_9 x159007_9 x159008_9 x159009_9 x159010_9 x159011_9) else (none))) else (some (0, ([] : List Int), t168))) = some (r1, r2, r3) := H
 have A26 := ak A260
 clear A260
 by_cases c27 : t168 = 0
 {
 rw [if_pos c27] at H
 have c27b0 : (t168 == 0) = true := beq_iff_eq.mpr c27
 have c27b1 : (t168 != 0) = false := bne_eq_false_iff_eq.mpr c27
 clear c27
 by_cases c28 : x6_2 = true
 {
 subst c28
 have H1 : (if x8_2.length < 17592186044416 then (spec_RopeFor.l0 k2 l1 true (wrap64 (x7_2 + t167)) (x8_2 ++ [wrap64 (x7_2 + t167)]) (wrap64 (x9_2 + 1)) x159000_9 x159001_9 x159002_9 x159003_9 x159004_9 x159005_9 x159006_9 x159007_9 x159008_9 x159009_9 x159010_9 x159011_9) else (none)) = some (r1, r2, r3) := by rw [if_pos rfl] at H; exact H
 clear H
 have H := H1
 clear H1
 by_cases c29 : x8_2.length < 17592186044416
 {
 rw [if_pos c29] at H
 have LMc29 := ak c29
 clear c29
 obtain ⟨y169, hy169⟩ : ∃ y_ : List Int, y_ = (x8_2 ++ [wrap64 (x7_2 + t167)]) := ⟨_, rfl⟩
 replace H : (spec_RopeFor.l0 k2 l1 true (wrap64 (x7_2 + t167)) y169 (wrap64 (x9_2 + 1)) x159000_9 x159001_9 x159002_9 x159003_9 x159004_9 x159005_9 x159006_9 x159007_9 x159008_9 x159009_9 x159010_9 x159011_9) = some (r1, r2, r3) := by first | (rw [hy169]; with_reducible exact H) | (have H2_ := (Option.bind_some _ _).symm.trans H; rw [hy169]; with_reducible exact H2_) | (have H2_ := (Option.bind_some _ _).symm.trans H; with_reducible exact H2_) | with_reducible exact H | (rw [hy169]; exact H) | exact H
 have Ny169 := ak hy169
 clear hy169
 have H' := ak H
 clear H
 try go_wp2
 have n0_ := ak (Kd.R_drew HO_8.out)
 have n1_ := ak (blk_drew BK158.out)
 have n2_ := ak (blk_drew BK159.out)
 have n3_ := ak (below_drew1 HB.out)
 clear HO_8 BK158 BK159 HB
 have HO_8 := n0_
 have BK158 := n1_
 have BK159 := n2_
 have HB := n3_
 clear n0_ n1_ n2_ n3_
 have p165 : 0 ≤ ((ji22) : Int) := of_decide_eq_true (by first | (with_reducible assumption) | assumption)
 have q165 : (ji22) < (l1.length : Int) := of_decide_eq_true (by first | (with_reducible assumption) | assumption)
 obtain ⟨ad165, e165, hx165_0, hx165_1⟩ := at_T62 HR1.out (ji22) p165 q165
 have hw165_1 := hx165_1
 have hw165_0 := hx165_0
 cases e165
 replace hx165_0 := (HB.out.cell (World.block_lt_of_cell? w _ hx165_0)).trans hx165_0
 replace hx165_1 := (HB.out.cell (World.block_lt_of_cell? w _ hx165_1)).trans hx165_1
 replace p165 := eq_true p165
 replace q165 := eq_true q165
 have p166 : 0 ≤ (x9_2 : Int) := of_decide_eq_true (by first | (with_reducible assumption) | assumption)
 have q166 : x9_2 < (l1.length : Int) := of_decide_eq_true (by first | (with_reducible assumption) | assumption)
 obtain ⟨ad166, e166, hx166_0, hx166_1⟩ := at_T62 HR1.out x9_2 p166 q166
 have hw166_1 := hx166_1
 have hw166_0 := hx166_0
 obtain rfl : ad165 = ad166 := (by injection e166)
 replace hx166_0 := (HB.out.cell (World.block_lt_of_cell? w _ hx166_0)).trans hx166_0
 replace hx166_1 := (HB.out.cell (World.block_lt_of_cell? w _ hx166_1)).trans hx166_1
 replace p166 := eq_true p166
 replace q166 := eq_true q166
 refine start_ (n := 16) (S := fun w' => w'.cell? ⟨gb158, 0, none⟩ = some (.int .i8 x159000_9) ∧ w'.cell? ⟨gb158, 1, none⟩ = some (.int .i8 x159001_9) ∧ w'.cell? ⟨gb158, 2, none⟩ = some (.int .u16 x159002_9) ∧ w'.cell? ⟨gb158, 3, none⟩ = some (.int .u16 x159003_9) ∧ w'.cell? ⟨gb158, 4, none⟩ = some (.int .u16 x159004_9) ∧ w'.cell? ⟨gb158, 5, none⟩ = some (.int .u16 x159005_9) ∧ w'.cell? ⟨gb158, 6, none⟩ = some (.int .u16 x159006_9) ∧ w'.cell? ⟨gb158, 7, none⟩ = some (.int .u16 x159007_9) ∧ w'.cell? ⟨gb158, 8, none⟩ = some (.int .u16 x159008_9) ∧ w'.cell? ⟨gb158, 9, none⟩ = some (.int .u16 x159009_9) ∧ w'.cell? ⟨gb158, 10, none⟩ = some (.int .u16 x159010_9) ∧ w'.cell? ⟨gb158, 11, none⟩ = some (.int .u16 x159011_9) ∧ w'.cell? (ad165.add (((ji22)).toNat * 2)) = some (.int .i8 ((rd_T62 l1 (ji22)).f0)) ∧ w'.cell? ⟨(ad165.add (((ji22)).toNat * 2)).block, (ad165.add (((ji22)).toNat * 2)).off + 1, none⟩ = some (.int .i8 ((rd_T62 l1 (ji22)).f1)) ∧ w'.cell? (ad165.add ((x9_2).toNat * 2)) = some (.int .i8 ((rd_T62 l1 x9_2).f0)) ∧ w'.cell? ⟨(ad165.add ((x9_2).toNat * 2)).block, (ad165.add ((x9_2).toNat * 2)).off + 1, none⟩ = some (.int .i8 ((rd_T62 l1 x9_2).f1))) (ds := []) (bA 16 0) (by kernel_rfl) rfl rfl ⟨(blk_cell BK158.out 0).trans rfl, (blk_cell BK158.out 1).trans rfl, (blk_cell BK158.out 2).trans rfl, (blk_cell BK158.out 3).trans rfl, (blk_cell BK158.out 4).trans rfl, (blk_cell BK158.out 5).trans rfl, (blk_cell BK158.out 6).trans rfl, (blk_cell BK158.out 7).trans rfl, (blk_cell BK158.out 8).trans rfl, (blk_cell BK158.out 9).trans rfl, (blk_cell BK158.out 10).trans rfl, (blk_cell BK158.out 11).trans rfl, ((HB.out.cell (World.block_lt_of_cell? w _ hw165_0)).trans hw165_0), ((HB.out.cell (World.block_lt_of_cell? w _ hw165_1)).trans hw165_1), ((HB.out.cell (World.block_lt_of_cell? w _ hw166_0)).trans hw166_0), ((HB.out.cell (World.block_lt_of_cell? w _ hw166_1)).trans hw166_1)⟩ (fun hHeld => ?_); refine with_tabW spec_RopeFor.tab13 spec_RopeFor.bits13 (fun HT_ HW_ => ?_)
 generalize wr.drew = w30 at HO_8 BK158 BK159 HB hx165_0 hx165_1 hx166_0 hx166_1 hHeld ⊢
 refine pure_ (i := 1) (N := some 39) (v := ?_) (a' := ?_) (bA 16 2) rfl rfl (any_of HT_.out (by kernel_rfl)) (fun _ _ _ h => h) (Or.inl ⟨by rfl, ?_⟩) ?_ ?_
 rotate_left
 {
 intro w'
 go_simp
 with_reducible rfl
 }
 rotate_left
 · simp only [Act.put, zs, zz, zk, i64_w, i32_w]; rfl
 refine pure_ (i := 2) (N := some 40) (v := ?_) (a' := ?_) (bA 16 6) rfl rfl (any_of HT_.out (by kernel_rfl)) (fun _ _ _ h => h) (Or.inl ⟨by rfl, ?_⟩) ?_ ?_
 rotate_left
 {
 intro w'
 go_simp
 with_reducible rfl
 }
 rotate_left
 · simp only [Act.put, zs, zz, zk, i64_w, i32_w]; rfl
 refine pure_ (i := 3) (N := some 41) (v := ?_) (a' := ?_) (bA 16 14) rfl rfl (any_of HT_.out (by kernel_rfl)) (fun _ _ _ h => h) (Or.inl ⟨by rfl, ?_⟩) ?_ ?_
 rotate_left
 {
 intro w'
 go_simp
 with_reducible rfl
 }
 rotate_left
 · simp only [Act.put, zs, zz, zk, i64_w, i32_w]; rfl
 refine pure_ (i := 4) (N := some 42) (v := ?_) (a' := ?_) (bA 16 30) rfl rfl (any_of HT_.out (by kernel_rfl)) (fun _ _ _ h => h) (Or.inl ⟨by rfl, ?_⟩) ?_ ?_
 rotate_left
 {
 intro w'
 go_simp
 with_reducible rfl
 }
 rotate_left
 · simp only [Act.put, zs, zz, zk, i64_w, i32_w]; rfl
 refine pure_ (i := 6) (N := some 44) (v := ?_) (a' := ?_) (bA 16 94) rfl rfl (any_of HT_.out (by kernel_rfl)) (fun _ _ _ h => h) (Or.inl ⟨by rfl, ?_⟩) ?_ ?_
 rotate_left
 {
 intro w'
 go_simp
 with_reducible rfl
 }
 rotate_left
 · simp only [Act.put, zs, zz, zk, i64_w, i32_w]; rfl
 refine pure_ (i := 7) (N := some 45) (v := ?_) (a' := ?_) (bA 16 222) rfl rfl (any_of HT_.out (by kernel_rfl)) (fun _ _ _ h => h) (Or.inl ⟨by rfl, ?_⟩) ?_ ?_
 rotate_left
 {
 intro w'
 go_simp
 with_reducible rfl
 }
 rotate_left
 · simp only [Act.put, zs, zz, zk, i64_w, i32_w]; rfl
 refine pure_ (i := 8) (N := some 46) (v := ?_) (a' := ?_) (bA 16 478) rfl rfl (any_of HT_.out (by kernel_rfl)) (fun _ _ _ h => h) (Or.inl ⟨by rfl, ?_⟩) ?_ ?_
 rotate_left
 {
 intro w'
 go_simp
 with_reducible rfl
 }
 rotate_left
 · simp only [Act.put, zs, zz, zk, i64_w, i32_w]; rfl
 refine take_ (i := 0) (N := some 38) (v := ?_) (a' := ?_) (bA 16 479) rfl rfl (take_ofW HT_.out HW_.out (by kernel_rfl)) (fun _ _ _ h => h) (Or.inl ⟨by rfl, ?_⟩) hHeld ?_ ?_
 rotate_left
 {
 rintro w' ⟨s0, s1, s2, s3, s4, s5, s6, s7, s8, s9, s10, s11, s12, s13, s14, s15⟩
 go_simp
 with_reducible rfl
 }
 rotate_left
 · simp only [Act.put, zs, zz, zk, i64_w, i32_w]; rfl
 refine take_ (i := 5) (N := some 43) (v := ?_) (a' := ?_) (bA 16 511) rfl rfl (take_ofW HT_.out HW_.out (by kernel_rfl)) (fun _ _ _ h => h) (Or.inl ⟨by rfl, ?_⟩) hHeld ?_ ?_
 rotate_left
 {
 rintro w' ⟨s0, s1, s2, s3, s4, s5, s6, s7, s8, s9, s10, s11, s12, s13, s14, s15⟩
 go_simp
 with_reducible rfl
 }
 rotate_left
 · simp only [Act.put, zs, zz, zk, i64_w, i32_w]; rfl
 refine take_ (i := 9) (N := some 47) (v := ?_) (a' := ?_) (bA 16 1023) rfl rfl (take_ofW HT_.out HW_.out (by kernel_rfl)) (fun _ _ _ h => h) (Or.inl ⟨by rfl, ?_⟩) hHeld ?_ ?_
 rotate_left
 {
 rintro w' ⟨s0, s1, s2, s3, s4, s5, s6, s7, s8, s9, s10, s11, s12, s13, s14, s15⟩
 go_simp
 with_reducible rfl
 }
 rotate_left
 · simp only [Act.put, zs, zz, zk, i64_w, i32_w]; rfl
 refine one_ (i := 10) (N := some 48) (bA 16 2047) rfl rfl (one_of HT_.out (by kernel_rfl)) (by decide) (fun K hK => ?_)
 refine goes_ Try.func42 (by kernel_rfl) rfl #[.agg #[.int .i8 x159000_9, .int .i8 x159001_9, .int .u16 x159002_9, .int .u16 x159003_9, .int .u16 x159004_9, .int .u16 x159005_9, .int .u16 x159006_9, .int .u16 x159007_9, .int .u16 x159008_9, .int .u16 x159009_9, .int .u16 x159010_9, .int .u16 x159011_9], .agg #[.int .i8 ((rd_T62 l1 (ji22)).f0), .int .i8 ((rd_T62 l1 (ji22)).f1)], .agg #[.int .i8 ((rd_T62 l1 x9_2).f0), .int .i8 ((rd_T62 l1 x9_2).f1)]] (by rfl) rfl rfl (by (try simp only [List.map_toArray, List.map_cons, List.map_nil]); first | done | (simp only [hji22]; rfl) | rfl | (simp only [List.length_drop, List.length_take]; rfl)) ?_
 with_reducible refine (spec_StepsBetween.calls k2 x159000_9 x159001_9 x159002_9 x159003_9 x159004_9 x159005_9 x159006_9 x159007_9 x159008_9 x159009_9 x159010_9 x159011_9 ((rd_T62 l1 (ji22)).f0) ((rd_T62 l1 (ji22)).f1) ((rd_T62 l1 x9_2).f0) ((rd_T62 l1 x9_2).f1) t167 t168 _ A26.out).mono ?_
 rintro e w31 ⟨rfl, hb⟩
 refine ⟨_, rfl, ?_⟩
 have n0_ := ak (Kd.R_below (zR HO_8.out) hb)
 have n1_ := ak (blk_below (g := gb158) (o := .cells #[.int .i8 x159000_9, .int .i8 x159001_9, .int .u16 x159002_9, .int .u16 x159003_9, .int .u16 x159004_9, .int .u16 x159005_9, .int .u16 x159006_9, .int .u16 x159007_9, .int .u16 x159008_9, .int .u16 x159009_9, .int .u16 x159010_9, .int .u16 x159011_9] 35 (0, 0)) (zK BK158.out) hb)
 have n2_ := ak (blk_below (g := gb159) (o := .cells #[.int .i16 x160000_2, .slice none 0 0] 32 (0, 0)) (zK BK159.out) hb)
 have n3_ := ak (below_step (by repeat (first | (with_reducible first | exact HB.out | apply below_alloc | apply pw_below_drewN | apply below_drew1 | refine below_set ?_ GE158.out | refine below_set ?_ GE159.out) | exact HB.out)) hb)
 clear HO_8 BK158 BK159 HB
 have HO_8 := n0_
 have BK158 := n1_
 have BK159 := n2_
 have HB := n3_
 clear n0_ n1_ n2_ n3_
 (try clear hb)
 (try clear hb2)
 (try clear hk)
 (try clear hi)
 refine hK.out _ _ ⟨(blk_cell BK158.out 0).trans rfl, (blk_cell BK158.out 1).trans rfl, (blk_cell BK158.out 2).trans rfl, (blk_cell BK158.out 3).trans rfl, (blk_cell BK158.out 4).trans rfl, (blk_cell BK158.out 5).trans rfl, (blk_cell BK158.out 6).trans rfl, (blk_cell BK158.out 7).trans rfl, (blk_cell BK158.out 8).trans rfl, (blk_cell BK158.out 9).trans rfl, (blk_cell BK158.out 10).trans rfl, (blk_cell BK158.out 11).trans rfl, ((HB.out.cell (World.block_lt_of_cell? w _ hw165_0)).trans hw165_0), ((HB.out.cell (World.block_lt_of_cell? w _ hw165_1)).trans hw165_1), ((HB.out.cell (World.block_lt_of_cell? w _ hw166_0)).trans hw166_0), ((HB.out.cell (World.block_lt_of_cell? w _ hw166_1)).trans hw166_1)⟩ (fun hHeld => ?_)
 clear hK K
 refine norm_ (a' := ?_) ?_ ?_
 rotate_left
 {
 show Act.put _ (some 48) _ = _
 simp only [Act.put, zs, zz, zk, i64_w, i32_w]
 rfl
 }
 refine pure_ (i := 11) (N := some 37) (v := ?_) (a' := ?_) (bA 16 4095) rfl rfl (any_of HT_.out (by kernel_rfl)) (fun _ _ _ h => h) (Or.inl ⟨by rfl, ?_⟩) ?_ ?_
 rotate_left
 {
 intro w'
 go_simp
 with_reducible rfl
 }
 rotate_left
 · simp only [Act.put, zs, zz, zk, i64_w, i32_w]; rfl
 refine pure_ (i := 12) (N := some 49) (v := ?_) (a' := ?_) (bA 16 8191) rfl rfl (any_of HT_.out (by kernel_rfl)) (fun _ _ _ h => h) (Or.inl ⟨by rfl, ?_⟩) ?_ ?_
 rotate_left
 {
 intro w'
 go_simp
 with_reducible rfl
 }
 rotate_left
 · simp only [Act.put, zs, zz, zk, i64_w, i32_w]; rfl
 refine pure_ (i := 13) (N := some 50) (v := ?_) (a' := ?_) (bA 16 16383) rfl rfl (any_of HT_.out (by kernel_rfl)) (fun _ _ _ h => h) (Or.inl ⟨by rfl, ?_⟩) ?_ ?_
 rotate_left
 {
 intro w'
 go_simp
 with_reducible rfl
 }
 rotate_left
 · simp only [Act.put, zs, zz, zk, i64_w, i32_w]; rfl
 refine pure_ (i := 14) (N := some 10) (v := ?_) (a' := ?_) (bA 16 32767) rfl rfl (any_of HT_.out (by kernel_rfl)) (fun _ _ _ h => h) (Or.inl ⟨by rfl, ?_⟩) ?_ ?_
 rotate_left
 {
 intro w'
 go_simp
 with_reducible rfl
 }
 rotate_left
 · simp only [Act.put, zs, zz, zk, i64_w, i32_w]; rfl
 refine pure_ (i := 15) (N := some 11) (v := ?_) (a' := ?_) (bA 16 65535) rfl rfl (any_of HT_.out (by kernel_rfl)) (fun _ _ _ h => h) (Or.inl ⟨by rfl, ?_⟩) ?_ ?_
 rotate_left
 {
 intro w'
 go_simp
 with_reducible rfl
 }
 rotate_left
 · simp only [Act.put, zs, zz, zk, i64_w, i32_w]; rfl
 refine done_ (done_of HT_.out (by kernel_rfl)) ?_
 try go_wp2_with (first | ((with_reducible refine gate_builtin (b := .append) (xs := #[.tmp 63, .tmp 65]) rfl ?_); at_builtin; refine Kd.R_append (Kd.int .i64) (w0 := w) w.heap.size rfl (.tmp 63) (.tmp 65) 66 2 (.int .i64 0) 8 rfl Try.underlying66 info2 rfl (by decide) (by omega) u8 x8_2 (wrap64 (x7_2 + t167)) [.int .i64 (wrap64 (x7_2 + t167))] (fun _ => True) (fun _ => False) rfl rfl ?aP (fun _ hk => hk.elim) ?aF ?aO ?aB ?aS ?aL ?_; (case aP => exact rfl); (case aB => exact (by repeat (first | (with_reducible first | exact HB.out | apply below_alloc | apply pw_below_drewN | apply below_drew1 | refine below_set ?_ GE158.out | refine below_set ?_ GE159.out) | exact HB.out))); (case aF => exact (fun _ _ => trivial)); (case aO => exact (zR HO_8.out)); (case aS => exact (below_size (by repeat (first | (with_reducible first | exact HB.out | apply below_alloc | apply pw_below_drewN | apply below_drew1 | refine below_set ?_ GE158.out | refine below_set ?_ GE159.out) | exact HB.out)))); (case aL => have := LMc29.out; omega); intro v170 w32 ho hb hg hat; rw [← Ny169.out] at ho; have n0_ := ak (blk_grown (g := gb158) (o := .cells #[.int .i8 x159000_9, .int .i8 x159001_9, .int .u16 x159002_9, .int .u16 x159003_9, .int .u16 x159004_9, .int .u16 x159005_9, .int .u16 x159006_9, .int .u16 x159007_9, .int .u16 x159008_9, .int .u16 x159009_9, .int .u16 x159010_9, .int .u16 x159011_9] 35 (0, 0)) (zK BK158.out) hg (Kd.R_ne HO_8.out BK158.out (by decide))); have n1_ := ak (blk_grown (g := gb159) (o := .cells #[.int .i16 x160000_2, .slice none 0 0] 32 (0, 0)) (zK BK159.out) hg (Kd.R_ne HO_8.out BK159.out (by decide))); have n2_ := ak (hb); have n3_ := ak (ho); clear BK158 BK159 HB HO_8; have BK158 := n0_; have BK159 := n1_; have HB := n2_; have HO171 := n3_; clear n0_ n1_ n2_ n3_; clear ho hb hg hat))
 go_roundg k2
 case measure => have := HJ9.out; have := HK2.out; omega
 case rel => exact ⟨(true), (wrap64 (x7_2 + t167)), (y169), (wrap64 (x9_2 + 1)), (x160000_2), (by first | rfl | (simp; done) | (simp [*]; done)), (by first | rfl | (simp; done) | (simp [*]; done)), (by first | rfl | (simp; done) | (simp [*]; done)), H', ⟨by have := HJ9.out; have := HK2.out; omega⟩, ⟨(zR HO171.out)⟩, ⟨(zK BK158.out)⟩, ⟨(zK BK159.out)⟩, ⟨by repeat (first | (with_reducible first | exact HB.out | apply below_alloc | apply pw_below_drewN | apply below_drew1 | refine below_set ?_ GE158.out | refine below_set ?_ GE159.out) | exact HB.out)⟩⟩
 }
 · rw [if_neg c29] at H; exact absurd H (by simp)
 }
 {
 replace c28 := Bool.eq_false_iff.mpr c28
 subst c28
 have H1 : (if x8_2.length < 17592186044416 then (spec_RopeFor.l0 k2 l1 (t167 == 0) (wrap64 (x7_2 + t167)) (x8_2 ++ [wrap64 (x7_2 + t167)]) (wrap64 (x9_2 + 1)) x159000_9 x159001_9 x159002_9 x159003_9 x159004_9 x159005_9 x159006_9 x159007_9 x159008_9 x159009_9 x159010_9 x159011_9) else (none)) = some (r1, r2, r3) := by rw [if_neg (show ¬ (false = true) by decide)] at H; exact H
 clear H
 have H := H1
 clear H1
 by_cases c33 : x8_2.length < 17592186044416
 {
 rw [if_pos c33] at H
 have LMc33 := ak c33
 clear c33
 obtain ⟨y172, hy172⟩ : ∃ y_ : List Int, y_ = (x8_2 ++ [wrap64 (x7_2 + t167)]) := ⟨_, rfl⟩
 replace H : (spec_RopeFor.l0 k2 l1 (t167 == 0) (wrap64 (x7_2 + t167)) y172 (wrap64 (x9_2 + 1)) x159000_9 x159001_9 x159002_9 x159003_9 x159004_9 x159005_9 x159006_9 x159007_9 x159008_9 x159009_9 x159010_9 x159011_9) = some (r1, r2, r3) := by first | (rw [hy172]; with_reducible exact H) | (have H2_ := (Option.bind_some _ _).symm.trans H; rw [hy172]; with_reducible exact H2_) | (have H2_ := (Option.bind_some _ _).symm.trans H; with_reducible exact H2_) | with_reducible exact H | (rw [hy172]; exact H) | exact H
 have Ny172 := ak hy172
 clear hy172
 have H' := ak H
 clear H
 try go_wp2
 have n0_ := ak (Kd.R_drew HO_8.out)
 have n1_ := ak (blk_drew BK158.out)
 have n2_ := ak (blk_drew BK159.out)
 have n3_ := ak (below_drew1 HB.out)
 clear HO_8 BK158 BK159 HB
 have HO_8 := n0_
 have BK158 := n1_
 have BK159 := n2_
 have HB := n3_
 clear n0_ n1_ n2_ n3_
 have p165 : 0 ≤ ((ji22) : Int) := of_decide_eq_true (by first | (with_reducible assumption) | assumption)
 have q165 : (ji22) < (l1.length : Int) := of_decide_eq_true (by first | (with_reducible assumption) | assumption)
 obtain ⟨ad165, e165, hx165_0, hx165_1⟩ := at_T62 HR1.out (ji22) p165 q165
 have hw165_1 := hx165_1
 have hw165_0 := hx165_0
 cases e165
 replace hx165_0 := (HB.out.cell (World.block_lt_of_cell? w _ hx165_0)).trans hx165_0
 replace hx165_1 := (HB.out.cell (World.block_lt_of_cell? w _ hx165_1)).trans hx165_1
 replace p165 := eq_true p165
 replace q165 := eq_true q165
 have p166 : 0 ≤ (x9_2 : Int) := of_decide_eq_true (by first | (with_reducible assumption) | assumption)
 have q166 : x9_2 < (l1.length : Int) := of_decide_eq_true (by first | (with_reducible assumption) | assumption)
 obtain ⟨ad166, e166, hx166_0, hx166_1⟩ := at_T62 HR1.out x9_2 p166 q166
 have hw166_1 := hx166_1
 have hw166_0 := hx166_0
 obtain rfl : ad165 = ad166 := (by injection e166)
 replace hx166_0 := (HB.out.cell (World.block_lt_of_cell? w _ hx166_0)).trans hx166_0
 replace hx166_1 := (HB.out.cell (World.block_lt_of_cell? w _ hx166_1)).trans hx166_1
 replace p166 := eq_true p166
 replace q166 := eq_true q166
 refine start_ (n := 16) (S := fun w' => w'.cell? ⟨gb158, 0, none⟩ = some (.int .i8 x159000_9) ∧ w'.cell? ⟨gb158, 1, none⟩ = some (.int .i8 x159001_9) ∧ w'.cell? ⟨gb158, 2, none⟩ = some (.int .u16 x159002_9) ∧ w'.cell? ⟨gb158, 3, none⟩ = some (.int .u16 x159003_9) ∧ w'.cell? ⟨gb158, 4, none⟩ = some (.int .u16 x159004_9) ∧ w'.cell? ⟨gb158, 5, none⟩ = some (.int .u16 x159005_9) ∧ w'.cell? ⟨gb158, 6, none⟩ = some (.int .u16 x159006_9) ∧ w'.cell? ⟨gb158, 7, none⟩ = some (.int .u16 x159007_9) ∧ w'.cell? ⟨gb158, 8, none⟩ = some (.int .u16 x159008_9) ∧ w'.cell? ⟨gb158, 9, none⟩ = some (.int .u16 x159009_9) ∧ w'.cell? ⟨gb158, 10, none⟩ = some (.int .u16 x159010_9) ∧ w'.cell? ⟨gb158, 11, none⟩ = some (.int .u16 x159011_9) ∧ w'.cell? (ad165.add (((ji22)).toNat * 2)) = some (.int .i8 ((rd_T62 l1 (ji22)).f0)) ∧ w'.cell? ⟨(ad165.add (((ji22)).toNat * 2)).block, (ad165.add (((ji22)).toNat * 2)).off + 1, none⟩ = some (.int .i8 ((rd_T62 l1 (ji22)).f1)) ∧ w'.cell? (ad165.add ((x9_2).toNat * 2)) = some (.int .i8 ((rd_T62 l1 x9_2).f0)) ∧ w'.cell? ⟨(ad165.add ((x9_2).toNat * 2)).block, (ad165.add ((x9_2).toNat * 2)).off + 1, none⟩ = some (.int .i8 ((rd_T62 l1 x9_2).f1))) (ds := []) (bA 16 0) (by kernel_rfl) rfl rfl ⟨(blk_cell BK158.out 0).trans rfl, (blk_cell BK158.out 1).trans rfl, (blk_cell BK158.out 2).trans rfl, (blk_cell BK158.out 3).trans rfl, (blk_cell BK158.out 4).trans rfl, (blk_cell BK158.out 5).trans rfl, (blk_cell BK158.out 6).trans rfl, (blk_cell BK158.out 7).trans rfl, (blk_cell BK158.out 8).trans rfl, (blk_cell BK158.out 9).trans rfl, (blk_cell BK158.out 10).trans rfl, (blk_cell BK158.out 11).trans rfl, ((HB.out.cell (World.block_lt_of_cell? w _ hw165_0)).trans hw165_0), ((HB.out.cell (World.block_lt_of_cell? w _ hw165_1)).trans hw165_1), ((HB.out.cell (World.block_lt_of_cell? w _ hw166_0)).trans hw166_0), ((HB.out.cell (World.block_lt_of_cell? w _ hw166_1)).trans hw166_1)⟩ (fun hHeld => ?_); refine with_tabW spec_RopeFor.tab13 spec_RopeFor.bits13 (fun HT_ HW_ => ?_)
 generalize wr.drew = w34 at HO_8 BK158 BK159 HB hx165_0 hx165_1 hx166_0 hx166_1 hHeld ⊢
 refine pure_ (i := 1) (N := some 39) (v := ?_) (a' := ?_) (bA 16 2) rfl rfl (any_of HT_.out (by kernel_rfl)) (fun _ _ _ h => h) (Or.inl ⟨by rfl, ?_⟩) ?_ ?_
 rotate_left
 {
 intro w'
 go_simp
 with_reducible rfl
 }
 rotate_left
 · simp only [Act.put, zs, zz, zk, i64_w, i32_w]; rfl
 refine pure_ (i := 2) (N := some 40) (v := ?_) (a' := ?_) (bA 16 6) rfl rfl (any_of HT_.out (by kernel_rfl)) (fun _ _ _ h => h) (Or.inl ⟨by rfl, ?_⟩) ?_ ?_
 rotate_left
 {
 intro w'
 go_simp
 with_reducible rfl
 }
 rotate_left
 · simp only [Act.put, zs, zz, zk, i64_w, i32_w]; rfl
 refine pure_ (i := 3) (N := some 41) (v := ?_) (a' := ?_) (bA 16 14) rfl rfl (any_of HT_.out (by kernel_rfl)) (fun _ _ _ h => h) (Or.inl ⟨by rfl, ?_⟩) ?_ ?_
 rotate_left
 {
 intro w'
 go_simp
 with_reducible rfl
 }
 rotate_left
 · simp only [Act.put, zs, zz, zk, i64_w, i32_w]; rfl
 refine pure_ (i := 4) (N := some 42) (v := ?_) (a' := ?_) (bA 16 30) rfl rfl (any_of HT_.out (by kernel_rfl)) (fun _ _ _ h => h) (Or.inl ⟨by rfl, ?_⟩) ?_ ?_
 rotate_left
 {
 intro w'
 go_simp
 with_reducible rfl
 }
 rotate_left
 · simp only [Act.put, zs, zz, zk, i64_w, i32_w]; rfl
 refine pure_ (i := 6) (N := some 44) (v := ?_) (a' := ?_) (bA 16 94) rfl rfl (any_of HT_.out (by kernel_rfl)) (fun _ _ _ h => h) (Or.inl ⟨by rfl, ?_⟩) ?_ ?_
 rotate_left
 {
 intro w'
 go_simp
 with_reducible rfl
 }
 rotate_left
 · simp only [Act.put, zs, zz, zk, i64_w, i32_w]; rfl
 refine pure_ (i := 7) (N := some 45) (v := ?_) (a' := ?_) (bA 16 222) rfl rfl (any_of HT_.out (by kernel_rfl)) (fun _ _ _ h => h) (Or.inl ⟨by rfl, ?_⟩) ?_ ?_
 rotate_left
 {
 intro w'
 go_simp
 with_reducible rfl
 }
 rotate_left
 · simp only [Act.put, zs, zz, zk, i64_w, i32_w]; rfl
 refine pure_ (i := 8) (N := some 46) (v := ?_) (a' := ?_) (bA 16 478) rfl rfl (any_of HT_.out (by kernel_rfl)) (fun _ _ _ h => h) (Or.inl ⟨by rfl, ?_⟩) ?_ ?_
 rotate_left
 {
 intro w'
 go_simp
 with_reducible rfl
 }
 rotate_left
 · simp only [Act.put, zs, zz, zk, i64_w, i32_w]; rfl
 refine take_ (i := 0) (N := some 38) (v := ?_) (a' := ?_) (bA 16 479) rfl rfl (take_ofW HT_.out HW_.out (by kernel_rfl)) (fun _ _ _ h => h) (Or.inl ⟨by rfl, ?_⟩) hHeld ?_ ?_
 rotate_left
 {
 rintro w' ⟨s0, s1, s2, s3, s4, s5, s6, s7, s8, s9, s10, s11, s12, s13, s14, s15⟩
 go_simp
 with_reducible rfl
 }
 rotate_left
 · simp only [Act.put, zs, zz, zk, i64_w, i32_w]; rfl
 refine take_ (i := 5) (N := some 43) (v := ?_) (a' := ?_) (bA 16 511) rfl rfl (take_ofW HT_.out HW_.out (by kernel_rfl)) (fun _ _ _ h => h) (Or.inl ⟨by rfl, ?_⟩) hHeld ?_ ?_
 rotate_left
 {
 rintro w' ⟨s0, s1, s2, s3, s4, s5, s6, s7, s8, s9, s10, s11, s12, s13, s14, s15⟩
 go_simp
 with_reducible rfl
 }
 rotate_left
 · simp only [Act.put, zs, zz, zk, i64_w, i32_w]; rfl
 refine take_ (i := 9) (N := some 47) (v := ?_) (a' := ?_) (bA 16 1023) rfl rfl (take_ofW HT_.out HW_.out (by kernel_rfl)) (fun _ _ _ h => h) (Or.inl ⟨by rfl, ?_⟩) hHeld ?_ ?_
 rotate_left
 {
 rintro w' ⟨s0, s1, s2, s3, s4, s5, s6, s7, s8, s9, s10, s11, s12, s13, s14, s15⟩
 go_simp
 with_reducible rfl
 }
 rotate_left
 · simp only [Act.put, zs, zz, zk, i64_w, i32_w]; rfl
 refine one_ (i := 10) (N := some 48) (bA 16 2047) rfl rfl (one_of HT_.out (by kernel_rfl)) (by decide) (fun K hK => ?_)
 refine goes_ Try.func42 (by kernel_rfl) rfl #[.agg #[.int .i8 x159000_9, .int .i8 x159001_9, .int .u16 x159002_9, .int .u16 x159003_9, .int .u16 x159004_9, .int .u16 x159005_9, .int .u16 x159006_9, .int .u16 x159007_9, .int .u16 x159008_9, .int .u16 x159009_9, .int .u16 x159010_9, .int .u16 x159011_9], .agg #[.int .i8 ((rd_T62 l1 (ji22)).f0), .int .i8 ((rd_T62 l1 (ji22)).f1)], .agg #[.int .i8 ((rd_T62 l1 x9_2).f0), .int .i8 ((rd_T62 l1 x9_2).f1)]] (by rfl) rfl rfl (by (try simp only [List.map_toArray, List.map_cons, List.map_nil]); first | done | (simp only [hji22]; rfl) | rfl | (simp only [List.length_drop, List.length_take]; rfl)) ?_
 with_reducible refine (spec_StepsBetween.calls k2 x159000_9 x159001_9 x159002_9 x159003_9 x159004_9 x159005_9 x159006_9 x159007_9 x159008_9 x159009_9 x159010_9 x159011_9 ((rd_T62 l1 (ji22)).f0) ((rd_T62 l1 (ji22)).f1) ((rd_T62 l1 x9_2).f0) ((rd_T62 l1 x9_2).f1) t167 t168 _ A26.out).mono ?_
 rintro e w35 ⟨rfl, hb⟩
 refine ⟨_, rfl, ?_⟩
 have n0_ := ak (Kd.R_below (zR HO_8.out) hb)
 have n1_ := ak (blk_below (g := gb158) (o := .cells #[.int .i8 x159000_9, .int .i8 x159001_9, .int .u16 x159002_9, .int .u16 x159003_9, .int .u16 x159004_9, .int .u16 x159005_9, .int .u16 x159006_9, .int .u16 x159007_9, .int .u16 x159008_9, .int .u16 x159009_9, .int .u16 x159010_9, .int .u16 x159011_9] 35 (0, 0)) (zK BK158.out) hb)
 have n2_ := ak (blk_below (g := gb159) (o := .cells #[.int .i16 x160000_2, .slice none 0 0] 32 (0, 0)) (zK BK159.out) hb)
 have n3_ := ak (below_step (by repeat (first | (with_reducible first | exact HB.out | apply below_alloc | apply pw_below_drewN | apply below_drew1 | refine below_set ?_ GE158.out | refine below_set ?_ GE159.out) | exact HB.out)) hb)
 clear HO_8 BK158 BK159 HB
 have HO_8 := n0_
 have BK158 := n1_
 have BK159 := n2_
 have HB := n3_
 clear n0_ n1_ n2_ n3_
 (try clear hb)
 (try clear hb2)
 (try clear hk)
 (try clear hi)
 refine hK.out _ _ ⟨(blk_cell BK158.out 0).trans rfl, (blk_cell BK158.out 1).trans rfl, (blk_cell BK158.out 2).trans rfl, (blk_cell BK158.out 3).trans rfl, (blk_cell BK158.out 4).trans rfl, (blk_cell BK158.out 5).trans rfl, (blk_cell BK158.out 6).trans rfl, (blk_cell BK158.out 7).trans rfl, (blk_cell BK158.out 8).trans rfl, (blk_cell BK158.out 9).trans rfl, (blk_cell BK158.out 10).trans rfl, (blk_cell BK158.out 11).trans rfl, ((HB.out.cell (World.block_lt_of_cell? w _ hw165_0)).trans hw165_0), ((HB.out.cell (World.block_lt_of_cell? w _ hw165_1)).trans hw165_1), ((HB.out.cell (World.block_lt_of_cell? w _ hw166_0)).trans hw166_0), ((HB.out.cell (World.block_lt_of_cell? w _ hw166_1)).trans hw166_1)⟩ (fun hHeld => ?_)
 clear hK K
 refine norm_ (a' := ?_) ?_ ?_
 rotate_left
 {
 show Act.put _ (some 48) _ = _
 simp only [Act.put, zs, zz, zk, i64_w, i32_w]
 rfl
 }
 refine pure_ (i := 11) (N := some 37) (v := ?_) (a' := ?_) (bA 16 4095) rfl rfl (any_of HT_.out (by kernel_rfl)) (fun _ _ _ h => h) (Or.inl ⟨by rfl, ?_⟩) ?_ ?_
 rotate_left
 {
 intro w'
 go_simp
 with_reducible rfl
 }
 rotate_left
 · simp only [Act.put, zs, zz, zk, i64_w, i32_w]; rfl
 refine pure_ (i := 12) (N := some 49) (v := ?_) (a' := ?_) (bA 16 8191) rfl rfl (any_of HT_.out (by kernel_rfl)) (fun _ _ _ h => h) (Or.inl ⟨by rfl, ?_⟩) ?_ ?_
 rotate_left
 {
 intro w'
 go_simp
 with_reducible rfl
 }
 rotate_left
 · simp only [Act.put, zs, zz, zk, i64_w, i32_w]; rfl
 refine pure_ (i := 13) (N := some 50) (v := ?_) (a' := ?_) (bA 16 16383) rfl rfl (any_of HT_.out (by kernel_rfl)) (fun _ _ _ h => h) (Or.inl ⟨by rfl, ?_⟩) ?_ ?_
 rotate_left
 {
 intro w'
 go_simp
 with_reducible rfl
 }
 rotate_left
 · simp only [Act.put, zs, zz, zk, i64_w, i32_w]; rfl
 refine pure_ (i := 14) (N := some 10) (v := ?_) (a' := ?_) (bA 16 32767) rfl rfl (any_of HT_.out (by kernel_rfl)) (fun _ _ _ h => h) (Or.inl ⟨by rfl, ?_⟩) ?_ ?_
 rotate_left
 {
 intro w'
 go_simp
 with_reducible rfl
 }
 rotate_left
 · simp only [Act.put, zs, zz, zk, i64_w, i32_w]; rfl
 refine pure_ (i := 15) (N := some 11) (v := ?_) (a' := ?_) (bA 16 65535) rfl rfl (any_of HT_.out (by kernel_rfl)) (fun _ _ _ h => h) (Or.inl ⟨by rfl, ?_⟩) ?_ ?_
 rotate_left
 {
 intro w'
 go_simp
 with_reducible rfl
 }
 rotate_left
 · simp only [Act.put, zs, zz, zk, i64_w, i32_w]; rfl
 refine done_ (done_of HT_.out (by kernel_rfl)) ?_
 try go_wp2_with (first | ((with_reducible refine gate_builtin (b := .append) (xs := #[.tmp 63, .tmp 65]) rfl ?_); at_builtin; refine Kd.R_append (Kd.int .i64) (w0 := w) w.heap.size rfl (.tmp 63) (.tmp 65) 66 2 (.int .i64 0) 8 rfl Try.underlying66 info2 rfl (by decide) (by omega) u8 x8_2 (wrap64 (x7_2 + t167)) [.int .i64 (wrap64 (x7_2 + t167))] (fun _ => True) (fun _ => False) rfl rfl ?aP (fun _ hk => hk.elim) ?aF ?aO ?aB ?aS ?aL ?_; (case aP => exact rfl); (case aB => exact (by repeat (first | (with_reducible first | exact HB.out | apply below_alloc | apply pw_below_drewN | apply below_drew1 | refine below_set ?_ GE158.out | refine below_set ?_ GE159.out) | exact HB.out))); (case aF => exact (fun _ _ => trivial)); (case aO => exact (zR HO_8.out)); (case aS => exact (below_size (by repeat (first | (with_reducible first | exact HB.out | apply below_alloc | apply pw_below_drewN | apply below_drew1 | refine below_set ?_ GE158.out | refine below_set ?_ GE159.out) | exact HB.out)))); (case aL => have := LMc33.out; omega); intro v173 w36 ho hb hg hat; rw [← Ny172.out] at ho; have n0_ := ak (blk_grown (g := gb158) (o := .cells #[.int .i8 x159000_9, .int .i8 x159001_9, .int .u16 x159002_9, .int .u16 x159003_9, .int .u16 x159004_9, .int .u16 x159005_9, .int .u16 x159006_9, .int .u16 x159007_9, .int .u16 x159008_9, .int .u16 x159009_9, .int .u16 x159010_9, .int .u16 x159011_9] 35 (0, 0)) (zK BK158.out) hg (Kd.R_ne HO_8.out BK158.out (by decide))); have n1_ := ak (blk_grown (g := gb159) (o := .cells #[.int .i16 x160000_2, .slice none 0 0] 32 (0, 0)) (zK BK159.out) hg (Kd.R_ne HO_8.out BK159.out (by decide))); have n2_ := ak (hb); have n3_ := ak (ho); clear BK158 BK159 HB HO_8; have BK158 := n0_; have BK159 := n1_; have HB := n2_; have HO174 := n3_; clear n0_ n1_ n2_ n3_; clear ho hb hg hat))
 go_roundg k2
 case measure => have := HJ9.out; have := HK2.out; omega
 case rel => exact ⟨((t167 == 0)), (wrap64 (x7_2 + t167)), (y172), (wrap64 (x9_2 + 1)), (x160000_2), (by first | rfl | (simp; done) | (simp [*]; done)), (by first | rfl | (simp; done) | (simp [*]; done)), (by first | rfl | (simp; done) | (simp [*]; done)), H', ⟨by have := HJ9.out; have := HK2.out; omega⟩, ⟨(zR HO174.out)⟩, ⟨(zK BK158.out)⟩, ⟨(zK BK159.out)⟩, ⟨by repeat (first | (with_reducible first | exact HB.out | apply below_alloc | apply pw_below_drewN | apply below_drew1 | refine below_set ?_ GE158.out | refine below_set ?_ GE159.out) | exact HB.out)⟩⟩
 }
 · rw [if_neg c33] at H; exact absurd H (by simp)
 }
 }
 {
 rw [if_neg c27] at H
 have c27b0 : (t168 == 0) = false := beq_eq_false_iff_ne.mpr c27
 have c27b1 : (t168 != 0) = true := bne_iff_ne.mpr c27
 simp only [Option.some.injEq, Prod.mk.injEq] at H
 obtain ⟨rfl, rfl, rfl⟩ := H
 try go_wp2
 have n0_ := ak (Kd.R_drew HO_8.out)
 have n1_ := ak (blk_drew BK158.out)
 have n2_ := ak (blk_drew BK159.out)
 have n3_ := ak (below_drew1 HB.out)
 clear HO_8 BK158 BK159 HB
 have HO_8 := n0_
 have BK158 := n1_
 have BK159 := n2_
 have HB := n3_
 clear n0_ n1_ n2_ n3_
 have p165 : 0 ≤ ((ji22) : Int) := of_decide_eq_true (by first | (with_reducible assumption) | assumption)
 have q165 : (ji22) < (l1.length : Int) := of_decide_eq_true (by first | (with_reducible assumption) | assumption)
 obtain ⟨ad165, e165, hx165_0, hx165_1⟩ := at_T62 HR1.out (ji22) p165 q165
 have hw165_1 := hx165_1
 have hw165_0 := hx165_0
 cases e165
 replace hx165_0 := (HB.out.cell (World.block_lt_of_cell? w _ hx165_0)).trans hx165_0
 replace hx165_1 := (HB.out.cell (World.block_lt_of_cell? w _ hx165_1)).trans hx165_1
 replace p165 := eq_true p165
 replace q165 := eq_true q165
 have p166 : 0 ≤ (x9_2 : Int) := of_decide_eq_true (by first | (with_reducible assumption) | assumption)
 have q166 : x9_2 < (l1.length : Int) := of_decide_eq_true (by first | (with_reducible assumption) | assumption)
 obtain ⟨ad166, e166, hx166_0, hx166_1⟩ := at_T62 HR1.out x9_2 p166 q166
 have hw166_1 := hx166_1
 have hw166_0 := hx166_0
 obtain rfl : ad165 = ad166 := (by injection e166)
 replace hx166_0 := (HB.out.cell (World.block_lt_of_cell? w _ hx166_0)).trans hx166_0
 replace hx166_1 := (HB.out.cell (World.block_lt_of_cell? w _ hx166_1)).trans hx166_1
 replace p166 := eq_true p166
 replace q166 := eq_true q166
 refine start_ (n := 16) (S := fun w' => w'.cell? ⟨gb158, 0, none⟩ = some (.int .i8 x159000_9) ∧ w'.cell? ⟨gb158, 1, none⟩ = some (.int .i8 x159001_9) ∧ w'.cell? ⟨gb158, 2, none⟩ = some (.int .u16 x159002_9) ∧ w'.cell? ⟨gb158, 3, none⟩ = some (.int .u16 x159003_9) ∧ w'.cell? ⟨gb158, 4, none⟩ = some (.int .u16 x159004_9) ∧ w'.cell? ⟨gb158, 5, none⟩ = some (.int .u16 x159005_9) ∧ w'.cell? ⟨gb158, 6, none⟩ = some (.int .u16 x159006_9) ∧ w'.cell? ⟨gb158, 7, none⟩ = some (.int .u16 x159007_9) ∧ w'.cell? ⟨gb158, 8, none⟩ = some (.int .u16 x159008_9) ∧ w'.cell? ⟨gb158, 9, none⟩ = some (.int .u16 x159009_9) ∧ w'.cell? ⟨gb158, 10, none⟩ = some (.int .u16 x159010_9) ∧ w'.cell? ⟨gb158, 11, none⟩ = some (.int .u16 x159011_9) ∧ w'.cell? (ad165.add (((ji22)).toNat * 2)) = some (.int .i8 ((rd_T62 l1 (ji22)).f0)) ∧ w'.cell? ⟨(ad165.add (((ji22)).toNat * 2)).block, (ad165.add (((ji22)).toNat * 2)).off + 1, none⟩ = some (.int .i8 ((rd_T62 l1 (ji22)).f1)) ∧ w'.cell? (ad165.add ((x9_2).toNat * 2)) = some (.int .i8 ((rd_T62 l1 x9_2).f0)) ∧ w'.cell? ⟨(ad165.add ((x9_2).toNat * 2)).block, (ad165.add ((x9_2).toNat * 2)).off + 1, none⟩ = some (.int .i8 ((rd_T62 l1 x9_2).f1))) (ds := []) (bA 16 0) (by kernel_rfl) rfl rfl ⟨(blk_cell BK158.out 0).trans rfl, (blk_cell BK158.out 1).trans rfl, (blk_cell BK158.out 2).trans rfl, (blk_cell BK158.out 3).trans rfl, (blk_cell BK158.out 4).trans rfl, (blk_cell BK158.out 5).trans rfl, (blk_cell BK158.out 6).trans rfl, (blk_cell BK158.out 7).trans rfl, (blk_cell BK158.out 8).trans rfl, (blk_cell BK158.out 9).trans rfl, (blk_cell BK158.out 10).trans rfl, (blk_cell BK158.out 11).trans rfl, ((HB.out.cell (World.block_lt_of_cell? w _ hw165_0)).trans hw165_0), ((HB.out.cell (World.block_lt_of_cell? w _ hw165_1)).trans hw165_1), ((HB.out.cell (World.block_lt_of_cell? w _ hw166_0)).trans hw166_0), ((HB.out.cell (World.block_lt_of_cell? w _ hw166_1)).trans hw166_1)⟩ (fun hHeld => ?_); refine with_tabW spec_RopeFor.tab13 spec_RopeFor.bits13 (fun HT_ HW_ => ?_)
 generalize wr.drew = w37 at HO_8 BK158 BK159 HB hx165_0 hx165_1 hx166_0 hx166_1 hHeld ⊢
 refine pure_ (i := 1) (N := some 39) (v := ?_) (a' := ?_) (bA 16 2) rfl rfl (any_of HT_.out (by kernel_rfl)) (fun _ _ _ h => h) (Or.inl ⟨by rfl, ?_⟩) ?_ ?_
 rotate_left
 {
 intro w'
 go_simp
 with_reducible rfl
 }
 rotate_left
 · simp only [Act.put, zs, zz, zk, i64_w, i32_w]; rfl
 refine pure_ (i := 2) (N := some 40) (v := ?_) (a' := ?_) (bA 16 6) rfl rfl (any_of HT_.out (by kernel_rfl)) (fun _ _ _ h => h) (Or.inl ⟨by rfl, ?_⟩) ?_ ?_
 rotate_left
 {
 intro w'
 go_simp
 with_reducible rfl
 }
 rotate_left
 · simp only [Act.put, zs, zz, zk, i64_w, i32_w]; rfl
 refine pure_ (i := 3) (N := some 41) (v := ?_) (a' := ?_) (bA 16 14) rfl rfl (any_of HT_.out (by kernel_rfl)) (fun _ _ _ h => h) (Or.inl ⟨by rfl, ?_⟩) ?_ ?_
 rotate_left
 {
 intro w'
 go_simp
 with_reducible rfl
 }
 rotate_left
 · simp only [Act.put, zs, zz, zk, i64_w, i32_w]; rfl
 refine pure_ (i := 4) (N := some 42) (v := ?_) (a' := ?_) (bA 16 30) rfl rfl (any_of HT_.out (by kernel_rfl)) (fun _ _ _ h => h) (Or.inl ⟨by rfl, ?_⟩) ?_ ?_
 rotate_left
 {
 intro w'
 go_simp
 with_reducible rfl
 }
 rotate_left
 · simp only [Act.put, zs, zz, zk, i64_w, i32_w]; rfl
 refine pure_ (i := 6) (N := some 44) (v := ?_) (a' := ?_) (bA 16 94) rfl rfl (any_of HT_.out (by kernel_rfl)) (fun _ _ _ h => h) (Or.inl ⟨by rfl, ?_⟩) ?_ ?_
 rotate_left
 {
 intro w'
 go_simp
 with_reducible rfl
 }
 rotate_left
 · simp only [Act.put, zs, zz, zk, i64_w, i32_w]; rfl
 refine pure_ (i := 7) (N := some 45) (v := ?_) (a' := ?_) (bA 16 222) rfl rfl (any_of HT_.out (by kernel_rfl)) (fun _ _ _ h => h) (Or.inl ⟨by rfl, ?_⟩) ?_ ?_
 rotate_left
 {
 intro w'
 go_simp
 with_reducible rfl
 }
 rotate_left
 · simp only [Act.put, zs, zz, zk, i64_w, i32_w]; rfl
 refine pure_ (i := 8) (N := some 46) (v := ?_) (a' := ?_) (bA 16 478) rfl rfl (any_of HT_.out (by kernel_rfl)) (fun _ _ _ h => h) (Or.inl ⟨by rfl, ?_⟩) ?_ ?_
 rotate_left
 {
 intro w'
 go_simp
 with_reducible rfl
 }
 rotate_left
 · simp only [Act.put, zs, zz, zk, i64_w, i32_w]; rfl
 refine take_ (i := 0) (N := some 38) (v := ?_) (a' := ?_) (bA 16 479) rfl rfl (take_ofW HT_.out HW_.out (by kernel_rfl)) (fun _ _ _ h => h) (Or.inl ⟨by rfl, ?_⟩) hHeld ?_ ?_
 rotate_left
 {
 rintro w' ⟨s0, s1, s2, s3, s4, s5, s6, s7, s8, s9, s10, s11, s12, s13, s14, s15⟩
 go_simp
 with_reducible rfl
 }
 rotate_left
 · simp only [Act.put, zs, zz, zk, i64_w, i32_w]; rfl
 refine take_ (i := 5) (N := some 43) (v := ?_) (a' := ?_) (bA 16 511) rfl rfl (take_ofW HT_.out HW_.out (by kernel_rfl)) (fun _ _ _ h => h) (Or.inl ⟨by rfl, ?_⟩) hHeld ?_ ?_
 rotate_left
 {
 rintro w' ⟨s0, s1, s2, s3, s4, s5, s6, s7, s8, s9, s10, s11, s12, s13, s14, s15⟩
 go_simp
 with_reducible rfl
 }
 rotate_left
 · simp only [Act.put, zs, zz, zk, i64_w, i32_w]; rfl
 refine take_ (i := 9) (N := some 47) (v := ?_) (a' := ?_) (bA 16 1023) rfl rfl (take_ofW HT_.out HW_.out (by kernel_rfl)) (fun _ _ _ h => h) (Or.inl ⟨by rfl, ?_⟩) hHeld ?_ ?_
 rotate_left
 {
 rintro w' ⟨s0, s1, s2, s3, s4, s5, s6, s7, s8, s9, s10, s11, s12, s13, s14, s15⟩
 go_simp
 with_reducible rfl
 }
 rotate_left
 · simp only [Act.put, zs, zz, zk, i64_w, i32_w]; rfl
 refine one_ (i := 10) (N := some 48) (bA 16 2047) rfl rfl (one_of HT_.out (by kernel_rfl)) (by decide) (fun K hK => ?_)
 refine goes_ Try.func42 (by kernel_rfl) rfl #[.agg #[.int .i8 x159000_9, .int .i8 x159001_9, .int .u16 x159002_9, .int .u16 x159003_9, .int .u16 x159004_9, .int .u16 x159005_9, .int .u16 x159006_9, .int .u16 x159007_9, .int .u16 x159008_9, .int .u16 x159009_9, .int .u16 x159010_9, .int .u16 x159011_9], .agg #[.int .i8 ((rd_T62 l1 (ji22)).f0), .int .i8 ((rd_T62 l1 (ji22)).f1)], .agg #[.int .i8 ((rd_T62 l1 x9_2).f0), .int .i8 ((rd_T62 l1 x9_2).f1)]] (by rfl) rfl rfl (by (try simp only [List.map_toArray, List.map_cons, List.map_nil]); first | done | (simp only [hji22]; rfl) | rfl | (simp only [List.length_drop, List.length_take]; rfl)) ?_
 with_reducible refine (spec_StepsBetween.calls k2 x159000_9 x159001_9 x159002_9 x159003_9 x159004_9 x159005_9 x159006_9 x159007_9 x159008_9 x159009_9 x159010_9 x159011_9 ((rd_T62 l1 (ji22)).f0) ((rd_T62 l1 (ji22)).f1) ((rd_T62 l1 x9_2).f0) ((rd_T62 l1 x9_2).f1) t167 t168 _ A26.out).mono ?_
 rintro e w38 ⟨rfl, hb⟩
 refine ⟨_, rfl, ?_⟩
 have n0_ := ak (Kd.R_below (zR HO_8.out) hb)
 have n1_ := ak (blk_below (g := gb158) (o := .cells #[.int .i8 x159000_9, .int .i8 x159001_9, .int .u16 x159002_9, .int .u16 x159003_9, .int .u16 x159004_9, .int .u16 x159005_9, .int .u16 x159006_9, .int .u16 x159007_9, .int .u16 x159008_9, .int .u16 x159009_9, .int .u16 x159010_9, .int .u16 x159011_9] 35 (0, 0)) (zK BK158.out) hb)
 have n2_ := ak (blk_below (g := gb159) (o := .cells #[.int .i16 x160000_2, .slice none 0 0] 32 (0, 0)) (zK BK159.out) hb)
 have n3_ := ak (below_step (by repeat (first | (with_reducible first | exact HB.out | apply below_alloc | apply pw_below_drewN | apply below_drew1 | refine below_set ?_ GE158.out | refine below_set ?_ GE159.out) | exact HB.out)) hb)
 clear HO_8 BK158 BK159 HB
 have HO_8 := n0_
 have BK158 := n1_
 have BK159 := n2_
 have HB := n3_
 clear n0_ n1_ n2_ n3_
 (try clear hb)
 (try clear hb2)
 (try clear hk)
 (try clear hi)
 refine hK.out _ _ ⟨(blk_cell BK158.out 0).trans rfl, (blk_cell BK158.out 1).trans rfl, (blk_cell BK158.out 2).trans rfl, (blk_cell BK158.out 3).trans rfl, (blk_cell BK158.out 4).trans rfl, (blk_cell BK158.out 5).trans rfl, (blk_cell BK158.out 6).trans rfl, (blk_cell BK158.out 7).trans rfl, (blk_cell BK158.out 8).trans rfl, (blk_cell BK158.out 9).trans rfl, (blk_cell BK158.out 10).trans rfl, (blk_cell BK158.out 11).trans rfl, ((HB.out.cell (World.block_lt_of_cell? w _ hw165_0)).trans hw165_0), ((HB.out.cell (World.block_lt_of_cell? w _ hw165_1)).trans hw165_1), ((HB.out.cell (World.block_lt_of_cell? w _ hw166_0)).trans hw166_0), ((HB.out.cell (World.block_lt_of_cell? w _ hw166_1)).trans hw166_1)⟩ (fun hHeld => ?_)
 clear hK K
 refine norm_ (a' := ?_) ?_ ?_
 rotate_left
 {
 show Act.put _ (some 48) _ = _
 simp only [Act.put, zs, zz, zk, i64_w, i32_w]
 rfl
 }
 refine pure_ (i := 11) (N := some 37) (v := ?_) (a' := ?_) (bA 16 4095) rfl rfl (any_of HT_.out (by kernel_rfl)) (fun _ _ _ h => h) (Or.inl ⟨by rfl, ?_⟩) ?_ ?_
 rotate_left
 {
 intro w'
 go_simp
 with_reducible rfl
 }
 rotate_left
 · simp only [Act.put, zs, zz, zk, i64_w, i32_w]; rfl
 refine pure_ (i := 12) (N := some 49) (v := ?_) (a' := ?_) (bA 16 8191) rfl rfl (any_of HT_.out (by kernel_rfl)) (fun _ _ _ h => h) (Or.inl ⟨by rfl, ?_⟩) ?_ ?_
 rotate_left
 {
 intro w'
 go_simp
 with_reducible rfl
 }
 rotate_left
 · simp only [Act.put, zs, zz, zk, i64_w, i32_w]; rfl
 refine pure_ (i := 13) (N := some 50) (v := ?_) (a' := ?_) (bA 16 16383) rfl rfl (any_of HT_.out (by kernel_rfl)) (fun _ _ _ h => h) (Or.inl ⟨by rfl, ?_⟩) ?_ ?_
 rotate_left
 {
 intro w'
 go_simp
 with_reducible rfl
 }
 rotate_left
 · simp only [Act.put, zs, zz, zk, i64_w, i32_w]; rfl
 refine pure_ (i := 14) (N := some 10) (v := ?_) (a' := ?_) (bA 16 32767) rfl rfl (any_of HT_.out (by kernel_rfl)) (fun _ _ _ h => h) (Or.inl ⟨by rfl, ?_⟩) ?_ ?_
 rotate_left
 {
 intro w'
 go_simp
 with_reducible rfl
 }
 rotate_left
 · simp only [Act.put, zs, zz, zk, i64_w, i32_w]; rfl
 refine pure_ (i := 15) (N := some 11) (v := ?_) (a' := ?_) (bA 16 65535) rfl rfl (any_of HT_.out (by kernel_rfl)) (fun _ _ _ h => h) (Or.inl ⟨by rfl, ?_⟩) ?_ ?_
 rotate_left
 {
 intro w'
 go_simp
 with_reducible rfl
 }
 rotate_left
 · simp only [Act.put, zs, zz, zk, i64_w, i32_w]; rfl
 refine done_ (done_of HT_.out (by kernel_rfl)) ?_
 have hnb39 := NB159_158.out
 have hnc39 := NB158_159.out
 have hcz40_0 : w38.cell? ⟨gb159, 0, none⟩ = some (.int .i16 x160000_2) := (blk_cell BK159.out 0).trans rfl
 have hcz40_1 : w38.cell? ⟨gb159, 1, none⟩ = some (.slice none 0 0) := (blk_cell BK159.out 1).trans rfl
 have hfz40_0 := blk_frozen BK159.out 0
 have hfz40_1 := blk_frozen BK159.out 1
 try go_wp2
 refine bodyPost_ret (results_ct rfl _ _ gb159 32 #[.int .i16 0, .slice none 0 0] (0, 0) _ rfl (by (with_reducible repeat (first | refine blk_drewN ?_ _ | refine blk_drew ?_ | refine blk_alloc ?_ _)); refine blk_put (cs := #[.int .i16 0, .slice none 0 0]) ?_ 1 _ rfl; (with_reducible repeat (first | refine blk_drewN ?_ _ | refine blk_drew ?_ | refine blk_alloc ?_ _)); refine blk_put (cs := #[.int .i16 x160000_2, .slice none 0 0]) ?_ 0 _ rfl; (with_reducible repeat (first | refine blk_drewN ?_ _ | refine blk_drew ?_ | refine blk_alloc ?_ _)); exact BK159.out) Try.underlying32 rfl (by kernel_rfl)) rfl ?_
 exact ⟨_, by first | rfl | (simp [errW_none, errW_some] <;> rfl) | (simp only [← hji22]; first | rfl | (simp [errW_none, errW_some] <;> rfl)) | (simp [*, errW_none, errW_some] <;> rfl), by first | exact Kd.R_nil _ _ _ _ _ | exact Kd.N_nil _ _ _ _ _ | exact Kd.V_nil _ _ _ _ _ | exact Kd.Q_nil _ _ _ _ _ | exact Kd.S_nil _ _ _ _ _, by repeat (first | (with_reducible first | exact HB.out | apply below_alloc | apply pw_below_drewN | apply below_drew1 | refine below_set ?_ GE158.out | refine below_set ?_ GE159.out) | exact HB.out)⟩
 }
 }
 · rw [if_neg c25] at H; exact absurd H (by simp)
 }
 · rw [if_neg c24] at H; exact absurd H (by simp)
 }
 · rw [if_neg c23] at H; exact absurd H (by simp)
 }
 {
 rw [if_neg c21] at H
 have c21b0 : decide (x9_2 < (l1.length : Int)) = false := decide_eq_false c21
 clear c21
 by_cases c41 : x6_2 = true
 {
 subst c41
 have H1 : (some (0, ([] : List Int), 4)) = some (r1, r2, r3) := by rw [if_pos rfl] at H; exact H
 clear H
 have H := H1
 clear H1
 simp only [Option.some.injEq, Prod.mk.injEq] at H
 obtain ⟨rfl, rfl, rfl⟩ := H
 have hnb42 := NB159_158.out
 have hnc42 := NB158_159.out
 have hcz43_0 : wr.cell? ⟨gb159, 0, none⟩ = some (.int .i16 x160000_2) := (blk_cell BK159.out 0).trans rfl
 have hcz43_1 : wr.cell? ⟨gb159, 1, none⟩ = some (.slice none 0 0) := (blk_cell BK159.out 1).trans rfl
 have hfz43_0 := blk_frozen BK159.out 0
 have hfz43_1 := blk_frozen BK159.out 1
 go_wp2
 refine bodyPost_ret (results_ct rfl _ _ gb159 32 #[.int .i16 0, .slice none 0 0] (0, 0) _ rfl (by (with_reducible repeat (first | refine blk_drewN ?_ _ | refine blk_drew ?_ | refine blk_alloc ?_ _)); refine blk_put (cs := #[.int .i16 0, .slice none 0 0]) ?_ 1 _ rfl; (with_reducible repeat (first | refine blk_drewN ?_ _ | refine blk_drew ?_ | refine blk_alloc ?_ _)); refine blk_put (cs := #[.int .i16 x160000_2, .slice none 0 0]) ?_ 0 _ rfl; (with_reducible repeat (first | refine blk_drewN ?_ _ | refine blk_drew ?_ | refine blk_alloc ?_ _)); exact BK159.out) Try.underlying32 rfl (by kernel_rfl)) rfl ?_
 exact ⟨_, by first | rfl | (simp [errW_none, errW_some] <;> rfl) | (simp [*, errW_none, errW_some] <;> rfl), by first | exact Kd.R_nil _ _ _ _ _ | exact Kd.N_nil _ _ _ _ _ | exact Kd.V_nil _ _ _ _ _ | exact Kd.Q_nil _ _ _ _ _ | exact Kd.S_nil _ _ _ _ _, by repeat (first | (with_reducible first | exact HB.out | apply below_alloc | apply pw_below_drewN | apply below_drew1 | refine below_set ?_ GE158.out | refine below_set ?_ GE159.out) | exact HB.out)⟩
 }
 {
 replace c41 := Bool.eq_false_iff.mpr c41
 subst c41
 have H1 : (if x7_2 > 400 then (some (0, ([] : List Int), 3)) else (spec_RopeFor.l1 k2 x8_2 0 (IntKind.i16.wrap (x7_2)) ([] : List Int))) = some (r1, r2, r3) := by rw [if_neg (show ¬ (false = true) by decide)] at H; exact H
 clear H
 have H := H1
 clear H1
 by_cases c44 : x7_2 > 400
 {
 rw [if_pos c44] at H
 have c44b0 : decide (400 < x7_2) = true := decide_eq_true c44
 clear c44
 simp only [Option.some.injEq, Prod.mk.injEq] at H
 obtain ⟨rfl, rfl, rfl⟩ := H
 have hnb45 := NB159_158.out
 have hnc45 := NB158_159.out
 have hcz46_0 : wr.cell? ⟨gb159, 0, none⟩ = some (.int .i16 x160000_2) := (blk_cell BK159.out 0).trans rfl
 have hcz46_1 : wr.cell? ⟨gb159, 1, none⟩ = some (.slice none 0 0) := (blk_cell BK159.out 1).trans rfl
 have hfz46_0 := blk_frozen BK159.out 0
 have hfz46_1 := blk_frozen BK159.out 1
 go_wp2
 refine bodyPost_ret (results_ct rfl _ _ gb159 32 #[.int .i16 0, .slice none 0 0] (0, 0) _ rfl (by (with_reducible repeat (first | refine blk_drewN ?_ _ | refine blk_drew ?_ | refine blk_alloc ?_ _)); refine blk_put (cs := #[.int .i16 0, .slice none 0 0]) ?_ 1 _ rfl; (with_reducible repeat (first | refine blk_drewN ?_ _ | refine blk_drew ?_ | refine blk_alloc ?_ _)); refine blk_put (cs := #[.int .i16 x160000_2, .slice none 0 0]) ?_ 0 _ rfl; (with_reducible repeat (first | refine blk_drewN ?_ _ | refine blk_drew ?_ | refine blk_alloc ?_ _)); exact BK159.out) Try.underlying32 rfl (by kernel_rfl)) rfl ?_
 exact ⟨_, by first | rfl | (simp [errW_none, errW_some] <;> rfl) | (simp [*, errW_none, errW_some] <;> rfl), by first | exact Kd.R_nil _ _ _ _ _ | exact Kd.N_nil _ _ _ _ _ | exact Kd.V_nil _ _ _ _ _ | exact Kd.Q_nil _ _ _ _ _ | exact Kd.S_nil _ _ _ _ _, by repeat (first | (with_reducible first | exact HB.out | apply below_alloc | apply pw_below_drewN | apply below_drew1 | refine below_set ?_ GE158.out | refine below_set ?_ GE159.out) | exact HB.out)⟩
 }
 {
 rw [if_neg c44] at H
 have c44b0 : decide (400 < x7_2) = false := decide_eq_false c44
 clear c44
 have H' := ak H
 clear H
 go_wp2_with (first | ((with_reducible refine gate_dst (N := 12) rfl ?_); refine box_event ?hg (N := 12) ?hd (cs := #[.int .i16 0, .slice none 0 0]) (t := 32) ?hr ?_; (case hd => rfl); (case hg => rfl); (case hr => first | (go_simp; done) | (go_simp; rfl)); intro gb175 hg w47 hbox hb; have BK175 := ak (hbox); have GW175 := ak ((by rw [hg]; exact (below_size (by repeat (first | (with_reducible first | exact HB.out | apply below_alloc | apply pw_below_drewN | apply below_drew1 | refine below_set ?_ GE158.out | refine below_set ?_ GE159.out) | exact HB.out))) : w.heap.size ≤ gb175)); have GE175 := ak ((by rw [hg]; exact (below_size (by repeat (first | (with_reducible first | exact HB.out | apply below_alloc | apply pw_below_drewN | apply below_drew1 | refine below_set ?_ GE158.out | refine below_set ?_ GE159.out) | exact HB.out))) : w.heap.size ≤ gb175)); have NB158_175 := ak ((by rw [hg]; exact Nat.ne_of_lt (blk_lt (g := gb158) (o := .cells #[.int .i8 x159000_9, .int .i8 x159001_9, .int .u16 x159002_9, .int .u16 x159003_9, .int .u16 x159004_9, .int .u16 x159005_9, .int .u16 x159006_9, .int .u16 x159007_9, .int .u16 x159008_9, .int .u16 x159009_9, .int .u16 x159010_9, .int .u16 x159011_9] 35 (0, 0)) (zK BK158.out)) : gb158 ≠ gb175)); have NB175_158 := ak ((by rw [hg]; exact Nat.ne_of_gt (blk_lt (g := gb158) (o := .cells #[.int .i8 x159000_9, .int .i8 x159001_9, .int .u16 x159002_9, .int .u16 x159003_9, .int .u16 x159004_9, .int .u16 x159005_9, .int .u16 x159006_9, .int .u16 x159007_9, .int .u16 x159008_9, .int .u16 x159009_9, .int .u16 x159010_9, .int .u16 x159011_9] 35 (0, 0)) (zK BK158.out)) : gb175 ≠ gb158)); have NB159_175 := ak ((by rw [hg]; exact Nat.ne_of_lt (blk_lt (g := gb159) (o := .cells #[.int .i16 x160000_2, .slice none 0 0] 32 (0, 0)) (zK BK159.out)) : gb159 ≠ gb175)); have NB175_159 := ak ((by rw [hg]; exact Nat.ne_of_gt (blk_lt (g := gb159) (o := .cells #[.int .i16 x160000_2, .slice none 0 0] 32 (0, 0)) (zK BK159.out)) : gb175 ≠ gb159)); replace HO_8 := kR HO_8 hb; replace BK158 := kK BK158 hb; replace BK159 := kK BK159 hb; replace HB := kB2 HB GE158 GE159 hb; clear hb hbox hg; have hnb48 := NB175_158.out; have hnc48 := NB158_175.out; have hnb49 := NB175_159.out; have hnc49 := NB159_175.out; obtain ⟨hcz50_0, hcz50_1, hfz50_0, hfz50_1⟩ := cz2 w47 BK175))
 go_loopg [13] k2 (fun kq v13 w' => ∃ (x13_3 : Int) (x176001_3 : List Int) (u176001 : Value), v13 = .int .i64 x13_3 ∧ Aside0 (spec_RopeFor.l1 kq x8_2 x13_3 (IntKind.i16.wrap (x7_2)) x176001_3 = some (r1, r2, r3)) ∧ Aside0 (kq ≤ k2) ∧ Aside0 (Kd.R (Kd.int .i64) 2 w' w.heap.size (fun _ => True) u8 x8_2) ∧ Aside0 (Kd.R (Kd.int .i16) 29 w' w.heap.size (fun _ => True) u176001 x176001_3) ∧ Aside0 (w'.heap[gb158]? = some (.cells #[.int .i8 x159000_9, .int .i8 x159001_9, .int .u16 x159002_9, .int .u16 x159003_9, .int .u16 x159004_9, .int .u16 x159005_9, .int .u16 x159006_9, .int .u16 x159007_9, .int .u16 x159008_9, .int .u16 x159009_9, .int .u16 x159010_9, .int .u16 x159011_9] 35 (0, 0))) ∧ Aside0 (w'.heap[gb159]? = some (.cells #[.int .i16 x160000_2, (.slice none 0 0)] 32 (0, 0))) ∧ Aside0 (w'.heap[gb175]? = some (.cells #[.int .i16 (IntKind.i16.wrap (x7_2)), u176001] 32 (0, 0))) ∧ Aside0 (Below w.heap.size w w'))
 case atStart => exact ⟨(0), (([] : List Int)), (.slice none 0 0), (by first | rfl | (simp; done) | (simp [*]; done)), H', ⟨Nat.le_refl _⟩, ⟨by (with_reducible repeat (first | apply Kd.R_alloc | apply Kd.R_drewN | apply Kd.R_drew)); exact Kd.R_mono (Kd.R_far (p := ⟨gb175, 1, none⟩) (Kd.R_far (p := ⟨gb175, 0, none⟩) (Kd.R_types HO_8.out BK175.out (by decide)) (fun _ hk => hk.2) (.int .i16 (IntKind.i16.wrap (x7_2)))) (fun _ hk => hk.2) (.slice none 0 0)) (fun _ hk => trivial)⟩, ⟨by first | exact Kd.R_nil _ _ _ _ _ | exact Kd.N_nil _ _ _ _ _ | exact Kd.V_nil _ _ _ _ _ | exact Kd.Q_nil _ _ _ _ _ | exact Kd.S_nil _ _ _ _ _⟩, ⟨by (with_reducible repeat (first | refine blk_drewN ?_ _ | refine blk_drew ?_ | refine blk_alloc ?_ _)); refine blk_far ?_ NB158_175.out _; (with_reducible repeat (first | refine blk_drewN ?_ _ | refine blk_drew ?_ | refine blk_alloc ?_ _)); refine blk_far ?_ NB158_175.out _; (with_reducible repeat (first | refine blk_drewN ?_ _ | refine blk_drew ?_ | refine blk_alloc ?_ _)); exact BK158.out⟩, ⟨by (with_reducible repeat (first | refine blk_drewN ?_ _ | refine blk_drew ?_ | refine blk_alloc ?_ _)); refine blk_far ?_ NB159_175.out _; (with_reducible repeat (first | refine blk_drewN ?_ _ | refine blk_drew ?_ | refine blk_alloc ?_ _)); refine blk_far ?_ NB159_175.out _; (with_reducible repeat (first | refine blk_drewN ?_ _ | refine blk_drew ?_ | refine blk_alloc ?_ _)); exact BK159.out⟩, ⟨by (with_reducible repeat (first | refine blk_drewN ?_ _ | refine blk_drew ?_ | refine blk_alloc ?_ _)); refine blk_put (cs := #[.int .i16 (IntKind.i16.wrap (x7_2)), .slice none 0 0]) ?_ 1 _ rfl; (with_reducible repeat (first | refine blk_drewN ?_ _ | refine blk_drew ?_ | refine blk_alloc ?_ _)); refine blk_put (cs := #[.int .i16 0, .slice none 0 0]) ?_ 0 _ rfl; (with_reducible repeat (first | refine blk_drewN ?_ _ | refine blk_drew ?_ | refine blk_alloc ?_ _)); exact BK175.out⟩, ⟨by repeat (first | (with_reducible first | exact HB.out | apply below_alloc | apply pw_below_drewN | apply below_drew1 | refine below_set ?_ GE158.out | refine below_set ?_ GE159.out | refine below_set ?_ GE175.out) | exact HB.out)⟩⟩
 case round => (
 clear H'
 try clear c4
 try clear c21
 try clear c21b0
 try clear c41
 try clear c44
 try clear c44b0
 try clear hcz50_0
 try clear hcz50_1
 try clear hfz50_0
 try clear hfz50_1
 obtain ⟨x13_3, x176001_3, u176001, rfl, HA, HK3, HO_8, HO_176001, BK158, BK159, BK175, HB⟩ := hrel
 cases gk with
 | zero => exact absurd HA.out (by simp [spec_RopeFor.l1])
 | succ k3 => (
 have H := HA.out
 clear HA
 simp only [spec_RopeFor.l1] at H
 by_cases c51 : x13_3 < (x8_2.length : Int)
 {
 rw [if_pos c51] at H
 have c51b0 : decide (x13_3 < (x8_2.length : Int)) = true := decide_eq_true c51
 clear c51
 by_cases c52 : 0 ≤ x13_3
 {
 rw [if_pos c52] at H
 have c52b0 : decide (0 ≤ x13_3) = true := decide_eq_true c52
 clear c52
 by_cases c53 : x176001_3.length < 70368744177664
 {
 rw [if_pos c53] at H
 have LMc53 := ak c53
 clear c53
 obtain ⟨y177, hy177⟩ : ∃ y_ : List Int, y_ = (x176001_3 ++ [IntKind.i16.wrap (rd x8_2 x13_3)]) := ⟨_, rfl⟩
 replace H : (spec_RopeFor.l1 k3 x8_2 (wrap64 (x13_3 + 1)) (IntKind.i16.wrap (x7_2)) y177) = some (r1, r2, r3) := by first | (rw [hy177]; with_reducible exact H) | (have H2_ := (Option.bind_some _ _).symm.trans H; rw [hy177]; with_reducible exact H2_) | (have H2_ := (Option.bind_some _ _).symm.trans H; with_reducible exact H2_) | with_reducible exact H | (rw [hy177]; exact H) | exact H
 have Ny177 := ak hy177
 clear hy177
 have H' := ak H
 clear H
 obtain ⟨Ao54, co54, eo54⟩ := Kd.R_slice HO_8.out
 subst eo54
 try go_wp2
 have n0_ := ak (Kd.R_drew HO_8.out)
 have n1_ := ak (Kd.R_drew HO_176001.out)
 have n2_ := ak (blk_drew BK158.out)
 have n3_ := ak (blk_drew BK159.out)
 have n4_ := ak (blk_drew BK175.out)
 have n5_ := ak (below_drew1 HB.out)
 clear HO_8 HO_176001 BK158 BK159 BK175 HB
 have HO_8 := n0_
 have HO_176001 := n1_
 have BK158 := n2_
 have BK159 := n3_
 have BK175 := n4_
 have HB := n5_
 clear n0_ n1_ n2_ n3_ n4_ n5_
 have p176 : 0 ≤ (x13_3 : Int) := of_decide_eq_true (by first | (with_reducible assumption) | assumption)
 have q176 : x13_3 < (x8_2.length : Int) := of_decide_eq_true (by first | (with_reducible assumption) | assumption)
 obtain ⟨ad176, e176, hx176_0⟩ := Kd.at_int (Kd.R_reads' HO_8.out).2.2 x13_3 p176 q176
 cases e176
 replace p176 := eq_true p176
 replace q176 := eq_true q176
 refine start_ (n := 11) (S := fun w' => w'.cell? ⟨gb175, 0, none⟩ = some (.int .i16 (IntKind.i16.wrap (x7_2))) ∧ w'.cell? ⟨gb175, 1, none⟩ = some (u176001) ∧ w'.cell? (ad176.add (x13_3).toNat) = some (.int .i64 (rd x8_2 x13_3))) (ds := [8, 10]) (bA 11 0) (by kernel_rfl) rfl rfl ⟨(blk_cell BK175.out 0).trans rfl, (blk_cell BK175.out 1).trans rfl, hx176_0⟩ (fun hHeld => ?_); refine with_tabW spec_RopeFor.tab27 spec_RopeFor.bits27 (fun HT_ HW_ => ?_)
 generalize wr.drew = w55 at HO_8 HO_176001 BK158 BK159 BK175 HB hx176_0 hHeld ⊢
 refine pure_ (i := 0) (N := some 81) (v := ?_) (a' := ?_) (bA 11 1) rfl rfl (any_of HT_.out (by kernel_rfl)) (fun _ _ _ h => h) (Or.inl ⟨by rfl, ?_⟩) ?_ ?_
 rotate_left
 {
 intro w'
 go_simp
 with_reducible rfl
 }
 rotate_left
 · simp only [Act.put, zs, zz, zk, i64_w, i32_w]; rfl
 refine pure_ (i := 2) (N := some 83) (v := ?_) (a' := ?_) (bA 11 5) rfl rfl (any_of HT_.out (by kernel_rfl)) (fun _ _ _ h => h) (Or.inl ⟨by rfl, ?_⟩) ?_ ?_
 rotate_left
 {
 intro w'
 go_simp
 with_reducible rfl
 }
 rotate_left
 · simp only [Act.put, zs, zz, zk, i64_w, i32_w]; rfl
 refine pure_ (i := 3) (N := some 84) (v := ?_) (a' := ?_) (bA 11 13) rfl rfl (any_of HT_.out (by kernel_rfl)) (fun _ _ _ h => h) (Or.inl ⟨by rfl, ?_⟩) ?_ ?_
 rotate_left
 {
 intro w'
 go_simp
 with_reducible rfl
 }
 rotate_left
 · simp only [Act.put, zs, zz, zk, i64_w, i32_w]; rfl
 refine pure_ (i := 4) (N := some 85) (v := ?_) (a' := ?_) (bA 11 29) rfl rfl (any_of HT_.out (by kernel_rfl)) (fun _ _ _ h => h) (Or.inl ⟨by rfl, ?_⟩) ?_ ?_
 rotate_left
 {
 intro w'
 go_simp
 with_reducible rfl
 }
 rotate_left
 · simp only [Act.put, zs, zz, zk, i64_w, i32_w]; rfl
 refine take_ (i := 1) (N := some 82) (v := ?_) (a' := ?_) (bA 11 31) rfl rfl (take_ofW HT_.out HW_.out (by kernel_rfl)) (fun _ _ _ h => h) (Or.inl ⟨by rfl, ?_⟩) hHeld ?_ ?_
 rotate_left
 {
 rintro w' ⟨s0, s1, s2⟩
 go_simp
 with_reducible rfl
 }
 rotate_left
 · simp only [Act.put, zs, zz, zk, i64_w, i32_w]; rfl
 refine take_ (i := 5) (N := some 86) (v := ?_) (a' := ?_) (bA 11 63) rfl rfl (take_ofW HT_.out HW_.out (by kernel_rfl)) (fun _ _ _ h => h) (Or.inl ⟨by rfl, ?_⟩) hHeld ?_ ?_
 rotate_left
 {
 rintro w' ⟨s0, s1, s2⟩
 go_simp
 with_reducible rfl
 }
 rotate_left
 · simp only [Act.put, zs, zz, zk, i64_w, i32_w]; rfl
 refine pure_ (i := 6) (N := some 87) (v := ?_) (a' := ?_) (bA 11 127) rfl rfl (any_of HT_.out (by kernel_rfl)) (fun _ _ _ h => h) (Or.inl ⟨by rfl, ?_⟩) ?_ ?_
 rotate_left
 {
 intro w'
 go_simp
 with_reducible rfl
 }
 rotate_left
 · simp only [Act.put, zs, zz, zk, i64_w, i32_w]; rfl
 refine one_ (i := 7) (N := some 88) (bA 11 255) rfl rfl (one_of HT_.out (by kernel_rfl)) (by decide) (fun K hK => ?_)
 refine value_ (w1 := ?_) (v := ?_) (by rfl) rfl ?_ ?_
 rotate_left 2
 {
 go_simp
 constructor
 · rfl
 · rfl
 }
 refine hK.out _ _ ⟨(blk_cell (blk_alloc BK175.out _) 0).trans rfl, (blk_cell (blk_alloc BK175.out _) 1).trans rfl, (World.cell?_alloc_lt _ _ _ (World.block_lt_of_cell? _ _ (hHeld.2.2))).trans (hHeld.2.2)⟩ (fun hHeld => ?_)
 clear hK K
 refine norm_ (a' := ?_) ?_ ?_
 rotate_left
 {
 show Act.put _ (some 88) _ = _
 simp only [Act.put, zs, zz, zk, i64_w, i32_w]
 rfl
 }
 refine last_ (i := 8) (N := some 89) #[true, true, true, true, true, true, true, true, true, false, false] rfl rfl (one_of HT_.out (by kernel_rfl)) (by decide) (fun K hK => ?_)
 refine Kd.R_append_step (Kd.int .i16) (w0 := w) w.heap.size (by rfl) (.tmp 82) (.tmp 88) 30 29 (.int .i16 0) 2 rfl Try.underlying30 info29 rfl (by decide) (by omega) u176001 x176001_3 (IntKind.i16.wrap (rd x8_2 x13_3)) [.int .i16 (IntKind.i16.wrap (rd x8_2 x13_3))] (fun _ => True) (fun _ => False) rfl rfl ?aP (fun _ hk => hk.elim) ?aF ?aO ?aB ?aS ?aL ?_
 (case aP => exact rfl)
 (case aB => exact (by repeat (first | (with_reducible first | exact HB.out | apply below_alloc | apply pw_below_drewN | apply below_drew1 | refine below_set ?_ GE158.out | refine below_set ?_ GE159.out | refine below_set ?_ GE175.out) | exact HB.out)))
 (case aF => exact (fun _ _ => trivial))
 (case aO => exact (zR HO_176001.out))
 (case aS => exact (below_size (by repeat (first | (with_reducible first | exact HB.out | apply below_alloc | apply pw_below_drewN | apply below_drew1 | refine below_set ?_ GE158.out | refine below_set ?_ GE159.out | refine below_set ?_ GE175.out) | exact HB.out))))
 (case aL => have := LMc53.out; omega)
 intro v178 w56 ho hb hg hat
 rw [← Ny177.out] at ho
 have n0_ := ak (Kd.R_over' (zR HO_8.out) (Kd.R_typed (zR HO_176001.out)) (by decide) hg)
 have n1_ := ak (blk_grown (g := gb158) (o := .cells #[.int .i8 x159000_9, .int .i8 x159001_9, .int .u16 x159002_9, .int .u16 x159003_9, .int .u16 x159004_9, .int .u16 x159005_9, .int .u16 x159006_9, .int .u16 x159007_9, .int .u16 x159008_9, .int .u16 x159009_9, .int .u16 x159010_9, .int .u16 x159011_9] 35 (0, 0)) (zK BK158.out) hg (Kd.R_ne HO_176001.out BK158.out (by decide)))
 have n2_ := ak (blk_grown (g := gb159) (o := .cells #[.int .i16 x160000_2, .slice none 0 0] 32 (0, 0)) (zK BK159.out) hg (Kd.R_ne HO_176001.out BK159.out (by decide)))
 have n3_ := ak (blk_grown (g := gb175) (o := .cells #[.int .i16 (IntKind.i16.wrap (x7_2)), u176001] 32 (0, 0)) (zK BK175.out) hg (Kd.R_ne HO_176001.out BK175.out (by decide)))
 have n4_ := ak (hb)
 have n5_ := ak (ho)
 clear HO_8 BK158 BK159 BK175 HB HO_176001
 have HO_8 := n0_
 have BK158 := n1_
 have BK159 := n2_
 have BK175 := n3_
 have HB := n4_
 have HO179 := n5_
 clear n0_ n1_ n2_ n3_ n4_ n5_ ho hb hg hat
 obtain ⟨Ao57, co57, eo57⟩ := Kd.R_slice HO179.out
 (first | subst eo57 | (injection eo57 with f1_ f2_ f3_; have f4_ := f1_.symm; have f5_ := f3_.symm; clear f1_ f2_ f3_; subst f4_; subst f5_))
 refine hK.out _ _ ?_
 clear hK K
 refine norm_ (a' := ?_) ?_ ?_
 rotate_left
 {
 show Act.put _ (some 89) _ = _
 simp only [Act.put, zs, zz, zk, i64_w, i32_w]
 rfl
 }
 refine pure_ (i := 9) (N := some 90) (v := ?_) (a' := ?_) (bA 11 1023) rfl rfl (any_of HT_.out (by kernel_rfl)) (fun _ _ _ h => h) (Or.inl ⟨by rfl, ?_⟩) ?_ ?_
 rotate_left
 {
 intro w'
 go_simp
 with_reducible rfl
 }
 rotate_left
 · simp only [Act.put, zs, zz, zk, i64_w, i32_w]; rfl
 refine last_ (i := 10) (N := none) #[true, true, true, true, true, true, true, true, true, true, true] rfl rfl (one_of HT_.out (by kernel_rfl)) (by decide) (fun K hK => ?_)
 have hs58 : w56.cell? ⟨gb175, 1, none⟩ = some (u176001) := (blk_cell BK175.out 1).trans rfl
 have hfs58 := blk_frozen BK175.out 1
 have hns58_0 := NB158_175.out
 have hns58_1 := NB159_175.out
 have hms58_0 := NB175_158.out
 have hms58_1 := NB175_159.out
 refine skip_ (w1 := ?_) (by rfl) rfl ?_ ?_
 rotate_left
 · go_simp; rfl
 refine hK.out _ _ ?_
 clear hK K
 refine done_ (done_of HT_.out (by kernel_rfl)) ?_
 try go_wp2
 go_roundg k3
 case measure => have := HJ9.out; have := HK2.out; have := HK3.out; omega
 case rel => exact ⟨(wrap64 (x13_3 + 1)), (y177), (.slice Ao57 y177.length co57), (by first | rfl | (simp; done) | (simp [*]; done)), H', ⟨by have := HJ9.out; have := HK2.out; have := HK3.out; omega⟩, ⟨by (with_reducible repeat (first | apply Kd.R_alloc | apply Kd.R_drewN | apply Kd.R_drew)); exact Kd.R_mono (Kd.R_far (p := ⟨gb175, 1, none⟩) (Kd.R_types HO_8.out BK175.out (by decide)) (fun _ hk => hk.2) (.slice Ao57 y177.length co57)) (fun _ hk => trivial)⟩, ⟨by (with_reducible repeat (first | apply Kd.R_alloc | apply Kd.R_drewN | apply Kd.R_drew)); exact Kd.R_mono (Kd.R_far (p := ⟨gb175, 1, none⟩) (Kd.R_types HO179.out BK175.out (by decide)) (fun _ hk => hk.2) (.slice Ao57 y177.length co57)) (fun _ hk => trivial)⟩, ⟨by (with_reducible repeat (first | refine blk_drewN ?_ _ | refine blk_drew ?_ | refine blk_alloc ?_ _)); refine blk_far ?_ NB158_175.out _; (with_reducible repeat (first | refine blk_drewN ?_ _ | refine blk_drew ?_ | refine blk_alloc ?_ _)); exact BK158.out⟩, ⟨by (with_reducible repeat (first | refine blk_drewN ?_ _ | refine blk_drew ?_ | refine blk_alloc ?_ _)); refine blk_far ?_ NB159_175.out _; (with_reducible repeat (first | refine blk_drewN ?_ _ | refine blk_drew ?_ | refine blk_alloc ?_ _)); exact BK159.out⟩, ⟨by (with_reducible repeat (first | refine blk_drewN ?_ _ | refine blk_drew ?_ | refine blk_alloc ?_ _)); refine blk_put (cs := #[.int .i16 (IntKind.i16.wrap (x7_2)), u176001]) ?_ 1 _ rfl; (with_reducible repeat (first | refine blk_drewN ?_ _ | refine blk_drew ?_ | refine blk_alloc ?_ _)); exact BK175.out⟩, ⟨by repeat (first | (with_reducible first | exact HB.out | apply below_alloc | apply pw_below_drewN | apply below_drew1 | refine below_set ?_ GE158.out | refine below_set ?_ GE159.out | refine below_set ?_ GE175.out) | exact HB.out)⟩⟩
 }
 · rw [if_neg c53] at H; exact absurd H (by simp)
 }
 · rw [if_neg c52] at H; exact absurd H (by simp)
 }
 {
 rw [if_neg c51] at H
 have c51b0 : decide (x13_3 < (x8_2.length : Int)) = false := decide_eq_false c51
 clear c51
 simp only [Option.some.injEq, Prod.mk.injEq] at H
 obtain ⟨rfl, rfl, rfl⟩ := H
 obtain ⟨Ao59, co59, eo59⟩ := Kd.R_slice HO_8.out
 subst eo59
 have hnb60 := NB175_158.out
 have hnc60 := NB158_175.out
 have hnb61 := NB175_159.out
 have hnc61 := NB159_175.out
 have hcz62_0 : wr.cell? ⟨gb175, 0, none⟩ = some (.int .i16 (IntKind.i16.wrap (x7_2))) := (blk_cell BK175.out 0).trans rfl
 have hcz62_1 : wr.cell? ⟨gb175, 1, none⟩ = some (u176001) := (blk_cell BK175.out 1).trans rfl
 have hfz62_0 := blk_frozen BK175.out 0
 have hfz62_1 := blk_frozen BK175.out 1
 have hnb63 := NB159_158.out
 have hnc63 := NB158_159.out
 have hcz64_0 : wr.cell? ⟨gb159, 0, none⟩ = some (.int .i16 x160000_2) := (blk_cell BK159.out 0).trans rfl
 have hcz64_1 : wr.cell? ⟨gb159, 1, none⟩ = some (.slice none 0 0) := (blk_cell BK159.out 1).trans rfl
 have hfz64_0 := blk_frozen BK159.out 0
 have hfz64_1 := blk_frozen BK159.out 1
 obtain ⟨Ao65, co65, eo65⟩ := Kd.R_slice HO_176001.out
 subst eo65
 go_wp2
 refine bodyPost_ret (results_ct rfl _ _ gb159 32 #[.int .i16 (IntKind.i16.wrap (x7_2)), .slice Ao65 x176001_3.length co65] (0, 0) _ rfl (by (with_reducible repeat (first | refine blk_drewN ?_ _ | refine blk_drew ?_ | refine blk_alloc ?_ _)); refine blk_put (cs := #[.int .i16 (IntKind.i16.wrap (x7_2)), .slice none 0 0]) ?_ 1 _ rfl; (with_reducible repeat (first | refine blk_drewN ?_ _ | refine blk_drew ?_ | refine blk_alloc ?_ _)); refine blk_put (cs := #[.int .i16 x160000_2, .slice none 0 0]) ?_ 0 _ rfl; (with_reducible repeat (first | refine blk_drewN ?_ _ | refine blk_drew ?_ | refine blk_alloc ?_ _)); exact BK159.out) Try.underlying32 rfl (by kernel_rfl)) rfl ?_
 exact ⟨_, by first | rfl | (simp [errW_none, errW_some] <;> rfl) | (simp [*, errW_none, errW_some] <;> rfl), by (with_reducible repeat (first | apply Kd.R_alloc | apply Kd.R_drewN | apply Kd.R_drew)); exact Kd.R_mono (Kd.R_far (p := ⟨gb159, 1, none⟩) (Kd.R_far (p := ⟨gb159, 0, none⟩) (Kd.R_types HO_176001.out BK159.out (by decide)) (fun _ hk => hk.2) (.int .i16 (IntKind.i16.wrap (x7_2)))) (fun _ hk => hk.2) (.slice Ao65 x176001_3.length co65)) (fun _ hk => trivial), by repeat (first | (with_reducible first | exact HB.out | apply below_alloc | apply pw_below_drewN | apply below_drew1 | refine below_set ?_ GE158.out | refine below_set ?_ GE159.out | refine below_set ?_ GE175.out) | exact HB.out)⟩
 }
 )
 )
 }
 }
 }
 )
 )
 }
 )
 )
 }
 }
 {
 replace c4 := Bool.eq_false_iff.mpr c4
 subst c4
 have H1 : (some (0, ([] : List Int), 1)) = some (r1, r2, r3) := by rw [if_neg (show ¬ (false = true) by decide)] at H; exact H
 clear H
 have H := H1
 clear H1
 simp only [Option.some.injEq, Prod.mk.injEq] at H
 obtain ⟨rfl, rfl, rfl⟩ := H
 go_enter Try.func8, Try.ntmps8
 go_wp2_with (first | ((with_reducible refine gate_dst (N := 2) rfl ?_); refine box_event ?hg (N := 2) ?hd (cs := #[.int .i8 a0_0, .int .i8 a0_1, .int .u16 a0_2, .int .u16 a0_3, .int .u16 a0_4, .int .u16 a0_5, .int .u16 a0_6, .int .u16 a0_7, .int .u16 a0_8, .int .u16 a0_9, .int .u16 a0_10, .int .u16 a0_11]) (t := 35) ?hr ?_; (case hd => rfl); (case hg => rfl); (case hr => first | (go_simp; done) | (go_simp; rfl)); intro gb158 hg w66 hbox hb; have BK158 := ak (hbox); have GW158 := ak ((by rw [hg]; exact (below_size (zB HB.out)) : w.heap.size ≤ gb158)); have GE158 := ak ((by rw [hg]; exact (below_size (zB HB.out)) : w.heap.size ≤ gb158)); replace HB := kB HB hb; clear hb hbox hg) | ((with_reducible refine gate_dst (N := 4) rfl ?_); refine box_event ?hg (N := 4) ?hd (cs := #[.int .i16 0, .slice none 0 0]) (t := 32) ?hr ?_; (case hd => rfl); (case hg => rfl); (case hr => first | (go_simp; done) | (go_simp; rfl)); intro gb159 hg w67 hbox hb; have BK159 := ak (hbox); have GW159 := ak ((by rw [hg]; exact (below_size (zBG HB.out GE158.out)) : w.heap.size ≤ gb159)); have GE159 := ak ((by rw [hg]; exact (below_size (zBG HB.out GE158.out)) : w.heap.size ≤ gb159)); have NB158_159 := ak ((by rw [hg]; exact Nat.ne_of_lt (blk_lt (g := gb158) (o := .cells #[.int .i8 a0_0, .int .i8 a0_1, .int .u16 a0_2, .int .u16 a0_3, .int .u16 a0_4, .int .u16 a0_5, .int .u16 a0_6, .int .u16 a0_7, .int .u16 a0_8, .int .u16 a0_9, .int .u16 a0_10, .int .u16 a0_11] 35 (0, 0)) (zK BK158.out)) : gb158 ≠ gb159)); have NB159_158 := ak ((by rw [hg]; exact Nat.ne_of_gt (blk_lt (g := gb158) (o := .cells #[.int .i8 a0_0, .int .i8 a0_1, .int .u16 a0_2, .int .u16 a0_3, .int .u16 a0_4, .int .u16 a0_5, .int .u16 a0_6, .int .u16 a0_7, .int .u16 a0_8, .int .u16 a0_9, .int .u16 a0_10, .int .u16 a0_11] 35 (0, 0)) (zK BK158.out)) : gb159 ≠ gb158)); replace BK158 := kK BK158 hb; replace HB := kB1 HB GE158 hb; clear hb hbox hg) | ((with_reducible refine gate_callee (f := 40) rfl ?_); refine goesL_ (some 14) rfl rfl Try.func40 (by kernel_rfl) rfl #[.pointer (some ⟨gb158, 0, none⟩)] rfl (by (try simp only [List.map_toArray, List.map_cons, List.map_nil]); first | done | rfl | (simp only [List.length_drop, List.length_take]; rfl)) ?_; (with_reducible refine (spec_l01Ok.calls k gb158 a0_0 a0_1 a0_2 a0_3 a0_4 a0_5 a0_6 a0_7 a0_8 a0_9 a0_10 a0_11 false _ ?side1 A3.out).mono ?_); (case side1 => exact (by first | exact BK158.out | ((with_reducible repeat (first | refine blk_drewN ?_ _ | refine blk_drew ?_ | refine blk_alloc ?_ _)); exact BK158.out))); rintro e w' ⟨rfl, ⟨nd, rfl⟩⟩; refine ⟨_, rfl, ?_⟩; (try (rw [drewN_self w67]; generalize hq_ : World.drewN w67 _ = w67; have n0_ : Aside0 (w67.heap[gb158]? = some (.cells #[.int .i8 a0_0, .int .i8 a0_1, .int .u16 a0_2, .int .u16 a0_3, .int .u16 a0_4, .int .u16 a0_5, .int .u16 a0_6, .int .u16 a0_7, .int .u16 a0_8, .int .u16 a0_9, .int .u16 a0_10, .int .u16 a0_11] 35 (0, 0))) := ⟨by rw [← hq_]; exact (zK BK158.out)⟩; have n1_ : Aside0 (w67.heap[gb159]? = some (.cells #[.int .i16 0, .slice none 0 0] 32 (0, 0))) := ⟨by rw [← hq_]; exact (zK BK159.out)⟩; have n2_ : Aside0 (Below w.heap.size w w67) := ⟨by rw [← hq_]; exact (by repeat (first | (with_reducible first | exact HB.out | apply below_alloc | apply pw_below_drewN | apply below_drew1 | refine below_set ?_ GE158.out | refine below_set ?_ GE159.out) | exact HB.out))⟩; clear BK158 BK159 HB hq_; have BK158 := n0_; have BK159 := n1_; have HB := n2_; clear n0_ n1_ n2_)); have hnb68 := NB159_158.out; have hnc68 := NB158_159.out; obtain ⟨hcz69_0, hcz69_1, hfz69_0, hfz69_1⟩ := cz2 w67 BK159))
 refine bodyPost_ret (results_ct rfl _ _ gb159 32 #[.int .i16 0, .slice none 0 0] (0, 0) _ rfl (by (with_reducible repeat (first | refine blk_drewN ?_ _ | refine blk_drew ?_ | refine blk_alloc ?_ _)); refine blk_put (cs := #[.int .i16 0, .slice none 0 0]) ?_ 1 _ rfl; (with_reducible repeat (first | refine blk_drewN ?_ _ | refine blk_drew ?_ | refine blk_alloc ?_ _)); refine blk_put (cs := #[.int .i16 0, .slice none 0 0]) ?_ 0 _ rfl; (with_reducible repeat (first | refine blk_drewN ?_ _ | refine blk_drew ?_ | refine blk_alloc ?_ _)); exact BK159.out) Try.underlying32 rfl (by kernel_rfl)) rfl ?_
 exact ⟨_, by first | rfl | (simp [errW_none, errW_some] <;> rfl) | (simp [*, errW_none, errW_some] <;> rfl), by first | exact Kd.R_nil _ _ _ _ _ | exact Kd.N_nil _ _ _ _ _ | exact Kd.V_nil _ _ _ _ _ | exact Kd.Q_nil _ _ _ _ _ | exact Kd.S_nil _ _ _ _ _, by repeat (first | (with_reducible first | exact HB.out | apply below_alloc | apply pw_below_drewN | apply below_drew1 | refine below_set ?_ GE158.out | refine below_set ?_ GE159.out) | exact HB.out)⟩
 }
end Go.Proofs.Ytooidjdgfoioiaa.P
