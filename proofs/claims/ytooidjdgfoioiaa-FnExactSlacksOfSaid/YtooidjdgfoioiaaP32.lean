-- Printed by wip/print (my turned copy of the kit's print) out of the translation; Lean checks it.
import Derived.Test.YtooidjdgfoioiaaP0
import Derived.Test.YtooidjdgfoioiaaP12
import Derived.Test.YtooidjdgfoioiaaP13
import Derived.Test.YtooidjdgfoioiaaP17
import Derived.Test.YtooidjdgfoioiaaP21
import Derived.Test.YtooidjdgfoioiaaP22
import Derived.Test.YtooidjdgfoioiaaP24
import Derived.Test.YtooidjdgfoioiaaP31
namespace Go.Proofs.Ytooidjdgfoioiaa.P
open Go.RowKit Go.Proofs.YtooidjdgfoioiaaW.PrintWords Go.Proofs.YtooidjdgfoioiaaW.PrintLast Go.Proofs.YtooidjdgfoioiaaW.PrintMore
attribute [local go_sem] max2_int min2_int max_two min_two max_three min_three max_four min_four   -- for this text's walks alone
set_option linter.unusedVariables false
set_option linter.unusedSimpArgs false

/-! ### laws_FnExactSlacksOf: function 6 -/
mutual
def laws_FnExactSlacksOf.j0 : Nat → List (S92) → List (S82) → List Int → Int → List (S65) → List (S62) → List Int → Int → Bool → Int → Int → Int → Int → Int → Int → Int → Int → Int → Int → Int → Int → Int → List Int → Int → List Int → Option (Bool)
  | 0, _, _, _, _, _, _, _, _, _, _, _, _, _, _, _, _, _, _, _, _, _, _, _, _, _ => none
  | k + 1, x2, x3, x10, x11, x13, x14, x15, x16, x72, x747000, x747001, x747002, x747003, x747004, x747005, x747006, x747007, x747008, x747009, x747010, x747011, x748000, x748001, x782000, x782001 => if x72 = true then (some false) else ((laws_toRope.f k x748000 x748001).bind fun bt805 => ((laws_eqRope.f k x782000 x782001 bt805.1 bt805.2).bind fun t809 => (if t809 = true then ((laws_toHoldS.f k x2).bind fun t810 => ((laws_eqHoldS.f k x13 t810).bind fun t813 => (if t813 = true then ((laws_toSpotS.f k x3).bind fun t814 => ((laws_eqSpotS.f k x14 t814).bind fun t817 => (if t817 = true then ((laws_markRope.f k x782000 x782001 1).bind fun bt818 => ((laws_markHoldS.f k x13 bt818.1).bind fun bt820 => ((laws_markSpotS.f k x14 bt820.1).bind fun bt822 => (if bt822.1 < 0 then (laws_FnExactSlacksOf.j1 k x2 x3 x10 x11 x15 true x747000 x747001 x747002 x747003 x747004 x747005 x747006 x747007 x747008 x747009 x747010 x747011 x748000 x748001) else ((laws_eqInt64S.f k x15 x10).bind fun t824 => (if t824 = true then (laws_FnExactSlacksOf.j1 k x2 x3 x10 x11 x15 (x16 != x11) x747000 x747001 x747002 x747003 x747004 x747005 x747006 x747007 x747008 x747009 x747010 x747011 x748000 x748001) else (laws_FnExactSlacksOf.j1 k x2 x3 x10 x11 x15 true x747000 x747001 x747002 x747003 x747004 x747005 x747006 x747007 x747008 x747009 x747010 x747011 x748000 x748001))))))) else (some false)))) else (some false)))) else (some false))))
def laws_FnExactSlacksOf.j1 : Nat → List (S92) → List (S82) → List Int → Int → List Int → Bool → Int → Int → Int → Int → Int → Int → Int → Int → Int → Int → Int → Int → Int → List Int → Option (Bool)
  | 0, _, _, _, _, _, _, _, _, _, _, _, _, _, _, _, _, _, _, _, _ => none
  | k + 1, x2, x3, x10, x11, x15, x109, x747000, x747001, x747002, x747003, x747004, x747005, x747006, x747007, x747008, x747009, x747010, x747011, x748000, x748001 => if x109 = true then (some false) else ((laws_markInt64S.f k x15 1).bind fun bt825 => ((laws_heldInt64S.f k bt825.2 1).bind fun t827 => (if t827 < 0 then (some false) else (if t827 = bt825.1 then ((laws_toRoom.f k x747000 x747001 x747002 x747003 x747004 x747005 x747006 x747007 x747008 x747009 x747010 x747011).bind fun bt828 => ((laws_toRope.f k x748000 x748001).bind fun bt840 => ((laws_toHoldS.f k x2).bind fun t844 => ((laws_toSpotS.f k x3).bind fun t847 => ((impl_SlacksOf.f k bt828.1 bt828.2.1 bt828.2.2.1 bt828.2.2.2.1 bt828.2.2.2.2.1 bt828.2.2.2.2.2.1 bt828.2.2.2.2.2.2.1 bt828.2.2.2.2.2.2.2.1 bt828.2.2.2.2.2.2.2.2.1 bt828.2.2.2.2.2.2.2.2.2.1 bt828.2.2.2.2.2.2.2.2.2.2.1 bt828.2.2.2.2.2.2.2.2.2.2.2 bt840.1 bt840.2 t844 t847).bind fun bt850 => ((laws_eqInt64S.f k bt850.1 x10).bind fun t854 => (if t854 = true then (laws_FnExactSlacksOf.j2 k bt825.2 bt825.1 (bt850.2 != x11)) else (laws_FnExactSlacksOf.j2 k bt825.2 bt825.1 true)))))))) else (some false)))))
def laws_FnExactSlacksOf.j2 : Nat → List Int → Int → Bool → Option (Bool)
  | 0, _, _, _ => none
  | k + 1, x15, x18, x141 => if x141 = true then (some false) else ((laws_heldInt64S.f k x15 1).bind fun t855 => (if t855 < 0 then (some false) else (if t855 = x18 then (some true) else (some false))))
end
def laws_FnExactSlacksOf.f (k : Nat) (a0_0 : Int) (a0_1 : Int) (a0_2 : Int) (a0_3 : Int) (a0_4 : Int) (a0_5 : Int) (a0_6 : Int) (a0_7 : Int) (a0_8 : Int) (a0_9 : Int) (a0_10 : Int) (a0_11 : Int) (a1_0 : Int) (l1_1 : List Int) (l2 : List (S92)) (l3 : List (S82)) : Option (Bool) := (laws_szRope.f a1_0 l1_1 1048576).bind fun t748 => (if t748 < 0 then (some true) else ((laws_szHoldS.f l2 t748).bind fun t749 => (if t749 < 0 then (some true) else ((laws_szSpotS.f l3 t749).bind fun t750 => (if t750 < 0 then (some true) else ((laws_toRoom.f k a0_0 a0_1 a0_2 a0_3 a0_4 a0_5 a0_6 a0_7 a0_8 a0_9 a0_10 a0_11).bind fun bt751 => ((laws_toRope.f k a1_0 l1_1).bind fun bt763 => ((laws_toHoldS.f k l2).bind fun t767 => ((laws_toSpotS.f k l3).bind fun t770 => ((spec_SlacksOf.f k bt751.1 bt751.2.1 bt751.2.2.1 bt751.2.2.2.1 bt751.2.2.2.2.1 bt751.2.2.2.2.2.1 bt751.2.2.2.2.2.2.1 bt751.2.2.2.2.2.2.2.1 bt751.2.2.2.2.2.2.2.2.1 bt751.2.2.2.2.2.2.2.2.2.1 bt751.2.2.2.2.2.2.2.2.2.2.1 bt751.2.2.2.2.2.2.2.2.2.2.2 bt763.1 bt763.2 t767 t770).bind fun bt773 => ((laws_toRope.f k a1_0 l1_1).bind fun bt777 => ((laws_toHoldS.f k l2).bind fun t782 => ((laws_toSpotS.f k l3).bind fun t785 => ((laws_toRoom.f k a0_0 a0_1 a0_2 a0_3 a0_4 a0_5 a0_6 a0_7 a0_8 a0_9 a0_10 a0_11).bind fun bt788 => ((impl_SlacksOf.f k bt788.1 bt788.2.1 bt788.2.2.1 bt788.2.2.2.1 bt788.2.2.2.2.1 bt788.2.2.2.2.2.1 bt788.2.2.2.2.2.2.1 bt788.2.2.2.2.2.2.2.1 bt788.2.2.2.2.2.2.2.2.1 bt788.2.2.2.2.2.2.2.2.2.1 bt788.2.2.2.2.2.2.2.2.2.2.1 bt788.2.2.2.2.2.2.2.2.2.2.2 bt777.1 bt777.2 t782 t785).bind fun bt800 => ((laws_eqInt64S.f k bt800.1 bt773.1).bind fun t804 => (if t804 = true then (laws_FnExactSlacksOf.j0 k l2 l3 bt773.1 bt773.2 t782 t785 bt800.1 bt800.2 (bt800.2 != bt773.2) a0_0 a0_1 a0_2 a0_3 a0_4 a0_5 a0_6 a0_7 a0_8 a0_9 a0_10 a0_11 a1_0 l1_1 bt777.1 bt777.2) else (laws_FnExactSlacksOf.j0 k l2 l3 bt773.1 bt773.2 t782 t785 bt800.1 bt800.2 true a0_0 a0_1 a0_2 a0_3 a0_4 a0_5 a0_6 a0_7 a0_8 a0_9 a0_10 a0_11 a1_0 l1_1 bt777.1 bt777.2))))))))))))))))))
theorem laws_FnExactSlacksOf.mono_l : ∀ k, (∀ y0 y1 y2 y3 y4 y5 y6 y7 y8 y9 y10 y11 y12 y13 y14 y15 y16 y17 y18 y19 y20 y21 y22 y23 y24, LeO (laws_FnExactSlacksOf.j0 k y0 y1 y2 y3 y4 y5 y6 y7 y8 y9 y10 y11 y12 y13 y14 y15 y16 y17 y18 y19 y20 y21 y22 y23 y24) (laws_FnExactSlacksOf.j0 (k + 1) y0 y1 y2 y3 y4 y5 y6 y7 y8 y9 y10 y11 y12 y13 y14 y15 y16 y17 y18 y19 y20 y21 y22 y23 y24)) ∧ (∀ y0 y1 y2 y3 y4 y5 y6 y7 y8 y9 y10 y11 y12 y13 y14 y15 y16 y17 y18 y19, LeO (laws_FnExactSlacksOf.j1 k y0 y1 y2 y3 y4 y5 y6 y7 y8 y9 y10 y11 y12 y13 y14 y15 y16 y17 y18 y19) (laws_FnExactSlacksOf.j1 (k + 1) y0 y1 y2 y3 y4 y5 y6 y7 y8 y9 y10 y11 y12 y13 y14 y15 y16 y17 y18 y19)) ∧ (∀ y0 y1 y2, LeO (laws_FnExactSlacksOf.j2 k y0 y1 y2) (laws_FnExactSlacksOf.j2 (k + 1) y0 y1 y2))
  | 0 => ⟨fun _ _ _ _ _ _ _ _ _ _ _ _ _ _ _ _ _ _ _ _ _ _ _ _ _ r h => by simp [laws_FnExactSlacksOf.j0] at h, fun _ _ _ _ _ _ _ _ _ _ _ _ _ _ _ _ _ _ _ _ r h => by simp [laws_FnExactSlacksOf.j1] at h, fun _ _ _ r h => by simp [laws_FnExactSlacksOf.j2] at h⟩
  | k + 1 => by
    obtain ⟨ih0, ih1, ih2⟩ := laws_FnExactSlacksOf.mono_l k
    refine ⟨?_, ?_, ?_⟩
    · intro y0 y1 y2 y3 y4 y5 y6 y7 y8 y9 y10 y11 y12 y13 y14 y15 y16 y17 y18 y19 y20 y21 y22 y23 y24
      unfold laws_FnExactSlacksOf.j0
      repeat' first
      | (with_reducible exact ih0 ..)
      | (with_reducible exact ih1 ..)
      | (with_reducible exact ih2 ..)
      | (with_reducible exact impl_SlacksOf.mono ..)
      | (with_reducible exact laws_eqHoldS.mono ..)
      | (with_reducible exact laws_eqInt64S.mono ..)
      | (with_reducible exact laws_eqRope.mono ..)
      | (with_reducible exact laws_eqSpotS.mono ..)
      | (with_reducible exact laws_heldInt64S.mono ..)
      | (with_reducible exact laws_markHoldS.mono ..)
      | (with_reducible exact laws_markInt64S.mono ..)
      | (with_reducible exact laws_markRope.mono ..)
      | (with_reducible exact laws_markSpotS.mono ..)
      | (with_reducible exact laws_toHoldS.mono ..)
      | (with_reducible exact laws_toRoom.mono ..)
      | (with_reducible exact laws_toRope.mono ..)
      | (with_reducible exact laws_toSpotS.mono ..)
      | (with_reducible exact spec_SlacksOf.mono ..)
      | (with_reducible exact LeO.refl ..)
      | (with_reducible exact LeO.none ..)
      | (with_reducible refine LeO.ite ?_ ?_)
      | (with_reducible refine LeO.bind ?_ (fun _ => ?_))
    · intro y0 y1 y2 y3 y4 y5 y6 y7 y8 y9 y10 y11 y12 y13 y14 y15 y16 y17 y18 y19
      unfold laws_FnExactSlacksOf.j1
      repeat' first
      | (with_reducible exact ih0 ..)
      | (with_reducible exact ih1 ..)
      | (with_reducible exact ih2 ..)
      | (with_reducible exact impl_SlacksOf.mono ..)
      | (with_reducible exact laws_eqHoldS.mono ..)
      | (with_reducible exact laws_eqInt64S.mono ..)
      | (with_reducible exact laws_eqRope.mono ..)
      | (with_reducible exact laws_eqSpotS.mono ..)
      | (with_reducible exact laws_heldInt64S.mono ..)
      | (with_reducible exact laws_markHoldS.mono ..)
      | (with_reducible exact laws_markInt64S.mono ..)
      | (with_reducible exact laws_markRope.mono ..)
      | (with_reducible exact laws_markSpotS.mono ..)
      | (with_reducible exact laws_toHoldS.mono ..)
      | (with_reducible exact laws_toRoom.mono ..)
      | (with_reducible exact laws_toRope.mono ..)
      | (with_reducible exact laws_toSpotS.mono ..)
      | (with_reducible exact spec_SlacksOf.mono ..)
      | (with_reducible exact LeO.refl ..)
      | (with_reducible exact LeO.none ..)
      | (with_reducible refine LeO.ite ?_ ?_)
      | (with_reducible refine LeO.bind ?_ (fun _ => ?_))
    · intro y0 y1 y2
      unfold laws_FnExactSlacksOf.j2
      repeat' first
      | (with_reducible exact ih0 ..)
      | (with_reducible exact ih1 ..)
      | (with_reducible exact ih2 ..)
      | (with_reducible exact impl_SlacksOf.mono ..)
      | (with_reducible exact laws_eqHoldS.mono ..)
      | (with_reducible exact laws_eqInt64S.mono ..)
      | (with_reducible exact laws_eqRope.mono ..)
      | (with_reducible exact laws_eqSpotS.mono ..)
      | (with_reducible exact laws_heldInt64S.mono ..)
      | (with_reducible exact laws_markHoldS.mono ..)
      | (with_reducible exact laws_markInt64S.mono ..)
      | (with_reducible exact laws_markRope.mono ..)
      | (with_reducible exact laws_markSpotS.mono ..)
      | (with_reducible exact laws_toHoldS.mono ..)
      | (with_reducible exact laws_toRoom.mono ..)
      | (with_reducible exact laws_toRope.mono ..)
      | (with_reducible exact laws_toSpotS.mono ..)
      | (with_reducible exact spec_SlacksOf.mono ..)
      | (with_reducible exact LeO.refl ..)
      | (with_reducible exact LeO.none ..)
      | (with_reducible refine LeO.ite ?_ ?_)
      | (with_reducible refine LeO.bind ?_ (fun _ => ?_))
theorem laws_FnExactSlacksOf.mono : ∀ a0 a1 a2 a3 a4 a5 a6 a7 a8 a9 a10 a11 a12 a13 a14 a15 k, LeO (laws_FnExactSlacksOf.f k a0 a1 a2 a3 a4 a5 a6 a7 a8 a9 a10 a11 a12 a13 a14 a15) (laws_FnExactSlacksOf.f (k + 1) a0 a1 a2 a3 a4 a5 a6 a7 a8 a9 a10 a11 a12 a13 a14 a15) := by
  intro a0 a1 a2 a3 a4 a5 a6 a7 a8 a9 a10 a11 a12 a13 a14 a15 k
  obtain ⟨ih0, ih1, ih2⟩ := laws_FnExactSlacksOf.mono_l k
  unfold laws_FnExactSlacksOf.f
  repeat' first
      | (with_reducible exact ih0 ..)
      | (with_reducible exact ih1 ..)
      | (with_reducible exact ih2 ..)
      | (with_reducible exact impl_SlacksOf.mono ..)
      | (with_reducible exact laws_eqHoldS.mono ..)
      | (with_reducible exact laws_eqInt64S.mono ..)
      | (with_reducible exact laws_eqRope.mono ..)
      | (with_reducible exact laws_eqSpotS.mono ..)
      | (with_reducible exact laws_heldInt64S.mono ..)
      | (with_reducible exact laws_markHoldS.mono ..)
      | (with_reducible exact laws_markInt64S.mono ..)
      | (with_reducible exact laws_markRope.mono ..)
      | (with_reducible exact laws_markSpotS.mono ..)
      | (with_reducible exact laws_toHoldS.mono ..)
      | (with_reducible exact laws_toRoom.mono ..)
      | (with_reducible exact laws_toRope.mono ..)
      | (with_reducible exact laws_toSpotS.mono ..)
      | (with_reducible exact spec_SlacksOf.mono ..)
      | (with_reducible exact LeO.refl ..)
      | (with_reducible exact LeO.none ..)
      | (with_reducible refine LeO.ite ?_ ?_)
      | (with_reducible refine LeO.bind ?_ (fun _ => ?_))
def laws_FnExactSlacksOf.T11 : Bool × List (List Nat × List Nat) := (true, [([], []), ([0], [0]), ([], []), ([2, 1], [2]), ([], []), ([4, 3], [4]), ([], []), ([6, 5], [6]), ([1, 3, 5, 7, 7], [1, 3, 5, 7]), ([8], [8]), ([9], [9]), ([9], [9]), ([10, 8, 0, 1, 2, 3, 4, 5, 6, 7, 8, 9, 10], [10]), ([11, 12, 0, 1, 2, 3, 4, 5, 6, 7, 8, 9, 10, 11, 12], [11])])
def laws_FnExactSlacksOf.B11 : List Nat := [0, 1, 0, 7, 0, 31, 0, 127, 255, 511, 1023, 1023, 2047, 8191]
theorem laws_FnExactSlacksOf.tab11 : rtab .any (opsOf Try.f6 11) = laws_FnExactSlacksOf.T11 := by kernel_rfl
theorem laws_FnExactSlacksOf.bits11 : waitsOk laws_FnExactSlacksOf.T11.2 laws_FnExactSlacksOf.B11 = true := by kernel_rfl
def laws_FnExactSlacksOf.T15 : Bool × List (List Nat × List Nat) := (true, [([], []), ([0], [0]), ([], []), ([], []), ([], []), ([1, 2, 3, 4, 1], [1, 2, 3, 4]), ([5], [5]), ([6], [6]), ([6], [6]), ([7, 5, 0, 1, 2, 3, 4, 5, 6, 7], [7]), ([8, 9, 0, 1, 2, 3, 4, 5, 6, 7, 8, 9], [8])])
def laws_FnExactSlacksOf.B15 : List Nat := [0, 1, 0, 0, 0, 31, 63, 127, 127, 255, 1023]
theorem laws_FnExactSlacksOf.tab15 : rtab .any (opsOf Try.f6 15) = laws_FnExactSlacksOf.T15 := by kernel_rfl
theorem laws_FnExactSlacksOf.bits15 : waitsOk laws_FnExactSlacksOf.T15.2 laws_FnExactSlacksOf.B15 = true := by kernel_rfl
def laws_FnExactSlacksOf.T38 : Bool × List (List Nat × List Nat) := (true, [([], []), ([0], [0]), ([], []), ([2, 1], [2]), ([], []), ([4, 3], [4]), ([], []), ([6, 5], [6]), ([1, 3, 5, 7, 7], [1, 3, 5, 7]), ([8], [8]), ([9], [9]), ([9], [9]), ([10, 8, 0, 1, 2, 3, 4, 5, 6, 7, 8, 9, 10], [10]), ([11, 12, 0, 1, 2, 3, 4, 5, 6, 7, 8, 9, 10, 11, 12], [11])])
def laws_FnExactSlacksOf.B38 : List Nat := [0, 1, 0, 7, 0, 31, 0, 127, 255, 511, 1023, 1023, 2047, 8191]
theorem laws_FnExactSlacksOf.tab38 : rtab .any (opsOf Try.f6 38) = laws_FnExactSlacksOf.T38 := by kernel_rfl
theorem laws_FnExactSlacksOf.bits38 : waitsOk laws_FnExactSlacksOf.T38.2 laws_FnExactSlacksOf.B38 = true := by kernel_rfl
set_option maxHeartbeats 8000000 in
set_option maxRecDepth 100000 in
theorem laws_FnExactSlacksOf.calls (k : Nat) (a0_0 : Int) (a0_1 : Int) (a0_2 : Int) (a0_3 : Int) (a0_4 : Int) (a0_5 : Int) (a0_6 : Int) (a0_7 : Int) (a0_8 : Int) (a0_9 : Int) (a0_10 : Int) (a0_11 : Int) (a1_0 : Int) (A1_1 : Option Addr) (c1_1 : Nat) (l1_1 : List Int) (A2 : Option Addr) (c2 : Nat) (l2 : List (S92)) (A3 : Option Addr) (c3 : Nat) (l3 : List (S82)) (r : Bool) (w : World) (hr1_1 : Kd.C (Kd.int .i16) w A1_1 l1_1.length l1_1) (hc1_1 : l1_1.length ≤ c1_1) (hr2 : Kd.C k92 w A2 l2.length l2) (hc2 : l2.length ≤ c2) (hr3 : Kd.C k82 w A3 l3.length l3) (hc3 : l3.length ≤ c3) (hT : r = true) (h : laws_FnExactSlacksOf.f k a0_0 a0_1 a0_2 a0_3 a0_4 a0_5 a0_6 a0_7 a0_8 a0_9 a0_10 a0_11 a1_0 l1_1 l2 l3 = some r) :
    Calls Try.prog 6 #[.agg #[.int .i8 a0_0, .int .i8 a0_1, .int .u16 a0_2, .int .u16 a0_3, .int .u16 a0_4, .int .u16 a0_5, .int .u16 a0_6, .int .u16 a0_7, .int .u16 a0_8, .int .u16 a0_9, .int .u16 a0_10, .int .u16 a0_11], .agg #[.int .i16 a1_0, .slice A1_1 l1_1.length c1_1], .slice A2 l2.length c2, .slice A3 l3.length c3] w fun e w' => e = .returned (.bool r) ∧ Below w.heap.size w w' := by
 have hu26 := Try.underlying26
 have hu44 := Try.underlying44
 have hu32 := Try.underlying32
 have HR1_1 := ak hr1_1
 have HC1_1 := ak hc1_1
 clear hr1_1 hc1_1
 have HR2 := ak hr2
 have HC2 := ak hc2
 clear hr2 hc2
 have HR3 := ak hr3
 have HC3 := ak hc3
 clear hr3 hc3
 have HT := ak hT
 clear hT
 have HB := ak (Below.refl w.heap.size w)
 have H := h
 unfold laws_FnExactSlacksOf.f at H
 clear h
 replace H := Option.bind_eq_some_iff.mp H
 obtain ⟨t748, A50, H⟩ := H
 have A5 := ak A50
 clear A50
 by_cases c6 : t748 < 0
 {
 rw [if_pos c6] at H
 have c6b0 : decide (t748 < 0) = true := decide_eq_true c6
 clear c6
 obtain rfl := Option.some.inj H
 go_enter Try.func6, Try.ntmps6
 go_wp2_with (first | ((with_reducible refine gate_dst (N := 4) rfl ?_); refine box_event ?hg (N := 4) ?hd (cs := #[.int .i8 a0_0, .int .i8 a0_1, .int .u16 a0_2, .int .u16 a0_3, .int .u16 a0_4, .int .u16 a0_5, .int .u16 a0_6, .int .u16 a0_7, .int .u16 a0_8, .int .u16 a0_9, .int .u16 a0_10, .int .u16 a0_11]) (t := 26) ?hr ?_; (case hd => rfl); (case hg => rfl); (case hr => first | (go_simp; done) | (go_simp; rfl)); intro gb746 hg w7 hbox hb; have BK746 := ak (hbox); have GW746 := gS HB hg; have GE746 := gS HB hg; replace HB := kB HB hb; clear hb hbox hg) | ((with_reducible refine gate_dst (N := 5) rfl ?_); refine box_event ?hg (N := 5) ?hd (cs := #[.int .i16 a1_0, .slice A1_1 l1_1.length c1_1]) (t := 44) ?hr ?_; (case hd => rfl); (case hg => rfl); (case hr => first | (go_simp; done) | (go_simp; rfl)); intro gb747 hg w8 hbox hb; have BK747 := ak (hbox); have GW747 := gS1 HB GE746 hg; have GE747 := gS1 HB GE746 hg; have NB746_747 := nL BK746 hg; have NB747_746 := nG BK746 hg; replace BK746 := kK BK746 hb; replace HB := kB1 HB GE746 hb; clear hb hbox hg; have hnb9 := NB747_746.out; have hnc9 := NB746_747.out; obtain ⟨hcz10_0, hcz10_1, hfz10_0, hfz10_1⟩ := cz2 w8 BK747) | ((with_reducible refine gate_callee (f := 17) rfl ?_); refine goesL_ (some 24) rfl rfl Try.func17 (by kernel_rfl) rfl #[.agg #[.int .i16 a1_0, .slice A1_1 l1_1.length c1_1], .int .i64 1048576] rfl gl_ ?_; (with_reducible refine (laws_szRope.calls a1_0 _ _ l1_1 1048576 t748 _ ?side1 ?side2 A5.out).mono ?_); (case side1 => exact sQ (Kd.C_below HR1_1.out HB.out)); (case side2 => exact HC1_1.out); rintro e w11 ⟨rfl, hb⟩; refine ⟨_, rfl, ?_⟩; replace BK746 := kK BK746 hb; replace BK747 := kK BK747 hb; replace HB := kB2 HB GE746 GE747 hb; (try clear hb)))
 go_ret
 exact ⟨by first | rfl | (simp [errW_none, errW_some] <;> rfl) | (simp [*, errW_none, errW_some] <;> rfl), zH2 HB GE746 GE747⟩
 }
 {
 rw [if_neg c6] at H
 have c6b0 : decide (t748 < 0) = false := decide_eq_false c6
 clear c6
 replace H := Option.bind_eq_some_iff.mp H
 obtain ⟨t749, A120, H⟩ := H
 have A12 := ak A120
 clear A120
 by_cases c13 : t749 < 0
 {
 rw [if_pos c13] at H
 have c13b0 : decide (t749 < 0) = true := decide_eq_true c13
 clear c13
 obtain rfl := Option.some.inj H
 go_enter Try.func6, Try.ntmps6
 go_wp2_with (first | ((with_reducible refine gate_dst (N := 4) rfl ?_); refine box_event ?hg (N := 4) ?hd (cs := #[.int .i8 a0_0, .int .i8 a0_1, .int .u16 a0_2, .int .u16 a0_3, .int .u16 a0_4, .int .u16 a0_5, .int .u16 a0_6, .int .u16 a0_7, .int .u16 a0_8, .int .u16 a0_9, .int .u16 a0_10, .int .u16 a0_11]) (t := 26) ?hr ?_; (case hd => rfl); (case hg => rfl); (case hr => first | (go_simp; done) | (go_simp; rfl)); intro gb746 hg w14 hbox hb; have BK746 := ak (hbox); have GW746 := gS HB hg; have GE746 := gS HB hg; replace HB := kB HB hb; clear hb hbox hg) | ((with_reducible refine gate_dst (N := 5) rfl ?_); refine box_event ?hg (N := 5) ?hd (cs := #[.int .i16 a1_0, .slice A1_1 l1_1.length c1_1]) (t := 44) ?hr ?_; (case hd => rfl); (case hg => rfl); (case hr => first | (go_simp; done) | (go_simp; rfl)); intro gb747 hg w15 hbox hb; have BK747 := ak (hbox); have GW747 := gS1 HB GE746 hg; have GE747 := gS1 HB GE746 hg; have NB746_747 := nL BK746 hg; have NB747_746 := nG BK746 hg; replace BK746 := kK BK746 hb; replace HB := kB1 HB GE746 hb; clear hb hbox hg; have hnb16 := NB747_746.out; have hnc16 := NB746_747.out; obtain ⟨hcz17_0, hcz17_1, hfz17_0, hfz17_1⟩ := cz2 w15 BK747) | ((with_reducible refine gate_callee (f := 17) rfl ?_); refine goesL_ (some 24) rfl rfl Try.func17 (by kernel_rfl) rfl #[.agg #[.int .i16 a1_0, .slice A1_1 l1_1.length c1_1], .int .i64 1048576] rfl gl_ ?_; (with_reducible refine (laws_szRope.calls a1_0 _ _ l1_1 1048576 t748 _ ?side1 ?side2 A5.out).mono ?_); (case side1 => exact sQ (Kd.C_below HR1_1.out HB.out)); (case side2 => exact HC1_1.out); rintro e w18 ⟨rfl, hb⟩; refine ⟨_, rfl, ?_⟩; replace BK746 := kK BK746 hb; replace BK747 := kK BK747 hb; replace HB := kB2 HB GE746 GE747 hb; (try clear hb)) | ((with_reducible refine gate_callee (f := 18) rfl ?_); refine goesL_ (some 29) rfl rfl Try.func18 (by kernel_rfl) rfl #[.slice A2 l2.length c2, .int .i64 t748] rfl gl_ ?_; (with_reducible refine (laws_szHoldS.calls _ _ l2 t748 t749 _ ?side1 ?side2 A12.out).mono ?_); (case side1 => exact sQ (Kd.C_below HR2.out HB.out)); (case side2 => exact HC2.out); rintro e w' ⟨rfl, ⟨nd, rfl⟩⟩; refine ⟨_, rfl, ?_⟩))
 go_ret
 exact ⟨by first | rfl | (simp [errW_none, errW_some] <;> rfl) | (simp [*, errW_none, errW_some] <;> rfl), zH2 HB GE746 GE747⟩
 }
 {
 rw [if_neg c13] at H
 have c13b0 : decide (t749 < 0) = false := decide_eq_false c13
 clear c13
 replace H := Option.bind_eq_some_iff.mp H
 obtain ⟨t750, A190, H⟩ := H
 have A19 := ak A190
 clear A190
 by_cases c20 : t750 < 0
 {
 rw [if_pos c20] at H
 have c20b0 : decide (t750 < 0) = true := decide_eq_true c20
 clear c20
 obtain rfl := Option.some.inj H
 go_enter Try.func6, Try.ntmps6
 go_wp2_with (first | ((with_reducible refine gate_dst (N := 4) rfl ?_); refine box_event ?hg (N := 4) ?hd (cs := #[.int .i8 a0_0, .int .i8 a0_1, .int .u16 a0_2, .int .u16 a0_3, .int .u16 a0_4, .int .u16 a0_5, .int .u16 a0_6, .int .u16 a0_7, .int .u16 a0_8, .int .u16 a0_9, .int .u16 a0_10, .int .u16 a0_11]) (t := 26) ?hr ?_; (case hd => rfl); (case hg => rfl); (case hr => first | (go_simp; done) | (go_simp; rfl)); intro gb746 hg w21 hbox hb; have BK746 := ak (hbox); have GW746 := gS HB hg; have GE746 := gS HB hg; replace HB := kB HB hb; clear hb hbox hg) | ((with_reducible refine gate_dst (N := 5) rfl ?_); refine box_event ?hg (N := 5) ?hd (cs := #[.int .i16 a1_0, .slice A1_1 l1_1.length c1_1]) (t := 44) ?hr ?_; (case hd => rfl); (case hg => rfl); (case hr => first | (go_simp; done) | (go_simp; rfl)); intro gb747 hg w22 hbox hb; have BK747 := ak (hbox); have GW747 := gS1 HB GE746 hg; have GE747 := gS1 HB GE746 hg; have NB746_747 := nL BK746 hg; have NB747_746 := nG BK746 hg; replace BK746 := kK BK746 hb; replace HB := kB1 HB GE746 hb; clear hb hbox hg; have hnb23 := NB747_746.out; have hnc23 := NB746_747.out; obtain ⟨hcz24_0, hcz24_1, hfz24_0, hfz24_1⟩ := cz2 w22 BK747) | ((with_reducible refine gate_callee (f := 17) rfl ?_); refine goesL_ (some 24) rfl rfl Try.func17 (by kernel_rfl) rfl #[.agg #[.int .i16 a1_0, .slice A1_1 l1_1.length c1_1], .int .i64 1048576] rfl gl_ ?_; (with_reducible refine (laws_szRope.calls a1_0 _ _ l1_1 1048576 t748 _ ?side1 ?side2 A5.out).mono ?_); (case side1 => exact sQ (Kd.C_below HR1_1.out HB.out)); (case side2 => exact HC1_1.out); rintro e w25 ⟨rfl, hb⟩; refine ⟨_, rfl, ?_⟩; replace BK746 := kK BK746 hb; replace BK747 := kK BK747 hb; replace HB := kB2 HB GE746 GE747 hb; (try clear hb)) | ((with_reducible refine gate_callee (f := 18) rfl ?_); refine goesL_ (some 29) rfl rfl Try.func18 (by kernel_rfl) rfl #[.slice A2 l2.length c2, .int .i64 t748] rfl gl_ ?_; (with_reducible refine (laws_szHoldS.calls _ _ l2 t748 t749 _ ?side1 ?side2 A12.out).mono ?_); (case side1 => exact sQ (Kd.C_below HR2.out HB.out)); (case side2 => exact HC2.out); rintro e w' ⟨rfl, ⟨nd, rfl⟩⟩; refine ⟨_, rfl, ?_⟩) | ((with_reducible refine gate_callee (f := 7) rfl ?_); refine goesL_ (some 34) rfl rfl Try.func7 (by kernel_rfl) rfl #[.slice A3 l3.length c3, .int .i64 t749] rfl gl_ ?_; (with_reducible refine (laws_szSpotS.calls _ _ l3 t749 t750 _ ?side1 ?side2 A19.out).mono ?_); (case side1 => exact sQ (Kd.C_below HR3.out (zH2 HB GE746 GE747))); (case side2 => exact HC3.out); rintro e w' ⟨rfl, ⟨nd, rfl⟩⟩; refine ⟨_, rfl, ?_⟩))
 go_ret
 exact ⟨by first | rfl | (simp [errW_none, errW_some] <;> rfl) | (simp [*, errW_none, errW_some] <;> rfl), zH2 HB GE746 GE747⟩
 }
 {
 rw [if_neg c20] at H
 have c20b0 : decide (t750 < 0) = false := decide_eq_false c20
 clear c20
 replace H := Option.bind_eq_some_iff.mp H
 obtain ⟨⟨t751, t752, t753, t754, t755, t756, t757, t758, t759, t760, t761, t762⟩, A260, H⟩ := H
 have A26 := ak A260
 clear A260
 replace H := Option.bind_eq_some_iff.mp H
 obtain ⟨⟨t763, t764⟩, A270, H⟩ := H
 have A27 := ak A270
 clear A270
 replace H := Option.bind_eq_some_iff.mp H
 obtain ⟨t767, A280, H⟩ := H
 have A28 := ak A280
 clear A280
 replace H := Option.bind_eq_some_iff.mp H
 obtain ⟨t770, A290, H⟩ := H
 have A29 := ak A290
 clear A290
 replace H := Option.bind_eq_some_iff.mp H
 obtain ⟨⟨t773, t776⟩, A300, H⟩ := H
 have A30 := ak A300
 clear A300
 replace H := Option.bind_eq_some_iff.mp H
 obtain ⟨⟨t777, t778⟩, A310, H⟩ := H
 have A31 := ak A310
 clear A310
 replace H := Option.bind_eq_some_iff.mp H
 obtain ⟨t782, A320, H⟩ := H
 have A32 := ak A320
 clear A320
 replace H := Option.bind_eq_some_iff.mp H
 obtain ⟨t785, A330, H⟩ := H
 have A33 := ak A330
 clear A330
 replace H := Option.bind_eq_some_iff.mp H
 obtain ⟨⟨t788, t789, t790, t791, t792, t793, t794, t795, t796, t797, t798, t799⟩, A340, H⟩ := H
 have A34 := ak A340
 clear A340
 replace H := Option.bind_eq_some_iff.mp H
 obtain ⟨⟨t800, t803⟩, A350, H⟩ := H
 have A35 := ak A350
 clear A350
 have HC36 := ak H
 clear H
 go_enter Try.func6, Try.ntmps6
 try go_wp2_with (first | ((with_reducible refine gate_dst (N := 4) rfl ?_); refine box_event ?hg (N := 4) ?hd (cs := #[.int .i8 a0_0, .int .i8 a0_1, .int .u16 a0_2, .int .u16 a0_3, .int .u16 a0_4, .int .u16 a0_5, .int .u16 a0_6, .int .u16 a0_7, .int .u16 a0_8, .int .u16 a0_9, .int .u16 a0_10, .int .u16 a0_11]) (t := 26) ?hr ?_; (case hd => rfl); (case hg => rfl); (case hr => first | (go_simp; done) | (go_simp; rfl)); intro gb746 hg w37 hbox hb; have n0_ := ak (below_step (zB HB.out) hb); have n1_ := ak (hbox); have n2_ := gS HB hg; have n3_ := gS HB hg; clear HB; have HB := n0_; have BK746 := n1_; have GW746 := n2_; have GE746 := n3_; clear n0_ n1_ n2_ n3_; clear hb hbox hg) | ((with_reducible refine gate_dst (N := 5) rfl ?_); refine box_event ?hg (N := 5) ?hd (cs := #[.int .i16 a1_0, .slice A1_1 l1_1.length c1_1]) (t := 44) ?hr ?_; (case hd => rfl); (case hg => rfl); (case hr => first | (go_simp; done) | (go_simp; rfl)); intro gb747 hg w38 hbox hb; have n0_ := ak (blk_below (g := gb746) (o := .cells #[.int .i8 a0_0, .int .i8 a0_1, .int .u16 a0_2, .int .u16 a0_3, .int .u16 a0_4, .int .u16 a0_5, .int .u16 a0_6, .int .u16 a0_7, .int .u16 a0_8, .int .u16 a0_9, .int .u16 a0_10, .int .u16 a0_11] 26 (0, 0)) (zK BK746.out) hb); have n1_ := ak (below_step (zBG HB.out GE746.out) hb); have n2_ := ak (hbox); have n3_ := gS1 HB GE746 hg; have n4_ := gS1 HB GE746 hg; have n5_ := nL BK746 hg; have n6_ := nG BK746 hg; clear BK746 HB; have BK746 := n0_; have HB := n1_; have BK747 := n2_; have GW747 := n3_; have GE747 := n4_; have NB746_747 := n5_; have NB747_746 := n6_; clear n0_ n1_ n2_ n3_ n4_ n5_ n6_; clear hb hbox hg; have hnb39 := NB747_746.out; have hnc39 := NB746_747.out; have hcz40_0 : w38.cell? ⟨gb747, 0, none⟩ = some (.int .i16 a1_0) := (blk_cell BK747.out 0).trans rfl; have hcz40_1 : w38.cell? ⟨gb747, 1, none⟩ = some (.slice A1_1 l1_1.length c1_1) := (blk_cell BK747.out 1).trans rfl; have hfz40_0 := blk_frozen BK747.out 0; have hfz40_1 := blk_frozen BK747.out 1) | ((with_reducible refine gate_callee (f := 17) rfl ?_); refine goesL_ (some 24) rfl rfl Try.func17 (by kernel_rfl) rfl #[.agg #[.int .i16 a1_0, .slice A1_1 l1_1.length c1_1], .int .i64 1048576] rfl gl_ ?_; (with_reducible refine (laws_szRope.calls a1_0 _ _ l1_1 1048576 t748 _ ?side1 ?side2 A5.out).mono ?_); (case side1 => exact sQ (Kd.C_below HR1_1.out HB.out)); (case side2 => exact HC1_1.out); rintro e w41 ⟨rfl, hb⟩; refine ⟨_, rfl, ?_⟩; have n0_ := ak (blk_below (g := gb746) (o := .cells #[.int .i8 a0_0, .int .i8 a0_1, .int .u16 a0_2, .int .u16 a0_3, .int .u16 a0_4, .int .u16 a0_5, .int .u16 a0_6, .int .u16 a0_7, .int .u16 a0_8, .int .u16 a0_9, .int .u16 a0_10, .int .u16 a0_11] 26 (0, 0)) (zK BK746.out) hb); have n1_ := ak (blk_below (g := gb747) (o := .cells #[.int .i16 a1_0, .slice A1_1 l1_1.length c1_1] 44 (0, 0)) (zK BK747.out) hb); have n2_ := ak (below_step (zH2 HB GE746 GE747) hb); clear BK746 BK747 HB; have BK746 := n0_; have BK747 := n1_; have HB := n2_; clear n0_ n1_ n2_; (try clear hb); (try clear hb2); (try clear hk); (try clear hi)) | ((with_reducible refine gate_callee (f := 18) rfl ?_); refine goesL_ (some 29) rfl rfl Try.func18 (by kernel_rfl) rfl #[.slice A2 l2.length c2, .int .i64 t748] rfl gl_ ?_; (with_reducible refine (laws_szHoldS.calls _ _ l2 t748 t749 _ ?side1 ?side2 A12.out).mono ?_); (case side1 => exact sQ (Kd.C_below HR2.out HB.out)); (case side2 => exact HC2.out); rintro e w' ⟨rfl, ⟨nd, rfl⟩⟩; refine ⟨_, rfl, ?_⟩; (try (rw [drewN_self w41]; generalize hq_ : World.drewN w41 _ = w41; have n0_ : Aside0 (w41.heap[gb746]? = some (.cells #[.int .i8 a0_0, .int .i8 a0_1, .int .u16 a0_2, .int .u16 a0_3, .int .u16 a0_4, .int .u16 a0_5, .int .u16 a0_6, .int .u16 a0_7, .int .u16 a0_8, .int .u16 a0_9, .int .u16 a0_10, .int .u16 a0_11] 26 (0, 0))) := ⟨by rw [← hq_]; exact (zK BK746.out)⟩; have n1_ : Aside0 (w41.heap[gb747]? = some (.cells #[.int .i16 a1_0, .slice A1_1 l1_1.length c1_1] 44 (0, 0))) := ⟨by rw [← hq_]; exact (zK BK747.out)⟩; have n2_ : Aside0 (Below w.heap.size w w41) := ⟨by rw [← hq_]; exact (zH2 HB GE746 GE747)⟩; clear BK746 BK747 HB hq_; have BK746 := n0_; have BK747 := n1_; have HB := n2_; clear n0_ n1_ n2_))) | ((with_reducible refine gate_callee (f := 7) rfl ?_); refine goesL_ (some 34) rfl rfl Try.func7 (by kernel_rfl) rfl #[.slice A3 l3.length c3, .int .i64 t749] rfl gl_ ?_; (with_reducible refine (laws_szSpotS.calls _ _ l3 t749 t750 _ ?side1 ?side2 A19.out).mono ?_); (case side1 => exact sQ (Kd.C_below HR3.out HB.out)); (case side2 => exact HC3.out); rintro e w' ⟨rfl, ⟨nd, rfl⟩⟩; refine ⟨_, rfl, ?_⟩; (try (rw [drewN_self w41]; generalize hq_ : World.drewN w41 _ = w41; have n0_ : Aside0 (w41.heap[gb746]? = some (.cells #[.int .i8 a0_0, .int .i8 a0_1, .int .u16 a0_2, .int .u16 a0_3, .int .u16 a0_4, .int .u16 a0_5, .int .u16 a0_6, .int .u16 a0_7, .int .u16 a0_8, .int .u16 a0_9, .int .u16 a0_10, .int .u16 a0_11] 26 (0, 0))) := ⟨by rw [← hq_]; exact (zK BK746.out)⟩; have n1_ : Aside0 (w41.heap[gb747]? = some (.cells #[.int .i16 a1_0, .slice A1_1 l1_1.length c1_1] 44 (0, 0))) := ⟨by rw [← hq_]; exact (zK BK747.out)⟩; have n2_ : Aside0 (Below w.heap.size w w41) := ⟨by rw [← hq_]; exact (zH2 HB GE746 GE747)⟩; clear BK746 BK747 HB hq_; have BK746 := n0_; have BK747 := n1_; have HB := n2_; clear n0_ n1_ n2_))))
 replace BK746 := ak (blk_drew BK746.out)
 replace BK747 := ak (blk_drew BK747.out)
 replace HB := ak (below_drew1 HB.out)
 refine start_ (n := 14) (S := fun w' => w'.cell? ⟨gb746, 0, none⟩ = some (.int .i8 a0_0) ∧ w'.cell? ⟨gb746, 1, none⟩ = some (.int .i8 a0_1) ∧ w'.cell? ⟨gb746, 2, none⟩ = some (.int .u16 a0_2) ∧ w'.cell? ⟨gb746, 3, none⟩ = some (.int .u16 a0_3) ∧ w'.cell? ⟨gb746, 4, none⟩ = some (.int .u16 a0_4) ∧ w'.cell? ⟨gb746, 5, none⟩ = some (.int .u16 a0_5) ∧ w'.cell? ⟨gb746, 6, none⟩ = some (.int .u16 a0_6) ∧ w'.cell? ⟨gb746, 7, none⟩ = some (.int .u16 a0_7) ∧ w'.cell? ⟨gb746, 8, none⟩ = some (.int .u16 a0_8) ∧ w'.cell? ⟨gb746, 9, none⟩ = some (.int .u16 a0_9) ∧ w'.cell? ⟨gb746, 10, none⟩ = some (.int .u16 a0_10) ∧ w'.cell? ⟨gb746, 11, none⟩ = some (.int .u16 a0_11) ∧ w'.cell? ⟨gb747, 0, none⟩ = some (.int .i16 a1_0) ∧ w'.cell? ⟨gb747, 1, none⟩ = some (.slice A1_1 l1_1.length c1_1)) (ds := []) (bA 14 0) (by kernel_rfl) rfl rfl (cr12 BK746 ⟨(blk_cell BK747.out 0).trans rfl, (blk_cell BK747.out 1).trans rfl⟩) (fun hHeld => ?_); refine with_tabW laws_FnExactSlacksOf.tab11 laws_FnExactSlacksOf.bits11 (fun HT_ HW_ => ?_)
 generalize w41.drew = w42 at BK746 BK747 HB hHeld ⊢
 refine pU 4 42 (bA 14 16) HT_ ?_
 refine pU 6 44 (bA 14 80) HT_ ?_
 refine tK 0 38 (bA 14 81) HT_ HW_ hHeld ?_
 refine tK 2 40 (bA 14 85) HT_ HW_ hHeld ?_
 refine one_ (i := 1) (N := some 39) (bA 14 87) rfl rfl (one_of HT_.out (by kernel_rfl)) (by decide) (fun K hK => ?_)
 refine goes_ Try.func9 (by kernel_rfl) rfl #[.agg #[.int .i8 a0_0, .int .i8 a0_1, .int .u16 a0_2, .int .u16 a0_3, .int .u16 a0_4, .int .u16 a0_5, .int .u16 a0_6, .int .u16 a0_7, .int .u16 a0_8, .int .u16 a0_9, .int .u16 a0_10, .int .u16 a0_11]] (by rfl) rfl rfl gl_ ?_
 with_reducible refine (laws_toRoom.calls k a0_0 a0_1 a0_2 a0_3 a0_4 a0_5 a0_6 a0_7 a0_8 a0_9 a0_10 a0_11 t751 t752 t753 t754 t755 t756 t757 t758 t759 t760 t761 t762 _ A26.out).mono ?_
 rintro e w43 ⟨rfl, hb⟩
 refine ⟨_, rfl, ?_⟩
 replace BK746 := kK BK746 hb
 replace BK747 := kK BK747 hb
 replace HB := kB2 HB GE746 GE747 hb
 (try clear hb)
 refine hK.out _ _ (cr12 BK746 ⟨(blk_cell BK747.out 0).trans rfl, (blk_cell BK747.out 1).trans rfl⟩) (fun hHeld => ?_)
 clear hK K
 refine norm_ (a' := ?_) ?_ ?_
 rotate_left
 {
 show Act.put _ (some 39) _ = _
 simp only [Act.put, zs, zz, zk, i64_w, i32_w]
 rfl
 }
 refine one_ (i := 3) (N := some 41) (bA 14 95) rfl rfl (one_of HT_.out (by kernel_rfl)) (by decide) (fun K hK => ?_)
 refine goes_ Try.func20 (by kernel_rfl) rfl #[.agg #[.int .i16 a1_0, .slice A1_1 l1_1.length c1_1]] (by rfl) rfl rfl gl_ ?_
 with_reducible refine (laws_toRope.calls k a1_0 _ _ l1_1 t763 t764 _ ?side1 ?side2 A27.out).mono ?_
 (case side1 => exact sQ (Kd.C_below HR1_1.out HB.out))
 (case side2 => exact HC1_1.out)
 rintro e w44 ⟨v765, rfl, ho0, hb⟩
 refine ⟨_, rfl, ?_⟩
 have HO766 := ak (Kd.R_lower ho0 (below_size (zH2 HB GE746 GE747)))
 replace BK746 := kK BK746 hb
 replace BK747 := kK BK747 hb
 replace HB := kB2 HB GE746 GE747 hb
 (try clear hb)
 (try clear ho0)
 refine hK.out _ _ (cr12 BK746 ⟨(blk_cell BK747.out 0).trans rfl, (blk_cell BK747.out 1).trans rfl⟩) (fun hHeld => ?_)
 clear hK K
 refine norm_ (a' := ?_) ?_ ?_
 rotate_left
 {
 show Act.put _ (some 41) _ = _
 simp only [Act.put, zs, zz, zk, i64_w, i32_w]
 rfl
 }
 refine one_ (i := 5) (N := some 43) (bA 14 127) rfl rfl (one_of HT_.out (by kernel_rfl)) (by decide) (fun K hK => ?_)
 refine goes_ Try.func21 (by kernel_rfl) rfl #[.slice A2 l2.length c2] (by rfl) rfl rfl gl_ ?_
 with_reducible refine (laws_toHoldS.calls k _ _ l2 t767 _ ?side1 ?side2 A28.out).mono ?_
 (case side1 => exact sQ (Kd.C_below HR2.out HB.out))
 (case side2 => exact HC2.out)
 rintro e w45 ⟨v768, rfl, ho0, hb⟩
 refine ⟨_, rfl, ?_⟩
 have HO769 := ak (Kd.R_lower ho0 (below_size (zH2 HB GE746 GE747)))
 replace HO766 := kR HO766 hb
 replace BK746 := kK BK746 hb
 replace BK747 := kK BK747 hb
 replace HB := kB2 HB GE746 GE747 hb
 (try clear hb)
 (try clear ho0)
 refine hK.out _ _ (cr12 BK746 ⟨(blk_cell BK747.out 0).trans rfl, (blk_cell BK747.out 1).trans rfl⟩) (fun hHeld => ?_)
 clear hK K
 refine norm_ (a' := ?_) ?_ ?_
 rotate_left
 {
 show Act.put _ (some 43) _ = _
 simp only [Act.put, zs, zz, zk, i64_w, i32_w]
 rfl
 }
 refine one_ (i := 7) (N := some 45) (bA 14 255) rfl rfl (one_of HT_.out (by kernel_rfl)) (by decide) (fun K hK => ?_)
 refine goes_ Try.func10 (by kernel_rfl) rfl #[.slice A3 l3.length c3] (by rfl) rfl rfl gl_ ?_
 with_reducible refine (laws_toSpotS.calls k _ _ l3 t770 _ ?side1 ?side2 A29.out).mono ?_
 (case side1 => exact sQ (Kd.C_below HR3.out HB.out))
 (case side2 => exact HC3.out)
 rintro e w46 ⟨v771, rfl, ho0, hb⟩
 refine ⟨_, rfl, ?_⟩
 have HO772 := ak (Kd.R_lower ho0 (below_size (zH2 HB GE746 GE747)))
 replace HO766 := kR HO766 hb
 replace HO769 := kR HO769 hb
 replace BK746 := kK BK746 hb
 replace BK747 := kK BK747 hb
 replace HB := kB2 HB GE746 GE747 hb
 (try clear hb)
 (try clear ho0)
 obtain ⟨Ao47, co47, eo47⟩ := Kd.R_slice HO766.out
 (first | subst eo47 | (injection eo47 with f1_ f2_ f3_; have f4_ := f1_.symm; have f5_ := f3_.symm; clear f1_ f2_ f3_; subst f4_; subst f5_))
 obtain ⟨Ao48, co48, eo48⟩ := Kd.R_slice HO769.out
 (first | subst eo48 | (injection eo48 with f1_ f2_ f3_; have f4_ := f1_.symm; have f5_ := f3_.symm; clear f1_ f2_ f3_; subst f4_; subst f5_))
 obtain ⟨Ao49, co49, eo49⟩ := Kd.R_slice HO772.out
 (first | subst eo49 | (injection eo49 with f1_ f2_ f3_; have f4_ := f1_.symm; have f5_ := f3_.symm; clear f1_ f2_ f3_; subst f4_; subst f5_))
 refine hK.out _ _ (cr12 BK746 ⟨(blk_cell BK747.out 0).trans rfl, (blk_cell BK747.out 1).trans rfl⟩) (fun hHeld => ?_)
 clear hK K
 refine norm_ (a' := ?_) ?_ ?_
 rotate_left
 {
 show Act.put _ (some 45) _ = _
 simp only [Act.put, zs, zz, zk, i64_w, i32_w]
 rfl
 }
 refine one_ (i := 8) (N := some 46) (bA 14 511) rfl rfl (one_of HT_.out (by kernel_rfl)) (by decide) (fun K hK => ?_)
 refine goes_ Try.func34 (by kernel_rfl) rfl #[.agg #[.int .i8 t751, .int .i8 t752, .int .u16 t753, .int .u16 t754, .int .u16 t755, .int .u16 t756, .int .u16 t757, .int .u16 t758, .int .u16 t759, .int .u16 t760, .int .u16 t761, .int .u16 t762], .agg #[.int .i16 t763, .slice Ao47 t764.length co47], .slice Ao48 t767.length co48, .slice Ao49 t770.length co49] (by rfl) rfl rfl gl_ ?_
 with_reducible refine (spec_SlacksOf.calls k t751 t752 t753 t754 t755 t756 t757 t758 t759 t760 t761 t762 t763 _ _ t764 _ _ t767 _ _ t770 t773 t776 _ ?side1 ?side2 ?side3 ?side4 ?side5 ?side6 A30.out).mono ?_
 (case side1 => exact zC (Kd.R_reads' HO766.out).2.2)
 (case side2 => exact (Kd.R_reads' HO766.out).2.1)
 (case side3 => exact zC (Kd.R_reads' HO769.out).2.2)
 (case side4 => exact (Kd.R_reads' HO769.out).2.1)
 (case side5 => exact zC (Kd.R_reads' HO772.out).2.2)
 (case side6 => exact (Kd.R_reads' HO772.out).2.1)
 rintro e w50 ⟨v774, rfl, ho0, hb⟩
 refine ⟨_, rfl, ?_⟩
 have HO775 := ak (Kd.R_lower ho0 (below_size (zH2 HB GE746 GE747)))
 replace HO766 := kR HO766 hb
 replace HO769 := kR HO769 hb
 replace HO772 := kR HO772 hb
 replace BK746 := kK BK746 hb
 replace BK747 := kK BK747 hb
 replace HB := kB2 HB GE746 GE747 hb
 (try clear hb)
 (try clear ho0)
 refine hK.out _ _ (cr12 BK746 ⟨(blk_cell BK747.out 0).trans rfl, (blk_cell BK747.out 1).trans rfl⟩) (fun hHeld => ?_)
 clear hK K
 refine norm_ (a' := ?_) ?_ ?_
 rotate_left
 {
 show Act.put _ (some 46) _ = _
 simp only [Act.put, zs, zz, zk, i64_w, i32_w]
 rfl
 }
 refine pU 9 37 (bA 14 1023) HT_ ?_
 refine pU 10 47 (bA 14 2047) HT_ ?_
 refine pU 11 48 (bA 14 4095) HT_ ?_
 refine pU 12 10 (bA 14 8191) HT_ ?_
 refine pU 13 11 (bA 14 16383) HT_ ?_
 refine done_ (done_of HT_.out (by kernel_rfl)) ?_
 have hcz51_0 : w50.cell? ⟨gb747, 0, none⟩ = some (.int .i16 a1_0) := (blk_cell BK747.out 0).trans rfl
 have hcz51_1 : w50.cell? ⟨gb747, 1, none⟩ = some (.slice A1_1 l1_1.length c1_1) := (blk_cell BK747.out 1).trans rfl
 have hfz51_0 := blk_frozen BK747.out 0
 have hfz51_1 := blk_frozen BK747.out 1
 try go_wp2_with (first | ((with_reducible refine gate_callee (f := 20) rfl ?_); refine goesL_ (some 50) rfl rfl Try.func20 (by kernel_rfl) rfl #[.agg #[.int .i16 a1_0, .slice A1_1 l1_1.length c1_1]] rfl gl_ ?_; (with_reducible refine (laws_toRope.calls k a1_0 _ _ l1_1 t777 t778 _ ?side1 ?side2 A31.out).mono ?_); (case side1 => exact sQ (Kd.C_below HR1_1.out HB.out)); (case side2 => exact HC1_1.out); rintro e w52 ⟨v779, rfl, ho0, hb⟩; refine ⟨_, rfl, ?_⟩; have n0_ := ak (Kd.R_elder' (zR HO766.out) (Kd.R_base ho0) hb); have n1_ := ak (Kd.R_below (zR HO769.out) hb); have n2_ := ak (Kd.R_below (zR HO772.out) hb); have n3_ := ak (Kd.R_below (zR HO775.out) hb); have n4_ := ak (Kd.R_lower (Kd.R_new' ho0 (Kd.R_lt (zR HO766.out))) (below_size (zH2 HB GE746 GE747))); have n5_ := ak (blk_below (g := gb746) (o := .cells #[.int .i8 a0_0, .int .i8 a0_1, .int .u16 a0_2, .int .u16 a0_3, .int .u16 a0_4, .int .u16 a0_5, .int .u16 a0_6, .int .u16 a0_7, .int .u16 a0_8, .int .u16 a0_9, .int .u16 a0_10, .int .u16 a0_11] 26 (0, 0)) (zK BK746.out) hb); have n6_ := ak (blk_below (g := gb747) (o := .cells #[.int .i16 a1_0, .slice A1_1 l1_1.length c1_1] 44 (0, 0)) (zK BK747.out) hb); have n7_ := ak (below_step (zH2 HB GE746 GE747) hb); clear HO766 HO769 HO772 HO775 BK746 BK747 HB; have HO766 := n0_; have HO769 := n1_; have HO772 := n2_; have HO775 := n3_; have HO780 := n4_; have BK746 := n5_; have BK747 := n6_; have HB := n7_; clear n0_ n1_ n2_ n3_ n4_ n5_ n6_ n7_; (try clear hb); (try clear hb2); (try clear hk); (try clear hi); (try clear ho0)) | ((with_reducible refine gate_dst (N := 12) rfl ?_); refine box_event ?hg (N := 12) ?hd (cs := #[.int .i16 0, .slice none 0 0]) (t := 32) ?hr ?_; (case hd => rfl); (case hg => rfl); (case hr => first | (go_simp; done) | (go_simp; rfl)); intro gb781 hg w53 hbox hb; have n0_ := ak (Kd.R_below (zR HO766.out) hb); have n1_ := ak (Kd.R_below (zR HO769.out) hb); have n2_ := ak (Kd.R_below (zR HO772.out) hb); have n3_ := ak (Kd.R_below (zR HO775.out) hb); have n4_ := ak (Kd.R_below (zR HO780.out) hb); have n5_ := ak (blk_below (g := gb746) (o := .cells #[.int .i8 a0_0, .int .i8 a0_1, .int .u16 a0_2, .int .u16 a0_3, .int .u16 a0_4, .int .u16 a0_5, .int .u16 a0_6, .int .u16 a0_7, .int .u16 a0_8, .int .u16 a0_9, .int .u16 a0_10, .int .u16 a0_11] 26 (0, 0)) (zK BK746.out) hb); have n6_ := ak (blk_below (g := gb747) (o := .cells #[.int .i16 a1_0, .slice A1_1 l1_1.length c1_1] 44 (0, 0)) (zK BK747.out) hb); have n7_ := ak (below_step (zH2 HB GE746 GE747) hb); have n8_ := ak (hbox); have n9_ := ak ((by rw [hg]; exact (below_size (zH2 HB GE746 GE747)) : w.heap.size ≤ gb781)); have n10_ := ak ((by rw [hg]; exact (below_size (zH2 HB GE746 GE747)) : w.heap.size ≤ gb781)); have n11_ := nL BK746 hg; have n12_ := nG BK746 hg; have n13_ := nL BK747 hg; have n14_ := nG BK747 hg; clear HO766 HO769 HO772 HO775 HO780 BK746 BK747 HB; have HO766 := n0_; have HO769 := n1_; have HO772 := n2_; have HO775 := n3_; have HO780 := n4_; have BK746 := n5_; have BK747 := n6_; have HB := n7_; have BK781 := n8_; have GW781 := n9_; have GE781 := n10_; have NB746_781 := n11_; have NB781_746 := n12_; have NB747_781 := n13_; have NB781_747 := n14_; clear n0_ n1_ n2_ n3_ n4_ n5_ n6_ n7_ n8_ n9_ n10_ n11_ n12_ n13_ n14_; clear hb hbox hg; have hnb54 := NB781_746.out; have hnc54 := NB746_781.out; have hnb55 := NB781_747.out; have hnc55 := NB747_781.out; have hcz56_0 : w53.cell? ⟨gb781, 0, none⟩ = some (.int .i16 0) := (blk_cell BK781.out 0).trans rfl; have hcz56_1 : w53.cell? ⟨gb781, 1, none⟩ = some (.slice none 0 0) := (blk_cell BK781.out 1).trans rfl; have hfz56_0 := blk_frozen BK781.out 0; have hfz56_1 := blk_frozen BK781.out 1; obtain ⟨Ao57, co57, eo57⟩ := Kd.R_slice HO780.out; subst eo57) | ((with_reducible refine gate_callee (f := 21) rfl ?_); refine goesL_ (some 52) rfl rfl Try.func21 (by kernel_rfl) rfl #[.slice A2 l2.length c2] rfl gl_ ?_; (with_reducible refine (laws_toHoldS.calls k _ _ l2 t782 _ ?side1 ?side2 A32.out).mono ?_); (case side1 => exact Kd.C_below HR2.out (zH3 HB GE746 GE747 GE781)); (case side2 => exact HC2.out); rintro e w58 ⟨v783, rfl, ho0, hb⟩; refine ⟨_, rfl, ?_⟩; have n0_ := ak (Kd.R_below (by (with_reducible repeat (first | apply Kd.R_alloc | apply Kd.R_drewN | apply Kd.R_drew)); exact (Kd.R_mono (Kd.R_far (p := ⟨gb781, 1, none⟩) (Kd.R_far (p := ⟨gb781, 0, none⟩) (Kd.R_types HO766.out BK781.out (by decide)) (fun _ hk => hk.2) (.int .i16 t777)) (fun _ hk => hk.2) (.slice Ao57 t778.length co57)) (fun _ h_ => h_.1))) hb); have n1_ := ak (Kd.R_elder' (by (with_reducible repeat (first | apply Kd.R_alloc | apply Kd.R_drewN | apply Kd.R_drew)); exact (Kd.R_mono (Kd.R_far (p := ⟨gb781, 1, none⟩) (Kd.R_far (p := ⟨gb781, 0, none⟩) (Kd.R_types HO769.out BK781.out (by decide)) (fun _ hk => hk.2) (.int .i16 t777)) (fun _ hk => hk.2) (.slice Ao57 t778.length co57)) (fun _ h_ => h_.1))) (Kd.R_base ho0) hb); have n2_ := ak (Kd.R_below (by (with_reducible repeat (first | apply Kd.R_alloc | apply Kd.R_drewN | apply Kd.R_drew)); exact (Kd.R_mono (Kd.R_far (p := ⟨gb781, 1, none⟩) (Kd.R_far (p := ⟨gb781, 0, none⟩) (Kd.R_types HO772.out BK781.out (by decide)) (fun _ hk => hk.2) (.int .i16 t777)) (fun _ hk => hk.2) (.slice Ao57 t778.length co57)) (fun _ h_ => h_.1))) hb); have n3_ := ak (Kd.R_below (by (with_reducible repeat (first | apply Kd.R_alloc | apply Kd.R_drewN | apply Kd.R_drew)); exact (Kd.R_mono (Kd.R_far (p := ⟨gb781, 1, none⟩) (Kd.R_far (p := ⟨gb781, 0, none⟩) (Kd.R_types HO775.out BK781.out (by decide)) (fun _ hk => hk.2) (.int .i16 t777)) (fun _ hk => hk.2) (.slice Ao57 t778.length co57)) (fun _ h_ => h_.1))) hb); have n4_ := ak (Kd.R_below (by (with_reducible repeat (first | apply Kd.R_alloc | apply Kd.R_drewN | apply Kd.R_drew)); exact (Kd.R_mono (Kd.R_far (p := ⟨gb781, 1, none⟩) (Kd.R_far (p := ⟨gb781, 0, none⟩) (Kd.R_types HO780.out BK781.out (by decide)) (fun _ hk => hk.2) (.int .i16 t777)) (fun _ hk => hk.2) (.slice Ao57 t778.length co57)) (fun _ h_ => h_.1))) hb); have n5_ := ak (Kd.R_lower (Kd.R_new' ho0 (Kd.R_lt (by (with_reducible repeat (first | apply Kd.R_alloc | apply Kd.R_drewN | apply Kd.R_drew)); exact (Kd.R_mono (Kd.R_far (p := ⟨gb781, 1, none⟩) (Kd.R_far (p := ⟨gb781, 0, none⟩) (Kd.R_types HO769.out BK781.out (by decide)) (fun _ hk => hk.2) (.int .i16 t777)) (fun _ hk => hk.2) (.slice Ao57 t778.length co57)) (fun _ h_ => h_.1))))) (below_size (zH3 HB GE746 GE747 GE781))); have n6_ := ak (blk_below (g := gb746) (o := .cells #[.int .i8 a0_0, .int .i8 a0_1, .int .u16 a0_2, .int .u16 a0_3, .int .u16 a0_4, .int .u16 a0_5, .int .u16 a0_6, .int .u16 a0_7, .int .u16 a0_8, .int .u16 a0_9, .int .u16 a0_10, .int .u16 a0_11] 26 (0, 0)) (by (with_reducible repeat (first | refine blk_drewN ?_ _ | refine blk_drew ?_ | refine blk_alloc ?_ _)); refine blk_far ?_ NB746_781.out _; (with_reducible repeat (first | refine blk_drewN ?_ _ | refine blk_drew ?_ | refine blk_alloc ?_ _)); refine blk_far ?_ NB746_781.out _; (with_reducible repeat (first | refine blk_drewN ?_ _ | refine blk_drew ?_ | refine blk_alloc ?_ _)); exact BK746.out) hb); have n7_ := ak (blk_below (g := gb747) (o := .cells #[.int .i16 a1_0, .slice A1_1 l1_1.length c1_1] 44 (0, 0)) (by (with_reducible repeat (first | refine blk_drewN ?_ _ | refine blk_drew ?_ | refine blk_alloc ?_ _)); refine blk_far ?_ NB747_781.out _; (with_reducible repeat (first | refine blk_drewN ?_ _ | refine blk_drew ?_ | refine blk_alloc ?_ _)); refine blk_far ?_ NB747_781.out _; (with_reducible repeat (first | refine blk_drewN ?_ _ | refine blk_drew ?_ | refine blk_alloc ?_ _)); exact BK747.out) hb); have n8_ := ak (blk_below (g := gb781) (o := .cells #[.int .i16 t777, .slice Ao57 t778.length co57] 32 (0, 0)) (by (with_reducible repeat (first | refine blk_drewN ?_ _ | refine blk_drew ?_ | refine blk_alloc ?_ _)); refine blk_put (cs := #[.int .i16 t777, .slice none 0 0]) ?_ 1 _ rfl; (with_reducible repeat (first | refine blk_drewN ?_ _ | refine blk_drew ?_ | refine blk_alloc ?_ _)); refine blk_put (cs := #[.int .i16 0, .slice none 0 0]) ?_ 0 _ rfl; (with_reducible repeat (first | refine blk_drewN ?_ _ | refine blk_drew ?_ | refine blk_alloc ?_ _)); exact BK781.out) hb); have n9_ := ak (below_step (zH3 HB GE746 GE747 GE781) hb); clear HO766 HO769 HO772 HO775 HO780 BK746 BK747 BK781 HB; have HO766 := n0_; have HO769 := n1_; have HO772 := n2_; have HO775 := n3_; have HO780 := n4_; have HO784 := n5_; have BK746 := n6_; have BK747 := n7_; have BK781 := n8_; have HB := n9_; clear n0_ n1_ n2_ n3_ n4_ n5_ n6_ n7_ n8_ n9_; (try clear hb); (try clear hb2); (try clear hk); (try clear hi); (try clear ho0)) | ((with_reducible refine gate_callee (f := 10) rfl ?_); refine goesL_ (some 54) rfl rfl Try.func10 (by kernel_rfl) rfl #[.slice A3 l3.length c3] rfl gl_ ?_; (with_reducible refine (laws_toSpotS.calls k _ _ l3 t785 _ ?side1 ?side2 A33.out).mono ?_); (case side1 => exact sQ (Kd.C_below HR3.out HB.out)); (case side2 => exact HC3.out); rintro e w59 ⟨v786, rfl, ho0, hb⟩; refine ⟨_, rfl, ?_⟩; have n0_ := ak (Kd.R_below (zR HO766.out) hb); have n1_ := ak (Kd.R_below (zR HO769.out) hb); have n2_ := ak (Kd.R_elder' (zR HO772.out) (Kd.R_base ho0) hb); have n3_ := ak (Kd.R_below (zR HO775.out) hb); have n4_ := ak (Kd.R_below (zR HO780.out) hb); have n5_ := ak (Kd.R_below (zR HO784.out) hb); have n6_ := ak (Kd.R_lower (Kd.R_new' ho0 (Kd.R_lt (zR HO772.out))) (below_size (zH3 HB GE746 GE747 GE781))); have n7_ := ak (blk_below (g := gb746) (o := .cells #[.int .i8 a0_0, .int .i8 a0_1, .int .u16 a0_2, .int .u16 a0_3, .int .u16 a0_4, .int .u16 a0_5, .int .u16 a0_6, .int .u16 a0_7, .int .u16 a0_8, .int .u16 a0_9, .int .u16 a0_10, .int .u16 a0_11] 26 (0, 0)) (zK BK746.out) hb); have n8_ := ak (blk_below (g := gb747) (o := .cells #[.int .i16 a1_0, .slice A1_1 l1_1.length c1_1] 44 (0, 0)) (zK BK747.out) hb); have n9_ := ak (blk_below (g := gb781) (o := .cells #[.int .i16 t777, .slice Ao57 t778.length co57] 32 (0, 0)) (zK BK781.out) hb); have n10_ := ak (below_step (zH3 HB GE746 GE747 GE781) hb); clear HO766 HO769 HO772 HO775 HO780 HO784 BK746 BK747 BK781 HB; have HO766 := n0_; have HO769 := n1_; have HO772 := n2_; have HO775 := n3_; have HO780 := n4_; have HO784 := n5_; have HO787 := n6_; have BK746 := n7_; have BK747 := n8_; have BK781 := n9_; have HB := n10_; clear n0_ n1_ n2_ n3_ n4_ n5_ n6_ n7_ n8_ n9_ n10_; (try clear hb); (try clear hb2); (try clear hk); (try clear hi); (try clear ho0)))
 replace HO766 := ak (Kd.R_drew HO766.out)
 replace HO769 := ak (Kd.R_drew HO769.out)
 replace HO772 := ak (Kd.R_drew HO772.out)
 replace HO775 := ak (Kd.R_drew HO775.out)
 replace HO780 := ak (Kd.R_drew HO780.out)
 replace HO784 := ak (Kd.R_drew HO784.out)
 replace HO787 := ak (Kd.R_drew HO787.out)
 replace BK746 := ak (blk_drew BK746.out)
 replace BK747 := ak (blk_drew BK747.out)
 replace BK781 := ak (blk_drew BK781.out)
 replace HB := ak (below_drew1 HB.out)
 refine start_ (n := 11) (S := fun w' => w'.cell? ⟨gb746, 0, none⟩ = some (.int .i8 a0_0) ∧ w'.cell? ⟨gb746, 1, none⟩ = some (.int .i8 a0_1) ∧ w'.cell? ⟨gb746, 2, none⟩ = some (.int .u16 a0_2) ∧ w'.cell? ⟨gb746, 3, none⟩ = some (.int .u16 a0_3) ∧ w'.cell? ⟨gb746, 4, none⟩ = some (.int .u16 a0_4) ∧ w'.cell? ⟨gb746, 5, none⟩ = some (.int .u16 a0_5) ∧ w'.cell? ⟨gb746, 6, none⟩ = some (.int .u16 a0_6) ∧ w'.cell? ⟨gb746, 7, none⟩ = some (.int .u16 a0_7) ∧ w'.cell? ⟨gb746, 8, none⟩ = some (.int .u16 a0_8) ∧ w'.cell? ⟨gb746, 9, none⟩ = some (.int .u16 a0_9) ∧ w'.cell? ⟨gb746, 10, none⟩ = some (.int .u16 a0_10) ∧ w'.cell? ⟨gb746, 11, none⟩ = some (.int .u16 a0_11) ∧ w'.cell? ⟨gb781, 0, none⟩ = some (.int .i16 t777) ∧ w'.cell? ⟨gb781, 1, none⟩ = some (.slice Ao57 t778.length co57)) (ds := []) (bA 11 0) (by kernel_rfl) rfl rfl (cr12 BK746 ⟨(blk_cell BK781.out 0).trans rfl, (blk_cell BK781.out 1).trans rfl⟩) (fun hHeld => ?_); refine with_tabW laws_FnExactSlacksOf.tab15 laws_FnExactSlacksOf.bits15 (fun HT_ HW_ => ?_)
 generalize w59.drew = w60 at HO766 HO769 HO772 HO775 HO780 HO784 HO787 BK746 BK747 BK781 HB hHeld ⊢
 refine pU 3 59 (bA 11 8) HT_ ?_
 refine pU 4 60 (bA 11 24) HT_ ?_
 refine tK 0 56 (bA 11 25) HT_ HW_ hHeld ?_
 refine tK 2 58 (bA 11 29) HT_ HW_ hHeld ?_
 refine one_ (i := 1) (N := some 57) (bA 11 31) rfl rfl (one_of HT_.out (by kernel_rfl)) (by decide) (fun K hK => ?_)
 refine goes_ Try.func9 (by kernel_rfl) rfl #[.agg #[.int .i8 a0_0, .int .i8 a0_1, .int .u16 a0_2, .int .u16 a0_3, .int .u16 a0_4, .int .u16 a0_5, .int .u16 a0_6, .int .u16 a0_7, .int .u16 a0_8, .int .u16 a0_9, .int .u16 a0_10, .int .u16 a0_11]] (by rfl) rfl rfl gl_ ?_
 with_reducible refine (laws_toRoom.calls k a0_0 a0_1 a0_2 a0_3 a0_4 a0_5 a0_6 a0_7 a0_8 a0_9 a0_10 a0_11 t788 t789 t790 t791 t792 t793 t794 t795 t796 t797 t798 t799 _ A34.out).mono ?_
 rintro e w61 ⟨rfl, hb⟩
 refine ⟨_, rfl, ?_⟩
 replace HO766 := kR HO766 hb
 replace HO769 := kR HO769 hb
 replace HO772 := kR HO772 hb
 replace HO775 := kR HO775 hb
 replace HO780 := kR HO780 hb
 replace HO784 := kR HO784 hb
 replace HO787 := kR HO787 hb
 replace BK746 := kK BK746 hb
 replace BK747 := kK BK747 hb
 replace BK781 := kK BK781 hb
 replace HB := kB3 HB GE746 GE747 GE781 hb
 (try clear hb)
 obtain ⟨Ao62, co62, eo62⟩ := Kd.R_slice HO784.out
 (first | subst eo62 | (injection eo62 with f1_ f2_ f3_; have f4_ := f1_.symm; have f5_ := f3_.symm; clear f1_ f2_ f3_; subst f4_; subst f5_))
 obtain ⟨Ao63, co63, eo63⟩ := Kd.R_slice HO787.out
 (first | subst eo63 | (injection eo63 with f1_ f2_ f3_; have f4_ := f1_.symm; have f5_ := f3_.symm; clear f1_ f2_ f3_; subst f4_; subst f5_))
 refine hK.out _ _ (cr12 BK746 ⟨(blk_cell BK781.out 0).trans rfl, (blk_cell BK781.out 1).trans rfl⟩) (fun hHeld => ?_)
 clear hK K
 refine norm_ (a' := ?_) ?_ ?_
 rotate_left
 {
 show Act.put _ (some 57) _ = _
 simp only [Act.put, zs, zz, zk, i64_w, i32_w]
 rfl
 }
 refine one_ (i := 5) (N := some 61) (bA 11 63) rfl rfl (one_of HT_.out (by kernel_rfl)) (by decide) (fun K hK => ?_)
 refine goes_ Try.func31 (by kernel_rfl) rfl #[.agg #[.int .i8 t788, .int .i8 t789, .int .u16 t790, .int .u16 t791, .int .u16 t792, .int .u16 t793, .int .u16 t794, .int .u16 t795, .int .u16 t796, .int .u16 t797, .int .u16 t798, .int .u16 t799], .agg #[.int .i16 t777, .slice Ao57 t778.length co57], .slice Ao62 t782.length co62, .slice Ao63 t785.length co63] (by rfl) rfl rfl gl_ ?_
 with_reducible refine (impl_SlacksOf.calls k t788 t789 t790 t791 t792 t793 t794 t795 t796 t797 t798 t799 t777 _ _ t778 _ _ t782 _ _ t785 t800 t803 _ ?side1 ?side2 ?side3 ?side4 ?side5 ?side6 A35.out).mono ?_
 (case side1 => exact zC (Kd.R_reads' HO780.out).2.2)
 (case side2 => exact (Kd.R_reads' HO780.out).2.1)
 (case side3 => exact zC (Kd.R_reads' HO784.out).2.2)
 (case side4 => exact (Kd.R_reads' HO784.out).2.1)
 (case side5 => exact zC (Kd.R_reads' HO787.out).2.2)
 (case side6 => exact (Kd.R_reads' HO787.out).2.1)
 rintro e w64 ⟨v801, rfl, ho0, hb⟩
 refine ⟨_, rfl, ?_⟩
 have HO802 := ak (Kd.R_lower (Kd.R_new' ho0 (Kd.R_lt (zR HO775.out))) (below_size (zH3 HB GE746 GE747 GE781)))
 replace HO766 := kR HO766 hb
 replace HO769 := kR HO769 hb
 replace HO772 := kR HO772 hb
 replace HO775 := kE HO775 ho0 hb
 replace HO780 := kR HO780 hb
 replace HO784 := kR HO784 hb
 replace HO787 := kR HO787 hb
 replace BK746 := kK BK746 hb
 replace BK747 := kK BK747 hb
 replace BK781 := kK BK781 hb
 replace HB := kB3 HB GE746 GE747 GE781 hb
 (try clear hb)
 (try clear ho0)
 refine hK.out _ _ (cr12 BK746 ⟨(blk_cell BK781.out 0).trans rfl, (blk_cell BK781.out 1).trans rfl⟩) (fun hHeld => ?_)
 clear hK K
 refine norm_ (a' := ?_) ?_ ?_
 rotate_left
 {
 show Act.put _ (some 61) _ = _
 simp only [Act.put, zs, zz, zk, i64_w, i32_w]
 rfl
 }
 refine pU 6 55 (bA 11 127) HT_ ?_
 refine pU 7 62 (bA 11 255) HT_ ?_
 refine pU 8 63 (bA 11 511) HT_ ?_
 refine pU 9 15 (bA 11 1023) HT_ ?_
 refine pU 10 16 (bA 11 2047) HT_ ?_
 refine done_ (done_of HT_.out (by kernel_rfl)) ?_
 go_upto_region 16 with (fail)
 go_cut [72] (fun v72 wc => ∃ (kq : Nat) (x72_35 : Bool), v72 = .bool x72_35 ∧ Aside0 (laws_FnExactSlacksOf.j0 kq l2 l3 t773 t776 t782 t785 t800 t803 x72_35 a0_0 a0_1 a0_2 a0_3 a0_4 a0_5 a0_6 a0_7 a0_8 a0_9 a0_10 a0_11 a1_0 l1_1 t777 t778 = some r) ∧ Aside0 (kq ≤ k) ∧ Aside0 (Kd.R (Kd.int .i64) 2 wc w.heap.size (fun k_ => some k_ ≠ (v801 : Value).ownBlock) v774 t773) ∧ Aside0 (Kd.R k65 65 wc w.heap.size (fun _ => True) (.slice Ao62 t782.length co62) t782) ∧ Aside0 (Kd.R k62 62 wc w.heap.size (fun _ => True) (.slice Ao63 t785.length co63) t785) ∧ Aside0 (Kd.R (Kd.int .i64) 2 wc w.heap.size (fun k_ => some k_ ≠ (v774 : Value).ownBlock) v801 t800) ∧ Aside0 (Kd.R (Kd.int .i16) 29 wc w.heap.size (fun _ => True) (.slice Ao57 t778.length co57) t778) ∧ Aside0 (wc.heap[gb746]? = some (.cells #[.int .i8 a0_0, .int .i8 a0_1, .int .u16 a0_2, .int .u16 a0_3, .int .u16 a0_4, .int .u16 a0_5, .int .u16 a0_6, .int .u16 a0_7, .int .u16 a0_8, .int .u16 a0_9, .int .u16 a0_10, .int .u16 a0_11] 26 (0, 0))) ∧ Aside0 (wc.heap[gb747]? = some (.cells #[.int .i16 a1_0, (.slice A1_1 l1_1.length c1_1)] 44 (0, 0))) ∧ Aside0 (wc.heap[gb781]? = some (.cells #[.int .i16 t777, (.slice Ao57 t778.length co57)] 32 (0, 0))) ∧ Aside0 (Below w.heap.size w wc))
 case first => (
 have H := HC36.out
 clear HC36
 replace H := Option.bind_eq_some_iff.mp H
 obtain ⟨t804, A650, H⟩ := H
 have A65 := ak A650
 clear A650
 by_cases c66 : t804 = true
 {
 subst c66
 rw [if_pos rfl] at H
 have H' := ak H
 clear H
 obtain ⟨Ao67, co67, eo67⟩ := Kd.R_slice HO802.out
 subst eo67
 obtain ⟨Ao68, co68, eo68⟩ := Kd.R_slice HO775.out
 subst eo68
 go_wp2_with (first | ((with_reducible refine gate_callee (f := 36) rfl ?_); refine goesL_ (some 66) rfl rfl Try.func36 (by kernel_rfl) rfl #[.slice Ao67 t800.length co67, .slice Ao68 t773.length co68] rfl gl_ ?_; (with_reducible refine (laws_eqInt64S.calls k _ _ t800 _ _ t773 true _ ?side1 ?side2 ?side3 ?side4 A65.out).mono ?_); (case side1 => exact sC HO802); (case side2 => exact sL HO802); (case side3 => exact sC HO775); (case side4 => exact sL HO775); rintro e w' ⟨rfl, ⟨nd, rfl⟩⟩; refine ⟨_, rfl, ?_⟩))
 go_meet
 case rel => exact ⟨_, ((t803 != t776)), (by first | rfl | (simp; done) | (simp [*]; done)), H', ⟨by first | omega | exact Nat.le_refl _⟩, ⟨by (with_reducible repeat (first | apply Kd.R_alloc | apply Kd.R_drewN | apply Kd.R_drew)); exact Kd.R_mono HO775.out (fun _ hk => hk.2)⟩, ⟨by (with_reducible repeat (first | apply Kd.R_alloc | apply Kd.R_drewN | apply Kd.R_drew)); exact Kd.R_mono HO784.out (fun _ hk => trivial)⟩, ⟨by (with_reducible repeat (first | apply Kd.R_alloc | apply Kd.R_drewN | apply Kd.R_drew)); exact Kd.R_mono HO787.out (fun _ hk => trivial)⟩, ⟨by (with_reducible repeat (first | apply Kd.R_alloc | apply Kd.R_drewN | apply Kd.R_drew)); exact Kd.R_mono HO802.out (fun _ hk => hk.2)⟩, ⟨by (with_reducible repeat (first | apply Kd.R_alloc | apply Kd.R_drewN | apply Kd.R_drew)); exact Kd.R_mono HO780.out (fun _ hk => trivial)⟩, ⟨(zK BK746.out)⟩, ⟨(zK BK747.out)⟩, ⟨(zK BK781.out)⟩, ⟨zH3 HB GE746 GE747 GE781⟩⟩
 }
 {
 replace c66 := Bool.eq_false_iff.mpr c66
 subst c66
 rw [if_neg (show ¬ (false = true) by decide)] at H
 have H' := ak H
 clear H
 obtain ⟨Ao69, co69, eo69⟩ := Kd.R_slice HO802.out
 subst eo69
 obtain ⟨Ao70, co70, eo70⟩ := Kd.R_slice HO775.out
 subst eo70
 go_wp2_with (first | ((with_reducible refine gate_callee (f := 36) rfl ?_); refine goesL_ (some 66) rfl rfl Try.func36 (by kernel_rfl) rfl #[.slice Ao69 t800.length co69, .slice Ao70 t773.length co70] rfl gl_ ?_; (with_reducible refine (laws_eqInt64S.calls k _ _ t800 _ _ t773 false _ ?side1 ?side2 ?side3 ?side4 A65.out).mono ?_); (case side1 => exact sC HO802); (case side2 => exact sL HO802); (case side3 => exact sC HO775); (case side4 => exact sL HO775); rintro e w' ⟨rfl, ⟨nd, rfl⟩⟩; refine ⟨_, rfl, ?_⟩))
 go_meet
 case rel => exact ⟨_, (true), (by first | rfl | (simp; done) | (simp [*]; done)), H', ⟨by first | omega | exact Nat.le_refl _⟩, ⟨by (with_reducible repeat (first | apply Kd.R_alloc | apply Kd.R_drewN | apply Kd.R_drew)); exact Kd.R_mono HO775.out (fun _ hk => hk.2)⟩, ⟨by (with_reducible repeat (first | apply Kd.R_alloc | apply Kd.R_drewN | apply Kd.R_drew)); exact Kd.R_mono HO784.out (fun _ hk => trivial)⟩, ⟨by (with_reducible repeat (first | apply Kd.R_alloc | apply Kd.R_drewN | apply Kd.R_drew)); exact Kd.R_mono HO787.out (fun _ hk => trivial)⟩, ⟨by (with_reducible repeat (first | apply Kd.R_alloc | apply Kd.R_drewN | apply Kd.R_drew)); exact Kd.R_mono HO802.out (fun _ hk => hk.2)⟩, ⟨by (with_reducible repeat (first | apply Kd.R_alloc | apply Kd.R_drewN | apply Kd.R_drew)); exact Kd.R_mono HO780.out (fun _ hk => trivial)⟩, ⟨(zK BK746.out)⟩, ⟨(zK BK747.out)⟩, ⟨(zK BK781.out)⟩, ⟨zH3 HB GE746 GE747 GE781⟩⟩
 }
 )
 case rest => (
 clear HC36
 try clear c2
 try clear c3
 try clear c6
 try clear c20
 try clear c20b0
 try clear hcz40_0
 try clear hcz40_1
 try clear hcz51_0
 try clear hcz51_1
 try clear hcz56_0
 try clear hcz56_1
 try clear hfz40_0
 try clear hfz40_1
 try clear hfz51_0
 try clear hfz51_1
 try clear hfz56_0
 try clear hfz56_1
 obtain ⟨kq, x72_35, rfl, HA, HJ35, HO_10, HO_13, HO_14, HO_15, HO_782001, BK746, BK747, BK781, HB⟩ := hcut
 cases kq with
 | zero => exact absurd HA.out (by simp [laws_FnExactSlacksOf.j0])
 | succ kj35 => (
 have H := HA.out
 clear HA
 simp only [laws_FnExactSlacksOf.j0] at H
 by_cases c71 : x72_35 = true
 {
 subst c71
 rw [if_pos rfl] at H
 exact absurd ((Option.some.inj H).trans HT.out) (by decide)
 }
 {
 replace c71 := Bool.eq_false_iff.mpr c71
 subst c71
 rw [if_neg (show ¬ (false = true) by decide)] at H
 replace H := Option.bind_eq_some_iff.mp H
 obtain ⟨⟨t805, t806⟩, A720, H⟩ := H
 have A72 := ak A720
 clear A720
 replace H := Option.bind_eq_some_iff.mp H
 obtain ⟨t809, A730, H⟩ := H
 have A73 := ak A730
 clear A730
 by_cases c74 : t809 = true
 {
 subst c74
 rw [if_pos rfl] at H
 replace H := Option.bind_eq_some_iff.mp H
 obtain ⟨t810, A750, H⟩ := H
 have A75 := ak A750
 clear A750
 replace H := Option.bind_eq_some_iff.mp H
 obtain ⟨t813, A760, H⟩ := H
 have A76 := ak A760
 clear A760
 by_cases c77 : t813 = true
 {
 subst c77
 rw [if_pos rfl] at H
 replace H := Option.bind_eq_some_iff.mp H
 obtain ⟨t814, A780, H⟩ := H
 have A78 := ak A780
 clear A780
 replace H := Option.bind_eq_some_iff.mp H
 obtain ⟨t817, A790, H⟩ := H
 have A79 := ak A790
 clear A790
 by_cases c80 : t817 = true
 {
 subst c80
 rw [if_pos rfl] at H
 replace H := Option.bind_eq_some_iff.mp H
 obtain ⟨⟨t818, t819⟩, A810, H⟩ := H
 have A81 := ak A810
 clear A810
 replace H := Option.bind_eq_some_iff.mp H
 obtain ⟨⟨t820, t821⟩, A820, H⟩ := H
 have A82 := ak A820
 clear A820
 replace H := Option.bind_eq_some_iff.mp H
 obtain ⟨⟨t822, t823⟩, A830, H⟩ := H
 have A83 := ak A830
 clear A830
 have HC84 := ak H
 clear H
 try go_wp2
 replace HO_10 := ak (Kd.R_drew HO_10.out)
 replace HO_13 := ak (Kd.R_drew HO_13.out)
 replace HO_14 := ak (Kd.R_drew HO_14.out)
 replace HO_15 := ak (Kd.R_drew HO_15.out)
 replace HO_782001 := ak (Kd.R_drew HO_782001.out)
 replace BK746 := ak (blk_drew BK746.out)
 replace BK747 := ak (blk_drew BK747.out)
 replace BK781 := ak (blk_drew BK781.out)
 replace HB := ak (below_drew1 HB.out)
 refine start_ (n := 5) (S := fun w' => w'.cell? ⟨gb781, 0, none⟩ = some (.int .i16 t777) ∧ w'.cell? ⟨gb781, 1, none⟩ = some (.slice Ao57 t778.length co57) ∧ w'.cell? ⟨gb747, 0, none⟩ = some (.int .i16 a1_0) ∧ w'.cell? ⟨gb747, 1, none⟩ = some (.slice A1_1 l1_1.length c1_1)) (ds := []) (bA 5 0) (by kernel_rfl) rfl rfl ⟨(blk_cell BK781.out 0).trans rfl, (blk_cell BK781.out 1).trans rfl, (blk_cell BK747.out 0).trans rfl, (blk_cell BK747.out 1).trans rfl⟩ (fun hHeld => ?_)
 generalize wc.drew = w85 at HO_10 HO_13 HO_14 HO_15 HO_782001 BK746 BK747 BK781 HB hHeld ⊢
 refine take_ (i := 0) (N := some 73) (v := ?_) (a' := ?_) (bA 5 1) rfl rfl (by kernel_rfl) (fun _ _ _ h => h) (Or.inl ⟨by rfl, ?_⟩) hHeld ?_ ?_
 rotate_left
 {
 rintro w' ⟨s0, s1, s2, s3⟩
 go_simp
 with_reducible rfl
 }
 rotate_left
 · simp only [Act.put, zs, zz, zk, i64_w, i32_w]; rfl
 refine take_ (i := 1) (N := some 74) (v := ?_) (a' := ?_) (bA 5 3) rfl rfl (by kernel_rfl) (fun _ _ _ h => h) (Or.inl ⟨by rfl, ?_⟩) hHeld ?_ ?_
 rotate_left
 {
 rintro w' ⟨s0, s1, s2, s3⟩
 go_simp
 with_reducible rfl
 }
 rotate_left
 · simp only [Act.put, zs, zz, zk, i64_w, i32_w]; rfl
 refine one_ (i := 2) (N := some 75) (bA 5 7) rfl rfl (by kernel_rfl) (by decide) (fun K hK => ?_)
 refine goes_ Try.func20 (by kernel_rfl) rfl #[.agg #[.int .i16 a1_0, .slice A1_1 l1_1.length c1_1]] (by rfl) rfl rfl gl_ ?_
 with_reducible refine (laws_toRope.calls kj35 a1_0 _ _ l1_1 t805 t806 _ ?side1 ?side2 A72.out).mono ?_
 (case side1 => exact sQ (Kd.C_below HR1_1.out HB.out))
 (case side2 => exact HC1_1.out)
 rintro e w86 ⟨v807, rfl, ho0, hb⟩
 refine ⟨_, rfl, ?_⟩
 have HO808 := ak (Kd.R_lower (Kd.R_new' ho0 (Kd.R_lt (zR HO_782001.out))) (below_size (zH3 HB GE746 GE747 GE781)))
 replace HO_10 := kR HO_10 hb
 replace HO_13 := kR HO_13 hb
 replace HO_14 := kR HO_14 hb
 replace HO_15 := kR HO_15 hb
 replace HO_782001 := kE HO_782001 ho0 hb
 replace BK746 := kK BK746 hb
 replace BK747 := kK BK747 hb
 replace BK781 := kK BK781 hb
 replace HB := kB3 HB GE746 GE747 GE781 hb
 (try clear hb)
 (try clear ho0)
 obtain ⟨Ao87, co87, eo87⟩ := Kd.R_slice HO808.out
 (first | subst eo87 | (injection eo87 with f1_ f2_ f3_; have f4_ := f1_.symm; have f5_ := f3_.symm; clear f1_ f2_ f3_; subst f4_; subst f5_))
 refine hK.out _ _ ⟨(blk_cell BK781.out 0).trans rfl, (blk_cell BK781.out 1).trans rfl, (blk_cell BK747.out 0).trans rfl, (blk_cell BK747.out 1).trans rfl⟩ (fun hHeld => ?_)
 clear hK K
 refine norm_ (a' := ?_) ?_ ?_
 rotate_left
 {
 show Act.put _ (some 75) _ = _
 simp only [Act.put, zs, zz, zk, i64_w, i32_w]
 rfl
 }
 refine one_ (i := 3) (N := some 76) (bA 5 15) rfl rfl (by kernel_rfl) (by decide) (fun K hK => ?_)
 refine goes_ Try.func12 (by kernel_rfl) rfl #[.agg #[.int .i16 t777, .slice Ao57 t778.length co57], .agg #[.int .i16 t805, .slice Ao87 t806.length co87]] (by rfl) rfl rfl gl_ ?_
 with_reducible refine (laws_eqRope.calls kj35 t777 _ _ t778 t805 _ _ t806 true _ ?side1 ?side2 ?side3 ?side4 A73.out).mono ?_
 (case side1 => exact zC (Kd.R_reads' HO_782001.out).2.2)
 (case side2 => exact (Kd.R_reads' HO_782001.out).2.1)
 (case side3 => exact zC (Kd.R_reads' HO808.out).2.2)
 (case side4 => exact (Kd.R_reads' HO808.out).2.1)
 rintro e w88 ⟨rfl, hb⟩
 refine ⟨_, rfl, ?_⟩
 replace HO_10 := kR HO_10 hb
 replace HO_13 := kR HO_13 hb
 replace HO_14 := kR HO_14 hb
 replace HO_15 := kR HO_15 hb
 replace HO_782001 := kR HO_782001 hb
 replace HO808 := kR HO808 hb
 replace BK746 := kK BK746 hb
 replace BK747 := kK BK747 hb
 replace BK781 := kK BK781 hb
 replace HB := kB3 HB GE746 GE747 GE781 hb
 (try clear hb)
 refine hK.out _ _ ⟨(blk_cell BK781.out 0).trans rfl, (blk_cell BK781.out 1).trans rfl, (blk_cell BK747.out 0).trans rfl, (blk_cell BK747.out 1).trans rfl⟩ (fun hHeld => ?_)
 clear hK K
 refine norm_ (a' := ?_) ?_ ?_
 rotate_left
 {
 show Act.put _ (some 76) _ = _
 simp only [Act.put, zs, zz, zk, i64_w, i32_w]
 rfl
 }
 refine pure_ (i := 4) (N := some 77) (v := ?_) (a' := ?_) (bA 5 31) rfl rfl (by kernel_rfl) (fun _ _ _ h => h) (Or.inl ⟨by rfl, ?_⟩) ?_ ?_
 rotate_left
 {
 intro w'
 go_simp
 with_reducible rfl
 }
 rotate_left
 · simp only [Act.put, zs, zz, zk, i64_w, i32_w]; rfl
 refine done_ (by kernel_rfl) ?_
 go_upto_region 28 with (first | ((with_reducible refine gate_callee (f := 21) rfl ?_); refine goesL_ (some 80) rfl rfl Try.func21 (by kernel_rfl) rfl #[.slice A2 l2.length c2] rfl gl_ ?_; (with_reducible refine (laws_toHoldS.calls kj35 _ _ l2 t810 _ ?side1 ?side2 A75.out).mono ?_); (case side1 => exact sQ (Kd.C_below HR2.out HB.out)); (case side2 => exact HC2.out); rintro e w89 ⟨v811, rfl, ho0, hb⟩; refine ⟨_, rfl, ?_⟩; have HO812 := ak (Kd.R_lower (Kd.R_new' ho0 (Kd.R_lt (zR HO_13.out))) (below_size (zH3 HB GE746 GE747 GE781))); replace HO_10 := kR HO_10 hb; replace HO_13 := kE HO_13 ho0 hb; replace HO_14 := kR HO_14 hb; replace HO_15 := kR HO_15 hb; replace HO_782001 := kR HO_782001 hb; replace HO808 := kR HO808 hb; replace BK746 := kK BK746 hb; replace BK747 := kK BK747 hb; replace BK781 := kK BK781 hb; replace HB := kB3 HB GE746 GE747 GE781 hb; (try clear hb); (try clear ho0); obtain ⟨Ao90, co90, eo90⟩ := Kd.R_slice HO812.out; subst eo90) | ((with_reducible refine gate_callee (f := 23) rfl ?_); refine goesL_ (some 81) rfl rfl Try.func23 (by kernel_rfl) rfl #[.slice Ao62 t782.length co62, .slice Ao90 t810.length co90] rfl gl_ ?_; (with_reducible refine (laws_eqHoldS.calls kj35 _ _ t782 _ _ t810 true _ ?side1 ?side2 ?side3 ?side4 A76.out).mono ?_); (case side1 => exact sC HO_13); (case side2 => exact sL HO_13); (case side3 => exact sC HO812); (case side4 => exact sL HO812); rintro e w91 ⟨rfl, hb⟩; refine ⟨_, rfl, ?_⟩; replace HO_10 := kR HO_10 hb; replace HO_13 := kR HO_13 hb; replace HO_14 := kR HO_14 hb; replace HO_15 := kR HO_15 hb; replace HO_782001 := kR HO_782001 hb; replace HO808 := kR HO808 hb; replace HO812 := kR HO812 hb; replace BK746 := kK BK746 hb; replace BK747 := kK BK747 hb; replace BK781 := kK BK781 hb; replace HB := kB3 HB GE746 GE747 GE781 hb; (try clear hb)) | ((with_reducible refine gate_callee (f := 10) rfl ?_); refine goesL_ (some 85) rfl rfl Try.func10 (by kernel_rfl) rfl #[.slice A3 l3.length c3] rfl gl_ ?_; (with_reducible refine (laws_toSpotS.calls kj35 _ _ l3 t814 _ ?side1 ?side2 A78.out).mono ?_); (case side1 => exact sQ (Kd.C_below HR3.out HB.out)); (case side2 => exact HC3.out); rintro e w92 ⟨v815, rfl, ho0, hb⟩; refine ⟨_, rfl, ?_⟩; have HO816 := ak (Kd.R_lower (Kd.R_new' ho0 (Kd.R_lt (zR HO_14.out))) (below_size (zH3 HB GE746 GE747 GE781))); replace HO_10 := kR HO_10 hb; replace HO_13 := kR HO_13 hb; replace HO_14 := kE HO_14 ho0 hb; replace HO_15 := kR HO_15 hb; replace HO_782001 := kR HO_782001 hb; replace HO808 := kR HO808 hb; replace HO812 := kR HO812 hb; replace BK746 := kK BK746 hb; replace BK747 := kK BK747 hb; replace BK781 := kK BK781 hb; replace HB := kB3 HB GE746 GE747 GE781 hb; (try clear hb); (try clear ho0); obtain ⟨Ao93, co93, eo93⟩ := Kd.R_slice HO816.out; subst eo93) | ((with_reducible refine gate_callee (f := 13) rfl ?_); refine goesL_ (some 86) rfl rfl Try.func13 (by kernel_rfl) rfl #[.slice Ao63 t785.length co63, .slice Ao93 t814.length co93] rfl gl_ ?_; (with_reducible refine (laws_eqSpotS.calls kj35 _ _ t785 _ _ t814 true _ ?side1 ?side2 ?side3 ?side4 A79.out).mono ?_); (case side1 => exact sC HO_14); (case side2 => exact sL HO_14); (case side3 => exact sC HO816); (case side4 => exact sL HO816); rintro e w94 ⟨rfl, hb⟩; refine ⟨_, rfl, ?_⟩; replace HO_10 := kR HO_10 hb; replace HO_13 := kR HO_13 hb; replace HO_14 := kR HO_14 hb; replace HO_15 := kR HO_15 hb; replace HO_782001 := kR HO_782001 hb; replace HO808 := kR HO808 hb; replace HO812 := kR HO812 hb; replace HO816 := kR HO816 hb; replace BK746 := kK BK746 hb; replace BK747 := kK BK747 hb; replace BK781 := kK BK781 hb; replace HB := kB3 HB GE746 GE747 GE781 hb; (try clear hb); have hnb95 := NB781_746.out; have hnc95 := NB746_781.out; have hnb96 := NB781_747.out; have hnc96 := NB747_781.out; obtain ⟨hcz97_0, hcz97_1, hfz97_0, hfz97_1⟩ := cz2 w94 BK781) | ((with_reducible refine gate_callee (f := 15) rfl ?_); refine goesL_ (some 90) rfl rfl Try.func15 (by kernel_rfl) rfl #[.agg #[.int .i16 t777, .slice Ao57 t778.length co57], .int .i64 1] rfl gl_ ?_; (with_reducible refine (laws_markRope.calls kj35 t777 (fun k_ => some k_ = (.slice Ao57 t778.length co57 : Value).ownBlock) (.slice Ao57 t778.length co57) t778 1 t818 t819 w _ ?side1 ?side2 A81.out).mono ?_); (case side1 => repeat (first | (with_reducible first | exact HB.out | apply below_alloc | apply pw_below_drewN | apply below_drew1 | refine below_set ?_ GE746.out | refine below_set ?_ GE747.out | refine below_set ?_ GE781.out) | exact HB.out)); (case side2 => exact Kd.R_tight rfl HO_782001.out); rintro e w98 ⟨rfl, hy0, hb, hkp⟩; refine ⟨_, rfl, ?_⟩; replace HO_10 := ak (Kd.R_mono (ok' := fun k_ => some k_ ≠ (v801 : Value).ownBlock) (Kd.R_keptB ((Kd.R_apart' HO_10.out (Kd.R_typed HO_782001.out) (by decide))) hkp (fun k_ hk_ hs_ => (hk_.2) hs_)) (fun k_ hk_ => hk_.1.1)); replace HO_13 := ak (Kd.R_mono (ok' := fun k_ => some k_ ≠ (.slice Ao90 t810.length co90 : Value).ownBlock) (Kd.R_keptB ((Kd.R_apart' HO_13.out (Kd.R_typed HO_782001.out) (by decide))) hkp (fun k_ hk_ hs_ => (hk_.2) hs_)) (fun k_ hk_ => hk_.1.1.2)); replace HO_14 := ak (Kd.R_mono (ok' := fun k_ => some k_ ≠ (.slice Ao93 t814.length co93 : Value).ownBlock) (Kd.R_keptB ((Kd.R_apart' HO_14.out (Kd.R_typed HO_782001.out) (by decide))) hkp (fun k_ hk_ hs_ => (hk_.2) hs_)) (fun k_ hk_ => hk_.1.1.2)); replace HO_15 := ak (Kd.R_mono (ok' := fun k_ => some k_ ≠ (v774 : Value).ownBlock) (Kd.R_keptB ((Kd.R_apart' HO_15.out (Kd.R_typed HO_782001.out) (by decide))) hkp (fun k_ hk_ hs_ => (hk_.2) hs_)) (fun k_ hk_ => hk_.1.1)); replace BK746 := ak (blk_kept (zK BK746.out) hkp (fun hs_ => (fun e_ => (Kd.R_ne HO_782001.out BK746.out (by decide)) e_) hs_)); replace BK747 := ak (blk_kept (zK BK747.out) hkp (fun hs_ => (fun e_ => (Kd.R_ne HO_782001.out BK747.out (by decide)) e_) hs_)); replace BK781 := ak (blk_kept (zK BK781.out) hkp (fun hs_ => (fun e_ => (Kd.R_ne HO_782001.out BK781.out (by decide)) e_) hs_)); replace HO808 := ak (Kd.R_mono (ok' := fun k_ => some k_ ≠ (.slice Ao57 t778.length co57 : Value).ownBlock) (Kd.R_keptB (HO808.out) hkp (fun k_ hk_ hs_ => (hk_.2) hs_)) (fun k_ hk_ => hk_.1.2)); replace HO812 := ak (Kd.R_mono (ok' := fun k_ => some k_ ≠ (.slice Ao62 t782.length co62 : Value).ownBlock) (Kd.R_keptB ((Kd.R_apart' HO812.out (Kd.R_typed HO_782001.out) (by decide))) hkp (fun k_ hk_ hs_ => (hk_.2) hs_)) (fun k_ hk_ => hk_.1.1.2)); replace HO816 := ak (Kd.R_mono (ok' := fun k_ => some k_ ≠ (.slice Ao63 t785.length co63 : Value).ownBlock) (Kd.R_keptB ((Kd.R_apart' HO816.out (Kd.R_typed HO_782001.out) (by decide))) hkp (fun k_ hk_ hs_ => (hk_.2) hs_)) (fun k_ hk_ => hk_.1.1.2)); replace HO_782001 := ak (Kd.R_reok rfl hy0 (fun k_ e_ => HO_782001.out.1 k_ e_)); replace HB := ak (hb); (try clear hb); (try clear hkp); (try clear hy0)) | ((with_reducible refine gate_callee (f := 37) rfl ?_); refine goesL_ (some 93) rfl rfl Try.func37 (by kernel_rfl) rfl #[.slice Ao62 t782.length co62, .int .i64 t818] rfl gl_ ?_; (with_reducible refine (laws_markHoldS.calls kj35 (fun k_ => some k_ = (.slice Ao62 t782.length co62 : Value).ownBlock) (.slice Ao62 t782.length co62) t782 t818 t820 t821 w _ ?side1 ?side2 A82.out).mono ?_); (case side1 => repeat (first | (with_reducible first | exact HB.out | apply below_alloc | apply pw_below_drewN | apply below_drew1 | refine below_set ?_ GE746.out | refine below_set ?_ GE747.out | refine below_set ?_ GE781.out) | exact HB.out)); (case side2 => exact Kd.R_tight rfl HO_13.out); rintro e w99 ⟨rfl, hy0, hb, hkp⟩; refine ⟨_, rfl, ?_⟩; replace HO_10 := ak (Kd.R_mono (ok' := fun k_ => some k_ ≠ (v801 : Value).ownBlock) (Kd.R_keptB ((Kd.R_apart' HO_10.out (Kd.R_typed HO_13.out) (by decide))) hkp (fun k_ hk_ hs_ => (hk_.2) hs_)) (fun k_ hk_ => hk_.1.1)); replace HO_14 := ak (Kd.R_mono (ok' := fun k_ => some k_ ≠ (.slice Ao93 t814.length co93 : Value).ownBlock) (Kd.R_keptB ((Kd.R_apart' HO_14.out (Kd.R_typed HO_13.out) (by decide))) hkp (fun k_ hk_ hs_ => (hk_.2) hs_)) (fun k_ hk_ => hk_.1.1)); replace HO_15 := ak (Kd.R_mono (ok' := fun k_ => some k_ ≠ (v774 : Value).ownBlock) (Kd.R_keptB ((Kd.R_apart' HO_15.out (Kd.R_typed HO_13.out) (by decide))) hkp (fun k_ hk_ hs_ => (hk_.2) hs_)) (fun k_ hk_ => hk_.1.1)); replace HO_782001 := ak (Kd.R_mono (ok' := fun k_ => some k_ ≠ (.slice Ao87 t806.length co87 : Value).ownBlock) (Kd.R_keptB ((Kd.R_apart' HO_782001.out (Kd.R_typed HO_13.out) (by decide))) hkp (fun k_ hk_ hs_ => (hk_.2) hs_)) (fun k_ hk_ => hk_.1.1.2)); replace BK746 := ak (blk_kept (zK BK746.out) hkp (fun hs_ => (fun e_ => (Kd.R_ne HO_13.out BK746.out (by decide)) e_) hs_)); replace BK747 := ak (blk_kept (zK BK747.out) hkp (fun hs_ => (fun e_ => (Kd.R_ne HO_13.out BK747.out (by decide)) e_) hs_)); replace BK781 := ak (blk_kept (zK BK781.out) hkp (fun hs_ => (fun e_ => (Kd.R_ne HO_13.out BK781.out (by decide)) e_) hs_)); replace HO808 := ak (Kd.R_mono (ok' := fun k_ => some k_ ≠ (.slice Ao57 t778.length co57 : Value).ownBlock) (Kd.R_keptB ((Kd.R_apart' HO808.out (Kd.R_typed HO_13.out) (by decide))) hkp (fun k_ hk_ hs_ => (hk_.2) hs_)) (fun k_ hk_ => hk_.1.1)); replace HO812 := ak (Kd.R_mono (ok' := fun k_ => some k_ ≠ (.slice Ao62 t782.length co62 : Value).ownBlock) (Kd.R_keptB (HO812.out) hkp (fun k_ hk_ hs_ => (hk_) hs_)) (fun k_ hk_ => hk_.1)); replace HO816 := ak (Kd.R_mono (ok' := fun k_ => some k_ ≠ (.slice Ao63 t785.length co63 : Value).ownBlock) (Kd.R_keptB ((Kd.R_apart' HO816.out (Kd.R_typed HO_13.out) (by decide))) hkp (fun k_ hk_ hs_ => (hk_.2) hs_)) (fun k_ hk_ => hk_.1.1)); replace HO_13 := ak (Kd.R_reok rfl hy0 (fun k_ e_ => HO_13.out.1 k_ e_)); replace HB := ak (hb); (try clear hb); (try clear hkp); (try clear hy0)) | ((with_reducible refine gate_callee (f := 14) rfl ?_); refine goesL_ (some 96) rfl rfl Try.func14 (by kernel_rfl) rfl #[.slice Ao63 t785.length co63, .int .i64 t820] rfl gl_ ?_; (with_reducible refine (laws_markSpotS.calls kj35 (fun k_ => some k_ = (.slice Ao63 t785.length co63 : Value).ownBlock) (.slice Ao63 t785.length co63) t785 t820 t822 t823 w _ ?side1 ?side2 A83.out).mono ?_); (case side1 => repeat (first | (with_reducible first | exact HB.out | apply below_alloc | apply pw_below_drewN | apply below_drew1 | refine below_set ?_ GE746.out | refine below_set ?_ GE747.out | refine below_set ?_ GE781.out) | exact HB.out)); (case side2 => exact Kd.R_tight rfl HO_14.out); rintro e w100 ⟨rfl, hy0, hb, hkp⟩; refine ⟨_, rfl, ?_⟩; replace HO_10 := ak (Kd.R_mono (ok' := fun k_ => some k_ ≠ (v801 : Value).ownBlock) (Kd.R_keptB ((Kd.R_apart' HO_10.out (Kd.R_typed HO_14.out) (by decide))) hkp (fun k_ hk_ hs_ => (hk_.2) hs_)) (fun k_ hk_ => hk_.1.1)); replace HO_13 := ak (Kd.R_mono (ok' := fun k_ => some k_ ≠ (.slice Ao90 t810.length co90 : Value).ownBlock) (Kd.R_keptB ((Kd.R_apart' HO_13.out (Kd.R_typed HO_14.out) (by decide))) hkp (fun k_ hk_ hs_ => (hk_.2) hs_)) (fun k_ hk_ => hk_.1.1)); replace HO_15 := ak (Kd.R_mono (ok' := fun k_ => some k_ ≠ (v774 : Value).ownBlock) (Kd.R_keptB ((Kd.R_apart' HO_15.out (Kd.R_typed HO_14.out) (by decide))) hkp (fun k_ hk_ hs_ => (hk_.2) hs_)) (fun k_ hk_ => hk_.1.1)); replace HO_782001 := ak (Kd.R_mono (ok' := fun k_ => some k_ ≠ (.slice Ao87 t806.length co87 : Value).ownBlock) (Kd.R_keptB ((Kd.R_apart' HO_782001.out (Kd.R_typed HO_14.out) (by decide))) hkp (fun k_ hk_ hs_ => (hk_.2) hs_)) (fun k_ hk_ => hk_.1.1)); replace BK746 := ak (blk_kept (zK BK746.out) hkp (fun hs_ => (fun e_ => (Kd.R_ne HO_14.out BK746.out (by decide)) e_) hs_)); replace BK747 := ak (blk_kept (zK BK747.out) hkp (fun hs_ => (fun e_ => (Kd.R_ne HO_14.out BK747.out (by decide)) e_) hs_)); replace BK781 := ak (blk_kept (zK BK781.out) hkp (fun hs_ => (fun e_ => (Kd.R_ne HO_14.out BK781.out (by decide)) e_) hs_)); replace HO808 := ak (Kd.R_mono (ok' := fun k_ => some k_ ≠ (.slice Ao57 t778.length co57 : Value).ownBlock) (Kd.R_keptB ((Kd.R_apart' HO808.out (Kd.R_typed HO_14.out) (by decide))) hkp (fun k_ hk_ hs_ => (hk_.2) hs_)) (fun k_ hk_ => hk_.1.1)); replace HO812 := ak (Kd.R_mono (ok' := fun k_ => some k_ ≠ (.slice Ao62 t782.length co62 : Value).ownBlock) (Kd.R_keptB ((Kd.R_apart' HO812.out (Kd.R_typed HO_14.out) (by decide))) hkp (fun k_ hk_ hs_ => (hk_.2) hs_)) (fun k_ hk_ => hk_.1.1)); replace HO_14 := ak (Kd.R_reok rfl hy0 (fun k_ e_ => HO_14.out.1 k_ e_)); replace HO816 := ak (Kd.R_mono (ok' := fun k_ => some k_ ≠ (.slice Ao63 t785.length co63 : Value).ownBlock) (Kd.R_keptB (HO816.out) hkp (fun k_ hk_ hs_ => (hk_) hs_)) (fun k_ hk_ => hk_.1)); replace HB := ak (hb); (try clear hb); (try clear hkp); (try clear hy0)))
 (try simp only [Act.put, zs, zz, zk])
 go_cut [109] (fun v109 wc => ∃ (kq : Nat) (x109_83 : Bool), v109 = .bool x109_83 ∧ Aside0 (laws_FnExactSlacksOf.j1 kq l2 l3 t773 t776 t800 x109_83 a0_0 a0_1 a0_2 a0_3 a0_4 a0_5 a0_6 a0_7 a0_8 a0_9 a0_10 a0_11 a1_0 l1_1 = some r) ∧ Aside0 (kq ≤ kj35) ∧ Aside0 (Kd.R (Kd.int .i64) 2 wc w.heap.size (fun k_ => some k_ ≠ (v801 : Value).ownBlock) v774 t773) ∧ Aside0 (Kd.R (Kd.int .i64) 2 wc w.heap.size (fun k_ => some k_ ≠ (v774 : Value).ownBlock) v801 t800) ∧ Aside0 (Kd.R (Kd.int .i16) 29 wc w.heap.size (fun _ => True) (.slice Ao57 t778.length co57) t819) ∧ Aside0 (wc.heap[gb746]? = some (.cells #[.int .i8 a0_0, .int .i8 a0_1, .int .u16 a0_2, .int .u16 a0_3, .int .u16 a0_4, .int .u16 a0_5, .int .u16 a0_6, .int .u16 a0_7, .int .u16 a0_8, .int .u16 a0_9, .int .u16 a0_10, .int .u16 a0_11] 26 (0, 0))) ∧ Aside0 (wc.heap[gb747]? = some (.cells #[.int .i16 a1_0, (.slice A1_1 l1_1.length c1_1)] 44 (0, 0))) ∧ Aside0 (wc.heap[gb781]? = some (.cells #[.int .i16 t777, (.slice Ao57 t778.length co57)] 32 (0, 0))) ∧ Aside0 (Below w.heap.size w wc))
 case first => (
 have H := HC84.out
 clear HC84
 by_cases c101 : t822 < 0
 {
 rw [if_pos c101] at H
 have c101b0 : decide (t822 < 0) = true := decide_eq_true c101
 clear c101
 (first | rw [c101b0] | (simp only [i64_w, i32_w]; rw [c101b0]) | skip)
 have H' := ak H
 clear H
 go_wp2
 go_meet
 case rel => exact ⟨_, (true), (by first | rfl | (simp; done) | (simp [*]; done)), H', ⟨by have := HJ35.out; first | omega | exact Nat.le_refl _⟩, ⟨(zR HO_10.out)⟩, ⟨(zR HO_15.out)⟩, ⟨by (with_reducible repeat (first | apply Kd.R_alloc | apply Kd.R_drewN | apply Kd.R_drew)); exact Kd.R_mono HO_782001.out (fun _ hk => trivial)⟩, ⟨(zK BK746.out)⟩, ⟨(zK BK747.out)⟩, ⟨(zK BK781.out)⟩, ⟨zH3 HB GE746 GE747 GE781⟩⟩
 }
 {
 rw [if_neg c101] at H
 have c101b0 : decide (t822 < 0) = false := decide_eq_false c101
 clear c101
 (first | rw [c101b0] | (simp only [i64_w, i32_w]; rw [c101b0]) | skip)
 replace H := Option.bind_eq_some_iff.mp H
 obtain ⟨t824, A1020, H⟩ := H
 have A102 := ak A1020
 clear A1020
 by_cases c103 : t824 = true
 {
 subst c103
 rw [if_pos rfl] at H
 have H' := ak H
 clear H
 obtain ⟨Ao104, co104, eo104⟩ := Kd.R_slice HO_15.out
 subst eo104
 obtain ⟨Ao105, co105, eo105⟩ := Kd.R_slice HO_10.out
 subst eo105
 go_wp2_with (first | (go_at_call 36; (with_reducible refine (laws_eqInt64S.calls kj35 _ _ t800 _ _ t773 true _ ?side1 ?side2 ?side3 ?side4 A102.out).mono ?_); (case side1 => exact sC HO_15); (case side2 => exact sL HO_15); (case side3 => exact sC HO_10); (case side4 => exact sL HO_10); rintro e w' ⟨rfl, ⟨nd, rfl⟩⟩))
 go_meet
 case rel => exact ⟨_, ((t803 != t776)), (by first | rfl | (simp; done) | (simp [*]; done)), H', ⟨by have := HJ35.out; first | omega | exact Nat.le_refl _⟩, ⟨(zR HO_10.out)⟩, ⟨(zR HO_15.out)⟩, ⟨by (with_reducible repeat (first | apply Kd.R_alloc | apply Kd.R_drewN | apply Kd.R_drew)); exact Kd.R_mono HO_782001.out (fun _ hk => trivial)⟩, ⟨(zK BK746.out)⟩, ⟨(zK BK747.out)⟩, ⟨(zK BK781.out)⟩, ⟨zH3 HB GE746 GE747 GE781⟩⟩
 }
 {
 replace c103 := Bool.eq_false_iff.mpr c103
 subst c103
 rw [if_neg (show ¬ (false = true) by decide)] at H
 have H' := ak H
 clear H
 obtain ⟨Ao106, co106, eo106⟩ := Kd.R_slice HO_15.out
 subst eo106
 obtain ⟨Ao107, co107, eo107⟩ := Kd.R_slice HO_10.out
 subst eo107
 go_wp2_with (first | (go_at_call 36; (with_reducible refine (laws_eqInt64S.calls kj35 _ _ t800 _ _ t773 false _ ?side1 ?side2 ?side3 ?side4 A102.out).mono ?_); (case side1 => exact sC HO_15); (case side2 => exact sL HO_15); (case side3 => exact sC HO_10); (case side4 => exact sL HO_10); rintro e w' ⟨rfl, ⟨nd, rfl⟩⟩))
 go_meet
 case rel => exact ⟨_, (true), (by first | rfl | (simp; done) | (simp [*]; done)), H', ⟨by have := HJ35.out; first | omega | exact Nat.le_refl _⟩, ⟨(zR HO_10.out)⟩, ⟨(zR HO_15.out)⟩, ⟨by (with_reducible repeat (first | apply Kd.R_alloc | apply Kd.R_drewN | apply Kd.R_drew)); exact Kd.R_mono HO_782001.out (fun _ hk => trivial)⟩, ⟨(zK BK746.out)⟩, ⟨(zK BK747.out)⟩, ⟨(zK BK781.out)⟩, ⟨zH3 HB GE746 GE747 GE781⟩⟩
 }
 }
 )
 case rest => (
 clear HC84
 try clear c2
 try clear c3
 try clear c6
 try clear c13
 try clear c20
 try clear c20b0
 try clear c71
 try clear c74
 try clear c77
 try clear c80
 try clear hcz40_0
 try clear hcz40_1
 try clear hcz51_0
 try clear hcz51_1
 try clear hcz56_0
 try clear hcz56_1
 try clear hcz97_0
 try clear hcz97_1
 try clear hfz40_0
 try clear hfz40_1
 try clear hfz51_0
 try clear hfz51_1
 try clear hfz56_0
 try clear hfz56_1
 try clear hfz97_0
 try clear hfz97_1
 obtain ⟨kq, x109_83, rfl, HA, HJ83, HO_10, HO_15, HO_782001, BK746, BK747, BK781, HB⟩ := hcut
 have hl782001_83 := (Kd.R_reads' HO_782001.out).1
 rw [hl782001_83] at HO_782001
 (try simp only [hl782001_83])
 (try simp only [hl782001_83] at BK746)
 (try simp only [hl782001_83] at BK747)
 (try simp only [hl782001_83] at BK781)
 (try simp only [hl782001_83] at HO_10)
 (try simp only [hl782001_83] at HO_15)
 cases kq with
 | zero => exact absurd HA.out (by simp [laws_FnExactSlacksOf.j1])
 | succ kj83 => (
 have H := HA.out
 clear HA
 simp only [laws_FnExactSlacksOf.j1] at H
 by_cases c108 : x109_83 = true
 {
 subst c108
 rw [if_pos rfl] at H
 exact absurd ((Option.some.inj H).trans HT.out) (by decide)
 }
 {
 replace c108 := Bool.eq_false_iff.mpr c108
 subst c108
 rw [if_neg (show ¬ (false = true) by decide)] at H
 replace H := Option.bind_eq_some_iff.mp H
 obtain ⟨⟨t825, t826⟩, A1090, H⟩ := H
 have A109 := ak A1090
 clear A1090
 replace H := Option.bind_eq_some_iff.mp H
 obtain ⟨t827, A1100, H⟩ := H
 have A110 := ak A1100
 clear A1100
 by_cases c111 : t827 < 0
 · rw [if_pos c111] at H; have c111b0 : decide (t827 < 0) = true := decide_eq_true c111; clear c111; exact absurd ((Option.some.inj H).trans HT.out) (by decide)
 {
 rw [if_neg c111] at H
 have c111b0 : decide (t827 < 0) = false := decide_eq_false c111
 clear c111
 by_cases c112 : t827 = t825
 {
 rw [if_pos c112] at H
 have c112b0 : (t827 == t825) = true := beq_iff_eq.mpr c112
 have c112b1 : (t827 != t825) = false := bne_eq_false_iff_eq.mpr c112
 clear c112
 replace H := Option.bind_eq_some_iff.mp H
 obtain ⟨⟨t828, t829, t830, t831, t832, t833, t834, t835, t836, t837, t838, t839⟩, A1130, H⟩ := H
 have A113 := ak A1130
 clear A1130
 replace H := Option.bind_eq_some_iff.mp H
 obtain ⟨⟨t840, t841⟩, A1140, H⟩ := H
 have A114 := ak A1140
 clear A1140
 replace H := Option.bind_eq_some_iff.mp H
 obtain ⟨t844, A1150, H⟩ := H
 have A115 := ak A1150
 clear A1150
 replace H := Option.bind_eq_some_iff.mp H
 obtain ⟨t847, A1160, H⟩ := H
 have A116 := ak A1160
 clear A1160
 replace H := Option.bind_eq_some_iff.mp H
 obtain ⟨⟨t850, t853⟩, A1170, H⟩ := H
 have A117 := ak A1170
 clear A1170
 have HC118 := ak H
 clear H
 obtain ⟨Ao119, co119, eo119⟩ := Kd.R_slice HO_15.out
 subst eo119
 try go_wp2_with (first | ((with_reducible refine gate_callee (f := 38) rfl ?_); refine goesL_ (some 112) rfl rfl Try.func38 (by kernel_rfl) rfl #[.slice Ao119 t800.length co119, .int .i64 1] rfl gl_ ?_; (with_reducible refine (laws_markInt64S.calls kj83 (fun k_ => some k_ = (.slice Ao119 t800.length co119 : Value).ownBlock) (.slice Ao119 t800.length co119) t800 1 t825 t826 w _ ?side1 ?side2 A109.out).mono ?_); (case side1 => repeat (first | (with_reducible first | exact HB.out | apply below_alloc | apply pw_below_drewN | apply below_drew1 | refine below_set ?_ GE746.out | refine below_set ?_ GE747.out | refine below_set ?_ GE781.out) | exact HB.out)); (case side2 => exact Kd.R_tight rfl HO_15.out); rintro e w120 ⟨rfl, hy0, hb, hkp⟩; refine ⟨_, rfl, ?_⟩; have n0_ := ak (Kd.R_mono (ok' := fun k_ => some k_ ≠ (.slice Ao119 t800.length co119 : Value).ownBlock) (Kd.R_keptB (HO_10.out) hkp (fun k_ hk_ hs_ => (hk_) hs_)) (fun k_ hk_ => hk_.1)); have n1_ := ak (Kd.R_reok rfl hy0 (fun k_ e_ => HO_15.out.1 k_ e_)); have n2_ := ak (Kd.R_mono (ok' := fun k_ => True) (Kd.R_keptB ((Kd.R_apart' HO_782001.out (Kd.R_typed HO_15.out) (by decide))) hkp (fun k_ hk_ hs_ => (hk_.2) hs_)) (fun k_ hk_ => trivial)); have n3_ := ak (blk_kept (zK BK746.out) hkp (fun hs_ => (fun e_ => (Kd.R_ne HO_15.out BK746.out (by decide)) e_) hs_)); have n4_ := ak (blk_kept (zK BK747.out) hkp (fun hs_ => (fun e_ => (Kd.R_ne HO_15.out BK747.out (by decide)) e_) hs_)); have n5_ := ak (blk_kept (zK BK781.out) hkp (fun hs_ => (fun e_ => (Kd.R_ne HO_15.out BK781.out (by decide)) e_) hs_)); have n6_ := ak (hb); clear HO_10 HO_15 HO_782001 BK746 BK747 BK781 HB; have HO_10 := n0_; have HO_15 := n1_; have HO_782001 := n2_; have BK746 := n3_; have BK747 := n4_; have BK781 := n5_; have HB := n6_; clear n0_ n1_ n2_ n3_ n4_ n5_ n6_; (try clear hb); (try clear hkp); (try clear hy0)) | ((with_reducible refine gate_callee (f := 39) rfl ?_); refine goesL_ (some 115) rfl rfl Try.func39 (by kernel_rfl) rfl #[.slice Ao119 t826.length co119, .int .i64 1] rfl (by (try simp only [List.map_toArray, List.map_cons, List.map_nil]); first | done | (rw [show t826.length = t800.length from (Kd.R_reads' HO_15.out).1.symm] <;> rfl) | rfl | (simp only [List.length_drop, List.length_take]; rfl)) ?_; (with_reducible refine (laws_heldInt64S.calls kj83 _ _ t826 1 t827 _ ?side1 ?side2 A110.out).mono ?_); (case side1 => exact zC (Kd.R_reads' HO_15.out).2.2); (case side2 => rw [show t826.length = t800.length from (Kd.R_reads' HO_15.out).1.symm]; exact (Kd.R_reads' HO_15.out).2.1); rintro e w' ⟨rfl, ⟨nd, rfl⟩⟩; refine ⟨_, rfl, ?_⟩))
 (try (rw [drewN_self w120]; generalize hq_ : World.drewN w120 _ = w120; have n0_ : Aside0 (Kd.R (Kd.int .i64) 2 w120 w.heap.size (fun k_ => some k_ ≠ (.slice Ao119 t800.length co119 : Value).ownBlock) v774 t773) := ⟨by rw [← hq_]; exact (zR HO_10.out)⟩; have n1_ : Aside0 (Kd.R (Kd.int .i64) 2 w120 w.heap.size (fun k_ => some k_ ≠ (v774 : Value).ownBlock) (.slice Ao119 t800.length co119) t826) := ⟨by rw [← hq_]; exact (zR HO_15.out)⟩; have n2_ : Aside0 (Kd.R (Kd.int .i16) 29 w120 w.heap.size (fun _ => True) (.slice Ao57 t819.length co57) t819) := ⟨by rw [← hq_]; exact (zR HO_782001.out)⟩; have n3_ : Aside0 (w120.heap[gb746]? = some (.cells #[.int .i8 a0_0, .int .i8 a0_1, .int .u16 a0_2, .int .u16 a0_3, .int .u16 a0_4, .int .u16 a0_5, .int .u16 a0_6, .int .u16 a0_7, .int .u16 a0_8, .int .u16 a0_9, .int .u16 a0_10, .int .u16 a0_11] 26 (0, 0))) := ⟨by rw [← hq_]; exact (zK BK746.out)⟩; have n4_ : Aside0 (w120.heap[gb747]? = some (.cells #[.int .i16 a1_0, .slice A1_1 l1_1.length c1_1] 44 (0, 0))) := ⟨by rw [← hq_]; exact (zK BK747.out)⟩; have n5_ : Aside0 (w120.heap[gb781]? = some (.cells #[.int .i16 t777, .slice Ao57 t819.length co57] 32 (0, 0))) := ⟨by rw [← hq_]; exact (zK BK781.out)⟩; have n6_ : Aside0 (Below w.heap.size w w120) := ⟨by rw [← hq_]; exact (zH3 HB GE746 GE747 GE781)⟩; clear HO_10 HO_15 HO_782001 BK746 BK747 BK781 HB hq_; have HO_10 := n0_; have HO_15 := n1_; have HO_782001 := n2_; have BK746 := n3_; have BK747 := n4_; have BK781 := n5_; have HB := n6_; clear n0_ n1_ n2_ n3_ n4_ n5_ n6_))
 replace HO_10 := ak (Kd.R_drew HO_10.out)
 replace HO_15 := ak (Kd.R_drew HO_15.out)
 replace HO_782001 := ak (Kd.R_drew HO_782001.out)
 replace BK746 := ak (blk_drew BK746.out)
 replace BK747 := ak (blk_drew BK747.out)
 replace BK781 := ak (blk_drew BK781.out)
 replace HB := ak (below_drew1 HB.out)
 refine start_ (n := 14) (S := fun w' => w'.cell? ⟨gb746, 0, none⟩ = some (.int .i8 a0_0) ∧ w'.cell? ⟨gb746, 1, none⟩ = some (.int .i8 a0_1) ∧ w'.cell? ⟨gb746, 2, none⟩ = some (.int .u16 a0_2) ∧ w'.cell? ⟨gb746, 3, none⟩ = some (.int .u16 a0_3) ∧ w'.cell? ⟨gb746, 4, none⟩ = some (.int .u16 a0_4) ∧ w'.cell? ⟨gb746, 5, none⟩ = some (.int .u16 a0_5) ∧ w'.cell? ⟨gb746, 6, none⟩ = some (.int .u16 a0_6) ∧ w'.cell? ⟨gb746, 7, none⟩ = some (.int .u16 a0_7) ∧ w'.cell? ⟨gb746, 8, none⟩ = some (.int .u16 a0_8) ∧ w'.cell? ⟨gb746, 9, none⟩ = some (.int .u16 a0_9) ∧ w'.cell? ⟨gb746, 10, none⟩ = some (.int .u16 a0_10) ∧ w'.cell? ⟨gb746, 11, none⟩ = some (.int .u16 a0_11) ∧ w'.cell? ⟨gb747, 0, none⟩ = some (.int .i16 a1_0) ∧ w'.cell? ⟨gb747, 1, none⟩ = some (.slice A1_1 l1_1.length c1_1)) (ds := []) (bA 14 0) (by kernel_rfl) rfl rfl (cr12 BK746 ⟨(blk_cell BK747.out 0).trans rfl, (blk_cell BK747.out 1).trans rfl⟩) (fun hHeld => ?_); refine with_tabW laws_FnExactSlacksOf.tab38 laws_FnExactSlacksOf.bits38 (fun HT_ HW_ => ?_)
 generalize w120.drew = w121 at HO_10 HO_15 HO_782001 BK746 BK747 BK781 HB hHeld ⊢
 refine pU 4 126 (bA 14 16) HT_ ?_
 refine pU 6 128 (bA 14 80) HT_ ?_
 refine tK 0 122 (bA 14 81) HT_ HW_ hHeld ?_
 refine tK 2 124 (bA 14 85) HT_ HW_ hHeld ?_
 refine one_ (i := 1) (N := some 123) (bA 14 87) rfl rfl (one_of HT_.out (by kernel_rfl)) (by decide) (fun K hK => ?_)
 refine goes_ Try.func9 (by kernel_rfl) rfl #[.agg #[.int .i8 a0_0, .int .i8 a0_1, .int .u16 a0_2, .int .u16 a0_3, .int .u16 a0_4, .int .u16 a0_5, .int .u16 a0_6, .int .u16 a0_7, .int .u16 a0_8, .int .u16 a0_9, .int .u16 a0_10, .int .u16 a0_11]] (by rfl) rfl rfl gl_ ?_
 with_reducible refine (laws_toRoom.calls kj83 a0_0 a0_1 a0_2 a0_3 a0_4 a0_5 a0_6 a0_7 a0_8 a0_9 a0_10 a0_11 t828 t829 t830 t831 t832 t833 t834 t835 t836 t837 t838 t839 _ A113.out).mono ?_
 rintro e w122 ⟨rfl, hb⟩
 refine ⟨_, rfl, ?_⟩
 replace HO_10 := kR HO_10 hb
 replace HO_15 := kR HO_15 hb
 replace HO_782001 := kR HO_782001 hb
 replace BK746 := kK BK746 hb
 replace BK747 := kK BK747 hb
 replace BK781 := kK BK781 hb
 replace HB := kB3 HB GE746 GE747 GE781 hb
 (try clear hb)
 refine hK.out _ _ (cr12 BK746 ⟨(blk_cell BK747.out 0).trans rfl, (blk_cell BK747.out 1).trans rfl⟩) (fun hHeld => ?_)
 clear hK K
 refine norm_ (a' := ?_) ?_ ?_
 rotate_left
 {
 show Act.put _ (some 123) _ = _
 simp only [Act.put, zs, zz, zk, i64_w, i32_w]
 rfl
 }
 refine one_ (i := 3) (N := some 125) (bA 14 95) rfl rfl (one_of HT_.out (by kernel_rfl)) (by decide) (fun K hK => ?_)
 refine goes_ Try.func20 (by kernel_rfl) rfl #[.agg #[.int .i16 a1_0, .slice A1_1 l1_1.length c1_1]] (by rfl) rfl rfl gl_ ?_
 with_reducible refine (laws_toRope.calls kj83 a1_0 _ _ l1_1 t840 t841 _ ?side1 ?side2 A114.out).mono ?_
 (case side1 => exact sQ (Kd.C_below HR1_1.out HB.out))
 (case side2 => exact HC1_1.out)
 rintro e w123 ⟨v842, rfl, ho0, hb⟩
 refine ⟨_, rfl, ?_⟩
 have HO843 := ak (Kd.R_lower (Kd.R_new' ho0 (Kd.R_lt (zR HO_782001.out))) (below_size (zH3 HB GE746 GE747 GE781)))
 replace HO_10 := kR HO_10 hb
 replace HO_15 := kR HO_15 hb
 replace HO_782001 := kE HO_782001 ho0 hb
 replace BK746 := kK BK746 hb
 replace BK747 := kK BK747 hb
 replace BK781 := kK BK781 hb
 replace HB := kB3 HB GE746 GE747 GE781 hb
 (try clear hb)
 (try clear ho0)
 refine hK.out _ _ (cr12 BK746 ⟨(blk_cell BK747.out 0).trans rfl, (blk_cell BK747.out 1).trans rfl⟩) (fun hHeld => ?_)
 clear hK K
 refine norm_ (a' := ?_) ?_ ?_
 rotate_left
 {
 show Act.put _ (some 125) _ = _
 simp only [Act.put, zs, zz, zk, i64_w, i32_w]
 rfl
 }
 refine one_ (i := 5) (N := some 127) (bA 14 127) rfl rfl (one_of HT_.out (by kernel_rfl)) (by decide) (fun K hK => ?_)
 refine goes_ Try.func21 (by kernel_rfl) rfl #[.slice A2 l2.length c2] (by rfl) rfl rfl gl_ ?_
 with_reducible refine (laws_toHoldS.calls kj83 _ _ l2 t844 _ ?side1 ?side2 A115.out).mono ?_
 (case side1 => exact sQ (Kd.C_below HR2.out HB.out))
 (case side2 => exact HC2.out)
 rintro e w124 ⟨v845, rfl, ho0, hb⟩
 refine ⟨_, rfl, ?_⟩
 have HO846 := ak (Kd.R_lower ho0 (below_size (zH3 HB GE746 GE747 GE781)))
 replace HO_10 := kR HO_10 hb
 replace HO_15 := kR HO_15 hb
 replace HO_782001 := kR HO_782001 hb
 replace HO843 := kR HO843 hb
 replace BK746 := kK BK746 hb
 replace BK747 := kK BK747 hb
 replace BK781 := kK BK781 hb
 replace HB := kB3 HB GE746 GE747 GE781 hb
 (try clear hb)
 (try clear ho0)
 refine hK.out _ _ (cr12 BK746 ⟨(blk_cell BK747.out 0).trans rfl, (blk_cell BK747.out 1).trans rfl⟩) (fun hHeld => ?_)
 clear hK K
 refine norm_ (a' := ?_) ?_ ?_
 rotate_left
 {
 show Act.put _ (some 127) _ = _
 simp only [Act.put, zs, zz, zk, i64_w, i32_w]
 rfl
 }
 refine one_ (i := 7) (N := some 129) (bA 14 255) rfl rfl (one_of HT_.out (by kernel_rfl)) (by decide) (fun K hK => ?_)
 refine goes_ Try.func10 (by kernel_rfl) rfl #[.slice A3 l3.length c3] (by rfl) rfl rfl gl_ ?_
 with_reducible refine (laws_toSpotS.calls kj83 _ _ l3 t847 _ ?side1 ?side2 A116.out).mono ?_
 (case side1 => exact sQ (Kd.C_below HR3.out HB.out))
 (case side2 => exact HC3.out)
 rintro e w125 ⟨v848, rfl, ho0, hb⟩
 refine ⟨_, rfl, ?_⟩
 have HO849 := ak (Kd.R_lower ho0 (below_size (zH3 HB GE746 GE747 GE781)))
 replace HO_10 := kR HO_10 hb
 replace HO_15 := kR HO_15 hb
 replace HO_782001 := kR HO_782001 hb
 replace HO843 := kR HO843 hb
 replace HO846 := kR HO846 hb
 replace BK746 := kK BK746 hb
 replace BK747 := kK BK747 hb
 replace BK781 := kK BK781 hb
 replace HB := kB3 HB GE746 GE747 GE781 hb
 (try clear hb)
 (try clear ho0)
 obtain ⟨Ao126, co126, eo126⟩ := Kd.R_slice HO843.out
 (first | subst eo126 | (injection eo126 with f1_ f2_ f3_; have f4_ := f1_.symm; have f5_ := f3_.symm; clear f1_ f2_ f3_; subst f4_; subst f5_))
 obtain ⟨Ao127, co127, eo127⟩ := Kd.R_slice HO846.out
 (first | subst eo127 | (injection eo127 with f1_ f2_ f3_; have f4_ := f1_.symm; have f5_ := f3_.symm; clear f1_ f2_ f3_; subst f4_; subst f5_))
 obtain ⟨Ao128, co128, eo128⟩ := Kd.R_slice HO849.out
 (first | subst eo128 | (injection eo128 with f1_ f2_ f3_; have f4_ := f1_.symm; have f5_ := f3_.symm; clear f1_ f2_ f3_; subst f4_; subst f5_))
 refine hK.out _ _ (cr12 BK746 ⟨(blk_cell BK747.out 0).trans rfl, (blk_cell BK747.out 1).trans rfl⟩) (fun hHeld => ?_)
 clear hK K
 refine norm_ (a' := ?_) ?_ ?_
 rotate_left
 {
 show Act.put _ (some 129) _ = _
 simp only [Act.put, zs, zz, zk, i64_w, i32_w]
 rfl
 }
 refine one_ (i := 8) (N := some 130) (bA 14 511) rfl rfl (one_of HT_.out (by kernel_rfl)) (by decide) (fun K hK => ?_)
 refine goes_ Try.func31 (by kernel_rfl) rfl #[.agg #[.int .i8 t828, .int .i8 t829, .int .u16 t830, .int .u16 t831, .int .u16 t832, .int .u16 t833, .int .u16 t834, .int .u16 t835, .int .u16 t836, .int .u16 t837, .int .u16 t838, .int .u16 t839], .agg #[.int .i16 t840, .slice Ao126 t841.length co126], .slice Ao127 t844.length co127, .slice Ao128 t847.length co128] (by rfl) rfl rfl gl_ ?_
 with_reducible refine (impl_SlacksOf.calls kj83 t828 t829 t830 t831 t832 t833 t834 t835 t836 t837 t838 t839 t840 _ _ t841 _ _ t844 _ _ t847 t850 t853 _ ?side1 ?side2 ?side3 ?side4 ?side5 ?side6 A117.out).mono ?_
 (case side1 => exact zC (Kd.R_reads' HO843.out).2.2)
 (case side2 => exact (Kd.R_reads' HO843.out).2.1)
 (case side3 => exact zC (Kd.R_reads' HO846.out).2.2)
 (case side4 => exact (Kd.R_reads' HO846.out).2.1)
 (case side5 => exact zC (Kd.R_reads' HO849.out).2.2)
 (case side6 => exact (Kd.R_reads' HO849.out).2.1)
 rintro e w129 ⟨v851, rfl, ho0, hb⟩
 refine ⟨_, rfl, ?_⟩
 have HO852 := ak (Kd.R_lower (Kd.R_new' (Kd.R_new' ho0 (Kd.R_lt (zR HO_10.out))) (Kd.R_lt (zR HO_15.out))) (below_size (zH3 HB GE746 GE747 GE781)))
 replace HO_10 := kE HO_10 ho0 hb
 replace HO_15 := kE HO_15 ho0 hb
 replace HO_782001 := kR HO_782001 hb
 replace HO843 := kR HO843 hb
 replace HO846 := kR HO846 hb
 replace HO849 := kR HO849 hb
 replace BK746 := kK BK746 hb
 replace BK747 := kK BK747 hb
 replace BK781 := kK BK781 hb
 replace HB := kB3 HB GE746 GE747 GE781 hb
 (try clear hb)
 (try clear ho0)
 refine hK.out _ _ (cr12 BK746 ⟨(blk_cell BK747.out 0).trans rfl, (blk_cell BK747.out 1).trans rfl⟩) (fun hHeld => ?_)
 clear hK K
 refine norm_ (a' := ?_) ?_ ?_
 rotate_left
 {
 show Act.put _ (some 130) _ = _
 simp only [Act.put, zs, zz, zk, i64_w, i32_w]
 rfl
 }
 refine pU 9 121 (bA 14 1023) HT_ ?_
 refine pU 10 131 (bA 14 2047) HT_ ?_
 refine pU 11 132 (bA 14 4095) HT_ ?_
 refine pU 12 20 (bA 14 8191) HT_ ?_
 refine pU 13 21 (bA 14 16383) HT_ ?_
 refine done_ (done_of HT_.out (by kernel_rfl)) ?_
 go_upto_region 39 with (fail)
 go_cut [141] (fun v141 wc => ∃ (kq : Nat) (x141_117 : Bool), v141 = .bool x141_117 ∧ Aside0 (laws_FnExactSlacksOf.j2 kq t826 t825 x141_117 = some r) ∧ Aside0 (kq ≤ kj83) ∧ Aside0 (Kd.R (Kd.int .i64) 2 wc w.heap.size (fun _ => True) (.slice Ao119 t800.length co119) t826) ∧ Aside0 (Kd.R (Kd.int .i16) 29 wc w.heap.size (fun _ => True) (.slice Ao57 t819.length co57) t819) ∧ Aside0 (wc.heap[gb746]? = some (.cells #[.int .i8 a0_0, .int .i8 a0_1, .int .u16 a0_2, .int .u16 a0_3, .int .u16 a0_4, .int .u16 a0_5, .int .u16 a0_6, .int .u16 a0_7, .int .u16 a0_8, .int .u16 a0_9, .int .u16 a0_10, .int .u16 a0_11] 26 (0, 0))) ∧ Aside0 (wc.heap[gb747]? = some (.cells #[.int .i16 a1_0, (.slice A1_1 l1_1.length c1_1)] 44 (0, 0))) ∧ Aside0 (wc.heap[gb781]? = some (.cells #[.int .i16 t777, (.slice Ao57 t819.length co57)] 32 (0, 0))) ∧ Aside0 (Below w.heap.size w wc))
 case first => (
 have H := HC118.out
 clear HC118
 replace H := Option.bind_eq_some_iff.mp H
 obtain ⟨t854, A1300, H⟩ := H
 have A130 := ak A1300
 clear A1300
 by_cases c131 : t854 = true
 {
 subst c131
 rw [if_pos rfl] at H
 have H' := ak H
 clear H
 obtain ⟨Ao132, co132, eo132⟩ := Kd.R_slice HO852.out
 subst eo132
 obtain ⟨Ao133, co133, eo133⟩ := Kd.R_slice HO_10.out
 subst eo133
 go_wp2_with (first | ((with_reducible refine gate_callee (f := 36) rfl ?_); refine goesL_ (some 135) rfl rfl Try.func36 (by kernel_rfl) rfl #[.slice Ao132 t850.length co132, .slice Ao133 t773.length co133] rfl gl_ ?_; (with_reducible refine (laws_eqInt64S.calls kj83 _ _ t850 _ _ t773 true _ ?side1 ?side2 ?side3 ?side4 A130.out).mono ?_); (case side1 => exact sC HO852); (case side2 => exact sL HO852); (case side3 => exact sC HO_10); (case side4 => exact sL HO_10); rintro e w' ⟨rfl, ⟨nd, rfl⟩⟩; refine ⟨_, rfl, ?_⟩))
 go_meet
 case rel => exact ⟨_, ((t853 != t776)), (by first | rfl | (simp; done) | (simp [*]; done)), H', ⟨by have := HJ35.out; have := HJ83.out; first | omega | exact Nat.le_refl _⟩, ⟨by (try simp only [hl782001_83]); (with_reducible repeat (first | apply Kd.R_alloc | apply Kd.R_drewN | apply Kd.R_drew)); exact Kd.R_mono HO_15.out (fun _ hk => trivial)⟩, ⟨by (try simp only [hl782001_83]); (with_reducible repeat (first | apply Kd.R_alloc | apply Kd.R_drewN | apply Kd.R_drew)); exact Kd.R_mono HO_782001.out (fun _ hk => trivial)⟩, ⟨by (try simp only [hl782001_83]); (with_reducible repeat (first | refine blk_drewN ?_ _ | refine blk_drew ?_ | refine blk_alloc ?_ _)); exact BK746.out⟩, ⟨by (try simp only [hl782001_83]); (with_reducible repeat (first | refine blk_drewN ?_ _ | refine blk_drew ?_ | refine blk_alloc ?_ _)); exact BK747.out⟩, ⟨by (try simp only [hl782001_83]); (with_reducible repeat (first | refine blk_drewN ?_ _ | refine blk_drew ?_ | refine blk_alloc ?_ _)); exact BK781.out⟩, ⟨zH3 HB GE746 GE747 GE781⟩⟩
 }
 {
 replace c131 := Bool.eq_false_iff.mpr c131
 subst c131
 rw [if_neg (show ¬ (false = true) by decide)] at H
 have H' := ak H
 clear H
 obtain ⟨Ao134, co134, eo134⟩ := Kd.R_slice HO852.out
 subst eo134
 obtain ⟨Ao135, co135, eo135⟩ := Kd.R_slice HO_10.out
 subst eo135
 go_wp2_with (first | ((with_reducible refine gate_callee (f := 36) rfl ?_); refine goesL_ (some 135) rfl rfl Try.func36 (by kernel_rfl) rfl #[.slice Ao134 t850.length co134, .slice Ao135 t773.length co135] rfl gl_ ?_; (with_reducible refine (laws_eqInt64S.calls kj83 _ _ t850 _ _ t773 false _ ?side1 ?side2 ?side3 ?side4 A130.out).mono ?_); (case side1 => exact sC HO852); (case side2 => exact sL HO852); (case side3 => exact sC HO_10); (case side4 => exact sL HO_10); rintro e w' ⟨rfl, ⟨nd, rfl⟩⟩; refine ⟨_, rfl, ?_⟩))
 go_meet
 case rel => exact ⟨_, (true), (by first | rfl | (simp; done) | (simp [*]; done)), H', ⟨by have := HJ35.out; have := HJ83.out; first | omega | exact Nat.le_refl _⟩, ⟨by (try simp only [hl782001_83]); (with_reducible repeat (first | apply Kd.R_alloc | apply Kd.R_drewN | apply Kd.R_drew)); exact Kd.R_mono HO_15.out (fun _ hk => trivial)⟩, ⟨by (try simp only [hl782001_83]); (with_reducible repeat (first | apply Kd.R_alloc | apply Kd.R_drewN | apply Kd.R_drew)); exact Kd.R_mono HO_782001.out (fun _ hk => trivial)⟩, ⟨by (try simp only [hl782001_83]); (with_reducible repeat (first | refine blk_drewN ?_ _ | refine blk_drew ?_ | refine blk_alloc ?_ _)); exact BK746.out⟩, ⟨by (try simp only [hl782001_83]); (with_reducible repeat (first | refine blk_drewN ?_ _ | refine blk_drew ?_ | refine blk_alloc ?_ _)); exact BK747.out⟩, ⟨by (try simp only [hl782001_83]); (with_reducible repeat (first | refine blk_drewN ?_ _ | refine blk_drew ?_ | refine blk_alloc ?_ _)); exact BK781.out⟩, ⟨zH3 HB GE746 GE747 GE781⟩⟩
 }
 )
 case rest => (
 clear HC118
 try clear c2
 try clear c3
 try clear c6
 try clear c13
 try clear c20
 try clear c20b0
 try clear c71
 try clear c74
 try clear c77
 try clear c80
 try clear c108
 try clear c111
 try clear c111b0
 try clear c112
 try clear c112b0
 try clear c112b1
 try clear hcz40_0
 try clear hcz40_1
 try clear hcz51_0
 try clear hcz51_1
 try clear hcz56_0
 try clear hcz56_1
 try clear hcz97_0
 try clear hcz97_1
 try clear hfz40_0
 try clear hfz40_1
 try clear hfz51_0
 try clear hfz51_1
 try clear hfz56_0
 try clear hfz56_1
 try clear hfz97_0
 try clear hfz97_1
 obtain ⟨kq, x141_117, rfl, HA, HJ117, HO_15, HO_782001, BK746, BK747, BK781, HB⟩ := hcut
 have hl15_117 := (Kd.R_reads' HO_15.out).1
 rw [hl15_117] at HO_15
 (try simp only [hl15_117])
 (try simp only [hl15_117] at BK746)
 (try simp only [hl15_117] at BK747)
 (try simp only [hl15_117] at BK781)
 (try simp only [hl15_117] at HO_782001)
 cases kq with
 | zero => exact absurd HA.out (by simp [laws_FnExactSlacksOf.j2])
 | succ kj117 => (
 have H := HA.out
 clear HA
 simp only [laws_FnExactSlacksOf.j2] at H
 by_cases c136 : x141_117 = true
 {
 subst c136
 rw [if_pos rfl] at H
 exact absurd ((Option.some.inj H).trans HT.out) (by decide)
 }
 {
 replace c136 := Bool.eq_false_iff.mpr c136
 subst c136
 rw [if_neg (show ¬ (false = true) by decide)] at H
 replace H := Option.bind_eq_some_iff.mp H
 obtain ⟨t855, A1370, H⟩ := H
 have A137 := ak A1370
 clear A1370
 by_cases c138 : t855 < 0
 · rw [if_pos c138] at H; have c138b0 : decide (t855 < 0) = true := decide_eq_true c138; clear c138; exact absurd ((Option.some.inj H).trans HT.out) (by decide)
 {
 rw [if_neg c138] at H
 have c138b0 : decide (t855 < 0) = false := decide_eq_false c138
 clear c138
 by_cases c139 : t855 = t825
 {
 rw [if_pos c139] at H
 have c139b0 : (t855 == t825) = true := beq_iff_eq.mpr c139
 have c139b1 : (t855 != t825) = false := bne_eq_false_iff_eq.mpr c139
 clear c139
 obtain rfl := Option.some.inj H
 go_wp2_with (first | ((with_reducible refine gate_callee (f := 39) rfl ?_); refine goesL_ (some 144) rfl rfl Try.func39 (by kernel_rfl) rfl #[.slice Ao119 t826.length co119, .int .i64 1] rfl gl_ ?_; (with_reducible refine (laws_heldInt64S.calls kj117 _ _ t826 1 t855 _ ?side1 ?side2 A137.out).mono ?_); (case side1 => exact sC HO_15); (case side2 => exact sL HO_15); rintro e w' ⟨rfl, ⟨nd, rfl⟩⟩; refine ⟨_, rfl, ?_⟩))
 go_ret
 exact ⟨by first | rfl | (simp [errW_none, errW_some] <;> rfl) | (simp [*, errW_none, errW_some] <;> rfl), zH3 HB GE746 GE747 GE781⟩
 }
 · rw [if_neg c139] at H; have c139b0 : (t855 == t825) = false := beq_eq_false_iff_ne.mpr c139; have c139b1 : (t855 != t825) = true := bne_iff_ne.mpr c139; exact absurd ((Option.some.inj H).trans HT.out) (by decide)
 }
 }
 )
 )
 }
 · rw [if_neg c112] at H; have c112b0 : (t827 == t825) = false := beq_eq_false_iff_ne.mpr c112; have c112b1 : (t827 != t825) = true := bne_iff_ne.mpr c112; exact absurd ((Option.some.inj H).trans HT.out) (by decide)
 }
 }
 )
 )
 }
 {
 replace c80 := Bool.eq_false_iff.mpr c80
 subst c80
 rw [if_neg (show ¬ (false = true) by decide)] at H
 exact absurd ((Option.some.inj H).trans HT.out) (by decide)
 }
 }
 {
 replace c77 := Bool.eq_false_iff.mpr c77
 subst c77
 rw [if_neg (show ¬ (false = true) by decide)] at H
 exact absurd ((Option.some.inj H).trans HT.out) (by decide)
 }
 }
 {
 replace c74 := Bool.eq_false_iff.mpr c74
 subst c74
 rw [if_neg (show ¬ (false = true) by decide)] at H
 exact absurd ((Option.some.inj H).trans HT.out) (by decide)
 }
 }
 )
 )
 }
 }
 }
/-- THE ONE PURE STATEMENT of laws_FnExactSlacksOf: mine. -/
def laws_FnExactSlacksOf.Pure : Prop := ∀ (a0_0 : Int) (a0_1 : Int) (a0_2 : Int) (a0_3 : Int) (a0_4 : Int) (a0_5 : Int) (a0_6 : Int) (a0_7 : Int) (a0_8 : Int) (a0_9 : Int) (a0_10 : Int) (a0_11 : Int) (a1_0 : Int) (l1_1 : List Int) (l2 : List (S92)) (l3 : List (S82)), ((Lit.int .i8 a0_0).wf = true) → ((Lit.int .i8 a0_1).wf = true) → ((Lit.int .u16 a0_2).wf = true) → ((Lit.int .u16 a0_3).wf = true) → ((Lit.int .u16 a0_4).wf = true) → ((Lit.int .u16 a0_5).wf = true) → ((Lit.int .u16 a0_6).wf = true) → ((Lit.int .u16 a0_7).wf = true) → ((Lit.int .u16 a0_8).wf = true) → ((Lit.int .u16 a0_9).wf = true) → ((Lit.int .u16 a0_10).wf = true) → ((Lit.int .u16 a0_11).wf = true) → ((Lit.int .i16 a1_0).wf = true) → (l1_1.length ≤ 9223372036854775807 ∧ ∀ x_ ∈ l1_1, ((Lit.int .i16 x_).wf = true)) → (l2.length ≤ 9223372036854775807 ∧ ∀ x_ ∈ l2, (((Lit.int .i16 x_.f0).wf = true) ∧ ((Lit.int .i8 x_.f1).wf = true))) → (l3.length ≤ 9223372036854775807 ∧ ∀ x_ ∈ l3, (((Lit.int .i8 x_.f0).wf = true) ∧ ((Lit.int .i8 x_.f1).wf = true))) → ∃ k, laws_FnExactSlacksOf.f k a0_0 a0_1 a0_2 a0_3 a0_4 a0_5 a0_6 a0_7 a0_8 a0_9 a0_10 a0_11 a1_0 l1_1 l2 l3 = some true

end Go.Proofs.Ytooidjdgfoioiaa.P
