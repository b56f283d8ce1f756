-- Printed by wip/print (my turned copy of the kit's print) out of the translation; Lean checks it.
import Derived.Test.YtelgmojnndbgmaaP0
import Derived.Test.YtelgmojnndbgmaaP2
import Derived.Test.YtelgmojnndbgmaaP3
import Derived.Test.YtelgmojnndbgmaaP4
import Derived.Test.YtelgmojnndbgmaaP5
import Derived.Test.YtelgmojnndbgmaaP6
import Derived.Test.YtelgmojnndbgmaaP7
namespace Go.Proofs.Ytelgmojnndbgmaa.P
open Go.RowKit Go.Proofs.YtelgmojnndbgmaaW.PrintWords Go.Proofs.YtelgmojnndbgmaaW.PrintLast Go.Proofs.YtelgmojnndbgmaaW.PrintMore
attribute [local go_sem] max2_int min2_int max_two min_two max_three min_three max_four min_four   -- for this text's walks alone
set_option linter.unusedVariables false
set_option linter.unusedSimpArgs false

/-! ### laws_FnAllowed: function 6 -/
mutual
def laws_FnAllowed.l0 : Nat → List Int → List Int → Int → List Int → Int → Option (Bool)
  | 0, _, _, _, _, _ => none
  | k + 1, x0, x1, x5, x6, x7 => (laws_a2At.f x0 1 5).bind fun t353 => (if x7 < (wrap64 (1 + t353)) then ((laws_a2At.f x1 x7 (wrap64 (x5 + 1))).bind fun t354 => (if x6.length < 17592186044416 then (laws_FnAllowed.l0 k x0 x1 x5 (x6 ++ [t354]) (wrap64 (x7 + 1))) else (none))) else ((impl_CountsAllow.f k x5 x6).bind fun bt358 => ((spec_CountsAllow.f k x5 x6).bind fun bt360 => ((impl_WaysFor.f k x5 x6).bind fun bt362 => ((spec_WaysFor.f k x5 x6).bind fun bt364 => (if bt358.2 = bt360.2 then (if bt358.2 = 0 then (if (bt358.1 != bt360.1) = true then (laws_FnAllowed.j1 k x5 x6 bt360.1 true) else (if bt362.2 = bt364.2 then (if bt362.2 = 0 then (if bt362.1 = bt364.1 then (if ((decide (bt364.1 > 0)) != bt360.1) = true then (laws_FnAllowed.j1 k x5 x6 bt360.1 true) else (laws_FnAllowed.j1 k x5 x6 bt360.1 (decide (bt364.1 < 0)))) else (laws_FnAllowed.j1 k x5 x6 bt360.1 true)) else (laws_FnAllowed.j1 k x5 x6 bt360.1 true)) else (laws_FnAllowed.j1 k x5 x6 bt360.1 true))) else (laws_FnAllowed.j1 k x5 x6 bt360.1 true)) else (laws_FnAllowed.j1 k x5 x6 bt360.1 true)))))))
def laws_FnAllowed.j1 : Nat → Int → List Int → Bool → Bool → Option (Bool)
  | 0, _, _, _, _ => none
  | k + 1, x5, x6, x10, x114 => if x114 = true then (some false) else (if 0 ≤ (wrap64 ((x6.length : Int) - 1)) then (if (wrap64 ((x6.length : Int) - 1)) < (x6.length : Int) then (laws_FnAllowed.l1 k x5 x6 x10 (wrap64 (x5 - (rd x6 (wrap64 ((x6.length : Int) - 1))))) (([] : List Int)) 0) else (none)) else (none))
def laws_FnAllowed.l1 : Nat → Int → List Int → Bool → Int → List Int → Int → Option (Bool)
  | 0, _, _, _, _, _, _ => none
  | k + 1, x5, x6, x10, x16, x17, x18 => if x18 < x16 then (if x17.length < 17592186044416 then (laws_FnAllowed.l1 k x5 x6 x10 x16 (x17 ++ [wrap64 ((wrap64 (x5 - 1)) - x18)]) (wrap64 (x18 + 1))) else (none)) else ((spec_PeopleOf.f k x17).bind fun bt373 => ((impl_FirstPossible.f k x5 x6 bt373.1).bind fun bt375 => ((spec_FirstPossible.f k x5 x6 bt373.1).bind fun bt379 => (if bt373.2 = 0 then (if bt375.2 = bt379.2 then ((spec_A2SamePeople.f k bt375.1 bt379.1).bind fun t383 => (if t383 = true then (laws_FnAllowed.j3 k x5 x6 x16 bt375.2 bt379.1 ((bt375.2 == 0) != x10)) else (laws_FnAllowed.j3 k x5 x6 x16 bt375.2 bt379.1 true))) else (laws_FnAllowed.j3 k x5 x6 x16 bt375.2 bt379.1 true)) else (laws_FnAllowed.j3 k x5 x6 x16 bt375.2 bt379.1 true)))))
def laws_FnAllowed.j3 : Nat → Int → List Int → Int → Int → List Int → Bool → Option (Bool)
  | 0, _, _, _, _, _, _ => none
  | k + 1, x5, x6, x16, x22, x23, x173 => if x173 = true then (some false) else (if x22 = 0 then (laws_FnAllowed.l2 k x6 x16 x23 0 x5 x23 ([] : List Int)) else (some (x22 == 4)))
def laws_FnAllowed.l2 : Nat → List Int → Int → List Int → Int → Int → List Int → List Int → Option (Bool)
  | 0, _, _, _, _, _, _, _ => none
  | k + 1, x6, x16, x23, x26, x385000, x385001, x385002 => if x26 < (x6.length : Int) then (if 0 ≤ x26 then (if x385002.length < 70368744177664 then (laws_FnAllowed.l2 k x6 x16 x23 (wrap64 (x26 + 1)) x385000 x385001 (x385002 ++ [IntKind.i16.wrap (rd x6 x26)])) else (none)) else (none)) else ((impl_FirstWrongCount.f k x385000 x385001 x385002).bind fun bt389 => (laws_FnAllowed.l3 k x6 x16 x23 bt389.2 0 0 x385000 x385001 x385002))
def laws_FnAllowed.l3 : Nat → List Int → Int → List Int → Int → Int → Int → Int → List Int → List Int → Option (Bool)
  | 0, _, _, _, _, _, _, _, _, _ => none
  | k + 1, x6, x16, x23, x28, x29, x30, x385000, x385001, x385002 => if x30 < (x23.length : Int) then ((impl_LostBefore.f k x385000 x385001 x385002 x30).bind fun bt392 => (if bt392.2 = 0 then ((spec_CountPeople.f k bt392.1).bind fun t394 => (laws_FnAllowed.l3 k x6 x16 x23 x28 (wrap64 (x29 + t394)) (wrap64 (x30 + 1)) x385000 x385001 x385002)) else (some false))) else ((impl_ValidLog.f k x385000 x385001 x385002).bind fun t391 => (if t391 = true then (if x28 = 6 then (if (x23.length : Int) = (x6.length : Int) then (some (x29 == x16)) else (some false)) else (some false)) else (some false)))
end
def laws_FnAllowed.f (k : Nat) (l0 : List Int) (l1 : List Int) : Option (Bool) := (laws_a2Long.f l0 l1).bind fun t348 => (if t348 = true then (some true) else ((laws_a2At.f l0 0 8).bind fun t349 => (laws_FnAllowed.l0 k l0 l1 (wrap64 (1 + t349)) (([] : List Int)) 0)))
theorem laws_FnAllowed.mono_l : ∀ k, (∀ y0 y1 y2 y3 y4, LeO (laws_FnAllowed.l0 k y0 y1 y2 y3 y4) (laws_FnAllowed.l0 (k + 1) y0 y1 y2 y3 y4)) ∧ (∀ y0 y1 y2 y3, LeO (laws_FnAllowed.j1 k y0 y1 y2 y3) (laws_FnAllowed.j1 (k + 1) y0 y1 y2 y3)) ∧ (∀ y0 y1 y2 y3 y4 y5, LeO (laws_FnAllowed.l1 k y0 y1 y2 y3 y4 y5) (laws_FnAllowed.l1 (k + 1) y0 y1 y2 y3 y4 y5)) ∧ (∀ y0 y1 y2 y3 y4 y5, LeO (laws_FnAllowed.j3 k y0 y1 y2 y3 y4 y5) (laws_FnAllowed.j3 (k + 1) y0 y1 y2 y3 y4 y5)) ∧ (∀ y0 y1 y2 y3 y4 y5 y6, LeO (laws_FnAllowed.l2 k y0 y1 y2 y3 y4 y5 y6) (laws_FnAllowed.l2 (k + 1) y0 y1 y2 y3 y4 y5 y6)) ∧ (∀ y0 y1 y2 y3 y4 y5 y6 y7 y8, LeO (laws_FnAllowed.l3 k y0 y1 y2 y3 y4 y5 y6 y7 y8) (laws_FnAllowed.l3 (k + 1) y0 y1 y2 y3 y4 y5 y6 y7 y8))
  | 0 => ⟨fun _ _ _ _ _ r h => by simp [laws_FnAllowed.l0] at h, fun _ _ _ _ r h => by simp [laws_FnAllowed.j1] at h, fun _ _ _ _ _ _ r h => by simp [laws_FnAllowed.l1] at h, fun _ _ _ _ _ _ r h => by simp [laws_FnAllowed.j3] at h, fun _ _ _ _ _ _ _ r h => by simp [laws_FnAllowed.l2] at h, fun _ _ _ _ _ _ _ _ _ r h => by simp [laws_FnAllowed.l3] at h⟩
  | k + 1 => by
    obtain ⟨ih0, ih1, ih2, ih3, ih4, ih5⟩ := laws_FnAllowed.mono_l k
    refine ⟨?_, ?_, ?_, ?_, ?_, ?_⟩
    · intro y0 y1 y2 y3 y4
      unfold laws_FnAllowed.l0
      repeat' first
      | (with_reducible exact ih0 _ _ _ _ _)
      | (with_reducible exact ih1 _ _ _ _)
      | (with_reducible exact ih2 _ _ _ _ _ _)
      | (with_reducible exact ih3 _ _ _ _ _ _)
      | (with_reducible exact ih4 _ _ _ _ _ _ _)
      | (with_reducible exact ih5 _ _ _ _ _ _ _ _ _)
      | (with_reducible exact impl_CountsAllow.mono _ _ _)
      | (with_reducible exact impl_FirstPossible.mono _ _ _ _)
      | (with_reducible exact impl_FirstWrongCount.mono _ _ _ _)
      | (with_reducible exact impl_LostBefore.mono _ _ _ _ _)
      | (with_reducible exact impl_ValidLog.mono _ _ _ _)
      | (with_reducible exact impl_WaysFor.mono _ _ _)
      | (with_reducible exact spec_A2SamePeople.mono _ _ _)
      | (with_reducible exact spec_CountPeople.mono _ _)
      | (with_reducible exact spec_CountsAllow.mono _ _ _)
      | (with_reducible exact spec_FirstPossible.mono _ _ _ _)
      | (with_reducible exact spec_PeopleOf.mono _ _)
      | (with_reducible exact spec_WaysFor.mono _ _ _)
      | (with_reducible exact LeO.refl _)
      | (with_reducible exact LeO.none _)
      | (with_reducible refine LeO.ite ?_ ?_)
      | (with_reducible refine LeO.bind ?_ (fun _ => ?_))
      | exact ih0 _ _ _ _ _
      | exact ih1 _ _ _ _
      | exact ih2 _ _ _ _ _ _
      | exact ih3 _ _ _ _ _ _
      | exact ih4 _ _ _ _ _ _ _
      | exact ih5 _ _ _ _ _ _ _ _ _
      | exact impl_CountsAllow.mono _ _ _
      | exact impl_FirstPossible.mono _ _ _ _
      | exact impl_FirstWrongCount.mono _ _ _ _
      | exact impl_LostBefore.mono _ _ _ _ _
      | exact impl_ValidLog.mono _ _ _ _
      | exact impl_WaysFor.mono _ _ _
      | exact spec_A2SamePeople.mono _ _ _
      | exact spec_CountPeople.mono _ _
      | exact spec_CountsAllow.mono _ _ _
      | exact spec_FirstPossible.mono _ _ _ _
      | exact spec_PeopleOf.mono _ _
      | exact spec_WaysFor.mono _ _ _
      | exact LeO.none _
      | refine LeO.ite ?_ ?_
      | refine LeO.bind ?_ (fun _ => ?_)
    · intro y0 y1 y2 y3
      unfold laws_FnAllowed.j1
      repeat' first
      | (with_reducible exact ih0 _ _ _ _ _)
      | (with_reducible exact ih1 _ _ _ _)
      | (with_reducible exact ih2 _ _ _ _ _ _)
      | (with_reducible exact ih3 _ _ _ _ _ _)
      | (with_reducible exact ih4 _ _ _ _ _ _ _)
      | (with_reducible exact ih5 _ _ _ _ _ _ _ _ _)
      | (with_reducible exact impl_CountsAllow.mono _ _ _)
      | (with_reducible exact impl_FirstPossible.mono _ _ _ _)
      | (with_reducible exact impl_FirstWrongCount.mono _ _ _ _)
      | (with_reducible exact impl_LostBefore.mono _ _ _ _ _)
      | (with_reducible exact impl_ValidLog.mono _ _ _ _)
      | (with_reducible exact impl_WaysFor.mono _ _ _)
      | (with_reducible exact spec_A2SamePeople.mono _ _ _)
      | (with_reducible exact spec_CountPeople.mono _ _)
      | (with_reducible exact spec_CountsAllow.mono _ _ _)
      | (with_reducible exact spec_FirstPossible.mono _ _ _ _)
      | (with_reducible exact spec_PeopleOf.mono _ _)
      | (with_reducible exact spec_WaysFor.mono _ _ _)
      | (with_reducible exact LeO.refl _)
      | (with_reducible exact LeO.none _)
      | (with_reducible refine LeO.ite ?_ ?_)
      | (with_reducible refine LeO.bind ?_ (fun _ => ?_))
      | exact ih0 _ _ _ _ _
      | exact ih1 _ _ _ _
      | exact ih2 _ _ _ _ _ _
      | exact ih3 _ _ _ _ _ _
      | exact ih4 _ _ _ _ _ _ _
      | exact ih5 _ _ _ _ _ _ _ _ _
      | exact impl_CountsAllow.mono _ _ _
      | exact impl_FirstPossible.mono _ _ _ _
      | exact impl_FirstWrongCount.mono _ _ _ _
      | exact impl_LostBefore.mono _ _ _ _ _
      | exact impl_ValidLog.mono _ _ _ _
      | exact impl_WaysFor.mono _ _ _
      | exact spec_A2SamePeople.mono _ _ _
      | exact spec_CountPeople.mono _ _
      | exact spec_CountsAllow.mono _ _ _
      | exact spec_FirstPossible.mono _ _ _ _
      | exact spec_PeopleOf.mono _ _
      | exact spec_WaysFor.mono _ _ _
      | exact LeO.none _
      | refine LeO.ite ?_ ?_
      | refine LeO.bind ?_ (fun _ => ?_)
    · intro y0 y1 y2 y3 y4 y5
      unfold laws_FnAllowed.l1
      repeat' first
      | (with_reducible exact ih0 _ _ _ _ _)
      | (with_reducible exact ih1 _ _ _ _)
      | (with_reducible exact ih2 _ _ _ _ _ _)
      | (with_reducible exact ih3 _ _ _ _ _ _)
      | (with_reducible exact ih4 _ _ _ _ _ _ _)
      | (with_reducible exact ih5 _ _ _ _ _ _ _ _ _)
      | (with_reducible exact impl_CountsAllow.mono _ _ _)
      | (with_reducible exact impl_FirstPossible.mono _ _ _ _)
      | (with_reducible exact impl_FirstWrongCount.mono _ _ _ _)
      | (with_reducible exact impl_LostBefore.mono _ _ _ _ _)
      | (with_reducible exact impl_ValidLog.mono _ _ _ _)
      | (with_reducible exact impl_WaysFor.mono _ _ _)
      | (with_reducible exact spec_A2SamePeople.mono _ _ _)
      | (with_reducible exact spec_CountPeople.mono _ _)
      | (with_reducible exact spec_CountsAllow.mono _ _ _)
      | (with_reducible exact spec_FirstPossible.mono _ _ _ _)
      | (with_reducible exact spec_PeopleOf.mono _ _)
      | (with_reducible exact spec_WaysFor.mono _ _ _)
      | (with_reducible exact LeO.refl _)
      | (with_reducible exact LeO.none _)
      | (with_reducible refine LeO.ite ?_ ?_)
      | (with_reducible refine LeO.bind ?_ (fun _ => ?_))
      | exact ih0 _ _ _ _ _
      | exact ih1 _ _ _ _
      | exact ih2 _ _ _ _ _ _
      | exact ih3 _ _ _ _ _ _
      | exact ih4 _ _ _ _ _ _ _
      | exact ih5 _ _ _ _ _ _ _ _ _
      | exact impl_CountsAllow.mono _ _ _
      | exact impl_FirstPossible.mono _ _ _ _
      | exact impl_FirstWrongCount.mono _ _ _ _
      | exact impl_LostBefore.mono _ _ _ _ _
      | exact impl_ValidLog.mono _ _ _ _
      | exact impl_WaysFor.mono _ _ _
      | exact spec_A2SamePeople.mono _ _ _
      | exact spec_CountPeople.mono _ _
      | exact spec_CountsAllow.mono _ _ _
      | exact spec_FirstPossible.mono _ _ _ _
      | exact spec_PeopleOf.mono _ _
      | exact spec_WaysFor.mono _ _ _
      | exact LeO.none _
      | refine LeO.ite ?_ ?_
      | refine LeO.bind ?_ (fun _ => ?_)
    · intro y0 y1 y2 y3 y4 y5
      unfold laws_FnAllowed.j3
      repeat' first
      | (with_reducible exact ih0 _ _ _ _ _)
      | (with_reducible exact ih1 _ _ _ _)
      | (with_reducible exact ih2 _ _ _ _ _ _)
      | (with_reducible exact ih3 _ _ _ _ _ _)
      | (with_reducible exact ih4 _ _ _ _ _ _ _)
      | (with_reducible exact ih5 _ _ _ _ _ _ _ _ _)
      | (with_reducible exact impl_CountsAllow.mono _ _ _)
      | (with_reducible exact impl_FirstPossible.mono _ _ _ _)
      | (with_reducible exact impl_FirstWrongCount.mono _ _ _ _)
      | (with_reducible exact impl_LostBefore.mono _ _ _ _ _)
      | (with_reducible exact impl_ValidLog.mono _ _ _ _)
      | (with_reducible exact impl_WaysFor.mono _ _ _)
      | (with_reducible exact spec_A2SamePeople.mono _ _ _)
      | (with_reducible exact spec_CountPeople.mono _ _)
      | (with_reducible exact spec_CountsAllow.mono _ _ _)
      | (with_reducible exact spec_FirstPossible.mono _ _ _ _)
      | (with_reducible exact spec_PeopleOf.mono _ _)
      | (with_reducible exact spec_WaysFor.mono _ _ _)
      | (with_reducible exact LeO.refl _)
      | (with_reducible exact LeO.none _)
      | (with_reducible refine LeO.ite ?_ ?_)
      | (with_reducible refine LeO.bind ?_ (fun _ => ?_))
      | exact ih0 _ _ _ _ _
      | exact ih1 _ _ _ _
      | exact ih2 _ _ _ _ _ _
      | exact ih3 _ _ _ _ _ _
      | exact ih4 _ _ _ _ _ _ _
      | exact ih5 _ _ _ _ _ _ _ _ _
      | exact impl_CountsAllow.mono _ _ _
      | exact impl_FirstPossible.mono _ _ _ _
      | exact impl_FirstWrongCount.mono _ _ _ _
      | exact impl_LostBefore.mono _ _ _ _ _
      | exact impl_ValidLog.mono _ _ _ _
      | exact impl_WaysFor.mono _ _ _
      | exact spec_A2SamePeople.mono _ _ _
      | exact spec_CountPeople.mono _ _
      | exact spec_CountsAllow.mono _ _ _
      | exact spec_FirstPossible.mono _ _ _ _
      | exact spec_PeopleOf.mono _ _
      | exact spec_WaysFor.mono _ _ _
      | exact LeO.none _
      | refine LeO.ite ?_ ?_
      | refine LeO.bind ?_ (fun _ => ?_)
    · intro y0 y1 y2 y3 y4 y5 y6
      unfold laws_FnAllowed.l2
      repeat' first
      | (with_reducible exact ih0 _ _ _ _ _)
      | (with_reducible exact ih1 _ _ _ _)
      | (with_reducible exact ih2 _ _ _ _ _ _)
      | (with_reducible exact ih3 _ _ _ _ _ _)
      | (with_reducible exact ih4 _ _ _ _ _ _ _)
      | (with_reducible exact ih5 _ _ _ _ _ _ _ _ _)
      | (with_reducible exact impl_CountsAllow.mono _ _ _)
      | (with_reducible exact impl_FirstPossible.mono _ _ _ _)
      | (with_reducible exact impl_FirstWrongCount.mono _ _ _ _)
      | (with_reducible exact impl_LostBefore.mono _ _ _ _ _)
      | (with_reducible exact impl_ValidLog.mono _ _ _ _)
      | (with_reducible exact impl_WaysFor.mono _ _ _)
      | (with_reducible exact spec_A2SamePeople.mono _ _ _)
      | (with_reducible exact spec_CountPeople.mono _ _)
      | (with_reducible exact spec_CountsAllow.mono _ _ _)
      | (with_reducible exact spec_FirstPossible.mono _ _ _ _)
      | (with_reducible exact spec_PeopleOf.mono _ _)
      | (with_reducible exact spec_WaysFor.mono _ _ _)
      | (with_reducible exact LeO.refl _)
      | (with_reducible exact LeO.none _)
      | (with_reducible refine LeO.ite ?_ ?_)
      | (with_reducible refine LeO.bind ?_ (fun _ => ?_))
      | exact ih0 _ _ _ _ _
      | exact ih1 _ _ _ _
      | exact ih2 _ _ _ _ _ _
      | exact ih3 _ _ _ _ _ _
      | exact ih4 _ _ _ _ _ _ _
      | exact ih5 _ _ _ _ _ _ _ _ _
      | exact impl_CountsAllow.mono _ _ _
      | exact impl_FirstPossible.mono _ _ _ _
      | exact impl_FirstWrongCount.mono _ _ _ _
      | exact impl_LostBefore.mono _ _ _ _ _
      | exact impl_ValidLog.mono _ _ _ _
      | exact impl_WaysFor.mono _ _ _
      | exact spec_A2SamePeople.mono _ _ _
      | exact spec_CountPeople.mono _ _
      | exact spec_CountsAllow.mono _ _ _
      | exact spec_FirstPossible.mono _ _ _ _
      | exact spec_PeopleOf.mono _ _
      | exact spec_WaysFor.mono _ _ _
      | exact LeO.none _
      | refine LeO.ite ?_ ?_
      | refine LeO.bind ?_ (fun _ => ?_)
    · intro y0 y1 y2 y3 y4 y5 y6 y7 y8
      unfold laws_FnAllowed.l3
      repeat' first
      | (with_reducible exact ih0 _ _ _ _ _)
      | (with_reducible exact ih1 _ _ _ _)
      | (with_reducible exact ih2 _ _ _ _ _ _)
      | (with_reducible exact ih3 _ _ _ _ _ _)
      | (with_reducible exact ih4 _ _ _ _ _ _ _)
      | (with_reducible exact ih5 _ _ _ _ _ _ _ _ _)
      | (with_reducible exact impl_CountsAllow.mono _ _ _)
      | (with_reducible exact impl_FirstPossible.mono _ _ _ _)
      | (with_reducible exact impl_FirstWrongCount.mono _ _ _ _)
      | (with_reducible exact impl_LostBefore.mono _ _ _ _ _)
      | (with_reducible exact impl_ValidLog.mono _ _ _ _)
      | (with_reducible exact impl_WaysFor.mono _ _ _)
      | (with_reducible exact spec_A2SamePeople.mono _ _ _)
      | (with_reducible exact spec_CountPeople.mono _ _)
      | (with_reducible exact spec_CountsAllow.mono _ _ _)
      | (with_reducible exact spec_FirstPossible.mono _ _ _ _)
      | (with_reducible exact spec_PeopleOf.mono _ _)
      | (with_reducible exact spec_WaysFor.mono _ _ _)
      | (with_reducible exact LeO.refl _)
      | (with_reducible exact LeO.none _)
      | (with_reducible refine LeO.ite ?_ ?_)
      | (with_reducible refine LeO.bind ?_ (fun _ => ?_))
      | exact ih0 _ _ _ _ _
      | exact ih1 _ _ _ _
      | exact ih2 _ _ _ _ _ _
      | exact ih3 _ _ _ _ _ _
      | exact ih4 _ _ _ _ _ _ _
      | exact ih5 _ _ _ _ _ _ _ _ _
      | exact impl_CountsAllow.mono _ _ _
      | exact impl_FirstPossible.mono _ _ _ _
      | exact impl_FirstWrongCount.mono _ _ _ _
      | exact impl_LostBefore.mono _ _ _ _ _
      | exact impl_ValidLog.mono _ _ _ _
      | exact impl_WaysFor.mono _ _ _
      | exact spec_A2SamePeople.mono _ _ _
      | exact spec_CountPeople.mono _ _
      | exact spec_CountsAllow.mono _ _ _
      | exact spec_FirstPossible.mono _ _ _ _
      | exact spec_PeopleOf.mono _ _
      | exact spec_WaysFor.mono _ _ _
      | exact LeO.none _
      | refine LeO.ite ?_ ?_
      | refine LeO.bind ?_ (fun _ => ?_)
theorem laws_FnAllowed.mono : ∀ a0 a1 k, LeO (laws_FnAllowed.f k a0 a1) (laws_FnAllowed.f (k + 1) a0 a1) := by
  intro a0 a1 k
  obtain ⟨ih0, ih1, ih2, ih3, ih4, ih5⟩ := laws_FnAllowed.mono_l k
  unfold laws_FnAllowed.f
  repeat' first
      | (with_reducible exact ih0 _ _ _ _ _)
      | (with_reducible exact ih1 _ _ _ _)
      | (with_reducible exact ih2 _ _ _ _ _ _)
      | (with_reducible exact ih3 _ _ _ _ _ _)
      | (with_reducible exact ih4 _ _ _ _ _ _ _)
      | (with_reducible exact ih5 _ _ _ _ _ _ _ _ _)
      | (with_reducible exact impl_CountsAllow.mono _ _ _)
      | (with_reducible exact impl_FirstPossible.mono _ _ _ _)
      | (with_reducible exact impl_FirstWrongCount.mono _ _ _ _)
      | (with_reducible exact impl_LostBefore.mono _ _ _ _ _)
      | (with_reducible exact impl_ValidLog.mono _ _ _ _)
      | (with_reducible exact impl_WaysFor.mono _ _ _)
      | (with_reducible exact spec_A2SamePeople.mono _ _ _)
      | (with_reducible exact spec_CountPeople.mono _ _)
      | (with_reducible exact spec_CountsAllow.mono _ _ _)
      | (with_reducible exact spec_FirstPossible.mono _ _ _ _)
      | (with_reducible exact spec_PeopleOf.mono _ _)
      | (with_reducible exact spec_WaysFor.mono _ _ _)
      | (with_reducible exact LeO.refl _)
      | (with_reducible exact LeO.none _)
      | (with_reducible refine LeO.ite ?_ ?_)
      | (with_reducible refine LeO.bind ?_ (fun _ => ?_))
      | exact ih0 _ _ _ _ _
      | exact ih1 _ _ _ _
      | exact ih2 _ _ _ _ _ _
      | exact ih3 _ _ _ _ _ _
      | exact ih4 _ _ _ _ _ _ _
      | exact ih5 _ _ _ _ _ _ _ _ _
      | exact impl_CountsAllow.mono _ _ _
      | exact impl_FirstPossible.mono _ _ _ _
      | exact impl_FirstWrongCount.mono _ _ _ _
      | exact impl_LostBefore.mono _ _ _ _ _
      | exact impl_ValidLog.mono _ _ _ _
      | exact impl_WaysFor.mono _ _ _
      | exact spec_A2SamePeople.mono _ _ _
      | exact spec_CountPeople.mono _ _
      | exact spec_CountsAllow.mono _ _ _
      | exact spec_FirstPossible.mono _ _ _ _
      | exact spec_PeopleOf.mono _ _
      | exact spec_WaysFor.mono _ _ _
      | exact LeO.none _
      | refine LeO.ite ?_ ?_
      | refine LeO.bind ?_ (fun _ => ?_)
def laws_FnAllowed.T32 : Bool × List (List Nat × List Nat) := (true, [([], []), ([0], [0]), ([], []), ([], []), ([2, 3], [2, 3]), ([4], [4]), ([5], [5]), ([6], [6]), ([1, 7], [1, 7]), ([0, 1, 2, 3, 4, 5, 6, 7, 8], []), ([9, 8, 8, 0, 1, 2, 3, 4, 5, 6, 7, 8], [8, 9])])
def laws_FnAllowed.B32 : List Nat := [0, 1, 0, 0, 12, 28, 60, 124, 255, 511, 1023]
theorem laws_FnAllowed.tab32 : rtab .any (opsOf Try.f6 32) = laws_FnAllowed.T32 := by kernel_rfl
theorem laws_FnAllowed.bits32 : waitsOk laws_FnAllowed.T32.2 laws_FnAllowed.B32 = true := by kernel_rfl
set_option maxHeartbeats 8000000 in
set_option maxRecDepth 100000 in
theorem laws_FnAllowed.calls (k : Nat) (A0 : Option Addr) (c0 : Nat) (l0 : List Int) (A1 : Option Addr) (c1 : Nat) (l1 : List Int) (r : Bool) (w : World) (hr0 : Kd.C (Kd.int .u8) w A0 l0.length l0) (hc0 : l0.length ≤ c0) (hr1 : Kd.C (Kd.int .u8) w A1 l1.length l1) (hc1 : l1.length ≤ c1) (hT : r = true) (h : laws_FnAllowed.f k l0 l1 = some r) :
    Calls Try.prog 6 #[.slice A0 l0.length c0, .slice A1 l1.length c1] w fun e w' => e = .returned (.bool r) ∧ Below w.heap.size w w' := by
  have hu78 := Try.underlying78
  have HR0 := Aside0.mk hr0
  have HC0 := Aside0.mk hc0
  clear hr0 hc0
  have HR1 := Aside0.mk hr1
  have HC1 := Aside0.mk hc1
  clear hr1 hc1
  have HT := Aside0.mk hT
  clear hT
  have HB := Aside0.mk (Below.refl w.heap.size w)
  have H : ((laws_a2Long.f l0 l1).bind fun t348 => (if t348 = true then (some true) else ((laws_a2At.f l0 0 8).bind fun t349 => (laws_FnAllowed.l0 k l0 l1 (wrap64 (1 + t349)) (([] : List Int)) 0)))) = some r := h
  clear h
  replace H := Option.bind_eq_some_iff.mp H
  obtain ⟨t348, A30, H⟩ := H
  replace H : (if t348 = true then (some true) else ((laws_a2At.f l0 0 8).bind fun t349 => (laws_FnAllowed.l0 k l0 l1 (wrap64 (1 + t349)) (([] : List Int)) 0))) = some r := H
  have A3 := Aside0.mk A30
  clear A30
  by_cases c4 : t348 = true
  · subst c4
    have H1 : (some true) = some r := by rw [if_pos rfl] at H; exact H
    clear H
    have H := H1
    clear H1
    obtain rfl := Option.some.inj H
    go_enter Try.func6, Try.ntmps6
    go_wp2_with (first | ((with_reducible refine gate_callee (f := 35) rfl ?_); refine goesL_ (some 35) rfl rfl Try.func35 (by kernel_rfl) rfl #[.slice A0 l0.length c0, .slice A1 l1.length c1] rfl (by (try simp only [List.map_toArray, List.map_cons, List.map_nil]); first | done | rfl | (simp only [List.length_drop, List.length_take]; rfl)) ?_; (with_reducible refine (laws_a2Long.calls _ _ l0 _ _ l1 true _ ?side1 ?side2 ?side3 ?side4 A3.out).mono ?_); (case side1 => repeat (first | exact HR0.out | (with_reducible refine Kd.C_alloc ?_ _) | (with_reducible refine Kd.C_drewN ?_ _) | (with_reducible refine Kd.C_drew ?_))); (case side2 => exact HC0.out); (case side3 => repeat (first | exact HR1.out | (with_reducible refine Kd.C_alloc ?_ _) | (with_reducible refine Kd.C_drewN ?_ _) | (with_reducible refine Kd.C_drew ?_))); (case side4 => exact HC1.out); rintro e w' ⟨rfl, ⟨nd, rfl⟩⟩; refine ⟨_, rfl, ?_⟩))
    go_ret
    exact ⟨by first | rfl | (simp [errW_none, errW_some] <;> rfl) | (simp [*, errW_none, errW_some] <;> rfl), by repeat (first | (with_reducible first | exact HB.out | apply below_alloc | apply pw_below_drewN | apply below_drew1) | exact HB.out)⟩
  · replace c4 := Bool.eq_false_iff.mpr c4
    subst c4
    have H1 : ((laws_a2At.f l0 0 8).bind fun t349 => (laws_FnAllowed.l0 k l0 l1 (wrap64 (1 + t349)) (([] : List Int)) 0)) = some r := by rw [if_neg (show ¬ (false = true) by decide)] at H; exact H
    clear H
    have H := H1
    clear H1
    replace H := Option.bind_eq_some_iff.mp H
    obtain ⟨t349, A50, H⟩ := H
    replace H : (laws_FnAllowed.l0 k l0 l1 (wrap64 (1 + t349)) (([] : List Int)) 0) = some r := H
    have A5 := Aside0.mk A50
    clear A50
    obtain ⟨y350, hy350⟩ : ∃ y_ : List Int, y_ = (([] : List Int)) := ⟨_, rfl⟩
    replace H : (laws_FnAllowed.l0 k l0 l1 (wrap64 (1 + t349)) y350 0) = some r := by first | (rw [hy350]; with_reducible exact H) | (have H2_ := (Option.bind_some _ _).symm.trans H; rw [hy350]; with_reducible exact H2_) | (have H2_ := (Option.bind_some _ _).symm.trans H; with_reducible exact H2_) | with_reducible exact H | (rw [hy350]; exact H) | exact H
    have Ny350 := Aside0.mk hy350
    clear hy350
    have H' := Aside0.mk H
    clear H
    go_enter Try.func6, Try.ntmps6
    go_wp2_with (first | ((with_reducible refine gate_callee (f := 35) rfl ?_); refine goesL_ (some 35) rfl rfl Try.func35 (by kernel_rfl) rfl #[.slice A0 l0.length c0, .slice A1 l1.length c1] rfl (by (try simp only [List.map_toArray, List.map_cons, List.map_nil]); first | done | rfl | (simp only [List.length_drop, List.length_take]; rfl)) ?_; (with_reducible refine (laws_a2Long.calls _ _ l0 _ _ l1 false _ ?side1 ?side2 ?side3 ?side4 A3.out).mono ?_); (case side1 => repeat (first | exact HR0.out | (with_reducible refine Kd.C_alloc ?_ _) | (with_reducible refine Kd.C_drewN ?_ _) | (with_reducible refine Kd.C_drew ?_))); (case side2 => exact HC0.out); (case side3 => repeat (first | exact HR1.out | (with_reducible refine Kd.C_alloc ?_ _) | (with_reducible refine Kd.C_drewN ?_ _) | (with_reducible refine Kd.C_drew ?_))); (case side4 => exact HC1.out); rintro e w' ⟨rfl, ⟨nd, rfl⟩⟩; refine ⟨_, rfl, ?_⟩) | ((with_reducible refine gate_callee (f := 36) rfl ?_); refine goesL_ (some 37) rfl rfl Try.func36 (by kernel_rfl) rfl #[.slice A0 l0.length c0, .int .i64 0, .int .i64 8] rfl (by (try simp only [List.map_toArray, List.map_cons, List.map_nil]); first | done | rfl | (simp only [List.length_drop, List.length_take]; rfl)) ?_; (with_reducible refine (laws_a2At.calls _ _ l0 0 8 t349 _ ?side1 ?side2 A5.out).mono ?_); (case side1 => repeat (first | exact HR0.out | (with_reducible refine Kd.C_alloc ?_ _) | (with_reducible refine Kd.C_drewN ?_ _) | (with_reducible refine Kd.C_drew ?_))); (case side2 => exact HC0.out); rintro e w' ⟨rfl, ⟨nd, rfl⟩⟩; refine ⟨_, rfl, ?_⟩) | ((with_reducible refine gate_dst (N := 39) rfl ?_); (try (refine gate_guard (by rfl) ?_; dsimp only)); refine Kd.R_lit (Kd.int .i64) _ 2 ?hg (N := 39) ?hd (xs := ([] : List Int)) (inner := []) (ok := fun _ => True) (okp := fun _ => True) ?hr ?hp (fun _ hk => hk) trivial (Below.refl _ _) (Nat.le_refl _) (by simp) ?_; (case hd => rfl); (case hg => rfl); (case hr => first | (go_simp; done) | (go_simp; rfl)); (case hp => exact (Reps.none _ _)); intro v351 w6 ho7 hb hg_ hnew_; clear hg_ hnew_; (first | rw [← Ny350.out] at ho7 | (simp only [Int.reduceToNat] at ho7; rw [← Ny350.out] at ho7)); have n0_ := Aside0.mk (Kd.R_lower ho7 (below_size (by repeat (first | (with_reducible first | exact HB.out | apply below_alloc | apply pw_below_drewN | apply below_drew1) | exact HB.out)))); have n1_ := Aside0.mk (below_step (by repeat (first | (with_reducible first | exact HB.out | apply below_alloc | apply pw_below_drewN | apply below_drew1) | exact HB.out)) hb); clear HB; have HO352 := n0_; have HB := n1_; clear n0_ n1_; clear hb ho7))
    go_loopg [6, 7] k (fun kq v6 v7 w' => ∃ (x6_1 : List Int) (x7_1 : Int), v7 = .int .i64 x7_1 ∧ Aside0 (laws_FnAllowed.l0 kq l0 l1 (wrap64 (1 + t349)) x6_1 x7_1 = some r) ∧ Aside0 (kq ≤ k) ∧ Aside0 (Kd.R (Kd.int .i64) 2 w' w.heap.size (fun _ => True) v6 x6_1) ∧ Aside0 (Below w.heap.size w w'))
    case atStart => exact ⟨(y350), (0), (by first | rfl | (simp; done) | (simp [*]; done)), H', ⟨Nat.le_refl _⟩, ⟨by (with_reducible repeat (first | apply Kd.R_alloc | apply Kd.R_drewN | apply Kd.R_drew)); exact HO352.out⟩, ⟨by repeat (first | (with_reducible first | exact HB.out | apply below_alloc | apply pw_below_drewN | apply below_drew1) | exact HB.out)⟩⟩
    case round =>
      as_aux_lemma =>
      clear H'
      try clear c1
      try clear p2
      try clear c3
      try clear c4
      try clear c6
      try clear p6
      obtain ⟨x6_1, x7_1, rfl, HA, HK1, HO_6, HB⟩ := hrel
      cases gk with
      | zero => exact absurd HA.out (by simp [laws_FnAllowed.l0])
      | succ k1 =>
        have H := HA.out
        clear HA
        simp only [laws_FnAllowed.l0] at H
        replace H := Option.bind_eq_some_iff.mp H
        obtain ⟨t353, A80, H⟩ := H
        replace H : (if x7_1 < (wrap64 (1 + t353)) then ((laws_a2At.f l1 x7_1 (wrap64 ((wrap64 (1 + t349)) + 1))).bind fun t354 => (if x6_1.length < 17592186044416 then (laws_FnAllowed.l0 k1 l0 l1 (wrap64 (1 + t349)) (x6_1 ++ [t354]) (wrap64 (x7_1 + 1))) else (none))) else ((impl_CountsAllow.f k1 (wrap64 (1 + t349)) x6_1).bind fun bt358 => ((spec_CountsAllow.f k1 (wrap64 (1 + t349)) x6_1).bind fun bt360 => ((impl_WaysFor.f k1 (wrap64 (1 + t349)) x6_1).bind fun bt362 => ((spec_WaysFor.f k1 (wrap64 (1 + t349)) x6_1).bind fun bt364 => (if bt358.2 = bt360.2 then (if bt358.2 = 0 then (if (bt358.1 != bt360.1) = true then (laws_FnAllowed.j1 k1 (wrap64 (1 + t349)) x6_1 bt360.1 true) else (if bt362.2 = bt364.2 then (if bt362.2 = 0 then (if bt362.1 = bt364.1 then (if ((decide (bt364.1 > 0)) != bt360.1) = true then (laws_FnAllowed.j1 k1 (wrap64 (1 + t349)) x6_1 bt360.1 true) else (laws_FnAllowed.j1 k1 (wrap64 (1 + t349)) x6_1 bt360.1 (decide (bt364.1 < 0)))) else (laws_FnAllowed.j1 k1 (wrap64 (1 + t349)) x6_1 bt360.1 true)) else (laws_FnAllowed.j1 k1 (wrap64 (1 + t349)) x6_1 bt360.1 true)) else (laws_FnAllowed.j1 k1 (wrap64 (1 + t349)) x6_1 bt360.1 true))) else (laws_FnAllowed.j1 k1 (wrap64 (1 + t349)) x6_1 bt360.1 true)) else (laws_FnAllowed.j1 k1 (wrap64 (1 + t349)) x6_1 bt360.1 true))))))) = some r := H
        have A8 := Aside0.mk A80
        clear A80
        by_cases c9 : x7_1 < (wrap64 (1 + t353))
        · rw [if_pos c9] at H
          have c9b0 : decide (x7_1 < (wrap64 (1 + t353))) = true := decide_eq_true c9
          (try (have c9b1 : decide (x7_1 < (IntKind.i64.wrap (1 + t353))) = true := by first | simpa only [i64_w, i32_w] using (show decide (x7_1 < (wrap64 (1 + t353))) = true from decide_eq_true c9) | simpa only [i64_w] using (show decide (x7_1 < (wrap64 (1 + t353))) = true from decide_eq_true c9)))
          clear c9
          replace H := Option.bind_eq_some_iff.mp H
          obtain ⟨t354, A100, H⟩ := H
          replace H : (if x6_1.length < 17592186044416 then (laws_FnAllowed.l0 k1 l0 l1 (wrap64 (1 + t349)) (x6_1 ++ [t354]) (wrap64 (x7_1 + 1))) else (none)) = some r := H
          have A10 := Aside0.mk A100
          clear A100
          by_cases c11 : x6_1.length < 17592186044416
          · rw [if_pos c11] at H
            have LMc11 := Aside0.mk c11
            clear c11
            obtain ⟨y355, hy355⟩ : ∃ y_ : List Int, y_ = (x6_1 ++ [t354]) := ⟨_, rfl⟩
            replace H : (laws_FnAllowed.l0 k1 l0 l1 (wrap64 (1 + t349)) y355 (wrap64 (x7_1 + 1))) = some r := by first | (rw [hy355]; with_reducible exact H) | (have H2_ := (Option.bind_some _ _).symm.trans H; rw [hy355]; with_reducible exact H2_) | (have H2_ := (Option.bind_some _ _).symm.trans H; with_reducible exact H2_) | with_reducible exact H | (rw [hy355]; exact H) | exact H
            have Ny355 := Aside0.mk hy355
            clear hy355
            have H' := Aside0.mk H
            clear H
            go_wp2_with (first | ((with_reducible refine gate_callee (f := 36) rfl ?_); refine goesL_ (some 42) rfl rfl Try.func36 (by kernel_rfl) rfl #[.slice A0 l0.length c0, .int .i64 1, .int .i64 5] rfl (by (try simp only [List.map_toArray, List.map_cons, List.map_nil]); first | done | rfl | (simp only [List.length_drop, List.length_take]; rfl)) ?_; (with_reducible refine (laws_a2At.calls _ _ l0 1 5 t353 _ ?side1 ?side2 A8.out).mono ?_); (case side1 => repeat (first | exact (Kd.C_below HR0.out HB.out) | (with_reducible refine Kd.C_alloc ?_ _) | (with_reducible refine Kd.C_drewN ?_ _) | (with_reducible refine Kd.C_drew ?_))); (case side2 => exact HC0.out); rintro e w' ⟨rfl, ⟨nd, rfl⟩⟩; refine ⟨_, rfl, ?_⟩) | ((with_reducible refine gate_callee (f := 36) rfl ?_); refine goesL_ (some 52) rfl rfl Try.func36 (by kernel_rfl) rfl #[.slice A1 l1.length c1, .int .i64 x7_1, .int .i64 (wrap64 ((wrap64 (1 + t349)) + 1))] rfl (by (try simp only [List.map_toArray, List.map_cons, List.map_nil]); first | done | rfl | (simp only [List.length_drop, List.length_take]; rfl)) ?_; (with_reducible refine (laws_a2At.calls _ _ l1 x7_1 (wrap64 ((wrap64 (1 + t349)) + 1)) t354 _ ?side1 ?side2 A10.out).mono ?_); (case side1 => repeat (first | exact (Kd.C_below HR1.out (by repeat (first | (with_reducible first | exact HB.out | apply below_alloc | apply pw_below_drewN | apply below_drew1) | exact HB.out))) | (with_reducible refine Kd.C_alloc ?_ _) | (with_reducible refine Kd.C_drewN ?_ _) | (with_reducible refine Kd.C_drew ?_))); (case side2 => exact HC1.out); rintro e w' ⟨rfl, ⟨nd, rfl⟩⟩; refine ⟨_, rfl, ?_⟩) | ((with_reducible refine gate_builtin (b := .append) (xs := #[.tmp 47, .tmp 53]) rfl ?_); (try (refine gate_guard (by rfl) ?_; dsimp only)); at_builtin; refine Kd.R_append (Kd.int .i64) (w0 := w) w.heap.size rfl (.tmp 47) (.tmp 53) 38 2 (.int .i64 0) 8 rfl Try.underlying38 info2 rfl (by decide) (by omega) u6 x6_1 t354 [.int .i64 t354] (fun _ => True) (fun _ => False) rfl rfl ?aP (fun _ hk => hk.elim) ?aF ?aO ?aB ?aS ?aL ?_; (case aP => exact rfl); (case aB => exact (by repeat (first | (with_reducible first | exact HB.out | apply below_alloc | apply pw_below_drewN | apply below_drew1) | exact HB.out))); (case aF => exact (fun _ _ => trivial)); (case aO => exact (by (with_reducible repeat (first | apply Kd.R_alloc | apply Kd.R_drewN | apply Kd.R_drew)); exact HO_6.out)); (case aS => exact (below_size (by repeat (first | (with_reducible first | exact HB.out | apply below_alloc | apply pw_below_drewN | apply below_drew1) | exact HB.out)))); (case aL => have := LMc11.out; omega); intro v356 w12 ho hb hg hat; rw [← Ny355.out] at ho; have n0_ := Aside0.mk (hb); have n1_ := Aside0.mk (ho); clear HB; clear HO_6; have HB := n0_; have HO357 := n1_; clear n0_ n1_; clear ho hb hg hat))
            go_roundg k1
            case measure => have := HK1.out; omega
            case rel => exact ⟨(y355), (wrap64 (x7_1 + 1)), (by first | rfl | (simp; done) | (simp [*]; done)), H', ⟨by have := HK1.out; omega⟩, ⟨by (with_reducible repeat (first | apply Kd.R_alloc | apply Kd.R_drewN | apply Kd.R_drew)); exact HO357.out⟩, ⟨by repeat (first | (with_reducible first | exact HB.out | apply below_alloc | apply pw_below_drewN | apply below_drew1) | exact HB.out)⟩⟩
          · rw [if_neg c11] at H
            exact absurd H (by simp)
        · rw [if_neg c9] at H
          have c9b0 : decide (x7_1 < (wrap64 (1 + t353))) = false := decide_eq_false c9
          (try (have c9b1 : decide (x7_1 < (IntKind.i64.wrap (1 + t353))) = false := by first | simpa only [i64_w, i32_w] using (show decide (x7_1 < (wrap64 (1 + t353))) = false from decide_eq_false c9) | simpa only [i64_w] using (show decide (x7_1 < (wrap64 (1 + t353))) = false from decide_eq_false c9)))
          clear c9
          replace H := Option.bind_eq_some_iff.mp H
          obtain ⟨⟨t358, t359⟩, A130, H⟩ := H
          replace H : ((spec_CountsAllow.f k1 (wrap64 (1 + t349)) x6_1).bind fun bt360 => ((impl_WaysFor.f k1 (wrap64 (1 + t349)) x6_1).bind fun bt362 => ((spec_WaysFor.f k1 (wrap64 (1 + t349)) x6_1).bind fun bt364 => (if t359 = bt360.2 then (if t359 = 0 then (if (t358 != bt360.1) = true then (laws_FnAllowed.j1 k1 (wrap64 (1 + t349)) x6_1 bt360.1 true) else (if bt362.2 = bt364.2 then (if bt362.2 = 0 then (if bt362.1 = bt364.1 then (if ((decide (bt364.1 > 0)) != bt360.1) = true then (laws_FnAllowed.j1 k1 (wrap64 (1 + t349)) x6_1 bt360.1 true) else (laws_FnAllowed.j1 k1 (wrap64 (1 + t349)) x6_1 bt360.1 (decide (bt364.1 < 0)))) else (laws_FnAllowed.j1 k1 (wrap64 (1 + t349)) x6_1 bt360.1 true)) else (laws_FnAllowed.j1 k1 (wrap64 (1 + t349)) x6_1 bt360.1 true)) else (laws_FnAllowed.j1 k1 (wrap64 (1 + t349)) x6_1 bt360.1 true))) else (laws_FnAllowed.j1 k1 (wrap64 (1 + t349)) x6_1 bt360.1 true)) else (laws_FnAllowed.j1 k1 (wrap64 (1 + t349)) x6_1 bt360.1 true))))) = some r := H
          have A13 := Aside0.mk A130
          clear A130
          replace H := Option.bind_eq_some_iff.mp H
          obtain ⟨⟨t360, t361⟩, A140, H⟩ := H
          replace H : ((impl_WaysFor.f k1 (wrap64 (1 + t349)) x6_1).bind fun bt362 => ((spec_WaysFor.f k1 (wrap64 (1 + t349)) x6_1).bind fun bt364 => (if t359 = t361 then (if t359 = 0 then (if (t358 != t360) = true then (laws_FnAllowed.j1 k1 (wrap64 (1 + t349)) x6_1 t360 true) else (if bt362.2 = bt364.2 then (if bt362.2 = 0 then (if bt362.1 = bt364.1 then (if ((decide (bt364.1 > 0)) != t360) = true then (laws_FnAllowed.j1 k1 (wrap64 (1 + t349)) x6_1 t360 true) else (laws_FnAllowed.j1 k1 (wrap64 (1 + t349)) x6_1 t360 (decide (bt364.1 < 0)))) else (laws_FnAllowed.j1 k1 (wrap64 (1 + t349)) x6_1 t360 true)) else (laws_FnAllowed.j1 k1 (wrap64 (1 + t349)) x6_1 t360 true)) else (laws_FnAllowed.j1 k1 (wrap64 (1 + t349)) x6_1 t360 true))) else (laws_FnAllowed.j1 k1 (wrap64 (1 + t349)) x6_1 t360 true)) else (laws_FnAllowed.j1 k1 (wrap64 (1 + t349)) x6_1 t360 true)))) = some r := H
          have A14 := Aside0.mk A140
          clear A140
          replace H := Option.bind_eq_some_iff.mp H
          obtain ⟨⟨t362, t363⟩, A150, H⟩ := H
          replace H : ((spec_WaysFor.f k1 (wrap64 (1 + t349)) x6_1).bind fun bt364 => (if t359 = t361 then (if t359 = 0 then (if (t358 != t360) = true then (laws_FnAllowed.j1 k1 (wrap64 (1 + t349)) x6_1 t360 true) else (if t363 = bt364.2 then (if t363 = 0 then (if t362 = bt364.1 then (if ((decide (bt364.1 > 0)) != t360) = true then (laws_FnAllowed.j1 k1 (wrap64 (1 + t349)) x6_1 t360 true) else (laws_FnAllowed.j1 k1 (wrap64 (1 + t349)) x6_1 t360 (decide (bt364.1 < 0)))) else (laws_FnAllowed.j1 k1 (wrap64 (1 + t349)) x6_1 t360 true)) else (laws_FnAllowed.j1 k1 (wrap64 (1 + t349)) x6_1 t360 true)) else (laws_FnAllowed.j1 k1 (wrap64 (1 + t349)) x6_1 t360 true))) else (laws_FnAllowed.j1 k1 (wrap64 (1 + t349)) x6_1 t360 true)) else (laws_FnAllowed.j1 k1 (wrap64 (1 + t349)) x6_1 t360 true))) = some r := H
          have A15 := Aside0.mk A150
          clear A150
          replace H := Option.bind_eq_some_iff.mp H
          obtain ⟨⟨t364, t365⟩, A160, H⟩ := H
          replace H : (if t359 = t361 then (if t359 = 0 then (if (t358 != t360) = true then (laws_FnAllowed.j1 k1 (wrap64 (1 + t349)) x6_1 t360 true) else (if t363 = t365 then (if t363 = 0 then (if t362 = t364 then (if ((decide (t364 > 0)) != t360) = true then (laws_FnAllowed.j1 k1 (wrap64 (1 + t349)) x6_1 t360 true) else (laws_FnAllowed.j1 k1 (wrap64 (1 + t349)) x6_1 t360 (decide (t364 < 0)))) else (laws_FnAllowed.j1 k1 (wrap64 (1 + t349)) x6_1 t360 true)) else (laws_FnAllowed.j1 k1 (wrap64 (1 + t349)) x6_1 t360 true)) else (laws_FnAllowed.j1 k1 (wrap64 (1 + t349)) x6_1 t360 true))) else (laws_FnAllowed.j1 k1 (wrap64 (1 + t349)) x6_1 t360 true)) else (laws_FnAllowed.j1 k1 (wrap64 (1 + t349)) x6_1 t360 true)) = some r := H
          have A16 := Aside0.mk A160
          clear A160
          have HC17 := Aside0.mk H
          clear H
          go_upto_region 13 with (first | ((with_reducible refine gate_callee (f := 36) rfl ?_); refine goesL_ (some 42) rfl rfl Try.func36 (by kernel_rfl) rfl #[.slice A0 l0.length c0, .int .i64 1, .int .i64 5] rfl (by (try simp only [List.map_toArray, List.map_cons, List.map_nil]); first | done | rfl | (simp only [List.length_drop, List.length_take]; rfl)) ?_; (with_reducible refine (laws_a2At.calls _ _ l0 1 5 t353 _ ?side1 ?side2 A8.out).mono ?_); (case side1 => repeat (first | exact (Kd.C_below HR0.out HB.out) | (with_reducible refine Kd.C_alloc ?_ _) | (with_reducible refine Kd.C_drewN ?_ _) | (with_reducible refine Kd.C_drew ?_))); (case side2 => exact HC0.out); rintro e w' ⟨rfl, ⟨nd, rfl⟩⟩; refine ⟨_, rfl, ?_⟩; obtain ⟨Ao18, co18, eo18⟩ := Kd.R_slice HO_6.out; subst eo18) | ((with_reducible refine gate_callee (f := 37) rfl ?_); refine goesL_ (some 58) rfl rfl Try.func37 (by kernel_rfl) rfl #[.int .i64 (wrap64 (1 + t349)), .slice Ao18 x6_1.length co18] rfl (by (try simp only [List.map_toArray, List.map_cons, List.map_nil]); first | done | rfl | (simp only [List.length_drop, List.length_take]; rfl)) ?_; (with_reducible refine (impl_CountsAllow.calls k1 (wrap64 (1 + t349)) _ _ x6_1 t358 t359 _ ?side1 ?side2 A13.out).mono ?_); (case side1 => repeat (first | exact (Kd.R_reads' HO_6.out).2.2 | (with_reducible refine Kd.C_alloc ?_ _) | (with_reducible refine Kd.C_drewN ?_ _) | (with_reducible refine Kd.C_drew ?_))); (case side2 => exact (Kd.R_reads' HO_6.out).2.1); rintro e w' ⟨rfl, ⟨nd, rfl⟩⟩; refine ⟨_, rfl, ?_⟩) | ((with_reducible refine gate_callee (f := 38) rfl ?_); refine goesL_ (some 64) rfl rfl Try.func38 (by kernel_rfl) rfl #[.int .i64 (wrap64 (1 + t349)), .slice Ao18 x6_1.length co18] rfl (by (try simp only [List.map_toArray, List.map_cons, List.map_nil]); first | done | rfl | (simp only [List.length_drop, List.length_take]; rfl)) ?_; (with_reducible refine (spec_CountsAllow.calls k1 (wrap64 (1 + t349)) _ _ x6_1 t360 t361 _ ?side1 ?side2 A14.out).mono ?_); (case side1 => repeat (first | exact (Kd.R_reads' HO_6.out).2.2 | (with_reducible refine Kd.C_alloc ?_ _) | (with_reducible refine Kd.C_drewN ?_ _) | (with_reducible refine Kd.C_drew ?_))); (case side2 => exact (Kd.R_reads' HO_6.out).2.1); rintro e w' ⟨rfl, ⟨nd, rfl⟩⟩; refine ⟨_, rfl, ?_⟩) | ((with_reducible refine gate_callee (f := 39) rfl ?_); refine goesL_ (some 70) rfl rfl Try.func39 (by kernel_rfl) rfl #[.int .i64 (wrap64 (1 + t349)), .slice Ao18 x6_1.length co18] rfl (by (try simp only [List.map_toArray, List.map_cons, List.map_nil]); first | done | rfl | (simp only [List.length_drop, List.length_take]; rfl)) ?_; (with_reducible refine (impl_WaysFor.calls k1 (wrap64 (1 + t349)) _ _ x6_1 t362 t363 _ ?side1 ?side2 A15.out).mono ?_); (case side1 => repeat (first | exact (Kd.R_reads' HO_6.out).2.2 | (with_reducible refine Kd.C_alloc ?_ _) | (with_reducible refine Kd.C_drewN ?_ _) | (with_reducible refine Kd.C_drew ?_))); (case side2 => exact (Kd.R_reads' HO_6.out).2.1); rintro e w' ⟨rfl, ⟨nd, rfl⟩⟩; refine ⟨_, rfl, ?_⟩) | ((with_reducible refine gate_callee (f := 40) rfl ?_); refine goesL_ (some 76) rfl rfl Try.func40 (by kernel_rfl) rfl #[.int .i64 (wrap64 (1 + t349)), .slice Ao18 x6_1.length co18] rfl (by (try simp only [List.map_toArray, List.map_cons, List.map_nil]); first | done | rfl | (simp only [List.length_drop, List.length_take]; rfl)) ?_; (with_reducible refine (spec_WaysFor.calls k1 (wrap64 (1 + t349)) _ _ x6_1 t364 t365 _ ?side1 ?side2 A16.out).mono ?_); (case side1 => repeat (first | exact (Kd.R_reads' HO_6.out).2.2 | (with_reducible refine Kd.C_alloc ?_ _) | (with_reducible refine Kd.C_drewN ?_ _) | (with_reducible refine Kd.C_drew ?_))); (case side2 => exact (Kd.R_reads' HO_6.out).2.1); rintro e w' ⟨rfl, ⟨nd, rfl⟩⟩; refine ⟨_, rfl, ?_⟩))
          (try simp only [Act.put, List.setIfInBounds_toArray, List.set_cons_zero, List.set_cons_succ])
          go_cut [114] (fun v114 wc => ∃ (kq : Nat) (x114_16 : Bool), v114 = .bool x114_16 ∧ Aside0 (laws_FnAllowed.j1 kq (wrap64 (1 + t349)) x6_1 t360 x114_16 = some r) ∧ Aside0 (kq ≤ k1) ∧ Aside0 (Kd.R (Kd.int .i64) 2 wc w.heap.size (fun _ => True) (.slice Ao18 x6_1.length co18) x6_1) ∧ Aside0 (Below w.heap.size w wc))
          case first =>
            as_aux_lemma =>
            have H := HC17.out
            clear HC17
            by_cases c19 : t359 = t361
            · rw [if_pos c19] at H
              have c19b0 : (t359 == t361) = true := beq_iff_eq.mpr c19
              have c19b1 : (t359 != t361) = false := bne_eq_false_iff_eq.mpr c19
              clear c19
              (first | rw [c19b0] | (simp only [i64_w, i32_w]; rw [c19b0]) | skip)
              by_cases c20 : t359 = 0
              · rw [if_pos c20] at H
                have c20b0 : (t359 == 0) = true := beq_iff_eq.mpr c20
                have c20b1 : (t359 != 0) = false := bne_eq_false_iff_eq.mpr c20
                clear c20
                by_cases c21 : (t358 != t360) = true
                · rw [if_pos c21] at H
                  have c21b0 : (t358 != t360) = true := c21
                  (try (have c21b1 : decide (t358 = t360) = false := by simpa using c21))
                  (try (have c21b2 : (t358 == t360) = false := by simpa using c21))
                  (try (have c21b3 : ¬ (t358 = t360) := by simpa using c21))
                  clear c21
                  have H' := Aside0.mk H
                  clear H
                  go_wp2
                  go_meet
                  case rel => exact ⟨_, (true), (by first | rfl | (simp; done) | (simp [*]; done)), H', ⟨by have := HK1.out; first | omega | exact Nat.le_refl _⟩, ⟨by (with_reducible repeat (first | apply Kd.R_alloc | apply Kd.R_drewN | apply Kd.R_drew)); exact HO_6.out⟩, ⟨by repeat (first | (with_reducible first | exact HB.out | apply below_alloc | apply pw_below_drewN | apply below_drew1) | exact HB.out)⟩⟩
                · rw [if_neg c21] at H
                  have c21b0 : (t358 != t360) = false := by simpa using c21
                  (try (have c21b1 : decide (t358 = t360) = true := by simpa using c21))
                  (try (have c21b2 : (t358 == t360) = true := by simpa using c21))
                  clear c21
                  by_cases c22 : t363 = t365
                  · rw [if_pos c22] at H
                    have c22b0 : (t363 == t365) = true := beq_iff_eq.mpr c22
                    have c22b1 : (t363 != t365) = false := bne_eq_false_iff_eq.mpr c22
                    clear c22
                    by_cases c23 : t363 = 0
                    · rw [if_pos c23] at H
                      have c23b0 : (t363 == 0) = true := beq_iff_eq.mpr c23
                      have c23b1 : (t363 != 0) = false := bne_eq_false_iff_eq.mpr c23
                      clear c23
                      by_cases c24 : t362 = t364
                      · rw [if_pos c24] at H
                        have c24b0 : (t362 == t364) = true := beq_iff_eq.mpr c24
                        have c24b1 : (t362 != t364) = false := bne_eq_false_iff_eq.mpr c24
                        clear c24
                        by_cases c25 : ((decide (t364 > 0)) != t360) = true
                        · rw [if_pos c25] at H
                          have c25b0 : ((decide (t364 > 0)) != t360) = true := c25
                          (try (have c25b1 : decide ((decide (t364 > 0)) = t360) = false := by simpa using c25))
                          (try (have c25b2 : ((decide (t364 > 0)) == t360) = false := by simpa using c25))
                          (try (have c25b3 : ¬ ((decide (t364 > 0)) = t360) := by simpa using c25))
                          clear c25
                          have H' := Aside0.mk H
                          clear H
                          go_wp2
                          go_meet
                          case rel => exact ⟨_, (true), (by first | rfl | (simp; done) | (simp [*]; done)), H', ⟨by have := HK1.out; first | omega | exact Nat.le_refl _⟩, ⟨by (with_reducible repeat (first | apply Kd.R_alloc | apply Kd.R_drewN | apply Kd.R_drew)); exact HO_6.out⟩, ⟨by repeat (first | (with_reducible first | exact HB.out | apply below_alloc | apply pw_below_drewN | apply below_drew1) | exact HB.out)⟩⟩
                        · rw [if_neg c25] at H
                          have c25b0 : ((decide (t364 > 0)) != t360) = false := by simpa using c25
                          (try (have c25b1 : decide ((decide (t364 > 0)) = t360) = true := by simpa using c25))
                          (try (have c25b2 : ((decide (t364 > 0)) == t360) = true := by simpa using c25))
                          clear c25
                          have H' := Aside0.mk H
                          clear H
                          go_wp2
                          go_meet
                          case rel => exact ⟨_, (decide (t364 < 0)), (by first | rfl | (simp; done) | (simp [*]; done)), H', ⟨by have := HK1.out; first | omega | exact Nat.le_refl _⟩, ⟨by (with_reducible repeat (first | apply Kd.R_alloc | apply Kd.R_drewN | apply Kd.R_drew)); exact HO_6.out⟩, ⟨by repeat (first | (with_reducible first | exact HB.out | apply below_alloc | apply pw_below_drewN | apply below_drew1) | exact HB.out)⟩⟩
                      · rw [if_neg c24] at H
                        have c24b0 : (t362 == t364) = false := beq_eq_false_iff_ne.mpr c24
                        have c24b1 : (t362 != t364) = true := bne_iff_ne.mpr c24
                        have H' := Aside0.mk H
                        clear H
                        go_wp2
                        go_meet
                        case rel => exact ⟨_, (true), (by first | rfl | (simp; done) | (simp [*]; done)), H', ⟨by have := HK1.out; first | omega | exact Nat.le_refl _⟩, ⟨by (with_reducible repeat (first | apply Kd.R_alloc | apply Kd.R_drewN | apply Kd.R_drew)); exact HO_6.out⟩, ⟨by repeat (first | (with_reducible first | exact HB.out | apply below_alloc | apply pw_below_drewN | apply below_drew1) | exact HB.out)⟩⟩
                    · rw [if_neg c23] at H
                      have c23b0 : (t363 == 0) = false := beq_eq_false_iff_ne.mpr c23
                      have c23b1 : (t363 != 0) = true := bne_iff_ne.mpr c23
                      have H' := Aside0.mk H
                      clear H
                      go_wp2
                      go_meet
                      case rel => exact ⟨_, (true), (by first | rfl | (simp; done) | (simp [*]; done)), H', ⟨by have := HK1.out; first | omega | exact Nat.le_refl _⟩, ⟨by (with_reducible repeat (first | apply Kd.R_alloc | apply Kd.R_drewN | apply Kd.R_drew)); exact HO_6.out⟩, ⟨by repeat (first | (with_reducible first | exact HB.out | apply below_alloc | apply pw_below_drewN | apply below_drew1) | exact HB.out)⟩⟩
                  · rw [if_neg c22] at H
                    have c22b0 : (t363 == t365) = false := beq_eq_false_iff_ne.mpr c22
                    have c22b1 : (t363 != t365) = true := bne_iff_ne.mpr c22
                    have H' := Aside0.mk H
                    clear H
                    go_wp2
                    go_meet
                    case rel => exact ⟨_, (true), (by first | rfl | (simp; done) | (simp [*]; done)), H', ⟨by have := HK1.out; first | omega | exact Nat.le_refl _⟩, ⟨by (with_reducible repeat (first | apply Kd.R_alloc | apply Kd.R_drewN | apply Kd.R_drew)); exact HO_6.out⟩, ⟨by repeat (first | (with_reducible first | exact HB.out | apply below_alloc | apply pw_below_drewN | apply below_drew1) | exact HB.out)⟩⟩
              · rw [if_neg c20] at H
                have c20b0 : (t359 == 0) = false := beq_eq_false_iff_ne.mpr c20
                have c20b1 : (t359 != 0) = true := bne_iff_ne.mpr c20
                have H' := Aside0.mk H
                clear H
                go_wp2
                go_meet
                case rel => exact ⟨_, (true), (by first | rfl | (simp; done) | (simp [*]; done)), H', ⟨by have := HK1.out; first | omega | exact Nat.le_refl _⟩, ⟨by (with_reducible repeat (first | apply Kd.R_alloc | apply Kd.R_drewN | apply Kd.R_drew)); exact HO_6.out⟩, ⟨by repeat (first | (with_reducible first | exact HB.out | apply below_alloc | apply pw_below_drewN | apply below_drew1) | exact HB.out)⟩⟩
            · rw [if_neg c19] at H
              have c19b0 : (t359 == t361) = false := beq_eq_false_iff_ne.mpr c19
              have c19b1 : (t359 != t361) = true := bne_iff_ne.mpr c19
              (first | rw [c19b0] | (simp only [i64_w, i32_w]; rw [c19b0]) | skip)
              have H' := Aside0.mk H
              clear H
              go_wp2
              go_meet
              case rel => exact ⟨_, (true), (by first | rfl | (simp; done) | (simp [*]; done)), H', ⟨by have := HK1.out; first | omega | exact Nat.le_refl _⟩, ⟨by (with_reducible repeat (first | apply Kd.R_alloc | apply Kd.R_drewN | apply Kd.R_drew)); exact HO_6.out⟩, ⟨by repeat (first | (with_reducible first | exact HB.out | apply below_alloc | apply pw_below_drewN | apply below_drew1) | exact HB.out)⟩⟩
          case rest =>
            as_aux_lemma =>
            clear HC17
            try clear c1
            try clear c2
            try clear p2
            try clear c3
            try clear c4
            try clear c6
            try clear p6
            try clear c9
            try clear c9b0
            try clear c9b1
            try clear c11
            try clear c19
            try clear c19b0
            try clear c19b1
            try clear c20
            try clear c20b0
            try clear c20b1
            try clear c21
            try clear c21b0
            try clear c21b1
            try clear c21b2
            try clear c22
            try clear c22b0
            try clear c22b1
            try clear c23
            try clear c23b0
            try clear c23b1
            try clear c24
            try clear c24b0
            try clear c24b1
            try clear c25
            try clear c25b0
            try clear c25b1
            try clear c25b2
            try clear p2
            try clear p6
            obtain ⟨kq, x114_16, rfl, HA, HJ16, HO_6, HB⟩ := hcut
            cases kq with
            | zero => exact absurd HA.out (by simp [laws_FnAllowed.j1])
            | succ kj16 =>
              have H := HA.out
              clear HA
              simp only [laws_FnAllowed.j1] at H
              by_cases c26 : x114_16 = true
              · subst c26
                have H1 : (some false) = some r := by rw [if_pos rfl] at H; exact H
                clear H
                have H := H1
                clear H1
                exact absurd ((Option.some.inj H).trans HT.out) (by decide)
              · replace c26 := Bool.eq_false_iff.mpr c26
                subst c26
                have H1 : (if 0 ≤ (wrap64 ((x6_1.length : Int) - 1)) then (if (wrap64 ((x6_1.length : Int) - 1)) < (x6_1.length : Int) then (laws_FnAllowed.l1 kj16 (wrap64 (1 + t349)) x6_1 t360 (wrap64 ((wrap64 (1 + t349)) - (rd x6_1 (wrap64 ((x6_1.length : Int) - 1))))) (([] : List Int)) 0) else (none)) else (none)) = some r := by rw [if_neg (show ¬ (false = true) by decide)] at H; exact H
                clear H
                have H := H1
                clear H1
                obtain ⟨ji27, hji27⟩ : ∃ j_ : Int, (wrap64 ((x6_1.length : Int) - 1)) = j_ := ⟨_, rfl⟩
                replace H : (if 0 ≤ (ji27) then (if (ji27) < (x6_1.length : Int) then (laws_FnAllowed.l1 kj16 (wrap64 (1 + t349)) x6_1 t360 (wrap64 ((wrap64 (1 + t349)) - (rd x6_1 (ji27)))) (([] : List Int)) 0) else (none)) else (none)) = some r := by first | (rw [hji27] at H; exact H) | (simp only [hji27] at H ⊢; exact H)
                have hji27w : (IntKind.i64.wrap ((x6_1.length : Int) - 1)) = ji27 := (i64_w _).trans hji27
                by_cases c28 : 0 ≤ (ji27)
                · rw [if_pos c28] at H
                  have c28b0 : decide (0 ≤ (ji27)) = true := decide_eq_true c28
                  clear c28
                  by_cases c29 : (ji27) < (x6_1.length : Int)
                  · rw [if_pos c29] at H
                    have c29b0 : decide ((ji27) < (x6_1.length : Int)) = true := decide_eq_true c29
                    clear c29
                    obtain ⟨y367, hy367⟩ : ∃ y_ : List Int, y_ = (([] : List Int)) := ⟨_, rfl⟩
                    replace H : (laws_FnAllowed.l1 kj16 (wrap64 (1 + t349)) x6_1 t360 (wrap64 ((wrap64 (1 + t349)) - (rd x6_1 (ji27)))) y367 0) = some r := by first | (rw [hy367]; with_reducible exact H) | (have H2_ := (Option.bind_some _ _).symm.trans H; rw [hy367]; with_reducible exact H2_) | (have H2_ := (Option.bind_some _ _).symm.trans H; with_reducible exact H2_) | with_reducible exact H | (rw [hy367]; exact H) | exact H
                    have Ny367 := Aside0.mk hy367
                    clear hy367
                    have H' := Aside0.mk H
                    clear H
                    have p366 : 0 ≤ ((ji27) : Int) := of_decide_eq_true (by first | (with_reducible assumption) | assumption)
                    have q366 : (ji27) < (x6_1.length : Int) := of_decide_eq_true (by first | (with_reducible assumption) | assumption)
                    obtain ⟨ad366, e366, hx366_0⟩ := Kd.at_int (Kd.R_reads' HO_6.out).2.2 (ji27) p366 q366
                    cases e366
                    replace p366 := eq_true p366
                    replace q366 := eq_true q366
                    go_wp2_with (first | ((with_reducible refine gate_dst (N := 123) rfl ?_); (try (refine gate_guard (by rfl) ?_; dsimp only)); refine Kd.R_lit (Kd.int .i64) _ 2 ?hg (N := 123) ?hd (xs := ([] : List Int)) (inner := []) (ok := fun _ => True) (okp := fun _ => True) ?hr ?hp (fun _ hk => hk) trivial (Below.refl _ _) (Nat.le_refl _) (by simp) ?_; (case hd => rfl); (case hg => rfl); (case hr => first | (go_simp; done) | (go_simp; rfl)); (case hp => exact (Reps.none _ _)); intro v368 w30 ho31 hb hg_ hnew_; clear hg_ hnew_; (first | rw [← Ny367.out] at ho31 | (simp only [Int.reduceToNat] at ho31; rw [← Ny367.out] at ho31)); have n0_ := Aside0.mk (Kd.R_elder' (by (with_reducible repeat (first | apply Kd.R_alloc | apply Kd.R_drewN | apply Kd.R_drew)); exact HO_6.out) (Kd.R_base ho31) hb); have n1_ := Aside0.mk (Kd.R_lower (Kd.R_new' ho31 (Kd.R_lt (by (with_reducible repeat (first | apply Kd.R_alloc | apply Kd.R_drewN | apply Kd.R_drew)); exact HO_6.out))) (below_size (by repeat (first | (with_reducible first | exact HB.out | apply below_alloc | apply pw_below_drewN | apply below_drew1) | exact HB.out)))); have n2_ := Aside0.mk (below_step (by repeat (first | (with_reducible first | exact HB.out | apply below_alloc | apply pw_below_drewN | apply below_drew1) | exact HB.out)) hb); clear HO_6; clear HB; have HO_6 := n0_; have HO369 := n1_; have HB := n2_; clear n0_ n1_ n2_; clear hb ho31))
                    go_loopg [17, 18] kj16 (fun kq v17 v18 w' => ∃ (x17_3 : List Int) (x18_3 : Int), v18 = .int .i64 x18_3 ∧ Aside0 (laws_FnAllowed.l1 kq (wrap64 (1 + t349)) x6_1 t360 (wrap64 ((wrap64 (1 + t349)) - (rd x6_1 (ji27)))) x17_3 x18_3 = some r) ∧ Aside0 (kq ≤ kj16) ∧ Aside0 (Kd.R (Kd.int .i64) 2 w' w.heap.size (fun k_ => some k_ ≠ (v17 : Value).ownBlock) (.slice (some ad366) x6_1.length co18) x6_1) ∧ Aside0 (Kd.R (Kd.int .i64) 2 w' w.heap.size (fun k_ => some k_ ≠ ((.slice (some ad366) x6_1.length co18) : Value).ownBlock) v17 x17_3) ∧ Aside0 (Below w.heap.size w w'))
                    case atStart => exact ⟨(y367), (0), (by first | rfl | (simp; done) | (simp [*]; done)), H', ⟨Nat.le_refl _⟩, ⟨by (with_reducible repeat (first | apply Kd.R_alloc | apply Kd.R_drewN | apply Kd.R_drew)); exact Kd.R_mono HO_6.out (fun _ hk => hk.2)⟩, ⟨by (with_reducible repeat (first | apply Kd.R_alloc | apply Kd.R_drewN | apply Kd.R_drew)); exact Kd.R_mono HO369.out (fun _ hk => hk.2)⟩, ⟨by repeat (first | (with_reducible first | exact HB.out | apply below_alloc | apply pw_below_drewN | apply below_drew1) | exact HB.out)⟩⟩
                    case round =>
                      as_aux_lemma =>
                      clear H'
                      try clear c1
                      try clear c2
                      try clear p2
                      try clear c3
                      try clear p3
                      try clear q3
                      try clear hx3
                      try clear c4
                      try clear c6
                      try clear p6
                      try clear c9
                      try clear c9b0
                      try clear c9b1
                      try clear c11
                      try clear c19
                      try clear c19b0
                      try clear c19b1
                      try clear c20
                      try clear c20b0
                      try clear c20b1
                      try clear c21
                      try clear c21b0
                      try clear c21b1
                      try clear c21b2
                      try clear c22
                      try clear c22b0
                      try clear c22b1
                      try clear c23
                      try clear c23b0
                      try clear c23b1
                      try clear c24
                      try clear c24b0
                      try clear c24b1
                      try clear c25
                      try clear c25b0
                      try clear c25b1
                      try clear c25b2
                      try clear c26
                      try clear c28
                      try clear c28b0
                      try clear c29
                      try clear c29b0
                      try clear hx366_0
                      try clear p2
                      try clear p366
                      try clear p6
                      try clear q366
                      obtain ⟨x17_3, x18_3, rfl, HA, HK3, HO_6, HO_17, HB⟩ := hrel
                      cases gk with
                      | zero => exact absurd HA.out (by simp [laws_FnAllowed.l1])
                      | succ k3 =>
                        have H := HA.out
                        clear HA
                        simp only [laws_FnAllowed.l1] at H
                        by_cases c32 : x18_3 < (wrap64 ((wrap64 (1 + t349)) - (rd x6_1 (ji27))))
                        · rw [if_pos c32] at H
                          have c32b0 : decide (x18_3 < (wrap64 ((wrap64 (1 + t349)) - (rd x6_1 (ji27))))) = true := decide_eq_true c32
                          (try (have c32b1 : decide (x18_3 < (IntKind.i64.wrap ((IntKind.i64.wrap (1 + t349)) - (rd x6_1 (ji27))))) = true := by first | simpa only [i64_w, i32_w] using (show decide (x18_3 < (wrap64 ((wrap64 (1 + t349)) - (rd x6_1 (ji27))))) = true from decide_eq_true c32) | simpa only [i64_w] using (show decide (x18_3 < (wrap64 ((wrap64 (1 + t349)) - (rd x6_1 (ji27))))) = true from decide_eq_true c32)))
                          clear c32
                          by_cases c33 : x17_3.length < 17592186044416
                          · rw [if_pos c33] at H
                            have LMc33 := Aside0.mk c33
                            clear c33
                            obtain ⟨y370, hy370⟩ : ∃ y_ : List Int, y_ = (x17_3 ++ [wrap64 ((wrap64 ((wrap64 (1 + t349)) - 1)) - x18_3)]) := ⟨_, rfl⟩
                            replace H : (laws_FnAllowed.l1 k3 (wrap64 (1 + t349)) x6_1 t360 (wrap64 ((wrap64 (1 + t349)) - (rd x6_1 (ji27)))) y370 (wrap64 (x18_3 + 1))) = some r := by first | (rw [hy370]; with_reducible exact H) | (have H2_ := (Option.bind_some _ _).symm.trans H; rw [hy370]; with_reducible exact H2_) | (have H2_ := (Option.bind_some _ _).symm.trans H; with_reducible exact H2_) | with_reducible exact H | (rw [hy370]; exact H) | exact H
                            have Ny370 := Aside0.mk hy370
                            clear hy370
                            have H' := Aside0.mk H
                            clear H
                            go_wp2_with (first | ((with_reducible refine gate_builtin (b := .append) (xs := #[.tmp 129, .tmp 134]) rfl ?_); (try (refine gate_guard (by rfl) ?_; dsimp only)); at_builtin; refine Kd.R_append (Kd.int .i64) (w0 := w) w.heap.size rfl (.tmp 129) (.tmp 134) 38 2 (.int .i64 0) 8 rfl Try.underlying38 info2 rfl (by decide) (by omega) u17 x17_3 (wrap64 ((wrap64 ((wrap64 (1 + t349)) - 1)) - x18_3)) [.int .i64 (wrap64 ((wrap64 ((wrap64 (1 + t349)) - 1)) - x18_3))] (fun k_ => some k_ ≠ (.slice (some ad366) x6_1.length co18 : Value).ownBlock) (fun _ => False) rfl rfl ?aP (fun _ hk => hk.elim) ?aF ?aO ?aB ?aS ?aL ?_; (case aP => exact rfl); (case aB => exact (by repeat (first | (with_reducible first | exact HB.out | apply below_alloc | apply pw_below_drewN | apply below_drew1) | exact HB.out))); (case aF => exact (fun k_ hk => Kd.fresh' (Kd.R_lt (by (with_reducible repeat (first | apply Kd.R_alloc | apply Kd.R_drewN | apply Kd.R_drew)); exact HO_6.out)) k_ hk)); (case aO => exact (by (with_reducible repeat (first | apply Kd.R_alloc | apply Kd.R_drewN | apply Kd.R_drew)); exact HO_17.out)); (case aS => exact (below_size (by repeat (first | (with_reducible first | exact HB.out | apply below_alloc | apply pw_below_drewN | apply below_drew1) | exact HB.out)))); (case aL => have := LMc33.out; omega); intro v371 w34 ho hb hg hat; rw [← Ny370.out] at ho; have n0_ := Aside0.mk (Kd.R_after (ok := (fun _ => True)) (by (with_reducible repeat (first | apply Kd.R_alloc | apply Kd.R_drewN | apply Kd.R_drew)); exact Kd.R_mono HO_6.out (fun _ hk => ⟨trivial, hk⟩)) hg hat); have n1_ := Aside0.mk (hb); have n2_ := Aside0.mk (ho); clear HO_6; clear HB; clear HO_17; have HO_6 := n0_; have HB := n1_; have HO372 := n2_; clear n0_ n1_ n2_; clear ho hb hg hat))
                            go_roundg k3
                            case measure => have := HK1.out; have := HJ16.out; have := HK3.out; omega
                            case rel => exact ⟨(y370), (wrap64 (x18_3 + 1)), (by first | rfl | (simp; done) | (simp [*]; done)), H', ⟨by have := HK1.out; have := HJ16.out; have := HK3.out; omega⟩, ⟨by (with_reducible repeat (first | apply Kd.R_alloc | apply Kd.R_drewN | apply Kd.R_drew)); exact Kd.R_mono HO_6.out (fun _ hk => hk.2)⟩, ⟨by (with_reducible repeat (first | apply Kd.R_alloc | apply Kd.R_drewN | apply Kd.R_drew)); exact HO372.out⟩, ⟨by repeat (first | (with_reducible first | exact HB.out | apply below_alloc | apply pw_below_drewN | apply below_drew1) | exact HB.out)⟩⟩
                          · rw [if_neg c33] at H
                            exact absurd H (by simp)
                        · rw [if_neg c32] at H
                          have c32b0 : decide (x18_3 < (wrap64 ((wrap64 (1 + t349)) - (rd x6_1 (ji27))))) = false := decide_eq_false c32
                          (try (have c32b1 : decide (x18_3 < (IntKind.i64.wrap ((IntKind.i64.wrap (1 + t349)) - (rd x6_1 (ji27))))) = false := by first | simpa only [i64_w, i32_w] using (show decide (x18_3 < (wrap64 ((wrap64 (1 + t349)) - (rd x6_1 (ji27))))) = false from decide_eq_false c32) | simpa only [i64_w] using (show decide (x18_3 < (wrap64 ((wrap64 (1 + t349)) - (rd x6_1 (ji27))))) = false from decide_eq_false c32)))
                          clear c32
                          replace H := Option.bind_eq_some_iff.mp H
                          obtain ⟨⟨t373, t374⟩, A350, H⟩ := H
                          replace H : ((impl_FirstPossible.f k3 (wrap64 (1 + t349)) x6_1 t373).bind fun bt375 => ((spec_FirstPossible.f k3 (wrap64 (1 + t349)) x6_1 t373).bind fun bt379 => (if t374 = 0 then (if bt375.2 = bt379.2 then ((spec_A2SamePeople.f k3 bt375.1 bt379.1).bind fun t383 => (if t383 = true then (laws_FnAllowed.j3 k3 (wrap64 (1 + t349)) x6_1 (wrap64 ((wrap64 (1 + t349)) - (rd x6_1 (ji27)))) bt375.2 bt379.1 ((bt375.2 == 0) != t360)) else (laws_FnAllowed.j3 k3 (wrap64 (1 + t349)) x6_1 (wrap64 ((wrap64 (1 + t349)) - (rd x6_1 (ji27)))) bt375.2 bt379.1 true))) else (laws_FnAllowed.j3 k3 (wrap64 (1 + t349)) x6_1 (wrap64 ((wrap64 (1 + t349)) - (rd x6_1 (ji27)))) bt375.2 bt379.1 true)) else (laws_FnAllowed.j3 k3 (wrap64 (1 + t349)) x6_1 (wrap64 ((wrap64 (1 + t349)) - (rd x6_1 (ji27)))) bt375.2 bt379.1 true)))) = some r := H
                          have A35 := Aside0.mk A350
                          clear A350
                          replace H := Option.bind_eq_some_iff.mp H
                          obtain ⟨⟨t375, t376⟩, A360, H⟩ := H
                          replace H : ((spec_FirstPossible.f k3 (wrap64 (1 + t349)) x6_1 t373).bind fun bt379 => (if t374 = 0 then (if t376 = bt379.2 then ((spec_A2SamePeople.f k3 t375 bt379.1).bind fun t383 => (if t383 = true then (laws_FnAllowed.j3 k3 (wrap64 (1 + t349)) x6_1 (wrap64 ((wrap64 (1 + t349)) - (rd x6_1 (ji27)))) t376 bt379.1 ((t376 == 0) != t360)) else (laws_FnAllowed.j3 k3 (wrap64 (1 + t349)) x6_1 (wrap64 ((wrap64 (1 + t349)) - (rd x6_1 (ji27)))) t376 bt379.1 true))) else (laws_FnAllowed.j3 k3 (wrap64 (1 + t349)) x6_1 (wrap64 ((wrap64 (1 + t349)) - (rd x6_1 (ji27)))) t376 bt379.1 true)) else (laws_FnAllowed.j3 k3 (wrap64 (1 + t349)) x6_1 (wrap64 ((wrap64 (1 + t349)) - (rd x6_1 (ji27)))) t376 bt379.1 true))) = some r := H
                          have A36 := Aside0.mk A360
                          clear A360
                          replace H := Option.bind_eq_some_iff.mp H
                          obtain ⟨⟨t379, t380⟩, A370, H⟩ := H
                          replace H : (if t374 = 0 then (if t376 = t380 then ((spec_A2SamePeople.f k3 t375 t379).bind fun t383 => (if t383 = true then (laws_FnAllowed.j3 k3 (wrap64 (1 + t349)) x6_1 (wrap64 ((wrap64 (1 + t349)) - (rd x6_1 (ji27)))) t376 t379 ((t376 == 0) != t360)) else (laws_FnAllowed.j3 k3 (wrap64 (1 + t349)) x6_1 (wrap64 ((wrap64 (1 + t349)) - (rd x6_1 (ji27)))) t376 t379 true))) else (laws_FnAllowed.j3 k3 (wrap64 (1 + t349)) x6_1 (wrap64 ((wrap64 (1 + t349)) - (rd x6_1 (ji27)))) t376 t379 true)) else (laws_FnAllowed.j3 k3 (wrap64 (1 + t349)) x6_1 (wrap64 ((wrap64 (1 + t349)) - (rd x6_1 (ji27)))) t376 t379 true)) = some r := H
                          have A37 := Aside0.mk A370
                          clear A370
                          have HC38 := Aside0.mk H
                          clear H
                          obtain ⟨Ao39, co39, eo39⟩ := Kd.R_slice HO_17.out
                          subst eo39
                          go_upto_region 24 with (first | ((with_reducible refine gate_callee (f := 41) rfl ?_); refine goesL_ (some 138) rfl rfl Try.func41 (by kernel_rfl) rfl #[.slice Ao39 x17_3.length co39] rfl (by (try simp only [List.map_toArray, List.map_cons, List.map_nil]); first | done | rfl | (simp only [List.length_drop, List.length_take]; rfl)) ?_; (with_reducible refine (spec_PeopleOf.calls k3 _ _ x17_3 t373 t374 _ ?side1 ?side2 A35.out).mono ?_); (case side1 => repeat (first | exact (Kd.R_reads' HO_17.out).2.2 | (with_reducible refine Kd.C_alloc ?_ _) | (with_reducible refine Kd.C_drewN ?_ _) | (with_reducible refine Kd.C_drew ?_))); (case side2 => exact (Kd.R_reads' HO_17.out).2.1); rintro e w' ⟨rfl, ⟨nd, rfl⟩⟩; refine ⟨_, rfl, ?_⟩) | ((with_reducible refine gate_callee (f := 42) rfl ?_); refine goesL_ (some 145) rfl rfl Try.func42 (by kernel_rfl) rfl #[.int .i64 (wrap64 (1 + t349)), .slice (some ad366) x6_1.length co18, .int .u16 t373] rfl (by (try simp only [List.map_toArray, List.map_cons, List.map_nil]); first | done | rfl | (simp only [List.length_drop, List.length_take]; rfl)) ?_; (with_reducible refine (impl_FirstPossible.calls k3 (wrap64 (1 + t349)) _ _ x6_1 t373 t375 t376 _ ?side1 ?side2 A36.out).mono ?_); (case side1 => repeat (first | exact (Kd.R_reads' HO_6.out).2.2 | (with_reducible refine Kd.C_alloc ?_ _) | (with_reducible refine Kd.C_drewN ?_ _) | (with_reducible refine Kd.C_drew ?_))); (case side2 => exact (Kd.R_reads' HO_6.out).2.1); rintro e w40 ⟨v377, rfl, ho0, hb⟩; refine ⟨_, rfl, ?_⟩; have n0_ := Aside0.mk (Kd.R_below (by (with_reducible repeat (first | apply Kd.R_alloc | apply Kd.R_drewN | apply Kd.R_drew)); exact HO_6.out) hb); have n1_ := Aside0.mk (Kd.R_below (by (with_reducible repeat (first | apply Kd.R_alloc | apply Kd.R_drewN | apply Kd.R_drew)); exact HO_17.out) hb); have n2_ := Aside0.mk (Kd.R_lower ho0 (below_size (by repeat (first | (with_reducible first | exact HB.out | apply below_alloc | apply pw_below_drewN | apply below_drew1) | exact HB.out)))); have n3_ := Aside0.mk (below_step (by repeat (first | (with_reducible first | exact HB.out | apply below_alloc | apply pw_below_drewN | apply below_drew1) | exact HB.out)) hb); clear HO_6; clear HO_17; clear HB; have HO_6 := n0_; have HO_17 := n1_; have HO378 := n2_; have HB := n3_; clear n0_ n1_ n2_ n3_; (try clear hb); (try clear hb2); (try clear hk); (try clear hi); (try clear ho0)) | ((with_reducible refine gate_callee (f := 43) rfl ?_); refine goesL_ (some 152) rfl rfl Try.func43 (by kernel_rfl) rfl #[.int .i64 (wrap64 (1 + t349)), .slice (some ad366) x6_1.length co18, .int .u16 t373] rfl (by (try simp only [List.map_toArray, List.map_cons, List.map_nil]); first | done | rfl | (simp only [List.length_drop, List.length_take]; rfl)) ?_; (with_reducible refine (spec_FirstPossible.calls k3 (wrap64 (1 + t349)) _ _ x6_1 t373 t379 t380 _ ?side1 ?side2 A37.out).mono ?_); (case side1 => repeat (first | exact (Kd.R_reads' HO_6.out).2.2 | (with_reducible refine Kd.C_alloc ?_ _) | (with_reducible refine Kd.C_drewN ?_ _) | (with_reducible refine Kd.C_drew ?_))); (case side2 => exact (Kd.R_reads' HO_6.out).2.1); rintro e w41 ⟨v381, rfl, ho0, hb⟩; refine ⟨_, rfl, ?_⟩; have n0_ := Aside0.mk (Kd.R_below (by (with_reducible repeat (first | apply Kd.R_alloc | apply Kd.R_drewN | apply Kd.R_drew)); exact HO_6.out) hb); have n1_ := Aside0.mk (Kd.R_below (by (with_reducible repeat (first | apply Kd.R_alloc | apply Kd.R_drewN | apply Kd.R_drew)); exact HO_17.out) hb); have n2_ := Aside0.mk (Kd.R_elder' (by (with_reducible repeat (first | apply Kd.R_alloc | apply Kd.R_drewN | apply Kd.R_drew)); exact HO378.out) (Kd.R_base ho0) hb); have n3_ := Aside0.mk (Kd.R_lower (Kd.R_new' ho0 (Kd.R_lt (by (with_reducible repeat (first | apply Kd.R_alloc | apply Kd.R_drewN | apply Kd.R_drew)); exact HO378.out))) (below_size (by repeat (first | (with_reducible first | exact HB.out | apply below_alloc | apply pw_below_drewN | apply below_drew1) | exact HB.out)))); have n4_ := Aside0.mk (below_step (by repeat (first | (with_reducible first | exact HB.out | apply below_alloc | apply pw_below_drewN | apply below_drew1) | exact HB.out)) hb); clear HO_6; clear HO_17; clear HO378; clear HB; have HO_6 := n0_; have HO_17 := n1_; have HO378 := n2_; have HO382 := n3_; have HB := n4_; clear n0_ n1_ n2_ n3_ n4_; (try clear hb); (try clear hb2); (try clear hk); (try clear hi); (try clear ho0)))
                          (try simp only [Act.put, List.setIfInBounds_toArray, List.set_cons_zero, List.set_cons_succ])
                          go_cut [173] (fun v173 wc => ∃ (kq : Nat) (x173_37 : Bool), v173 = .bool x173_37 ∧ Aside0 (laws_FnAllowed.j3 kq (wrap64 (1 + t349)) x6_1 (wrap64 ((wrap64 (1 + t349)) - (rd x6_1 (ji27)))) t376 t379 x173_37 = some r) ∧ Aside0 (kq ≤ k3) ∧ Aside0 (Kd.R (Kd.int .i64) 2 wc w.heap.size (fun _ => True) (.slice (some ad366) x6_1.length co18) x6_1) ∧ Aside0 (Kd.R (Kd.int .u16) 70 wc w.heap.size (fun _ => True) v381 t379) ∧ Aside0 (Below w.heap.size w wc))
                          case first =>
                            as_aux_lemma =>
                            have H := HC38.out
                            clear HC38
                            by_cases c42 : t374 = 0
                            · rw [if_pos c42] at H
                              have c42b0 : (t374 == 0) = true := beq_iff_eq.mpr c42
                              have c42b1 : (t374 != 0) = false := bne_eq_false_iff_eq.mpr c42
                              clear c42
                              (first | rw [c42b0] | (simp only [i64_w, i32_w]; rw [c42b0]) | skip)
                              by_cases c43 : t376 = t380
                              · rw [if_pos c43] at H
                                have c43b0 : (t376 == t380) = true := beq_iff_eq.mpr c43
                                have c43b1 : (t376 != t380) = false := bne_eq_false_iff_eq.mpr c43
                                clear c43
                                replace H := Option.bind_eq_some_iff.mp H
                                obtain ⟨t383, A440, H⟩ := H
                                replace H : (if t383 = true then (laws_FnAllowed.j3 k3 (wrap64 (1 + t349)) x6_1 (wrap64 ((wrap64 (1 + t349)) - (rd x6_1 (ji27)))) t376 t379 ((t376 == 0) != t360)) else (laws_FnAllowed.j3 k3 (wrap64 (1 + t349)) x6_1 (wrap64 ((wrap64 (1 + t349)) - (rd x6_1 (ji27)))) t376 t379 true)) = some r := H
                                have A44 := Aside0.mk A440
                                clear A440
                                by_cases c45 : t383 = true
                                · subst c45
                                  have H1 : (laws_FnAllowed.j3 k3 (wrap64 (1 + t349)) x6_1 (wrap64 ((wrap64 (1 + t349)) - (rd x6_1 (ji27)))) t376 t379 ((t376 == 0) != t360)) = some r := by rw [if_pos rfl] at H; exact H
                                  clear H
                                  have H := H1
                                  clear H1
                                  have H' := Aside0.mk H
                                  clear H
                                  obtain ⟨Ao46, co46, eo46⟩ := Kd.R_slice HO378.out
                                  subst eo46
                                  obtain ⟨Ao47, co47, eo47⟩ := Kd.R_slice HO382.out
                                  subst eo47
                                  go_wp2_with (first | (go_at_call 44; (with_reducible refine (spec_A2SamePeople.calls k3 _ _ t375 _ _ t379 true _ ?side1 ?side2 ?side3 ?side4 A44.out).mono ?_); (case side1 => repeat (first | exact (Kd.R_reads' HO378.out).2.2 | (with_reducible refine Kd.C_alloc ?_ _) | (with_reducible refine Kd.C_drewN ?_ _) | (with_reducible refine Kd.C_drew ?_))); (case side2 => exact (Kd.R_reads' HO378.out).2.1); (case side3 => repeat (first | exact (Kd.R_reads' HO382.out).2.2 | (with_reducible refine Kd.C_alloc ?_ _) | (with_reducible refine Kd.C_drewN ?_ _) | (with_reducible refine Kd.C_drew ?_))); (case side4 => exact (Kd.R_reads' HO382.out).2.1); rintro e w' ⟨rfl, ⟨nd, rfl⟩⟩))
                                  go_meet
                                  case rel => exact ⟨_, (((t376 == 0) != t360)), (by first | rfl | (simp; done) | (simp [*]; done)), H', ⟨by have := HK1.out; have := HJ16.out; have := HK3.out; first | omega | exact Nat.le_refl _⟩, ⟨by (with_reducible repeat (first | apply Kd.R_alloc | apply Kd.R_drewN | apply Kd.R_drew)); exact Kd.R_mono HO_6.out (fun _ hk => trivial)⟩, ⟨by (with_reducible repeat (first | apply Kd.R_alloc | apply Kd.R_drewN | apply Kd.R_drew)); exact Kd.R_mono HO382.out (fun _ hk => trivial)⟩, ⟨by repeat (first | (with_reducible first | exact HB.out | apply below_alloc | apply pw_below_drewN | apply below_drew1) | exact HB.out)⟩⟩
                                · replace c45 := Bool.eq_false_iff.mpr c45
                                  subst c45
                                  have H1 : (laws_FnAllowed.j3 k3 (wrap64 (1 + t349)) x6_1 (wrap64 ((wrap64 (1 + t349)) - (rd x6_1 (ji27)))) t376 t379 true) = some r := by rw [if_neg (show ¬ (false = true) by decide)] at H; exact H
                                  clear H
                                  have H := H1
                                  clear H1
                                  have H' := Aside0.mk H
                                  clear H
                                  obtain ⟨Ao48, co48, eo48⟩ := Kd.R_slice HO378.out
                                  subst eo48
                                  obtain ⟨Ao49, co49, eo49⟩ := Kd.R_slice HO382.out
                                  subst eo49
                                  go_wp2_with (first | (go_at_call 44; (with_reducible refine (spec_A2SamePeople.calls k3 _ _ t375 _ _ t379 false _ ?side1 ?side2 ?side3 ?side4 A44.out).mono ?_); (case side1 => repeat (first | exact (Kd.R_reads' HO378.out).2.2 | (with_reducible refine Kd.C_alloc ?_ _) | (with_reducible refine Kd.C_drewN ?_ _) | (with_reducible refine Kd.C_drew ?_))); (case side2 => exact (Kd.R_reads' HO378.out).2.1); (case side3 => repeat (first | exact (Kd.R_reads' HO382.out).2.2 | (with_reducible refine Kd.C_alloc ?_ _) | (with_reducible refine Kd.C_drewN ?_ _) | (with_reducible refine Kd.C_drew ?_))); (case side4 => exact (Kd.R_reads' HO382.out).2.1); rintro e w' ⟨rfl, ⟨nd, rfl⟩⟩))
                                  go_meet
                                  case rel => exact ⟨_, (true), (by first | rfl | (simp; done) | (simp [*]; done)), H', ⟨by have := HK1.out; have := HJ16.out; have := HK3.out; first | omega | exact Nat.le_refl _⟩, ⟨by (with_reducible repeat (first | apply Kd.R_alloc | apply Kd.R_drewN | apply Kd.R_drew)); exact Kd.R_mono HO_6.out (fun _ hk => trivial)⟩, ⟨by (with_reducible repeat (first | apply Kd.R_alloc | apply Kd.R_drewN | apply Kd.R_drew)); exact Kd.R_mono HO382.out (fun _ hk => trivial)⟩, ⟨by repeat (first | (with_reducible first | exact HB.out | apply below_alloc | apply pw_below_drewN | apply below_drew1) | exact HB.out)⟩⟩
                              · rw [if_neg c43] at H
                                have c43b0 : (t376 == t380) = false := beq_eq_false_iff_ne.mpr c43
                                have c43b1 : (t376 != t380) = true := bne_iff_ne.mpr c43
                                have H' := Aside0.mk H
                                clear H
                                go_wp2
                                go_meet
                                case rel => exact ⟨_, (true), (by first | rfl | (simp; done) | (simp [*]; done)), H', ⟨by have := HK1.out; have := HJ16.out; have := HK3.out; first | omega | exact Nat.le_refl _⟩, ⟨by (with_reducible repeat (first | apply Kd.R_alloc | apply Kd.R_drewN | apply Kd.R_drew)); exact Kd.R_mono HO_6.out (fun _ hk => trivial)⟩, ⟨by (with_reducible repeat (first | apply Kd.R_alloc | apply Kd.R_drewN | apply Kd.R_drew)); exact Kd.R_mono HO382.out (fun _ hk => trivial)⟩, ⟨by repeat (first | (with_reducible first | exact HB.out | apply below_alloc | apply pw_below_drewN | apply below_drew1) | exact HB.out)⟩⟩
                            · rw [if_neg c42] at H
                              have c42b0 : (t374 == 0) = false := beq_eq_false_iff_ne.mpr c42
                              have c42b1 : (t374 != 0) = true := bne_iff_ne.mpr c42
                              (first | rw [c42b0] | (simp only [i64_w, i32_w]; rw [c42b0]) | skip)
                              have H' := Aside0.mk H
                              clear H
                              go_wp2
                              go_meet
                              case rel => exact ⟨_, (true), (by first | rfl | (simp; done) | (simp [*]; done)), H', ⟨by have := HK1.out; have := HJ16.out; have := HK3.out; first | omega | exact Nat.le_refl _⟩, ⟨by (with_reducible repeat (first | apply Kd.R_alloc | apply Kd.R_drewN | apply Kd.R_drew)); exact Kd.R_mono HO_6.out (fun _ hk => trivial)⟩, ⟨by (with_reducible repeat (first | apply Kd.R_alloc | apply Kd.R_drewN | apply Kd.R_drew)); exact Kd.R_mono HO382.out (fun _ hk => trivial)⟩, ⟨by repeat (first | (with_reducible first | exact HB.out | apply below_alloc | apply pw_below_drewN | apply below_drew1) | exact HB.out)⟩⟩
                          case rest =>
                            as_aux_lemma =>
                            clear HC38
                            try clear c1
                            try clear c2
                            try clear p2
                            try clear c3
                            try clear p3
                            try clear q3
                            try clear hx3
                            try clear c4
                            try clear c6
                            try clear p6
                            try clear c9
                            try clear c9b0
                            try clear c9b1
                            try clear c11
                            try clear c19
                            try clear c19b0
                            try clear c19b1
                            try clear c20
                            try clear c20b0
                            try clear c20b1
                            try clear c21
                            try clear c21b0
                            try clear c21b1
                            try clear c21b2
                            try clear c22
                            try clear c22b0
                            try clear c22b1
                            try clear c23
                            try clear c23b0
                            try clear c23b1
                            try clear c24
                            try clear c24b0
                            try clear c24b1
                            try clear c25
                            try clear c25b0
                            try clear c25b1
                            try clear c25b2
                            try clear c26
                            try clear c28
                            try clear c28b0
                            try clear c29
                            try clear c29b0
                            try clear c32
                            try clear c32b0
                            try clear c32b1
                            try clear c33
                            try clear c35
                            try clear c36
                            try clear p36
                            try clear q36
                            try clear hx36
                            try clear c37
                            try clear c38
                            try clear c39
                            try clear c40
                            try clear c41
                            try clear c42
                            try clear c42b0
                            try clear c42b1
                            try clear c43
                            try clear c43b0
                            try clear c43b1
                            try clear c45
                            try clear hx366_0
                            try clear p2
                            try clear p3
                            try clear p366
                            try clear p6
                            try clear q3
                            try clear q366
                            obtain ⟨kq, x173_37, rfl, HA, HJ37, HO_6, HO_23, HB⟩ := hcut
                            cases kq with
                            | zero => exact absurd HA.out (by simp [laws_FnAllowed.j3])
                            | succ kj37 =>
                              have H := HA.out
                              clear HA
                              simp only [laws_FnAllowed.j3] at H
                              by_cases c50 : x173_37 = true
                              · subst c50
                                have H1 : (some false) = some r := by rw [if_pos rfl] at H; exact H
                                clear H
                                have H := H1
                                clear H1
                                exact absurd ((Option.some.inj H).trans HT.out) (by decide)
                              · replace c50 := Bool.eq_false_iff.mpr c50
                                subst c50
                                have H1 : (if t376 = 0 then (laws_FnAllowed.l2 kj37 x6_1 (wrap64 ((wrap64 (1 + t349)) - (rd x6_1 (ji27)))) t379 0 (wrap64 (1 + t349)) t379 ([] : List Int)) else (some (t376 == 4))) = some r := by rw [if_neg (show ¬ (false = true) by decide)] at H; exact H
                                clear H
                                have H := H1
                                clear H1
                                by_cases c51 : t376 = 0
                                · rw [if_pos c51] at H
                                  have c51b0 : (t376 == 0) = true := beq_iff_eq.mpr c51
                                  have c51b1 : (t376 != 0) = false := bne_eq_false_iff_eq.mpr c51
                                  clear c51
                                  have H' := Aside0.mk H
                                  clear H
                                  obtain ⟨Ao52, co52, eo52⟩ := Kd.R_slice HO_23.out
                                  subst eo52
                                  go_wp2_with (first | ((with_reducible refine gate_dst (N := 25) rfl ?_); (try (refine gate_guard (by rfl) ?_; dsimp only)); refine box_event ?hg (N := 25) ?hd (cs := #[.int .i64 0, .slice none 0 0, .slice none 0 0]) (t := 78) ?hr ?_; (case hd => rfl); (case hg => rfl); (case hr => first | (go_simp; done) | (go_simp; rfl)); intro gb384 hg w53 hbox hb; have n0_ := Aside0.mk (Kd.R_below (by (with_reducible repeat (first | apply Kd.R_alloc | apply Kd.R_drewN | apply Kd.R_drew)); exact HO_6.out) hb); have n1_ := Aside0.mk (Kd.R_below (by (with_reducible repeat (first | apply Kd.R_alloc | apply Kd.R_drewN | apply Kd.R_drew)); exact HO_23.out) hb); have n2_ := Aside0.mk (below_step (by repeat (first | (with_reducible first | exact HB.out | apply below_alloc | apply pw_below_drewN | apply below_drew1) | exact HB.out)) hb); have n3_ := Aside0.mk (hbox); have n4_ := Aside0.mk ((by rw [hg]; exact (below_size (by repeat (first | (with_reducible first | exact HB.out | apply below_alloc | apply pw_below_drewN | apply below_drew1) | exact HB.out))) : w.heap.size ≤ gb384)); have n5_ := Aside0.mk ((by rw [hg]; exact (below_size (by repeat (first | (with_reducible first | exact HB.out | apply below_alloc | apply pw_below_drewN | apply below_drew1) | exact HB.out))) : w.heap.size ≤ gb384)); clear HO_6; clear HO_23; clear HB; have HO_6 := n0_; have HO_23 := n1_; have HB := n2_; have BK384 := n3_; have GW384 := n4_; have GE384 := n5_; clear n0_ n1_ n2_ n3_ n4_ n5_; clear hb hbox hg; have hcz54_0 : w53.cell? ⟨gb384, 0, none⟩ = some (.int .i64 0) := (blk_cell BK384.out 0).trans rfl; have hcz54_1 : w53.cell? ⟨gb384, 1, none⟩ = some (.slice none 0 0) := (blk_cell BK384.out 1).trans rfl; have hcz54_2 : w53.cell? ⟨gb384, 2, none⟩ = some (.slice none 0 0) := (blk_cell BK384.out 2).trans rfl; have hfz54_0 := blk_frozen BK384.out 0; have hfz54_1 := blk_frozen BK384.out 1; have hfz54_2 := blk_frozen BK384.out 2))
                                  go_loopg [26] kj37 (fun kq v26 w' => ∃ (x26_5 : Int) (x385002_5 : List Int) (u385002 : Value), v26 = .int .i64 x26_5 ∧ Aside0 (laws_FnAllowed.l2 kq x6_1 (wrap64 ((wrap64 (1 + t349)) - (rd x6_1 (ji27)))) t379 x26_5 (wrap64 (1 + t349)) t379 x385002_5 = some r) ∧ Aside0 (kq ≤ kj37) ∧ Aside0 (Kd.R (Kd.int .i64) 2 w' w.heap.size (fun _ => True) (.slice (some ad366) x6_1.length co18) x6_1) ∧ Aside0 (Kd.R (Kd.int .u16) 70 w' w.heap.size (fun _ => True) (.slice Ao52 t379.length co52) t379) ∧ Aside0 (Kd.R (Kd.int .u16) 70 w' w.heap.size (fun _ => True) (.slice Ao52 t379.length co52) t379) ∧ Aside0 (Kd.R (Kd.int .i16) 29 w' w.heap.size (fun _ => True) u385002 x385002_5) ∧ Aside0 (w'.heap[gb384]? = some (.cells #[.int .i64 (wrap64 (1 + t349)), (.slice Ao52 t379.length co52), u385002] 78 (0, 0))) ∧ Aside0 (Below w.heap.size w w'))
                                  case atStart => exact ⟨(0), (([] : List Int)), (.slice none 0 0), (by first | rfl | (simp; done) | (simp [*]; done)), H', ⟨Nat.le_refl _⟩, ⟨by (with_reducible repeat (first | apply Kd.R_alloc | apply Kd.R_drewN | apply Kd.R_drew)); exact Kd.R_mono (Kd.R_far (p := ⟨gb384, 2, none⟩) (Kd.R_far (p := ⟨gb384, 1, none⟩) (Kd.R_far (p := ⟨gb384, 0, none⟩) (Kd.R_types HO_6.out BK384.out (by decide)) (fun _ hk => hk.2) (.int .i64 (wrap64 (1 + t349)))) (fun _ hk => hk.2) (.slice Ao52 t379.length co52)) (fun _ hk => hk.2) (.slice none 0 0)) (fun _ hk => trivial)⟩, ⟨by (with_reducible repeat (first | apply Kd.R_alloc | apply Kd.R_drewN | apply Kd.R_drew)); exact Kd.R_mono (Kd.R_far (p := ⟨gb384, 2, none⟩) (Kd.R_far (p := ⟨gb384, 1, none⟩) (Kd.R_far (p := ⟨gb384, 0, none⟩) (Kd.R_types HO_23.out BK384.out (by decide)) (fun _ hk => hk.2) (.int .i64 (wrap64 (1 + t349)))) (fun _ hk => hk.2) (.slice Ao52 t379.length co52)) (fun _ hk => hk.2) (.slice none 0 0)) (fun _ hk => trivial)⟩, ⟨by (with_reducible repeat (first | apply Kd.R_alloc | apply Kd.R_drewN | apply Kd.R_drew)); exact Kd.R_mono (Kd.R_far (p := ⟨gb384, 2, none⟩) (Kd.R_far (p := ⟨gb384, 1, none⟩) (Kd.R_far (p := ⟨gb384, 0, none⟩) (Kd.R_types HO_23.out BK384.out (by decide)) (fun _ hk => hk.2) (.int .i64 (wrap64 (1 + t349)))) (fun _ hk => hk.2) (.slice Ao52 t379.length co52)) (fun _ hk => hk.2) (.slice none 0 0)) (fun _ hk => trivial)⟩, ⟨by first | exact Kd.R_nil _ _ _ _ _ | exact Kd.N_nil _ _ _ _ _ | exact Kd.V_nil _ _ _ _ _ | exact Kd.Q_nil _ _ _ _ _ | exact Kd.S_nil _ _ _ _ _⟩, ⟨by (with_reducible repeat (first | refine blk_drewN ?_ _ | refine blk_drew ?_ | refine blk_alloc ?_ _)); refine blk_put (cs := #[.int .i64 (wrap64 (1 + t349)), .slice Ao52 t379.length co52, .slice none 0 0]) ?_ 2 _ rfl; (with_reducible repeat (first | refine blk_drewN ?_ _ | refine blk_drew ?_ | refine blk_alloc ?_ _)); refine blk_put (cs := #[.int .i64 (wrap64 (1 + t349)), .slice none 0 0, .slice none 0 0]) ?_ 1 _ rfl; (with_reducible repeat (first | refine blk_drewN ?_ _ | refine blk_drew ?_ | refine blk_alloc ?_ _)); refine blk_put (cs := #[.int .i64 0, .slice none 0 0, .slice none 0 0]) ?_ 0 _ rfl; (with_reducible repeat (first | refine blk_drewN ?_ _ | refine blk_drew ?_ | refine blk_alloc ?_ _)); exact BK384.out⟩, ⟨by repeat (first | (with_reducible first | exact HB.out | apply below_alloc | apply pw_below_drewN | apply below_drew1 | refine below_set ?_ GE384.out) | exact HB.out)⟩⟩
                                  case round =>
                                    as_aux_lemma =>
                                    clear H'
                                    try clear c1
                                    try clear c2
                                    try clear p2
                                    try clear c3
                                    try clear p3
                                    try clear q3
                                    try clear hx3
                                    try clear c4
                                    try clear c5
                                    try clear c6
                                    try clear p6
                                    try clear c9
                                    try clear c9b0
                                    try clear c9b1
                                    try clear c11
                                    try clear c19
                                    try clear c19b0
                                    try clear c19b1
                                    try clear c20
                                    try clear c20b0
                                    try clear c20b1
                                    try clear c21
                                    try clear c21b0
                                    try clear c21b1
                                    try clear c21b2
                                    try clear c22
                                    try clear c22b0
                                    try clear c22b1
                                    try clear c23
                                    try clear c23b0
                                    try clear c23b1
                                    try clear c24
                                    try clear c24b0
                                    try clear c24b1
                                    try clear c25
                                    try clear c25b0
                                    try clear c25b1
                                    try clear c25b2
                                    try clear c26
                                    try clear c28
                                    try clear c28b0
                                    try clear c29
                                    try clear c29b0
                                    try clear c32
                                    try clear c32b0
                                    try clear c32b1
                                    try clear c33
                                    try clear c35
                                    try clear c36
                                    try clear p36
                                    try clear q36
                                    try clear hx36
                                    try clear c37
                                    try clear c38
                                    try clear c39
                                    try clear c40
                                    try clear c41
                                    try clear c42
                                    try clear c42b0
                                    try clear c42b1
                                    try clear c43
                                    try clear c43b0
                                    try clear c43b1
                                    try clear c45
                                    try clear c50
                                    try clear c51
                                    try clear c51b0
                                    try clear c51b1
                                    try clear hcz54_0
                                    try clear hcz54_1
                                    try clear hcz54_2
                                    try clear hfz54_0
                                    try clear hfz54_1
                                    try clear hfz54_2
                                    try clear hx366_0
                                    try clear p2
                                    try clear p3
                                    try clear p36
                                    try clear p366
                                    try clear p6
                                    try clear q3
                                    try clear q36
                                    try clear q366
                                    obtain ⟨x26_5, x385002_5, u385002, rfl, HA, HK5, HO_6, HO_23, HO_385001, HO_385002, BK384, HB⟩ := hrel
                                    cases gk with
                                    | zero => exact absurd HA.out (by simp [laws_FnAllowed.l2])
                                    | succ k5 =>
                                      have H := HA.out
                                      clear HA
                                      simp only [laws_FnAllowed.l2] at H
                                      by_cases c55 : x26_5 < (x6_1.length : Int)
                                      · rw [if_pos c55] at H
                                        have c55b0 : decide (x26_5 < (x6_1.length : Int)) = true := decide_eq_true c55
                                        clear c55
                                        by_cases c56 : 0 ≤ x26_5
                                        · rw [if_pos c56] at H
                                          have c56b0 : decide (0 ≤ x26_5) = true := decide_eq_true c56
                                          clear c56
                                          by_cases c57 : x385002_5.length < 70368744177664
                                          · rw [if_pos c57] at H
                                            have LMc57 := Aside0.mk c57
                                            clear c57
                                            obtain ⟨y386, hy386⟩ : ∃ y_ : List Int, y_ = (x385002_5 ++ [IntKind.i16.wrap (rd x6_1 x26_5)]) := ⟨_, rfl⟩
                                            replace H : (laws_FnAllowed.l2 k5 x6_1 (wrap64 ((wrap64 (1 + t349)) - (rd x6_1 (ji27)))) t379 (wrap64 (x26_5 + 1)) (wrap64 (1 + t349)) t379 y386) = some r := by first | (rw [hy386]; with_reducible exact H) | (have H2_ := (Option.bind_some _ _).symm.trans H; rw [hy386]; with_reducible exact H2_) | (have H2_ := (Option.bind_some _ _).symm.trans H; with_reducible exact H2_) | with_reducible exact H | (rw [hy386]; exact H) | exact H
                                            have Ny386 := Aside0.mk hy386
                                            clear hy386
                                            have H' := Aside0.mk H
                                            clear H
                                            try go_wp2
                                            have n0_ := Aside0.mk (Kd.R_drew HO_6.out)
                                            have n1_ := Aside0.mk (Kd.R_drew HO_23.out)
                                            have n2_ := Aside0.mk (Kd.R_drew HO_385001.out)
                                            have n3_ := Aside0.mk (Kd.R_drew HO_385002.out)
                                            have n4_ := Aside0.mk (blk_drew BK384.out)
                                            have n5_ := Aside0.mk (below_drew1 HB.out)
                                            clear HO_6
                                            clear HO_23
                                            clear HO_385001
                                            clear HO_385002
                                            clear BK384
                                            clear HB
                                            have HO_6 := n0_
                                            have HO_23 := n1_
                                            have HO_385001 := n2_
                                            have HO_385002 := n3_
                                            have BK384 := n4_
                                            have HB := n5_
                                            clear n0_ n1_ n2_ n3_ n4_ n5_
                                            have p385 : 0 ≤ (x26_5 : Int) := of_decide_eq_true (by first | (with_reducible assumption) | assumption)
                                            have q385 : x26_5 < (x6_1.length : Int) := of_decide_eq_true (by first | (with_reducible assumption) | assumption)
                                            obtain ⟨ad385, e385, hx385_0⟩ := Kd.at_int (Kd.R_reads' HO_6.out).2.2 x26_5 p385 q385
                                            obtain rfl : ad366 = ad385 := (by injection e385)
                                            replace p385 := eq_true p385
                                            replace q385 := eq_true q385
                                            refine start_ (n := 11) (S := fun w' => w'.cell? ⟨gb384, 0, none⟩ = some (.int .i64 (wrap64 (1 + t349))) ∧ w'.cell? ⟨gb384, 1, none⟩ = some (.slice Ao52 t379.length co52) ∧ w'.cell? ⟨gb384, 2, none⟩ = some (u385002) ∧ w'.cell? (ad366.add (x26_5).toNat) = some (.int .i64 (rd x6_1 x26_5))) (ds := [8, 10]) #[false, false, false, false, false, false, false, false, false, false, false] (by kernel_rfl) rfl rfl ⟨(blk_cell BK384.out 0).trans rfl, (blk_cell BK384.out 1).trans rfl, (blk_cell BK384.out 2).trans rfl, hx385_0⟩ (fun hHeld => ?_); refine with_tabW laws_FnAllowed.tab32 laws_FnAllowed.bits32 (fun HT_ HW_ => ?_)
                                            generalize wr.drew = w58 at HO_6 HO_23 HO_385001 HO_385002 BK384 HB hx385_0 hHeld ⊢
                                            refine pure_ (i := 0) (N := some 187) (v := ?_) (a' := ?_) #[true, false, false, false, false, false, false, false, false, false, false] rfl rfl (any_of HT_.out (by kernel_rfl)) (fun _ _ _ h => h) (Or.inl ⟨by rfl, ?_⟩) ?_ ?_
                                            rotate_left
                                            · intro w'
                                              go_simp
                                              with_reducible rfl
                                            rotate_left
                                            · simp only [Act.put, List.setIfInBounds_toArray, List.set_cons_zero, List.set_cons_succ, i64_w, i32_w]
                                              rfl
                                            refine pure_ (i := 2) (N := some 189) (v := ?_) (a' := ?_) #[true, false, true, false, false, false, false, false, false, false, false] rfl rfl (any_of HT_.out (by kernel_rfl)) (fun _ _ _ h => h) (Or.inl ⟨by rfl, ?_⟩) ?_ ?_
                                            rotate_left
                                            · intro w'
                                              go_simp
                                              with_reducible rfl
                                            rotate_left
                                            · simp only [Act.put, List.setIfInBounds_toArray, List.set_cons_zero, List.set_cons_succ, i64_w, i32_w]
                                              rfl
                                            refine pure_ (i := 3) (N := some 190) (v := ?_) (a' := ?_) #[true, false, true, true, false, false, false, false, false, false, false] rfl rfl (any_of HT_.out (by kernel_rfl)) (fun _ _ _ h => h) (Or.inl ⟨by rfl, ?_⟩) ?_ ?_
                                            rotate_left
                                            · intro w'
                                              go_simp
                                              with_reducible rfl
                                            rotate_left
                                            · simp only [Act.put, List.setIfInBounds_toArray, List.set_cons_zero, List.set_cons_succ, i64_w, i32_w]
                                              rfl
                                            refine pure_ (i := 4) (N := some 191) (v := ?_) (a' := ?_) #[true, false, true, true, true, false, false, false, false, false, false] rfl rfl (any_of HT_.out (by kernel_rfl)) (fun _ _ _ h => h) (Or.inl ⟨by rfl, ?_⟩) ?_ ?_
                                            rotate_left
                                            · intro w'
                                              go_simp
                                              with_reducible rfl
                                            rotate_left
                                            · simp only [Act.put, List.setIfInBounds_toArray, List.set_cons_zero, List.set_cons_succ, i64_w, i32_w]
                                              rfl
                                            refine take_ (i := 1) (N := some 188) (v := ?_) (a' := ?_) #[true, true, true, true, true, false, false, false, false, false, false] rfl rfl (take_ofW HT_.out HW_.out (by kernel_rfl)) (fun _ _ _ h => h) (Or.inl ⟨by rfl, ?_⟩) hHeld ?_ ?_
                                            rotate_left
                                            · rintro w' ⟨s0, s1, s2, s3⟩
                                              go_simp
                                              with_reducible rfl
                                            rotate_left
                                            · simp only [Act.put, List.setIfInBounds_toArray, List.set_cons_zero, List.set_cons_succ, i64_w, i32_w]
                                              rfl
                                            refine take_ (i := 5) (N := some 192) (v := ?_) (a' := ?_) #[true, true, true, true, true, true, false, false, false, false, false] rfl rfl (take_ofW HT_.out HW_.out (by kernel_rfl)) (fun _ _ _ h => h) (Or.inl ⟨by rfl, ?_⟩) hHeld ?_ ?_
                                            rotate_left
                                            · rintro w' ⟨s0, s1, s2, s3⟩
                                              go_simp
                                              with_reducible rfl
                                            rotate_left
                                            · simp only [Act.put, List.setIfInBounds_toArray, List.set_cons_zero, List.set_cons_succ, i64_w, i32_w]
                                              rfl
                                            refine pure_ (i := 6) (N := some 193) (v := ?_) (a' := ?_) #[true, true, true, true, true, true, true, false, false, false, false] rfl rfl (any_of HT_.out (by kernel_rfl)) (fun _ _ _ h => h) (Or.inl ⟨by rfl, ?_⟩) ?_ ?_
                                            rotate_left
                                            · intro w'
                                              go_simp
                                              with_reducible rfl
                                            rotate_left
                                            · simp only [Act.put, List.setIfInBounds_toArray, List.set_cons_zero, List.set_cons_succ, i64_w, i32_w]
                                              rfl
                                            refine one_ (i := 7) (N := some 194) #[true, true, true, true, true, true, true, true, false, false, false] rfl rfl (one_of HT_.out (by kernel_rfl)) (by decide) (fun K hK => ?_)
                                            refine value_ (w1 := ?_) (v := ?_) (by rfl) rfl ?_ ?_
                                            rotate_left 2
                                            · go_simp
                                              constructor
                                              · rfl
                                              · rfl
                                            refine hK.out _ _ ⟨(blk_cell (blk_alloc BK384.out _) 0).trans rfl, (blk_cell (blk_alloc BK384.out _) 1).trans rfl, (blk_cell (blk_alloc BK384.out _) 2).trans rfl, (World.cell?_alloc_lt _ _ _ (World.block_lt_of_cell? _ _ (hHeld.2.2.2))).trans (hHeld.2.2.2)⟩ (fun hHeld => ?_)
                                            clear hK K
                                            refine norm_ (a' := ?_) ?_ ?_
                                            rotate_left
                                            · show Act.put _ (some 194) _ = _
                                              simp only [Act.put, List.setIfInBounds_toArray, List.set_cons_zero, List.set_cons_succ, i64_w, i32_w]
                                              rfl
                                            refine last_ (i := 8) (N := some 195) #[true, true, true, true, true, true, true, true, true, false, false] rfl rfl (one_of HT_.out (by kernel_rfl)) (by decide) (fun K hK => ?_)
                                            refine Kd.R_append_step (Kd.int .i16) (w0 := w) w.heap.size (by rfl) (.tmp 188) (.tmp 194) 30 29 (.int .i16 0) 2 rfl Try.underlying30 info29 rfl (by decide) (by omega) u385002 x385002_5 (IntKind.i16.wrap (rd x6_1 x26_5)) [.int .i16 (IntKind.i16.wrap (rd x6_1 x26_5))] (fun _ => True) (fun _ => False) rfl rfl ?aP (fun _ hk => hk.elim) ?aF ?aO ?aB ?aS ?aL ?_
                                            (case aP => exact rfl)
                                            (case aB => exact (by repeat (first | (with_reducible first | exact HB.out | apply below_alloc | apply pw_below_drewN | apply below_drew1 | refine below_set ?_ GE384.out) | exact HB.out)))
                                            (case aF => exact (fun _ _ => trivial))
                                            (case aO => exact (by (with_reducible repeat (first | apply Kd.R_alloc | apply Kd.R_drewN | apply Kd.R_drew)); exact HO_385002.out))
                                            (case aS => exact (below_size (by repeat (first | (with_reducible first | exact HB.out | apply below_alloc | apply pw_below_drewN | apply below_drew1 | refine below_set ?_ GE384.out) | exact HB.out))))
                                            (case aL => have := LMc57.out; omega)
                                            intro v387 w59 ho hb hg hat
                                            rw [← Ny386.out] at ho
                                            have n0_ := Aside0.mk (Kd.R_over' (by (with_reducible repeat (first | apply Kd.R_alloc | apply Kd.R_drewN | apply Kd.R_drew)); exact HO_6.out) (Kd.R_typed (by (with_reducible repeat (first | apply Kd.R_alloc | apply Kd.R_drewN | apply Kd.R_drew)); exact HO_385002.out)) (by decide) hg)
                                            have n1_ := Aside0.mk (Kd.R_over' (by (with_reducible repeat (first | apply Kd.R_alloc | apply Kd.R_drewN | apply Kd.R_drew)); exact HO_23.out) (Kd.R_typed (by (with_reducible repeat (first | apply Kd.R_alloc | apply Kd.R_drewN | apply Kd.R_drew)); exact HO_385002.out)) (by decide) hg)
                                            have n2_ := Aside0.mk (Kd.R_over' (by (with_reducible repeat (first | apply Kd.R_alloc | apply Kd.R_drewN | apply Kd.R_drew)); exact HO_385001.out) (Kd.R_typed (by (with_reducible repeat (first | apply Kd.R_alloc | apply Kd.R_drewN | apply Kd.R_drew)); exact HO_385002.out)) (by decide) hg)
                                            have n3_ := Aside0.mk (blk_grown (g := gb384) (o := .cells #[.int .i64 (wrap64 (1 + t349)), .slice Ao52 t379.length co52, u385002] 78 (0, 0)) (by (with_reducible repeat (first | refine blk_drewN ?_ _ | refine blk_drew ?_ | refine blk_alloc ?_ _)); exact BK384.out) hg (Kd.R_ne HO_385002.out BK384.out (by decide)))
                                            have n4_ := Aside0.mk (hb)
                                            have n5_ := Aside0.mk (ho)
                                            clear HO_6
                                            clear HO_23
                                            clear HO_385001
                                            clear BK384
                                            clear HB
                                            clear HO_385002
                                            have HO_6 := n0_
                                            have HO_23 := n1_
                                            have HO_385001 := n2_
                                            have BK384 := n3_
                                            have HB := n4_
                                            have HO388 := n5_
                                            clear n0_ n1_ n2_ n3_ n4_ n5_
                                            clear ho hb hg hat
                                            obtain ⟨Ao60, co60, eo60⟩ := Kd.R_slice HO388.out
                                            (first | subst eo60 | (injection eo60 with f1_ f2_ f3_; have f4_ := f1_.symm; have f5_ := f3_.symm; clear f1_ f2_ f3_; subst f4_; subst f5_))
                                            refine hK.out _ _ ?_
                                            clear hK K
                                            refine norm_ (a' := ?_) ?_ ?_
                                            rotate_left
                                            · show Act.put _ (some 195) _ = _
                                              simp only [Act.put, List.setIfInBounds_toArray, List.set_cons_zero, List.set_cons_succ, i64_w, i32_w]
                                              rfl
                                            refine pure_ (i := 9) (N := some 196) (v := ?_) (a' := ?_) #[true, true, true, true, true, true, true, true, true, true, false] rfl rfl (any_of HT_.out (by kernel_rfl)) (fun _ _ _ h => h) (Or.inl ⟨by rfl, ?_⟩) ?_ ?_
                                            rotate_left
                                            · intro w'
                                              go_simp
                                              with_reducible rfl
                                            rotate_left
                                            · simp only [Act.put, List.setIfInBounds_toArray, List.set_cons_zero, List.set_cons_succ, i64_w, i32_w]
                                              rfl
                                            refine last_ (i := 10) (N := none) #[true, true, true, true, true, true, true, true, true, true, true] rfl rfl (one_of HT_.out (by kernel_rfl)) (by decide) (fun K hK => ?_)
                                            have hs61 : w59.cell? ⟨gb384, 2, none⟩ = some (u385002) := (blk_cell BK384.out 2).trans rfl
                                            have hfs61 := blk_frozen BK384.out 2
                                            refine skip_ (w1 := ?_) (by rfl) rfl ?_ ?_
                                            rotate_left
                                            · go_simp
                                              rfl
                                            refine hK.out _ _ ?_
                                            clear hK K
                                            refine done_ (done_of HT_.out (by kernel_rfl)) ?_
                                            try go_wp2
                                            go_roundg k5
                                            case measure => have := HK1.out; have := HJ16.out; have := HK3.out; have := HJ37.out; have := HK5.out; omega
                                            case rel => exact ⟨(wrap64 (x26_5 + 1)), (y386), (.slice Ao60 y386.length co60), (by first | rfl | (simp; done) | (simp [*]; done)), H', ⟨by have := HK1.out; have := HJ16.out; have := HK3.out; have := HJ37.out; have := HK5.out; omega⟩, ⟨by (with_reducible repeat (first | apply Kd.R_alloc | apply Kd.R_drewN | apply Kd.R_drew)); exact Kd.R_mono (Kd.R_far (p := ⟨gb384, 2, none⟩) (Kd.R_types HO_6.out BK384.out (by decide)) (fun _ hk => hk.2) (.slice Ao60 y386.length co60)) (fun _ hk => trivial)⟩, ⟨by (with_reducible repeat (first | apply Kd.R_alloc | apply Kd.R_drewN | apply Kd.R_drew)); exact Kd.R_mono (Kd.R_far (p := ⟨gb384, 2, none⟩) (Kd.R_types HO_23.out BK384.out (by decide)) (fun _ hk => hk.2) (.slice Ao60 y386.length co60)) (fun _ hk => trivial)⟩, ⟨by (with_reducible repeat (first | apply Kd.R_alloc | apply Kd.R_drewN | apply Kd.R_drew)); exact Kd.R_mono (Kd.R_far (p := ⟨gb384, 2, none⟩) (Kd.R_types HO_385001.out BK384.out (by decide)) (fun _ hk => hk.2) (.slice Ao60 y386.length co60)) (fun _ hk => trivial)⟩, ⟨by (with_reducible repeat (first | apply Kd.R_alloc | apply Kd.R_drewN | apply Kd.R_drew)); exact Kd.R_mono (Kd.R_far (p := ⟨gb384, 2, none⟩) (Kd.R_types HO388.out BK384.out (by decide)) (fun _ hk => hk.2) (.slice Ao60 y386.length co60)) (fun _ hk => trivial)⟩, ⟨by (with_reducible repeat (first | refine blk_drewN ?_ _ | refine blk_drew ?_ | refine blk_alloc ?_ _)); refine blk_put (cs := #[.int .i64 (wrap64 (1 + t349)), .slice Ao52 t379.length co52, u385002]) ?_ 2 _ rfl; (with_reducible repeat (first | refine blk_drewN ?_ _ | refine blk_drew ?_ | refine blk_alloc ?_ _)); exact BK384.out⟩, ⟨by repeat (first | (with_reducible first | exact HB.out | apply below_alloc | apply pw_below_drewN | apply below_drew1 | refine below_set ?_ GE384.out) | exact HB.out)⟩⟩
                                          · rw [if_neg c57] at H
                                            exact absurd H (by simp)
                                        · rw [if_neg c56] at H
                                          exact absurd H (by simp)
                                      · rw [if_neg c55] at H
                                        have c55b0 : decide (x26_5 < (x6_1.length : Int)) = false := decide_eq_false c55
                                        clear c55
                                        replace H := Option.bind_eq_some_iff.mp H
                                        obtain ⟨⟨t389, t390⟩, A620, H⟩ := H
                                        replace H : (laws_FnAllowed.l3 k5 x6_1 (wrap64 ((wrap64 (1 + t349)) - (rd x6_1 (ji27)))) t379 t390 0 0 (wrap64 (1 + t349)) t379 x385002_5) = some r := H
                                        have A62 := Aside0.mk A620
                                        clear A620
                                        have H' := Aside0.mk H
                                        clear H
                                        have hcz63_0 : wr.cell? ⟨gb384, 0, none⟩ = some (.int .i64 (wrap64 (1 + t349))) := (blk_cell BK384.out 0).trans rfl
                                        have hcz63_1 : wr.cell? ⟨gb384, 1, none⟩ = some (.slice Ao52 t379.length co52) := (blk_cell BK384.out 1).trans rfl
                                        have hcz63_2 : wr.cell? ⟨gb384, 2, none⟩ = some (u385002) := (blk_cell BK384.out 2).trans rfl
                                        have hfz63_0 := blk_frozen BK384.out 0
                                        have hfz63_1 := blk_frozen BK384.out 1
                                        have hfz63_2 := blk_frozen BK384.out 2
                                        obtain ⟨Ao64, co64, eo64⟩ := Kd.R_slice HO_385002.out
                                        subst eo64
                                        go_wp2_with (first | ((with_reducible refine gate_callee (f := 45) rfl ?_); refine goesL_ (some 199) rfl rfl Try.func45 (by kernel_rfl) rfl #[.agg #[.int .i64 (wrap64 (1 + t349)), .slice Ao52 t379.length co52, .slice Ao64 x385002_5.length co64]] rfl (by (try simp only [List.map_toArray, List.map_cons, List.map_nil]); first | done | rfl | (simp only [List.length_drop, List.length_take]; rfl)) ?_; (with_reducible refine (impl_FirstWrongCount.calls k5 (wrap64 (1 + t349)) _ _ t379 _ _ x385002_5 t389 t390 _ ?side1 ?side2 ?side3 ?side4 A62.out).mono ?_); (case side1 => repeat (first | exact (Kd.R_reads' HO_385001.out).2.2 | (with_reducible refine Kd.C_alloc ?_ _) | (with_reducible refine Kd.C_drewN ?_ _) | (with_reducible refine Kd.C_drew ?_))); (case side2 => exact (Kd.R_reads' HO_385001.out).2.1); (case side3 => repeat (first | exact (Kd.R_reads' HO_385002.out).2.2 | (with_reducible refine Kd.C_alloc ?_ _) | (with_reducible refine Kd.C_drewN ?_ _) | (with_reducible refine Kd.C_drew ?_))); (case side4 => exact (Kd.R_reads' HO_385002.out).2.1); rintro e w65 ⟨rfl, hb⟩; refine ⟨_, rfl, ?_⟩; have n0_ := Aside0.mk (Kd.R_below (by (with_reducible repeat (first | apply Kd.R_alloc | apply Kd.R_drewN | apply Kd.R_drew)); exact HO_6.out) hb); have n1_ := Aside0.mk (Kd.R_below (by (with_reducible repeat (first | apply Kd.R_alloc | apply Kd.R_drewN | apply Kd.R_drew)); exact HO_23.out) hb); have n2_ := Aside0.mk (Kd.R_below (by (with_reducible repeat (first | apply Kd.R_alloc | apply Kd.R_drewN | apply Kd.R_drew)); exact HO_385001.out) hb); have n3_ := Aside0.mk (Kd.R_below (by (with_reducible repeat (first | apply Kd.R_alloc | apply Kd.R_drewN | apply Kd.R_drew)); exact HO_385002.out) hb); have n4_ := Aside0.mk (blk_below (g := gb384) (o := .cells #[.int .i64 (wrap64 (1 + t349)), .slice Ao52 t379.length co52, .slice Ao64 x385002_5.length co64] 78 (0, 0)) (by (with_reducible repeat (first | refine blk_drewN ?_ _ | refine blk_drew ?_ | refine blk_alloc ?_ _)); exact BK384.out) hb); have n5_ := Aside0.mk (below_step (by repeat (first | (with_reducible first | exact HB.out | apply below_alloc | apply pw_below_drewN | apply below_drew1 | refine below_set ?_ GE384.out) | exact HB.out)) hb); clear HO_6; clear HO_23; clear HO_385001; clear HO_385002; clear BK384; clear HB; have HO_6 := n0_; have HO_23 := n1_; have HO_385001 := n2_; have HO_385002 := n3_; have BK384 := n4_; have HB := n5_; clear n0_ n1_ n2_ n3_ n4_ n5_; (try clear hb); (try clear hb2); (try clear hk); (try clear hi)))
                                        go_loopg [29, 30] k5 (fun kq v29 v30 w' => ∃ (x29_6 : Int) (x30_6 : Int), v29 = .int .i64 x29_6 ∧ v30 = .int .i64 x30_6 ∧ Aside0 (laws_FnAllowed.l3 kq x6_1 (wrap64 ((wrap64 (1 + t349)) - (rd x6_1 (ji27)))) t379 t390 x29_6 x30_6 (wrap64 (1 + t349)) t379 x385002_5 = some r) ∧ Aside0 (kq ≤ k5) ∧ Aside0 (Kd.R (Kd.int .i64) 2 w' w.heap.size (fun _ => True) (.slice (some ad366) x6_1.length co18) x6_1) ∧ Aside0 (Kd.R (Kd.int .u16) 70 w' w.heap.size (fun _ => True) (.slice Ao52 t379.length co52) t379) ∧ Aside0 (Kd.R (Kd.int .u16) 70 w' w.heap.size (fun _ => True) (.slice Ao52 t379.length co52) t379) ∧ Aside0 (Kd.R (Kd.int .i16) 29 w' w.heap.size (fun _ => True) (.slice Ao64 x385002_5.length co64) x385002_5) ∧ Aside0 (w'.heap[gb384]? = some (.cells #[.int .i64 (wrap64 (1 + t349)), (.slice Ao52 t379.length co52), (.slice Ao64 x385002_5.length co64)] 78 (0, 0))) ∧ Aside0 (Below w.heap.size w w'))
                                        case atStart => exact ⟨(0), (0), (by first | rfl | (simp; done) | (simp [*]; done)), (by first | rfl | (simp; done) | (simp [*]; done)), H', ⟨Nat.le_refl _⟩, ⟨by (with_reducible repeat (first | apply Kd.R_alloc | apply Kd.R_drewN | apply Kd.R_drew)); exact HO_6.out⟩, ⟨by (with_reducible repeat (first | apply Kd.R_alloc | apply Kd.R_drewN | apply Kd.R_drew)); exact HO_23.out⟩, ⟨by (with_reducible repeat (first | apply Kd.R_alloc | apply Kd.R_drewN | apply Kd.R_drew)); exact HO_385001.out⟩, ⟨by (with_reducible repeat (first | apply Kd.R_alloc | apply Kd.R_drewN | apply Kd.R_drew)); exact HO_385002.out⟩, ⟨by (with_reducible repeat (first | refine blk_drewN ?_ _ | refine blk_drew ?_ | refine blk_alloc ?_ _)); exact BK384.out⟩, ⟨by repeat (first | (with_reducible first | exact HB.out | apply below_alloc | apply pw_below_drewN | apply below_drew1 | refine below_set ?_ GE384.out) | exact HB.out)⟩⟩
                                        case round =>
                                          as_aux_lemma =>
                                          clear H'
                                          try clear c1
                                          try clear c2
                                          try clear p2
                                          try clear c3
                                          try clear p3
                                          try clear q3
                                          try clear hx3
                                          try clear c4
                                          try clear c5
                                          try clear c6
                                          try clear p6
                                          try clear c9
                                          try clear c9b0
                                          try clear c9b1
                                          try clear c11
                                          try clear c19
                                          try clear c19b0
                                          try clear c19b1
                                          try clear c20
                                          try clear c20b0
                                          try clear c20b1
                                          try clear c21
                                          try clear c21b0
                                          try clear c21b1
                                          try clear c21b2
                                          try clear c22
                                          try clear c22b0
                                          try clear c22b1
                                          try clear c23
                                          try clear c23b0
                                          try clear c23b1
                                          try clear c24
                                          try clear c24b0
                                          try clear c24b1
                                          try clear c25
                                          try clear c25b0
                                          try clear c25b1
                                          try clear c25b2
                                          try clear c26
                                          try clear c28
                                          try clear c28b0
                                          try clear c29
                                          try clear c29b0
                                          try clear c32
                                          try clear c32b0
                                          try clear c32b1
                                          try clear c33
                                          try clear c35
                                          try clear c36
                                          try clear p36
                                          try clear q36
                                          try clear hx36
                                          try clear c37
                                          try clear c38
                                          try clear p38
                                          try clear q38
                                          try clear hx38
                                          try clear c39
                                          try clear c40
                                          try clear c41
                                          try clear c42
                                          try clear c42b0
                                          try clear c42b1
                                          try clear c43
                                          try clear c43b0
                                          try clear c43b1
                                          try clear c45
                                          try clear c50
                                          try clear c51
                                          try clear c51b0
                                          try clear c51b1
                                          try clear c55
                                          try clear c55b0
                                          try clear c56
                                          try clear c56b0
                                          try clear c57
                                          try clear p64
                                          try clear hcz54_0
                                          try clear hcz54_1
                                          try clear hcz54_2
                                          try clear hcz63_0
                                          try clear hcz63_1
                                          try clear hcz63_2
                                          try clear hfz54_0
                                          try clear hfz54_1
                                          try clear hfz54_2
                                          try clear hfz63_0
                                          try clear hfz63_1
                                          try clear hfz63_2
                                          try clear hx366_0
                                          try clear hx385_0
                                          try clear p2
                                          try clear p3
                                          try clear p36
                                          try clear p366
                                          try clear p385
                                          try clear p6
                                          try clear q3
                                          try clear q36
                                          try clear q366
                                          try clear q385
                                          obtain ⟨x29_6, x30_6, rfl, rfl, HA, HK6, HO_6, HO_23, HO_385001, HO_385002, BK384, HB⟩ := hrel
                                          cases gk with
                                          | zero => exact absurd HA.out (by simp [laws_FnAllowed.l3])
                                          | succ k6 =>
                                            have H := HA.out
                                            clear HA
                                            simp only [laws_FnAllowed.l3] at H
                                            by_cases c66 : x30_6 < (t379.length : Int)
                                            · rw [if_pos c66] at H
                                              have c66b0 : decide (x30_6 < (t379.length : Int)) = true := decide_eq_true c66
                                              clear c66
                                              replace H := Option.bind_eq_some_iff.mp H
                                              obtain ⟨⟨t392, t393⟩, A670, H⟩ := H
                                              replace H : (if t393 = 0 then ((spec_CountPeople.f k6 t392).bind fun t394 => (laws_FnAllowed.l3 k6 x6_1 (wrap64 ((wrap64 (1 + t349)) - (rd x6_1 (ji27)))) t379 t390 (wrap64 (x29_6 + t394)) (wrap64 (x30_6 + 1)) (wrap64 (1 + t349)) t379 x385002_5)) else (some false)) = some r := H
                                              have A67 := Aside0.mk A670
                                              clear A670
                                              by_cases c68 : t393 = 0
                                              · rw [if_pos c68] at H
                                                have c68b0 : (t393 == 0) = true := beq_iff_eq.mpr c68
                                                have c68b1 : (t393 != 0) = false := bne_eq_false_iff_eq.mpr c68
                                                clear c68
                                                replace H := Option.bind_eq_some_iff.mp H
                                                obtain ⟨t394, A690, H⟩ := H
                                                replace H : (laws_FnAllowed.l3 k6 x6_1 (wrap64 ((wrap64 (1 + t349)) - (rd x6_1 (ji27)))) t379 t390 (wrap64 (x29_6 + t394)) (wrap64 (x30_6 + 1)) (wrap64 (1 + t349)) t379 x385002_5) = some r := H
                                                have A69 := Aside0.mk A690
                                                clear A690
                                                have H' := Aside0.mk H
                                                clear H
                                                have hcz70_0 : wr.cell? ⟨gb384, 0, none⟩ = some (.int .i64 (wrap64 (1 + t349))) := (blk_cell BK384.out 0).trans rfl
                                                have hcz70_1 : wr.cell? ⟨gb384, 1, none⟩ = some (.slice Ao52 t379.length co52) := (blk_cell BK384.out 1).trans rfl
                                                have hcz70_2 : wr.cell? ⟨gb384, 2, none⟩ = some (.slice Ao64 x385002_5.length co64) := (blk_cell BK384.out 2).trans rfl
                                                have hfz70_0 := blk_frozen BK384.out 0
                                                have hfz70_1 := blk_frozen BK384.out 1
                                                have hfz70_2 := blk_frozen BK384.out 2
                                                go_wp2_with (first | ((with_reducible refine gate_callee (f := 46) rfl ?_); refine goesL_ (some 211) rfl rfl Try.func46 (by kernel_rfl) rfl #[.agg #[.int .i64 (wrap64 (1 + t349)), .slice Ao52 t379.length co52, .slice Ao64 x385002_5.length co64], .int .i64 x30_6] rfl (by (try simp only [List.map_toArray, List.map_cons, List.map_nil]); first | done | rfl | (simp only [List.length_drop, List.length_take]; rfl)) ?_; (with_reducible refine (impl_LostBefore.calls k6 (wrap64 (1 + t349)) _ _ t379 _ _ x385002_5 x30_6 t392 t393 _ ?side1 ?side2 ?side3 ?side4 A67.out).mono ?_); (case side1 => repeat (first | exact (Kd.R_reads' HO_385001.out).2.2 | (with_reducible refine Kd.C_alloc ?_ _) | (with_reducible refine Kd.C_drewN ?_ _) | (with_reducible refine Kd.C_drew ?_))); (case side2 => exact (Kd.R_reads' HO_385001.out).2.1); (case side3 => repeat (first | exact (Kd.R_reads' HO_385002.out).2.2 | (with_reducible refine Kd.C_alloc ?_ _) | (with_reducible refine Kd.C_drewN ?_ _) | (with_reducible refine Kd.C_drew ?_))); (case side4 => exact (Kd.R_reads' HO_385002.out).2.1); rintro e w71 ⟨rfl, hb⟩; refine ⟨_, rfl, ?_⟩; have n0_ := Aside0.mk (Kd.R_below (by (with_reducible repeat (first | apply Kd.R_alloc | apply Kd.R_drewN | apply Kd.R_drew)); exact HO_6.out) hb); have n1_ := Aside0.mk (Kd.R_below (by (with_reducible repeat (first | apply Kd.R_alloc | apply Kd.R_drewN | apply Kd.R_drew)); exact HO_23.out) hb); have n2_ := Aside0.mk (Kd.R_below (by (with_reducible repeat (first | apply Kd.R_alloc | apply Kd.R_drewN | apply Kd.R_drew)); exact HO_385001.out) hb); have n3_ := Aside0.mk (Kd.R_below (by (with_reducible repeat (first | apply Kd.R_alloc | apply Kd.R_drewN | apply Kd.R_drew)); exact HO_385002.out) hb); have n4_ := Aside0.mk (blk_below (g := gb384) (o := .cells #[.int .i64 (wrap64 (1 + t349)), .slice Ao52 t379.length co52, .slice Ao64 x385002_5.length co64] 78 (0, 0)) (by (with_reducible repeat (first | refine blk_drewN ?_ _ | refine blk_drew ?_ | refine blk_alloc ?_ _)); exact BK384.out) hb); have n5_ := Aside0.mk (below_step (by repeat (first | (with_reducible first | exact HB.out | apply below_alloc | apply pw_below_drewN | apply below_drew1 | refine below_set ?_ GE384.out) | exact HB.out)) hb); clear HO_6; clear HO_23; clear HO_385001; clear HO_385002; clear BK384; clear HB; have HO_6 := n0_; have HO_23 := n1_; have HO_385001 := n2_; have HO_385002 := n3_; have BK384 := n4_; have HB := n5_; clear n0_ n1_ n2_ n3_ n4_ n5_; (try clear hb); (try clear hb2); (try clear hk); (try clear hi)) | ((with_reducible refine gate_callee (f := 47) rfl ?_); refine goesL_ (some 218) rfl rfl Try.func47 (by kernel_rfl) rfl #[.int .u16 t392] rfl (by (try simp only [List.map_toArray, List.map_cons, List.map_nil]); first | done | rfl | (simp only [List.length_drop, List.length_take]; rfl)) ?_; (with_reducible refine (spec_CountPeople.calls k6 t392 t394 _ A69.out).mono ?_); rintro e w72 ⟨rfl, hb⟩; refine ⟨_, rfl, ?_⟩; have n0_ := Aside0.mk (Kd.R_below (by (with_reducible repeat (first | apply Kd.R_alloc | apply Kd.R_drewN | apply Kd.R_drew)); exact HO_6.out) hb); have n1_ := Aside0.mk (Kd.R_below (by (with_reducible repeat (first | apply Kd.R_alloc | apply Kd.R_drewN | apply Kd.R_drew)); exact HO_23.out) hb); have n2_ := Aside0.mk (Kd.R_below (by (with_reducible repeat (first | apply Kd.R_alloc | apply Kd.R_drewN | apply Kd.R_drew)); exact HO_385001.out) hb); have n3_ := Aside0.mk (Kd.R_below (by (with_reducible repeat (first | apply Kd.R_alloc | apply Kd.R_drewN | apply Kd.R_drew)); exact HO_385002.out) hb); have n4_ := Aside0.mk (blk_below (g := gb384) (o := .cells #[.int .i64 (wrap64 (1 + t349)), .slice Ao52 t379.length co52, .slice Ao64 x385002_5.length co64] 78 (0, 0)) (by (with_reducible repeat (first | refine blk_drewN ?_ _ | refine blk_drew ?_ | refine blk_alloc ?_ _)); exact BK384.out) hb); have n5_ := Aside0.mk (below_step (by repeat (first | (with_reducible first | exact HB.out | apply below_alloc | apply pw_below_drewN | apply below_drew1 | refine below_set ?_ GE384.out) | exact HB.out)) hb); clear HO_6; clear HO_23; clear HO_385001; clear HO_385002; clear BK384; clear HB; have HO_6 := n0_; have HO_23 := n1_; have HO_385001 := n2_; have HO_385002 := n3_; have BK384 := n4_; have HB := n5_; clear n0_ n1_ n2_ n3_ n4_ n5_; (try clear hb); (try clear hb2); (try clear hk); (try clear hi)))
                                                go_roundg k6
                                                case measure => have := HK1.out; have := HJ16.out; have := HK3.out; have := HJ37.out; have := HK5.out; have := HK6.out; omega
                                                case rel => exact ⟨(wrap64 (x29_6 + t394)), (wrap64 (x30_6 + 1)), (by first | rfl | (simp; done) | (simp [*]; done)), (by first | rfl | (simp; done) | (simp [*]; done)), H', ⟨by have := HK1.out; have := HJ16.out; have := HK3.out; have := HJ37.out; have := HK5.out; have := HK6.out; omega⟩, ⟨by (with_reducible repeat (first | apply Kd.R_alloc | apply Kd.R_drewN | apply Kd.R_drew)); exact HO_6.out⟩, ⟨by (with_reducible repeat (first | apply Kd.R_alloc | apply Kd.R_drewN | apply Kd.R_drew)); exact HO_23.out⟩, ⟨by (with_reducible repeat (first | apply Kd.R_alloc | apply Kd.R_drewN | apply Kd.R_drew)); exact HO_385001.out⟩, ⟨by (with_reducible repeat (first | apply Kd.R_alloc | apply Kd.R_drewN | apply Kd.R_drew)); exact HO_385002.out⟩, ⟨by (with_reducible repeat (first | refine blk_drewN ?_ _ | refine blk_drew ?_ | refine blk_alloc ?_ _)); exact BK384.out⟩, ⟨by repeat (first | (with_reducible first | exact HB.out | apply below_alloc | apply pw_below_drewN | apply below_drew1 | refine below_set ?_ GE384.out) | exact HB.out)⟩⟩
                                              · rw [if_neg c68] at H
                                                have c68b0 : (t393 == 0) = false := beq_eq_false_iff_ne.mpr c68
                                                have c68b1 : (t393 != 0) = true := bne_iff_ne.mpr c68
                                                exact absurd ((Option.some.inj H).trans HT.out) (by decide)
                                            · rw [if_neg c66] at H
                                              have c66b0 : decide (x30_6 < (t379.length : Int)) = false := decide_eq_false c66
                                              clear c66
                                              replace H := Option.bind_eq_some_iff.mp H
                                              obtain ⟨t391, A730, H⟩ := H
                                              replace H : (if t391 = true then (if t390 = 6 then (if (t379.length : Int) = (x6_1.length : Int) then (some (x29_6 == (wrap64 ((wrap64 (1 + t349)) - (rd x6_1 (ji27)))))) else (some false)) else (some false)) else (some false)) = some r := H
                                              have A73 := Aside0.mk A730
                                              clear A730
                                              by_cases c74 : t391 = true
                                              · subst c74
                                                have H1 : (if t390 = 6 then (if (t379.length : Int) = (x6_1.length : Int) then (some (x29_6 == (wrap64 ((wrap64 (1 + t349)) - (rd x6_1 (ji27)))))) else (some false)) else (some false)) = some r := by rw [if_pos rfl] at H; exact H
                                                clear H
                                                have H := H1
                                                clear H1
                                                by_cases c75 : t390 = 6
                                                · rw [if_pos c75] at H
                                                  have c75b0 : (t390 == 6) = true := beq_iff_eq.mpr c75
                                                  have c75b1 : (t390 != 6) = false := bne_eq_false_iff_eq.mpr c75
                                                  clear c75
                                                  by_cases c76 : (t379.length : Int) = (x6_1.length : Int)
                                                  · rw [if_pos c76] at H
                                                    have c76b0 : ((t379.length : Int) == (x6_1.length : Int)) = true := beq_iff_eq.mpr c76
                                                    have c76b1 : ((t379.length : Int) != (x6_1.length : Int)) = false := bne_eq_false_iff_eq.mpr c76
                                                    have c76b2 : (t379.length == x6_1.length) = true := by first | simpa using c76 | (simp at c76 ⊢; omega)
                                                    clear c76
                                                    obtain rfl := Option.some.inj H
                                                    have hcz77_0 : wr.cell? ⟨gb384, 0, none⟩ = some (.int .i64 (wrap64 (1 + t349))) := (blk_cell BK384.out 0).trans rfl
                                                    have hcz77_1 : wr.cell? ⟨gb384, 1, none⟩ = some (.slice Ao52 t379.length co52) := (blk_cell BK384.out 1).trans rfl
                                                    have hcz77_2 : wr.cell? ⟨gb384, 2, none⟩ = some (.slice Ao64 x385002_5.length co64) := (blk_cell BK384.out 2).trans rfl
                                                    have hfz77_0 := blk_frozen BK384.out 0
                                                    have hfz77_1 := blk_frozen BK384.out 1
                                                    have hfz77_2 := blk_frozen BK384.out 2
                                                    go_wp2_with (first | ((with_reducible refine gate_callee (f := 48) rfl ?_); refine goesL_ (some 221) rfl rfl Try.func48 (by kernel_rfl) rfl #[.agg #[.int .i64 (wrap64 (1 + t349)), .slice Ao52 t379.length co52, .slice Ao64 x385002_5.length co64]] rfl (by (try simp only [List.map_toArray, List.map_cons, List.map_nil]); first | done | rfl | (simp only [List.length_drop, List.length_take]; rfl)) ?_; (with_reducible refine (impl_ValidLog.calls k6 (wrap64 (1 + t349)) _ _ t379 _ _ x385002_5 true _ ?side1 ?side2 ?side3 ?side4 A73.out).mono ?_); (case side1 => repeat (first | exact (Kd.R_reads' HO_385001.out).2.2 | (with_reducible refine Kd.C_alloc ?_ _) | (with_reducible refine Kd.C_drewN ?_ _) | (with_reducible refine Kd.C_drew ?_))); (case side2 => exact (Kd.R_reads' HO_385001.out).2.1); (case side3 => repeat (first | exact (Kd.R_reads' HO_385002.out).2.2 | (with_reducible refine Kd.C_alloc ?_ _) | (with_reducible refine Kd.C_drewN ?_ _) | (with_reducible refine Kd.C_drew ?_))); (case side4 => exact (Kd.R_reads' HO_385002.out).2.1); rintro e w78 ⟨rfl, hb⟩; refine ⟨_, rfl, ?_⟩; have n0_ := Aside0.mk (Kd.R_below (by (with_reducible repeat (first | apply Kd.R_alloc | apply Kd.R_drewN | apply Kd.R_drew)); exact HO_6.out) hb); have n1_ := Aside0.mk (Kd.R_below (by (with_reducible repeat (first | apply Kd.R_alloc | apply Kd.R_drewN | apply Kd.R_drew)); exact HO_23.out) hb); have n2_ := Aside0.mk (Kd.R_below (by (with_reducible repeat (first | apply Kd.R_alloc | apply Kd.R_drewN | apply Kd.R_drew)); exact HO_385001.out) hb); have n3_ := Aside0.mk (Kd.R_below (by (with_reducible repeat (first | apply Kd.R_alloc | apply Kd.R_drewN | apply Kd.R_drew)); exact HO_385002.out) hb); have n4_ := Aside0.mk (blk_below (g := gb384) (o := .cells #[.int .i64 (wrap64 (1 + t349)), .slice Ao52 t379.length co52, .slice Ao64 x385002_5.length co64] 78 (0, 0)) (by (with_reducible repeat (first | refine blk_drewN ?_ _ | refine blk_drew ?_ | refine blk_alloc ?_ _)); exact BK384.out) hb); have n5_ := Aside0.mk (below_step (by repeat (first | (with_reducible first | exact HB.out | apply below_alloc | apply pw_below_drewN | apply below_drew1 | refine below_set ?_ GE384.out) | exact HB.out)) hb); clear HO_6; clear HO_23; clear HO_385001; clear HO_385002; clear BK384; clear HB; have HO_6 := n0_; have HO_23 := n1_; have HO_385001 := n2_; have HO_385002 := n3_; have BK384 := n4_; have HB := n5_; clear n0_ n1_ n2_ n3_ n4_ n5_; (try clear hb); (try clear hb2); (try clear hk); (try clear hi)))
                                                    go_ret
                                                    exact ⟨by first | rfl | (simp [errW_none, errW_some] <;> rfl) | (simp only [← hji27]; first | rfl | (simp [errW_none, errW_some] <;> rfl)) | (simp [*, errW_none, errW_some] <;> rfl), by repeat (first | (with_reducible first | exact HB.out | apply below_alloc | apply pw_below_drewN | apply below_drew1 | refine below_set ?_ GE384.out) | exact HB.out)⟩
                                                  · rw [if_neg c76] at H
                                                    have c76b0 : ((t379.length : Int) == (x6_1.length : Int)) = false := beq_eq_false_iff_ne.mpr c76
                                                    have c76b1 : ((t379.length : Int) != (x6_1.length : Int)) = true := bne_iff_ne.mpr c76
                                                    have c76b2 : (t379.length == x6_1.length) = false := by first | simpa using c76 | (simp at c76 ⊢; omega)
                                                    exact absurd ((Option.some.inj H).trans HT.out) (by decide)
                                                · rw [if_neg c75] at H
                                                  have c75b0 : (t390 == 6) = false := beq_eq_false_iff_ne.mpr c75
                                                  have c75b1 : (t390 != 6) = true := bne_iff_ne.mpr c75
                                                  exact absurd ((Option.some.inj H).trans HT.out) (by decide)
                                              · replace c74 := Bool.eq_false_iff.mpr c74
                                                subst c74
                                                have H1 : (some false) = some r := by rw [if_neg (show ¬ (false = true) by decide)] at H; exact H
                                                clear H
                                                have H := H1
                                                clear H1
                                                exact absurd ((Option.some.inj H).trans HT.out) (by decide)
                                · rw [if_neg c51] at H
                                  have c51b0 : (t376 == 0) = false := beq_eq_false_iff_ne.mpr c51
                                  have c51b1 : (t376 != 0) = true := bne_iff_ne.mpr c51
                                  obtain rfl := Option.some.inj H
                                  go_wp2
                                  go_ret
                                  exact ⟨by first | rfl | (simp [errW_none, errW_some] <;> rfl) | (simp only [← hji27]; first | rfl | (simp [errW_none, errW_some] <;> rfl)) | (simp [*, errW_none, errW_some] <;> rfl), by repeat (first | (with_reducible first | exact HB.out | apply below_alloc | apply pw_below_drewN | apply below_drew1) | exact HB.out)⟩
                  · rw [if_neg c29] at H
                    exact absurd H (by simp)
                · rw [if_neg c28] at H
                  exact absurd H (by simp)

/-- THE ONE PURE STATEMENT of laws_FnAllowed: yours. -/
def laws_FnAllowed.Pure : Prop := ∀ (l0 : List Int) (l1 : List Int), l0.length ≤ maxLen → l0.length * 1 ≤ 140737488351232 → (∀ x ∈ l0, (Lit.int .u8 x).wf = true) → l1.length ≤ maxLen → l1.length * 1 ≤ 140737488351232 → (∀ x ∈ l1, (Lit.int .u8 x).wf = true) → ∃ k, laws_FnAllowed.f k l0 l1 = some true
theorem laws_FnAllowed.walk (P : laws_FnAllowed.Pure) (a0 : Option Addr) (len0 cap0 : Nat) (z0 : List Int) (a1 : Option Addr) (len1 cap1 : Nat) (z1 : List Int) (w : World) (w0 : (a0 = none ∧ len0 = 0 ∧ cap0 = 0 ∧ z0 = []) ∨ ∃ x, a0 = some x ∧ len0 ≤ cap0 ∧ cap0 ≤ maxLen ∧ z0.length = cap0 ∧ (∀ i, i < z0.length → w.cell? (x.add i) = some (.int .u8 (z0.getD i 0))) ∧ ∀ n ∈ z0, (Lit.int .u8 n).wf = true) (y0 : len0 * 1 ≤ 140737488351232) (w1 : (a1 = none ∧ len1 = 0 ∧ cap1 = 0 ∧ z1 = []) ∨ ∃ x, a1 = some x ∧ len1 ≤ cap1 ∧ cap1 ≤ maxLen ∧ z1.length = cap1 ∧ (∀ i, i < z1.length → w.cell? (x.add i) = some (.int .u8 (z1.getD i 0))) ∧ ∀ n ∈ z1, (Lit.int .u8 n).wf = true) (y1 : len1 * 1 ≤ 140737488351232) :
    Calls Try.prog 6 #[.slice a0 len0 cap0, .slice a1 len1 cap1] w fun e w' => e = .returned (.bool true) ∧ Below w.heap.size w w' := by
  obtain ⟨l0, rfl, hr0, hm0, hw0, hc0⟩ := ReadsInt.ofRowC w0
  obtain ⟨l1, rfl, hr1, hm1, hw1, hc1⟩ := ReadsInt.ofRowC w1
  obtain ⟨k, h⟩ := P l0 l1 hm0 y0 hw0 hm1 y1 hw1
  refine (laws_FnAllowed.calls k _ _ l0 _ _ l1 true w (Kd.C_of_reads (d := (0 : Int)) (h1 := fun _ => rfl) hr0) hc0 (Kd.C_of_reads (d := (0 : Int)) (h1 := fun _ => rfl) hr1) hc1 rfl h).mono ?_
  rintro e w' ⟨rfl, hd⟩
  exact ⟨rfl, hd⟩

end Go.Proofs.Ytelgmojnndbgmaa.P
