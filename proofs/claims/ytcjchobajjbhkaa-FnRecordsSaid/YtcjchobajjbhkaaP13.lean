-- Printed by wip/print (my turned copy of the kit's print) out of the translation; Lean checks it.
import Derived.Test.YtcjchobajjbhkaaP0
import Derived.Test.YtcjchobajjbhkaaP2
import Derived.Test.YtcjchobajjbhkaaP3
import Derived.Test.YtcjchobajjbhkaaP5
import Derived.Test.YtcjchobajjbhkaaP6
import Derived.Test.YtcjchobajjbhkaaP7
import Derived.Test.YtcjchobajjbhkaaP8
import Derived.Test.YtcjchobajjbhkaaP9
import Derived.Test.YtcjchobajjbhkaaP10
import Derived.Test.YtcjchobajjbhkaaP11
import Derived.Test.YtcjchobajjbhkaaP12
namespace Go.Proofs.Ytcjchobajjbhkaa.P
open Go.RowKit Go.Proofs.YtcjchobajjbhkaaW.PrintWords Go.Proofs.YtcjchobajjbhkaaW.PrintLast Go.Proofs.YtcjchobajjbhkaaW.PrintMore
attribute [local go_sem] max2_int min2_int max_two min_two max_three min_three max_four min_four   -- for this text's walks alone
set_option linter.unusedVariables false
set_option linter.unusedSimpArgs false

/-! ### laws_FnRecords: function 3 -/
mutual
def laws_FnRecords.j0 : Nat → List Int → List (S44) → List (S44) → Int → Int → Bool → Int → List Int → List Int → Option (Bool)
  | 0, _, _, _, _, _, _, _, _, _ => none
  | k + 1, x1, x5, x8, x19, x20, x168, x406000, x406001, x406002 => if x168 = true then (some false) else ((impl_FirstWrongCount.f k x406000 x406001 x406002).bind fun bt425 => (if bt425.2 = 6 then (laws_FnRecords.l0 k x1 x5 x8 x19 x20 (-1) 0 x406000 x406001 x406002) else (some false)))
def laws_FnRecords.l0 : Nat → List Int → List (S44) → List (S44) → Int → Int → Int → Int → Int → List Int → List Int → Option (Bool)
  | 0, _, _, _, _, _, _, _, _, _, _ => none
  | k + 1, x1, x5, x8, x19, x20, x24, x25, x406000, x406001, x406002 => if x25 < (x8.length : Int) then (if x25 > 0 then (if 0 ≤ x25 then (if 0 ≤ (wrap64 (x25 - 1)) then (if (wrap64 (x25 - 1)) < (x8.length : Int) then (laws_FnRecords.j2 k x1 x5 x8 x19 x20 x24 x25 (decide (((rd_T44 x8 x25).f2) < ((rd_T44 x8 (wrap64 (x25 - 1))).f2))) x406000 x406001 x406002) else (none)) else (none)) else (none)) else (laws_FnRecords.j2 k x1 x5 x8 x19 x20 x24 x25 false x406000 x406001 x406002)) else (if ((decide (x24 < 0)) != (x19 == 6)) = true then (laws_FnRecords.j5 k x1 x5 true x406000 x406001 x406002) else (if x24 ≥ 0 then (if x19 = 0 then (laws_FnRecords.j5 k x1 x5 (x20 != x24) x406000 x406001 x406002) else (laws_FnRecords.j5 k x1 x5 true x406000 x406001 x406002)) else (laws_FnRecords.j5 k x1 x5 false x406000 x406001 x406002)))
def laws_FnRecords.j2 : Nat → List Int → List (S44) → List (S44) → Int → Int → Int → Int → Bool → Int → List Int → List Int → Option (Bool)
  | 0, _, _, _, _, _, _, _, _, _, _, _ => none
  | k + 1, x1, x5, x8, x19, x20, x24, x25, x197, x406000, x406001, x406002 => if x197 = true then (some false) else (laws_FnRecords.l1 k x1 x5 x8 x19 x20 x24 x25 0 x406000 x406001 x406002)
def laws_FnRecords.l1 : Nat → List Int → List (S44) → List (S44) → Int → Int → Int → Int → Int → Int → List Int → List Int → Option (Bool)
  | 0, _, _, _, _, _, _, _, _, _, _, _ => none
  | k + 1, x1, x5, x8, x19, x20, x24, x25, x26, x406000, x406001, x406002 => if x26 < x25 then (laws_FnRecords.j4 k x1 x5 x8 x19 x20 x24 x25 x26 (decide (x24 < 0)) x406000 x406001 x406002) else (laws_FnRecords.j4 k x1 x5 x8 x19 x20 x24 x25 x26 false x406000 x406001 x406002)
def laws_FnRecords.j4 : Nat → List Int → List (S44) → List (S44) → Int → Int → Int → Int → Int → Bool → Int → List Int → List Int → Option (Bool)
  | 0, _, _, _, _, _, _, _, _, _, _, _, _ => none
  | k + 1, x1, x5, x8, x19, x20, x24, x25, x26, x204, x406000, x406001, x406002 => if x204 = true then (if 0 ≤ x26 then (if x26 < (x8.length : Int) then (if 0 ≤ x25 then (if x25 < (x8.length : Int) then (if ((rd_T44 x8 x26).f0) = ((rd_T44 x8 x25).f0) then (if ((rd_T44 x8 x26).f1) > ((rd_T44 x8 x25).f1) then (laws_FnRecords.l1 k x1 x5 x8 x19 x20 x25 x25 (wrap64 (x26 + 1)) x406000 x406001 x406002) else (laws_FnRecords.l1 k x1 x5 x8 x19 x20 x24 x25 (wrap64 (x26 + 1)) x406000 x406001 x406002)) else (laws_FnRecords.l1 k x1 x5 x8 x19 x20 x24 x25 (wrap64 (x26 + 1)) x406000 x406001 x406002)) else (none)) else (none)) else (none)) else (none)) else (laws_FnRecords.l0 k x1 x5 x8 x19 x20 x24 (wrap64 (x25 + 1)) x406000 x406001 x406002)
def laws_FnRecords.j5 : Nat → List Int → List (S44) → Bool → Int → List Int → List Int → Option (Bool)
  | 0, _, _, _, _, _, _ => none
  | k + 1, x1, x5, x249, x406000, x406001, x406002 => if x249 = true then (some false) else ((laws_a2At.f x1 0 24).bind fun t433 => ((impl_BetweenAt.f k 5 4 x5 t433).bind fun bt434 => ((spec_BetweenAt.f k 5 4 x5 t433).bind fun bt438 => ((impl_BetweenAt.f k 5 4 x5 10000).bind fun bt442 => (if bt434.2 = bt438.2 then (if bt434.2 = 0 then ((spec_A2Same.f k bt434.1 bt438.1).bind fun t446 => (if t446 = true then (if (bt438.1.length : Int) = 5 then (if bt442.2 = 0 then (laws_FnRecords.j6 k bt438.1 bt442.1 ((bt442.1.length : Int) != 5) x406000 x406001 x406002) else (laws_FnRecords.j6 k bt438.1 bt442.1 true x406000 x406001 x406002)) else (laws_FnRecords.j6 k bt438.1 bt442.1 true x406000 x406001 x406002)) else (laws_FnRecords.j6 k bt438.1 bt442.1 true x406000 x406001 x406002))) else (laws_FnRecords.j6 k bt438.1 bt442.1 true x406000 x406001 x406002)) else (laws_FnRecords.j6 k bt438.1 bt442.1 true x406000 x406001 x406002))))))
def laws_FnRecords.j6 : Nat → List Int → List Int → Bool → Int → List Int → List Int → Option (Bool)
  | 0, _, _, _, _, _, _ => none
  | k + 1, x30, x32, x295, x406000, x406001, x406002 => if x295 = true then (some false) else (laws_FnRecords.l2 k x30 x32 0 x406000 x406001 x406002)
def laws_FnRecords.l2 : Nat → List Int → List Int → Int → Int → List Int → List Int → Option (Bool)
  | 0, _, _, _, _, _, _ => none
  | k + 1, x30, x32, x34, x406000, x406001, x406002 => if x34 < 5 then (if 0 ≤ x34 then (if x34 < (x30.length : Int) then (if x34 < (x32.length : Int) then (if (rd x30 x34) > (rd x32 x34) then (laws_FnRecords.j8 k x30 x32 x34 true x406000 x406001 x406002) else (if (rd x30 x34) < (-1) then (laws_FnRecords.j8 k x30 x32 x34 true x406000 x406001 x406002) else (laws_FnRecords.j8 k x30 x32 x34 (decide ((rd x32 x34) > 3)) x406000 x406001 x406002))) else (none)) else (none)) else (none)) else (some true)
def laws_FnRecords.j8 : Nat → List Int → List Int → Int → Bool → Int → List Int → List Int → Option (Bool)
  | 0, _, _, _, _, _, _, _ => none
  | k + 1, x30, x32, x34, x322, x406000, x406001, x406002 => if x322 = true then (some false) else ((impl_LastSeen.f k x406000 x406001 x406002 x34).bind fun bt451 => (if 0 ≤ x34 then (if x34 < (x32.length : Int) then (if ((bt451.2 == 0) != (decide ((rd x32 x34) ≥ 0))) = true then (some false) else (if bt451.2 = 0 then (if bt451.1 = (rd x32 x34) then (laws_FnRecords.l2 k x30 x32 (wrap64 (x34 + 1)) x406000 x406001 x406002) else (some false)) else (laws_FnRecords.l2 k x30 x32 (wrap64 (x34 + 1)) x406000 x406001 x406002))) else (none)) else (none)))
end
def laws_FnRecords.f (k : Nat) (l0 : List Int) (l1 : List Int) : Option (Bool) := (laws_a2Long.f l0 l1).bind fun t372 => (if t372 = true then (some true) else ((spec_A2Records.f k l0).bind fun t373 => ((impl_SortRecords.f k 5 4 t373).bind fun bt376 => ((spec_SortRecords.f k 5 4 t373).bind fun bt380 => ((impl_SortRecords.f k 5 4 bt380.1).bind fun bt384 => ((impl_LogFrom.f k 5 4 t373).bind fun bt388 => ((spec_LogFrom.f k 5 4 t373).bind fun bt397 => ((impl_LogFrom.f k 5 4 bt380.1).bind fun bt406 => ((impl_FirstBackward.f k 5 4 t373).bind fun bt415 => ((spec_FirstBackward.f k 5 4 t373).bind fun bt417 => (if bt376.2 = bt380.2 then (if bt376.2 = 0 then ((spec_A2SameRecords.f k bt376.1 bt380.1).bind fun t419 => (if t419 = true then (if (bt380.1.length : Int) = (t373.length : Int) then (if bt384.2 = 0 then ((spec_A2SameRecords.f k bt384.1 bt380.1).bind fun t420 => (if t420 = true then (if bt388.2.2.2 = bt397.2.2.2 then (if bt388.2.2.2 = 0 then ((spec_SameLog.f k bt388.1 bt388.2.1 bt388.2.2.1 bt397.1 bt397.2.1 bt397.2.2.1).bind fun t421 => (if t421 = true then ((impl_ValidLog.f k bt397.1 bt397.2.1 bt397.2.2.1).bind fun t422 => (if t422 = true then (if (bt397.2.1.length : Int) = 4 then (if bt406.2.2.2 = 0 then (if (bt406.2.1.length : Int) = 4 then ((spec_SameLog.f k bt406.1 bt406.2.1 bt406.2.2.1 bt397.1 bt397.2.1 bt397.2.2.1).bind fun t423 => (if t423 = true then (if bt415.2 = bt417.2 then (if bt415.1 = bt417.1 then ((impl_ValidRecords.f k 5 4 t373).bind fun t424 => (laws_FnRecords.j0 k l1 t373 bt380.1 bt415.2 bt417.1 (!t424) bt397.1 bt397.2.1 bt397.2.2.1)) else (laws_FnRecords.j0 k l1 t373 bt380.1 bt415.2 bt417.1 true bt397.1 bt397.2.1 bt397.2.2.1)) else (laws_FnRecords.j0 k l1 t373 bt380.1 bt415.2 bt417.1 true bt397.1 bt397.2.1 bt397.2.2.1)) else (laws_FnRecords.j0 k l1 t373 bt380.1 bt415.2 bt417.1 true bt397.1 bt397.2.1 bt397.2.2.1))) else (laws_FnRecords.j0 k l1 t373 bt380.1 bt415.2 bt417.1 true bt397.1 bt397.2.1 bt397.2.2.1)) else (laws_FnRecords.j0 k l1 t373 bt380.1 bt415.2 bt417.1 true bt397.1 bt397.2.1 bt397.2.2.1)) else (laws_FnRecords.j0 k l1 t373 bt380.1 bt415.2 bt417.1 true bt397.1 bt397.2.1 bt397.2.2.1)) else (laws_FnRecords.j0 k l1 t373 bt380.1 bt415.2 bt417.1 true bt397.1 bt397.2.1 bt397.2.2.1))) else (laws_FnRecords.j0 k l1 t373 bt380.1 bt415.2 bt417.1 true bt397.1 bt397.2.1 bt397.2.2.1))) else (laws_FnRecords.j0 k l1 t373 bt380.1 bt415.2 bt417.1 true bt397.1 bt397.2.1 bt397.2.2.1)) else (laws_FnRecords.j0 k l1 t373 bt380.1 bt415.2 bt417.1 true bt397.1 bt397.2.1 bt397.2.2.1)) else (laws_FnRecords.j0 k l1 t373 bt380.1 bt415.2 bt417.1 true bt397.1 bt397.2.1 bt397.2.2.1))) else (laws_FnRecords.j0 k l1 t373 bt380.1 bt415.2 bt417.1 true bt397.1 bt397.2.1 bt397.2.2.1)) else (laws_FnRecords.j0 k l1 t373 bt380.1 bt415.2 bt417.1 true bt397.1 bt397.2.1 bt397.2.2.1)) else (laws_FnRecords.j0 k l1 t373 bt380.1 bt415.2 bt417.1 true bt397.1 bt397.2.1 bt397.2.2.1))) else (laws_FnRecords.j0 k l1 t373 bt380.1 bt415.2 bt417.1 true bt397.1 bt397.2.1 bt397.2.2.1)) else (laws_FnRecords.j0 k l1 t373 bt380.1 bt415.2 bt417.1 true bt397.1 bt397.2.1 bt397.2.2.1))))))))))))
theorem laws_FnRecords.mono_l : ∀ k, (∀ y0 y1 y2 y3 y4 y5 y6 y7 y8, LeO (laws_FnRecords.j0 k y0 y1 y2 y3 y4 y5 y6 y7 y8) (laws_FnRecords.j0 (k + 1) y0 y1 y2 y3 y4 y5 y6 y7 y8)) ∧ (∀ y0 y1 y2 y3 y4 y5 y6 y7 y8 y9, LeO (laws_FnRecords.l0 k y0 y1 y2 y3 y4 y5 y6 y7 y8 y9) (laws_FnRecords.l0 (k + 1) y0 y1 y2 y3 y4 y5 y6 y7 y8 y9)) ∧ (∀ y0 y1 y2 y3 y4 y5 y6 y7 y8 y9 y10, LeO (laws_FnRecords.j2 k y0 y1 y2 y3 y4 y5 y6 y7 y8 y9 y10) (laws_FnRecords.j2 (k + 1) y0 y1 y2 y3 y4 y5 y6 y7 y8 y9 y10)) ∧ (∀ y0 y1 y2 y3 y4 y5 y6 y7 y8 y9 y10, LeO (laws_FnRecords.l1 k y0 y1 y2 y3 y4 y5 y6 y7 y8 y9 y10) (laws_FnRecords.l1 (k + 1) y0 y1 y2 y3 y4 y5 y6 y7 y8 y9 y10)) ∧ (∀ y0 y1 y2 y3 y4 y5 y6 y7 y8 y9 y10 y11, LeO (laws_FnRecords.j4 k y0 y1 y2 y3 y4 y5 y6 y7 y8 y9 y10 y11) (laws_FnRecords.j4 (k + 1) y0 y1 y2 y3 y4 y5 y6 y7 y8 y9 y10 y11)) ∧ (∀ y0 y1 y2 y3 y4 y5, LeO (laws_FnRecords.j5 k y0 y1 y2 y3 y4 y5) (laws_FnRecords.j5 (k + 1) y0 y1 y2 y3 y4 y5)) ∧ (∀ y0 y1 y2 y3 y4 y5, LeO (laws_FnRecords.j6 k y0 y1 y2 y3 y4 y5) (laws_FnRecords.j6 (k + 1) y0 y1 y2 y3 y4 y5)) ∧ (∀ y0 y1 y2 y3 y4 y5, LeO (laws_FnRecords.l2 k y0 y1 y2 y3 y4 y5) (laws_FnRecords.l2 (k + 1) y0 y1 y2 y3 y4 y5)) ∧ (∀ y0 y1 y2 y3 y4 y5 y6, LeO (laws_FnRecords.j8 k y0 y1 y2 y3 y4 y5 y6) (laws_FnRecords.j8 (k + 1) y0 y1 y2 y3 y4 y5 y6))
  | 0 => ⟨fun _ _ _ _ _ _ _ _ _ r h => by simp [laws_FnRecords.j0] at h, fun _ _ _ _ _ _ _ _ _ _ r h => by simp [laws_FnRecords.l0] at h, fun _ _ _ _ _ _ _ _ _ _ _ r h => by simp [laws_FnRecords.j2] at h, fun _ _ _ _ _ _ _ _ _ _ _ r h => by simp [laws_FnRecords.l1] at h, fun _ _ _ _ _ _ _ _ _ _ _ _ r h => by simp [laws_FnRecords.j4] at h, fun _ _ _ _ _ _ r h => by simp [laws_FnRecords.j5] at h, fun _ _ _ _ _ _ r h => by simp [laws_FnRecords.j6] at h, fun _ _ _ _ _ _ r h => by simp [laws_FnRecords.l2] at h, fun _ _ _ _ _ _ _ r h => by simp [laws_FnRecords.j8] at h⟩
  | k + 1 => by
    obtain ⟨ih0, ih1, ih2, ih3, ih4, ih5, ih6, ih7, ih8⟩ := laws_FnRecords.mono_l k
    refine ⟨?_, ?_, ?_, ?_, ?_, ?_, ?_, ?_, ?_⟩
    · intro y0 y1 y2 y3 y4 y5 y6 y7 y8
      unfold laws_FnRecords.j0
      repeat' first
      | (with_reducible exact ih0 _ _ _ _ _ _ _ _ _)
      | (with_reducible exact ih1 _ _ _ _ _ _ _ _ _ _)
      | (with_reducible exact ih2 _ _ _ _ _ _ _ _ _ _ _)
      | (with_reducible exact ih3 _ _ _ _ _ _ _ _ _ _ _)
      | (with_reducible exact ih4 _ _ _ _ _ _ _ _ _ _ _ _)
      | (with_reducible exact ih5 _ _ _ _ _ _)
      | (with_reducible exact ih6 _ _ _ _ _ _)
      | (with_reducible exact ih7 _ _ _ _ _ _)
      | (with_reducible exact ih8 _ _ _ _ _ _ _)
      | (with_reducible exact impl_BetweenAt.mono _ _ _ _ _)
      | (with_reducible exact impl_FirstBackward.mono _ _ _ _)
      | (with_reducible exact impl_FirstWrongCount.mono _ _ _ _)
      | (with_reducible exact impl_LastSeen.mono _ _ _ _ _)
      | (with_reducible exact impl_LogFrom.mono _ _ _ _)
      | (with_reducible exact impl_SortRecords.mono _ _ _ _)
      | (with_reducible exact impl_ValidLog.mono _ _ _ _)
      | (with_reducible exact impl_ValidRecords.mono _ _ _ _)
      | (with_reducible exact spec_A2Records.mono _ _)
      | (with_reducible exact spec_A2Same.mono _ _ _)
      | (with_reducible exact spec_A2SameRecords.mono _ _ _)
      | (with_reducible exact spec_BetweenAt.mono _ _ _ _ _)
      | (with_reducible exact spec_FirstBackward.mono _ _ _ _)
      | (with_reducible exact spec_LogFrom.mono _ _ _ _)
      | (with_reducible exact spec_SameLog.mono _ _ _ _ _ _ _)
      | (with_reducible exact spec_SortRecords.mono _ _ _ _)
      | (with_reducible exact LeO.refl _)
      | (with_reducible exact LeO.none _)
      | (with_reducible refine LeO.ite ?_ ?_)
      | (with_reducible refine LeO.bind ?_ (fun _ => ?_))
      | exact ih0 _ _ _ _ _ _ _ _ _
      | exact ih1 _ _ _ _ _ _ _ _ _ _
      | exact ih2 _ _ _ _ _ _ _ _ _ _ _
      | exact ih3 _ _ _ _ _ _ _ _ _ _ _
      | exact ih4 _ _ _ _ _ _ _ _ _ _ _ _
      | exact ih5 _ _ _ _ _ _
      | exact ih6 _ _ _ _ _ _
      | exact ih7 _ _ _ _ _ _
      | exact ih8 _ _ _ _ _ _ _
      | exact impl_BetweenAt.mono _ _ _ _ _
      | exact impl_FirstBackward.mono _ _ _ _
      | exact impl_FirstWrongCount.mono _ _ _ _
      | exact impl_LastSeen.mono _ _ _ _ _
      | exact impl_LogFrom.mono _ _ _ _
      | exact impl_SortRecords.mono _ _ _ _
      | exact impl_ValidLog.mono _ _ _ _
      | exact impl_ValidRecords.mono _ _ _ _
      | exact spec_A2Records.mono _ _
      | exact spec_A2Same.mono _ _ _
      | exact spec_A2SameRecords.mono _ _ _
      | exact spec_BetweenAt.mono _ _ _ _ _
      | exact spec_FirstBackward.mono _ _ _ _
      | exact spec_LogFrom.mono _ _ _ _
      | exact spec_SameLog.mono _ _ _ _ _ _ _
      | exact spec_SortRecords.mono _ _ _ _
      | exact LeO.none _
      | refine LeO.ite ?_ ?_
      | refine LeO.bind ?_ (fun _ => ?_)
    · intro y0 y1 y2 y3 y4 y5 y6 y7 y8 y9
      unfold laws_FnRecords.l0
      repeat' first
      | (with_reducible exact ih0 _ _ _ _ _ _ _ _ _)
      | (with_reducible exact ih1 _ _ _ _ _ _ _ _ _ _)
      | (with_reducible exact ih2 _ _ _ _ _ _ _ _ _ _ _)
      | (with_reducible exact ih3 _ _ _ _ _ _ _ _ _ _ _)
      | (with_reducible exact ih4 _ _ _ _ _ _ _ _ _ _ _ _)
      | (with_reducible exact ih5 _ _ _ _ _ _)
      | (with_reducible exact ih6 _ _ _ _ _ _)
      | (with_reducible exact ih7 _ _ _ _ _ _)
      | (with_reducible exact ih8 _ _ _ _ _ _ _)
      | (with_reducible exact impl_BetweenAt.mono _ _ _ _ _)
      | (with_reducible exact impl_FirstBackward.mono _ _ _ _)
      | (with_reducible exact impl_FirstWrongCount.mono _ _ _ _)
      | (with_reducible exact impl_LastSeen.mono _ _ _ _ _)
      | (with_reducible exact impl_LogFrom.mono _ _ _ _)
      | (with_reducible exact impl_SortRecords.mono _ _ _ _)
      | (with_reducible exact impl_ValidLog.mono _ _ _ _)
      | (with_reducible exact impl_ValidRecords.mono _ _ _ _)
      | (with_reducible exact spec_A2Records.mono _ _)
      | (with_reducible exact spec_A2Same.mono _ _ _)
      | (with_reducible exact spec_A2SameRecords.mono _ _ _)
      | (with_reducible exact spec_BetweenAt.mono _ _ _ _ _)
      | (with_reducible exact spec_FirstBackward.mono _ _ _ _)
      | (with_reducible exact spec_LogFrom.mono _ _ _ _)
      | (with_reducible exact spec_SameLog.mono _ _ _ _ _ _ _)
      | (with_reducible exact spec_SortRecords.mono _ _ _ _)
      | (with_reducible exact LeO.refl _)
      | (with_reducible exact LeO.none _)
      | (with_reducible refine LeO.ite ?_ ?_)
      | (with_reducible refine LeO.bind ?_ (fun _ => ?_))
      | exact ih0 _ _ _ _ _ _ _ _ _
      | exact ih1 _ _ _ _ _ _ _ _ _ _
      | exact ih2 _ _ _ _ _ _ _ _ _ _ _
      | exact ih3 _ _ _ _ _ _ _ _ _ _ _
      | exact ih4 _ _ _ _ _ _ _ _ _ _ _ _
      | exact ih5 _ _ _ _ _ _
      | exact ih6 _ _ _ _ _ _
      | exact ih7 _ _ _ _ _ _
      | exact ih8 _ _ _ _ _ _ _
      | exact impl_BetweenAt.mono _ _ _ _ _
      | exact impl_FirstBackward.mono _ _ _ _
      | exact impl_FirstWrongCount.mono _ _ _ _
      | exact impl_LastSeen.mono _ _ _ _ _
      | exact impl_LogFrom.mono _ _ _ _
      | exact impl_SortRecords.mono _ _ _ _
      | exact impl_ValidLog.mono _ _ _ _
      | exact impl_ValidRecords.mono _ _ _ _
      | exact spec_A2Records.mono _ _
      | exact spec_A2Same.mono _ _ _
      | exact spec_A2SameRecords.mono _ _ _
      | exact spec_BetweenAt.mono _ _ _ _ _
      | exact spec_FirstBackward.mono _ _ _ _
      | exact spec_LogFrom.mono _ _ _ _
      | exact spec_SameLog.mono _ _ _ _ _ _ _
      | exact spec_SortRecords.mono _ _ _ _
      | exact LeO.none _
      | refine LeO.ite ?_ ?_
      | refine LeO.bind ?_ (fun _ => ?_)
    · intro y0 y1 y2 y3 y4 y5 y6 y7 y8 y9 y10
      unfold laws_FnRecords.j2
      repeat' first
      | (with_reducible exact ih0 _ _ _ _ _ _ _ _ _)
      | (with_reducible exact ih1 _ _ _ _ _ _ _ _ _ _)
      | (with_reducible exact ih2 _ _ _ _ _ _ _ _ _ _ _)
      | (with_reducible exact ih3 _ _ _ _ _ _ _ _ _ _ _)
      | (with_reducible exact ih4 _ _ _ _ _ _ _ _ _ _ _ _)
      | (with_reducible exact ih5 _ _ _ _ _ _)
      | (with_reducible exact ih6 _ _ _ _ _ _)
      | (with_reducible exact ih7 _ _ _ _ _ _)
      | (with_reducible exact ih8 _ _ _ _ _ _ _)
      | (with_reducible exact impl_BetweenAt.mono _ _ _ _ _)
      | (with_reducible exact impl_FirstBackward.mono _ _ _ _)
      | (with_reducible exact impl_FirstWrongCount.mono _ _ _ _)
      | (with_reducible exact impl_LastSeen.mono _ _ _ _ _)
      | (with_reducible exact impl_LogFrom.mono _ _ _ _)
      | (with_reducible exact impl_SortRecords.mono _ _ _ _)
      | (with_reducible exact impl_ValidLog.mono _ _ _ _)
      | (with_reducible exact impl_ValidRecords.mono _ _ _ _)
      | (with_reducible exact spec_A2Records.mono _ _)
      | (with_reducible exact spec_A2Same.mono _ _ _)
      | (with_reducible exact spec_A2SameRecords.mono _ _ _)
      | (with_reducible exact spec_BetweenAt.mono _ _ _ _ _)
      | (with_reducible exact spec_FirstBackward.mono _ _ _ _)
      | (with_reducible exact spec_LogFrom.mono _ _ _ _)
      | (with_reducible exact spec_SameLog.mono _ _ _ _ _ _ _)
      | (with_reducible exact spec_SortRecords.mono _ _ _ _)
      | (with_reducible exact LeO.refl _)
      | (with_reducible exact LeO.none _)
      | (with_reducible refine LeO.ite ?_ ?_)
      | (with_reducible refine LeO.bind ?_ (fun _ => ?_))
      | exact ih0 _ _ _ _ _ _ _ _ _
      | exact ih1 _ _ _ _ _ _ _ _ _ _
      | exact ih2 _ _ _ _ _ _ _ _ _ _ _
      | exact ih3 _ _ _ _ _ _ _ _ _ _ _
      | exact ih4 _ _ _ _ _ _ _ _ _ _ _ _
      | exact ih5 _ _ _ _ _ _
      | exact ih6 _ _ _ _ _ _
      | exact ih7 _ _ _ _ _ _
      | exact ih8 _ _ _ _ _ _ _
      | exact impl_BetweenAt.mono _ _ _ _ _
      | exact impl_FirstBackward.mono _ _ _ _
      | exact impl_FirstWrongCount.mono _ _ _ _
      | exact impl_LastSeen.mono _ _ _ _ _
      | exact impl_LogFrom.mono _ _ _ _
      | exact impl_SortRecords.mono _ _ _ _
      | exact impl_ValidLog.mono _ _ _ _
      | exact impl_ValidRecords.mono _ _ _ _
      | exact spec_A2Records.mono _ _
      | exact spec_A2Same.mono _ _ _
      | exact spec_A2SameRecords.mono _ _ _
      | exact spec_BetweenAt.mono _ _ _ _ _
      | exact spec_FirstBackward.mono _ _ _ _
      | exact spec_LogFrom.mono _ _ _ _
      | exact spec_SameLog.mono _ _ _ _ _ _ _
      | exact spec_SortRecords.mono _ _ _ _
      | exact LeO.none _
      | refine LeO.ite ?_ ?_
      | refine LeO.bind ?_ (fun _ => ?_)
    · intro y0 y1 y2 y3 y4 y5 y6 y7 y8 y9 y10
      unfold laws_FnRecords.l1
      repeat' first
      | (with_reducible exact ih0 _ _ _ _ _ _ _ _ _)
      | (with_reducible exact ih1 _ _ _ _ _ _ _ _ _ _)
      | (with_reducible exact ih2 _ _ _ _ _ _ _ _ _ _ _)
      | (with_reducible exact ih3 _ _ _ _ _ _ _ _ _ _ _)
      | (with_reducible exact ih4 _ _ _ _ _ _ _ _ _ _ _ _)
      | (with_reducible exact ih5 _ _ _ _ _ _)
      | (with_reducible exact ih6 _ _ _ _ _ _)
      | (with_reducible exact ih7 _ _ _ _ _ _)
      | (with_reducible exact ih8 _ _ _ _ _ _ _)
      | (with_reducible exact impl_BetweenAt.mono _ _ _ _ _)
      | (with_reducible exact impl_FirstBackward.mono _ _ _ _)
      | (with_reducible exact impl_FirstWrongCount.mono _ _ _ _)
      | (with_reducible exact impl_LastSeen.mono _ _ _ _ _)
      | (with_reducible exact impl_LogFrom.mono _ _ _ _)
      | (with_reducible exact impl_SortRecords.mono _ _ _ _)
      | (with_reducible exact impl_ValidLog.mono _ _ _ _)
      | (with_reducible exact impl_ValidRecords.mono _ _ _ _)
      | (with_reducible exact spec_A2Records.mono _ _)
      | (with_reducible exact spec_A2Same.mono _ _ _)
      | (with_reducible exact spec_A2SameRecords.mono _ _ _)
      | (with_reducible exact spec_BetweenAt.mono _ _ _ _ _)
      | (with_reducible exact spec_FirstBackward.mono _ _ _ _)
      | (with_reducible exact spec_LogFrom.mono _ _ _ _)
      | (with_reducible exact spec_SameLog.mono _ _ _ _ _ _ _)
      | (with_reducible exact spec_SortRecords.mono _ _ _ _)
      | (with_reducible exact LeO.refl _)
      | (with_reducible exact LeO.none _)
      | (with_reducible refine LeO.ite ?_ ?_)
      | (with_reducible refine LeO.bind ?_ (fun _ => ?_))
      | exact ih0 _ _ _ _ _ _ _ _ _
      | exact ih1 _ _ _ _ _ _ _ _ _ _
      | exact ih2 _ _ _ _ _ _ _ _ _ _ _
      | exact ih3 _ _ _ _ _ _ _ _ _ _ _
      | exact ih4 _ _ _ _ _ _ _ _ _ _ _ _
      | exact ih5 _ _ _ _ _ _
      | exact ih6 _ _ _ _ _ _
      | exact ih7 _ _ _ _ _ _
      | exact ih8 _ _ _ _ _ _ _
      | exact impl_BetweenAt.mono _ _ _ _ _
      | exact impl_FirstBackward.mono _ _ _ _
      | exact impl_FirstWrongCount.mono _ _ _ _
      | exact impl_LastSeen.mono _ _ _ _ _
      | exact impl_LogFrom.mono _ _ _ _
      | exact impl_SortRecords.mono _ _ _ _
      | exact impl_ValidLog.mono _ _ _ _
      | exact impl_ValidRecords.mono _ _ _ _
      | exact spec_A2Records.mono _ _
      | exact spec_A2Same.mono _ _ _
      | exact spec_A2SameRecords.mono _ _ _
      | exact spec_BetweenAt.mono _ _ _ _ _
      | exact spec_FirstBackward.mono _ _ _ _
      | exact spec_LogFrom.mono _ _ _ _
      | exact spec_SameLog.mono _ _ _ _ _ _ _
      | exact spec_SortRecords.mono _ _ _ _
      | exact LeO.none _
      | refine LeO.ite ?_ ?_
      | refine LeO.bind ?_ (fun _ => ?_)
    · intro y0 y1 y2 y3 y4 y5 y6 y7 y8 y9 y10 y11
      unfold laws_FnRecords.j4
      repeat' first
      | (with_reducible exact ih0 _ _ _ _ _ _ _ _ _)
      | (with_reducible exact ih1 _ _ _ _ _ _ _ _ _ _)
      | (with_reducible exact ih2 _ _ _ _ _ _ _ _ _ _ _)
      | (with_reducible exact ih3 _ _ _ _ _ _ _ _ _ _ _)
      | (with_reducible exact ih4 _ _ _ _ _ _ _ _ _ _ _ _)
      | (with_reducible exact ih5 _ _ _ _ _ _)
      | (with_reducible exact ih6 _ _ _ _ _ _)
      | (with_reducible exact ih7 _ _ _ _ _ _)
      | (with_reducible exact ih8 _ _ _ _ _ _ _)
      | (with_reducible exact impl_BetweenAt.mono _ _ _ _ _)
      | (with_reducible exact impl_FirstBackward.mono _ _ _ _)
      | (with_reducible exact impl_FirstWrongCount.mono _ _ _ _)
      | (with_reducible exact impl_LastSeen.mono _ _ _ _ _)
      | (with_reducible exact impl_LogFrom.mono _ _ _ _)
      | (with_reducible exact impl_SortRecords.mono _ _ _ _)
      | (with_reducible exact impl_ValidLog.mono _ _ _ _)
      | (with_reducible exact impl_ValidRecords.mono _ _ _ _)
      | (with_reducible exact spec_A2Records.mono _ _)
      | (with_reducible exact spec_A2Same.mono _ _ _)
      | (with_reducible exact spec_A2SameRecords.mono _ _ _)
      | (with_reducible exact spec_BetweenAt.mono _ _ _ _ _)
      | (with_reducible exact spec_FirstBackward.mono _ _ _ _)
      | (with_reducible exact spec_LogFrom.mono _ _ _ _)
      | (with_reducible exact spec_SameLog.mono _ _ _ _ _ _ _)
      | (with_reducible exact spec_SortRecords.mono _ _ _ _)
      | (with_reducible exact LeO.refl _)
      | (with_reducible exact LeO.none _)
      | (with_reducible refine LeO.ite ?_ ?_)
      | (with_reducible refine LeO.bind ?_ (fun _ => ?_))
      | exact ih0 _ _ _ _ _ _ _ _ _
      | exact ih1 _ _ _ _ _ _ _ _ _ _
      | exact ih2 _ _ _ _ _ _ _ _ _ _ _
      | exact ih3 _ _ _ _ _ _ _ _ _ _ _
      | exact ih4 _ _ _ _ _ _ _ _ _ _ _ _
      | exact ih5 _ _ _ _ _ _
      | exact ih6 _ _ _ _ _ _
      | exact ih7 _ _ _ _ _ _
      | exact ih8 _ _ _ _ _ _ _
      | exact impl_BetweenAt.mono _ _ _ _ _
      | exact impl_FirstBackward.mono _ _ _ _
      | exact impl_FirstWrongCount.mono _ _ _ _
      | exact impl_LastSeen.mono _ _ _ _ _
      | exact impl_LogFrom.mono _ _ _ _
      | exact impl_SortRecords.mono _ _ _ _
      | exact impl_ValidLog.mono _ _ _ _
      | exact impl_ValidRecords.mono _ _ _ _
      | exact spec_A2Records.mono _ _
      | exact spec_A2Same.mono _ _ _
      | exact spec_A2SameRecords.mono _ _ _
      | exact spec_BetweenAt.mono _ _ _ _ _
      | exact spec_FirstBackward.mono _ _ _ _
      | exact spec_LogFrom.mono _ _ _ _
      | exact spec_SameLog.mono _ _ _ _ _ _ _
      | exact spec_SortRecords.mono _ _ _ _
      | exact LeO.none _
      | refine LeO.ite ?_ ?_
      | refine LeO.bind ?_ (fun _ => ?_)
    · intro y0 y1 y2 y3 y4 y5
      unfold laws_FnRecords.j5
      repeat' first
      | (with_reducible exact ih0 _ _ _ _ _ _ _ _ _)
      | (with_reducible exact ih1 _ _ _ _ _ _ _ _ _ _)
      | (with_reducible exact ih2 _ _ _ _ _ _ _ _ _ _ _)
      | (with_reducible exact ih3 _ _ _ _ _ _ _ _ _ _ _)
      | (with_reducible exact ih4 _ _ _ _ _ _ _ _ _ _ _ _)
      | (with_reducible exact ih5 _ _ _ _ _ _)
      | (with_reducible exact ih6 _ _ _ _ _ _)
      | (with_reducible exact ih7 _ _ _ _ _ _)
      | (with_reducible exact ih8 _ _ _ _ _ _ _)
      | (with_reducible exact impl_BetweenAt.mono _ _ _ _ _)
      | (with_reducible exact impl_FirstBackward.mono _ _ _ _)
      | (with_reducible exact impl_FirstWrongCount.mono _ _ _ _)
      | (with_reducible exact impl_LastSeen.mono _ _ _ _ _)
      | (with_reducible exact impl_LogFrom.mono _ _ _ _)
      | (with_reducible exact impl_SortRecords.mono _ _ _ _)
      | (with_reducible exact impl_ValidLog.mono _ _ _ _)
      | (with_reducible exact impl_ValidRecords.mono _ _ _ _)
      | (with_reducible exact spec_A2Records.mono _ _)
      | (with_reducible exact spec_A2Same.mono _ _ _)
      | (with_reducible exact spec_A2SameRecords.mono _ _ _)
      | (with_reducible exact spec_BetweenAt.mono _ _ _ _ _)
      | (with_reducible exact spec_FirstBackward.mono _ _ _ _)
      | (with_reducible exact spec_LogFrom.mono _ _ _ _)
      | (with_reducible exact spec_SameLog.mono _ _ _ _ _ _ _)
      | (with_reducible exact spec_SortRecords.mono _ _ _ _)
      | (with_reducible exact LeO.refl _)
      | (with_reducible exact LeO.none _)
      | (with_reducible refine LeO.ite ?_ ?_)
      | (with_reducible refine LeO.bind ?_ (fun _ => ?_))
      | exact ih0 _ _ _ _ _ _ _ _ _
      | exact ih1 _ _ _ _ _ _ _ _ _ _
      | exact ih2 _ _ _ _ _ _ _ _ _ _ _
      | exact ih3 _ _ _ _ _ _ _ _ _ _ _
      | exact ih4 _ _ _ _ _ _ _ _ _ _ _ _
      | exact ih5 _ _ _ _ _ _
      | exact ih6 _ _ _ _ _ _
      | exact ih7 _ _ _ _ _ _
      | exact ih8 _ _ _ _ _ _ _
      | exact impl_BetweenAt.mono _ _ _ _ _
      | exact impl_FirstBackward.mono _ _ _ _
      | exact impl_FirstWrongCount.mono _ _ _ _
      | exact impl_LastSeen.mono _ _ _ _ _
      | exact impl_LogFrom.mono _ _ _ _
      | exact impl_SortRecords.mono _ _ _ _
      | exact impl_ValidLog.mono _ _ _ _
      | exact impl_ValidRecords.mono _ _ _ _
      | exact spec_A2Records.mono _ _
      | exact spec_A2Same.mono _ _ _
      | exact spec_A2SameRecords.mono _ _ _
      | exact spec_BetweenAt.mono _ _ _ _ _
      | exact spec_FirstBackward.mono _ _ _ _
      | exact spec_LogFrom.mono _ _ _ _
      | exact spec_SameLog.mono _ _ _ _ _ _ _
      | exact spec_SortRecords.mono _ _ _ _
      | exact LeO.none _
      | refine LeO.ite ?_ ?_
      | refine LeO.bind ?_ (fun _ => ?_)
    · intro y0 y1 y2 y3 y4 y5
      unfold laws_FnRecords.j6
      repeat' first
      | (with_reducible exact ih0 _ _ _ _ _ _ _ _ _)
      | (with_reducible exact ih1 _ _ _ _ _ _ _ _ _ _)
      | (with_reducible exact ih2 _ _ _ _ _ _ _ _ _ _ _)
      | (with_reducible exact ih3 _ _ _ _ _ _ _ _ _ _ _)
      | (with_reducible exact ih4 _ _ _ _ _ _ _ _ _ _ _ _)
      | (with_reducible exact ih5 _ _ _ _ _ _)
      | (with_reducible exact ih6 _ _ _ _ _ _)
      | (with_reducible exact ih7 _ _ _ _ _ _)
      | (with_reducible exact ih8 _ _ _ _ _ _ _)
      | (with_reducible exact impl_BetweenAt.mono _ _ _ _ _)
      | (with_reducible exact impl_FirstBackward.mono _ _ _ _)
      | (with_reducible exact impl_FirstWrongCount.mono _ _ _ _)
      | (with_reducible exact impl_LastSeen.mono _ _ _ _ _)
      | (with_reducible exact impl_LogFrom.mono _ _ _ _)
      | (with_reducible exact impl_SortRecords.mono _ _ _ _)
      | (with_reducible exact impl_ValidLog.mono _ _ _ _)
      | (with_reducible exact impl_ValidRecords.mono _ _ _ _)
      | (with_reducible exact spec_A2Records.mono _ _)
      | (with_reducible exact spec_A2Same.mono _ _ _)
      | (with_reducible exact spec_A2SameRecords.mono _ _ _)
      | (with_reducible exact spec_BetweenAt.mono _ _ _ _ _)
      | (with_reducible exact spec_FirstBackward.mono _ _ _ _)
      | (with_reducible exact spec_LogFrom.mono _ _ _ _)
      | (with_reducible exact spec_SameLog.mono _ _ _ _ _ _ _)
      | (with_reducible exact spec_SortRecords.mono _ _ _ _)
      | (with_reducible exact LeO.refl _)
      | (with_reducible exact LeO.none _)
      | (with_reducible refine LeO.ite ?_ ?_)
      | (with_reducible refine LeO.bind ?_ (fun _ => ?_))
      | exact ih0 _ _ _ _ _ _ _ _ _
      | exact ih1 _ _ _ _ _ _ _ _ _ _
      | exact ih2 _ _ _ _ _ _ _ _ _ _ _
      | exact ih3 _ _ _ _ _ _ _ _ _ _ _
      | exact ih4 _ _ _ _ _ _ _ _ _ _ _ _
      | exact ih5 _ _ _ _ _ _
      | exact ih6 _ _ _ _ _ _
      | exact ih7 _ _ _ _ _ _
      | exact ih8 _ _ _ _ _ _ _
      | exact impl_BetweenAt.mono _ _ _ _ _
      | exact impl_FirstBackward.mono _ _ _ _
      | exact impl_FirstWrongCount.mono _ _ _ _
      | exact impl_LastSeen.mono _ _ _ _ _
      | exact impl_LogFrom.mono _ _ _ _
      | exact impl_SortRecords.mono _ _ _ _
      | exact impl_ValidLog.mono _ _ _ _
      | exact impl_ValidRecords.mono _ _ _ _
      | exact spec_A2Records.mono _ _
      | exact spec_A2Same.mono _ _ _
      | exact spec_A2SameRecords.mono _ _ _
      | exact spec_BetweenAt.mono _ _ _ _ _
      | exact spec_FirstBackward.mono _ _ _ _
      | exact spec_LogFrom.mono _ _ _ _
      | exact spec_SameLog.mono _ _ _ _ _ _ _
      | exact spec_SortRecords.mono _ _ _ _
      | exact LeO.none _
      | refine LeO.ite ?_ ?_
      | refine LeO.bind ?_ (fun _ => ?_)
    · intro y0 y1 y2 y3 y4 y5
      unfold laws_FnRecords.l2
      repeat' first
      | (with_reducible exact ih0 _ _ _ _ _ _ _ _ _)
      | (with_reducible exact ih1 _ _ _ _ _ _ _ _ _ _)
      | (with_reducible exact ih2 _ _ _ _ _ _ _ _ _ _ _)
      | (with_reducible exact ih3 _ _ _ _ _ _ _ _ _ _ _)
      | (with_reducible exact ih4 _ _ _ _ _ _ _ _ _ _ _ _)
      | (with_reducible exact ih5 _ _ _ _ _ _)
      | (with_reducible exact ih6 _ _ _ _ _ _)
      | (with_reducible exact ih7 _ _ _ _ _ _)
      | (with_reducible exact ih8 _ _ _ _ _ _ _)
      | (with_reducible exact impl_BetweenAt.mono _ _ _ _ _)
      | (with_reducible exact impl_FirstBackward.mono _ _ _ _)
      | (with_reducible exact impl_FirstWrongCount.mono _ _ _ _)
      | (with_reducible exact impl_LastSeen.mono _ _ _ _ _)
      | (with_reducible exact impl_LogFrom.mono _ _ _ _)
      | (with_reducible exact impl_SortRecords.mono _ _ _ _)
      | (with_reducible exact impl_ValidLog.mono _ _ _ _)
      | (with_reducible exact impl_ValidRecords.mono _ _ _ _)
      | (with_reducible exact spec_A2Records.mono _ _)
      | (with_reducible exact spec_A2Same.mono _ _ _)
      | (with_reducible exact spec_A2SameRecords.mono _ _ _)
      | (with_reducible exact spec_BetweenAt.mono _ _ _ _ _)
      | (with_reducible exact spec_FirstBackward.mono _ _ _ _)
      | (with_reducible exact spec_LogFrom.mono _ _ _ _)
      | (with_reducible exact spec_SameLog.mono _ _ _ _ _ _ _)
      | (with_reducible exact spec_SortRecords.mono _ _ _ _)
      | (with_reducible exact LeO.refl _)
      | (with_reducible exact LeO.none _)
      | (with_reducible refine LeO.ite ?_ ?_)
      | (with_reducible refine LeO.bind ?_ (fun _ => ?_))
      | exact ih0 _ _ _ _ _ _ _ _ _
      | exact ih1 _ _ _ _ _ _ _ _ _ _
      | exact ih2 _ _ _ _ _ _ _ _ _ _ _
      | exact ih3 _ _ _ _ _ _ _ _ _ _ _
      | exact ih4 _ _ _ _ _ _ _ _ _ _ _ _
      | exact ih5 _ _ _ _ _ _
      | exact ih6 _ _ _ _ _ _
      | exact ih7 _ _ _ _ _ _
      | exact ih8 _ _ _ _ _ _ _
      | exact impl_BetweenAt.mono _ _ _ _ _
      | exact impl_FirstBackward.mono _ _ _ _
      | exact impl_FirstWrongCount.mono _ _ _ _
      | exact impl_LastSeen.mono _ _ _ _ _
      | exact impl_LogFrom.mono _ _ _ _
      | exact impl_SortRecords.mono _ _ _ _
      | exact impl_ValidLog.mono _ _ _ _
      | exact impl_ValidRecords.mono _ _ _ _
      | exact spec_A2Records.mono _ _
      | exact spec_A2Same.mono _ _ _
      | exact spec_A2SameRecords.mono _ _ _
      | exact spec_BetweenAt.mono _ _ _ _ _
      | exact spec_FirstBackward.mono _ _ _ _
      | exact spec_LogFrom.mono _ _ _ _
      | exact spec_SameLog.mono _ _ _ _ _ _ _
      | exact spec_SortRecords.mono _ _ _ _
      | exact LeO.none _
      | refine LeO.ite ?_ ?_
      | refine LeO.bind ?_ (fun _ => ?_)
    · intro y0 y1 y2 y3 y4 y5 y6
      unfold laws_FnRecords.j8
      repeat' first
      | (with_reducible exact ih0 _ _ _ _ _ _ _ _ _)
      | (with_reducible exact ih1 _ _ _ _ _ _ _ _ _ _)
      | (with_reducible exact ih2 _ _ _ _ _ _ _ _ _ _ _)
      | (with_reducible exact ih3 _ _ _ _ _ _ _ _ _ _ _)
      | (with_reducible exact ih4 _ _ _ _ _ _ _ _ _ _ _ _)
      | (with_reducible exact ih5 _ _ _ _ _ _)
      | (with_reducible exact ih6 _ _ _ _ _ _)
      | (with_reducible exact ih7 _ _ _ _ _ _)
      | (with_reducible exact ih8 _ _ _ _ _ _ _)
      | (with_reducible exact impl_BetweenAt.mono _ _ _ _ _)
      | (with_reducible exact impl_FirstBackward.mono _ _ _ _)
      | (with_reducible exact impl_FirstWrongCount.mono _ _ _ _)
      | (with_reducible exact impl_LastSeen.mono _ _ _ _ _)
      | (with_reducible exact impl_LogFrom.mono _ _ _ _)
      | (with_reducible exact impl_SortRecords.mono _ _ _ _)
      | (with_reducible exact impl_ValidLog.mono _ _ _ _)
      | (with_reducible exact impl_ValidRecords.mono _ _ _ _)
      | (with_reducible exact spec_A2Records.mono _ _)
      | (with_reducible exact spec_A2Same.mono _ _ _)
      | (with_reducible exact spec_A2SameRecords.mono _ _ _)
      | (with_reducible exact spec_BetweenAt.mono _ _ _ _ _)
      | (with_reducible exact spec_FirstBackward.mono _ _ _ _)
      | (with_reducible exact spec_LogFrom.mono _ _ _ _)
      | (with_reducible exact spec_SameLog.mono _ _ _ _ _ _ _)
      | (with_reducible exact spec_SortRecords.mono _ _ _ _)
      | (with_reducible exact LeO.refl _)
      | (with_reducible exact LeO.none _)
      | (with_reducible refine LeO.ite ?_ ?_)
      | (with_reducible refine LeO.bind ?_ (fun _ => ?_))
      | exact ih0 _ _ _ _ _ _ _ _ _
      | exact ih1 _ _ _ _ _ _ _ _ _ _
      | exact ih2 _ _ _ _ _ _ _ _ _ _ _
      | exact ih3 _ _ _ _ _ _ _ _ _ _ _
      | exact ih4 _ _ _ _ _ _ _ _ _ _ _ _
      | exact ih5 _ _ _ _ _ _
      | exact ih6 _ _ _ _ _ _
      | exact ih7 _ _ _ _ _ _
      | exact ih8 _ _ _ _ _ _ _
      | exact impl_BetweenAt.mono _ _ _ _ _
      | exact impl_FirstBackward.mono _ _ _ _
      | exact impl_FirstWrongCount.mono _ _ _ _
      | exact impl_LastSeen.mono _ _ _ _ _
      | exact impl_LogFrom.mono _ _ _ _
      | exact impl_SortRecords.mono _ _ _ _
      | exact impl_ValidLog.mono _ _ _ _
      | exact impl_ValidRecords.mono _ _ _ _
      | exact spec_A2Records.mono _ _
      | exact spec_A2Same.mono _ _ _
      | exact spec_A2SameRecords.mono _ _ _
      | exact spec_BetweenAt.mono _ _ _ _ _
      | exact spec_FirstBackward.mono _ _ _ _
      | exact spec_LogFrom.mono _ _ _ _
      | exact spec_SameLog.mono _ _ _ _ _ _ _
      | exact spec_SortRecords.mono _ _ _ _
      | exact LeO.none _
      | refine LeO.ite ?_ ?_
      | refine LeO.bind ?_ (fun _ => ?_)
theorem laws_FnRecords.mono : ∀ a0 a1 k, LeO (laws_FnRecords.f k a0 a1) (laws_FnRecords.f (k + 1) a0 a1) := by
  intro a0 a1 k
  obtain ⟨ih0, ih1, ih2, ih3, ih4, ih5, ih6, ih7, ih8⟩ := laws_FnRecords.mono_l k
  unfold laws_FnRecords.f
  repeat' first
      | (with_reducible exact ih0 _ _ _ _ _ _ _ _ _)
      | (with_reducible exact ih1 _ _ _ _ _ _ _ _ _ _)
      | (with_reducible exact ih2 _ _ _ _ _ _ _ _ _ _ _)
      | (with_reducible exact ih3 _ _ _ _ _ _ _ _ _ _ _)
      | (with_reducible exact ih4 _ _ _ _ _ _ _ _ _ _ _ _)
      | (with_reducible exact ih5 _ _ _ _ _ _)
      | (with_reducible exact ih6 _ _ _ _ _ _)
      | (with_reducible exact ih7 _ _ _ _ _ _)
      | (with_reducible exact ih8 _ _ _ _ _ _ _)
      | (with_reducible exact impl_BetweenAt.mono _ _ _ _ _)
      | (with_reducible exact impl_FirstBackward.mono _ _ _ _)
      | (with_reducible exact impl_FirstWrongCount.mono _ _ _ _)
      | (with_reducible exact impl_LastSeen.mono _ _ _ _ _)
      | (with_reducible exact impl_LogFrom.mono _ _ _ _)
      | (with_reducible exact impl_SortRecords.mono _ _ _ _)
      | (with_reducible exact impl_ValidLog.mono _ _ _ _)
      | (with_reducible exact impl_ValidRecords.mono _ _ _ _)
      | (with_reducible exact spec_A2Records.mono _ _)
      | (with_reducible exact spec_A2Same.mono _ _ _)
      | (with_reducible exact spec_A2SameRecords.mono _ _ _)
      | (with_reducible exact spec_BetweenAt.mono _ _ _ _ _)
      | (with_reducible exact spec_FirstBackward.mono _ _ _ _)
      | (with_reducible exact spec_LogFrom.mono _ _ _ _)
      | (with_reducible exact spec_SameLog.mono _ _ _ _ _ _ _)
      | (with_reducible exact spec_SortRecords.mono _ _ _ _)
      | (with_reducible exact LeO.refl _)
      | (with_reducible exact LeO.none _)
      | (with_reducible refine LeO.ite ?_ ?_)
      | (with_reducible refine LeO.bind ?_ (fun _ => ?_))
      | exact ih0 _ _ _ _ _ _ _ _ _
      | exact ih1 _ _ _ _ _ _ _ _ _ _
      | exact ih2 _ _ _ _ _ _ _ _ _ _ _
      | exact ih3 _ _ _ _ _ _ _ _ _ _ _
      | exact ih4 _ _ _ _ _ _ _ _ _ _ _ _
      | exact ih5 _ _ _ _ _ _
      | exact ih6 _ _ _ _ _ _
      | exact ih7 _ _ _ _ _ _
      | exact ih8 _ _ _ _ _ _ _
      | exact impl_BetweenAt.mono _ _ _ _ _
      | exact impl_FirstBackward.mono _ _ _ _
      | exact impl_FirstWrongCount.mono _ _ _ _
      | exact impl_LastSeen.mono _ _ _ _ _
      | exact impl_LogFrom.mono _ _ _ _
      | exact impl_SortRecords.mono _ _ _ _
      | exact impl_ValidLog.mono _ _ _ _
      | exact impl_ValidRecords.mono _ _ _ _
      | exact spec_A2Records.mono _ _
      | exact spec_A2Same.mono _ _ _
      | exact spec_A2SameRecords.mono _ _ _
      | exact spec_BetweenAt.mono _ _ _ _ _
      | exact spec_FirstBackward.mono _ _ _ _
      | exact spec_LogFrom.mono _ _ _ _
      | exact spec_SameLog.mono _ _ _ _ _ _ _
      | exact spec_SortRecords.mono _ _ _ _
      | exact LeO.none _
      | refine LeO.ite ?_ ?_
      | refine LeO.bind ?_ (fun _ => ?_)
/-! short words of arms.py: facts carried over a call, what a box holds -/
section
variable {α β : Type} {d : Kd α} {d' : Kd β} {e base : Nat} {w w1 w2 : World} {ok : Nat → Prop} {v : Value} {xs : List α} {ys : List β}
theorem sC {A : Option Addr} {n c : Nat} {B : Prop} (h : Aside0 (d.R e w base ok (.slice A n c) xs)) (f : d.C w A xs.length xs → B := by intro h_; repeat (first | (with_reducible exact h_) | (with_reducible apply Kd.C_alloc) | (with_reducible apply Kd.C_drewN) | (with_reducible apply Kd.C_drew) | exact h_)) : B := f (Kd.R_reads' h.out).2.2
theorem sL {A : Option Addr} {n c : Nat} (h : Aside0 (d.R e w base ok (.slice A n c) xs)) : n ≤ c := (Kd.R_reads' h.out).2.1
theorem sD {A B : Prop} (h : Aside0 A) (f : A → B := by intro h_; repeat (first | (with_reducible exact h_) | (with_reducible apply Kd.C_alloc) | (with_reducible apply Kd.C_drewN) | (with_reducible apply Kd.C_drew) | exact h_)) : B := f h.out
theorem kR {A : Prop} (h : Aside0 A) (hb : Below w.heap.size w w1) (f : A → d.R e w base ok v xs := by intro h_; (with_reducible repeat (first | apply Kd.R_alloc | apply Kd.R_drewN | apply Kd.R_drew)); exact h_) : Aside0 (d.R e w1 base ok v xs) := ⟨Kd.R_below (f h.out) hb⟩
theorem kE {A : Prop} {e' : Nat} {w' : World} {ok' : Nat → Prop} {u : Value} (h : Aside0 A) (ho : d'.R e' w' w.heap.size ok' v ys) (hb : Below w.heap.size w w1) (f : A → d.R e w base ok u xs := by intro h_; (with_reducible repeat (first | apply Kd.R_alloc | apply Kd.R_drewN | apply Kd.R_drew)); exact h_) : Aside0 (d.R e w1 base (fun k => ok k ∧ some k ≠ v.ownBlock) u xs) := ⟨Kd.R_elder' (f h.out) (Kd.R_base ho) hb⟩
theorem kC {A : Prop} {a : Option Addr} {n : Nat} (h : Aside0 A) (hb : Below w.heap.size w w1) (f : A → d.C w a n xs := by intro h_; repeat (first | (with_reducible exact h_) | (with_reducible apply Kd.C_alloc) | (with_reducible apply Kd.C_drewN) | (with_reducible apply Kd.C_drew) | exact h_)) : Aside0 (d.C w1 a n xs) := ⟨Kd.C_below (f h.out) hb⟩
theorem kK {A : Prop} {g : Nat} {o : Obj} (h : Aside0 A) (hb : Below w.heap.size w w1) (f : A → w.heap[g]? = some o := by intro h_; repeat (first | (with_reducible exact h_) | (with_reducible apply blk_alloc) | exact h_)) : Aside0 (w1.heap[g]? = some o) := ⟨blk_below (f h.out) hb⟩
theorem kB {A : Prop} (h : Aside0 A) (hb : Below w1.heap.size w1 w2) (f : A → Below w.heap.size w w1 := by intro h_; repeat (first | (with_reducible first | exact h_ | apply below_alloc | apply pw_below_drewN | apply below_drew1) | exact h_)) : Aside0 (Below w.heap.size w w2) := ⟨below_step (f h.out) hb⟩
theorem kB1 {A G : Prop} (h : Aside0 A) (g : Aside0 G) (hb : Below w1.heap.size w1 w2) (f : A → G → Below w.heap.size w w1 := by intro h_ g_; repeat (first | (with_reducible first | exact h_ | apply below_alloc | apply pw_below_drewN | apply below_drew1 | (refine below_set ?_ g_)) | exact h_)) : Aside0 (Below w.heap.size w w2) := ⟨below_step (f h.out g.out) hb⟩
theorem kB2 {A G G' : Prop} (h : Aside0 A) (g : Aside0 G) (g' : Aside0 G') (hb : Below w1.heap.size w1 w2) (f : A → G → G' → Below w.heap.size w w1 := by intro h_ g_ g2_; repeat (first | (with_reducible first | exact h_ | apply below_alloc | apply pw_below_drewN | apply below_drew1 | (refine below_set ?_ g_) | refine below_set ?_ g2_) | exact h_)) : Aside0 (Below w.heap.size w w2) := ⟨below_step (f h.out g.out g'.out) hb⟩
theorem kB3 {A G G' G'' : Prop} (h : Aside0 A) (g : Aside0 G) (g' : Aside0 G') (g'' : Aside0 G'') (hb : Below w1.heap.size w1 w2) (f : A → G → G' → G'' → Below w.heap.size w w1 := by intro h_ g_ g2_ g3_; repeat (first | (with_reducible first | exact h_ | apply below_alloc | apply pw_below_drewN | apply below_drew1 | (refine below_set ?_ g_) | refine below_set ?_ g2_ | refine below_set ?_ g3_) | exact h_)) : Aside0 (Below w.heap.size w w2) := ⟨below_step (f h.out g.out g'.out g''.out) hb⟩
theorem zK2 {A B : Prop} (h : A) (f : A → B := by intro h_; repeat (first | (with_reducible exact h_) | (with_reducible apply blk_alloc) | exact h_)) : B := f h
theorem cz2 (w : World) {A : Prop} {g : Nat} {t : TypeId} {a b : Value} (h : Aside0 A) (f : A → w.heap[g]? = some (.cells #[a, b] t (0, 0)) := by intro h_; exact h_) : w.cell? ⟨g, 0, none⟩ = some a ∧ w.cell? ⟨g, 1, none⟩ = some b ∧ w.frozen? ⟨g, 0, none⟩ = false ∧ w.frozen? ⟨g, 1, none⟩ = false :=
  ⟨(blk_cell (f h.out) 0).trans rfl, (blk_cell (f h.out) 1).trans rfl, blk_frozen (f h.out) 0, blk_frozen (f h.out) 1⟩
theorem cz3 (w : World) {A : Prop} {g : Nat} {t : TypeId} {a b c : Value} (h : Aside0 A) (f : A → w.heap[g]? = some (.cells #[a, b, c] t (0, 0)) := by intro h_; exact h_) : w.cell? ⟨g, 0, none⟩ = some a ∧ w.cell? ⟨g, 1, none⟩ = some b ∧ w.cell? ⟨g, 2, none⟩ = some c ∧ w.frozen? ⟨g, 0, none⟩ = false ∧ w.frozen? ⟨g, 1, none⟩ = false ∧ w.frozen? ⟨g, 2, none⟩ = false :=
  ⟨(blk_cell (f h.out) 0).trans rfl, (blk_cell (f h.out) 1).trans rfl, (blk_cell (f h.out) 2).trans rfl, blk_frozen (f h.out) 0, blk_frozen (f h.out) 1, blk_frozen (f h.out) 2⟩
end
/-! cuts and loops that forget slots by one function (cutu.py) -/
def frU (u : Nat → Value) : Nat → List Value → Nat → List Value
  | _, [], _ => []
  | i, v :: r, M => cond (M % 2 == 1) (u i) v :: frU u (i + 1) r (M / 2)
theorem frU_self (L : List Value) (r : List Value) : ∀ (i M : Nat), (∀ j, r[j]? = L[i + j]?) → frU (fun i => L.getD i undef) i r M = r := by
  induction r with
  | nil => intro i M _; rfl
  | cons v r ih =>
    intro i M h
    have h0 : L[i]? = some v := by have := h 0; simpa using this.symm
    have hr : frU (fun i => L.getD i undef) (i + 1) r (M / 2) = r := ih (i + 1) (M / 2) (fun j => by
      have := h (j + 1)
      rw [List.getElem?_cons_succ] at this
      rw [this]; congr 1; omega)
    rw [frU, hr]
    cases M % 2 == 1
    · rfl
    · show L.getD i undef :: r = v :: r
      rw [List.getD_eq_getElem?_getD, h0]; rfl
theorem wp_cutM {P : Program} {s : Code} {K : Act → World → Prop} {Q' : Exit → Act → World → Prop} {L0 : List Value} {D : List Deferred} {w : World} (M : Nat) (R : (Nat → Value) → World → Prop)
    (first : ∀ (J K' : Act → World → Prop), (∀ u w', R u w' → J ⟨(frU u 0 L0 M).toArray, D⟩ w') → (∀ a' w', Met J a' w' → K' a' w') → s.wp P (Exit.then K' Q') ⟨L0.toArray, D⟩ w)
    (rest : ∀ u w', R u w' → K ⟨(frU u 0 L0 M).toArray, D⟩ w') : s.wp P (Exit.then K Q') ⟨L0.toArray, D⟩ w :=
  wp_cut (fun a' w' => ∃ u, R u w' ∧ a' = ⟨(frU u 0 L0 M).toArray, D⟩) (fun a' w' ⟨u, h, e⟩ => by subst e; exact rest u w' h)
    (fun J K' hJ hK => first J K' (fun u w' h => hJ _ _ ⟨u, h, rfl⟩) hK)
theorem meetM {J : Act → World → Prop} {R : (Nat → Value) → World → Prop} {L0 L1 : List Value} {D : List Deferred} {M : Nat} {w : World} (hJ : ∀ u w', R u w' → J ⟨(frU u 0 L0 M).toArray, D⟩ w') (hL : L1 = frU (fun i => L1.getD i undef) 0 L0 M) (hR : R (fun i => L1.getD i undef) w) : Met J ⟨L1.toArray, D⟩ w := by
  have h := hJ _ w hR
  rw [← hL] at h
  exact Met.intro h
theorem wp_loopM {P : Program} {c : Code} {Q : Exit → Act → World → Prop} {L0 : List Value} {D : List Deferred} {w : World} (M n0 : Nat) (R : Nat → (Nat → Value) → World → Prop) (atStart : R n0 (fun i => L0.getD i undef) w)
    (round : ∀ gk u wr, R gk u wr → ∀ (J : Nat → Act → World → Prop) (K : Act → World → Prop), (∀ k u' w', R k u' w' → J k ⟨(frU u' 0 L0 M).toArray, D⟩ w') → (∀ a' w', Handed J gk a' w' → K a' w') → c.wp P (Exit.then K Q) ⟨(frU u 0 L0 M).toArray, D⟩ wr) : (Code.loop c).wp P Q ⟨L0.toArray, D⟩ w :=
  wp_loop_ghost_k (fun k a' w' => ∃ u, R k u w' ∧ a' = ⟨(frU u 0 L0 M).toArray, D⟩) n0 ⟨_, atStart, by rw [frU_self L0 L0 0 M (fun j => by rw [Nat.zero_add])]⟩
    (fun n a w ⟨u, h, e⟩ J K hJ hK => by subst e; exact round n u w h J K (fun k u' w' h => hJ k _ _ ⟨u', h, rfl⟩) hK)
theorem handM {J : Nat → Act → World → Prop} {R : Nat → (Nat → Value) → World → Prop} {L0 L1 : List Value} {D : List Deferred} {M n : Nat} {w : World} (k : Nat) (hJ : ∀ k u' w', R k u' w' → J k ⟨(frU u' 0 L0 M).toArray, D⟩ w') (measure : k < n) (hL : L1 = frU (fun i => L1.getD i undef) 0 L0 M) (rel : R k (fun i => L1.getD i undef) w) : Handed J n ⟨L1.toArray, D⟩ w := by
  have h := hJ k _ w rel
  rw [← hL] at h
  exact Handed.intro k measure h

end Go.Proofs.Ytcjchobajjbhkaa.P
