-- Printed by wip/print (my turned copy of the kit's print) out of the translation; Lean checks it.
import Derived.Test.YtcgbnbblojkglaaP0
import Derived.Test.YtcgbnbblojkglaaP3
import Derived.Test.YtcgbnbblojkglaaP4
import Derived.Test.YtcgbnbblojkglaaP6
import Derived.Test.YtcgbnbblojkglaaP9
import Derived.Test.YtcgbnbblojkglaaP10
import Derived.Test.YtcgbnbblojkglaaP11
import Derived.Test.YtcgbnbblojkglaaP12
import Derived.Test.YtcgbnbblojkglaaP13
import Derived.Test.YtcgbnbblojkglaaP14
import Derived.Test.YtcgbnbblojkglaaP15
namespace Go.Proofs.Ytcgbnbblojkglaa.P
open Go.RowKit Go.Proofs.YtcgbnbblojkglaaW.PrintWords Go.Proofs.YtcgbnbblojkglaaW.PrintLast Go.Proofs.YtcgbnbblojkglaaW.PrintMore
attribute [local go_sem] max2_int min2_int max_two min_two max_three min_three max_four min_four   -- for this text's walks alone
set_option linter.unusedVariables false
set_option linter.unusedSimpArgs false

/-! ### laws_FnSaid: function 3 -/
mutual
def laws_FnSaid.j0 : Nat → List Int → List Int → Bool → Option (Bool)
  | 0, _, _, _ => none
  | k + 1, x0, x1, x49 => if x49 = true then (some true) else ((spec_P6Rope.f k x0).bind fun bt380 => ((spec_P6Holds.f k x1 bt380.1 bt380.2).bind fun t385 => ((impl_CountAlong.f k bt380.1 bt380.2 t385).bind fun bt388 => ((spec_CountAlong.f k bt380.1 bt380.2 t385).bind fun bt392 => ((impl_CheckCount.f k bt380.1 bt380.2 t385 bt392.1).bind fun bt396 => ((impl_FirstFault.f k bt380.1 bt380.2 t385 bt392.1).bind fun bt398 => (if bt388.2 = bt392.2 then (if bt388.2 = 0 then ((spec_SameSaid.f k bt388.1 bt392.1).bind fun t400 => (if t400 = true then (if (bt392.1.length : Int) = (t385.length : Int) then (if bt396.2 = 0 then (if bt396.1 = true then (laws_FnSaid.j1 k x0 x1 t385 bt392.1 (bt398.2 != 6) bt380.1 bt380.2) else (laws_FnSaid.j1 k x0 x1 t385 bt392.1 true bt380.1 bt380.2)) else (laws_FnSaid.j1 k x0 x1 t385 bt392.1 true bt380.1 bt380.2)) else (laws_FnSaid.j1 k x0 x1 t385 bt392.1 true bt380.1 bt380.2)) else (laws_FnSaid.j1 k x0 x1 t385 bt392.1 true bt380.1 bt380.2))) else (laws_FnSaid.j1 k x0 x1 t385 bt392.1 true bt380.1 bt380.2)) else (laws_FnSaid.j1 k x0 x1 t385 bt392.1 true bt380.1 bt380.2))))))))
def laws_FnSaid.j1 : Nat → List Int → List Int → List (S47) → List (S40) → Bool → Int → List Int → Option (Bool)
  | 0, _, _, _, _, _, _, _ => none
  | k + 1, x0, x1, x6, x9, x112, x385000, x385001 => if x112 = true then (some false) else (laws_FnSaid.l0 k x0 x1 x6 x9 0 x385000 x385001)
def laws_FnSaid.l0 : Nat → List Int → List Int → List (S47) → List (S40) → Int → Int → List Int → Option (Bool)
  | 0, _, _, _, _, _, _, _ => none
  | k + 1, x0, x1, x6, x9, x15, x385000, x385001 => if x15 < (x9.length : Int) then (if 0 ≤ x15 then (if ((rd_T40 x9 x15).f0) = (wrap64 (x15 + 1)) then (if ((rd_T40 x9 x15).f1) < 0 then (some false) else (if ((rd_T40 x9 x15).f1) > 96 then (some false) else (laws_FnSaid.l0 k x0 x1 x6 x9 (wrap64 (x15 + 1)) x385000 x385001))) else (some false)) else (none)) else (if (x6.length : Int) = 0 then ((impl_MissingBy.f k x385000 x385001 x6 0 0).bind fun bt404 => (if bt404.2 = 0 then (some ((bt404.1.length : Int) == 0)) else (some false))) else ((spec_P6Pick.f x0 (x6.length : Int)).bind fun t408 => ((some (([] : List (S40)) : List (S40))).bind fun y409 => (if y409.length + x9.length < 8796093022208 then ((some (y409 ++ x9 : List (S40))).bind fun y412 => (if 0 ≤ t408 then (if t408 < (y412.length : Int) then ((spec_P6Pick.f x1 96).bind fun t416 => ((some (y412.set (t408 : Int).toNat (⟨(rd_T40 y412 t408).f0, Int.tmod (wrap64 ((wrap64 (((rd_T40 y412 t408).f1) + 1)) + t416)) 97⟩ : S40) : List (S40))).bind fun y417 => ((impl_FirstFault.f k x385000 x385001 x6 y417).bind fun bt418 => ((impl_CheckCount.f k x385000 x385001 x6 y417).bind fun bt420 => (if t408 ≤ (x9.length : Int) then ((impl_FirstFault.f k x385000 x385001 x6 (x9.take (t408 : Int).toNat)).bind fun bt426 => ((some (([] : List (S40)) : List (S40))).bind fun y428 => (if y428.length + x9.length < 8796093022208 then ((some (y428 ++ x9 : List (S40))).bind fun y431 => ((some (([(⟨1, 0⟩ : S40)] : List (S40)) : List (S40))).bind fun y434 => (if y431.length + y434.length < 8796093022208 then ((impl_FirstFault.f k x385000 x385001 x6 (y431 ++ y434)).bind fun bt440 => (if bt418.2 = 0 then (if bt418.1 = t408 then (if bt420.2 = 0 then (if bt420.1 = true then (laws_FnSaid.j3 k x6 (x6.length : Int) t408 true x385000 x385001) else (if bt426.2 = 0 then (if bt426.1 = t408 then (if bt440.2 = 0 then (laws_FnSaid.j3 k x6 (x6.length : Int) t408 (bt440.1 != (x6.length : Int)) x385000 x385001) else (laws_FnSaid.j3 k x6 (x6.length : Int) t408 true x385000 x385001)) else (laws_FnSaid.j3 k x6 (x6.length : Int) t408 true x385000 x385001)) else (laws_FnSaid.j3 k x6 (x6.length : Int) t408 true x385000 x385001))) else (laws_FnSaid.j3 k x6 (x6.length : Int) t408 true x385000 x385001)) else (laws_FnSaid.j3 k x6 (x6.length : Int) t408 true x385000 x385001)) else (laws_FnSaid.j3 k x6 (x6.length : Int) t408 true x385000 x385001))) else (none)))) else (none)))) else (none)))))) else (none)) else (none))) else (none)))))
def laws_FnSaid.j3 : Nat → List (S47) → Int → Int → Bool → Int → List Int → Option (Bool)
  | 0, _, _, _, _, _, _ => none
  | k + 1, x6, x16, x19, x247, x385000, x385001 => if x247 = true then (some false) else (if x16 < 2 then (some true) else ((some (([] : List (S47)) : List (S47))).bind fun y442 => (if 0 ≤ x19 then (if x19 ≤ (x6.length : Int) then ((some (x6.take (x19 : Int).toNat : List (S47))).bind fun y445 => (if y442.length + y445.length < 35184372088832 then ((some (y442 ++ y445 : List (S47))).bind fun y449 => (if 0 ≤ (wrap64 (x19 + 1)) then (if (wrap64 (x19 + 1)) ≤ (x6.length : Int) then ((some (x6.drop ((wrap64 (x19 + 1)) : Int).toNat : List (S47))).bind fun y452 => (if y449.length + y452.length < 35184372088832 then ((spec_CountAlong.f k x385000 x385001 (y449 ++ y452)).bind fun bt459 => (if bt459.2 = 0 then (laws_FnSaid.j4 k x6 x16 x19 bt459.1 ((bt459.1.length : Int) == 0) x385000 x385001) else (laws_FnSaid.j4 k x6 x16 x19 bt459.1 true x385000 x385001))) else (none))) else (none)) else (none))) else (none))) else (none)) else (none))))
def laws_FnSaid.j4 : Nat → List (S47) → Int → Int → List (S40) → Bool → Int → List Int → Option (Bool)
  | 0, _, _, _, _, _, _, _ => none
  | k + 1, x6, x16, x19, x30, x272, x385000, x385001 => if x272 = true then (some false) else (if 0 ≤ (wrap64 ((x30.length : Int) - 1)) then (if (wrap64 ((x30.length : Int) - 1)) < (x30.length : Int) then ((impl_MissingBy.f k x385000 x385001 x6 ((rd_T40 x30 (wrap64 ((x30.length : Int) - 1))).f0) ((rd_T40 x30 (wrap64 ((x30.length : Int) - 1))).f1)).bind fun bt464 => ((spec_MissingBy.f k x385000 x385001 x6 ((rd_T40 x30 (wrap64 ((x30.length : Int) - 1))).f0) ((rd_T40 x30 (wrap64 ((x30.length : Int) - 1))).f1)).bind fun bt469 => (if x16 = 0 then (none) else ((some (([] : List (S47)) : List (S47))).bind fun y473 => (if y473.length + x6.length < 35184372088832 then ((some (y473 ++ x6 : List (S47))).bind fun y476 => (if 0 ≤ (Int.tmod (wrap64 (x19 + 1)) x16) then (if (Int.tmod (wrap64 (x19 + 1)) x16) < (x6.length : Int) then (if 0 ≤ x19 then (if x19 < (y476.length : Int) then ((some (y476.set (x19 : Int).toNat (⟨(rd_T47 x6 (Int.tmod (wrap64 (x19 + 1)) x16)).f0, (rd_T47 y476 x19).f1⟩ : S47) : List (S47))).bind fun y480 => (if x19 < (x6.length : Int) then (if (Int.tmod (wrap64 (x19 + 1)) x16) < (y476.length : Int) then ((spec_CountAlong.f k x385000 x385001 (y480.set ((Int.tmod (wrap64 (x19 + 1)) x16) : Int).toNat (⟨(rd_T47 x6 x19).f0, (rd_T47 y480 (Int.tmod (wrap64 (x19 + 1)) x16)).f1⟩ : S47))).bind fun bt483 => (if bt464.2 = bt469.2 then (if bt464.2 = 0 then ((spec_SameNumbers.f k bt464.1 bt469.1).bind fun t487 => (if t487 = true then ((spec_HasNumber.f k bt469.1 x19).bind fun t488 => (if t488 = true then (if bt483.2 = 0 then (laws_FnSaid.j5 k x6 x19 (Int.tmod (wrap64 (x19 + 1)) x16) bt483.1 ((bt483.1.length : Int) == 0) x385000 x385001) else (laws_FnSaid.j5 k x6 x19 (Int.tmod (wrap64 (x19 + 1)) x16) bt483.1 true x385000 x385001)) else (laws_FnSaid.j5 k x6 x19 (Int.tmod (wrap64 (x19 + 1)) x16) bt483.1 true x385000 x385001))) else (laws_FnSaid.j5 k x6 x19 (Int.tmod (wrap64 (x19 + 1)) x16) bt483.1 true x385000 x385001))) else (laws_FnSaid.j5 k x6 x19 (Int.tmod (wrap64 (x19 + 1)) x16) bt483.1 true x385000 x385001)) else (laws_FnSaid.j5 k x6 x19 (Int.tmod (wrap64 (x19 + 1)) x16) bt483.1 true x385000 x385001))) else (none)) else (none))) else (none)) else (none)) else (none)) else (none))) else (none)))))) else (none)) else (none))
def laws_FnSaid.j5 : Nat → List (S47) → Int → Int → List (S40) → Bool → Int → List Int → Option (Bool)
  | 0, _, _, _, _, _, _, _ => none
  | k + 1, x6, x19, x36, x38, x355, x385000, x385001 => if x355 = true then (some false) else (if 0 ≤ (wrap64 ((x38.length : Int) - 1)) then (if (wrap64 ((x38.length : Int) - 1)) < (x38.length : Int) then ((impl_SwappedBy.f k x385000 x385001 x6 ((rd_T40 x38 (wrap64 ((x38.length : Int) - 1))).f0) ((rd_T40 x38 (wrap64 ((x38.length : Int) - 1))).f1)).bind fun bt490 => ((spec_SwappedBy.f k x385000 x385001 x6 ((rd_T40 x38 (wrap64 ((x38.length : Int) - 1))).f0) ((rd_T40 x38 (wrap64 ((x38.length : Int) - 1))).f1)).bind fun bt495 => (if bt490.2 = bt495.2 then (if bt490.2 = 0 then ((spec_SamePairs.f k bt490.1 bt495.1).bind fun t499 => (if t499 = true then ((spec_HasPair.f k bt495.1 (mn x19 x36) (mx x19 x36)).bind fun t500 => (some t500)) else (some false))) else (some false)) else (some false)))) else (none)) else (none))
end
def laws_FnSaid.f (k : Nat) (l0 : List Int) (l1 : List Int) : Option (Bool) := (laws_f6big.f l0).bind fun t378 => (if t378 = true then (laws_FnSaid.j0 k l0 l1 true) else ((laws_f6big.f l1).bind fun t379 => (laws_FnSaid.j0 k l0 l1 t379)))
theorem laws_FnSaid.mono_l : ∀ k, (∀ y0 y1 y2, LeO (laws_FnSaid.j0 k y0 y1 y2) (laws_FnSaid.j0 (k + 1) y0 y1 y2)) ∧ (∀ y0 y1 y2 y3 y4 y5 y6, LeO (laws_FnSaid.j1 k y0 y1 y2 y3 y4 y5 y6) (laws_FnSaid.j1 (k + 1) y0 y1 y2 y3 y4 y5 y6)) ∧ (∀ y0 y1 y2 y3 y4 y5 y6, LeO (laws_FnSaid.l0 k y0 y1 y2 y3 y4 y5 y6) (laws_FnSaid.l0 (k + 1) y0 y1 y2 y3 y4 y5 y6)) ∧ (∀ y0 y1 y2 y3 y4 y5, LeO (laws_FnSaid.j3 k y0 y1 y2 y3 y4 y5) (laws_FnSaid.j3 (k + 1) y0 y1 y2 y3 y4 y5)) ∧ (∀ y0 y1 y2 y3 y4 y5 y6, LeO (laws_FnSaid.j4 k y0 y1 y2 y3 y4 y5 y6) (laws_FnSaid.j4 (k + 1) y0 y1 y2 y3 y4 y5 y6)) ∧ (∀ y0 y1 y2 y3 y4 y5 y6, LeO (laws_FnSaid.j5 k y0 y1 y2 y3 y4 y5 y6) (laws_FnSaid.j5 (k + 1) y0 y1 y2 y3 y4 y5 y6))
  | 0 => ⟨fun _ _ _ r h => by simp [laws_FnSaid.j0] at h, fun _ _ _ _ _ _ _ r h => by simp [laws_FnSaid.j1] at h, fun _ _ _ _ _ _ _ r h => by simp [laws_FnSaid.l0] at h, fun _ _ _ _ _ _ r h => by simp [laws_FnSaid.j3] at h, fun _ _ _ _ _ _ _ r h => by simp [laws_FnSaid.j4] at h, fun _ _ _ _ _ _ _ r h => by simp [laws_FnSaid.j5] at h⟩
  | k + 1 => by
    obtain ⟨ih0, ih1, ih2, ih3, ih4, ih5⟩ := laws_FnSaid.mono_l k
    refine ⟨?_, ?_, ?_, ?_, ?_, ?_⟩
    · intro y0 y1 y2
      unfold laws_FnSaid.j0
      repeat' first
      | (with_reducible exact ih0 _ _ _)
      | (with_reducible exact ih1 _ _ _ _ _ _ _)
      | (with_reducible exact ih2 _ _ _ _ _ _ _)
      | (with_reducible exact ih3 _ _ _ _ _ _)
      | (with_reducible exact ih4 _ _ _ _ _ _ _)
      | (with_reducible exact ih5 _ _ _ _ _ _ _)
      | (with_reducible exact impl_CheckCount.mono _ _ _ _ _)
      | (with_reducible exact impl_CountAlong.mono _ _ _ _)
      | (with_reducible exact impl_FirstFault.mono _ _ _ _ _)
      | (with_reducible exact impl_MissingBy.mono _ _ _ _ _ _)
      | (with_reducible exact impl_SwappedBy.mono _ _ _ _ _ _)
      | (with_reducible exact spec_CountAlong.mono _ _ _ _)
      | (with_reducible exact spec_HasNumber.mono _ _ _)
      | (with_reducible exact spec_HasPair.mono _ _ _ _)
      | (with_reducible exact spec_MissingBy.mono _ _ _ _ _ _)
      | (with_reducible exact spec_P6Holds.mono _ _ _ _)
      | (with_reducible exact spec_P6Rope.mono _ _)
      | (with_reducible exact spec_SameNumbers.mono _ _ _)
      | (with_reducible exact spec_SamePairs.mono _ _ _)
      | (with_reducible exact spec_SameSaid.mono _ _ _)
      | (with_reducible exact spec_SwappedBy.mono _ _ _ _ _ _)
      | (with_reducible exact LeO.refl _)
      | (with_reducible exact LeO.none _)
      | (with_reducible refine LeO.ite ?_ ?_)
      | (with_reducible refine LeO.bind ?_ (fun _ => ?_))
      | exact ih0 _ _ _
      | exact ih1 _ _ _ _ _ _ _
      | exact ih2 _ _ _ _ _ _ _
      | exact ih3 _ _ _ _ _ _
      | exact ih4 _ _ _ _ _ _ _
      | exact ih5 _ _ _ _ _ _ _
      | exact impl_CheckCount.mono _ _ _ _ _
      | exact impl_CountAlong.mono _ _ _ _
      | exact impl_FirstFault.mono _ _ _ _ _
      | exact impl_MissingBy.mono _ _ _ _ _ _
      | exact impl_SwappedBy.mono _ _ _ _ _ _
      | exact spec_CountAlong.mono _ _ _ _
      | exact spec_HasNumber.mono _ _ _
      | exact spec_HasPair.mono _ _ _ _
      | exact spec_MissingBy.mono _ _ _ _ _ _
      | exact spec_P6Holds.mono _ _ _ _
      | exact spec_P6Rope.mono _ _
      | exact spec_SameNumbers.mono _ _ _
      | exact spec_SamePairs.mono _ _ _
      | exact spec_SameSaid.mono _ _ _
      | exact spec_SwappedBy.mono _ _ _ _ _ _
      | exact LeO.none _
      | refine LeO.ite ?_ ?_
      | refine LeO.bind ?_ (fun _ => ?_)
    · intro y0 y1 y2 y3 y4 y5 y6
      unfold laws_FnSaid.j1
      repeat' first
      | (with_reducible exact ih0 _ _ _)
      | (with_reducible exact ih1 _ _ _ _ _ _ _)
      | (with_reducible exact ih2 _ _ _ _ _ _ _)
      | (with_reducible exact ih3 _ _ _ _ _ _)
      | (with_reducible exact ih4 _ _ _ _ _ _ _)
      | (with_reducible exact ih5 _ _ _ _ _ _ _)
      | (with_reducible exact impl_CheckCount.mono _ _ _ _ _)
      | (with_reducible exact impl_CountAlong.mono _ _ _ _)
      | (with_reducible exact impl_FirstFault.mono _ _ _ _ _)
      | (with_reducible exact impl_MissingBy.mono _ _ _ _ _ _)
      | (with_reducible exact impl_SwappedBy.mono _ _ _ _ _ _)
      | (with_reducible exact spec_CountAlong.mono _ _ _ _)
      | (with_reducible exact spec_HasNumber.mono _ _ _)
      | (with_reducible exact spec_HasPair.mono _ _ _ _)
      | (with_reducible exact spec_MissingBy.mono _ _ _ _ _ _)
      | (with_reducible exact spec_P6Holds.mono _ _ _ _)
      | (with_reducible exact spec_P6Rope.mono _ _)
      | (with_reducible exact spec_SameNumbers.mono _ _ _)
      | (with_reducible exact spec_SamePairs.mono _ _ _)
      | (with_reducible exact spec_SameSaid.mono _ _ _)
      | (with_reducible exact spec_SwappedBy.mono _ _ _ _ _ _)
      | (with_reducible exact LeO.refl _)
      | (with_reducible exact LeO.none _)
      | (with_reducible refine LeO.ite ?_ ?_)
      | (with_reducible refine LeO.bind ?_ (fun _ => ?_))
      | exact ih0 _ _ _
      | exact ih1 _ _ _ _ _ _ _
      | exact ih2 _ _ _ _ _ _ _
      | exact ih3 _ _ _ _ _ _
      | exact ih4 _ _ _ _ _ _ _
      | exact ih5 _ _ _ _ _ _ _
      | exact impl_CheckCount.mono _ _ _ _ _
      | exact impl_CountAlong.mono _ _ _ _
      | exact impl_FirstFault.mono _ _ _ _ _
      | exact impl_MissingBy.mono _ _ _ _ _ _
      | exact impl_SwappedBy.mono _ _ _ _ _ _
      | exact spec_CountAlong.mono _ _ _ _
      | exact spec_HasNumber.mono _ _ _
      | exact spec_HasPair.mono _ _ _ _
      | exact spec_MissingBy.mono _ _ _ _ _ _
      | exact spec_P6Holds.mono _ _ _ _
      | exact spec_P6Rope.mono _ _
      | exact spec_SameNumbers.mono _ _ _
      | exact spec_SamePairs.mono _ _ _
      | exact spec_SameSaid.mono _ _ _
      | exact spec_SwappedBy.mono _ _ _ _ _ _
      | exact LeO.none _
      | refine LeO.ite ?_ ?_
      | refine LeO.bind ?_ (fun _ => ?_)
    · intro y0 y1 y2 y3 y4 y5 y6
      unfold laws_FnSaid.l0
      repeat' first
      | (with_reducible exact ih0 _ _ _)
      | (with_reducible exact ih1 _ _ _ _ _ _ _)
      | (with_reducible exact ih2 _ _ _ _ _ _ _)
      | (with_reducible exact ih3 _ _ _ _ _ _)
      | (with_reducible exact ih4 _ _ _ _ _ _ _)
      | (with_reducible exact ih5 _ _ _ _ _ _ _)
      | (with_reducible exact impl_CheckCount.mono _ _ _ _ _)
      | (with_reducible exact impl_CountAlong.mono _ _ _ _)
      | (with_reducible exact impl_FirstFault.mono _ _ _ _ _)
      | (with_reducible exact impl_MissingBy.mono _ _ _ _ _ _)
      | (with_reducible exact impl_SwappedBy.mono _ _ _ _ _ _)
      | (with_reducible exact spec_CountAlong.mono _ _ _ _)
      | (with_reducible exact spec_HasNumber.mono _ _ _)
      | (with_reducible exact spec_HasPair.mono _ _ _ _)
      | (with_reducible exact spec_MissingBy.mono _ _ _ _ _ _)
      | (with_reducible exact spec_P6Holds.mono _ _ _ _)
      | (with_reducible exact spec_P6Rope.mono _ _)
      | (with_reducible exact spec_SameNumbers.mono _ _ _)
      | (with_reducible exact spec_SamePairs.mono _ _ _)
      | (with_reducible exact spec_SameSaid.mono _ _ _)
      | (with_reducible exact spec_SwappedBy.mono _ _ _ _ _ _)
      | (with_reducible exact LeO.refl _)
      | (with_reducible exact LeO.none _)
      | (with_reducible refine LeO.ite ?_ ?_)
      | (with_reducible refine LeO.bind ?_ (fun _ => ?_))
      | exact ih0 _ _ _
      | exact ih1 _ _ _ _ _ _ _
      | exact ih2 _ _ _ _ _ _ _
      | exact ih3 _ _ _ _ _ _
      | exact ih4 _ _ _ _ _ _ _
      | exact ih5 _ _ _ _ _ _ _
      | exact impl_CheckCount.mono _ _ _ _ _
      | exact impl_CountAlong.mono _ _ _ _
      | exact impl_FirstFault.mono _ _ _ _ _
      | exact impl_MissingBy.mono _ _ _ _ _ _
      | exact impl_SwappedBy.mono _ _ _ _ _ _
      | exact spec_CountAlong.mono _ _ _ _
      | exact spec_HasNumber.mono _ _ _
      | exact spec_HasPair.mono _ _ _ _
      | exact spec_MissingBy.mono _ _ _ _ _ _
      | exact spec_P6Holds.mono _ _ _ _
      | exact spec_P6Rope.mono _ _
      | exact spec_SameNumbers.mono _ _ _
      | exact spec_SamePairs.mono _ _ _
      | exact spec_SameSaid.mono _ _ _
      | exact spec_SwappedBy.mono _ _ _ _ _ _
      | exact LeO.none _
      | refine LeO.ite ?_ ?_
      | refine LeO.bind ?_ (fun _ => ?_)
    · intro y0 y1 y2 y3 y4 y5
      unfold laws_FnSaid.j3
      repeat' first
      | (with_reducible exact ih0 _ _ _)
      | (with_reducible exact ih1 _ _ _ _ _ _ _)
      | (with_reducible exact ih2 _ _ _ _ _ _ _)
      | (with_reducible exact ih3 _ _ _ _ _ _)
      | (with_reducible exact ih4 _ _ _ _ _ _ _)
      | (with_reducible exact ih5 _ _ _ _ _ _ _)
      | (with_reducible exact impl_CheckCount.mono _ _ _ _ _)
      | (with_reducible exact impl_CountAlong.mono _ _ _ _)
      | (with_reducible exact impl_FirstFault.mono _ _ _ _ _)
      | (with_reducible exact impl_MissingBy.mono _ _ _ _ _ _)
      | (with_reducible exact impl_SwappedBy.mono _ _ _ _ _ _)
      | (with_reducible exact spec_CountAlong.mono _ _ _ _)
      | (with_reducible exact spec_HasNumber.mono _ _ _)
      | (with_reducible exact spec_HasPair.mono _ _ _ _)
      | (with_reducible exact spec_MissingBy.mono _ _ _ _ _ _)
      | (with_reducible exact spec_P6Holds.mono _ _ _ _)
      | (with_reducible exact spec_P6Rope.mono _ _)
      | (with_reducible exact spec_SameNumbers.mono _ _ _)
      | (with_reducible exact spec_SamePairs.mono _ _ _)
      | (with_reducible exact spec_SameSaid.mono _ _ _)
      | (with_reducible exact spec_SwappedBy.mono _ _ _ _ _ _)
      | (with_reducible exact LeO.refl _)
      | (with_reducible exact LeO.none _)
      | (with_reducible refine LeO.ite ?_ ?_)
      | (with_reducible refine LeO.bind ?_ (fun _ => ?_))
      | exact ih0 _ _ _
      | exact ih1 _ _ _ _ _ _ _
      | exact ih2 _ _ _ _ _ _ _
      | exact ih3 _ _ _ _ _ _
      | exact ih4 _ _ _ _ _ _ _
      | exact ih5 _ _ _ _ _ _ _
      | exact impl_CheckCount.mono _ _ _ _ _
      | exact impl_CountAlong.mono _ _ _ _
      | exact impl_FirstFault.mono _ _ _ _ _
      | exact impl_MissingBy.mono _ _ _ _ _ _
      | exact impl_SwappedBy.mono _ _ _ _ _ _
      | exact spec_CountAlong.mono _ _ _ _
      | exact spec_HasNumber.mono _ _ _
      | exact spec_HasPair.mono _ _ _ _
      | exact spec_MissingBy.mono _ _ _ _ _ _
      | exact spec_P6Holds.mono _ _ _ _
      | exact spec_P6Rope.mono _ _
      | exact spec_SameNumbers.mono _ _ _
      | exact spec_SamePairs.mono _ _ _
      | exact spec_SameSaid.mono _ _ _
      | exact spec_SwappedBy.mono _ _ _ _ _ _
      | exact LeO.none _
      | refine LeO.ite ?_ ?_
      | refine LeO.bind ?_ (fun _ => ?_)
    · intro y0 y1 y2 y3 y4 y5 y6
      unfold laws_FnSaid.j4
      repeat' first
      | (with_reducible exact ih0 _ _ _)
      | (with_reducible exact ih1 _ _ _ _ _ _ _)
      | (with_reducible exact ih2 _ _ _ _ _ _ _)
      | (with_reducible exact ih3 _ _ _ _ _ _)
      | (with_reducible exact ih4 _ _ _ _ _ _ _)
      | (with_reducible exact ih5 _ _ _ _ _ _ _)
      | (with_reducible exact impl_CheckCount.mono _ _ _ _ _)
      | (with_reducible exact impl_CountAlong.mono _ _ _ _)
      | (with_reducible exact impl_FirstFault.mono _ _ _ _ _)
      | (with_reducible exact impl_MissingBy.mono _ _ _ _ _ _)
      | (with_reducible exact impl_SwappedBy.mono _ _ _ _ _ _)
      | (with_reducible exact spec_CountAlong.mono _ _ _ _)
      | (with_reducible exact spec_HasNumber.mono _ _ _)
      | (with_reducible exact spec_HasPair.mono _ _ _ _)
      | (with_reducible exact spec_MissingBy.mono _ _ _ _ _ _)
      | (with_reducible exact spec_P6Holds.mono _ _ _ _)
      | (with_reducible exact spec_P6Rope.mono _ _)
      | (with_reducible exact spec_SameNumbers.mono _ _ _)
      | (with_reducible exact spec_SamePairs.mono _ _ _)
      | (with_reducible exact spec_SameSaid.mono _ _ _)
      | (with_reducible exact spec_SwappedBy.mono _ _ _ _ _ _)
      | (with_reducible exact LeO.refl _)
      | (with_reducible exact LeO.none _)
      | (with_reducible refine LeO.ite ?_ ?_)
      | (with_reducible refine LeO.bind ?_ (fun _ => ?_))
      | exact ih0 _ _ _
      | exact ih1 _ _ _ _ _ _ _
      | exact ih2 _ _ _ _ _ _ _
      | exact ih3 _ _ _ _ _ _
      | exact ih4 _ _ _ _ _ _ _
      | exact ih5 _ _ _ _ _ _ _
      | exact impl_CheckCount.mono _ _ _ _ _
      | exact impl_CountAlong.mono _ _ _ _
      | exact impl_FirstFault.mono _ _ _ _ _
      | exact impl_MissingBy.mono _ _ _ _ _ _
      | exact impl_SwappedBy.mono _ _ _ _ _ _
      | exact spec_CountAlong.mono _ _ _ _
      | exact spec_HasNumber.mono _ _ _
      | exact spec_HasPair.mono _ _ _ _
      | exact spec_MissingBy.mono _ _ _ _ _ _
      | exact spec_P6Holds.mono _ _ _ _
      | exact spec_P6Rope.mono _ _
      | exact spec_SameNumbers.mono _ _ _
      | exact spec_SamePairs.mono _ _ _
      | exact spec_SameSaid.mono _ _ _
      | exact spec_SwappedBy.mono _ _ _ _ _ _
      | exact LeO.none _
      | refine LeO.ite ?_ ?_
      | refine LeO.bind ?_ (fun _ => ?_)
    · intro y0 y1 y2 y3 y4 y5 y6
      unfold laws_FnSaid.j5
      repeat' first
      | (with_reducible exact ih0 _ _ _)
      | (with_reducible exact ih1 _ _ _ _ _ _ _)
      | (with_reducible exact ih2 _ _ _ _ _ _ _)
      | (with_reducible exact ih3 _ _ _ _ _ _)
      | (with_reducible exact ih4 _ _ _ _ _ _ _)
      | (with_reducible exact ih5 _ _ _ _ _ _ _)
      | (with_reducible exact impl_CheckCount.mono _ _ _ _ _)
      | (with_reducible exact impl_CountAlong.mono _ _ _ _)
      | (with_reducible exact impl_FirstFault.mono _ _ _ _ _)
      | (with_reducible exact impl_MissingBy.mono _ _ _ _ _ _)
      | (with_reducible exact impl_SwappedBy.mono _ _ _ _ _ _)
      | (with_reducible exact spec_CountAlong.mono _ _ _ _)
      | (with_reducible exact spec_HasNumber.mono _ _ _)
      | (with_reducible exact spec_HasPair.mono _ _ _ _)
      | (with_reducible exact spec_MissingBy.mono _ _ _ _ _ _)
      | (with_reducible exact spec_P6Holds.mono _ _ _ _)
      | (with_reducible exact spec_P6Rope.mono _ _)
      | (with_reducible exact spec_SameNumbers.mono _ _ _)
      | (with_reducible exact spec_SamePairs.mono _ _ _)
      | (with_reducible exact spec_SameSaid.mono _ _ _)
      | (with_reducible exact spec_SwappedBy.mono _ _ _ _ _ _)
      | (with_reducible exact LeO.refl _)
      | (with_reducible exact LeO.none _)
      | (with_reducible refine LeO.ite ?_ ?_)
      | (with_reducible refine LeO.bind ?_ (fun _ => ?_))
      | exact ih0 _ _ _
      | exact ih1 _ _ _ _ _ _ _
      | exact ih2 _ _ _ _ _ _ _
      | exact ih3 _ _ _ _ _ _
      | exact ih4 _ _ _ _ _ _ _
      | exact ih5 _ _ _ _ _ _ _
      | exact impl_CheckCount.mono _ _ _ _ _
      | exact impl_CountAlong.mono _ _ _ _
      | exact impl_FirstFault.mono _ _ _ _ _
      | exact impl_MissingBy.mono _ _ _ _ _ _
      | exact impl_SwappedBy.mono _ _ _ _ _ _
      | exact spec_CountAlong.mono _ _ _ _
      | exact spec_HasNumber.mono _ _ _
      | exact spec_HasPair.mono _ _ _ _
      | exact spec_MissingBy.mono _ _ _ _ _ _
      | exact spec_P6Holds.mono _ _ _ _
      | exact spec_P6Rope.mono _ _
      | exact spec_SameNumbers.mono _ _ _
      | exact spec_SamePairs.mono _ _ _
      | exact spec_SameSaid.mono _ _ _
      | exact spec_SwappedBy.mono _ _ _ _ _ _
      | exact LeO.none _
      | refine LeO.ite ?_ ?_
      | refine LeO.bind ?_ (fun _ => ?_)
theorem laws_FnSaid.mono : ∀ a0 a1 k, LeO (laws_FnSaid.f k a0 a1) (laws_FnSaid.f (k + 1) a0 a1) := by
  intro a0 a1 k
  obtain ⟨ih0, ih1, ih2, ih3, ih4, ih5⟩ := laws_FnSaid.mono_l k
  unfold laws_FnSaid.f
  repeat' first
      | (with_reducible exact ih0 _ _ _)
      | (with_reducible exact ih1 _ _ _ _ _ _ _)
      | (with_reducible exact ih2 _ _ _ _ _ _ _)
      | (with_reducible exact ih3 _ _ _ _ _ _)
      | (with_reducible exact ih4 _ _ _ _ _ _ _)
      | (with_reducible exact ih5 _ _ _ _ _ _ _)
      | (with_reducible exact impl_CheckCount.mono _ _ _ _ _)
      | (with_reducible exact impl_CountAlong.mono _ _ _ _)
      | (with_reducible exact impl_FirstFault.mono _ _ _ _ _)
      | (with_reducible exact impl_MissingBy.mono _ _ _ _ _ _)
      | (with_reducible exact impl_SwappedBy.mono _ _ _ _ _ _)
      | (with_reducible exact spec_CountAlong.mono _ _ _ _)
      | (with_reducible exact spec_HasNumber.mono _ _ _)
      | (with_reducible exact spec_HasPair.mono _ _ _ _)
      | (with_reducible exact spec_MissingBy.mono _ _ _ _ _ _)
      | (with_reducible exact spec_P6Holds.mono _ _ _ _)
      | (with_reducible exact spec_P6Rope.mono _ _)
      | (with_reducible exact spec_SameNumbers.mono _ _ _)
      | (with_reducible exact spec_SamePairs.mono _ _ _)
      | (with_reducible exact spec_SameSaid.mono _ _ _)
      | (with_reducible exact spec_SwappedBy.mono _ _ _ _ _ _)
      | (with_reducible exact LeO.refl _)
      | (with_reducible exact LeO.none _)
      | (with_reducible refine LeO.ite ?_ ?_)
      | (with_reducible refine LeO.bind ?_ (fun _ => ?_))
      | exact ih0 _ _ _
      | exact ih1 _ _ _ _ _ _ _
      | exact ih2 _ _ _ _ _ _ _
      | exact ih3 _ _ _ _ _ _
      | exact ih4 _ _ _ _ _ _ _
      | exact ih5 _ _ _ _ _ _ _
      | exact impl_CheckCount.mono _ _ _ _ _
      | exact impl_CountAlong.mono _ _ _ _
      | exact impl_FirstFault.mono _ _ _ _ _
      | exact impl_MissingBy.mono _ _ _ _ _ _
      | exact impl_SwappedBy.mono _ _ _ _ _ _
      | exact spec_CountAlong.mono _ _ _ _
      | exact spec_HasNumber.mono _ _ _
      | exact spec_HasPair.mono _ _ _ _
      | exact spec_MissingBy.mono _ _ _ _ _ _
      | exact spec_P6Holds.mono _ _ _ _
      | exact spec_P6Rope.mono _ _
      | exact spec_SameNumbers.mono _ _ _
      | exact spec_SamePairs.mono _ _ _
      | exact spec_SameSaid.mono _ _ _
      | exact spec_SwappedBy.mono _ _ _ _ _ _
      | exact LeO.none _
      | refine LeO.ite ?_ ?_
      | refine LeO.bind ?_ (fun _ => ?_)
def laws_FnSaid.T22 : Bool × List (List Nat × List Nat) := (true, [([], []), ([], []), ([], []), ([], []), ([2, 3], [2, 3]), ([4], [4]), ([5], [5]), ([6], [6]), ([], []), ([8], [8]), ([7, 9], [7, 9]), ([10], [10]), ([0, 1, 0, 1, 2, 3, 4, 5, 6, 7, 8, 9, 10, 11], [0, 1]), ([12, 0, 1, 2, 3, 4, 5, 6, 7, 8, 9, 10, 11], [12]), ([13, 11, 9, 0, 1, 2, 3, 4, 5, 6, 7, 8, 9, 10, 11], [11, 13])])
def laws_FnSaid.B22 : List Nat := [0, 0, 0, 0, 12, 28, 60, 124, 0, 256, 1020, 2044, 4095, 8191, 16383]
theorem laws_FnSaid.tab22 : rtab .any (opsOf Try.f3 22) = laws_FnSaid.T22 := by kernel_rfl
theorem laws_FnSaid.bits22 : waitsOk laws_FnSaid.T22.2 laws_FnSaid.B22 = true := by kernel_rfl
def laws_FnSaid.T25 : Bool × List (List Nat × List Nat) := (true, [([], []), ([], []), ([], []), ([], []), ([2, 3], [2, 3]), ([0, 1, 4], [0, 1, 4]), ([5], [5]), ([6], [6]), ([6], [6]), ([7, 5, 0, 1, 2, 3, 4, 5, 6, 7], [7]), ([8, 9, 0, 1, 2, 3, 4, 5, 6, 7, 8, 9], [8])])
def laws_FnSaid.B25 : List Nat := [0, 0, 0, 0, 12, 31, 63, 127, 127, 255, 1023]
theorem laws_FnSaid.tab25 : rtab .any (opsOf Try.f3 25) = laws_FnSaid.T25 := by kernel_rfl
theorem laws_FnSaid.bits25 : waitsOk laws_FnSaid.T25.2 laws_FnSaid.B25 = true := by kernel_rfl
def laws_FnSaid.T26 : Bool × List (List Nat × List Nat) := (true, [([], []), ([], []), ([], []), ([], []), ([2, 3], [2, 3]), ([], []), ([5], [5]), ([4, 6, 4], [4, 6]), ([0, 1, 7, 7], [0, 1, 7]), ([8], [8]), ([9], [9]), ([9], [9]), ([10, 8, 0, 1, 2, 3, 4, 5, 6, 7, 8, 9, 10], [10]), ([11, 12, 0, 1, 2, 3, 4, 5, 6, 7, 8, 9, 10, 11, 12], [11])])
def laws_FnSaid.B26 : List Nat := [0, 0, 0, 0, 12, 0, 32, 124, 255, 511, 1023, 1023, 2047, 8191]
theorem laws_FnSaid.tab26 : rtab .any (opsOf Try.f3 26) = laws_FnSaid.T26 := by kernel_rfl
theorem laws_FnSaid.bits26 : waitsOk laws_FnSaid.T26.2 laws_FnSaid.B26 = true := by kernel_rfl
def laws_FnSaid.T31 : Bool × List (List Nat × List Nat) := (true, [([], []), ([], []), ([], []), ([1, 2], [1, 2]), ([0, 3], [0, 3]), ([], []), ([], []), ([6], [6]), ([5, 7], [5, 7]), ([4, 8, 4], [4, 8]), ([9, 9, 0, 1, 2, 3, 4, 5, 6, 7, 8, 9], [9])])
def laws_FnSaid.B31 : List Nat := [0, 0, 0, 6, 15, 0, 0, 64, 224, 511, 1023]
theorem laws_FnSaid.tab31 : rtab .any (opsOf Try.f3 31) = laws_FnSaid.T31 := by kernel_rfl
theorem laws_FnSaid.bits31 : waitsOk laws_FnSaid.T31.2 laws_FnSaid.B31 = true := by kernel_rfl
def laws_FnSaid.T35 : Bool × List (List Nat × List Nat) := (true, [([], []), ([], []), ([], []), ([], []), ([3], [3]), ([4], [4]), ([2, 5], [2, 5]), ([6], [6]), ([0, 1, 7], [0, 1, 7]), ([8], [8]), ([9], [9]), ([9], [9]), ([10, 8, 0, 1, 2, 3, 4, 5, 6, 7, 8, 9, 10], [10]), ([11, 12, 0, 1, 2, 3, 4, 5, 6, 7, 8, 9, 10, 11, 12], [11])])
def laws_FnSaid.B35 : List Nat := [0, 0, 0, 0, 8, 24, 60, 124, 255, 511, 1023, 1023, 2047, 8191]
theorem laws_FnSaid.tab35 : rtab .any (opsOf Try.f3 35) = laws_FnSaid.T35 := by kernel_rfl
theorem laws_FnSaid.bits35 : waitsOk laws_FnSaid.T35.2 laws_FnSaid.B35 = true := by kernel_rfl
def laws_FnSaid.T36 : Bool × List (List Nat × List Nat) := (true, [([], []), ([], []), ([], []), ([], []), ([3], [3]), ([4], [4]), ([2, 5], [2, 5]), ([6], [6]), ([0, 1, 7], [0, 1, 7]), ([8], [8]), ([9], [9]), ([9], [9]), ([10, 8, 0, 1, 2, 3, 4, 5, 6, 7, 8, 9, 10], [10]), ([11, 12, 0, 1, 2, 3, 4, 5, 6, 7, 8, 9, 10, 11, 12], [11])])
def laws_FnSaid.B36 : List Nat := [0, 0, 0, 0, 8, 24, 60, 124, 255, 511, 1023, 1023, 2047, 8191]
theorem laws_FnSaid.tab36 : rtab .any (opsOf Try.f3 36) = laws_FnSaid.T36 := by kernel_rfl
theorem laws_FnSaid.bits36 : waitsOk laws_FnSaid.T36.2 laws_FnSaid.B36 = true := by kernel_rfl
def laws_FnSaid.T44 : Bool × List (List Nat × List Nat) := (true, [([], []), ([], []), ([], []), ([], []), ([3], [3]), ([4], [4]), ([2, 5], [2, 5]), ([6], [6]), ([0, 1, 7], [0, 1, 7]), ([8], [8]), ([9], [9]), ([9], [9]), ([10, 8, 0, 1, 2, 3, 4, 5, 6, 7, 8, 9, 10], [10]), ([11, 12, 0, 1, 2, 3, 4, 5, 6, 7, 8, 9, 10, 11, 12], [11])])
def laws_FnSaid.B44 : List Nat := [0, 0, 0, 0, 8, 24, 60, 124, 255, 511, 1023, 1023, 2047, 8191]
theorem laws_FnSaid.tab44 : rtab .any (opsOf Try.f3 44) = laws_FnSaid.T44 := by kernel_rfl
theorem laws_FnSaid.bits44 : waitsOk laws_FnSaid.T44.2 laws_FnSaid.B44 = true := by kernel_rfl
def laws_FnSaid.T45 : Bool × List (List Nat × List Nat) := (true, [([], []), ([], []), ([], []), ([], []), ([3], [3]), ([4], [4]), ([2, 5], [2, 5]), ([6], [6]), ([0, 1, 7], [0, 1, 7]), ([8], [8]), ([9], [9]), ([9], [9]), ([10, 8, 0, 1, 2, 3, 4, 5, 6, 7, 8, 9, 10], [10]), ([11, 12, 0, 1, 2, 3, 4, 5, 6, 7, 8, 9, 10, 11, 12], [11])])
def laws_FnSaid.B45 : List Nat := [0, 0, 0, 0, 8, 24, 60, 124, 255, 511, 1023, 1023, 2047, 8191]
theorem laws_FnSaid.tab45 : rtab .any (opsOf Try.f3 45) = laws_FnSaid.T45 := by kernel_rfl
theorem laws_FnSaid.bits45 : waitsOk laws_FnSaid.T45.2 laws_FnSaid.B45 = true := by kernel_rfl
/-! cuts and loops that forget slots by one function (cutu.py) -/
def frU (u : Nat → Value) : Nat → List Value → Nat → List Value
  | _, [], _ => []
  | i, v :: r, M => cond (M % 2 == 1) (u i) v :: frU u (i + 1) r (M / 2)
theorem frU_self (L : List Value) (r : List Value) : ∀ (i M : Nat), (∀ j, r[j]? = L[i + j]?) → frU (fun i => L.getD i undef) i r M = r := by
  induction r with
  | nil => intro i M _; rfl
  | cons v r ih =>
    intro i M h
    have h0 : L[i]? = some v := by have := h 0; simpa using this.symm
    have hr : frU (fun i => L.getD i undef) (i + 1) r (M / 2) = r := ih (i + 1) (M / 2) (fun j => by
      have := h (j + 1)
      rw [List.getElem?_cons_succ] at this
      rw [this]; congr 1; omega)
    rw [frU, hr]
    cases M % 2 == 1
    · rfl
    · show L.getD i undef :: r = v :: r
      rw [List.getD_eq_getElem?_getD, h0]; rfl
theorem wp_cutM {P : Program} {s : Code} {K : Act → World → Prop} {Q' : Exit → Act → World → Prop} {L0 : List Value} {D : List Deferred} {w : World} (M : Nat) (R : (Nat → Value) → World → Prop)
    (first : ∀ (J K' : Act → World → Prop), (∀ u w', R u w' → J ⟨(frU u 0 L0 M).toArray, D⟩ w') → (∀ a' w', Met J a' w' → K' a' w') → s.wp P (Exit.then K' Q') ⟨L0.toArray, D⟩ w)
    (rest : ∀ u w', R u w' → K ⟨(frU u 0 L0 M).toArray, D⟩ w') : s.wp P (Exit.then K Q') ⟨L0.toArray, D⟩ w :=
  wp_cut (fun a' w' => ∃ u, R u w' ∧ a' = ⟨(frU u 0 L0 M).toArray, D⟩) (fun a' w' ⟨u, h, e⟩ => by subst e; exact rest u w' h)
    (fun J K' hJ hK => first J K' (fun u w' h => hJ _ _ ⟨u, h, rfl⟩) hK)
theorem meetM {J : Act → World → Prop} {R : (Nat → Value) → World → Prop} {L0 L1 : List Value} {D : List Deferred} {M : Nat} {w : World} (hJ : ∀ u w', R u w' → J ⟨(frU u 0 L0 M).toArray, D⟩ w') (hL : L1 = frU (fun i => L1.getD i undef) 0 L0 M) (hR : R (fun i => L1.getD i undef) w) : Met J ⟨L1.toArray, D⟩ w := by
  have h := hJ _ w hR
  rw [← hL] at h
  exact Met.intro h
theorem wp_loopM {P : Program} {c : Code} {Q : Exit → Act → World → Prop} {L0 : List Value} {D : List Deferred} {w : World} (M n0 : Nat) (R : Nat → (Nat → Value) → World → Prop) (atStart : R n0 (fun i => L0.getD i undef) w)
    (round : ∀ gk u wr, R gk u wr → ∀ (J : Nat → Act → World → Prop) (K : Act → World → Prop), (∀ k u' w', R k u' w' → J k ⟨(frU u' 0 L0 M).toArray, D⟩ w') → (∀ a' w', Handed J gk a' w' → K a' w') → c.wp P (Exit.then K Q) ⟨(frU u 0 L0 M).toArray, D⟩ wr) : (Code.loop c).wp P Q ⟨L0.toArray, D⟩ w :=
  wp_loop_ghost_k (fun k a' w' => ∃ u, R k u w' ∧ a' = ⟨(frU u 0 L0 M).toArray, D⟩) n0 ⟨_, atStart, by rw [frU_self L0 L0 0 M (fun j => by rw [Nat.zero_add])]⟩
    (fun n a w ⟨u, h, e⟩ J K hJ hK => by subst e; exact round n u w h J K (fun k u' w' h => hJ k _ _ ⟨u', h, rfl⟩) hK)
theorem handM {J : Nat → Act → World → Prop} {R : Nat → (Nat → Value) → World → Prop} {L0 L1 : List Value} {D : List Deferred} {M n : Nat} {w : World} (k : Nat) (hJ : ∀ k u' w', R k u' w' → J k ⟨(frU u' 0 L0 M).toArray, D⟩ w') (measure : k < n) (hL : L1 = frU (fun i => L1.getD i undef) 0 L0 M) (rel : R k (fun i => L1.getD i undef) w) : Handed J n ⟨L1.toArray, D⟩ w := by
  have h := hJ k _ w rel
  rw [← hL] at h
  exact Handed.intro k measure h
set_option maxHeartbeats 8000000 in
set_option maxRecDepth 100000 in
theorem said_end_ {CC : Code} {Q' : Exit → Act → World → Prop} {L1 : List Value} {w w191 : World} {t493 t498 t408 ji133 ji184 ji185 : Int} {t500 : Bool} {kj142 gb384 : Nat} {t380 : Int} {t381 : List Int} {t385 y445 y452 : List S47} {t392 : List S40} {t490 t495 : List S55} {ad479 : Addr} {co21 co18 co192 co193 : Nat} {Ao18 Ao192 Ao193 A115 : Option Addr} {ok1 ok2 ok3 ok4 ok5 : Nat → Prop} {v38 : Value} 
  (c180b0 : (t493 == t498) = true) (c180b1 : (t493 != t498) = false) (c181b0 : (t493 == 0) = true) (c181b1 : (t493 != 0) = false)
  (hji184 : mn t408 ji133 = ji184) (hji184_ : (if ji133 < t408 then ji133 else t408) = ji184) (hji185 : mx t408 ji133 = ji185) (hji185_ : (if t408 < ji133 then ji133 else t408) = ji185)
  (A182 : Aside0 (spec_SamePairs.f kj142 t490 t495 = some true)) (A186 : Aside0 (spec_HasPair.f kj142 t495 ji184 ji185 = some t500))
  (HO_6 : Aside0 (Kd.R k47 47 w191 w.heap.size ok1 (.slice (some ad479) t385.length co21) t385)) (HO_38 : Aside0 (Kd.R k40 40 w191 w.heap.size ok2 v38 t392)) (HO_385001 : Aside0 (Kd.R (Kd.int .i16) 24 w191 w.heap.size ok3 (.slice Ao18 t381.length co18) t381))
  (HO492 : Aside0 (Kd.R k55 55 w191 w.heap.size ok4 (.slice Ao192 t490.length co192) t490)) (HO497 : Aside0 (Kd.R k55 55 w191 w.heap.size ok5 (.slice Ao193 t495.length co193) t495))
  (BK384 : Aside0 (w191.heap[gb384]? = some (.cells #[.int .i16 t380, .slice Ao18 t381.length co18] 27 (0, 0)))) (HR448 : Aside0 (Kd.C k47 w191 (some ad479) y445.length y445)) (HR455 : Aside0 (Kd.C k47 w191 A115 y452.length y452)) (HB : Aside0 (Below w.heap.size w w191)) (GE384 : Aside0 (w.heap.size ≤ gb384))
  (hC : CC = ((Code.region 46 #[{ dst := some 380, op := Op.move (Operand.tmp 41), type := 2, pos := "laws.go:877", after := #[], guard := none }, { dst := some 381, op := Op.move (Operand.tmp 43), type := 2, pos := "laws.go:877", after := #[], guard := none }, { dst := some 382, op := Op.binOp BinOp.eql 2 (Operand.tmp 380) (Operand.tmp 381) 2, type := 4, pos := "laws.go:877", after := #[{ on := 0, ground := Ground.data }, { on := 1, ground := Ground.data }], guard := none }, { dst := some 383, op := Op.move (Operand.tmp 382), type := 4, pos := "laws.go:877", after := #[{ on := 2, ground := Ground.data }], guard := none }, { dst := some 384, op := Op.move (Operand.tmp 41), type := 2, pos := "laws.go:877", after := #[{ on := 3, ground := Ground.guard }], guard := some (3, true) }, { dst := some 385, op := Op.binOp BinOp.eql 2 (Operand.tmp 384) (Operand.const (Value.int IntKind.i64 0)) 2, type := 4, pos := "laws.go:877", after := #[{ on := 4, ground := Ground.data }, { on := 3, ground := Ground.guard }], guard := some (3, true) }, { dst := some 386, op := Op.pick (Operand.tmp 383) (Operand.tmp 385) (Operand.const (Value.bool false)), type := 4, pos := "laws.go:877", after := #[{ on := 3, ground := Ground.data }, { on := 5, ground := Ground.data }], guard := none }, { dst := some 387, op := Op.move (Operand.tmp 386), type := 4, pos := "laws.go:877", after := #[{ on := 6, ground := Ground.data }, { on := 3, ground := Ground.chain }], guard := none }, { dst := some 388, op := Op.move (Operand.tmp 40), type := 50, pos := "laws.go:877", after := #[{ on := 7, ground := Ground.guard }], guard := some (7, true) }, { dst := some 389, op := Op.move (Operand.tmp 42), type := 50, pos := "laws.go:877", after := #[{ on := 7, ground := Ground.guard }], guard := some (7, true) }, { dst := some 390, op := Op.call { callee := Callee.value (Operand.func 19), args := #[Operand.tmp 388, Operand.tmp 389], argTypes := #[50, 50] }, type := 4, pos := "laws.go:877", after := #[{ on := 8, ground := Ground.data }, { on := 9, ground := Ground.data }, { on := 7, ground := Ground.chain }, { on := 7, ground := Ground.guard }], guard := some (7, true) }, { dst := some 391, op := Op.pick (Operand.tmp 387) (Operand.tmp 390) (Operand.const (Value.bool false)), type := 4, pos := "laws.go:877", after := #[{ on := 7, ground := Ground.data }, { on := 10, ground := Ground.data }], guard := none }, { dst := some 392, op := Op.move (Operand.tmp 391), type := 4, pos := "laws.go:877", after := #[{ on := 11, ground := Ground.data }, { on := 10, ground := Ground.chain }], guard := none }, { dst := some 393, op := Op.move (Operand.tmp 42), type := 50, pos := "laws.go:877", after := #[{ on := 12, ground := Ground.guard }], guard := some (12, true) }, { dst := some 394, op := Op.move (Operand.tmp 19), type := 2, pos := "laws.go:877", after := #[{ on := 12, ground := Ground.guard }], guard := some (12, true) }, { dst := some 395, op := Op.move (Operand.tmp 36), type := 2, pos := "laws.go:877", after := #[{ on := 12, ground := Ground.guard }], guard := some (12, true) }, { dst := some 396, op := Op.call { callee := Callee.builtin Builtin.min, args := #[Operand.tmp 394, Operand.tmp 395], argTypes := #[2, 2] }, type := 2, pos := "laws.go:877", after := #[{ on := 14, ground := Ground.data }, { on := 15, ground := Ground.data }, { on := 12, ground := Ground.guard }], guard := some (12, true) }, { dst := some 397, op := Op.move (Operand.tmp 19), type := 2, pos := "laws.go:877", after := #[{ on := 12, ground := Ground.guard }], guard := some (12, true) }, { dst := some 398, op := Op.move (Operand.tmp 36), type := 2, pos := "laws.go:877", after := #[{ on := 12, ground := Ground.guard }], guard := some (12, true) }, { dst := some 399, op := Op.call { callee := Callee.builtin Builtin.max, args := #[Operand.tmp 397, Operand.tmp 398], argTypes := #[2, 2] }, type := 2, pos := "laws.go:877", after := #[{ on := 17, ground := Ground.data }, { on := 18, ground := Ground.data }, { on := 12, ground := Ground.guard }], guard := some (12, true) }, { dst := some 400, op := Op.build 55 #[(0, Operand.tmp 396), (1, Operand.tmp 399)], type := 55, pos := "laws.go:877", after := #[{ on := 16, ground := Ground.data }, { on := 19, ground := Ground.data }, { on := 12, ground := Ground.guard }], guard := some (12, true) }, { dst := some 401, op := Op.call { callee := Callee.value (Operand.func 20), args := #[Operand.tmp 393, Operand.tmp 400], argTypes := #[50, 55] }, type := 4, pos := "laws.go:877", after := #[{ on := 13, ground := Ground.data }, { on := 20, ground := Ground.data }, { on := 12, ground := Ground.chain }, { on := 12, ground := Ground.guard }], guard := some (12, true) }, { dst := some 402, op := Op.pick (Operand.tmp 392) (Operand.tmp 401) (Operand.const (Value.bool false)), type := 4, pos := "laws.go:877", after := #[{ on := 12, ground := Ground.data }, { on := 21, ground := Ground.data }], guard := none }, { dst := some 4, op := Op.assign (Operand.tmp 402), type := 4, pos := "laws.go:877", after := #[{ on := 22, ground := Ground.data }, { on := 21, ground := Ground.chain }, { on := 0, ground := Ground.phase }, { on := 1, ground := Ground.phase }, { on := 2, ground := Ground.phase }, { on := 3, ground := Ground.phase }, { on := 4, ground := Ground.phase }, { on := 5, ground := Ground.phase }, { on := 6, ground := Ground.phase }, { on := 7, ground := Ground.phase }, { on := 8, ground := Ground.phase }, { on := 9, ground := Ground.phase }, { on := 10, ground := Ground.phase }, { on := 11, ground := Ground.phase }, { on := 12, ground := Ground.phase }, { on := 13, ground := Ground.phase }, { on := 14, ground := Ground.phase }, { on := 15, ground := Ground.phase }, { on := 16, ground := Ground.phase }, { on := 17, ground := Ground.phase }, { on := 18, ground := Ground.phase }, { on := 19, ground := Ground.phase }, { on := 20, ground := Ground.phase }, { on := 21, ground := Ground.phase }, { on := 22, ground := Ground.phase }], guard := none }] false).seq Code.ret))
  (hL : L1 = frU (fun i => L1.getD i undef) 0 (List.replicate 403 undef) 20657999024695268717247353376024094994637646342633788102645274852325180976134729557037162826241102651487225375781979947007)
  (e19 : L1.getD 19 undef = .int .i64 t408) (e36 : L1.getD 36 undef = .int .i64 ji133) (e40 : L1.getD 40 undef = .slice Ao192 t490.length co192) (e41 : L1.getD 41 undef = .int .i64 t493) (e42 : L1.getD 42 undef = .slice Ao193 t495.length co193) (e43 : L1.getD 43 undef = .int .i64 t498)
  (hQ : Q' = bodyPost Try.prog Try.f3 fun e w' => e = Ending.returned (Value.bool t500) ∧ Below w.heap.size w w')
   :
  Code.wp Try.prog CC Q' ⟨L1.toArray, []⟩ w191 := by
  subst hQ
  subst hC
  obtain ⟨u, hu⟩ : ∃ u : Nat → Value, u = fun i => L1.getD i undef := ⟨_, rfl⟩
  have e19' : u 19 = (.int .i64 t408) := by rw [hu]; exact e19
  have e36' : u 36 = (.int .i64 ji133) := by rw [hu]; exact e36
  have e40' : u 40 = (.slice Ao192 t490.length co192) := by rw [hu]; exact e40
  have e41' : u 41 = (.int .i64 t493) := by rw [hu]; exact e41
  have e42' : u 42 = (.slice Ao193 t495.length co193) := by rw [hu]; exact e42
  have e43' : u 43 = (.int .i64 t498) := by rw [hu]; exact e43
  have hL' : L1 = (u 0) :: (u 1) :: (u 2) :: (u 3) :: (u 4) :: (u 5) :: (u 6) :: (u 7) :: (u 8) :: (u 9) :: (u 10) :: (u 11) :: (u 12) :: (u 13) :: (u 14) :: (u 15) :: (u 16) :: (u 17) :: (u 18) :: (.int .i64 t408) :: (u 20) :: (u 21) :: (u 22) :: (u 23) :: (u 24) :: (u 25) :: (u 26) :: (u 27) :: (u 28) :: (u 29) :: (u 30) :: (u 31) :: (u 32) :: (u 33) :: (u 34) :: (u 35) :: (.int .i64 ji133) :: (u 37) :: (u 38) :: (u 39) :: (.slice Ao192 t490.length co192) :: (.int .i64 t493) :: (.slice Ao193 t495.length co193) :: (.int .i64 t498) :: (u 44) :: (u 45) :: (u 46) :: (u 47) :: (u 48) :: (u 49) :: (u 50) :: (u 51) :: (u 52) :: (u 53) :: (u 54) :: (u 55) :: (u 56) :: (u 57) :: (u 58) :: (u 59) :: (u 60) :: (u 61) :: (u 62) :: (u 63) :: (u 64) :: (u 65) :: (u 66) :: (u 67) :: (u 68) :: (u 69) :: (u 70) :: (u 71) :: (u 72) :: (u 73) :: (u 74) :: (u 75) :: (u 76) :: (u 77) :: (u 78) :: (u 79) :: (u 80) :: (u 81) :: (u 82) :: (u 83) :: (u 84) :: (u 85) :: (u 86) :: (u 87) :: (u 88) :: (u 89) :: (u 90) :: (u 91) :: (u 92) :: (u 93) :: (u 94) :: (u 95) :: (u 96) :: (u 97) :: (u 98) :: (u 99) :: (u 100) :: (u 101) :: (u 102) :: (u 103) :: (u 104) :: (u 105) :: (u 106) :: (u 107) :: (u 108) :: (u 109) :: (u 110) :: (u 111) :: (u 112) :: (u 113) :: (u 114) :: (u 115) :: (u 116) :: (u 117) :: (u 118) :: (u 119) :: (u 120) :: (u 121) :: (u 122) :: (u 123) :: (u 124) :: (u 125) :: (u 126) :: (u 127) :: (u 128) :: (u 129) :: (u 130) :: (u 131) :: (u 132) :: (u 133) :: (u 134) :: (u 135) :: (u 136) :: (u 137) :: (u 138) :: (u 139) :: (u 140) :: (u 141) :: (u 142) :: (u 143) :: (u 144) :: (u 145) :: (u 146) :: (u 147) :: (u 148) :: (u 149) :: (u 150) :: (u 151) :: (u 152) :: (u 153) :: (u 154) :: (u 155) :: (u 156) :: (u 157) :: (u 158) :: (u 159) :: (u 160) :: (u 161) :: (u 162) :: (u 163) :: (u 164) :: (u 165) :: (u 166) :: (u 167) :: (u 168) :: (u 169) :: (u 170) :: (u 171) :: (u 172) :: (u 173) :: (u 174) :: (u 175) :: (u 176) :: (u 177) :: (u 178) :: (u 179) :: (u 180) :: (u 181) :: (u 182) :: (u 183) :: (u 184) :: (u 185) :: (u 186) :: (u 187) :: (u 188) :: (u 189) :: (u 190) :: (u 191) :: (u 192) :: (u 193) :: (u 194) :: (u 195) :: (u 196) :: (u 197) :: (u 198) :: (u 199) :: (u 200) :: (u 201) :: (u 202) :: (u 203) :: (u 204) :: (u 205) :: (u 206) :: (u 207) :: (u 208) :: (u 209) :: (u 210) :: (u 211) :: (u 212) :: (u 213) :: (u 214) :: (u 215) :: (u 216) :: (u 217) :: (u 218) :: (u 219) :: (u 220) :: (u 221) :: (u 222) :: (u 223) :: (u 224) :: (u 225) :: (u 226) :: (u 227) :: (u 228) :: (u 229) :: (u 230) :: (u 231) :: (u 232) :: (u 233) :: (u 234) :: (u 235) :: (u 236) :: (u 237) :: (u 238) :: (u 239) :: (u 240) :: (u 241) :: (u 242) :: (u 243) :: (u 244) :: (u 245) :: (u 246) :: (u 247) :: (u 248) :: (u 249) :: (u 250) :: (u 251) :: (u 252) :: (u 253) :: (u 254) :: (u 255) :: (u 256) :: (u 257) :: (u 258) :: (u 259) :: (u 260) :: (u 261) :: (u 262) :: (u 263) :: (u 264) :: (u 265) :: (u 266) :: (u 267) :: (u 268) :: (u 269) :: (u 270) :: (u 271) :: (u 272) :: (u 273) :: (u 274) :: (u 275) :: (u 276) :: (u 277) :: (u 278) :: (u 279) :: (u 280) :: (u 281) :: (u 282) :: (u 283) :: (u 284) :: (u 285) :: (u 286) :: (u 287) :: (u 288) :: (u 289) :: (u 290) :: (u 291) :: (u 292) :: (u 293) :: (u 294) :: (u 295) :: (u 296) :: (u 297) :: (u 298) :: (u 299) :: (u 300) :: (u 301) :: (u 302) :: (u 303) :: (u 304) :: (u 305) :: (u 306) :: (u 307) :: (u 308) :: (u 309) :: (u 310) :: (u 311) :: (u 312) :: (u 313) :: (u 314) :: (u 315) :: (u 316) :: (u 317) :: (u 318) :: (u 319) :: (u 320) :: (u 321) :: (u 322) :: (u 323) :: (u 324) :: (u 325) :: (u 326) :: (u 327) :: (u 328) :: (u 329) :: (u 330) :: (u 331) :: (u 332) :: (u 333) :: (u 334) :: (u 335) :: (u 336) :: (u 337) :: (u 338) :: (u 339) :: (u 340) :: (u 341) :: (u 342) :: (u 343) :: (u 344) :: (u 345) :: (u 346) :: (u 347) :: (u 348) :: (u 349) :: (u 350) :: (u 351) :: (u 352) :: (u 353) :: (u 354) :: (u 355) :: (u 356) :: (u 357) :: (u 358) :: (u 359) :: (u 360) :: (u 361) :: (u 362) :: (u 363) :: (u 364) :: (u 365) :: (u 366) :: (u 367) :: (u 368) :: (u 369) :: (u 370) :: (u 371) :: (u 372) :: (u 373) :: (u 374) :: (u 375) :: (u 376) :: (u 377) :: (u 378) :: (u 379) :: (u 380) :: (u 381) :: (u 382) :: (u 383) :: (u 384) :: (u 385) :: (u 386) :: (u 387) :: (u 388) :: (u 389) :: (u 390) :: (u 391) :: (u 392) :: (u 393) :: (u 394) :: (u 395) :: (u 396) :: (u 397) :: (u 398) :: (u 399) :: (u 400) :: (u 401) :: (u 402) :: [] := by
    rw [← hu] at hL
    have hv : frU u 0 (List.replicate 403 undef) 20657999024695268717247353376024094994637646342633788102645274852325180976134729557037162826241102651487225375781979947007 = u 0 :: u 1 :: u 2 :: u 3 :: u 4 :: u 5 :: u 6 :: u 7 :: u 8 :: u 9 :: u 10 :: u 11 :: u 12 :: u 13 :: u 14 :: u 15 :: u 16 :: u 17 :: u 18 :: u 19 :: u 20 :: u 21 :: u 22 :: u 23 :: u 24 :: u 25 :: u 26 :: u 27 :: u 28 :: u 29 :: u 30 :: u 31 :: u 32 :: u 33 :: u 34 :: u 35 :: u 36 :: u 37 :: u 38 :: u 39 :: u 40 :: u 41 :: u 42 :: u 43 :: u 44 :: u 45 :: u 46 :: u 47 :: u 48 :: u 49 :: u 50 :: u 51 :: u 52 :: u 53 :: u 54 :: u 55 :: u 56 :: u 57 :: u 58 :: u 59 :: u 60 :: u 61 :: u 62 :: u 63 :: u 64 :: u 65 :: u 66 :: u 67 :: u 68 :: u 69 :: u 70 :: u 71 :: u 72 :: u 73 :: u 74 :: u 75 :: u 76 :: u 77 :: u 78 :: u 79 :: u 80 :: u 81 :: u 82 :: u 83 :: u 84 :: u 85 :: u 86 :: u 87 :: u 88 :: u 89 :: u 90 :: u 91 :: u 92 :: u 93 :: u 94 :: u 95 :: u 96 :: u 97 :: u 98 :: u 99 :: u 100 :: u 101 :: u 102 :: u 103 :: u 104 :: u 105 :: u 106 :: u 107 :: u 108 :: u 109 :: u 110 :: u 111 :: u 112 :: u 113 :: u 114 :: u 115 :: u 116 :: u 117 :: u 118 :: u 119 :: u 120 :: u 121 :: u 122 :: u 123 :: u 124 :: u 125 :: u 126 :: u 127 :: u 128 :: u 129 :: u 130 :: u 131 :: u 132 :: u 133 :: u 134 :: u 135 :: u 136 :: u 137 :: u 138 :: u 139 :: u 140 :: u 141 :: u 142 :: u 143 :: u 144 :: u 145 :: u 146 :: u 147 :: u 148 :: u 149 :: u 150 :: u 151 :: u 152 :: u 153 :: u 154 :: u 155 :: u 156 :: u 157 :: u 158 :: u 159 :: u 160 :: u 161 :: u 162 :: u 163 :: u 164 :: u 165 :: u 166 :: u 167 :: u 168 :: u 169 :: u 170 :: u 171 :: u 172 :: u 173 :: u 174 :: u 175 :: u 176 :: u 177 :: u 178 :: u 179 :: u 180 :: u 181 :: u 182 :: u 183 :: u 184 :: u 185 :: u 186 :: u 187 :: u 188 :: u 189 :: u 190 :: u 191 :: u 192 :: u 193 :: u 194 :: u 195 :: u 196 :: u 197 :: u 198 :: u 199 :: u 200 :: u 201 :: u 202 :: u 203 :: u 204 :: u 205 :: u 206 :: u 207 :: u 208 :: u 209 :: u 210 :: u 211 :: u 212 :: u 213 :: u 214 :: u 215 :: u 216 :: u 217 :: u 218 :: u 219 :: u 220 :: u 221 :: u 222 :: u 223 :: u 224 :: u 225 :: u 226 :: u 227 :: u 228 :: u 229 :: u 230 :: u 231 :: u 232 :: u 233 :: u 234 :: u 235 :: u 236 :: u 237 :: u 238 :: u 239 :: u 240 :: u 241 :: u 242 :: u 243 :: u 244 :: u 245 :: u 246 :: u 247 :: u 248 :: u 249 :: u 250 :: u 251 :: u 252 :: u 253 :: u 254 :: u 255 :: u 256 :: u 257 :: u 258 :: u 259 :: u 260 :: u 261 :: u 262 :: u 263 :: u 264 :: u 265 :: u 266 :: u 267 :: u 268 :: u 269 :: u 270 :: u 271 :: u 272 :: u 273 :: u 274 :: u 275 :: u 276 :: u 277 :: u 278 :: u 279 :: u 280 :: u 281 :: u 282 :: u 283 :: u 284 :: u 285 :: u 286 :: u 287 :: u 288 :: u 289 :: u 290 :: u 291 :: u 292 :: u 293 :: u 294 :: u 295 :: u 296 :: u 297 :: u 298 :: u 299 :: u 300 :: u 301 :: u 302 :: u 303 :: u 304 :: u 305 :: u 306 :: u 307 :: u 308 :: u 309 :: u 310 :: u 311 :: u 312 :: u 313 :: u 314 :: u 315 :: u 316 :: u 317 :: u 318 :: u 319 :: u 320 :: u 321 :: u 322 :: u 323 :: u 324 :: u 325 :: u 326 :: u 327 :: u 328 :: u 329 :: u 330 :: u 331 :: u 332 :: u 333 :: u 334 :: u 335 :: u 336 :: u 337 :: u 338 :: u 339 :: u 340 :: u 341 :: u 342 :: u 343 :: u 344 :: u 345 :: u 346 :: u 347 :: u 348 :: u 349 :: u 350 :: u 351 :: u 352 :: u 353 :: u 354 :: u 355 :: u 356 :: u 357 :: u 358 :: u 359 :: u 360 :: u 361 :: u 362 :: u 363 :: u 364 :: u 365 :: u 366 :: u 367 :: u 368 :: u 369 :: u 370 :: u 371 :: u 372 :: u 373 :: u 374 :: u 375 :: u 376 :: u 377 :: u 378 :: u 379 :: u 380 :: u 381 :: u 382 :: u 383 :: u 384 :: u 385 :: u 386 :: u 387 :: u 388 :: u 389 :: u 390 :: u 391 :: u 392 :: u 393 :: u 394 :: u 395 :: u 396 :: u 397 :: u 398 :: u 399 :: u 400 :: u 401 :: u 402 :: [] := by kernel_rfl
    rw [hL, hv, e19', e36', e40', e41', e42', e43']
  clear hL e19 e36 e40 e41 e42 e43 e19' e36' e40' e41' e42' e43' hu
  subst hL'
  have hu27 := Try.underlying27
  have hu40 := Try.underlying40
  have hu55 := Try.underlying55
  go_wp2_with (first | (go_at_call 19; (with_reducible refine (spec_SamePairs.calls kj142 _ _ t490 _ _ t495 true _ ?side1 ?side2 ?side3 ?side4 A182.out).mono ?_); (case side1 => exact zC (Kd.R_reads' HO492.out).2.2); (case side2 => exact (Kd.R_reads' HO492.out).2.1); (case side3 => exact zC (Kd.R_reads' HO497.out).2.2); (case side4 => exact (Kd.R_reads' HO497.out).2.1); rintro e w' ⟨rfl, ⟨nd, rfl⟩⟩) | (go_at_call 20; (with_reducible refine (spec_HasPair.calls kj142 _ _ t495 ji184 ji185 t500 _ ?side1 ?side2 A186.out).mono ?_); (case side1 => exact zC (Kd.R_reads' HO497.out).2.2); (case side2 => exact (Kd.R_reads' HO497.out).2.1); rintro e w194 ⟨rfl, hb⟩; have n0_ := ak (Kd.R_below (zR HO_6.out) hb); have n1_ := ak (Kd.R_below (zR HO_38.out) hb); have n2_ := ak (Kd.R_below (zR HO_385001.out) hb); have n3_ := ak (Kd.R_below (zR HO492.out) hb); have n4_ := ak (Kd.R_below (zR HO497.out) hb); have n5_ := ak (blk_below (g := gb384) (o := .cells #[.int .i16 t380, .slice Ao18 t381.length co18] 27 (0, 0)) (zK BK384.out) hb); have n6_ := ak (Kd.C_below (zC HR448.out) hb); have n7_ := ak (Kd.C_below (zC HR455.out) hb); have n8_ := ak (below_step (zBG HB.out GE384.out) hb); clear HO_6 HO_38 HO_385001 HO492 HO497 BK384 HR448 HR455 HB; have HO_6 := n0_; have HO_38 := n1_; have HO_385001 := n2_; have HO492 := n3_; have HO497 := n4_; have BK384 := n5_; have HR448 := n6_; have HR455 := n7_; have HB := n8_; clear n0_ n1_ n2_ n3_ n4_ n5_ n6_ n7_ n8_; (try clear hb); (try clear hb2); (try clear hk); (try clear hi)))
  go_ret
  exact ⟨by first | rfl | (simp [errW_none, errW_some] <;> rfl), by repeat (first | (with_reducible first | exact HB.out | apply below_alloc | apply pw_below_drewN | apply below_drew1) | exact HB.out)⟩

end Go.Proofs.Ytcgbnbblojkglaa.P
