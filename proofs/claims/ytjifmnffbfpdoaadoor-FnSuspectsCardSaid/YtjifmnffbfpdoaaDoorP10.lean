-- Printed by wip/print (my turned copy of the kit's print) out of the translation; Lean checks it.
import Derived.Test.YtjifmnffbfpdoaaDoorP0
import Derived.Test.YtjifmnffbfpdoaaDoorP1
import Derived.Test.YtjifmnffbfpdoaaDoorP2
import Derived.Test.YtjifmnffbfpdoaaDoorP4
import Derived.Test.YtjifmnffbfpdoaaDoorP6
import Derived.Test.YtjifmnffbfpdoaaDoorP7
import Derived.Test.YtjifmnffbfpdoaaDoorP8
import Derived.Test.YtjifmnffbfpdoaaDoorP9
namespace Go.Proofs.YtjifmnffbfpdoaaDoor.P
open Go.RowKit Go.Proofs.YtjifmnffbfpdoaaDoorW.PrintWords Go.Proofs.YtjifmnffbfpdoaaDoorW.PrintLast Go.Proofs.YtjifmnffbfpdoaaDoorW.PrintMore
attribute [local go_sem] max2_int min2_int max_two min_two max_three min_three max_four min_four   -- for this text's walks alone
set_option linter.unusedVariables false
set_option linter.unusedSimpArgs false

/-! ### laws_FnSuspects: function 3 -/
mutual
def laws_FnSuspects.j0 : Nat → List Int → List Int → Bool → Int → Option (Bool)
  | 0, _, _, _, _ => none
  | k + 1, x0, x1, x35, x978000 => if x35 = true then (some true) else ((spec_P6Habits.f k x0).bind fun t387 => ((spec_P6Words.f k x1).bind fun t390 => ((spec_P6Word.f k x0).bind fun t393 => ((spec_P6Word.f k x1).bind fun t394 => (if (t390.length : Int) > 0 then (if 0 < (t390.length : Int) then ((spec_PassOn.f k t387 (rdOf ByteArray.empty t390 0)).bind fun bt396 => (if bt396.2 = 0 then (laws_FnSuspects.j1 k t387 t390 t393 bt396.1 x978000) else (some false))) else (none)) else (laws_FnSuspects.j1 k t387 t390 t393 t394 x978000))))))
def laws_FnSuspects.j1 : Nat → List (S41) → List ByteArray → ByteArray → ByteArray → Int → Option (Bool)
  | 0, _, _, _, _, _ => none
  | k + 1, x5, x6, x7, x8, x978000 => (impl_OriginsIn.f k x6 x5 x8 x978000).bind fun bt398 => ((impl_StaysSame.f k x6 x5 x978000).bind fun bt402 => ((impl_NobodyBut.f k x5 x7 x8 x978000).bind fun bt406 => ((impl_AllBut.f k x5 x7 x8 x978000).bind fun bt410 => ((spec_AllBut.f k x5 x7 x8).bind fun bt414 => (if bt398.2 = 0 then (if bt402.2 = 0 then (if bt406.2 = 0 then (if bt410.2 = bt414.2 then (if bt410.2 = 0 then ((spec_SameNumbers.f k bt410.1 bt414.1).bind fun t418 => (if t418 = true then (if (x6.length : Int) > 0 then ((spec_HasNumber.f k bt398.1 0).bind fun t419 => (laws_FnSuspects.j2 k x5 x6 x7 x8 bt398.1 bt402.1 bt406.1 bt414.1 (!t419) x978000)) else (laws_FnSuspects.j2 k x5 x6 x7 x8 bt398.1 bt402.1 bt406.1 bt414.1 false x978000)) else (laws_FnSuspects.j2 k x5 x6 x7 x8 bt398.1 bt402.1 bt406.1 bt414.1 true x978000))) else (laws_FnSuspects.j2 k x5 x6 x7 x8 bt398.1 bt402.1 bt406.1 bt414.1 true x978000)) else (laws_FnSuspects.j2 k x5 x6 x7 x8 bt398.1 bt402.1 bt406.1 bt414.1 true x978000)) else (laws_FnSuspects.j2 k x5 x6 x7 x8 bt398.1 bt402.1 bt406.1 bt414.1 true x978000)) else (laws_FnSuspects.j2 k x5 x6 x7 x8 bt398.1 bt402.1 bt406.1 bt414.1 true x978000)) else (laws_FnSuspects.j2 k x5 x6 x7 x8 bt398.1 bt402.1 bt406.1 bt414.1 true x978000))))))
def laws_FnSuspects.j2 : Nat → List (S41) → List ByteArray → ByteArray → ByteArray → List Int → List Int → List Int → List Int → Bool → Int → Option (Bool)
  | 0, _, _, _, _, _, _, _, _, _, _ => none
  | k + 1, x5, x6, x7, x8, x11, x13, x15, x19, x126, x978000 => if x126 = true then (some false) else (laws_FnSuspects.l0 k x5 x6 x7 x8 x11 x13 x15 x19 0 x978000)
def laws_FnSuspects.l0 : Nat → List (S41) → List ByteArray → ByteArray → ByteArray → List Int → List Int → List Int → List Int → Int → Int → Option (Bool)
  | 0, _, _, _, _, _, _, _, _, _, _ => none
  | k + 1, x5, x6, x7, x8, x11, x13, x15, x19, x21, x978000 => if x21 < (x6.length : Int) then (if 0 ≤ x21 then ((impl_PassOn.f k x5 (rdOf ByteArray.empty x6 x21) x978000).bind fun bt421 => (if bt421.2 = 0 then ((spec_HasNumber.f k x11 x21).bind fun t423 => (if (t423 != (bt421.1.toList == x8.toList)) = true then (some false) else ((spec_HasNumber.f k x13 x21).bind fun t424 => (if (t424 != (bt421.1.toList == (rdOf ByteArray.empty x6 x21).toList)) = true then (some false) else (laws_FnSuspects.l0 k x5 x6 x7 x8 x11 x13 x15 x19 (wrap64 (x21 + 1)) x978000))))) else (some false))) else (none)) else (laws_FnSuspects.l1 k x5 x7 x8 x15 x19 0 x978000)
def laws_FnSuspects.l1 : Nat → List (S41) → ByteArray → ByteArray → List Int → List Int → Int → Int → Option (Bool)
  | 0, _, _, _, _, _, _, _ => none
  | k + 1, x5, x7, x8, x15, x19, x24, x978000 => if x24 < (x5.length : Int) then (if 0 ≤ x24 then ((impl_Hear.f k ((rd_T41 x5 x24).f0) ((rd_T41 x5 x24).f1) ((rd_T41 x5 x24).f2) x7 x978000).bind fun bt427 => ((some (([] : List (S41)) : List (S41))).bind fun y429 => (if y429.length + x5.length < 46912496118442 then ((some (y429 ++ x5 : List (S41))).bind fun y432 => (if x24 < (y432.length : Int) then ((impl_PassOn.f k (y432.set (x24 : Int).toNat (⟨0, 0, 0⟩ : S41)) x7 x978000).bind fun bt436 => (if bt427.2 = 0 then ((spec_HasNumber.f k x15 x24).bind fun t438 => (if (t438 != (bt427.1.toList == x8.toList)) = true then (some false) else (if bt436.2 = 0 then ((spec_HasNumber.f k x19 x24).bind fun t439 => (if (t439 != (bt436.1.toList == x8.toList)) = true then (some false) else (laws_FnSuspects.l1 k x5 x7 x8 x15 x19 (wrap64 (x24 + 1)) x978000))) else (some false)))) else (some false))) else (none))) else (none)))) else (none)) else (some true)
end
def laws_FnSuspects.f (k : Nat) (l0 : List Int) (l1 : List Int) (a977_0 : Int) : Option (Bool) := (laws_f6big.f l0).bind fun t385 => (if t385 = true then (laws_FnSuspects.j0 k l0 l1 true a977_0) else ((laws_f6big.f l1).bind fun t386 => (laws_FnSuspects.j0 k l0 l1 t386 a977_0)))
theorem laws_FnSuspects.mono_l : ∀ k, (∀ y0 y1 y2 y3, LeO (laws_FnSuspects.j0 k y0 y1 y2 y3) (laws_FnSuspects.j0 (k + 1) y0 y1 y2 y3)) ∧ (∀ y0 y1 y2 y3 y4, LeO (laws_FnSuspects.j1 k y0 y1 y2 y3 y4) (laws_FnSuspects.j1 (k + 1) y0 y1 y2 y3 y4)) ∧ (∀ y0 y1 y2 y3 y4 y5 y6 y7 y8 y9, LeO (laws_FnSuspects.j2 k y0 y1 y2 y3 y4 y5 y6 y7 y8 y9) (laws_FnSuspects.j2 (k + 1) y0 y1 y2 y3 y4 y5 y6 y7 y8 y9)) ∧ (∀ y0 y1 y2 y3 y4 y5 y6 y7 y8 y9, LeO (laws_FnSuspects.l0 k y0 y1 y2 y3 y4 y5 y6 y7 y8 y9) (laws_FnSuspects.l0 (k + 1) y0 y1 y2 y3 y4 y5 y6 y7 y8 y9)) ∧ (∀ y0 y1 y2 y3 y4 y5 y6, LeO (laws_FnSuspects.l1 k y0 y1 y2 y3 y4 y5 y6) (laws_FnSuspects.l1 (k + 1) y0 y1 y2 y3 y4 y5 y6))
  | 0 => ⟨fun _ _ _ _ r h => by simp [laws_FnSuspects.j0] at h, fun _ _ _ _ _ r h => by simp [laws_FnSuspects.j1] at h, fun _ _ _ _ _ _ _ _ _ _ r h => by simp [laws_FnSuspects.j2] at h, fun _ _ _ _ _ _ _ _ _ _ r h => by simp [laws_FnSuspects.l0] at h, fun _ _ _ _ _ _ _ r h => by simp [laws_FnSuspects.l1] at h⟩
  | k + 1 => by
    obtain ⟨ih0, ih1, ih2, ih3, ih4⟩ := laws_FnSuspects.mono_l k
    refine ⟨?_, ?_, ?_, ?_, ?_⟩
    · intro y0 y1 y2 y3
      unfold laws_FnSuspects.j0
      repeat' first
      | (with_reducible exact ih0 _ _ _ _)
      | (with_reducible exact ih1 _ _ _ _ _)
      | (with_reducible exact ih2 _ _ _ _ _ _ _ _ _ _)
      | (with_reducible exact ih3 _ _ _ _ _ _ _ _ _ _)
      | (with_reducible exact ih4 _ _ _ _ _ _ _)
      | (with_reducible exact impl_AllBut.mono _ _ _ _ _)
      | (with_reducible exact impl_Hear.mono _ _ _ _ _ _)
      | (with_reducible exact impl_NobodyBut.mono _ _ _ _ _)
      | (with_reducible exact impl_OriginsIn.mono _ _ _ _ _)
      | (with_reducible exact impl_PassOn.mono _ _ _ _)
      | (with_reducible exact impl_StaysSame.mono _ _ _ _)
      | (with_reducible exact spec_AllBut.mono _ _ _ _)
      | (with_reducible exact spec_HasNumber.mono _ _ _)
      | (with_reducible exact spec_P6Habits.mono _ _)
      | (with_reducible exact spec_P6Word.mono _ _)
      | (with_reducible exact spec_P6Words.mono _ _)
      | (with_reducible exact spec_PassOn.mono _ _ _)
      | (with_reducible exact spec_SameNumbers.mono _ _ _)
      | (with_reducible exact LeO.refl _)
      | (with_reducible exact LeO.none _)
      | (with_reducible refine LeO.ite ?_ ?_)
      | (with_reducible refine LeO.bind ?_ (fun _ => ?_))
      | exact ih0 _ _ _ _
      | exact ih1 _ _ _ _ _
      | exact ih2 _ _ _ _ _ _ _ _ _ _
      | exact ih3 _ _ _ _ _ _ _ _ _ _
      | exact ih4 _ _ _ _ _ _ _
      | exact impl_AllBut.mono _ _ _ _ _
      | exact impl_Hear.mono _ _ _ _ _ _
      | exact impl_NobodyBut.mono _ _ _ _ _
      | exact impl_OriginsIn.mono _ _ _ _ _
      | exact impl_PassOn.mono _ _ _ _
      | exact impl_StaysSame.mono _ _ _ _
      | exact spec_AllBut.mono _ _ _ _
      | exact spec_HasNumber.mono _ _ _
      | exact spec_P6Habits.mono _ _
      | exact spec_P6Word.mono _ _
      | exact spec_P6Words.mono _ _
      | exact spec_PassOn.mono _ _ _
      | exact spec_SameNumbers.mono _ _ _
      | exact LeO.none _
      | refine LeO.ite ?_ ?_
      | refine LeO.bind ?_ (fun _ => ?_)
    · intro y0 y1 y2 y3 y4
      unfold laws_FnSuspects.j1
      repeat' first
      | (with_reducible exact ih0 _ _ _ _)
      | (with_reducible exact ih1 _ _ _ _ _)
      | (with_reducible exact ih2 _ _ _ _ _ _ _ _ _ _)
      | (with_reducible exact ih3 _ _ _ _ _ _ _ _ _ _)
      | (with_reducible exact ih4 _ _ _ _ _ _ _)
      | (with_reducible exact impl_AllBut.mono _ _ _ _ _)
      | (with_reducible exact impl_Hear.mono _ _ _ _ _ _)
      | (with_reducible exact impl_NobodyBut.mono _ _ _ _ _)
      | (with_reducible exact impl_OriginsIn.mono _ _ _ _ _)
      | (with_reducible exact impl_PassOn.mono _ _ _ _)
      | (with_reducible exact impl_StaysSame.mono _ _ _ _)
      | (with_reducible exact spec_AllBut.mono _ _ _ _)
      | (with_reducible exact spec_HasNumber.mono _ _ _)
      | (with_reducible exact spec_P6Habits.mono _ _)
      | (with_reducible exact spec_P6Word.mono _ _)
      | (with_reducible exact spec_P6Words.mono _ _)
      | (with_reducible exact spec_PassOn.mono _ _ _)
      | (with_reducible exact spec_SameNumbers.mono _ _ _)
      | (with_reducible exact LeO.refl _)
      | (with_reducible exact LeO.none _)
      | (with_reducible refine LeO.ite ?_ ?_)
      | (with_reducible refine LeO.bind ?_ (fun _ => ?_))
      | exact ih0 _ _ _ _
      | exact ih1 _ _ _ _ _
      | exact ih2 _ _ _ _ _ _ _ _ _ _
      | exact ih3 _ _ _ _ _ _ _ _ _ _
      | exact ih4 _ _ _ _ _ _ _
      | exact impl_AllBut.mono _ _ _ _ _
      | exact impl_Hear.mono _ _ _ _ _ _
      | exact impl_NobodyBut.mono _ _ _ _ _
      | exact impl_OriginsIn.mono _ _ _ _ _
      | exact impl_PassOn.mono _ _ _ _
      | exact impl_StaysSame.mono _ _ _ _
      | exact spec_AllBut.mono _ _ _ _
      | exact spec_HasNumber.mono _ _ _
      | exact spec_P6Habits.mono _ _
      | exact spec_P6Word.mono _ _
      | exact spec_P6Words.mono _ _
      | exact spec_PassOn.mono _ _ _
      | exact spec_SameNumbers.mono _ _ _
      | exact LeO.none _
      | refine LeO.ite ?_ ?_
      | refine LeO.bind ?_ (fun _ => ?_)
    · intro y0 y1 y2 y3 y4 y5 y6 y7 y8 y9
      unfold laws_FnSuspects.j2
      repeat' first
      | (with_reducible exact ih0 _ _ _ _)
      | (with_reducible exact ih1 _ _ _ _ _)
      | (with_reducible exact ih2 _ _ _ _ _ _ _ _ _ _)
      | (with_reducible exact ih3 _ _ _ _ _ _ _ _ _ _)
      | (with_reducible exact ih4 _ _ _ _ _ _ _)
      | (with_reducible exact impl_AllBut.mono _ _ _ _ _)
      | (with_reducible exact impl_Hear.mono _ _ _ _ _ _)
      | (with_reducible exact impl_NobodyBut.mono _ _ _ _ _)
      | (with_reducible exact impl_OriginsIn.mono _ _ _ _ _)
      | (with_reducible exact impl_PassOn.mono _ _ _ _)
      | (with_reducible exact impl_StaysSame.mono _ _ _ _)
      | (with_reducible exact spec_AllBut.mono _ _ _ _)
      | (with_reducible exact spec_HasNumber.mono _ _ _)
      | (with_reducible exact spec_P6Habits.mono _ _)
      | (with_reducible exact spec_P6Word.mono _ _)
      | (with_reducible exact spec_P6Words.mono _ _)
      | (with_reducible exact spec_PassOn.mono _ _ _)
      | (with_reducible exact spec_SameNumbers.mono _ _ _)
      | (with_reducible exact LeO.refl _)
      | (with_reducible exact LeO.none _)
      | (with_reducible refine LeO.ite ?_ ?_)
      | (with_reducible refine LeO.bind ?_ (fun _ => ?_))
      | exact ih0 _ _ _ _
      | exact ih1 _ _ _ _ _
      | exact ih2 _ _ _ _ _ _ _ _ _ _
      | exact ih3 _ _ _ _ _ _ _ _ _ _
      | exact ih4 _ _ _ _ _ _ _
      | exact impl_AllBut.mono _ _ _ _ _
      | exact impl_Hear.mono _ _ _ _ _ _
      | exact impl_NobodyBut.mono _ _ _ _ _
      | exact impl_OriginsIn.mono _ _ _ _ _
      | exact impl_PassOn.mono _ _ _ _
      | exact impl_StaysSame.mono _ _ _ _
      | exact spec_AllBut.mono _ _ _ _
      | exact spec_HasNumber.mono _ _ _
      | exact spec_P6Habits.mono _ _
      | exact spec_P6Word.mono _ _
      | exact spec_P6Words.mono _ _
      | exact spec_PassOn.mono _ _ _
      | exact spec_SameNumbers.mono _ _ _
      | exact LeO.none _
      | refine LeO.ite ?_ ?_
      | refine LeO.bind ?_ (fun _ => ?_)
    · intro y0 y1 y2 y3 y4 y5 y6 y7 y8 y9
      unfold laws_FnSuspects.l0
      repeat' first
      | (with_reducible exact ih0 _ _ _ _)
      | (with_reducible exact ih1 _ _ _ _ _)
      | (with_reducible exact ih2 _ _ _ _ _ _ _ _ _ _)
      | (with_reducible exact ih3 _ _ _ _ _ _ _ _ _ _)
      | (with_reducible exact ih4 _ _ _ _ _ _ _)
      | (with_reducible exact impl_AllBut.mono _ _ _ _ _)
      | (with_reducible exact impl_Hear.mono _ _ _ _ _ _)
      | (with_reducible exact impl_NobodyBut.mono _ _ _ _ _)
      | (with_reducible exact impl_OriginsIn.mono _ _ _ _ _)
      | (with_reducible exact impl_PassOn.mono _ _ _ _)
      | (with_reducible exact impl_StaysSame.mono _ _ _ _)
      | (with_reducible exact spec_AllBut.mono _ _ _ _)
      | (with_reducible exact spec_HasNumber.mono _ _ _)
      | (with_reducible exact spec_P6Habits.mono _ _)
      | (with_reducible exact spec_P6Word.mono _ _)
      | (with_reducible exact spec_P6Words.mono _ _)
      | (with_reducible exact spec_PassOn.mono _ _ _)
      | (with_reducible exact spec_SameNumbers.mono _ _ _)
      | (with_reducible exact LeO.refl _)
      | (with_reducible exact LeO.none _)
      | (with_reducible refine LeO.ite ?_ ?_)
      | (with_reducible refine LeO.bind ?_ (fun _ => ?_))
      | exact ih0 _ _ _ _
      | exact ih1 _ _ _ _ _
      | exact ih2 _ _ _ _ _ _ _ _ _ _
      | exact ih3 _ _ _ _ _ _ _ _ _ _
      | exact ih4 _ _ _ _ _ _ _
      | exact impl_AllBut.mono _ _ _ _ _
      | exact impl_Hear.mono _ _ _ _ _ _
      | exact impl_NobodyBut.mono _ _ _ _ _
      | exact impl_OriginsIn.mono _ _ _ _ _
      | exact impl_PassOn.mono _ _ _ _
      | exact impl_StaysSame.mono _ _ _ _
      | exact spec_AllBut.mono _ _ _ _
      | exact spec_HasNumber.mono _ _ _
      | exact spec_P6Habits.mono _ _
      | exact spec_P6Word.mono _ _
      | exact spec_P6Words.mono _ _
      | exact spec_PassOn.mono _ _ _
      | exact spec_SameNumbers.mono _ _ _
      | exact LeO.none _
      | refine LeO.ite ?_ ?_
      | refine LeO.bind ?_ (fun _ => ?_)
    · intro y0 y1 y2 y3 y4 y5 y6
      unfold laws_FnSuspects.l1
      repeat' first
      | (with_reducible exact ih0 _ _ _ _)
      | (with_reducible exact ih1 _ _ _ _ _)
      | (with_reducible exact ih2 _ _ _ _ _ _ _ _ _ _)
      | (with_reducible exact ih3 _ _ _ _ _ _ _ _ _ _)
      | (with_reducible exact ih4 _ _ _ _ _ _ _)
      | (with_reducible exact impl_AllBut.mono _ _ _ _ _)
      | (with_reducible exact impl_Hear.mono _ _ _ _ _ _)
      | (with_reducible exact impl_NobodyBut.mono _ _ _ _ _)
      | (with_reducible exact impl_OriginsIn.mono _ _ _ _ _)
      | (with_reducible exact impl_PassOn.mono _ _ _ _)
      | (with_reducible exact impl_StaysSame.mono _ _ _ _)
      | (with_reducible exact spec_AllBut.mono _ _ _ _)
      | (with_reducible exact spec_HasNumber.mono _ _ _)
      | (with_reducible exact spec_P6Habits.mono _ _)
      | (with_reducible exact spec_P6Word.mono _ _)
      | (with_reducible exact spec_P6Words.mono _ _)
      | (with_reducible exact spec_PassOn.mono _ _ _)
      | (with_reducible exact spec_SameNumbers.mono _ _ _)
      | (with_reducible exact LeO.refl _)
      | (with_reducible exact LeO.none _)
      | (with_reducible refine LeO.ite ?_ ?_)
      | (with_reducible refine LeO.bind ?_ (fun _ => ?_))
      | exact ih0 _ _ _ _
      | exact ih1 _ _ _ _ _
      | exact ih2 _ _ _ _ _ _ _ _ _ _
      | exact ih3 _ _ _ _ _ _ _ _ _ _
      | exact ih4 _ _ _ _ _ _ _
      | exact impl_AllBut.mono _ _ _ _ _
      | exact impl_Hear.mono _ _ _ _ _ _
      | exact impl_NobodyBut.mono _ _ _ _ _
      | exact impl_OriginsIn.mono _ _ _ _ _
      | exact impl_PassOn.mono _ _ _ _
      | exact impl_StaysSame.mono _ _ _ _
      | exact spec_AllBut.mono _ _ _ _
      | exact spec_HasNumber.mono _ _ _
      | exact spec_P6Habits.mono _ _
      | exact spec_P6Word.mono _ _
      | exact spec_P6Words.mono _ _
      | exact spec_PassOn.mono _ _ _
      | exact spec_SameNumbers.mono _ _ _
      | exact LeO.none _
      | refine LeO.ite ?_ ?_
      | refine LeO.bind ?_ (fun _ => ?_)
theorem laws_FnSuspects.mono : ∀ a0 a1 a2 k, LeO (laws_FnSuspects.f k a0 a1 a2) (laws_FnSuspects.f (k + 1) a0 a1 a2) := by
  intro a0 a1 a2 k
  obtain ⟨ih0, ih1, ih2, ih3, ih4⟩ := laws_FnSuspects.mono_l k
  unfold laws_FnSuspects.f
  repeat' first
      | (with_reducible exact ih0 _ _ _ _)
      | (with_reducible exact ih1 _ _ _ _ _)
      | (with_reducible exact ih2 _ _ _ _ _ _ _ _ _ _)
      | (with_reducible exact ih3 _ _ _ _ _ _ _ _ _ _)
      | (with_reducible exact ih4 _ _ _ _ _ _ _)
      | (with_reducible exact impl_AllBut.mono _ _ _ _ _)
      | (with_reducible exact impl_Hear.mono _ _ _ _ _ _)
      | (with_reducible exact impl_NobodyBut.mono _ _ _ _ _)
      | (with_reducible exact impl_OriginsIn.mono _ _ _ _ _)
      | (with_reducible exact impl_PassOn.mono _ _ _ _)
      | (with_reducible exact impl_StaysSame.mono _ _ _ _)
      | (with_reducible exact spec_AllBut.mono _ _ _ _)
      | (with_reducible exact spec_HasNumber.mono _ _ _)
      | (with_reducible exact spec_P6Habits.mono _ _)
      | (with_reducible exact spec_P6Word.mono _ _)
      | (with_reducible exact spec_P6Words.mono _ _)
      | (with_reducible exact spec_PassOn.mono _ _ _)
      | (with_reducible exact spec_SameNumbers.mono _ _ _)
      | (with_reducible exact LeO.refl _)
      | (with_reducible exact LeO.none _)
      | (with_reducible refine LeO.ite ?_ ?_)
      | (with_reducible refine LeO.bind ?_ (fun _ => ?_))
      | exact ih0 _ _ _ _
      | exact ih1 _ _ _ _ _
      | exact ih2 _ _ _ _ _ _ _ _ _ _
      | exact ih3 _ _ _ _ _ _ _ _ _ _
      | exact ih4 _ _ _ _ _ _ _
      | exact impl_AllBut.mono _ _ _ _ _
      | exact impl_Hear.mono _ _ _ _ _ _
      | exact impl_NobodyBut.mono _ _ _ _ _
      | exact impl_OriginsIn.mono _ _ _ _ _
      | exact impl_PassOn.mono _ _ _ _
      | exact impl_StaysSame.mono _ _ _ _
      | exact spec_AllBut.mono _ _ _ _
      | exact spec_HasNumber.mono _ _ _
      | exact spec_P6Habits.mono _ _
      | exact spec_P6Word.mono _ _
      | exact spec_P6Words.mono _ _
      | exact spec_PassOn.mono _ _ _
      | exact spec_SameNumbers.mono _ _ _
      | exact LeO.none _
      | refine LeO.ite ?_ ?_
      | refine LeO.bind ?_ (fun _ => ?_)
set_option maxHeartbeats 8000000 in
set_option maxRecDepth 100000 in
theorem laws_FnSuspects.calls (k : Nat) (A0 : Option Addr) (c0 : Nat) (l0 : List Int) (A1 : Option Addr) (c1 : Nat) (l1 : List Int) (a977_0 : Int) (r : Bool) (w : World) (hr0 : Kd.C (Kd.int .u8) w A0 l0.length l0) (hc0 : l0.length ≤ c0) (hr1 : Kd.C (Kd.int .u8) w A1 l1.length l1) (hc1 : l1.length ≤ c1) (hx977 : w.heap[0]? = some (.cells #[.int .i64 a977_0] 3 (0, 0))) (hT : r = true) (h : laws_FnSuspects.f k l0 l1 a977_0 = some r) :
    Calls Tryd.prog 3 #[.slice A0 l0.length c0, .slice A1 l1.length c1] w fun e w' => e = .returned (.bool r) ∧ Below w.heap.size w w' := by
  have hu41 := Tryd.underlying41
  have HR0 := Aside0.mk hr0
  have HC0 := Aside0.mk hc0
  clear hr0 hc0
  have HR1 := Aside0.mk hr1
  have HC1 := Aside0.mk hc1
  clear hr1 hc1
  have HT := Aside0.mk hT
  clear hT
  have BK977 := Aside0.mk hx977
  clear hx977
  have HB := Aside0.mk (Below.refl w.heap.size w)
  have H : ((laws_f6big.f l0).bind fun t385 => (if t385 = true then (laws_FnSuspects.j0 k l0 l1 true a977_0) else ((laws_f6big.f l1).bind fun t386 => (laws_FnSuspects.j0 k l0 l1 t386 a977_0)))) = some r := h
  clear h
  have HC4 := Aside0.mk H
  clear H
  go_enter Tryd.func3, Tryd.ntmps3
  go_upto_region 1 with (fail)
  repeat (go_quiet (fail); go_upto_region 1 with (fail))
  go_cut [35] (fun v35 wc => ∃ (kq : Nat) (x35_3 : Bool), v35 = .bool x35_3 ∧ Aside0 (laws_FnSuspects.j0 kq l0 l1 x35_3 a977_0 = some r) ∧ Aside0 (kq ≤ k) ∧ Aside0 (wc.heap[0]? = some (.cells #[.int .i64 a977_0] 3 (0, 0))) ∧ Aside0 (Below w.heap.size w wc))
  case first =>
    as_aux_lemma =>
    have H := HC4.out
    clear HC4
    replace H := Option.bind_eq_some_iff.mp H
    obtain ⟨t385, A50, H⟩ := H
    replace H : (if t385 = true then (laws_FnSuspects.j0 k l0 l1 true a977_0) else ((laws_f6big.f l1).bind fun t386 => (laws_FnSuspects.j0 k l0 l1 t386 a977_0))) = some r := H
    have A5 := Aside0.mk A50
    clear A50
    by_cases c6 : t385 = true
    · subst c6
      have H1 : (laws_FnSuspects.j0 k l0 l1 true a977_0) = some r := by rw [if_pos rfl] at H; exact H
      clear H
      have H := H1
      clear H1
      have H' := Aside0.mk H
      clear H
      go_wp2_with (first | (go_at_call 4; (with_reducible refine (laws_f6big.calls _ _ l0 true _ ?side1 ?side2 A5.out).mono ?_); (case side1 => repeat (first | exact (Kd.C_below HR0.out HB.out) | (with_reducible refine Kd.C_alloc ?_ _) | (with_reducible refine Kd.C_drewN ?_ _) | (with_reducible refine Kd.C_drew ?_))); (case side2 => exact HC0.out); rintro e w' ⟨rfl, ⟨nd, rfl⟩⟩; (try first | exact ⟨rfl, _, World.drewN_drewN _ _ _⟩ | exact ⟨rfl, _, Eq.trans (World.drewN_drewN _ _ _) (congrArg (World.drewN _) (Nat.add_assoc _ _ _))⟩)))
      repeat (go_quiet (fail); try go_wp2)
      go_meet
      case rel => exact ⟨_, (true), (by first | rfl | (simp; done) | (simp [*]; done)), H', ⟨by first | omega | exact Nat.le_refl _⟩, ⟨by (with_reducible repeat (first | refine blk_drewN ?_ _ | refine blk_drew ?_ | refine blk_alloc ?_ _)); exact BK977.out⟩, ⟨by repeat (first | (with_reducible first | exact HB.out | apply below_alloc | apply pw_below_drewN | apply below_drew1 | refine below_set ?_ GE977.out) | exact HB.out)⟩⟩
    · replace c6 := Bool.eq_false_iff.mpr c6
      subst c6
      have H1 : ((laws_f6big.f l1).bind fun t386 => (laws_FnSuspects.j0 k l0 l1 t386 a977_0)) = some r := by rw [if_neg (show ¬ (false = true) by decide)] at H; exact H
      clear H
      have H := H1
      clear H1
      replace H := Option.bind_eq_some_iff.mp H
      obtain ⟨t386, A70, H⟩ := H
      replace H : (laws_FnSuspects.j0 k l0 l1 t386 a977_0) = some r := H
      have A7 := Aside0.mk A70
      clear A70
      have H' := Aside0.mk H
      clear H
      go_wp2_with (first | (go_at_call 4; (with_reducible refine (laws_f6big.calls _ _ l0 false _ ?side1 ?side2 A5.out).mono ?_); (case side1 => repeat (first | exact (Kd.C_below HR0.out HB.out) | (with_reducible refine Kd.C_alloc ?_ _) | (with_reducible refine Kd.C_drewN ?_ _) | (with_reducible refine Kd.C_drew ?_))); (case side2 => exact HC0.out); rintro e w' ⟨rfl, ⟨nd, rfl⟩⟩; (try first | exact ⟨rfl, _, World.drewN_drewN _ _ _⟩ | exact ⟨rfl, _, Eq.trans (World.drewN_drewN _ _ _) (congrArg (World.drewN _) (Nat.add_assoc _ _ _))⟩)) | (go_at_call 4; (with_reducible refine (laws_f6big.calls _ _ l1 t386 _ ?side1 ?side2 A7.out).mono ?_); (case side1 => repeat (first | exact (Kd.C_below HR1.out (by repeat (first | (with_reducible first | exact HB.out | apply below_alloc | apply pw_below_drewN | apply below_drew1 | refine below_set ?_ GE977.out) | exact HB.out))) | (with_reducible refine Kd.C_alloc ?_ _) | (with_reducible refine Kd.C_drewN ?_ _) | (with_reducible refine Kd.C_drew ?_))); (case side2 => exact HC1.out); rintro e w' ⟨rfl, ⟨nd, rfl⟩⟩; (try first | exact ⟨rfl, _, World.drewN_drewN _ _ _⟩ | exact ⟨rfl, _, Eq.trans (World.drewN_drewN _ _ _) (congrArg (World.drewN _) (Nat.add_assoc _ _ _))⟩)))
      repeat (go_quiet (fail); try go_wp2)
      go_meet
      case rel => exact ⟨_, (t386), (by first | rfl | (simp; done) | (simp [*]; done)), H', ⟨by first | omega | exact Nat.le_refl _⟩, ⟨by (with_reducible repeat (first | refine blk_drewN ?_ _ | refine blk_drew ?_ | refine blk_alloc ?_ _)); exact BK977.out⟩, ⟨by repeat (first | (with_reducible first | exact HB.out | apply below_alloc | apply pw_below_drewN | apply below_drew1 | refine below_set ?_ GE977.out) | exact HB.out)⟩⟩
  case rest =>
    as_aux_lemma =>
    clear HC4
    try clear c1
    try clear p2
    try clear c3
    try clear c6
    obtain ⟨kq, x35_3, rfl, HA, HJ3, BK977, HB⟩ := hcut
    cases kq with
    | zero => exact absurd HA.out (by simp [laws_FnSuspects.j0])
    | succ kj3 =>
      have H := HA.out
      clear HA
      simp only [laws_FnSuspects.j0] at H
      by_cases c8 : x35_3 = true
      · subst c8
        have H1 : (some true) = some r := by rw [if_pos rfl] at H; exact H
        clear H
        have H := H1
        clear H1
        obtain rfl := Option.some.inj H
        go_wp2
        repeat (go_quiet (fail); try go_wp2)
        go_ret
        exact ⟨by first | rfl | (simp [errW_none, errW_some] <;> rfl) | (simp [*, errW_none, errW_some] <;> rfl), by repeat (first | (with_reducible first | exact HB.out | apply below_alloc | apply pw_below_drewN | apply below_drew1 | refine below_set ?_ GE977.out) | exact HB.out)⟩
      · replace c8 := Bool.eq_false_iff.mpr c8
        subst c8
        have H1 : ((spec_P6Habits.f kj3 l0).bind fun t387 => ((spec_P6Words.f kj3 l1).bind fun t390 => ((spec_P6Word.f kj3 l0).bind fun t393 => ((spec_P6Word.f kj3 l1).bind fun t394 => (if (t390.length : Int) > 0 then (if 0 < (t390.length : Int) then ((spec_PassOn.f kj3 t387 (rdOf ByteArray.empty t390 0)).bind fun bt396 => (if bt396.2 = 0 then (laws_FnSuspects.j1 kj3 t387 t390 t393 bt396.1 a977_0) else (some false))) else (none)) else (laws_FnSuspects.j1 kj3 t387 t390 t393 t394 a977_0)))))) = some r := by rw [if_neg (show ¬ (false = true) by decide)] at H; exact H
        clear H
        have H := H1
        clear H1
        replace H := Option.bind_eq_some_iff.mp H
        obtain ⟨t387, A90, H⟩ := H
        replace H : ((spec_P6Words.f kj3 l1).bind fun t390 => ((spec_P6Word.f kj3 l0).bind fun t393 => ((spec_P6Word.f kj3 l1).bind fun t394 => (if (t390.length : Int) > 0 then (if 0 < (t390.length : Int) then ((spec_PassOn.f kj3 t387 (rdOf ByteArray.empty t390 0)).bind fun bt396 => (if bt396.2 = 0 then (laws_FnSuspects.j1 kj3 t387 t390 t393 bt396.1 a977_0) else (some false))) else (none)) else (laws_FnSuspects.j1 kj3 t387 t390 t393 t394 a977_0))))) = some r := H
        have A9 := Aside0.mk A90
        clear A90
        replace H := Option.bind_eq_some_iff.mp H
        obtain ⟨t390, A100, H⟩ := H
        replace H : ((spec_P6Word.f kj3 l0).bind fun t393 => ((spec_P6Word.f kj3 l1).bind fun t394 => (if (t390.length : Int) > 0 then (if 0 < (t390.length : Int) then ((spec_PassOn.f kj3 t387 (rdOf ByteArray.empty t390 0)).bind fun bt396 => (if bt396.2 = 0 then (laws_FnSuspects.j1 kj3 t387 t390 t393 bt396.1 a977_0) else (some false))) else (none)) else (laws_FnSuspects.j1 kj3 t387 t390 t393 t394 a977_0)))) = some r := H
        have A10 := Aside0.mk A100
        clear A100
        replace H := Option.bind_eq_some_iff.mp H
        obtain ⟨t393, A110, H⟩ := H
        replace H : ((spec_P6Word.f kj3 l1).bind fun t394 => (if (t390.length : Int) > 0 then (if 0 < (t390.length : Int) then ((spec_PassOn.f kj3 t387 (rdOf ByteArray.empty t390 0)).bind fun bt396 => (if bt396.2 = 0 then (laws_FnSuspects.j1 kj3 t387 t390 t393 bt396.1 a977_0) else (some false))) else (none)) else (laws_FnSuspects.j1 kj3 t387 t390 t393 t394 a977_0))) = some r := H
        have A11 := Aside0.mk A110
        clear A110
        replace H := Option.bind_eq_some_iff.mp H
        obtain ⟨t394, A120, H⟩ := H
        replace H : (if (t390.length : Int) > 0 then (if 0 < (t390.length : Int) then ((spec_PassOn.f kj3 t387 (rdOf ByteArray.empty t390 0)).bind fun bt396 => (if bt396.2 = 0 then (laws_FnSuspects.j1 kj3 t387 t390 t393 bt396.1 a977_0) else (some false))) else (none)) else (laws_FnSuspects.j1 kj3 t387 t390 t393 t394 a977_0)) = some r := H
        have A12 := Aside0.mk A120
        clear A120
        have HC13 := Aside0.mk H
        clear H
        go_upto_if 46 with (first | (go_at_call 5; (with_reducible refine (spec_P6Habits.calls kj3 _ _ l0 t387 _ ?side1 ?side2 A9.out).mono ?_); (case side1 => repeat (first | exact (Kd.C_below HR0.out HB.out) | (with_reducible refine Kd.C_alloc ?_ _) | (with_reducible refine Kd.C_drewN ?_ _) | (with_reducible refine Kd.C_drew ?_))); (case side2 => exact HC0.out); rintro e w14 ⟨v388, rfl, ho0, hb⟩; have n0_ := Aside0.mk (Kd.R_lower ho0 (below_size (by repeat (first | (with_reducible first | exact HB.out | apply below_alloc | apply pw_below_drewN | apply below_drew1 | refine below_set ?_ GE977.out) | exact HB.out)))); have n1_ := Aside0.mk (blk_below (g := 0) (o := .cells #[.int .i64 a977_0] 3 (0, 0)) (by (with_reducible repeat (first | refine blk_drewN ?_ _ | refine blk_drew ?_ | refine blk_alloc ?_ _)); exact BK977.out) hb); have n2_ := Aside0.mk (below_step (by repeat (first | (with_reducible first | exact HB.out | apply below_alloc | apply pw_below_drewN | apply below_drew1 | refine below_set ?_ GE977.out) | exact HB.out)) hb); clear BK977; clear HB; have HO389 := n0_; have BK977 := n1_; have HB := n2_; clear n0_ n1_ n2_; (try clear hb); (try clear hb2); (try clear hk); (try clear hi); (try clear ho0)) | (go_at_call 6; (with_reducible refine (spec_P6Words.calls kj3 _ _ l1 t390 _ ?side1 ?side2 A10.out).mono ?_); (case side1 => repeat (first | exact (Kd.C_below HR1.out HB.out) | (with_reducible refine Kd.C_alloc ?_ _) | (with_reducible refine Kd.C_drewN ?_ _) | (with_reducible refine Kd.C_drew ?_))); (case side2 => exact HC1.out); rintro e w15 ⟨v391, rfl, ho0, hb⟩; have n0_ := Aside0.mk (Kd.R_below (by (with_reducible repeat (first | apply Kd.R_alloc | apply Kd.R_drewN | apply Kd.R_drew)); exact HO389.out) hb); have n1_ := Aside0.mk (Kd.R_lower ho0 (below_size (by repeat (first | (with_reducible first | exact HB.out | apply below_alloc | apply pw_below_drewN | apply below_drew1 | refine below_set ?_ GE977.out) | exact HB.out)))); have n2_ := Aside0.mk (blk_below (g := 0) (o := .cells #[.int .i64 a977_0] 3 (0, 0)) (by (with_reducible repeat (first | refine blk_drewN ?_ _ | refine blk_drew ?_ | refine blk_alloc ?_ _)); exact BK977.out) hb); have n3_ := Aside0.mk (below_step (by repeat (first | (with_reducible first | exact HB.out | apply below_alloc | apply pw_below_drewN | apply below_drew1 | refine below_set ?_ GE977.out) | exact HB.out)) hb); clear HO389; clear BK977; clear HB; have HO389 := n0_; have HO392 := n1_; have BK977 := n2_; have HB := n3_; clear n0_ n1_ n2_ n3_; (try clear hb); (try clear hb2); (try clear hk); (try clear hi); (try clear ho0)) | (go_at_call 7; (with_reducible refine (spec_P6Word.calls kj3 _ _ l0 t393 _ ?side1 ?side2 A11.out).mono ?_); (case side1 => repeat (first | exact (Kd.C_below HR0.out HB.out) | (with_reducible refine Kd.C_alloc ?_ _) | (with_reducible refine Kd.C_drewN ?_ _) | (with_reducible refine Kd.C_drew ?_))); (case side2 => exact HC0.out); rintro e w16 ⟨rfl, hb⟩; have n0_ := Aside0.mk (Kd.R_below (by (with_reducible repeat (first | apply Kd.R_alloc | apply Kd.R_drewN | apply Kd.R_drew)); exact HO389.out) hb); have n1_ := Aside0.mk (Kd.R_below (by (with_reducible repeat (first | apply Kd.R_alloc | apply Kd.R_drewN | apply Kd.R_drew)); exact HO392.out) hb); have n2_ := Aside0.mk (blk_below (g := 0) (o := .cells #[.int .i64 a977_0] 3 (0, 0)) (by (with_reducible repeat (first | refine blk_drewN ?_ _ | refine blk_drew ?_ | refine blk_alloc ?_ _)); exact BK977.out) hb); have n3_ := Aside0.mk (below_step (by repeat (first | (with_reducible first | exact HB.out | apply below_alloc | apply pw_below_drewN | apply below_drew1 | refine below_set ?_ GE977.out) | exact HB.out)) hb); clear HO389; clear HO392; clear BK977; clear HB; have HO389 := n0_; have HO392 := n1_; have BK977 := n2_; have HB := n3_; clear n0_ n1_ n2_ n3_; (try clear hb); (try clear hb2); (try clear hk); (try clear hi)) | (go_at_call 7; (with_reducible refine (spec_P6Word.calls kj3 _ _ l1 t394 _ ?side1 ?side2 A12.out).mono ?_); (case side1 => repeat (first | exact (Kd.C_below HR1.out HB.out) | (with_reducible refine Kd.C_alloc ?_ _) | (with_reducible refine Kd.C_drewN ?_ _) | (with_reducible refine Kd.C_drew ?_))); (case side2 => exact HC1.out); rintro e w17 ⟨rfl, hb⟩; have n0_ := Aside0.mk (Kd.R_below (by (with_reducible repeat (first | apply Kd.R_alloc | apply Kd.R_drewN | apply Kd.R_drew)); exact HO389.out) hb); have n1_ := Aside0.mk (Kd.R_below (by (with_reducible repeat (first | apply Kd.R_alloc | apply Kd.R_drewN | apply Kd.R_drew)); exact HO392.out) hb); have n2_ := Aside0.mk (blk_below (g := 0) (o := .cells #[.int .i64 a977_0] 3 (0, 0)) (by (with_reducible repeat (first | refine blk_drewN ?_ _ | refine blk_drew ?_ | refine blk_alloc ?_ _)); exact BK977.out) hb); have n3_ := Aside0.mk (below_step (by repeat (first | (with_reducible first | exact HB.out | apply below_alloc | apply pw_below_drewN | apply below_drew1 | refine below_set ?_ GE977.out) | exact HB.out)) hb); clear HO389; clear HO392; clear BK977; clear HB; have HO389 := n0_; have HO392 := n1_; have BK977 := n2_; have HB := n3_; clear n0_ n1_ n2_ n3_; (try clear hb); (try clear hb2); (try clear hk); (try clear hi); obtain ⟨Ao18, co18, eo18⟩ := Kd.R_slice HO392.out; subst eo18))
        repeat (go_quiet (fail); try go_wp2)
        (try simp only [Act.put, List.setIfInBounds_toArray, List.set_cons_zero, List.set_cons_succ])
        go_cut [8] (fun v8 wc => ∃ (kq : Nat) (x8_12 : ByteArray), v8 = .string x8_12 ∧ Aside0 (laws_FnSuspects.j1 kq t387 t390 t393 x8_12 a977_0 = some r) ∧ Aside0 (kq ≤ kj3) ∧ Aside0 (Kd.R k41 41 wc w.heap.size (fun _ => True) v388 t387) ∧ Aside0 (Kd.R Kd.string 9 wc w.heap.size (fun _ => True) (.slice Ao18 t390.length co18) t390) ∧ Aside0 (wc.heap[0]? = some (.cells #[.int .i64 a977_0] 3 (0, 0))) ∧ Aside0 (Below w.heap.size w wc))
        case first =>
          as_aux_lemma =>
          have H := HC13.out
          clear HC13
          by_cases c19 : (t390.length : Int) > 0
          · rw [if_pos c19] at H
            have c19b0 : decide (0 < (t390.length : Int)) = true := decide_eq_true c19
            have c19b1 : decide (0 < t390.length) = true := decide_eq_true (by omega)
            clear c19
            (first | rw [c19b0] | (simp only [i64_w, i32_w]; rw [c19b0]) | skip)
            by_cases c20 : 0 < (t390.length : Int)
            · rw [if_pos c20] at H
              have c20b0 : decide (0 < (t390.length : Int)) = true := decide_eq_true c20
              have c20b1 : decide (0 < t390.length) = true := decide_eq_true (by omega)
              clear c20
              replace H := Option.bind_eq_some_iff.mp H
              obtain ⟨⟨t396, t397⟩, A210, H⟩ := H
              replace H : (if t397 = 0 then (laws_FnSuspects.j1 kj3 t387 t390 t393 t396 a977_0) else (some false)) = some r := H
              have A21 := Aside0.mk A210
              clear A210
              by_cases c22 : t397 = 0
              · rw [if_pos c22] at H
                have c22b0 : (t397 == 0) = true := beq_iff_eq.mpr c22
                have c22b1 : (t397 != 0) = false := bne_eq_false_iff_eq.mpr c22
                clear c22
                have H' := Aside0.mk H
                clear H
                have p395 : 0 ≤ (0 : Int) := (by omega)
                have q395 : 0 < (t390.length : Int) := of_decide_eq_true (by first | (with_reducible assumption) | assumption)
                obtain ⟨ad395, e395, hx395_0⟩ := Kd.at_string (Kd.R_reads' HO392.out).2.2 0 p395 q395
                cases e395
                have qi395 : (0 < t390.length) = True := eq_true (by omega)
                (try rw [show ((0 : Int)).toNat = 0 from rfl] at hx395_0)
                (try rw [Addr.add_zero'] at hx395_0)
                replace p395 := eq_true p395
                replace q395 := eq_true q395
                obtain ⟨Ao23, co23, eo23⟩ := Kd.R_slice HO389.out
                subst eo23
                go_wp2_with (first | (go_at_call 8; (with_reducible refine (spec_PassOn.calls kj3 _ _ t387 (rdOf ByteArray.empty t390 0) t396 t397 _ ?side1 ?side2 A21.out).mono ?_); (case side1 => repeat (first | exact (Kd.R_reads' HO389.out).2.2 | (with_reducible refine Kd.C_alloc ?_ _) | (with_reducible refine Kd.C_drewN ?_ _) | (with_reducible refine Kd.C_drew ?_))); (case side2 => exact (Kd.R_reads' HO389.out).2.1); rintro e w24 ⟨rfl, hb⟩; have n0_ := Aside0.mk (Kd.R_below (by (with_reducible repeat (first | apply Kd.R_alloc | apply Kd.R_drewN | apply Kd.R_drew)); exact HO389.out) hb); have n1_ := Aside0.mk (Kd.R_below (by (with_reducible repeat (first | apply Kd.R_alloc | apply Kd.R_drewN | apply Kd.R_drew)); exact HO392.out) hb); have n2_ := Aside0.mk (blk_below (g := 0) (o := .cells #[.int .i64 a977_0] 3 (0, 0)) (by (with_reducible repeat (first | refine blk_drewN ?_ _ | refine blk_drew ?_ | refine blk_alloc ?_ _)); exact BK977.out) hb); have n3_ := Aside0.mk (below_step (by repeat (first | (with_reducible first | exact HB.out | apply below_alloc | apply pw_below_drewN | apply below_drew1 | refine below_set ?_ GE977.out) | exact HB.out)) hb); clear HO389; clear HO392; clear BK977; clear HB; have HO389 := n0_; have HO392 := n1_; have BK977 := n2_; have HB := n3_; clear n0_ n1_ n2_ n3_; (try clear hb); (try clear hb2); (try clear hk); (try clear hi)))
                repeat (go_quiet (fail); try go_wp2)
                go_meet
                case rel => exact ⟨_, (t396), (by first | rfl | (simp; done) | (simp [*]; done)), H', ⟨by have := HJ3.out; first | omega | exact Nat.le_refl _⟩, ⟨by (with_reducible repeat (first | apply Kd.R_alloc | apply Kd.R_drewN | apply Kd.R_drew)); exact HO389.out⟩, ⟨by (with_reducible repeat (first | apply Kd.R_alloc | apply Kd.R_drewN | apply Kd.R_drew)); exact HO392.out⟩, ⟨by (with_reducible repeat (first | refine blk_drewN ?_ _ | refine blk_drew ?_ | refine blk_alloc ?_ _)); exact BK977.out⟩, ⟨by repeat (first | (with_reducible first | exact HB.out | apply below_alloc | apply pw_below_drewN | apply below_drew1 | refine below_set ?_ GE977.out) | exact HB.out)⟩⟩
                all_goals (exfalso; have z9 := of_decide_eq_true c19b1; omega)
              · rw [if_neg c22] at H
                have c22b0 : (t397 == 0) = false := beq_eq_false_iff_ne.mpr c22
                have c22b1 : (t397 != 0) = true := bne_iff_ne.mpr c22
                exact absurd ((Option.some.inj H).trans HT.out) (by decide)
            · rw [if_neg c20] at H
              exact absurd H (by simp)
          · rw [if_neg c19] at H
            have c19b0 : decide (0 < (t390.length : Int)) = false := decide_eq_false c19
            have c19b1 : decide (0 < t390.length) = false := decide_eq_false (by omega)
            clear c19
            (first | rw [c19b0] | (simp only [i64_w, i32_w]; rw [c19b0]) | skip)
            have H' := Aside0.mk H
            clear H
            go_wp2
            all_goals (try (exfalso; have z9 := of_decide_eq_false c19b1; omega))
            repeat (go_quiet (fail); try go_wp2)
            go_meet
            case rel => exact ⟨_, (t394), (by first | rfl | (simp; done) | (simp [*]; done)), H', ⟨by have := HJ3.out; first | omega | exact Nat.le_refl _⟩, ⟨by (with_reducible repeat (first | apply Kd.R_alloc | apply Kd.R_drewN | apply Kd.R_drew)); exact HO389.out⟩, ⟨by (with_reducible repeat (first | apply Kd.R_alloc | apply Kd.R_drewN | apply Kd.R_drew)); exact HO392.out⟩, ⟨by (with_reducible repeat (first | refine blk_drewN ?_ _ | refine blk_drew ?_ | refine blk_alloc ?_ _)); exact BK977.out⟩, ⟨by repeat (first | (with_reducible first | exact HB.out | apply below_alloc | apply pw_below_drewN | apply below_drew1 | refine below_set ?_ GE977.out) | exact HB.out)⟩⟩
        case rest =>
          as_aux_lemma =>
          clear HC13
          try clear c1
          try clear c2
          try clear p2
          try clear c3
          try clear p3
          try clear q3
          try clear hx3
          try clear qi3
          try clear c6
          try clear c8
          try clear hx9
          try clear c19
          try clear c19b0
          try clear c19b1
          try clear c20
          try clear c20b0
          try clear c20b1
          try clear c22
          try clear c22b0
          try clear c22b1
          try clear hx395_0
          try clear p2
          try clear p395
          try clear q395
          obtain ⟨kq, x8_12, rfl, HA, HJ12, HO_5, HO_6, BK977, HB⟩ := hcut
          cases kq with
          | zero => exact absurd HA.out (by simp [laws_FnSuspects.j1])
          | succ kj12 =>
            have H := HA.out
            clear HA
            simp only [laws_FnSuspects.j1] at H
            replace H := Option.bind_eq_some_iff.mp H
            obtain ⟨⟨t398, t401⟩, A250, H⟩ := H
            replace H : ((impl_StaysSame.f kj12 t390 t387 a977_0).bind fun bt402 => ((impl_NobodyBut.f kj12 t387 t393 x8_12 a977_0).bind fun bt406 => ((impl_AllBut.f kj12 t387 t393 x8_12 a977_0).bind fun bt410 => ((spec_AllBut.f kj12 t387 t393 x8_12).bind fun bt414 => (if t401 = 0 then (if bt402.2 = 0 then (if bt406.2 = 0 then (if bt410.2 = bt414.2 then (if bt410.2 = 0 then ((spec_SameNumbers.f kj12 bt410.1 bt414.1).bind fun t418 => (if t418 = true then (if (t390.length : Int) > 0 then ((spec_HasNumber.f kj12 t398 0).bind fun t419 => (laws_FnSuspects.j2 kj12 t387 t390 t393 x8_12 t398 bt402.1 bt406.1 bt414.1 (!t419) a977_0)) else (laws_FnSuspects.j2 kj12 t387 t390 t393 x8_12 t398 bt402.1 bt406.1 bt414.1 false a977_0)) else (laws_FnSuspects.j2 kj12 t387 t390 t393 x8_12 t398 bt402.1 bt406.1 bt414.1 true a977_0))) else (laws_FnSuspects.j2 kj12 t387 t390 t393 x8_12 t398 bt402.1 bt406.1 bt414.1 true a977_0)) else (laws_FnSuspects.j2 kj12 t387 t390 t393 x8_12 t398 bt402.1 bt406.1 bt414.1 true a977_0)) else (laws_FnSuspects.j2 kj12 t387 t390 t393 x8_12 t398 bt402.1 bt406.1 bt414.1 true a977_0)) else (laws_FnSuspects.j2 kj12 t387 t390 t393 x8_12 t398 bt402.1 bt406.1 bt414.1 true a977_0)) else (laws_FnSuspects.j2 kj12 t387 t390 t393 x8_12 t398 bt402.1 bt406.1 bt414.1 true a977_0)))))) = some r := H
            have A25 := Aside0.mk A250
            clear A250
            replace H := Option.bind_eq_some_iff.mp H
            obtain ⟨⟨t402, t405⟩, A260, H⟩ := H
            replace H : ((impl_NobodyBut.f kj12 t387 t393 x8_12 a977_0).bind fun bt406 => ((impl_AllBut.f kj12 t387 t393 x8_12 a977_0).bind fun bt410 => ((spec_AllBut.f kj12 t387 t393 x8_12).bind fun bt414 => (if t401 = 0 then (if t405 = 0 then (if bt406.2 = 0 then (if bt410.2 = bt414.2 then (if bt410.2 = 0 then ((spec_SameNumbers.f kj12 bt410.1 bt414.1).bind fun t418 => (if t418 = true then (if (t390.length : Int) > 0 then ((spec_HasNumber.f kj12 t398 0).bind fun t419 => (laws_FnSuspects.j2 kj12 t387 t390 t393 x8_12 t398 t402 bt406.1 bt414.1 (!t419) a977_0)) else (laws_FnSuspects.j2 kj12 t387 t390 t393 x8_12 t398 t402 bt406.1 bt414.1 false a977_0)) else (laws_FnSuspects.j2 kj12 t387 t390 t393 x8_12 t398 t402 bt406.1 bt414.1 true a977_0))) else (laws_FnSuspects.j2 kj12 t387 t390 t393 x8_12 t398 t402 bt406.1 bt414.1 true a977_0)) else (laws_FnSuspects.j2 kj12 t387 t390 t393 x8_12 t398 t402 bt406.1 bt414.1 true a977_0)) else (laws_FnSuspects.j2 kj12 t387 t390 t393 x8_12 t398 t402 bt406.1 bt414.1 true a977_0)) else (laws_FnSuspects.j2 kj12 t387 t390 t393 x8_12 t398 t402 bt406.1 bt414.1 true a977_0)) else (laws_FnSuspects.j2 kj12 t387 t390 t393 x8_12 t398 t402 bt406.1 bt414.1 true a977_0))))) = some r := H
            have A26 := Aside0.mk A260
            clear A260
            replace H := Option.bind_eq_some_iff.mp H
            obtain ⟨⟨t406, t409⟩, A270, H⟩ := H
            replace H : ((impl_AllBut.f kj12 t387 t393 x8_12 a977_0).bind fun bt410 => ((spec_AllBut.f kj12 t387 t393 x8_12).bind fun bt414 => (if t401 = 0 then (if t405 = 0 then (if t409 = 0 then (if bt410.2 = bt414.2 then (if bt410.2 = 0 then ((spec_SameNumbers.f kj12 bt410.1 bt414.1).bind fun t418 => (if t418 = true then (if (t390.length : Int) > 0 then ((spec_HasNumber.f kj12 t398 0).bind fun t419 => (laws_FnSuspects.j2 kj12 t387 t390 t393 x8_12 t398 t402 t406 bt414.1 (!t419) a977_0)) else (laws_FnSuspects.j2 kj12 t387 t390 t393 x8_12 t398 t402 t406 bt414.1 false a977_0)) else (laws_FnSuspects.j2 kj12 t387 t390 t393 x8_12 t398 t402 t406 bt414.1 true a977_0))) else (laws_FnSuspects.j2 kj12 t387 t390 t393 x8_12 t398 t402 t406 bt414.1 true a977_0)) else (laws_FnSuspects.j2 kj12 t387 t390 t393 x8_12 t398 t402 t406 bt414.1 true a977_0)) else (laws_FnSuspects.j2 kj12 t387 t390 t393 x8_12 t398 t402 t406 bt414.1 true a977_0)) else (laws_FnSuspects.j2 kj12 t387 t390 t393 x8_12 t398 t402 t406 bt414.1 true a977_0)) else (laws_FnSuspects.j2 kj12 t387 t390 t393 x8_12 t398 t402 t406 bt414.1 true a977_0)))) = some r := H
            have A27 := Aside0.mk A270
            clear A270
            replace H := Option.bind_eq_some_iff.mp H
            obtain ⟨⟨t410, t413⟩, A280, H⟩ := H
            replace H : ((spec_AllBut.f kj12 t387 t393 x8_12).bind fun bt414 => (if t401 = 0 then (if t405 = 0 then (if t409 = 0 then (if t413 = bt414.2 then (if t413 = 0 then ((spec_SameNumbers.f kj12 t410 bt414.1).bind fun t418 => (if t418 = true then (if (t390.length : Int) > 0 then ((spec_HasNumber.f kj12 t398 0).bind fun t419 => (laws_FnSuspects.j2 kj12 t387 t390 t393 x8_12 t398 t402 t406 bt414.1 (!t419) a977_0)) else (laws_FnSuspects.j2 kj12 t387 t390 t393 x8_12 t398 t402 t406 bt414.1 false a977_0)) else (laws_FnSuspects.j2 kj12 t387 t390 t393 x8_12 t398 t402 t406 bt414.1 true a977_0))) else (laws_FnSuspects.j2 kj12 t387 t390 t393 x8_12 t398 t402 t406 bt414.1 true a977_0)) else (laws_FnSuspects.j2 kj12 t387 t390 t393 x8_12 t398 t402 t406 bt414.1 true a977_0)) else (laws_FnSuspects.j2 kj12 t387 t390 t393 x8_12 t398 t402 t406 bt414.1 true a977_0)) else (laws_FnSuspects.j2 kj12 t387 t390 t393 x8_12 t398 t402 t406 bt414.1 true a977_0)) else (laws_FnSuspects.j2 kj12 t387 t390 t393 x8_12 t398 t402 t406 bt414.1 true a977_0))) = some r := H
            have A28 := Aside0.mk A280
            clear A280
            replace H := Option.bind_eq_some_iff.mp H
            obtain ⟨⟨t414, t415⟩, A290, H⟩ := H
            replace H : (if t401 = 0 then (if t405 = 0 then (if t409 = 0 then (if t413 = t415 then (if t413 = 0 then ((spec_SameNumbers.f kj12 t410 t414).bind fun t418 => (if t418 = true then (if (t390.length : Int) > 0 then ((spec_HasNumber.f kj12 t398 0).bind fun t419 => (laws_FnSuspects.j2 kj12 t387 t390 t393 x8_12 t398 t402 t406 t414 (!t419) a977_0)) else (laws_FnSuspects.j2 kj12 t387 t390 t393 x8_12 t398 t402 t406 t414 false a977_0)) else (laws_FnSuspects.j2 kj12 t387 t390 t393 x8_12 t398 t402 t406 t414 true a977_0))) else (laws_FnSuspects.j2 kj12 t387 t390 t393 x8_12 t398 t402 t406 t414 true a977_0)) else (laws_FnSuspects.j2 kj12 t387 t390 t393 x8_12 t398 t402 t406 t414 true a977_0)) else (laws_FnSuspects.j2 kj12 t387 t390 t393 x8_12 t398 t402 t406 t414 true a977_0)) else (laws_FnSuspects.j2 kj12 t387 t390 t393 x8_12 t398 t402 t406 t414 true a977_0)) else (laws_FnSuspects.j2 kj12 t387 t390 t393 x8_12 t398 t402 t406 t414 true a977_0)) = some r := H
            have A29 := Aside0.mk A290
            clear A290
            have HC30 := Aside0.mk H
            clear H
            obtain ⟨Ao31, co31, eo31⟩ := Kd.R_slice HO_5.out
            subst eo31
            go_upto_region 17 with (first | (go_at_call 9; (with_reducible refine (impl_OriginsIn.calls kj12 _ _ t390 _ _ t387 x8_12 a977_0 t398 t401 _ ?side1 ?side2 ?side3 ?side4 ?side5 A25.out).mono ?_); (case side1 => repeat (first | exact (Kd.R_reads' HO_6.out).2.2 | (with_reducible refine Kd.C_alloc ?_ _) | (with_reducible refine Kd.C_drewN ?_ _) | (with_reducible refine Kd.C_drew ?_))); (case side2 => exact (Kd.R_reads' HO_6.out).2.1); (case side3 => repeat (first | exact (Kd.R_reads' HO_5.out).2.2 | (with_reducible refine Kd.C_alloc ?_ _) | (with_reducible refine Kd.C_drewN ?_ _) | (with_reducible refine Kd.C_drew ?_))); (case side4 => exact (Kd.R_reads' HO_5.out).2.1); (case side5 => exact (by first | exact BK977.out | ((with_reducible repeat (first | refine blk_drewN ?_ _ | refine blk_drew ?_ | refine blk_alloc ?_ _)); exact BK977.out))); rintro e w32 ⟨v399, rfl, ho0, hb⟩; have n0_ := Aside0.mk (Kd.R_below (by (with_reducible repeat (first | apply Kd.R_alloc | apply Kd.R_drewN | apply Kd.R_drew)); exact HO_5.out) hb); have n1_ := Aside0.mk (Kd.R_below (by (with_reducible repeat (first | apply Kd.R_alloc | apply Kd.R_drewN | apply Kd.R_drew)); exact HO_6.out) hb); have n2_ := Aside0.mk (Kd.R_lower ho0 (below_size (by repeat (first | (with_reducible first | exact HB.out | apply below_alloc | apply pw_below_drewN | apply below_drew1 | refine below_set ?_ GE977.out) | exact HB.out)))); have n3_ := Aside0.mk (blk_below (g := 0) (o := .cells #[.int .i64 a977_0] 3 (0, 0)) (by (with_reducible repeat (first | refine blk_drewN ?_ _ | refine blk_drew ?_ | refine blk_alloc ?_ _)); exact BK977.out) hb); have n4_ := Aside0.mk (below_step (by repeat (first | (with_reducible first | exact HB.out | apply below_alloc | apply pw_below_drewN | apply below_drew1 | refine below_set ?_ GE977.out) | exact HB.out)) hb); clear HO_5; clear HO_6; clear BK977; clear HB; have HO_5 := n0_; have HO_6 := n1_; have HO400 := n2_; have BK977 := n3_; have HB := n4_; clear n0_ n1_ n2_ n3_ n4_; (try clear hb); (try clear hb2); (try clear hk); (try clear hi); (try clear ho0)) | (go_at_call 10; (with_reducible refine (impl_StaysSame.calls kj12 _ _ t390 _ _ t387 a977_0 t402 t405 _ ?side1 ?side2 ?side3 ?side4 ?side5 A26.out).mono ?_); (case side1 => repeat (first | exact (Kd.R_reads' HO_6.out).2.2 | (with_reducible refine Kd.C_alloc ?_ _) | (with_reducible refine Kd.C_drewN ?_ _) | (with_reducible refine Kd.C_drew ?_))); (case side2 => exact (Kd.R_reads' HO_6.out).2.1); (case side3 => repeat (first | exact (Kd.R_reads' HO_5.out).2.2 | (with_reducible refine Kd.C_alloc ?_ _) | (with_reducible refine Kd.C_drewN ?_ _) | (with_reducible refine Kd.C_drew ?_))); (case side4 => exact (Kd.R_reads' HO_5.out).2.1); (case side5 => exact (by first | exact BK977.out | ((with_reducible repeat (first | refine blk_drewN ?_ _ | refine blk_drew ?_ | refine blk_alloc ?_ _)); exact BK977.out))); rintro e w33 ⟨v403, rfl, ho0, hb⟩; have n0_ := Aside0.mk (Kd.R_below (by (with_reducible repeat (first | apply Kd.R_alloc | apply Kd.R_drewN | apply Kd.R_drew)); exact HO_5.out) hb); have n1_ := Aside0.mk (Kd.R_below (by (with_reducible repeat (first | apply Kd.R_alloc | apply Kd.R_drewN | apply Kd.R_drew)); exact HO_6.out) hb); have n2_ := Aside0.mk (Kd.R_elder' (by (with_reducible repeat (first | apply Kd.R_alloc | apply Kd.R_drewN | apply Kd.R_drew)); exact HO400.out) (Kd.R_base ho0) hb); have n3_ := Aside0.mk (Kd.R_lower (Kd.R_new' ho0 (Kd.R_lt (by (with_reducible repeat (first | apply Kd.R_alloc | apply Kd.R_drewN | apply Kd.R_drew)); exact HO400.out))) (below_size (by repeat (first | (with_reducible first | exact HB.out | apply below_alloc | apply pw_below_drewN | apply below_drew1 | refine below_set ?_ GE977.out) | exact HB.out)))); have n4_ := Aside0.mk (blk_below (g := 0) (o := .cells #[.int .i64 a977_0] 3 (0, 0)) (by (with_reducible repeat (first | refine blk_drewN ?_ _ | refine blk_drew ?_ | refine blk_alloc ?_ _)); exact BK977.out) hb); have n5_ := Aside0.mk (below_step (by repeat (first | (with_reducible first | exact HB.out | apply below_alloc | apply pw_below_drewN | apply below_drew1 | refine below_set ?_ GE977.out) | exact HB.out)) hb); clear HO_5; clear HO_6; clear HO400; clear BK977; clear HB; have HO_5 := n0_; have HO_6 := n1_; have HO400 := n2_; have HO404 := n3_; have BK977 := n4_; have HB := n5_; clear n0_ n1_ n2_ n3_ n4_ n5_; (try clear hb); (try clear hb2); (try clear hk); (try clear hi); (try clear ho0)) | (go_at_call 11; (with_reducible refine (impl_NobodyBut.calls kj12 _ _ t387 t393 x8_12 a977_0 t406 t409 _ ?side1 ?side2 ?side3 A27.out).mono ?_); (case side1 => repeat (first | exact (Kd.R_reads' HO_5.out).2.2 | (with_reducible refine Kd.C_alloc ?_ _) | (with_reducible refine Kd.C_drewN ?_ _) | (with_reducible refine Kd.C_drew ?_))); (case side2 => exact (Kd.R_reads' HO_5.out).2.1); (case side3 => exact (by first | exact BK977.out | ((with_reducible repeat (first | refine blk_drewN ?_ _ | refine blk_drew ?_ | refine blk_alloc ?_ _)); exact BK977.out))); rintro e w34 ⟨v407, rfl, ho0, hb⟩; have n0_ := Aside0.mk (Kd.R_below (by (with_reducible repeat (first | apply Kd.R_alloc | apply Kd.R_drewN | apply Kd.R_drew)); exact HO_5.out) hb); have n1_ := Aside0.mk (Kd.R_below (by (with_reducible repeat (first | apply Kd.R_alloc | apply Kd.R_drewN | apply Kd.R_drew)); exact HO_6.out) hb); have n2_ := Aside0.mk (Kd.R_elder' (by (with_reducible repeat (first | apply Kd.R_alloc | apply Kd.R_drewN | apply Kd.R_drew)); exact HO400.out) (Kd.R_base ho0) hb); have n3_ := Aside0.mk (Kd.R_elder' (by (with_reducible repeat (first | apply Kd.R_alloc | apply Kd.R_drewN | apply Kd.R_drew)); exact HO404.out) (Kd.R_base ho0) hb); have n4_ := Aside0.mk (Kd.R_lower (Kd.R_new' (Kd.R_new' ho0 (Kd.R_lt (by (with_reducible repeat (first | apply Kd.R_alloc | apply Kd.R_drewN | apply Kd.R_drew)); exact HO400.out))) (Kd.R_lt (by (with_reducible repeat (first | apply Kd.R_alloc | apply Kd.R_drewN | apply Kd.R_drew)); exact HO404.out))) (below_size (by repeat (first | (with_reducible first | exact HB.out | apply below_alloc | apply pw_below_drewN | apply below_drew1 | refine below_set ?_ GE977.out) | exact HB.out)))); have n5_ := Aside0.mk (blk_below (g := 0) (o := .cells #[.int .i64 a977_0] 3 (0, 0)) (by (with_reducible repeat (first | refine blk_drewN ?_ _ | refine blk_drew ?_ | refine blk_alloc ?_ _)); exact BK977.out) hb); have n6_ := Aside0.mk (below_step (by repeat (first | (with_reducible first | exact HB.out | apply below_alloc | apply pw_below_drewN | apply below_drew1 | refine below_set ?_ GE977.out) | exact HB.out)) hb); clear HO_5; clear HO_6; clear HO400; clear HO404; clear BK977; clear HB; have HO_5 := n0_; have HO_6 := n1_; have HO400 := n2_; have HO404 := n3_; have HO408 := n4_; have BK977 := n5_; have HB := n6_; clear n0_ n1_ n2_ n3_ n4_ n5_ n6_; (try clear hb); (try clear hb2); (try clear hk); (try clear hi); (try clear ho0)) | (go_at_call 12; (with_reducible refine (impl_AllBut.calls kj12 _ _ t387 t393 x8_12 a977_0 t410 t413 _ ?side1 ?side2 ?side3 A28.out).mono ?_); (case side1 => repeat (first | exact (Kd.R_reads' HO_5.out).2.2 | (with_reducible refine Kd.C_alloc ?_ _) | (with_reducible refine Kd.C_drewN ?_ _) | (with_reducible refine Kd.C_drew ?_))); (case side2 => exact (Kd.R_reads' HO_5.out).2.1); (case side3 => exact (by first | exact BK977.out | ((with_reducible repeat (first | refine blk_drewN ?_ _ | refine blk_drew ?_ | refine blk_alloc ?_ _)); exact BK977.out))); rintro e w35 ⟨v411, rfl, ho0, hb⟩; have n0_ := Aside0.mk (Kd.R_below (by (with_reducible repeat (first | apply Kd.R_alloc | apply Kd.R_drewN | apply Kd.R_drew)); exact HO_5.out) hb); have n1_ := Aside0.mk (Kd.R_below (by (with_reducible repeat (first | apply Kd.R_alloc | apply Kd.R_drewN | apply Kd.R_drew)); exact HO_6.out) hb); have n2_ := Aside0.mk (Kd.R_elder' (by (with_reducible repeat (first | apply Kd.R_alloc | apply Kd.R_drewN | apply Kd.R_drew)); exact HO400.out) (Kd.R_base ho0) hb); have n3_ := Aside0.mk (Kd.R_elder' (by (with_reducible repeat (first | apply Kd.R_alloc | apply Kd.R_drewN | apply Kd.R_drew)); exact HO404.out) (Kd.R_base ho0) hb); have n4_ := Aside0.mk (Kd.R_elder' (by (with_reducible repeat (first | apply Kd.R_alloc | apply Kd.R_drewN | apply Kd.R_drew)); exact HO408.out) (Kd.R_base ho0) hb); have n5_ := Aside0.mk (Kd.R_lower (Kd.R_new' (Kd.R_new' (Kd.R_new' ho0 (Kd.R_lt (by (with_reducible repeat (first | apply Kd.R_alloc | apply Kd.R_drewN | apply Kd.R_drew)); exact HO400.out))) (Kd.R_lt (by (with_reducible repeat (first | apply Kd.R_alloc | apply Kd.R_drewN | apply Kd.R_drew)); exact HO404.out))) (Kd.R_lt (by (with_reducible repeat (first | apply Kd.R_alloc | apply Kd.R_drewN | apply Kd.R_drew)); exact HO408.out))) (below_size (by repeat (first | (with_reducible first | exact HB.out | apply below_alloc | apply pw_below_drewN | apply below_drew1 | refine below_set ?_ GE977.out) | exact HB.out)))); have n6_ := Aside0.mk (blk_below (g := 0) (o := .cells #[.int .i64 a977_0] 3 (0, 0)) (by (with_reducible repeat (first | refine blk_drewN ?_ _ | refine blk_drew ?_ | refine blk_alloc ?_ _)); exact BK977.out) hb); have n7_ := Aside0.mk (below_step (by repeat (first | (with_reducible first | exact HB.out | apply below_alloc | apply pw_below_drewN | apply below_drew1 | refine below_set ?_ GE977.out) | exact HB.out)) hb); clear HO_5; clear HO_6; clear HO400; clear HO404; clear HO408; clear BK977; clear HB; have HO_5 := n0_; have HO_6 := n1_; have HO400 := n2_; have HO404 := n3_; have HO408 := n4_; have HO412 := n5_; have BK977 := n6_; have HB := n7_; clear n0_ n1_ n2_ n3_ n4_ n5_ n6_ n7_; (try clear hb); (try clear hb2); (try clear hk); (try clear hi); (try clear ho0)) | (go_at_call 13; (with_reducible refine (spec_AllBut.calls kj12 _ _ t387 t393 x8_12 t414 t415 _ ?side1 ?side2 A29.out).mono ?_); (case side1 => repeat (first | exact (Kd.R_reads' HO_5.out).2.2 | (with_reducible refine Kd.C_alloc ?_ _) | (with_reducible refine Kd.C_drewN ?_ _) | (with_reducible refine Kd.C_drew ?_))); (case side2 => exact (Kd.R_reads' HO_5.out).2.1); rintro e w36 ⟨v416, rfl, ho0, hb⟩; have n0_ := Aside0.mk (Kd.R_below (by (with_reducible repeat (first | apply Kd.R_alloc | apply Kd.R_drewN | apply Kd.R_drew)); exact HO_5.out) hb); have n1_ := Aside0.mk (Kd.R_below (by (with_reducible repeat (first | apply Kd.R_alloc | apply Kd.R_drewN | apply Kd.R_drew)); exact HO_6.out) hb); have n2_ := Aside0.mk (Kd.R_elder' (by (with_reducible repeat (first | apply Kd.R_alloc | apply Kd.R_drewN | apply Kd.R_drew)); exact HO400.out) (Kd.R_base ho0) hb); have n3_ := Aside0.mk (Kd.R_elder' (by (with_reducible repeat (first | apply Kd.R_alloc | apply Kd.R_drewN | apply Kd.R_drew)); exact HO404.out) (Kd.R_base ho0) hb); have n4_ := Aside0.mk (Kd.R_elder' (by (with_reducible repeat (first | apply Kd.R_alloc | apply Kd.R_drewN | apply Kd.R_drew)); exact HO408.out) (Kd.R_base ho0) hb); have n5_ := Aside0.mk (Kd.R_elder' (by (with_reducible repeat (first | apply Kd.R_alloc | apply Kd.R_drewN | apply Kd.R_drew)); exact HO412.out) (Kd.R_base ho0) hb); have n6_ := Aside0.mk (Kd.R_lower (Kd.R_new' (Kd.R_new' (Kd.R_new' (Kd.R_new' ho0 (Kd.R_lt (by (with_reducible repeat (first | apply Kd.R_alloc | apply Kd.R_drewN | apply Kd.R_drew)); exact HO400.out))) (Kd.R_lt (by (with_reducible repeat (first | apply Kd.R_alloc | apply Kd.R_drewN | apply Kd.R_drew)); exact HO404.out))) (Kd.R_lt (by (with_reducible repeat (first | apply Kd.R_alloc | apply Kd.R_drewN | apply Kd.R_drew)); exact HO408.out))) (Kd.R_lt (by (with_reducible repeat (first | apply Kd.R_alloc | apply Kd.R_drewN | apply Kd.R_drew)); exact HO412.out))) (below_size (by repeat (first | (with_reducible first | exact HB.out | apply below_alloc | apply pw_below_drewN | apply below_drew1 | refine below_set ?_ GE977.out) | exact HB.out)))); have n7_ := Aside0.mk (blk_below (g := 0) (o := .cells #[.int .i64 a977_0] 3 (0, 0)) (by (with_reducible repeat (first | refine blk_drewN ?_ _ | refine blk_drew ?_ | refine blk_alloc ?_ _)); exact BK977.out) hb); have n8_ := Aside0.mk (below_step (by repeat (first | (with_reducible first | exact HB.out | apply below_alloc | apply pw_below_drewN | apply below_drew1 | refine below_set ?_ GE977.out) | exact HB.out)) hb); clear HO_5; clear HO_6; clear HO400; clear HO404; clear HO408; clear HO412; clear BK977; clear HB; have HO_5 := n0_; have HO_6 := n1_; have HO400 := n2_; have HO404 := n3_; have HO408 := n4_; have HO412 := n5_; have HO417 := n6_; have BK977 := n7_; have HB := n8_; clear n0_ n1_ n2_ n3_ n4_ n5_ n6_ n7_ n8_; (try clear hb); (try clear hb2); (try clear hk); (try clear hi); (try clear ho0)))
            repeat (go_quiet (fail); try go_wp2)
            (try simp only [Act.put, List.setIfInBounds_toArray, List.set_cons_zero, List.set_cons_succ])
            go_cut [126] (fun v126 wc => ∃ (kq : Nat) (x126_29 : Bool), v126 = .bool x126_29 ∧ Aside0 (laws_FnSuspects.j2 kq t387 t390 t393 x8_12 t398 t402 t406 t414 x126_29 a977_0 = some r) ∧ Aside0 (kq ≤ kj12) ∧ Aside0 (Kd.R k41 41 wc w.heap.size (fun _ => True) (.slice Ao31 t387.length co31) t387) ∧ Aside0 (Kd.R Kd.string 9 wc w.heap.size (fun _ => True) (.slice Ao18 t390.length co18) t390) ∧ Aside0 (Kd.R (Kd.int .i64) 2 wc w.heap.size (fun k_ => some k_ ≠ (v403 : Value).ownBlock ∧ some k_ ≠ (v407 : Value).ownBlock ∧ some k_ ≠ (v416 : Value).ownBlock) v399 t398) ∧ Aside0 (Kd.R (Kd.int .i64) 2 wc w.heap.size (fun k_ => some k_ ≠ (v399 : Value).ownBlock ∧ some k_ ≠ (v407 : Value).ownBlock ∧ some k_ ≠ (v416 : Value).ownBlock) v403 t402) ∧ Aside0 (Kd.R (Kd.int .i64) 2 wc w.heap.size (fun k_ => some k_ ≠ (v399 : Value).ownBlock ∧ some k_ ≠ (v403 : Value).ownBlock ∧ some k_ ≠ (v416 : Value).ownBlock) v407 t406) ∧ Aside0 (Kd.R (Kd.int .i64) 2 wc w.heap.size (fun k_ => some k_ ≠ (v399 : Value).ownBlock ∧ some k_ ≠ (v403 : Value).ownBlock ∧ some k_ ≠ (v407 : Value).ownBlock) v416 t414) ∧ Aside0 (wc.heap[0]? = some (.cells #[.int .i64 a977_0] 3 (0, 0))) ∧ Aside0 (Below w.heap.size w wc))
            case first =>
              as_aux_lemma =>
              have H := HC30.out
              clear HC30
              by_cases c37 : t401 = 0
              · rw [if_pos c37] at H
                have c37b0 : (t401 == 0) = true := beq_iff_eq.mpr c37
                have c37b1 : (t401 != 0) = false := bne_eq_false_iff_eq.mpr c37
                clear c37
                (first | rw [c37b0] | (simp only [i64_w, i32_w]; rw [c37b0]) | skip)
                by_cases c38 : t405 = 0
                · rw [if_pos c38] at H
                  have c38b0 : (t405 == 0) = true := beq_iff_eq.mpr c38
                  have c38b1 : (t405 != 0) = false := bne_eq_false_iff_eq.mpr c38
                  clear c38
                  by_cases c39 : t409 = 0
                  · rw [if_pos c39] at H
                    have c39b0 : (t409 == 0) = true := beq_iff_eq.mpr c39
                    have c39b1 : (t409 != 0) = false := bne_eq_false_iff_eq.mpr c39
                    clear c39
                    by_cases c40 : t413 = t415
                    · rw [if_pos c40] at H
                      have c40b0 : (t413 == t415) = true := beq_iff_eq.mpr c40
                      have c40b1 : (t413 != t415) = false := bne_eq_false_iff_eq.mpr c40
                      clear c40
                      by_cases c41 : t413 = 0
                      · rw [if_pos c41] at H
                        have c41b0 : (t413 == 0) = true := beq_iff_eq.mpr c41
                        have c41b1 : (t413 != 0) = false := bne_eq_false_iff_eq.mpr c41
                        clear c41
                        replace H := Option.bind_eq_some_iff.mp H
                        obtain ⟨t418, A420, H⟩ := H
                        replace H : (if t418 = true then (if (t390.length : Int) > 0 then ((spec_HasNumber.f kj12 t398 0).bind fun t419 => (laws_FnSuspects.j2 kj12 t387 t390 t393 x8_12 t398 t402 t406 t414 (!t419) a977_0)) else (laws_FnSuspects.j2 kj12 t387 t390 t393 x8_12 t398 t402 t406 t414 false a977_0)) else (laws_FnSuspects.j2 kj12 t387 t390 t393 x8_12 t398 t402 t406 t414 true a977_0)) = some r := H
                        have A42 := Aside0.mk A420
                        clear A420
                        by_cases c43 : t418 = true
                        · subst c43
                          have H1 : (if (t390.length : Int) > 0 then ((spec_HasNumber.f kj12 t398 0).bind fun t419 => (laws_FnSuspects.j2 kj12 t387 t390 t393 x8_12 t398 t402 t406 t414 (!t419) a977_0)) else (laws_FnSuspects.j2 kj12 t387 t390 t393 x8_12 t398 t402 t406 t414 false a977_0)) = some r := by rw [if_pos rfl] at H; exact H
                          clear H
                          have H := H1
                          clear H1
                          by_cases c44 : (t390.length : Int) > 0
                          · rw [if_pos c44] at H
                            have c44b0 : decide (0 < (t390.length : Int)) = true := decide_eq_true c44
                            have c44b1 : decide (0 < t390.length) = true := decide_eq_true (by omega)
                            clear c44
                            replace H := Option.bind_eq_some_iff.mp H
                            obtain ⟨t419, A450, H⟩ := H
                            replace H : (laws_FnSuspects.j2 kj12 t387 t390 t393 x8_12 t398 t402 t406 t414 (!t419) a977_0) = some r := H
                            have A45 := Aside0.mk A450
                            clear A450
                            have H' := Aside0.mk H
                            clear H
                            obtain ⟨Ao46, co46, eo46⟩ := Kd.R_slice HO412.out
                            subst eo46
                            obtain ⟨Ao47, co47, eo47⟩ := Kd.R_slice HO417.out
                            subst eo47
                            go_wp2_with (first | (go_at_call 14; (with_reducible refine (spec_SameNumbers.calls kj12 _ _ t410 _ _ t414 true _ ?side1 ?side2 ?side3 ?side4 A42.out).mono ?_); (case side1 => repeat (first | exact (Kd.R_reads' HO412.out).2.2 | (with_reducible refine Kd.C_alloc ?_ _) | (with_reducible refine Kd.C_drewN ?_ _) | (with_reducible refine Kd.C_drew ?_))); (case side2 => exact (Kd.R_reads' HO412.out).2.1); (case side3 => repeat (first | exact (Kd.R_reads' HO417.out).2.2 | (with_reducible refine Kd.C_alloc ?_ _) | (with_reducible refine Kd.C_drewN ?_ _) | (with_reducible refine Kd.C_drew ?_))); (case side4 => exact (Kd.R_reads' HO417.out).2.1); rintro e w' ⟨rfl, ⟨nd, rfl⟩⟩; (try first | exact ⟨rfl, _, World.drewN_drewN _ _ _⟩ | exact ⟨rfl, _, Eq.trans (World.drewN_drewN _ _ _) (congrArg (World.drewN _) (Nat.add_assoc _ _ _))⟩); obtain ⟨Ao48, co48, eo48⟩ := Kd.R_slice HO400.out; subst eo48) | (go_at_call 15; (with_reducible refine (spec_HasNumber.calls kj12 _ _ t398 0 t419 _ ?side1 ?side2 A45.out).mono ?_); (case side1 => repeat (first | exact (Kd.R_reads' HO400.out).2.2 | (with_reducible refine Kd.C_alloc ?_ _) | (with_reducible refine Kd.C_drewN ?_ _) | (with_reducible refine Kd.C_drew ?_))); (case side2 => exact (Kd.R_reads' HO400.out).2.1); rintro e w' ⟨rfl, ⟨nd, rfl⟩⟩; (try first | exact ⟨rfl, _, World.drewN_drewN _ _ _⟩ | exact ⟨rfl, _, Eq.trans (World.drewN_drewN _ _ _) (congrArg (World.drewN _) (Nat.add_assoc _ _ _))⟩)))
                            try (obtain ⟨Ao48, co48, eo48⟩ := Kd.R_slice HO400.out; subst eo48)
                            repeat (go_quiet (fail); try go_wp2)
                            go_meet
                            case rel => exact ⟨_, (!t419), (by first | rfl | (simp; done) | (simp [*]; done)), H', ⟨by have := HJ3.out; have := HJ12.out; first | omega | exact Nat.le_refl _⟩, ⟨by (with_reducible repeat (first | apply Kd.R_alloc | apply Kd.R_drewN | apply Kd.R_drew)); exact HO_5.out⟩, ⟨by (with_reducible repeat (first | apply Kd.R_alloc | apply Kd.R_drewN | apply Kd.R_drew)); exact HO_6.out⟩, ⟨by (with_reducible repeat (first | apply Kd.R_alloc | apply Kd.R_drewN | apply Kd.R_drew)); exact Kd.R_mono HO400.out (fun _ hk => ⟨hk.1.1.1.2, ⟨hk.1.1.2, hk.2⟩⟩)⟩, ⟨by (with_reducible repeat (first | apply Kd.R_alloc | apply Kd.R_drewN | apply Kd.R_drew)); exact Kd.R_mono HO404.out (fun _ hk => ⟨hk.1.1.1.2, ⟨hk.1.1.2, hk.2⟩⟩)⟩, ⟨by (with_reducible repeat (first | apply Kd.R_alloc | apply Kd.R_drewN | apply Kd.R_drew)); exact Kd.R_mono HO408.out (fun _ hk => ⟨hk.1.1.1.2, ⟨hk.1.1.2, hk.2⟩⟩)⟩, ⟨by (with_reducible repeat (first | apply Kd.R_alloc | apply Kd.R_drewN | apply Kd.R_drew)); exact Kd.R_mono HO417.out (fun _ hk => ⟨hk.1.1.1.2, ⟨hk.1.1.2, hk.1.2⟩⟩)⟩, ⟨by (with_reducible repeat (first | refine blk_drewN ?_ _ | refine blk_drew ?_ | refine blk_alloc ?_ _)); exact BK977.out⟩, ⟨by repeat (first | (with_reducible first | exact HB.out | apply below_alloc | apply pw_below_drewN | apply below_drew1 | refine below_set ?_ GE977.out) | exact HB.out)⟩⟩
                          · rw [if_neg c44] at H
                            have c44b0 : decide (0 < (t390.length : Int)) = false := decide_eq_false c44
                            have c44b1 : decide (0 < t390.length) = false := decide_eq_false (by omega)
                            clear c44
                            have H' := Aside0.mk H
                            clear H
                            obtain ⟨Ao49, co49, eo49⟩ := Kd.R_slice HO412.out
                            subst eo49
                            obtain ⟨Ao50, co50, eo50⟩ := Kd.R_slice HO417.out
                            subst eo50
                            go_wp2_with (first | (go_at_call 14; (with_reducible refine (spec_SameNumbers.calls kj12 _ _ t410 _ _ t414 true _ ?side1 ?side2 ?side3 ?side4 A42.out).mono ?_); (case side1 => repeat (first | exact (Kd.R_reads' HO412.out).2.2 | (with_reducible refine Kd.C_alloc ?_ _) | (with_reducible refine Kd.C_drewN ?_ _) | (with_reducible refine Kd.C_drew ?_))); (case side2 => exact (Kd.R_reads' HO412.out).2.1); (case side3 => repeat (first | exact (Kd.R_reads' HO417.out).2.2 | (with_reducible refine Kd.C_alloc ?_ _) | (with_reducible refine Kd.C_drewN ?_ _) | (with_reducible refine Kd.C_drew ?_))); (case side4 => exact (Kd.R_reads' HO417.out).2.1); rintro e w' ⟨rfl, ⟨nd, rfl⟩⟩; (try first | exact ⟨rfl, _, World.drewN_drewN _ _ _⟩ | exact ⟨rfl, _, Eq.trans (World.drewN_drewN _ _ _) (congrArg (World.drewN _) (Nat.add_assoc _ _ _))⟩)))
                            repeat (go_quiet (fail); try go_wp2)
                            go_meet
                            case rel => exact ⟨_, (false), (by first | rfl | (simp; done) | (simp [*]; done)), H', ⟨by have := HJ3.out; have := HJ12.out; first | omega | exact Nat.le_refl _⟩, ⟨by (with_reducible repeat (first | apply Kd.R_alloc | apply Kd.R_drewN | apply Kd.R_drew)); exact HO_5.out⟩, ⟨by (with_reducible repeat (first | apply Kd.R_alloc | apply Kd.R_drewN | apply Kd.R_drew)); exact HO_6.out⟩, ⟨by (with_reducible repeat (first | apply Kd.R_alloc | apply Kd.R_drewN | apply Kd.R_drew)); exact Kd.R_mono HO400.out (fun _ hk => ⟨hk.1.1.1.2, ⟨hk.1.1.2, hk.2⟩⟩)⟩, ⟨by (with_reducible repeat (first | apply Kd.R_alloc | apply Kd.R_drewN | apply Kd.R_drew)); exact Kd.R_mono HO404.out (fun _ hk => ⟨hk.1.1.1.2, ⟨hk.1.1.2, hk.2⟩⟩)⟩, ⟨by (with_reducible repeat (first | apply Kd.R_alloc | apply Kd.R_drewN | apply Kd.R_drew)); exact Kd.R_mono HO408.out (fun _ hk => ⟨hk.1.1.1.2, ⟨hk.1.1.2, hk.2⟩⟩)⟩, ⟨by (with_reducible repeat (first | apply Kd.R_alloc | apply Kd.R_drewN | apply Kd.R_drew)); exact Kd.R_mono HO417.out (fun _ hk => ⟨hk.1.1.1.2, ⟨hk.1.1.2, hk.1.2⟩⟩)⟩, ⟨by (with_reducible repeat (first | refine blk_drewN ?_ _ | refine blk_drew ?_ | refine blk_alloc ?_ _)); exact BK977.out⟩, ⟨by repeat (first | (with_reducible first | exact HB.out | apply below_alloc | apply pw_below_drewN | apply below_drew1 | refine below_set ?_ GE977.out) | exact HB.out)⟩⟩
                        · replace c43 := Bool.eq_false_iff.mpr c43
                          subst c43
                          have H1 : (laws_FnSuspects.j2 kj12 t387 t390 t393 x8_12 t398 t402 t406 t414 true a977_0) = some r := by rw [if_neg (show ¬ (false = true) by decide)] at H; exact H
                          clear H
                          have H := H1
                          clear H1
                          have H' := Aside0.mk H
                          clear H
                          obtain ⟨Ao51, co51, eo51⟩ := Kd.R_slice HO412.out
                          subst eo51
                          obtain ⟨Ao52, co52, eo52⟩ := Kd.R_slice HO417.out
                          subst eo52
                          go_wp2_with (first | (go_at_call 14; (with_reducible refine (spec_SameNumbers.calls kj12 _ _ t410 _ _ t414 false _ ?side1 ?side2 ?side3 ?side4 A42.out).mono ?_); (case side1 => repeat (first | exact (Kd.R_reads' HO412.out).2.2 | (with_reducible refine Kd.C_alloc ?_ _) | (with_reducible refine Kd.C_drewN ?_ _) | (with_reducible refine Kd.C_drew ?_))); (case side2 => exact (Kd.R_reads' HO412.out).2.1); (case side3 => repeat (first | exact (Kd.R_reads' HO417.out).2.2 | (with_reducible refine Kd.C_alloc ?_ _) | (with_reducible refine Kd.C_drewN ?_ _) | (with_reducible refine Kd.C_drew ?_))); (case side4 => exact (Kd.R_reads' HO417.out).2.1); rintro e w' ⟨rfl, ⟨nd, rfl⟩⟩; (try first | exact ⟨rfl, _, World.drewN_drewN _ _ _⟩ | exact ⟨rfl, _, Eq.trans (World.drewN_drewN _ _ _) (congrArg (World.drewN _) (Nat.add_assoc _ _ _))⟩)))
                          repeat (go_quiet (fail); try go_wp2)
                          go_meet
                          case rel => exact ⟨_, (true), (by first | rfl | (simp; done) | (simp [*]; done)), H', ⟨by have := HJ3.out; have := HJ12.out; first | omega | exact Nat.le_refl _⟩, ⟨by (with_reducible repeat (first | apply Kd.R_alloc | apply Kd.R_drewN | apply Kd.R_drew)); exact HO_5.out⟩, ⟨by (with_reducible repeat (first | apply Kd.R_alloc | apply Kd.R_drewN | apply Kd.R_drew)); exact HO_6.out⟩, ⟨by (with_reducible repeat (first | apply Kd.R_alloc | apply Kd.R_drewN | apply Kd.R_drew)); exact Kd.R_mono HO400.out (fun _ hk => ⟨hk.1.1.1.2, ⟨hk.1.1.2, hk.2⟩⟩)⟩, ⟨by (with_reducible repeat (first | apply Kd.R_alloc | apply Kd.R_drewN | apply Kd.R_drew)); exact Kd.R_mono HO404.out (fun _ hk => ⟨hk.1.1.1.2, ⟨hk.1.1.2, hk.2⟩⟩)⟩, ⟨by (with_reducible repeat (first | apply Kd.R_alloc | apply Kd.R_drewN | apply Kd.R_drew)); exact Kd.R_mono HO408.out (fun _ hk => ⟨hk.1.1.1.2, ⟨hk.1.1.2, hk.2⟩⟩)⟩, ⟨by (with_reducible repeat (first | apply Kd.R_alloc | apply Kd.R_drewN | apply Kd.R_drew)); exact Kd.R_mono HO417.out (fun _ hk => ⟨hk.1.1.1.2, ⟨hk.1.1.2, hk.1.2⟩⟩)⟩, ⟨by (with_reducible repeat (first | refine blk_drewN ?_ _ | refine blk_drew ?_ | refine blk_alloc ?_ _)); exact BK977.out⟩, ⟨by repeat (first | (with_reducible first | exact HB.out | apply below_alloc | apply pw_below_drewN | apply below_drew1 | refine below_set ?_ GE977.out) | exact HB.out)⟩⟩
                      · rw [if_neg c41] at H
                        have c41b0 : (t413 == 0) = false := beq_eq_false_iff_ne.mpr c41
                        have c41b1 : (t413 != 0) = true := bne_iff_ne.mpr c41
                        have H' := Aside0.mk H
                        clear H
                        go_wp2
                        repeat (go_quiet (fail); try go_wp2)
                        go_meet
                        case rel => exact ⟨_, (true), (by first | rfl | (simp; done) | (simp [*]; done)), H', ⟨by have := HJ3.out; have := HJ12.out; first | omega | exact Nat.le_refl _⟩, ⟨by (with_reducible repeat (first | apply Kd.R_alloc | apply Kd.R_drewN | apply Kd.R_drew)); exact HO_5.out⟩, ⟨by (with_reducible repeat (first | apply Kd.R_alloc | apply Kd.R_drewN | apply Kd.R_drew)); exact HO_6.out⟩, ⟨by (with_reducible repeat (first | apply Kd.R_alloc | apply Kd.R_drewN | apply Kd.R_drew)); exact Kd.R_mono HO400.out (fun _ hk => ⟨hk.1.1.1.2, ⟨hk.1.1.2, hk.2⟩⟩)⟩, ⟨by (with_reducible repeat (first | apply Kd.R_alloc | apply Kd.R_drewN | apply Kd.R_drew)); exact Kd.R_mono HO404.out (fun _ hk => ⟨hk.1.1.1.2, ⟨hk.1.1.2, hk.2⟩⟩)⟩, ⟨by (with_reducible repeat (first | apply Kd.R_alloc | apply Kd.R_drewN | apply Kd.R_drew)); exact Kd.R_mono HO408.out (fun _ hk => ⟨hk.1.1.1.2, ⟨hk.1.1.2, hk.2⟩⟩)⟩, ⟨by (with_reducible repeat (first | apply Kd.R_alloc | apply Kd.R_drewN | apply Kd.R_drew)); exact Kd.R_mono HO417.out (fun _ hk => ⟨hk.1.1.1.2, ⟨hk.1.1.2, hk.1.2⟩⟩)⟩, ⟨by (with_reducible repeat (first | refine blk_drewN ?_ _ | refine blk_drew ?_ | refine blk_alloc ?_ _)); exact BK977.out⟩, ⟨by repeat (first | (with_reducible first | exact HB.out | apply below_alloc | apply pw_below_drewN | apply below_drew1 | refine below_set ?_ GE977.out) | exact HB.out)⟩⟩
                    · rw [if_neg c40] at H
                      have c40b0 : (t413 == t415) = false := beq_eq_false_iff_ne.mpr c40
                      have c40b1 : (t413 != t415) = true := bne_iff_ne.mpr c40
                      have H' := Aside0.mk H
                      clear H
                      go_wp2
                      repeat (go_quiet (fail); try go_wp2)
                      go_meet
                      case rel => exact ⟨_, (true), (by first | rfl | (simp; done) | (simp [*]; done)), H', ⟨by have := HJ3.out; have := HJ12.out; first | omega | exact Nat.le_refl _⟩, ⟨by (with_reducible repeat (first | apply Kd.R_alloc | apply Kd.R_drewN | apply Kd.R_drew)); exact HO_5.out⟩, ⟨by (with_reducible repeat (first | apply Kd.R_alloc | apply Kd.R_drewN | apply Kd.R_drew)); exact HO_6.out⟩, ⟨by (with_reducible repeat (first | apply Kd.R_alloc | apply Kd.R_drewN | apply Kd.R_drew)); exact Kd.R_mono HO400.out (fun _ hk => ⟨hk.1.1.1.2, ⟨hk.1.1.2, hk.2⟩⟩)⟩, ⟨by (with_reducible repeat (first | apply Kd.R_alloc | apply Kd.R_drewN | apply Kd.R_drew)); exact Kd.R_mono HO404.out (fun _ hk => ⟨hk.1.1.1.2, ⟨hk.1.1.2, hk.2⟩⟩)⟩, ⟨by (with_reducible repeat (first | apply Kd.R_alloc | apply Kd.R_drewN | apply Kd.R_drew)); exact Kd.R_mono HO408.out (fun _ hk => ⟨hk.1.1.1.2, ⟨hk.1.1.2, hk.2⟩⟩)⟩, ⟨by (with_reducible repeat (first | apply Kd.R_alloc | apply Kd.R_drewN | apply Kd.R_drew)); exact Kd.R_mono HO417.out (fun _ hk => ⟨hk.1.1.1.2, ⟨hk.1.1.2, hk.1.2⟩⟩)⟩, ⟨by (with_reducible repeat (first | refine blk_drewN ?_ _ | refine blk_drew ?_ | refine blk_alloc ?_ _)); exact BK977.out⟩, ⟨by repeat (first | (with_reducible first | exact HB.out | apply below_alloc | apply pw_below_drewN | apply below_drew1 | refine below_set ?_ GE977.out) | exact HB.out)⟩⟩
                  · rw [if_neg c39] at H
                    have c39b0 : (t409 == 0) = false := beq_eq_false_iff_ne.mpr c39
                    have c39b1 : (t409 != 0) = true := bne_iff_ne.mpr c39
                    have H' := Aside0.mk H
                    clear H
                    go_wp2
                    repeat (go_quiet (fail); try go_wp2)
                    go_meet
                    case rel => exact ⟨_, (true), (by first | rfl | (simp; done) | (simp [*]; done)), H', ⟨by have := HJ3.out; have := HJ12.out; first | omega | exact Nat.le_refl _⟩, ⟨by (with_reducible repeat (first | apply Kd.R_alloc | apply Kd.R_drewN | apply Kd.R_drew)); exact HO_5.out⟩, ⟨by (with_reducible repeat (first | apply Kd.R_alloc | apply Kd.R_drewN | apply Kd.R_drew)); exact HO_6.out⟩, ⟨by (with_reducible repeat (first | apply Kd.R_alloc | apply Kd.R_drewN | apply Kd.R_drew)); exact Kd.R_mono HO400.out (fun _ hk => ⟨hk.1.1.1.2, ⟨hk.1.1.2, hk.2⟩⟩)⟩, ⟨by (with_reducible repeat (first | apply Kd.R_alloc | apply Kd.R_drewN | apply Kd.R_drew)); exact Kd.R_mono HO404.out (fun _ hk => ⟨hk.1.1.1.2, ⟨hk.1.1.2, hk.2⟩⟩)⟩, ⟨by (with_reducible repeat (first | apply Kd.R_alloc | apply Kd.R_drewN | apply Kd.R_drew)); exact Kd.R_mono HO408.out (fun _ hk => ⟨hk.1.1.1.2, ⟨hk.1.1.2, hk.2⟩⟩)⟩, ⟨by (with_reducible repeat (first | apply Kd.R_alloc | apply Kd.R_drewN | apply Kd.R_drew)); exact Kd.R_mono HO417.out (fun _ hk => ⟨hk.1.1.1.2, ⟨hk.1.1.2, hk.1.2⟩⟩)⟩, ⟨by (with_reducible repeat (first | refine blk_drewN ?_ _ | refine blk_drew ?_ | refine blk_alloc ?_ _)); exact BK977.out⟩, ⟨by repeat (first | (with_reducible first | exact HB.out | apply below_alloc | apply pw_below_drewN | apply below_drew1 | refine below_set ?_ GE977.out) | exact HB.out)⟩⟩
                · rw [if_neg c38] at H
                  have c38b0 : (t405 == 0) = false := beq_eq_false_iff_ne.mpr c38
                  have c38b1 : (t405 != 0) = true := bne_iff_ne.mpr c38
                  have H' := Aside0.mk H
                  clear H
                  go_wp2
                  repeat (go_quiet (fail); try go_wp2)
                  go_meet
                  case rel => exact ⟨_, (true), (by first | rfl | (simp; done) | (simp [*]; done)), H', ⟨by have := HJ3.out; have := HJ12.out; first | omega | exact Nat.le_refl _⟩, ⟨by (with_reducible repeat (first | apply Kd.R_alloc | apply Kd.R_drewN | apply Kd.R_drew)); exact HO_5.out⟩, ⟨by (with_reducible repeat (first | apply Kd.R_alloc | apply Kd.R_drewN | apply Kd.R_drew)); exact HO_6.out⟩, ⟨by (with_reducible repeat (first | apply Kd.R_alloc | apply Kd.R_drewN | apply Kd.R_drew)); exact Kd.R_mono HO400.out (fun _ hk => ⟨hk.1.1.1.2, ⟨hk.1.1.2, hk.2⟩⟩)⟩, ⟨by (with_reducible repeat (first | apply Kd.R_alloc | apply Kd.R_drewN | apply Kd.R_drew)); exact Kd.R_mono HO404.out (fun _ hk => ⟨hk.1.1.1.2, ⟨hk.1.1.2, hk.2⟩⟩)⟩, ⟨by (with_reducible repeat (first | apply Kd.R_alloc | apply Kd.R_drewN | apply Kd.R_drew)); exact Kd.R_mono HO408.out (fun _ hk => ⟨hk.1.1.1.2, ⟨hk.1.1.2, hk.2⟩⟩)⟩, ⟨by (with_reducible repeat (first | apply Kd.R_alloc | apply Kd.R_drewN | apply Kd.R_drew)); exact Kd.R_mono HO417.out (fun _ hk => ⟨hk.1.1.1.2, ⟨hk.1.1.2, hk.1.2⟩⟩)⟩, ⟨by (with_reducible repeat (first | refine blk_drewN ?_ _ | refine blk_drew ?_ | refine blk_alloc ?_ _)); exact BK977.out⟩, ⟨by repeat (first | (with_reducible first | exact HB.out | apply below_alloc | apply pw_below_drewN | apply below_drew1 | refine below_set ?_ GE977.out) | exact HB.out)⟩⟩
              · rw [if_neg c37] at H
                have c37b0 : (t401 == 0) = false := beq_eq_false_iff_ne.mpr c37
                have c37b1 : (t401 != 0) = true := bne_iff_ne.mpr c37
                (first | rw [c37b0] | (simp only [i64_w, i32_w]; rw [c37b0]) | skip)
                have H' := Aside0.mk H
                clear H
                go_wp2
                repeat (go_quiet (fail); try go_wp2)
                go_meet
                case rel => exact ⟨_, (true), (by first | rfl | (simp; done) | (simp [*]; done)), H', ⟨by have := HJ3.out; have := HJ12.out; first | omega | exact Nat.le_refl _⟩, ⟨by (with_reducible repeat (first | apply Kd.R_alloc | apply Kd.R_drewN | apply Kd.R_drew)); exact HO_5.out⟩, ⟨by (with_reducible repeat (first | apply Kd.R_alloc | apply Kd.R_drewN | apply Kd.R_drew)); exact HO_6.out⟩, ⟨by (with_reducible repeat (first | apply Kd.R_alloc | apply Kd.R_drewN | apply Kd.R_drew)); exact Kd.R_mono HO400.out (fun _ hk => ⟨hk.1.1.1.2, ⟨hk.1.1.2, hk.2⟩⟩)⟩, ⟨by (with_reducible repeat (first | apply Kd.R_alloc | apply Kd.R_drewN | apply Kd.R_drew)); exact Kd.R_mono HO404.out (fun _ hk => ⟨hk.1.1.1.2, ⟨hk.1.1.2, hk.2⟩⟩)⟩, ⟨by (with_reducible repeat (first | apply Kd.R_alloc | apply Kd.R_drewN | apply Kd.R_drew)); exact Kd.R_mono HO408.out (fun _ hk => ⟨hk.1.1.1.2, ⟨hk.1.1.2, hk.2⟩⟩)⟩, ⟨by (with_reducible repeat (first | apply Kd.R_alloc | apply Kd.R_drewN | apply Kd.R_drew)); exact Kd.R_mono HO417.out (fun _ hk => ⟨hk.1.1.1.2, ⟨hk.1.1.2, hk.1.2⟩⟩)⟩, ⟨by (with_reducible repeat (first | refine blk_drewN ?_ _ | refine blk_drew ?_ | refine blk_alloc ?_ _)); exact BK977.out⟩, ⟨by repeat (first | (with_reducible first | exact HB.out | apply below_alloc | apply pw_below_drewN | apply below_drew1 | refine below_set ?_ GE977.out) | exact HB.out)⟩⟩
            case rest =>
              as_aux_lemma =>
              clear HC30
              try clear c1
              try clear c2
              try clear p2
              try clear c3
              try clear p3
              try clear q3
              try clear hx3
              try clear qi3
              try clear c4
              try clear c6
              try clear c8
              try clear hx9
              try clear c19
              try clear c19b0
              try clear c19b1
              try clear c20
              try clear c20b0
              try clear c20b1
              try clear c22
              try clear c22b0
              try clear c22b1
              try clear c37
              try clear c37b0
              try clear c37b1
              try clear c38
              try clear c38b0
              try clear c38b1
              try clear c39
              try clear c39b0
              try clear c39b1
              try clear p39
              try clear q39
              try clear hx39
              try clear qi39
              try clear c40
              try clear c40b0
              try clear c40b1
              try clear c41
              try clear c41b0
              try clear c41b1
              try clear c43
              try clear c44
              try clear c44b0
              try clear c44b1
              try clear hx395_0
              try clear p2
              try clear p3
              try clear p395
              try clear q3
              try clear q395
              obtain ⟨kq, x126_29, rfl, HA, HJ29, HO_5, HO_6, HO_11, HO_13, HO_15, HO_19, BK977, HB⟩ := hcut
              cases kq with
              | zero => exact absurd HA.out (by simp [laws_FnSuspects.j2])
              | succ kj29 =>
                have H := HA.out
                clear HA
                simp only [laws_FnSuspects.j2] at H
                by_cases c53 : x126_29 = true
                · subst c53
                  have H1 : (some false) = some r := by rw [if_pos rfl] at H; exact H
                  clear H
                  have H := H1
                  clear H1
                  exact absurd ((Option.some.inj H).trans HT.out) (by decide)
                · replace c53 := Bool.eq_false_iff.mpr c53
                  subst c53
                  have H1 : (laws_FnSuspects.l0 kj29 t387 t390 t393 x8_12 t398 t402 t406 t414 0 a977_0) = some r := by rw [if_neg (show ¬ (false = true) by decide)] at H; exact H
                  clear H
                  have H := H1
                  clear H1
                  have H' := Aside0.mk H
                  clear H
                  go_wp2
                  repeat (go_quiet (fail); try go_wp2)
                  go_loopg [21] kj29 (fun kq v21 w' => ∃ (x21_4 : Int), v21 = .int .i64 x21_4 ∧ Aside0 (laws_FnSuspects.l0 kq t387 t390 t393 x8_12 t398 t402 t406 t414 x21_4 a977_0 = some r) ∧ Aside0 (kq ≤ kj29) ∧ Aside0 (Kd.R k41 41 w' w.heap.size (fun _ => True) (.slice Ao31 t387.length co31) t387) ∧ Aside0 (Kd.R Kd.string 9 w' w.heap.size (fun _ => True) (.slice Ao18 t390.length co18) t390) ∧ Aside0 (Kd.R (Kd.int .i64) 2 w' w.heap.size (fun k_ => some k_ ≠ (v403 : Value).ownBlock ∧ some k_ ≠ (v407 : Value).ownBlock ∧ some k_ ≠ (v416 : Value).ownBlock) v399 t398) ∧ Aside0 (Kd.R (Kd.int .i64) 2 w' w.heap.size (fun k_ => some k_ ≠ (v399 : Value).ownBlock ∧ some k_ ≠ (v407 : Value).ownBlock ∧ some k_ ≠ (v416 : Value).ownBlock) v403 t402) ∧ Aside0 (Kd.R (Kd.int .i64) 2 w' w.heap.size (fun k_ => some k_ ≠ (v399 : Value).ownBlock ∧ some k_ ≠ (v403 : Value).ownBlock ∧ some k_ ≠ (v416 : Value).ownBlock) v407 t406) ∧ Aside0 (Kd.R (Kd.int .i64) 2 w' w.heap.size (fun k_ => some k_ ≠ (v399 : Value).ownBlock ∧ some k_ ≠ (v403 : Value).ownBlock ∧ some k_ ≠ (v407 : Value).ownBlock) v416 t414) ∧ Aside0 (w'.heap[0]? = some (.cells #[.int .i64 a977_0] 3 (0, 0))) ∧ Aside0 (Below w.heap.size w w'))
                  case atStart => exact ⟨(0), (by first | rfl | (simp; done) | (simp [*]; done)), H', ⟨Nat.le_refl _⟩, ⟨by (with_reducible repeat (first | apply Kd.R_alloc | apply Kd.R_drewN | apply Kd.R_drew)); exact HO_5.out⟩, ⟨by (with_reducible repeat (first | apply Kd.R_alloc | apply Kd.R_drewN | apply Kd.R_drew)); exact HO_6.out⟩, ⟨by (with_reducible repeat (first | apply Kd.R_alloc | apply Kd.R_drewN | apply Kd.R_drew)); exact HO_11.out⟩, ⟨by (with_reducible repeat (first | apply Kd.R_alloc | apply Kd.R_drewN | apply Kd.R_drew)); exact HO_13.out⟩, ⟨by (with_reducible repeat (first | apply Kd.R_alloc | apply Kd.R_drewN | apply Kd.R_drew)); exact HO_15.out⟩, ⟨by (with_reducible repeat (first | apply Kd.R_alloc | apply Kd.R_drewN | apply Kd.R_drew)); exact HO_19.out⟩, ⟨by (with_reducible repeat (first | refine blk_drewN ?_ _ | refine blk_drew ?_ | refine blk_alloc ?_ _)); exact BK977.out⟩, ⟨by repeat (first | (with_reducible first | exact HB.out | apply below_alloc | apply pw_below_drewN | apply below_drew1 | refine below_set ?_ GE977.out) | exact HB.out)⟩⟩
                  case round =>
                    as_aux_lemma =>
                    clear H'
                    try clear c1
                    try clear c2
                    try clear p2
                    try clear c3
                    try clear p3
                    try clear q3
                    try clear hx3
                    try clear qi3
                    try clear c4
                    try clear c5
                    try clear c6
                    try clear c8
                    try clear hx9
                    try clear c19
                    try clear c19b0
                    try clear c19b1
                    try clear c20
                    try clear c20b0
                    try clear c20b1
                    try clear c22
                    try clear c22b0
                    try clear c22b1
                    try clear c37
                    try clear c37b0
                    try clear c37b1
                    try clear c38
                    try clear c38b0
                    try clear c38b1
                    try clear c39
                    try clear c39b0
                    try clear c39b1
                    try clear p39
                    try clear q39
                    try clear hx39
                    try clear qi39
                    try clear c40
                    try clear c40b0
                    try clear c40b1
                    try clear c41
                    try clear c41b0
                    try clear c41b1
                    try clear c43
                    try clear c44
                    try clear c44b0
                    try clear c44b1
                    try clear c53
                    try clear hx395_0
                    try clear p2
                    try clear p3
                    try clear p39
                    try clear p395
                    try clear q3
                    try clear q39
                    try clear q395
                    obtain ⟨x21_4, rfl, HA, HK4, HO_5, HO_6, HO_11, HO_13, HO_15, HO_19, BK977, HB⟩ := hrel
                    cases gk with
                    | zero => exact absurd HA.out (by simp [laws_FnSuspects.l0])
                    | succ k4 =>
                      have H := HA.out
                      clear HA
                      simp only [laws_FnSuspects.l0] at H
                      by_cases c54 : x21_4 < (t390.length : Int)
                      · rw [if_pos c54] at H
                        have c54b0 : decide (x21_4 < (t390.length : Int)) = true := decide_eq_true c54
                        clear c54
                        by_cases c55 : 0 ≤ x21_4
                        · rw [if_pos c55] at H
                          have c55b0 : decide (0 ≤ x21_4) = true := decide_eq_true c55
                          clear c55
                          replace H := Option.bind_eq_some_iff.mp H
                          obtain ⟨⟨t421, t422⟩, A560, H⟩ := H
                          replace H : (if t422 = 0 then ((spec_HasNumber.f k4 t398 x21_4).bind fun t423 => (if (t423 != (t421.toList == x8_12.toList)) = true then (some false) else ((spec_HasNumber.f k4 t402 x21_4).bind fun t424 => (if (t424 != (t421.toList == (rdOf ByteArray.empty t390 x21_4).toList)) = true then (some false) else (laws_FnSuspects.l0 k4 t387 t390 t393 x8_12 t398 t402 t406 t414 (wrap64 (x21_4 + 1)) a977_0))))) else (some false)) = some r := H
                          have A56 := Aside0.mk A560
                          clear A560
                          by_cases c57 : t422 = 0
                          · rw [if_pos c57] at H
                            have c57b0 : (t422 == 0) = true := beq_iff_eq.mpr c57
                            have c57b1 : (t422 != 0) = false := bne_eq_false_iff_eq.mpr c57
                            clear c57
                            replace H := Option.bind_eq_some_iff.mp H
                            obtain ⟨t423, A580, H⟩ := H
                            replace H : (if (t423 != (t421.toList == x8_12.toList)) = true then (some false) else ((spec_HasNumber.f k4 t402 x21_4).bind fun t424 => (if (t424 != (t421.toList == (rdOf ByteArray.empty t390 x21_4).toList)) = true then (some false) else (laws_FnSuspects.l0 k4 t387 t390 t393 x8_12 t398 t402 t406 t414 (wrap64 (x21_4 + 1)) a977_0)))) = some r := H
                            have A58 := Aside0.mk A580
                            clear A580
                            by_cases c59 : (t423 != (t421.toList == x8_12.toList)) = true
                            · rw [if_pos c59] at H
                              have c59b0 : (t423 != (t421.toList == x8_12.toList)) = true := c59
                              (try (have c59b1 : decide (t423 = (t421.toList == x8_12.toList)) = false := by simpa using c59))
                              (try (have c59b2 : (t423 == (t421.toList == x8_12.toList)) = false := by simpa using c59))
                              (try (have c59b3 : ¬ (t423 = (t421.toList == x8_12.toList)) := by simpa using c59))
                              clear c59
                              exact absurd ((Option.some.inj H).trans HT.out) (by decide)
                            · rw [if_neg c59] at H
                              have c59b0 : (t423 != (t421.toList == x8_12.toList)) = false := by simpa using c59
                              (try (have c59b1 : decide (t423 = (t421.toList == x8_12.toList)) = true := by simpa using c59))
                              (try (have c59b2 : (t423 == (t421.toList == x8_12.toList)) = true := by simpa using c59))
                              clear c59
                              replace H := Option.bind_eq_some_iff.mp H
                              obtain ⟨t424, A600, H⟩ := H
                              replace H : (if (t424 != (t421.toList == (rdOf ByteArray.empty t390 x21_4).toList)) = true then (some false) else (laws_FnSuspects.l0 k4 t387 t390 t393 x8_12 t398 t402 t406 t414 (wrap64 (x21_4 + 1)) a977_0)) = some r := H
                              have A60 := Aside0.mk A600
                              clear A600
                              by_cases c61 : (t424 != (t421.toList == (rdOf ByteArray.empty t390 x21_4).toList)) = true
                              · rw [if_pos c61] at H
                                have c61b0 : (t424 != (t421.toList == (rdOf ByteArray.empty t390 x21_4).toList)) = true := c61
                                (try (have c61b1 : decide (t424 = (t421.toList == (rdOf ByteArray.empty t390 x21_4).toList)) = false := by simpa using c61))
                                (try (have c61b2 : (t424 == (t421.toList == (rdOf ByteArray.empty t390 x21_4).toList)) = false := by simpa using c61))
                                (try (have c61b3 : ¬ (t424 = (t421.toList == (rdOf ByteArray.empty t390 x21_4).toList)) := by simpa using c61))
                                clear c61
                                exact absurd ((Option.some.inj H).trans HT.out) (by decide)
                              · rw [if_neg c61] at H
                                have c61b0 : (t424 != (t421.toList == (rdOf ByteArray.empty t390 x21_4).toList)) = false := by simpa using c61
                                (try (have c61b1 : decide (t424 = (t421.toList == (rdOf ByteArray.empty t390 x21_4).toList)) = true := by simpa using c61))
                                (try (have c61b2 : (t424 == (t421.toList == (rdOf ByteArray.empty t390 x21_4).toList)) = true := by simpa using c61))
                                clear c61
                                have H' := Aside0.mk H
                                clear H
                                have p420 : 0 ≤ (x21_4 : Int) := of_decide_eq_true (by first | (with_reducible assumption) | assumption)
                                have q420 : x21_4 < (t390.length : Int) := of_decide_eq_true (by first | (with_reducible assumption) | assumption)
                                obtain ⟨ad420, e420, hx420_0⟩ := Kd.at_string (Kd.R_reads' HO_6.out).2.2 x21_4 p420 q420
                                cases e420
                                replace p420 := eq_true p420
                                replace q420 := eq_true q420
                                go_wp2_with (first | (go_at_call 16; (with_reducible refine (impl_PassOn.calls k4 _ _ t387 (rdOf ByteArray.empty t390 x21_4) a977_0 t421 t422 _ ?side1 ?side2 ?side3 A56.out).mono ?_); (case side1 => repeat (first | exact (Kd.R_reads' HO_5.out).2.2 | (with_reducible refine Kd.C_alloc ?_ _) | (with_reducible refine Kd.C_drewN ?_ _) | (with_reducible refine Kd.C_drew ?_))); (case side2 => exact (Kd.R_reads' HO_5.out).2.1); (case side3 => exact (by first | exact BK977.out | ((with_reducible repeat (first | refine blk_drewN ?_ _ | refine blk_drew ?_ | refine blk_alloc ?_ _)); exact BK977.out))); rintro e w62 ⟨rfl, hb⟩; have n0_ := Aside0.mk (Kd.R_below (by (with_reducible repeat (first | apply Kd.R_alloc | apply Kd.R_drewN | apply Kd.R_drew)); exact HO_5.out) hb); have n1_ := Aside0.mk (Kd.R_below (by (with_reducible repeat (first | apply Kd.R_alloc | apply Kd.R_drewN | apply Kd.R_drew)); exact HO_6.out) hb); have n2_ := Aside0.mk (Kd.R_below (by (with_reducible repeat (first | apply Kd.R_alloc | apply Kd.R_drewN | apply Kd.R_drew)); exact HO_11.out) hb); have n3_ := Aside0.mk (Kd.R_below (by (with_reducible repeat (first | apply Kd.R_alloc | apply Kd.R_drewN | apply Kd.R_drew)); exact HO_13.out) hb); have n4_ := Aside0.mk (Kd.R_below (by (with_reducible repeat (first | apply Kd.R_alloc | apply Kd.R_drewN | apply Kd.R_drew)); exact HO_15.out) hb); have n5_ := Aside0.mk (Kd.R_below (by (with_reducible repeat (first | apply Kd.R_alloc | apply Kd.R_drewN | apply Kd.R_drew)); exact HO_19.out) hb); have n6_ := Aside0.mk (blk_below (g := 0) (o := .cells #[.int .i64 a977_0] 3 (0, 0)) (by (with_reducible repeat (first | refine blk_drewN ?_ _ | refine blk_drew ?_ | refine blk_alloc ?_ _)); exact BK977.out) hb); have n7_ := Aside0.mk (below_step (by repeat (first | (with_reducible first | exact HB.out | apply below_alloc | apply pw_below_drewN | apply below_drew1 | refine below_set ?_ GE977.out) | exact HB.out)) hb); clear HO_5; clear HO_6; clear HO_11; clear HO_13; clear HO_15; clear HO_19; clear BK977; clear HB; have HO_5 := n0_; have HO_6 := n1_; have HO_11 := n2_; have HO_13 := n3_; have HO_15 := n4_; have HO_19 := n5_; have BK977 := n6_; have HB := n7_; clear n0_ n1_ n2_ n3_ n4_ n5_ n6_ n7_; (try clear hb); (try clear hb2); (try clear hk); (try clear hi); obtain ⟨Ao63, co63, eo63⟩ := Kd.R_slice HO_11.out; subst eo63) | (go_at_call 15; (with_reducible refine (spec_HasNumber.calls k4 _ _ t398 x21_4 t423 _ ?side1 ?side2 A58.out).mono ?_); (case side1 => repeat (first | exact (Kd.R_reads' HO_11.out).2.2 | (with_reducible refine Kd.C_alloc ?_ _) | (with_reducible refine Kd.C_drewN ?_ _) | (with_reducible refine Kd.C_drew ?_))); (case side2 => exact (Kd.R_reads' HO_11.out).2.1); rintro e w' ⟨rfl, ⟨nd, rfl⟩⟩; (try first | exact ⟨rfl, _, World.drewN_drewN _ _ _⟩ | exact ⟨rfl, _, Eq.trans (World.drewN_drewN _ _ _) (congrArg (World.drewN _) (Nat.add_assoc _ _ _))⟩); obtain ⟨Ao64, co64, eo64⟩ := Kd.R_slice HO_13.out; subst eo64) | (go_at_call 15; (with_reducible refine (spec_HasNumber.calls k4 _ _ t402 x21_4 t424 _ ?side1 ?side2 A60.out).mono ?_); (case side1 => repeat (first | exact (Kd.R_reads' HO_13.out).2.2 | (with_reducible refine Kd.C_alloc ?_ _) | (with_reducible refine Kd.C_drewN ?_ _) | (with_reducible refine Kd.C_drew ?_))); (case side2 => exact (Kd.R_reads' HO_13.out).2.1); rintro e w' ⟨rfl, ⟨nd, rfl⟩⟩; (try first | exact ⟨rfl, _, World.drewN_drewN _ _ _⟩ | exact ⟨rfl, _, Eq.trans (World.drewN_drewN _ _ _) (congrArg (World.drewN _) (Nat.add_assoc _ _ _))⟩); have p425 : 0 ≤ (x21_4 : Int) := of_decide_eq_true (by first | (with_reducible assumption) | assumption); have q425 : x21_4 < (t390.length : Int) := of_decide_eq_true (by first | (with_reducible assumption) | assumption); obtain ⟨ad425, e425, hx425_0⟩ := Kd.at_string (Kd.R_reads' HO_6.out).2.2 x21_4 p425 q425; obtain rfl : ad420 = ad425 := (by injection e425); replace p425 := eq_true p425; replace q425 := eq_true q425))
                                try (obtain ⟨Ao64, co64, eo64⟩ := Kd.R_slice HO_13.out; subst eo64)
                                try (have p425 : 0 ≤ (x21_4 : Int) := of_decide_eq_true (by first | (with_reducible assumption) | assumption); have q425 : x21_4 < (t390.length : Int) := of_decide_eq_true (by first | (with_reducible assumption) | assumption); obtain ⟨ad425, e425, hx425_0⟩ := Kd.at_string (Kd.R_reads' HO_6.out).2.2 x21_4 p425 q425; obtain rfl : ad420 = ad425 := (by injection e425); replace p425 := eq_true p425; replace q425 := eq_true q425)
                                repeat (go_quiet (first | (go_at_call 16; (with_reducible refine (impl_PassOn.calls k4 _ _ t387 (rdOf ByteArray.empty t390 x21_4) a977_0 t421 t422 _ ?side1 ?side2 ?side3 A56.out).mono ?_); (case side1 => repeat (first | exact (Kd.R_reads' HO_5.out).2.2 | (with_reducible refine Kd.C_alloc ?_ _) | (with_reducible refine Kd.C_drewN ?_ _) | (with_reducible refine Kd.C_drew ?_))); (case side2 => exact (Kd.R_reads' HO_5.out).2.1); (case side3 => exact (by first | exact BK977.out | ((with_reducible repeat (first | refine blk_drewN ?_ _ | refine blk_drew ?_ | refine blk_alloc ?_ _)); exact BK977.out))); rintro e w62 ⟨rfl, hb⟩; have n0_ := Aside0.mk (Kd.R_below (by (with_reducible repeat (first | apply Kd.R_alloc | apply Kd.R_drewN | apply Kd.R_drew)); exact HO_5.out) hb); have n1_ := Aside0.mk (Kd.R_below (by (with_reducible repeat (first | apply Kd.R_alloc | apply Kd.R_drewN | apply Kd.R_drew)); exact HO_6.out) hb); have n2_ := Aside0.mk (Kd.R_below (by (with_reducible repeat (first | apply Kd.R_alloc | apply Kd.R_drewN | apply Kd.R_drew)); exact HO_11.out) hb); have n3_ := Aside0.mk (Kd.R_below (by (with_reducible repeat (first | apply Kd.R_alloc | apply Kd.R_drewN | apply Kd.R_drew)); exact HO_13.out) hb); have n4_ := Aside0.mk (Kd.R_below (by (with_reducible repeat (first | apply Kd.R_alloc | apply Kd.R_drewN | apply Kd.R_drew)); exact HO_15.out) hb); have n5_ := Aside0.mk (Kd.R_below (by (with_reducible repeat (first | apply Kd.R_alloc | apply Kd.R_drewN | apply Kd.R_drew)); exact HO_19.out) hb); have n6_ := Aside0.mk (blk_below (g := 0) (o := .cells #[.int .i64 a977_0] 3 (0, 0)) (by (with_reducible repeat (first | refine blk_drewN ?_ _ | refine blk_drew ?_ | refine blk_alloc ?_ _)); exact BK977.out) hb); have n7_ := Aside0.mk (below_step (by repeat (first | (with_reducible first | exact HB.out | apply below_alloc | apply pw_below_drewN | apply below_drew1 | refine below_set ?_ GE977.out) | exact HB.out)) hb); clear HO_5; clear HO_6; clear HO_11; clear HO_13; clear HO_15; clear HO_19; clear BK977; clear HB; have HO_5 := n0_; have HO_6 := n1_; have HO_11 := n2_; have HO_13 := n3_; have HO_15 := n4_; have HO_19 := n5_; have BK977 := n6_; have HB := n7_; clear n0_ n1_ n2_ n3_ n4_ n5_ n6_ n7_; (try clear hb); (try clear hb2); (try clear hk); (try clear hi); obtain ⟨Ao63, co63, eo63⟩ := Kd.R_slice HO_11.out; subst eo63) | (go_at_call 15; (with_reducible refine (spec_HasNumber.calls k4 _ _ t398 x21_4 t423 _ ?side1 ?side2 A58.out).mono ?_); (case side1 => repeat (first | exact (Kd.R_reads' HO_11.out).2.2 | (with_reducible refine Kd.C_alloc ?_ _) | (with_reducible refine Kd.C_drewN ?_ _) | (with_reducible refine Kd.C_drew ?_))); (case side2 => exact (Kd.R_reads' HO_11.out).2.1); rintro e w' ⟨rfl, ⟨nd, rfl⟩⟩; (try first | exact ⟨rfl, _, World.drewN_drewN _ _ _⟩ | exact ⟨rfl, _, Eq.trans (World.drewN_drewN _ _ _) (congrArg (World.drewN _) (Nat.add_assoc _ _ _))⟩); try (obtain ⟨Ao64, co64, eo64⟩ := Kd.R_slice HO_13.out; subst eo64)) | (go_at_call 15; (with_reducible refine (spec_HasNumber.calls k4 _ _ t402 x21_4 t424 _ ?side1 ?side2 A60.out).mono ?_); (case side1 => repeat (first | exact (Kd.R_reads' HO_13.out).2.2 | (with_reducible refine Kd.C_alloc ?_ _) | (with_reducible refine Kd.C_drewN ?_ _) | (with_reducible refine Kd.C_drew ?_))); (case side2 => exact (Kd.R_reads' HO_13.out).2.1); rintro e w' ⟨rfl, ⟨nd, rfl⟩⟩; (try first | exact ⟨rfl, _, World.drewN_drewN _ _ _⟩ | exact ⟨rfl, _, Eq.trans (World.drewN_drewN _ _ _) (congrArg (World.drewN _) (Nat.add_assoc _ _ _))⟩); try (have p425 : 0 ≤ (x21_4 : Int) := of_decide_eq_true (by first | (with_reducible assumption) | assumption); have q425 : x21_4 < (t390.length : Int) := of_decide_eq_true (by first | (with_reducible assumption) | assumption); obtain ⟨ad425, e425, hx425_0⟩ := Kd.at_string (Kd.R_reads' HO_6.out).2.2 x21_4 p425 q425; obtain rfl : ad420 = ad425 := (by injection e425); replace p425 := eq_true p425; replace q425 := eq_true q425))); try go_wp2_with (first | (go_at_call 16; (with_reducible refine (impl_PassOn.calls k4 _ _ t387 (rdOf ByteArray.empty t390 x21_4) a977_0 t421 t422 _ ?side1 ?side2 ?side3 A56.out).mono ?_); (case side1 => repeat (first | exact (Kd.R_reads' HO_5.out).2.2 | (with_reducible refine Kd.C_alloc ?_ _) | (with_reducible refine Kd.C_drewN ?_ _) | (with_reducible refine Kd.C_drew ?_))); (case side2 => exact (Kd.R_reads' HO_5.out).2.1); (case side3 => exact (by first | exact BK977.out | ((with_reducible repeat (first | refine blk_drewN ?_ _ | refine blk_drew ?_ | refine blk_alloc ?_ _)); exact BK977.out))); rintro e w62 ⟨rfl, hb⟩; have n0_ := Aside0.mk (Kd.R_below (by (with_reducible repeat (first | apply Kd.R_alloc | apply Kd.R_drewN | apply Kd.R_drew)); exact HO_5.out) hb); have n1_ := Aside0.mk (Kd.R_below (by (with_reducible repeat (first | apply Kd.R_alloc | apply Kd.R_drewN | apply Kd.R_drew)); exact HO_6.out) hb); have n2_ := Aside0.mk (Kd.R_below (by (with_reducible repeat (first | apply Kd.R_alloc | apply Kd.R_drewN | apply Kd.R_drew)); exact HO_11.out) hb); have n3_ := Aside0.mk (Kd.R_below (by (with_reducible repeat (first | apply Kd.R_alloc | apply Kd.R_drewN | apply Kd.R_drew)); exact HO_13.out) hb); have n4_ := Aside0.mk (Kd.R_below (by (with_reducible repeat (first | apply Kd.R_alloc | apply Kd.R_drewN | apply Kd.R_drew)); exact HO_15.out) hb); have n5_ := Aside0.mk (Kd.R_below (by (with_reducible repeat (first | apply Kd.R_alloc | apply Kd.R_drewN | apply Kd.R_drew)); exact HO_19.out) hb); have n6_ := Aside0.mk (blk_below (g := 0) (o := .cells #[.int .i64 a977_0] 3 (0, 0)) (by (with_reducible repeat (first | refine blk_drewN ?_ _ | refine blk_drew ?_ | refine blk_alloc ?_ _)); exact BK977.out) hb); have n7_ := Aside0.mk (below_step (by repeat (first | (with_reducible first | exact HB.out | apply below_alloc | apply pw_below_drewN | apply below_drew1 | refine below_set ?_ GE977.out) | exact HB.out)) hb); clear HO_5; clear HO_6; clear HO_11; clear HO_13; clear HO_15; clear HO_19; clear BK977; clear HB; have HO_5 := n0_; have HO_6 := n1_; have HO_11 := n2_; have HO_13 := n3_; have HO_15 := n4_; have HO_19 := n5_; have BK977 := n6_; have HB := n7_; clear n0_ n1_ n2_ n3_ n4_ n5_ n6_ n7_; (try clear hb); (try clear hb2); (try clear hk); (try clear hi); obtain ⟨Ao63, co63, eo63⟩ := Kd.R_slice HO_11.out; subst eo63) | (go_at_call 15; (with_reducible refine (spec_HasNumber.calls k4 _ _ t398 x21_4 t423 _ ?side1 ?side2 A58.out).mono ?_); (case side1 => repeat (first | exact (Kd.R_reads' HO_11.out).2.2 | (with_reducible refine Kd.C_alloc ?_ _) | (with_reducible refine Kd.C_drewN ?_ _) | (with_reducible refine Kd.C_drew ?_))); (case side2 => exact (Kd.R_reads' HO_11.out).2.1); rintro e w' ⟨rfl, ⟨nd, rfl⟩⟩; (try first | exact ⟨rfl, _, World.drewN_drewN _ _ _⟩ | exact ⟨rfl, _, Eq.trans (World.drewN_drewN _ _ _) (congrArg (World.drewN _) (Nat.add_assoc _ _ _))⟩); try (obtain ⟨Ao64, co64, eo64⟩ := Kd.R_slice HO_13.out; subst eo64)) | (go_at_call 15; (with_reducible refine (spec_HasNumber.calls k4 _ _ t402 x21_4 t424 _ ?side1 ?side2 A60.out).mono ?_); (case side1 => repeat (first | exact (Kd.R_reads' HO_13.out).2.2 | (with_reducible refine Kd.C_alloc ?_ _) | (with_reducible refine Kd.C_drewN ?_ _) | (with_reducible refine Kd.C_drew ?_))); (case side2 => exact (Kd.R_reads' HO_13.out).2.1); rintro e w' ⟨rfl, ⟨nd, rfl⟩⟩; (try first | exact ⟨rfl, _, World.drewN_drewN _ _ _⟩ | exact ⟨rfl, _, Eq.trans (World.drewN_drewN _ _ _) (congrArg (World.drewN _) (Nat.add_assoc _ _ _))⟩); try (have p425 : 0 ≤ (x21_4 : Int) := of_decide_eq_true (by first | (with_reducible assumption) | assumption); have q425 : x21_4 < (t390.length : Int) := of_decide_eq_true (by first | (with_reducible assumption) | assumption); obtain ⟨ad425, e425, hx425_0⟩ := Kd.at_string (Kd.R_reads' HO_6.out).2.2 x21_4 p425 q425; obtain rfl : ad420 = ad425 := (by injection e425); replace p425 := eq_true p425; replace q425 := eq_true q425))))
                                go_roundg k4
                                case measure => have := HJ3.out; have := HJ12.out; have := HJ29.out; have := HK4.out; omega
                                case rel => exact ⟨(wrap64 (x21_4 + 1)), (by first | rfl | (simp; done) | (simp [*]; done)), H', ⟨by have := HJ3.out; have := HJ12.out; have := HJ29.out; have := HK4.out; omega⟩, ⟨by (with_reducible repeat (first | apply Kd.R_alloc | apply Kd.R_drewN | apply Kd.R_drew)); exact HO_5.out⟩, ⟨by (with_reducible repeat (first | apply Kd.R_alloc | apply Kd.R_drewN | apply Kd.R_drew)); exact HO_6.out⟩, ⟨by (with_reducible repeat (first | apply Kd.R_alloc | apply Kd.R_drewN | apply Kd.R_drew)); exact HO_11.out⟩, ⟨by (with_reducible repeat (first | apply Kd.R_alloc | apply Kd.R_drewN | apply Kd.R_drew)); exact HO_13.out⟩, ⟨by (with_reducible repeat (first | apply Kd.R_alloc | apply Kd.R_drewN | apply Kd.R_drew)); exact HO_15.out⟩, ⟨by (with_reducible repeat (first | apply Kd.R_alloc | apply Kd.R_drewN | apply Kd.R_drew)); exact HO_19.out⟩, ⟨by (with_reducible repeat (first | refine blk_drewN ?_ _ | refine blk_drew ?_ | refine blk_alloc ?_ _)); exact BK977.out⟩, ⟨by repeat (first | (with_reducible first | exact HB.out | apply below_alloc | apply pw_below_drewN | apply below_drew1 | refine below_set ?_ GE977.out) | exact HB.out)⟩⟩
                          · rw [if_neg c57] at H
                            have c57b0 : (t422 == 0) = false := beq_eq_false_iff_ne.mpr c57
                            have c57b1 : (t422 != 0) = true := bne_iff_ne.mpr c57
                            exact absurd ((Option.some.inj H).trans HT.out) (by decide)
                        · rw [if_neg c55] at H
                          exact absurd H (by simp)
                      · rw [if_neg c54] at H
                        have c54b0 : decide (x21_4 < (t390.length : Int)) = false := decide_eq_false c54
                        clear c54
                        have H' := Aside0.mk H
                        clear H
                        go_wp2
                        repeat (go_quiet (fail); try go_wp2)
                        go_loopg [24] k4 (fun kq v24 w' => ∃ (x5_5 : List (S41)) (x24_5 : Int), v24 = .int .i64 x24_5 ∧ Aside0 (laws_FnSuspects.l1 kq x5_5 t393 x8_12 t406 t414 x24_5 a977_0 = some r) ∧ Aside0 (kq ≤ k4) ∧ Aside0 (Kd.R k41 41 w' w.heap.size (fun _ => True) (.slice Ao31 t387.length co31) x5_5) ∧ Aside0 (Kd.R (Kd.int .i64) 2 w' w.heap.size (fun k_ => some k_ ≠ (v416 : Value).ownBlock) v407 t406) ∧ Aside0 (Kd.R (Kd.int .i64) 2 w' w.heap.size (fun k_ => some k_ ≠ (v407 : Value).ownBlock) v416 t414) ∧ Aside0 (w'.heap[0]? = some (.cells #[.int .i64 a977_0] 3 (0, 0))) ∧ Aside0 (Below w.heap.size w w'))
                        case atStart => exact ⟨(t387), (0), (by first | rfl | (simp; done) | (simp [*]; done)), H', ⟨Nat.le_refl _⟩, ⟨by (with_reducible repeat (first | apply Kd.R_alloc | apply Kd.R_drewN | apply Kd.R_drew)); exact HO_5.out⟩, ⟨by (with_reducible repeat (first | apply Kd.R_alloc | apply Kd.R_drewN | apply Kd.R_drew)); exact Kd.R_mono HO_15.out (fun _ hk => hk.2.2)⟩, ⟨by (with_reducible repeat (first | apply Kd.R_alloc | apply Kd.R_drewN | apply Kd.R_drew)); exact Kd.R_mono HO_19.out (fun _ hk => hk.2.2)⟩, ⟨by (with_reducible repeat (first | refine blk_drewN ?_ _ | refine blk_drew ?_ | refine blk_alloc ?_ _)); exact BK977.out⟩, ⟨by repeat (first | (with_reducible first | exact HB.out | apply below_alloc | apply pw_below_drewN | apply below_drew1 | refine below_set ?_ GE977.out) | exact HB.out)⟩⟩
                        case round =>
                          as_aux_lemma =>
                          clear H'
                          try clear c1
                          try clear c2
                          try clear p2
                          try clear c3
                          try clear p3
                          try clear q3
                          try clear hx3
                          try clear qi3
                          try clear c4
                          try clear p4
                          try clear q4
                          try clear hx4
                          try clear c5
                          try clear c6
                          try clear p6
                          try clear c8
                          try clear hx9
                          try clear c19
                          try clear c19b0
                          try clear c19b1
                          try clear c20
                          try clear c20b0
                          try clear c20b1
                          try clear c22
                          try clear c22b0
                          try clear c22b1
                          try clear c37
                          try clear c37b0
                          try clear c37b1
                          try clear c38
                          try clear c38b0
                          try clear c38b1
                          try clear c39
                          try clear c39b0
                          try clear c39b1
                          try clear p39
                          try clear q39
                          try clear hx39
                          try clear qi39
                          try clear c40
                          try clear c40b0
                          try clear c40b1
                          try clear c41
                          try clear c41b0
                          try clear c41b1
                          try clear p42
                          try clear q42
                          try clear hx42
                          try clear c43
                          try clear c44
                          try clear c44b0
                          try clear c44b1
                          try clear c53
                          try clear c54
                          try clear c54b0
                          try clear c55
                          try clear c55b0
                          try clear c57
                          try clear c57b0
                          try clear c57b1
                          try clear c59
                          try clear c59b0
                          try clear c59b1
                          try clear c59b2
                          try clear c61
                          try clear c61b0
                          try clear c61b1
                          try clear c61b2
                          try clear p64
                          try clear hx395_0
                          try clear hx420_0
                          try clear hx425_0
                          try clear p2
                          try clear p3
                          try clear p39
                          try clear p395
                          try clear p420
                          try clear p425
                          try clear q3
                          try clear q39
                          try clear q395
                          try clear q420
                          try clear q425
                          obtain ⟨x5_5, x24_5, rfl, HA, HK5, HO_5, HO_15, HO_19, BK977, HB⟩ := hrel
                          have hl5_5 := (Kd.R_reads' HO_5.out).1
                          rw [hl5_5] at HO_5
                          (try simp only [hl5_5])
                          (try simp only [hl5_5] at BK977)
                          (try simp only [hl5_5] at HO_15)
                          (try simp only [hl5_5] at HO_19)
                          cases gk with
                          | zero => exact absurd HA.out (by simp [laws_FnSuspects.l1])
                          | succ k5 =>
                            have H := HA.out
                            clear HA
                            simp only [laws_FnSuspects.l1] at H
                            by_cases c65 : x24_5 < (x5_5.length : Int)
                            · rw [if_pos c65] at H
                              have c65b0 : decide (x24_5 < (x5_5.length : Int)) = true := decide_eq_true c65
                              clear c65
                              by_cases c66 : 0 ≤ x24_5
                              · rw [if_pos c66] at H
                                have c66b0 : decide (0 ≤ x24_5) = true := decide_eq_true c66
                                clear c66
                                replace H := Option.bind_eq_some_iff.mp H
                                obtain ⟨⟨t427, t428⟩, A670, H⟩ := H
                                replace H : ((some (([] : List (S41)) : List (S41))).bind fun y429 => (if y429.length + x5_5.length < 46912496118442 then ((some (y429 ++ x5_5 : List (S41))).bind fun y432 => (if x24_5 < (y432.length : Int) then ((impl_PassOn.f k5 (y432.set (x24_5 : Int).toNat (⟨0, 0, 0⟩ : S41)) t393 a977_0).bind fun bt436 => (if t428 = 0 then ((spec_HasNumber.f k5 t406 x24_5).bind fun t438 => (if (t438 != (t427.toList == x8_12.toList)) = true then (some false) else (if bt436.2 = 0 then ((spec_HasNumber.f k5 t414 x24_5).bind fun t439 => (if (t439 != (bt436.1.toList == x8_12.toList)) = true then (some false) else (laws_FnSuspects.l1 k5 x5_5 t393 x8_12 t406 t414 (wrap64 (x24_5 + 1)) a977_0))) else (some false)))) else (some false))) else (none))) else (none))) = some r := H
                                have A67 := Aside0.mk A670
                                clear A670
                                obtain ⟨y429, hy429⟩ : ∃ y_ : List (S41), y_ = (([] : List (S41))) := ⟨_, rfl⟩
                                replace H : (if y429.length + x5_5.length < 46912496118442 then ((some (y429 ++ x5_5 : List (S41))).bind fun y432 => (if x24_5 < (y432.length : Int) then ((impl_PassOn.f k5 (y432.set (x24_5 : Int).toNat (⟨0, 0, 0⟩ : S41)) t393 a977_0).bind fun bt436 => (if t428 = 0 then ((spec_HasNumber.f k5 t406 x24_5).bind fun t438 => (if (t438 != (t427.toList == x8_12.toList)) = true then (some false) else (if bt436.2 = 0 then ((spec_HasNumber.f k5 t414 x24_5).bind fun t439 => (if (t439 != (bt436.1.toList == x8_12.toList)) = true then (some false) else (laws_FnSuspects.l1 k5 x5_5 t393 x8_12 t406 t414 (wrap64 (x24_5 + 1)) a977_0))) else (some false)))) else (some false))) else (none))) else (none)) = some r := by first | (rw [hy429]; with_reducible exact H) | (have H2_ := (Option.bind_some _ _).symm.trans H; rw [hy429]; with_reducible exact H2_) | (have H2_ := (Option.bind_some _ _).symm.trans H; with_reducible exact H2_) | with_reducible exact H | (rw [hy429]; exact H) | exact H
                                have Ny429 := Aside0.mk hy429
                                clear hy429
                                by_cases c68 : y429.length + x5_5.length < 46912496118442
                                · rw [if_pos c68] at H
                                  have LMc68 := Aside0.mk c68
                                  clear c68
                                  obtain ⟨y432, hy432⟩ : ∃ y_ : List (S41), y_ = (y429 ++ x5_5) := ⟨_, rfl⟩
                                  replace H : (if x24_5 < (y432.length : Int) then ((impl_PassOn.f k5 (y432.set (x24_5 : Int).toNat (⟨0, 0, 0⟩ : S41)) t393 a977_0).bind fun bt436 => (if t428 = 0 then ((spec_HasNumber.f k5 t406 x24_5).bind fun t438 => (if (t438 != (t427.toList == x8_12.toList)) = true then (some false) else (if bt436.2 = 0 then ((spec_HasNumber.f k5 t414 x24_5).bind fun t439 => (if (t439 != (bt436.1.toList == x8_12.toList)) = true then (some false) else (laws_FnSuspects.l1 k5 x5_5 t393 x8_12 t406 t414 (wrap64 (x24_5 + 1)) a977_0))) else (some false)))) else (some false))) else (none)) = some r := by first | (rw [hy432]; with_reducible exact H) | (have H2_ := (Option.bind_some _ _).symm.trans H; rw [hy432]; with_reducible exact H2_) | (have H2_ := (Option.bind_some _ _).symm.trans H; with_reducible exact H2_) | with_reducible exact H | (rw [hy432]; exact H) | exact H
                                  have Ny432 := Aside0.mk hy432
                                  clear hy432
                                  by_cases c69 : x24_5 < (y432.length : Int)
                                  · rw [if_pos c69] at H
                                    have c69b0 : decide (x24_5 < (y432.length : Int)) = true := decide_eq_true c69
                                    clear c69
                                    obtain ⟨y435, hy435⟩ : ∃ y_ : List (S41), y_ = (y432.set (x24_5 : Int).toNat (⟨0, 0, 0⟩ : S41)) := ⟨_, rfl⟩
                                    replace H : ((impl_PassOn.f k5 y435 t393 a977_0).bind fun bt436 => (if t428 = 0 then ((spec_HasNumber.f k5 t406 x24_5).bind fun t438 => (if (t438 != (t427.toList == x8_12.toList)) = true then (some false) else (if bt436.2 = 0 then ((spec_HasNumber.f k5 t414 x24_5).bind fun t439 => (if (t439 != (bt436.1.toList == x8_12.toList)) = true then (some false) else (laws_FnSuspects.l1 k5 x5_5 t393 x8_12 t406 t414 (wrap64 (x24_5 + 1)) a977_0))) else (some false)))) else (some false))) = some r := by first | (rw [hy435]; with_reducible exact H) | (have H2_ := (Option.bind_some _ _).symm.trans H; rw [hy435]; with_reducible exact H2_) | (have H2_ := (Option.bind_some _ _).symm.trans H; with_reducible exact H2_) | with_reducible exact H | (rw [hy435]; exact H) | exact H
                                    have Ny435 := Aside0.mk hy435
                                    clear hy435
                                    replace H := Option.bind_eq_some_iff.mp H
                                    obtain ⟨⟨t436, t437⟩, A710, H⟩ := H
                                    replace H : (if t428 = 0 then ((spec_HasNumber.f k5 t406 x24_5).bind fun t438 => (if (t438 != (t427.toList == x8_12.toList)) = true then (some false) else (if t437 = 0 then ((spec_HasNumber.f k5 t414 x24_5).bind fun t439 => (if (t439 != (t436.toList == x8_12.toList)) = true then (some false) else (laws_FnSuspects.l1 k5 x5_5 t393 x8_12 t406 t414 (wrap64 (x24_5 + 1)) a977_0))) else (some false)))) else (some false)) = some r := H
                                    have A71 := Aside0.mk A710
                                    clear A710
                                    by_cases c72 : t428 = 0
                                    · rw [if_pos c72] at H
                                      have c72b0 : (t428 == 0) = true := beq_iff_eq.mpr c72
                                      have c72b1 : (t428 != 0) = false := bne_eq_false_iff_eq.mpr c72
                                      clear c72
                                      replace H := Option.bind_eq_some_iff.mp H
                                      obtain ⟨t438, A730, H⟩ := H
                                      replace H : (if (t438 != (t427.toList == x8_12.toList)) = true then (some false) else (if t437 = 0 then ((spec_HasNumber.f k5 t414 x24_5).bind fun t439 => (if (t439 != (t436.toList == x8_12.toList)) = true then (some false) else (laws_FnSuspects.l1 k5 x5_5 t393 x8_12 t406 t414 (wrap64 (x24_5 + 1)) a977_0))) else (some false))) = some r := H
                                      have A73 := Aside0.mk A730
                                      clear A730
                                      by_cases c74 : (t438 != (t427.toList == x8_12.toList)) = true
                                      · rw [if_pos c74] at H
                                        have c74b0 : (t438 != (t427.toList == x8_12.toList)) = true := c74
                                        (try (have c74b1 : decide (t438 = (t427.toList == x8_12.toList)) = false := by simpa using c74))
                                        (try (have c74b2 : (t438 == (t427.toList == x8_12.toList)) = false := by simpa using c74))
                                        (try (have c74b3 : ¬ (t438 = (t427.toList == x8_12.toList)) := by simpa using c74))
                                        clear c74
                                        exact absurd ((Option.some.inj H).trans HT.out) (by decide)
                                      · rw [if_neg c74] at H
                                        have c74b0 : (t438 != (t427.toList == x8_12.toList)) = false := by simpa using c74
                                        (try (have c74b1 : decide (t438 = (t427.toList == x8_12.toList)) = true := by simpa using c74))
                                        (try (have c74b2 : (t438 == (t427.toList == x8_12.toList)) = true := by simpa using c74))
                                        clear c74
                                        by_cases c75 : t437 = 0
                                        · rw [if_pos c75] at H
                                          have c75b0 : (t437 == 0) = true := beq_iff_eq.mpr c75
                                          have c75b1 : (t437 != 0) = false := bne_eq_false_iff_eq.mpr c75
                                          clear c75
                                          replace H := Option.bind_eq_some_iff.mp H
                                          obtain ⟨t439, A760, H⟩ := H
                                          replace H : (if (t439 != (t436.toList == x8_12.toList)) = true then (some false) else (laws_FnSuspects.l1 k5 x5_5 t393 x8_12 t406 t414 (wrap64 (x24_5 + 1)) a977_0)) = some r := H
                                          have A76 := Aside0.mk A760
                                          clear A760
                                          by_cases c77 : (t439 != (t436.toList == x8_12.toList)) = true
                                          · rw [if_pos c77] at H
                                            have c77b0 : (t439 != (t436.toList == x8_12.toList)) = true := c77
                                            (try (have c77b1 : decide (t439 = (t436.toList == x8_12.toList)) = false := by simpa using c77))
                                            (try (have c77b2 : (t439 == (t436.toList == x8_12.toList)) = false := by simpa using c77))
                                            (try (have c77b3 : ¬ (t439 = (t436.toList == x8_12.toList)) := by simpa using c77))
                                            clear c77
                                            exact absurd ((Option.some.inj H).trans HT.out) (by decide)
                                          · rw [if_neg c77] at H
                                            have c77b0 : (t439 != (t436.toList == x8_12.toList)) = false := by simpa using c77
                                            (try (have c77b1 : decide (t439 = (t436.toList == x8_12.toList)) = true := by simpa using c77))
                                            (try (have c77b2 : (t439 == (t436.toList == x8_12.toList)) = true := by simpa using c77))
                                            clear c77
                                            have H' := Aside0.mk H
                                            clear H
                                            have p426 : 0 ≤ (x24_5 : Int) := of_decide_eq_true (by first | (with_reducible assumption) | assumption)
                                            have q426 : x24_5 < (x5_5.length : Int) := of_decide_eq_true (by first | (with_reducible assumption) | assumption)
                                            obtain ⟨ad426, e426, hx426_0, hx426_1, hx426_2⟩ := at_T41 (Kd.R_reads' HO_5.out).2.2 x24_5 p426 q426
                                            cases e426
                                            replace p426 := eq_true p426
                                            replace q426 := eq_true q426
                                            go_wp2_with (first | (go_at_call 17; (with_reducible refine (impl_Hear.calls k5 ((rd_T41 x5_5 x24_5).f0) ((rd_T41 x5_5 x24_5).f1) ((rd_T41 x5_5 x24_5).f2) t393 a977_0 t427 t428 _ ?side1 A67.out).mono ?_); (case side1 => exact (by first | exact BK977.out | ((with_reducible repeat (first | refine blk_drewN ?_ _ | refine blk_drew ?_ | refine blk_alloc ?_ _)); exact BK977.out))); rintro e w78 ⟨rfl, hb⟩; have n0_ := Aside0.mk (Kd.R_below (by (with_reducible repeat (first | apply Kd.R_alloc | apply Kd.R_drewN | apply Kd.R_drew)); exact HO_5.out) hb); have n1_ := Aside0.mk (Kd.R_below (by (with_reducible repeat (first | apply Kd.R_alloc | apply Kd.R_drewN | apply Kd.R_drew)); exact HO_15.out) hb); have n2_ := Aside0.mk (Kd.R_below (by (with_reducible repeat (first | apply Kd.R_alloc | apply Kd.R_drewN | apply Kd.R_drew)); exact HO_19.out) hb); have n3_ := Aside0.mk (blk_below (g := 0) (o := .cells #[.int .i64 a977_0] 3 (0, 0)) (by (with_reducible repeat (first | refine blk_drewN ?_ _ | refine blk_drew ?_ | refine blk_alloc ?_ _)); exact BK977.out) hb); have n4_ := Aside0.mk (below_step (by repeat (first | (with_reducible first | exact HB.out | apply below_alloc | apply pw_below_drewN | apply below_drew1 | refine below_set ?_ GE977.out) | exact HB.out)) hb); clear HO_5; clear HO_15; clear HO_19; clear BK977; clear HB; have HO_5 := n0_; have HO_15 := n1_; have HO_19 := n2_; have BK977 := n3_; have HB := n4_; clear n0_ n1_ n2_ n3_ n4_; (try clear hb); (try clear hb2); (try clear hk); (try clear hi)) | ((with_reducible refine gate_dst (N := 180) rfl ?_); (try (refine gate_guard (by rfl) ?_; dsimp only)); refine Kd.R_lit k41 _ 41 ?hg (N := 180) ?hd (xs := ([] : List (S41))) (inner := []) (ok := fun _ => True) (okp := fun _ => True) ?hr ?hp (fun _ hk => hk) trivial (Below.refl _ _) (Nat.le_refl _) (by simp) ?_; (case hd => rfl); (case hg => rfl); (case hr => first | (go_simp; done) | (go_simp; rfl)); (case hp => exact (Reps.none _ _)); intro v430 w79 ho80 hb hg_ hnew_; clear hg_ hnew_; (first | rw [← Ny429.out] at ho80 | (simp only [Int.reduceToNat] at ho80; rw [← Ny429.out] at ho80)); have n0_ := Aside0.mk (Kd.R_elder' (by (with_reducible repeat (first | apply Kd.R_alloc | apply Kd.R_drewN | apply Kd.R_drew)); exact HO_5.out) (Kd.R_base ho80) hb); have n1_ := Aside0.mk (Kd.R_below (by (with_reducible repeat (first | apply Kd.R_alloc | apply Kd.R_drewN | apply Kd.R_drew)); exact HO_15.out) hb); have n2_ := Aside0.mk (Kd.R_below (by (with_reducible repeat (first | apply Kd.R_alloc | apply Kd.R_drewN | apply Kd.R_drew)); exact HO_19.out) hb); have n3_ := Aside0.mk (Kd.R_lower (Kd.R_new' ho80 (Kd.R_lt (by (with_reducible repeat (first | apply Kd.R_alloc | apply Kd.R_drewN | apply Kd.R_drew)); exact HO_5.out))) (below_size (by repeat (first | (with_reducible first | exact HB.out | apply below_alloc | apply pw_below_drewN | apply below_drew1 | refine below_set ?_ GE977.out) | exact HB.out)))); have n4_ := Aside0.mk (blk_below (g := 0) (o := .cells #[.int .i64 a977_0] 3 (0, 0)) (by (with_reducible repeat (first | refine blk_drewN ?_ _ | refine blk_drew ?_ | refine blk_alloc ?_ _)); exact BK977.out) hb); have n5_ := Aside0.mk (below_step (by repeat (first | (with_reducible first | exact HB.out | apply below_alloc | apply pw_below_drewN | apply below_drew1 | refine below_set ?_ GE977.out) | exact HB.out)) hb); clear HO_5; clear HO_15; clear HO_19; clear BK977; clear HB; have HO_5 := n0_; have HO_15 := n1_; have HO_19 := n2_; have HO431 := n3_; have BK977 := n4_; have HB := n5_; clear n0_ n1_ n2_ n3_ n4_ n5_; clear hb ho80) | ((with_reducible refine gate_builtin (b := .append) (xs := #[.tmp 180, .tmp 181]) rfl ?_); (try (refine gate_guard (by rfl) ?_; dsimp only)); at_builtin; refine Kd.R_append_rows k41 (w0 := w) w.heap.size rfl (.tmp 180) (.tmp 181) 24 41 (.agg #[(.int .i8 0), (.int .u8 0), (.int .u8 0)]) 3 rfl Tryd.underlying24 info41 rfl (by decide) (by omega) v430 y429 x5_5 _ _ _ (fun k_ => some k_ ≠ (.slice (some ad426) x5_5.length co31 : Value).ownBlock) (fun _ => False) rfl rfl ?aO ?aR (fun _ _ h => h) (fun _ h => h.elim) ?aF ?aB ?aS ?aL ?_; (case aR => repeat (first | exact (Kd.R_reads' HO_5.out).2.2 | (with_reducible refine Kd.C_alloc ?_ _) | (with_reducible refine Kd.C_drewN ?_ _) | (with_reducible refine Kd.C_drew ?_))); (case aB => exact (by repeat (first | (with_reducible first | exact HB.out | apply below_alloc | apply pw_below_drewN | apply below_drew1 | refine below_set ?_ GE977.out) | exact HB.out))); (case aF => exact (fun k_ hk => Kd.fresh' (Kd.R_lt (by (with_reducible repeat (first | apply Kd.R_alloc | apply Kd.R_drewN | apply Kd.R_drew)); exact HO_5.out)) k_ hk)); (case aO => exact (by (with_reducible repeat (first | apply Kd.R_alloc | apply Kd.R_drewN | apply Kd.R_drew)); exact Kd.R_mono HO431.out (fun _ hk => hk.2))); (case aS => exact (below_size (by repeat (first | (with_reducible first | exact HB.out | apply below_alloc | apply pw_below_drewN | apply below_drew1 | refine below_set ?_ GE977.out) | exact HB.out)))); (case aL => have := LMc68.out; omega); intro v433 w81 ho hb hg hat; rw [← Ny432.out] at ho; have n0_ := Aside0.mk (Kd.R_after (ok := (fun _ => True)) (by (with_reducible repeat (first | apply Kd.R_alloc | apply Kd.R_drewN | apply Kd.R_drew)); exact HO_5.out) hg hat); have n1_ := Aside0.mk (Kd.R_over' (by (with_reducible repeat (first | apply Kd.R_alloc | apply Kd.R_drewN | apply Kd.R_drew)); exact HO_15.out) (Kd.R_typed (by (with_reducible repeat (first | apply Kd.R_alloc | apply Kd.R_drewN | apply Kd.R_drew)); exact HO431.out)) (by decide) hg); have n2_ := Aside0.mk (Kd.R_over' (by (with_reducible repeat (first | apply Kd.R_alloc | apply Kd.R_drewN | apply Kd.R_drew)); exact HO_19.out) (Kd.R_typed (by (with_reducible repeat (first | apply Kd.R_alloc | apply Kd.R_drewN | apply Kd.R_drew)); exact HO431.out)) (by decide) hg); have n3_ := Aside0.mk (blk_grown (g := 0) (o := .cells #[.int .i64 a977_0] 3 (0, 0)) (by (with_reducible repeat (first | refine blk_drewN ?_ _ | refine blk_drew ?_ | refine blk_alloc ?_ _)); exact BK977.out) hg (Kd.R_ne HO431.out BK977.out (by decide))); have n4_ := Aside0.mk (hb); have n5_ := Aside0.mk (ho); clear HO_5; clear HO_15; clear HO_19; clear BK977; clear HB; clear HO431; have HO_5 := n0_; have HO_15 := n1_; have HO_19 := n2_; have BK977 := n3_; have HB := n4_; have HO434 := n5_; clear n0_ n1_ n2_ n3_ n4_ n5_; clear ho hb hg hat; have p70 : 0 ≤ (x24_5 : Int) := of_decide_eq_true (by first | (with_reducible assumption) | assumption); have q70 : (x24_5 : Int) < ((y432.length : Int) : Int) := of_decide_eq_true (by first | (with_reducible assumption) | assumption); obtain ⟨go70, co70, eo70, gb70, gl70, cl70, HG70⟩ := Kd.R_form HO434.out (by omega); (first | cases eo70 | (injection eo70 with ea_ en_ ec_; (first | subst ea_ | (injection ea_ with ea_; subst ea_)); subst ec_; clear en_)); have GB70 := Aside0.mk gb70; have GG70 := Aside0.mk HG70; clear gb70 gl70 HG70; obtain ⟨ce70, hcl70, hM70, hcc70, hfr70⟩ := Kd.R_elem HO434.out z41 (x24_5 : Int) p70 q70; obtain rfl := k41_openM hM70; have hx70_0 : w81.cell? ⟨go70, (x24_5 : Int).toNat * 3, none⟩ = some (.int .i8 ((rd_T41 y432 x24_5).f0)) := hcc70 0 _ rfl; have hx70_1 : w81.cell? ⟨go70, (x24_5 : Int).toNat * 3 + 1, none⟩ = some (.int .u8 ((rd_T41 y432 x24_5).f1)) := hcc70 1 _ rfl; have hx70_2 : w81.cell? ⟨go70, (x24_5 : Int).toNat * 3 + 2, none⟩ = some (.int .u8 ((rd_T41 y432 x24_5).f2)) := hcc70 2 _ rfl; have hf70_0 : w81.frozen? ⟨go70, (x24_5 : Int).toNat * 3, none⟩ = false := hfr70 0; have hf70_1 : w81.frozen? ⟨go70, (x24_5 : Int).toNat * 3 + 1, none⟩ = false := hfr70 1; have hf70_2 : w81.frozen? ⟨go70, (x24_5 : Int).toNat * 3 + 2, none⟩ = false := hfr70 2; clear hcl70 hcc70 hfr70 hM70; replace p70 := eq_true p70; replace q70 := eq_true q70; have HX82 := Aside0.mk (show Kd.R k41 41 w81 w.heap.size (fun k_ => some k_ ≠ (.slice (some ad426) x5_5.length co31 : Value).ownBlock) (.slice (some ⟨go70, 0, none⟩) y432.length co70) y432 from (by (with_reducible repeat (first | apply Kd.R_alloc | apply Kd.R_drewN | apply Kd.R_drew)); exact HO434.out)); obtain ⟨ce82, hcl82, hM82, hcc82, hfr82⟩ := Kd.R_elem HX82.out z41 (x24_5 : Int) (of_decide_eq_true (by first | (with_reducible assumption) | assumption)) (by have h_ : (x24_5 : Int) < ((y432.length : Int) : Int) := of_decide_eq_true (by first | (with_reducible assumption) | assumption); first | exact h_ | (have e_ := (Kd.R_reads' HO434.out).1; omega) | simpa using h_); obtain rfl := k41_openM hM82; have HP82 := Kd.R_seg HX82.out (x24_5 : Int) (of_decide_eq_true (by first | (with_reducible assumption) | assumption)) (by have h_ : (x24_5 : Int) < ((y432.length : Int) : Int) := of_decide_eq_true (by first | (with_reducible assumption) | assumption); first | exact h_ | (have e_ := (Kd.R_reads' HO434.out).1; omega) | simpa using h_) (seg := [.int .i8 0, .int .u8 0, .int .u8 0]) (j := 0) hcl82 hcc82 (show 3 ≤ 3 from by decide) (x' := (⟨0, 0, 0⟩ : S41)) (k41_mkM _ _ _ (⟨0, 0, 0⟩ : S41) ) (fun _ hk => hk); have hx82_0 := hcc82 0 _ rfl; (try simp only [show (k41).sz = 3 from rfl, Nat.mul_one, Nat.add_zero] at hx82_0); have hf82_0 := hfr82 0; (try simp only [show (k41).sz = 3 from rfl, Nat.mul_one, Nat.add_zero] at hf82_0); have hx82_1 := hcc82 1 _ rfl; (try simp only [show (k41).sz = 3 from rfl, Nat.mul_one, Nat.add_zero] at hx82_1); have hf82_1 := hfr82 1; (try simp only [show (k41).sz = 3 from rfl, Nat.mul_one, Nat.add_zero] at hf82_1); have hx82_2 := hcc82 2 _ rfl; (try simp only [show (k41).sz = 3 from rfl, Nat.mul_one, Nat.add_zero] at hx82_2); have hf82_2 := hfr82 2; (try simp only [show (k41).sz = 3 from rfl, Nat.mul_one, Nat.add_zero] at hf82_2); clear hcl82 hcc82 hfr82 hM82) | ((with_reducible refine gate_store (t := 41) (p := 186) rfl ?_); (try (rw [drewN_self w81]; generalize hq_ : World.drewN w81 _ = w81; have n0_ := Aside0.mk (Kd.R_at hq_ HO_5.out); have n1_ := Aside0.mk (Kd.R_at hq_ HO_15.out); have n2_ := Aside0.mk (Kd.R_at hq_ HO_19.out); have n3_ := Aside0.mk (Kd.R_at hq_ HO434.out); have n4_ := Aside0.mk (blk_at hq_ BK977.out); have n5_ := Aside0.mk (below_at hq_ HB.out); clear hq_ HO_5 HO_15 HO_19 HO434 BK977 HB; have HO_5 := n0_; have HO_15 := n1_; have HO_19 := n2_; have HO434 := n3_; have BK977 := n4_; have HB := n5_; clear n0_ n1_ n2_ n3_ n4_ n5_; (try (have HX82 := Aside0.mk (show Kd.R k41 41 w81 w.heap.size (fun k_ => some k_ ≠ (.slice (some ad426) x5_5.length co31 : Value).ownBlock) (.slice (some ⟨go70, 0, none⟩) y432.length co70) y432 from (by (with_reducible repeat (first | apply Kd.R_alloc | apply Kd.R_drewN | apply Kd.R_drew)); exact HO434.out)))); (try (obtain ⟨ce82, hcl82, hM82, hcc82, hfr82⟩ := Kd.R_elem HX82.out z41 (x24_5 : Int) (of_decide_eq_true (by first | (with_reducible assumption) | assumption)) (by have h_ : (x24_5 : Int) < ((y432.length : Int) : Int) := of_decide_eq_true (by first | (with_reducible assumption) | assumption); first | exact h_ | (have e_ := (Kd.R_reads' HO434.out).1; omega) | simpa using h_))); (try (obtain rfl := k41_openM hM82)); (try (have HP82 := Kd.R_seg HX82.out (x24_5 : Int) (of_decide_eq_true (by first | (with_reducible assumption) | assumption)) (by have h_ : (x24_5 : Int) < ((y432.length : Int) : Int) := of_decide_eq_true (by first | (with_reducible assumption) | assumption); first | exact h_ | (have e_ := (Kd.R_reads' HO434.out).1; omega) | simpa using h_) (seg := [.int .i8 0, .int .u8 0, .int .u8 0]) (j := 0) hcl82 hcc82 (show 3 ≤ 3 from by decide) (x' := (⟨0, 0, 0⟩ : S41)) (k41_mkM _ _ _ (⟨0, 0, 0⟩ : S41) ) (fun _ hk => hk))); (try (have hx82_0 := hcc82 0 _ rfl)); (try (try simp only [show (k41).sz = 3 from rfl, Nat.mul_one, Nat.add_zero] at hx82_0)); (try (have hf82_0 := hfr82 0)); (try (try simp only [show (k41).sz = 3 from rfl, Nat.mul_one, Nat.add_zero] at hf82_0)); (try (have hx82_1 := hcc82 1 _ rfl)); (try (try simp only [show (k41).sz = 3 from rfl, Nat.mul_one, Nat.add_zero] at hx82_1)); (try (have hf82_1 := hfr82 1)); (try (try simp only [show (k41).sz = 3 from rfl, Nat.mul_one, Nat.add_zero] at hf82_1)); (try (have hx82_2 := hcc82 2 _ rfl)); (try (try simp only [show (k41).sz = 3 from rfl, Nat.mul_one, Nat.add_zero] at hx82_2)); (try (have hf82_2 := hfr82 2)); (try (try simp only [show (k41).sz = 3 from rfl, Nat.mul_one, Nat.add_zero] at hf82_2)); (try (clear hcl82 hcc82 hfr82 hM82)))); refine store_event (t := 41) (p := 186) (v := ?vo_w83) (w1 := (((w81.setCell ⟨go70, (x24_5 : Int).toNat * 3, none⟩ (.int .i8 0)).setCell ⟨go70, (x24_5 : Int).toNat * 3 + 1, none⟩ (.int .u8 0)).setCell ⟨go70, (x24_5 : Int).toNat * 3 + 2, none⟩ (.int .u8 0))) ?hg ?ho ?hn ?hr ?_; (case ho => rfl); (case hg => rfl); (case hn => rfl); (case hr => first | (go_simp; done) | (go_simp; rfl)); intro w83 hw; have hg : w81.grownBy w83 (some go70) := (by rw [hw]; exact HP82.2); have hp_ : Kd.R k41 41 w83 w.heap.size (fun k_ => some k_ ≠ (.slice (some ad426) x5_5.length co31 : Value).ownBlock) (.slice (some ⟨go70, 0, none⟩) y432.length co70) y435 := (by rw [hw, Ny435.out]; exact HP82.1); clear HP82; have n0_ := Aside0.mk (Kd.R_after (v := (.slice (some ⟨go70, 0, none⟩) y432.length co70)) (v1 := (.slice (some ⟨go70, 0, none⟩) y432.length co70)) (ok := (fun _ => True)) (by (with_reducible repeat (first | apply Kd.R_alloc | apply Kd.R_drewN | apply Kd.R_drew)); exact HO_5.out) hg (.inl rfl)); have n1_ := Aside0.mk (Kd.R_over' (v := (.slice (some ⟨go70, 0, none⟩) y432.length co70)) (by (with_reducible repeat (first | apply Kd.R_alloc | apply Kd.R_drewN | apply Kd.R_drew)); exact HO_15.out) (Kd.R_typed HO434.out) (by decide) hg); have n2_ := Aside0.mk (Kd.R_over' (v := (.slice (some ⟨go70, 0, none⟩) y432.length co70)) (by (with_reducible repeat (first | apply Kd.R_alloc | apply Kd.R_drewN | apply Kd.R_drew)); exact HO_19.out) (Kd.R_typed HO434.out) (by decide) hg); have n3_ := Aside0.mk (blk_grown (g := 0) (o := .cells #[.int .i64 a977_0] 3 (0, 0)) (by (with_reducible repeat (first | refine blk_drewN ?_ _ | refine blk_drew ?_ | refine blk_alloc ?_ _)); exact BK977.out) hg (Kd.R_ne HO434.out BK977.out (by decide))); have n4_ := Aside0.mk (hp_); have n5_ := Aside0.mk ((by rw [hw]; exact below_set (below_set (below_set (HB.out) GB70.out) GB70.out) GB70.out : Below w.heap.size w w83)); clear HO_5; clear HO_15; clear HO_19; clear BK977; clear HO434; clear HB; have HO_5 := n0_; have HO_15 := n1_; have HO_19 := n2_; have BK977 := n3_; have HO434 := n4_; have HB := n5_; clear n0_ n1_ n2_ n3_ n4_ n5_; clear hg hw hp_) | (go_at_call 16; refine calls_of_args (args' := #[.slice (some ⟨go70, 0, none⟩) y435.length co70, .string t393]) (by first | (rw [show y435.length = y432.length from (Kd.R_reads' HO434.out).1.symm] <;> rfl) | rfl) ?_; (with_reducible refine (impl_PassOn.calls k5 _ _ y435 t393 a977_0 t436 t437 _ ?side1 ?side2 ?side3 A71.out).mono ?_); (case side1 => repeat (first | exact (Kd.R_reads' HO434.out).2.2 | (with_reducible refine Kd.C_alloc ?_ _) | (with_reducible refine Kd.C_drewN ?_ _) | (with_reducible refine Kd.C_drew ?_))); (case side2 => rw [show y435.length = y432.length from (Kd.R_reads' HO434.out).1.symm]; exact (Kd.R_reads' HO434.out).2.1); (case side3 => exact (by first | exact BK977.out | ((with_reducible repeat (first | refine blk_drewN ?_ _ | refine blk_drew ?_ | refine blk_alloc ?_ _)); exact BK977.out))); rintro e w84 ⟨rfl, hb⟩; have n0_ := Aside0.mk (Kd.R_below (by (with_reducible repeat (first | apply Kd.R_alloc | apply Kd.R_drewN | apply Kd.R_drew)); exact HO_5.out) hb); have n1_ := Aside0.mk (Kd.R_below (by (with_reducible repeat (first | apply Kd.R_alloc | apply Kd.R_drewN | apply Kd.R_drew)); exact HO_15.out) hb); have n2_ := Aside0.mk (Kd.R_below (by (with_reducible repeat (first | apply Kd.R_alloc | apply Kd.R_drewN | apply Kd.R_drew)); exact HO_19.out) hb); have n3_ := Aside0.mk (Kd.R_below (by (with_reducible repeat (first | apply Kd.R_alloc | apply Kd.R_drewN | apply Kd.R_drew)); exact HO434.out) hb); have n4_ := Aside0.mk (blk_below (g := 0) (o := .cells #[.int .i64 a977_0] 3 (0, 0)) (by (with_reducible repeat (first | refine blk_drewN ?_ _ | refine blk_drew ?_ | refine blk_alloc ?_ _)); exact BK977.out) hb); have n5_ := Aside0.mk (below_step (by repeat (first | (with_reducible first | exact HB.out | apply below_alloc | apply pw_below_drewN | apply below_drew1 | refine below_set ?_ GE977.out) | exact HB.out)) hb); clear HO_5; clear HO_15; clear HO_19; clear HO434; clear BK977; clear HB; have HO_5 := n0_; have HO_15 := n1_; have HO_19 := n2_; have HO434 := n3_; have BK977 := n4_; have HB := n5_; clear n0_ n1_ n2_ n3_ n4_ n5_; (try clear hb); (try clear hb2); (try clear hk); (try clear hi); obtain ⟨Ao85, co85, eo85⟩ := Kd.R_slice HO_15.out; subst eo85) | (go_at_call 15; (with_reducible refine (spec_HasNumber.calls k5 _ _ t406 x24_5 t438 _ ?side1 ?side2 A73.out).mono ?_); (case side1 => repeat (first | exact (Kd.R_reads' HO_15.out).2.2 | (with_reducible refine Kd.C_alloc ?_ _) | (with_reducible refine Kd.C_drewN ?_ _) | (with_reducible refine Kd.C_drew ?_))); (case side2 => exact (Kd.R_reads' HO_15.out).2.1); rintro e w' ⟨rfl, ⟨nd, rfl⟩⟩; (try first | exact ⟨rfl, _, World.drewN_drewN _ _ _⟩ | exact ⟨rfl, _, Eq.trans (World.drewN_drewN _ _ _) (congrArg (World.drewN _) (Nat.add_assoc _ _ _))⟩); obtain ⟨Ao86, co86, eo86⟩ := Kd.R_slice HO_19.out; subst eo86) | (go_at_call 15; (with_reducible refine (spec_HasNumber.calls k5 _ _ t414 x24_5 t439 _ ?side1 ?side2 A76.out).mono ?_); (case side1 => repeat (first | exact (Kd.R_reads' HO_19.out).2.2 | (with_reducible refine Kd.C_alloc ?_ _) | (with_reducible refine Kd.C_drewN ?_ _) | (with_reducible refine Kd.C_drew ?_))); (case side2 => exact (Kd.R_reads' HO_19.out).2.1); rintro e w' ⟨rfl, ⟨nd, rfl⟩⟩; (try first | exact ⟨rfl, _, World.drewN_drewN _ _ _⟩ | exact ⟨rfl, _, Eq.trans (World.drewN_drewN _ _ _) (congrArg (World.drewN _) (Nat.add_assoc _ _ _))⟩)))
                                            try (obtain ⟨Ao86, co86, eo86⟩ := Kd.R_slice HO_19.out; subst eo86)
                                            repeat (go_quiet (fail); try go_wp2)
                                            (try simp only [← hl5_5])
                                            go_roundg k5
                                            case measure => have := HJ3.out; have := HJ12.out; have := HJ29.out; have := HK4.out; have := HK5.out; omega
                                            case rel => exact ⟨(x5_5), (wrap64 (x24_5 + 1)), (by first | rfl | (simp; done) | (simp [*]; done)), H', ⟨by have := HJ3.out; have := HJ12.out; have := HJ29.out; have := HK4.out; have := HK5.out; omega⟩, ⟨by (try simp only [hl5_5]); (with_reducible repeat (first | apply Kd.R_alloc | apply Kd.R_drewN | apply Kd.R_drew)); exact Kd.R_mono HO_5.out (fun _ hk => trivial)⟩, ⟨by (try simp only [hl5_5]); (with_reducible repeat (first | apply Kd.R_alloc | apply Kd.R_drewN | apply Kd.R_drew)); exact HO_15.out⟩, ⟨by (try simp only [hl5_5]); (with_reducible repeat (first | apply Kd.R_alloc | apply Kd.R_drewN | apply Kd.R_drew)); exact HO_19.out⟩, ⟨by (try simp only [hl5_5]); (with_reducible repeat (first | refine blk_drewN ?_ _ | refine blk_drew ?_ | refine blk_alloc ?_ _)); exact BK977.out⟩, ⟨by repeat (first | (with_reducible first | exact HB.out | apply below_alloc | apply pw_below_drewN | apply below_drew1 | refine below_set ?_ GE977.out) | exact HB.out)⟩⟩
                                        · rw [if_neg c75] at H
                                          have c75b0 : (t437 == 0) = false := beq_eq_false_iff_ne.mpr c75
                                          have c75b1 : (t437 != 0) = true := bne_iff_ne.mpr c75
                                          exact absurd ((Option.some.inj H).trans HT.out) (by decide)
                                    · rw [if_neg c72] at H
                                      have c72b0 : (t428 == 0) = false := beq_eq_false_iff_ne.mpr c72
                                      have c72b1 : (t428 != 0) = true := bne_iff_ne.mpr c72
                                      exact absurd ((Option.some.inj H).trans HT.out) (by decide)
                                  · rw [if_neg c69] at H
                                    exact absurd H (by simp)
                                · rw [if_neg c68] at H
                                  exact absurd H (by simp)
                              · rw [if_neg c66] at H
                                exact absurd H (by simp)
                            · rw [if_neg c65] at H
                              have c65b0 : decide (x24_5 < (x5_5.length : Int)) = false := decide_eq_false c65
                              clear c65
                              obtain rfl := Option.some.inj H
                              go_wp2
                              repeat (go_quiet (fail); try go_wp2)
                              go_ret
                              exact ⟨by first | rfl | (simp [errW_none, errW_some] <;> rfl) | (simp [*, errW_none, errW_some] <;> rfl), by repeat (first | (with_reducible first | exact HB.out | apply below_alloc | apply pw_below_drewN | apply below_drew1 | refine below_set ?_ GE977.out) | exact HB.out)⟩

/-- THE ONE PURE STATEMENT of laws_FnSuspects: mine. -/
def laws_FnSuspects.Pure : Prop := ∀ (l0 : List Int) (l1 : List Int) (a977_0 : Int), (l0.length ≤ 9223372036854775807 ∧ ∀ x_ ∈ l0, ((Lit.int .u8 x_).wf = true)) → (l1.length ≤ 9223372036854775807 ∧ ∀ x_ ∈ l1, ((Lit.int .u8 x_).wf = true)) → ∃ k, laws_FnSuspects.f k l0 l1 a977_0 = some true

end Go.Proofs.YtjifmnffbfpdoaaDoor.P
