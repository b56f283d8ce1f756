-- Printed by wip/print (my turned copy of the kit's print) out of the translation; Lean checks it.
import Derived.Test.YtkdloidojmccgaaP0
import Derived.Test.YtkdloidojmccgaaP5
import Derived.Test.YtkdloidojmccgaaP6
import Derived.Test.YtkdloidojmccgaaP7
import Derived.Test.YtkdloidojmccgaaP8
import Derived.Test.YtkdloidojmccgaaP12
import Derived.Test.YtkdloidojmccgaaP13
import Derived.Test.YtkdloidojmccgaaP14
namespace Go.Proofs.Ytkdloidojmccgaa.P
open Go.RowKit Go.Proofs.YtkdloidojmccgaaW.PrintWords Go.Proofs.YtkdloidojmccgaaW.PrintLast Go.Proofs.YtkdloidojmccgaaW.PrintMore
attribute [local go_sem] max2_int min2_int max_two min_two max_three min_three max_four min_four   -- for this text's walks alone
set_option linter.unusedVariables false
set_option linter.unusedSimpArgs false

theorem bne_t (a b : Bool) (h : (a != b) = true) : ((a = b) = False) ∧ decide (a = b) = false ∧ (a == b) = false := by revert h; cases a <;> cases b <;> simp
theorem bne_f (a b : Bool) (h : (a != b) = false) : ((a = b) = True) ∧ decide (a = b) = true ∧ (a == b) = true := by revert h; cases a <;> cases b <;> simp

/-! ### laws_FnVotes: function 5 -/
mutual
def laws_FnVotes.j0 : Nat → List Int → List Int → Bool → Option (Bool)
  | 0, _, _, _ => none
  | k + 1, x0, x1, x42 => if x42 = true then (some true) else ((spec_P6Words.f k x0).bind fun t358 => ((impl_VoteWord.f k t358).bind fun bt361 => ((spec_VoteWord.f k t358).bind fun bt363 => ((impl_LeastUnlike.f k t358).bind fun bt365 => ((spec_LeastUnlike.f k t358).bind fun bt367 => ((spec_P6Pick.f x1 5).bind fun t369 => ((impl_ChooseApart.f k t358 t369).bind fun bt370 => ((spec_ChooseApart.f k t358 t369).bind fun bt374 => (if bt361.2 = bt363.2 then (if bt361.1.toList = bt363.1.toList then (if ((bt361.2 == 0) != (decide ((t358.length : Int) > 0))) = true then (laws_FnVotes.j1 k x1 t358 bt363.1 bt367.1 t369 bt374.1 true) else (if bt365.2 = bt367.2 then (if bt365.1 = bt367.1 then (if ((bt365.2 == 0) != (decide ((t358.length : Int) > 1))) = true then (laws_FnVotes.j1 k x1 t358 bt363.1 bt367.1 t369 bt374.1 true) else (if bt370.2 = bt374.2 then (if bt370.2 = 0 then ((spec_SameNumbers.f k bt370.1 bt374.1).bind fun t378 => (if t378 = true then (if (t358.length : Int) > 0 then (laws_FnVotes.j1 k x1 t358 bt363.1 bt367.1 t369 bt374.1 ((bt374.1.length : Int) == 0)) else (laws_FnVotes.j1 k x1 t358 bt363.1 bt367.1 t369 bt374.1 false)) else (laws_FnVotes.j1 k x1 t358 bt363.1 bt367.1 t369 bt374.1 true))) else (laws_FnVotes.j1 k x1 t358 bt363.1 bt367.1 t369 bt374.1 true)) else (laws_FnVotes.j1 k x1 t358 bt363.1 bt367.1 t369 bt374.1 true))) else (laws_FnVotes.j1 k x1 t358 bt363.1 bt367.1 t369 bt374.1 true)) else (laws_FnVotes.j1 k x1 t358 bt363.1 bt367.1 t369 bt374.1 true))) else (laws_FnVotes.j1 k x1 t358 bt363.1 bt367.1 t369 bt374.1 true)) else (laws_FnVotes.j1 k x1 t358 bt363.1 bt367.1 t369 bt374.1 true))))))))))
def laws_FnVotes.j1 : Nat → List Int → List ByteArray → ByteArray → Int → Int → List Int → Bool → Option (Bool)
  | 0, _, _, _, _, _, _, _ => none
  | k + 1, x1, x5, x8, x12, x14, x17, x137 => if x137 = true then (some false) else (laws_FnVotes.l0 k x1 x5 x8 x12 x14 x17 0)
def laws_FnVotes.l0 : Nat → List Int → List ByteArray → ByteArray → Int → Int → List Int → Int → Option (Bool)
  | 0, _, _, _, _, _, _, _ => none
  | k + 1, x1, x5, x8, x12, x14, x17, x19 => if x19 < (x5.length : Int) then (laws_FnVotes.l1 k x1 x5 x8 x12 x14 x17 x19 0 false 0) else ((spec_P6Word.f k x1).bind fun t394 => ((impl_NearestWord.f k x5 t394).bind fun bt395 => ((spec_NearestWord.f k x5 t394).bind fun bt398 => (if bt395.2.2 = bt398.2.2 then (if bt395.1 = bt398.1 then (if bt395.2.1 = bt398.2.1 then (if (x5.length : Int) > 0 then (if 0 < (x5.length : Int) then (laws_FnVotes.j5 k x5 t394 bt395.2.2 bt398.1 bt398.2.1 ((bt395.2.2 == 0) != (((rdOf ByteArray.empty x5 0).size : Int) == (t394.size : Int)))) else (none)) else (laws_FnVotes.j5 k x5 t394 bt395.2.2 bt398.1 bt398.2.1 ((bt395.2.2 == 0) != false))) else (laws_FnVotes.j5 k x5 t394 bt395.2.2 bt398.1 bt398.2.1 true)) else (laws_FnVotes.j5 k x5 t394 bt395.2.2 bt398.1 bt398.2.1 true)) else (laws_FnVotes.j5 k x5 t394 bt395.2.2 bt398.1 bt398.2.1 true)))))
def laws_FnVotes.l1 : Nat → List Int → List ByteArray → ByteArray → Int → Int → List Int → Int → Int → Bool → Int → Option (Bool)
  | 0, _, _, _, _, _, _, _, _, _, _ => none
  | k + 1, x1, x5, x8, x12, x14, x17, x19, x20, x21, x22 => if x22 < (x5.length : Int) then (if 0 ≤ x19 then (if x19 < (x5.length : Int) then (if 0 ≤ x22 then ((impl_UnlikeBy.f k (rdOf ByteArray.empty x5 x19) (rdOf ByteArray.empty x5 x22)).bind fun bt384 => ((impl_UnlikeBy.f k (rdOf ByteArray.empty x5 x22) (rdOf ByteArray.empty x5 x19)).bind fun bt388 => (if bt384.2 = 0 then (if bt388.2 = 0 then (if bt384.1 = bt388.1 then (if ((bt384.1 == 0) != ((rdOf ByteArray.empty x5 x19).toList == (rdOf ByteArray.empty x5 x22).toList)) = true then (laws_FnVotes.j4 k x1 x5 x8 x12 x14 x17 x19 x20 x21 x22 bt384.1 true) else (if x19 = x22 then (laws_FnVotes.j4 k x1 x5 x8 x12 x14 x17 x19 x20 x21 x22 bt384.1 false) else (laws_FnVotes.j4 k x1 x5 x8 x12 x14 x17 x19 x20 x21 x22 bt384.1 (decide (bt384.1 < x12))))) else (laws_FnVotes.j4 k x1 x5 x8 x12 x14 x17 x19 x20 x21 x22 bt384.1 true)) else (laws_FnVotes.j4 k x1 x5 x8 x12 x14 x17 x19 x20 x21 x22 bt384.1 true)) else (laws_FnVotes.j4 k x1 x5 x8 x12 x14 x17 x19 x20 x21 x22 bt384.1 true)))) else (none)) else (none)) else (none)) else (if (wrap64 (2 * x20)) > (x5.length : Int) then (if 0 ≤ x19 then (if x19 < (x5.length : Int) then (if x8.toList = (rdOf ByteArray.empty x5 x19).toList then ((spec_HasNumber.f k x17 x19).bind fun t380 => (if (t380 == x21) = true then (some false) else (laws_FnVotes.l0 k x1 x5 x8 x12 x14 x17 (wrap64 (x19 + 1))))) else (some false)) else (none)) else (none)) else ((spec_HasNumber.f k x17 x19).bind fun t381 => (if (t381 == x21) = true then (some false) else (laws_FnVotes.l0 k x1 x5 x8 x12 x14 x17 (wrap64 (x19 + 1))))))
def laws_FnVotes.j4 : Nat → List Int → List ByteArray → ByteArray → Int → Int → List Int → Int → Int → Bool → Int → Int → Bool → Option (Bool)
  | 0, _, _, _, _, _, _, _, _, _, _, _, _ => none
  | k + 1, x1, x5, x8, x12, x14, x17, x19, x20, x21, x22, x23, x208 => if x208 = true then (some false) else (if x23 = 0 then ((spec_HasNumber.f k x17 x22).bind fun t392 => (if t392 = true then (if x22 < x19 then (if x23 < x14 then (laws_FnVotes.l1 k x1 x5 x8 x12 x14 x17 x19 (wrap64 (x20 + 1)) true (wrap64 (x22 + 1))) else (laws_FnVotes.l1 k x1 x5 x8 x12 x14 x17 x19 (wrap64 (x20 + 1)) x21 (wrap64 (x22 + 1)))) else (laws_FnVotes.l1 k x1 x5 x8 x12 x14 x17 x19 (wrap64 (x20 + 1)) x21 (wrap64 (x22 + 1)))) else (laws_FnVotes.l1 k x1 x5 x8 x12 x14 x17 x19 (wrap64 (x20 + 1)) x21 (wrap64 (x22 + 1))))) else ((spec_HasNumber.f k x17 x22).bind fun t393 => (if t393 = true then (if x22 < x19 then (if x23 < x14 then (laws_FnVotes.l1 k x1 x5 x8 x12 x14 x17 x19 x20 true (wrap64 (x22 + 1))) else (laws_FnVotes.l1 k x1 x5 x8 x12 x14 x17 x19 x20 x21 (wrap64 (x22 + 1)))) else (laws_FnVotes.l1 k x1 x5 x8 x12 x14 x17 x19 x20 x21 (wrap64 (x22 + 1)))) else (laws_FnVotes.l1 k x1 x5 x8 x12 x14 x17 x19 x20 x21 (wrap64 (x22 + 1))))))
def laws_FnVotes.j5 : Nat → List ByteArray → ByteArray → Int → Int → Int → Bool → Option (Bool)
  | 0, _, _, _, _, _, _ => none
  | k + 1, x5, x27, x30, x31, x32, x291 => if x291 = true then (some false) else (if x30 = 0 then (laws_FnVotes.l2 k x5 x27 x31 x32 0) else (some (x30 == 6)))
def laws_FnVotes.l2 : Nat → List ByteArray → ByteArray → Int → Int → Int → Option (Bool)
  | 0, _, _, _, _, _ => none
  | k + 1, x5, x27, x31, x32, x34 => if x34 < (x5.length : Int) then (if 0 ≤ x34 then ((impl_UnlikeBy.f k (rdOf ByteArray.empty x5 x34) x27).bind fun bt403 => (if bt403.2 = 0 then (if bt403.1 < x32 then (some false) else (if bt403.1 = x32 then (if x34 < x31 then (some false) else (laws_FnVotes.l2 k x5 x27 x31 x32 (wrap64 (x34 + 1)))) else (laws_FnVotes.l2 k x5 x27 x31 x32 (wrap64 (x34 + 1))))) else (some false))) else (none)) else (some true)
end
def laws_FnVotes.f (k : Nat) (l0 : List Int) (l1 : List Int) : Option (Bool) := (laws_f6big.f l0).bind fun t356 => (if t356 = true then (laws_FnVotes.j0 k l0 l1 true) else ((laws_f6big.f l1).bind fun t357 => (laws_FnVotes.j0 k l0 l1 t357)))
theorem laws_FnVotes.mono_l : ∀ k, (∀ y0 y1 y2, LeO (laws_FnVotes.j0 k y0 y1 y2) (laws_FnVotes.j0 (k + 1) y0 y1 y2)) ∧ (∀ y0 y1 y2 y3 y4 y5 y6, LeO (laws_FnVotes.j1 k y0 y1 y2 y3 y4 y5 y6) (laws_FnVotes.j1 (k + 1) y0 y1 y2 y3 y4 y5 y6)) ∧ (∀ y0 y1 y2 y3 y4 y5 y6, LeO (laws_FnVotes.l0 k y0 y1 y2 y3 y4 y5 y6) (laws_FnVotes.l0 (k + 1) y0 y1 y2 y3 y4 y5 y6)) ∧ (∀ y0 y1 y2 y3 y4 y5 y6 y7 y8 y9, LeO (laws_FnVotes.l1 k y0 y1 y2 y3 y4 y5 y6 y7 y8 y9) (laws_FnVotes.l1 (k + 1) y0 y1 y2 y3 y4 y5 y6 y7 y8 y9)) ∧ (∀ y0 y1 y2 y3 y4 y5 y6 y7 y8 y9 y10 y11, LeO (laws_FnVotes.j4 k y0 y1 y2 y3 y4 y5 y6 y7 y8 y9 y10 y11) (laws_FnVotes.j4 (k + 1) y0 y1 y2 y3 y4 y5 y6 y7 y8 y9 y10 y11)) ∧ (∀ y0 y1 y2 y3 y4 y5, LeO (laws_FnVotes.j5 k y0 y1 y2 y3 y4 y5) (laws_FnVotes.j5 (k + 1) y0 y1 y2 y3 y4 y5)) ∧ (∀ y0 y1 y2 y3 y4, LeO (laws_FnVotes.l2 k y0 y1 y2 y3 y4) (laws_FnVotes.l2 (k + 1) y0 y1 y2 y3 y4))
  | 0 => ⟨fun _ _ _ r h => by simp [laws_FnVotes.j0] at h, fun _ _ _ _ _ _ _ r h => by simp [laws_FnVotes.j1] at h, fun _ _ _ _ _ _ _ r h => by simp [laws_FnVotes.l0] at h, fun _ _ _ _ _ _ _ _ _ _ r h => by simp [laws_FnVotes.l1] at h, fun _ _ _ _ _ _ _ _ _ _ _ _ r h => by simp [laws_FnVotes.j4] at h, fun _ _ _ _ _ _ r h => by simp [laws_FnVotes.j5] at h, fun _ _ _ _ _ r h => by simp [laws_FnVotes.l2] at h⟩
  | k + 1 => by
    obtain ⟨ih0, ih1, ih2, ih3, ih4, ih5, ih6⟩ := laws_FnVotes.mono_l k
    refine ⟨?_, ?_, ?_, ?_, ?_, ?_, ?_⟩
    · intro y0 y1 y2
      unfold laws_FnVotes.j0
      repeat' first
      | (with_reducible exact ih0 _ _ _)
      | (with_reducible exact ih1 _ _ _ _ _ _ _)
      | (with_reducible exact ih2 _ _ _ _ _ _ _)
      | (with_reducible exact ih3 _ _ _ _ _ _ _ _ _ _)
      | (with_reducible exact ih4 _ _ _ _ _ _ _ _ _ _ _ _)
      | (with_reducible exact ih5 _ _ _ _ _ _)
      | (with_reducible exact ih6 _ _ _ _ _)
      | (with_reducible exact impl_ChooseApart.mono _ _ _)
      | (with_reducible exact impl_LeastUnlike.mono _ _)
      | (with_reducible exact impl_NearestWord.mono _ _ _)
      | (with_reducible exact impl_UnlikeBy.mono _ _ _)
      | (with_reducible exact impl_VoteWord.mono _ _)
      | (with_reducible exact spec_ChooseApart.mono _ _ _)
      | (with_reducible exact spec_HasNumber.mono _ _ _)
      | (with_reducible exact spec_LeastUnlike.mono _ _)
      | (with_reducible exact spec_NearestWord.mono _ _ _)
      | (with_reducible exact spec_P6Word.mono _ _)
      | (with_reducible exact spec_P6Words.mono _ _)
      | (with_reducible exact spec_SameNumbers.mono _ _ _)
      | (with_reducible exact spec_VoteWord.mono _ _)
      | (with_reducible exact LeO.refl _)
      | (with_reducible exact LeO.none _)
      | (with_reducible refine LeO.ite ?_ ?_)
      | (with_reducible refine LeO.bind ?_ (fun _ => ?_))
      | exact ih0 _ _ _
      | exact ih1 _ _ _ _ _ _ _
      | exact ih2 _ _ _ _ _ _ _
      | exact ih3 _ _ _ _ _ _ _ _ _ _
      | exact ih4 _ _ _ _ _ _ _ _ _ _ _ _
      | exact ih5 _ _ _ _ _ _
      | exact ih6 _ _ _ _ _
      | exact impl_ChooseApart.mono _ _ _
      | exact impl_LeastUnlike.mono _ _
      | exact impl_NearestWord.mono _ _ _
      | exact impl_UnlikeBy.mono _ _ _
      | exact impl_VoteWord.mono _ _
      | exact spec_ChooseApart.mono _ _ _
      | exact spec_HasNumber.mono _ _ _
      | exact spec_LeastUnlike.mono _ _
      | exact spec_NearestWord.mono _ _ _
      | exact spec_P6Word.mono _ _
      | exact spec_P6Words.mono _ _
      | exact spec_SameNumbers.mono _ _ _
      | exact spec_VoteWord.mono _ _
      | exact LeO.none _
      | refine LeO.ite ?_ ?_
      | refine LeO.bind ?_ (fun _ => ?_)
    · intro y0 y1 y2 y3 y4 y5 y6
      unfold laws_FnVotes.j1
      repeat' first
      | (with_reducible exact ih0 _ _ _)
      | (with_reducible exact ih1 _ _ _ _ _ _ _)
      | (with_reducible exact ih2 _ _ _ _ _ _ _)
      | (with_reducible exact ih3 _ _ _ _ _ _ _ _ _ _)
      | (with_reducible exact ih4 _ _ _ _ _ _ _ _ _ _ _ _)
      | (with_reducible exact ih5 _ _ _ _ _ _)
      | (with_reducible exact ih6 _ _ _ _ _)
      | (with_reducible exact impl_ChooseApart.mono _ _ _)
      | (with_reducible exact impl_LeastUnlike.mono _ _)
      | (with_reducible exact impl_NearestWord.mono _ _ _)
      | (with_reducible exact impl_UnlikeBy.mono _ _ _)
      | (with_reducible exact impl_VoteWord.mono _ _)
      | (with_reducible exact spec_ChooseApart.mono _ _ _)
      | (with_reducible exact spec_HasNumber.mono _ _ _)
      | (with_reducible exact spec_LeastUnlike.mono _ _)
      | (with_reducible exact spec_NearestWord.mono _ _ _)
      | (with_reducible exact spec_P6Word.mono _ _)
      | (with_reducible exact spec_P6Words.mono _ _)
      | (with_reducible exact spec_SameNumbers.mono _ _ _)
      | (with_reducible exact spec_VoteWord.mono _ _)
      | (with_reducible exact LeO.refl _)
      | (with_reducible exact LeO.none _)
      | (with_reducible refine LeO.ite ?_ ?_)
      | (with_reducible refine LeO.bind ?_ (fun _ => ?_))
      | exact ih0 _ _ _
      | exact ih1 _ _ _ _ _ _ _
      | exact ih2 _ _ _ _ _ _ _
      | exact ih3 _ _ _ _ _ _ _ _ _ _
      | exact ih4 _ _ _ _ _ _ _ _ _ _ _ _
      | exact ih5 _ _ _ _ _ _
      | exact ih6 _ _ _ _ _
      | exact impl_ChooseApart.mono _ _ _
      | exact impl_LeastUnlike.mono _ _
      | exact impl_NearestWord.mono _ _ _
      | exact impl_UnlikeBy.mono _ _ _
      | exact impl_VoteWord.mono _ _
      | exact spec_ChooseApart.mono _ _ _
      | exact spec_HasNumber.mono _ _ _
      | exact spec_LeastUnlike.mono _ _
      | exact spec_NearestWord.mono _ _ _
      | exact spec_P6Word.mono _ _
      | exact spec_P6Words.mono _ _
      | exact spec_SameNumbers.mono _ _ _
      | exact spec_VoteWord.mono _ _
      | exact LeO.none _
      | refine LeO.ite ?_ ?_
      | refine LeO.bind ?_ (fun _ => ?_)
    · intro y0 y1 y2 y3 y4 y5 y6
      unfold laws_FnVotes.l0
      repeat' first
      | (with_reducible exact ih0 _ _ _)
      | (with_reducible exact ih1 _ _ _ _ _ _ _)
      | (with_reducible exact ih2 _ _ _ _ _ _ _)
      | (with_reducible exact ih3 _ _ _ _ _ _ _ _ _ _)
      | (with_reducible exact ih4 _ _ _ _ _ _ _ _ _ _ _ _)
      | (with_reducible exact ih5 _ _ _ _ _ _)
      | (with_reducible exact ih6 _ _ _ _ _)
      | (with_reducible exact impl_ChooseApart.mono _ _ _)
      | (with_reducible exact impl_LeastUnlike.mono _ _)
      | (with_reducible exact impl_NearestWord.mono _ _ _)
      | (with_reducible exact impl_UnlikeBy.mono _ _ _)
      | (with_reducible exact impl_VoteWord.mono _ _)
      | (with_reducible exact spec_ChooseApart.mono _ _ _)
      | (with_reducible exact spec_HasNumber.mono _ _ _)
      | (with_reducible exact spec_LeastUnlike.mono _ _)
      | (with_reducible exact spec_NearestWord.mono _ _ _)
      | (with_reducible exact spec_P6Word.mono _ _)
      | (with_reducible exact spec_P6Words.mono _ _)
      | (with_reducible exact spec_SameNumbers.mono _ _ _)
      | (with_reducible exact spec_VoteWord.mono _ _)
      | (with_reducible exact LeO.refl _)
      | (with_reducible exact LeO.none _)
      | (with_reducible refine LeO.ite ?_ ?_)
      | (with_reducible refine LeO.bind ?_ (fun _ => ?_))
      | exact ih0 _ _ _
      | exact ih1 _ _ _ _ _ _ _
      | exact ih2 _ _ _ _ _ _ _
      | exact ih3 _ _ _ _ _ _ _ _ _ _
      | exact ih4 _ _ _ _ _ _ _ _ _ _ _ _
      | exact ih5 _ _ _ _ _ _
      | exact ih6 _ _ _ _ _
      | exact impl_ChooseApart.mono _ _ _
      | exact impl_LeastUnlike.mono _ _
      | exact impl_NearestWord.mono _ _ _
      | exact impl_UnlikeBy.mono _ _ _
      | exact impl_VoteWord.mono _ _
      | exact spec_ChooseApart.mono _ _ _
      | exact spec_HasNumber.mono _ _ _
      | exact spec_LeastUnlike.mono _ _
      | exact spec_NearestWord.mono _ _ _
      | exact spec_P6Word.mono _ _
      | exact spec_P6Words.mono _ _
      | exact spec_SameNumbers.mono _ _ _
      | exact spec_VoteWord.mono _ _
      | exact LeO.none _
      | refine LeO.ite ?_ ?_
      | refine LeO.bind ?_ (fun _ => ?_)
    · intro y0 y1 y2 y3 y4 y5 y6 y7 y8 y9
      unfold laws_FnVotes.l1
      repeat' first
      | (with_reducible exact ih0 _ _ _)
      | (with_reducible exact ih1 _ _ _ _ _ _ _)
      | (with_reducible exact ih2 _ _ _ _ _ _ _)
      | (with_reducible exact ih3 _ _ _ _ _ _ _ _ _ _)
      | (with_reducible exact ih4 _ _ _ _ _ _ _ _ _ _ _ _)
      | (with_reducible exact ih5 _ _ _ _ _ _)
      | (with_reducible exact ih6 _ _ _ _ _)
      | (with_reducible exact impl_ChooseApart.mono _ _ _)
      | (with_reducible exact impl_LeastUnlike.mono _ _)
      | (with_reducible exact impl_NearestWord.mono _ _ _)
      | (with_reducible exact impl_UnlikeBy.mono _ _ _)
      | (with_reducible exact impl_VoteWord.mono _ _)
      | (with_reducible exact spec_ChooseApart.mono _ _ _)
      | (with_reducible exact spec_HasNumber.mono _ _ _)
      | (with_reducible exact spec_LeastUnlike.mono _ _)
      | (with_reducible exact spec_NearestWord.mono _ _ _)
      | (with_reducible exact spec_P6Word.mono _ _)
      | (with_reducible exact spec_P6Words.mono _ _)
      | (with_reducible exact spec_SameNumbers.mono _ _ _)
      | (with_reducible exact spec_VoteWord.mono _ _)
      | (with_reducible exact LeO.refl _)
      | (with_reducible exact LeO.none _)
      | (with_reducible refine LeO.ite ?_ ?_)
      | (with_reducible refine LeO.bind ?_ (fun _ => ?_))
      | exact ih0 _ _ _
      | exact ih1 _ _ _ _ _ _ _
      | exact ih2 _ _ _ _ _ _ _
      | exact ih3 _ _ _ _ _ _ _ _ _ _
      | exact ih4 _ _ _ _ _ _ _ _ _ _ _ _
      | exact ih5 _ _ _ _ _ _
      | exact ih6 _ _ _ _ _
      | exact impl_ChooseApart.mono _ _ _
      | exact impl_LeastUnlike.mono _ _
      | exact impl_NearestWord.mono _ _ _
      | exact impl_UnlikeBy.mono _ _ _
      | exact impl_VoteWord.mono _ _
      | exact spec_ChooseApart.mono _ _ _
      | exact spec_HasNumber.mono _ _ _
      | exact spec_LeastUnlike.mono _ _
      | exact spec_NearestWord.mono _ _ _
      | exact spec_P6Word.mono _ _
      | exact spec_P6Words.mono _ _
      | exact spec_SameNumbers.mono _ _ _
      | exact spec_VoteWord.mono _ _
      | exact LeO.none _
      | refine LeO.ite ?_ ?_
      | refine LeO.bind ?_ (fun _ => ?_)
    · intro y0 y1 y2 y3 y4 y5 y6 y7 y8 y9 y10 y11
      unfold laws_FnVotes.j4
      repeat' first
      | (with_reducible exact ih0 _ _ _)
      | (with_reducible exact ih1 _ _ _ _ _ _ _)
      | (with_reducible exact ih2 _ _ _ _ _ _ _)
      | (with_reducible exact ih3 _ _ _ _ _ _ _ _ _ _)
      | (with_reducible exact ih4 _ _ _ _ _ _ _ _ _ _ _ _)
      | (with_reducible exact ih5 _ _ _ _ _ _)
      | (with_reducible exact ih6 _ _ _ _ _)
      | (with_reducible exact impl_ChooseApart.mono _ _ _)
      | (with_reducible exact impl_LeastUnlike.mono _ _)
      | (with_reducible exact impl_NearestWord.mono _ _ _)
      | (with_reducible exact impl_UnlikeBy.mono _ _ _)
      | (with_reducible exact impl_VoteWord.mono _ _)
      | (with_reducible exact spec_ChooseApart.mono _ _ _)
      | (with_reducible exact spec_HasNumber.mono _ _ _)
      | (with_reducible exact spec_LeastUnlike.mono _ _)
      | (with_reducible exact spec_NearestWord.mono _ _ _)
      | (with_reducible exact spec_P6Word.mono _ _)
      | (with_reducible exact spec_P6Words.mono _ _)
      | (with_reducible exact spec_SameNumbers.mono _ _ _)
      | (with_reducible exact spec_VoteWord.mono _ _)
      | (with_reducible exact LeO.refl _)
      | (with_reducible exact LeO.none _)
      | (with_reducible refine LeO.ite ?_ ?_)
      | (with_reducible refine LeO.bind ?_ (fun _ => ?_))
      | exact ih0 _ _ _
      | exact ih1 _ _ _ _ _ _ _
      | exact ih2 _ _ _ _ _ _ _
      | exact ih3 _ _ _ _ _ _ _ _ _ _
      | exact ih4 _ _ _ _ _ _ _ _ _ _ _ _
      | exact ih5 _ _ _ _ _ _
      | exact ih6 _ _ _ _ _
      | exact impl_ChooseApart.mono _ _ _
      | exact impl_LeastUnlike.mono _ _
      | exact impl_NearestWord.mono _ _ _
      | exact impl_UnlikeBy.mono _ _ _
      | exact impl_VoteWord.mono _ _
      | exact spec_ChooseApart.mono _ _ _
      | exact spec_HasNumber.mono _ _ _
      | exact spec_LeastUnlike.mono _ _
      | exact spec_NearestWord.mono _ _ _
      | exact spec_P6Word.mono _ _
      | exact spec_P6Words.mono _ _
      | exact spec_SameNumbers.mono _ _ _
      | exact spec_VoteWord.mono _ _
      | exact LeO.none _
      | refine LeO.ite ?_ ?_
      | refine LeO.bind ?_ (fun _ => ?_)
    · intro y0 y1 y2 y3 y4 y5
      unfold laws_FnVotes.j5
      repeat' first
      | (with_reducible exact ih0 _ _ _)
      | (with_reducible exact ih1 _ _ _ _ _ _ _)
      | (with_reducible exact ih2 _ _ _ _ _ _ _)
      | (with_reducible exact ih3 _ _ _ _ _ _ _ _ _ _)
      | (with_reducible exact ih4 _ _ _ _ _ _ _ _ _ _ _ _)
      | (with_reducible exact ih5 _ _ _ _ _ _)
      | (with_reducible exact ih6 _ _ _ _ _)
      | (with_reducible exact impl_ChooseApart.mono _ _ _)
      | (with_reducible exact impl_LeastUnlike.mono _ _)
      | (with_reducible exact impl_NearestWord.mono _ _ _)
      | (with_reducible exact impl_UnlikeBy.mono _ _ _)
      | (with_reducible exact impl_VoteWord.mono _ _)
      | (with_reducible exact spec_ChooseApart.mono _ _ _)
      | (with_reducible exact spec_HasNumber.mono _ _ _)
      | (with_reducible exact spec_LeastUnlike.mono _ _)
      | (with_reducible exact spec_NearestWord.mono _ _ _)
      | (with_reducible exact spec_P6Word.mono _ _)
      | (with_reducible exact spec_P6Words.mono _ _)
      | (with_reducible exact spec_SameNumbers.mono _ _ _)
      | (with_reducible exact spec_VoteWord.mono _ _)
      | (with_reducible exact LeO.refl _)
      | (with_reducible exact LeO.none _)
      | (with_reducible refine LeO.ite ?_ ?_)
      | (with_reducible refine LeO.bind ?_ (fun _ => ?_))
      | exact ih0 _ _ _
      | exact ih1 _ _ _ _ _ _ _
      | exact ih2 _ _ _ _ _ _ _
      | exact ih3 _ _ _ _ _ _ _ _ _ _
      | exact ih4 _ _ _ _ _ _ _ _ _ _ _ _
      | exact ih5 _ _ _ _ _ _
      | exact ih6 _ _ _ _ _
      | exact impl_ChooseApart.mono _ _ _
      | exact impl_LeastUnlike.mono _ _
      | exact impl_NearestWord.mono _ _ _
      | exact impl_UnlikeBy.mono _ _ _
      | exact impl_VoteWord.mono _ _
      | exact spec_ChooseApart.mono _ _ _
      | exact spec_HasNumber.mono _ _ _
      | exact spec_LeastUnlike.mono _ _
      | exact spec_NearestWord.mono _ _ _
      | exact spec_P6Word.mono _ _
      | exact spec_P6Words.mono _ _
      | exact spec_SameNumbers.mono _ _ _
      | exact spec_VoteWord.mono _ _
      | exact LeO.none _
      | refine LeO.ite ?_ ?_
      | refine LeO.bind ?_ (fun _ => ?_)
    · intro y0 y1 y2 y3 y4
      unfold laws_FnVotes.l2
      repeat' first
      | (with_reducible exact ih0 _ _ _)
      | (with_reducible exact ih1 _ _ _ _ _ _ _)
      | (with_reducible exact ih2 _ _ _ _ _ _ _)
      | (with_reducible exact ih3 _ _ _ _ _ _ _ _ _ _)
      | (with_reducible exact ih4 _ _ _ _ _ _ _ _ _ _ _ _)
      | (with_reducible exact ih5 _ _ _ _ _ _)
      | (with_reducible exact ih6 _ _ _ _ _)
      | (with_reducible exact impl_ChooseApart.mono _ _ _)
      | (with_reducible exact impl_LeastUnlike.mono _ _)
      | (with_reducible exact impl_NearestWord.mono _ _ _)
      | (with_reducible exact impl_UnlikeBy.mono _ _ _)
      | (with_reducible exact impl_VoteWord.mono _ _)
      | (with_reducible exact spec_ChooseApart.mono _ _ _)
      | (with_reducible exact spec_HasNumber.mono _ _ _)
      | (with_reducible exact spec_LeastUnlike.mono _ _)
      | (with_reducible exact spec_NearestWord.mono _ _ _)
      | (with_reducible exact spec_P6Word.mono _ _)
      | (with_reducible exact spec_P6Words.mono _ _)
      | (with_reducible exact spec_SameNumbers.mono _ _ _)
      | (with_reducible exact spec_VoteWord.mono _ _)
      | (with_reducible exact LeO.refl _)
      | (with_reducible exact LeO.none _)
      | (with_reducible refine LeO.ite ?_ ?_)
      | (with_reducible refine LeO.bind ?_ (fun _ => ?_))
      | exact ih0 _ _ _
      | exact ih1 _ _ _ _ _ _ _
      | exact ih2 _ _ _ _ _ _ _
      | exact ih3 _ _ _ _ _ _ _ _ _ _
      | exact ih4 _ _ _ _ _ _ _ _ _ _ _ _
      | exact ih5 _ _ _ _ _ _
      | exact ih6 _ _ _ _ _
      | exact impl_ChooseApart.mono _ _ _
      | exact impl_LeastUnlike.mono _ _
      | exact impl_NearestWord.mono _ _ _
      | exact impl_UnlikeBy.mono _ _ _
      | exact impl_VoteWord.mono _ _
      | exact spec_ChooseApart.mono _ _ _
      | exact spec_HasNumber.mono _ _ _
      | exact spec_LeastUnlike.mono _ _
      | exact spec_NearestWord.mono _ _ _
      | exact spec_P6Word.mono _ _
      | exact spec_P6Words.mono _ _
      | exact spec_SameNumbers.mono _ _ _
      | exact spec_VoteWord.mono _ _
      | exact LeO.none _
      | refine LeO.ite ?_ ?_
      | refine LeO.bind ?_ (fun _ => ?_)
theorem laws_FnVotes.mono : ∀ a0 a1 k, LeO (laws_FnVotes.f k a0 a1) (laws_FnVotes.f (k + 1) a0 a1) := by
  intro a0 a1 k
  obtain ⟨ih0, ih1, ih2, ih3, ih4, ih5, ih6⟩ := laws_FnVotes.mono_l k
  unfold laws_FnVotes.f
  repeat' first
      | (with_reducible exact ih0 _ _ _)
      | (with_reducible exact ih1 _ _ _ _ _ _ _)
      | (with_reducible exact ih2 _ _ _ _ _ _ _)
      | (with_reducible exact ih3 _ _ _ _ _ _ _ _ _ _)
      | (with_reducible exact ih4 _ _ _ _ _ _ _ _ _ _ _ _)
      | (with_reducible exact ih5 _ _ _ _ _ _)
      | (with_reducible exact ih6 _ _ _ _ _)
      | (with_reducible exact impl_ChooseApart.mono _ _ _)
      | (with_reducible exact impl_LeastUnlike.mono _ _)
      | (with_reducible exact impl_NearestWord.mono _ _ _)
      | (with_reducible exact impl_UnlikeBy.mono _ _ _)
      | (with_reducible exact impl_VoteWord.mono _ _)
      | (with_reducible exact spec_ChooseApart.mono _ _ _)
      | (with_reducible exact spec_HasNumber.mono _ _ _)
      | (with_reducible exact spec_LeastUnlike.mono _ _)
      | (with_reducible exact spec_NearestWord.mono _ _ _)
      | (with_reducible exact spec_P6Word.mono _ _)
      | (with_reducible exact spec_P6Words.mono _ _)
      | (with_reducible exact spec_SameNumbers.mono _ _ _)
      | (with_reducible exact spec_VoteWord.mono _ _)
      | (with_reducible exact LeO.refl _)
      | (with_reducible exact LeO.none _)
      | (with_reducible refine LeO.ite ?_ ?_)
      | (with_reducible refine LeO.bind ?_ (fun _ => ?_))
      | exact ih0 _ _ _
      | exact ih1 _ _ _ _ _ _ _
      | exact ih2 _ _ _ _ _ _ _
      | exact ih3 _ _ _ _ _ _ _ _ _ _
      | exact ih4 _ _ _ _ _ _ _ _ _ _ _ _
      | exact ih5 _ _ _ _ _ _
      | exact ih6 _ _ _ _ _
      | exact impl_ChooseApart.mono _ _ _
      | exact impl_LeastUnlike.mono _ _
      | exact impl_NearestWord.mono _ _ _
      | exact impl_UnlikeBy.mono _ _ _
      | exact impl_VoteWord.mono _ _
      | exact spec_ChooseApart.mono _ _ _
      | exact spec_HasNumber.mono _ _ _
      | exact spec_LeastUnlike.mono _ _
      | exact spec_NearestWord.mono _ _ _
      | exact spec_P6Word.mono _ _
      | exact spec_P6Words.mono _ _
      | exact spec_SameNumbers.mono _ _ _
      | exact spec_VoteWord.mono _ _
      | exact LeO.none _
      | refine LeO.ite ?_ ?_
      | refine LeO.bind ?_ (fun _ => ?_)
set_option maxHeartbeats 8000000 in
set_option maxRecDepth 100000 in
theorem laws_FnVotes.calls (k : Nat) (A0 : Option Addr) (c0 : Nat) (l0 : List Int) (A1 : Option Addr) (c1 : Nat) (l1 : List Int) (r : Bool) (w : World) (hr0 : Kd.C (Kd.int .u8) w A0 l0.length l0) (hc0 : l0.length ≤ c0) (hr1 : Kd.C (Kd.int .u8) w A1 l1.length l1) (hc1 : l1.length ≤ c1) (hT : r = true) (h : laws_FnVotes.f k l0 l1 = some r) :
    Calls Try.prog 5 #[.slice A0 l0.length c0, .slice A1 l1.length c1] w fun e w' => e = .returned (.bool r) ∧ Below w.heap.size w w' := by
  have HR0 := Aside0.mk hr0
  have HC0 := Aside0.mk hc0
  clear hr0 hc0
  have HR1 := Aside0.mk hr1
  have HC1 := Aside0.mk hc1
  clear hr1 hc1
  have HT := Aside0.mk hT
  clear hT
  have HB := Aside0.mk (Below.refl w.heap.size w)
  have H : ((laws_f6big.f l0).bind fun t356 => (if t356 = true then (laws_FnVotes.j0 k l0 l1 true) else ((laws_f6big.f l1).bind fun t357 => (laws_FnVotes.j0 k l0 l1 t357)))) = some r := h
  clear h
  have HC3 := Aside0.mk H
  clear H
  go_enter Try.func5, Try.ntmps5
  go_upto_region 1 with (fail)
  repeat (go_quiet (fail); go_upto_region 1 with (fail))
  go_cut [42] (fun v42 wc => ∃ (kq : Nat) (x42_2 : Bool), v42 = .bool x42_2 ∧ Aside0 (laws_FnVotes.j0 kq l0 l1 x42_2 = some r) ∧ Aside0 (kq ≤ k) ∧ Aside0 (Below w.heap.size w wc))
  case first =>
    as_aux_lemma =>
    have H := HC3.out
    clear HC3
    replace H := Option.bind_eq_some_iff.mp H
    obtain ⟨t356, A40, H⟩ := H
    replace H : (if t356 = true then (laws_FnVotes.j0 k l0 l1 true) else ((laws_f6big.f l1).bind fun t357 => (laws_FnVotes.j0 k l0 l1 t357))) = some r := H
    have A4 := Aside0.mk A40
    clear A40
    by_cases c5 : t356 = true
    · subst c5
      have H1 : (laws_FnVotes.j0 k l0 l1 true) = some r := by rw [if_pos rfl] at H; exact H
      clear H
      have H := H1
      clear H1
      have H' := Aside0.mk H
      clear H
      go_wp2_with (first | (go_at_call 17; (with_reducible refine (laws_f6big.calls _ _ l0 true _ ?side1 ?side2 A4.out).mono ?_); (case side1 => repeat (first | exact (Kd.C_below HR0.out HB.out) | (with_reducible refine Kd.C_alloc ?_ _) | (with_reducible refine Kd.C_drewN ?_ _) | (with_reducible refine Kd.C_drew ?_))); (case side2 => exact HC0.out); rintro e w' ⟨rfl, ⟨nd, rfl⟩⟩; (try first | exact ⟨rfl, _, World.drewN_drewN _ _ _⟩ | exact ⟨rfl, _, Eq.trans (World.drewN_drewN _ _ _) (congrArg (World.drewN _) (Nat.add_assoc _ _ _))⟩)))
      repeat (go_quiet (first | (go_at_call 17; (with_reducible refine (laws_f6big.calls _ _ l0 true _ ?side1 ?side2 A4.out).mono ?_); (case side1 => repeat (first | exact (Kd.C_below HR0.out HB.out) | (with_reducible refine Kd.C_alloc ?_ _) | (with_reducible refine Kd.C_drewN ?_ _) | (with_reducible refine Kd.C_drew ?_))); (case side2 => exact HC0.out); rintro e w' ⟨rfl, ⟨nd, rfl⟩⟩; (try first | exact ⟨rfl, _, World.drewN_drewN _ _ _⟩ | exact ⟨rfl, _, Eq.trans (World.drewN_drewN _ _ _) (congrArg (World.drewN _) (Nat.add_assoc _ _ _))⟩))); try go_wp2_with (first | (go_at_call 17; (with_reducible refine (laws_f6big.calls _ _ l0 true _ ?side1 ?side2 A4.out).mono ?_); (case side1 => repeat (first | exact (Kd.C_below HR0.out HB.out) | (with_reducible refine Kd.C_alloc ?_ _) | (with_reducible refine Kd.C_drewN ?_ _) | (with_reducible refine Kd.C_drew ?_))); (case side2 => exact HC0.out); rintro e w' ⟨rfl, ⟨nd, rfl⟩⟩; (try first | exact ⟨rfl, _, World.drewN_drewN _ _ _⟩ | exact ⟨rfl, _, Eq.trans (World.drewN_drewN _ _ _) (congrArg (World.drewN _) (Nat.add_assoc _ _ _))⟩))))
      go_meet
      case rel => exact ⟨_, (true), (by first | rfl | (simp; done) | (simp [*]; done)), H', ⟨by first | omega | exact Nat.le_refl _⟩, ⟨by repeat (first | (with_reducible first | exact HB.out | apply below_alloc | apply pw_below_drewN | apply below_drew1) | exact HB.out)⟩⟩
    · replace c5 := Bool.eq_false_iff.mpr c5
      subst c5
      have H1 : ((laws_f6big.f l1).bind fun t357 => (laws_FnVotes.j0 k l0 l1 t357)) = some r := by rw [if_neg (show ¬ (false = true) by decide)] at H; exact H
      clear H
      have H := H1
      clear H1
      replace H := Option.bind_eq_some_iff.mp H
      obtain ⟨t357, A60, H⟩ := H
      replace H : (laws_FnVotes.j0 k l0 l1 t357) = some r := H
      have A6 := Aside0.mk A60
      clear A60
      have H' := Aside0.mk H
      clear H
      go_wp2_with (first | (go_at_call 17; (with_reducible refine (laws_f6big.calls _ _ l0 false _ ?side1 ?side2 A4.out).mono ?_); (case side1 => repeat (first | exact (Kd.C_below HR0.out HB.out) | (with_reducible refine Kd.C_alloc ?_ _) | (with_reducible refine Kd.C_drewN ?_ _) | (with_reducible refine Kd.C_drew ?_))); (case side2 => exact HC0.out); rintro e w' ⟨rfl, ⟨nd, rfl⟩⟩; (try first | exact ⟨rfl, _, World.drewN_drewN _ _ _⟩ | exact ⟨rfl, _, Eq.trans (World.drewN_drewN _ _ _) (congrArg (World.drewN _) (Nat.add_assoc _ _ _))⟩)) | (go_at_call 17; (with_reducible refine (laws_f6big.calls _ _ l1 t357 _ ?side1 ?side2 A6.out).mono ?_); (case side1 => repeat (first | exact (Kd.C_below HR1.out (by repeat (first | (with_reducible first | exact HB.out | apply below_alloc | apply pw_below_drewN | apply below_drew1) | exact HB.out))) | (with_reducible refine Kd.C_alloc ?_ _) | (with_reducible refine Kd.C_drewN ?_ _) | (with_reducible refine Kd.C_drew ?_))); (case side2 => exact HC1.out); rintro e w' ⟨rfl, ⟨nd, rfl⟩⟩; (try first | exact ⟨rfl, _, World.drewN_drewN _ _ _⟩ | exact ⟨rfl, _, Eq.trans (World.drewN_drewN _ _ _) (congrArg (World.drewN _) (Nat.add_assoc _ _ _))⟩)))
      repeat (go_quiet (first | (go_at_call 17; (with_reducible refine (laws_f6big.calls _ _ l0 false _ ?side1 ?side2 A4.out).mono ?_); (case side1 => repeat (first | exact (Kd.C_below HR0.out HB.out) | (with_reducible refine Kd.C_alloc ?_ _) | (with_reducible refine Kd.C_drewN ?_ _) | (with_reducible refine Kd.C_drew ?_))); (case side2 => exact HC0.out); rintro e w' ⟨rfl, ⟨nd, rfl⟩⟩; (try first | exact ⟨rfl, _, World.drewN_drewN _ _ _⟩ | exact ⟨rfl, _, Eq.trans (World.drewN_drewN _ _ _) (congrArg (World.drewN _) (Nat.add_assoc _ _ _))⟩)) | (go_at_call 17; (with_reducible refine (laws_f6big.calls _ _ l1 t357 _ ?side1 ?side2 A6.out).mono ?_); (case side1 => repeat (first | exact (Kd.C_below HR1.out (by repeat (first | (with_reducible first | exact HB.out | apply below_alloc | apply pw_below_drewN | apply below_drew1) | exact HB.out))) | (with_reducible refine Kd.C_alloc ?_ _) | (with_reducible refine Kd.C_drewN ?_ _) | (with_reducible refine Kd.C_drew ?_))); (case side2 => exact HC1.out); rintro e w' ⟨rfl, ⟨nd, rfl⟩⟩; (try first | exact ⟨rfl, _, World.drewN_drewN _ _ _⟩ | exact ⟨rfl, _, Eq.trans (World.drewN_drewN _ _ _) (congrArg (World.drewN _) (Nat.add_assoc _ _ _))⟩))); try go_wp2_with (first | (go_at_call 17; (with_reducible refine (laws_f6big.calls _ _ l0 false _ ?side1 ?side2 A4.out).mono ?_); (case side1 => repeat (first | exact (Kd.C_below HR0.out HB.out) | (with_reducible refine Kd.C_alloc ?_ _) | (with_reducible refine Kd.C_drewN ?_ _) | (with_reducible refine Kd.C_drew ?_))); (case side2 => exact HC0.out); rintro e w' ⟨rfl, ⟨nd, rfl⟩⟩; (try first | exact ⟨rfl, _, World.drewN_drewN _ _ _⟩ | exact ⟨rfl, _, Eq.trans (World.drewN_drewN _ _ _) (congrArg (World.drewN _) (Nat.add_assoc _ _ _))⟩)) | (go_at_call 17; (with_reducible refine (laws_f6big.calls _ _ l1 t357 _ ?side1 ?side2 A6.out).mono ?_); (case side1 => repeat (first | exact (Kd.C_below HR1.out (by repeat (first | (with_reducible first | exact HB.out | apply below_alloc | apply pw_below_drewN | apply below_drew1) | exact HB.out))) | (with_reducible refine Kd.C_alloc ?_ _) | (with_reducible refine Kd.C_drewN ?_ _) | (with_reducible refine Kd.C_drew ?_))); (case side2 => exact HC1.out); rintro e w' ⟨rfl, ⟨nd, rfl⟩⟩; (try first | exact ⟨rfl, _, World.drewN_drewN _ _ _⟩ | exact ⟨rfl, _, Eq.trans (World.drewN_drewN _ _ _) (congrArg (World.drewN _) (Nat.add_assoc _ _ _))⟩))))
      go_meet
      case rel => exact ⟨_, (t357), (by first | rfl | (simp; done) | (simp [*]; done)), H', ⟨by first | omega | exact Nat.le_refl _⟩, ⟨by repeat (first | (with_reducible first | exact HB.out | apply below_alloc | apply pw_below_drewN | apply below_drew1) | exact HB.out)⟩⟩
  case rest =>
    as_aux_lemma =>
    clear HC3
    try clear c1
    try clear p2
    try clear c5
    obtain ⟨kq, x42_2, rfl, HA, HJ2, HB⟩ := hcut
    cases kq with
    | zero => exact absurd HA.out (by simp [laws_FnVotes.j0])
    | succ kj2 =>
      have H := HA.out
      clear HA
      simp only [laws_FnVotes.j0] at H
      by_cases c7 : x42_2 = true
      · subst c7
        have H1 : (some true) = some r := by rw [if_pos rfl] at H; exact H
        clear H
        have H := H1
        clear H1
        obtain rfl := Option.some.inj H
        go_wp2
        repeat (go_quiet (fail); try go_wp2)
        go_ret
        exact ⟨by first | rfl | (simp [errW_none, errW_some] <;> rfl) | (simp [*, errW_none, errW_some] <;> rfl), by repeat (first | (with_reducible first | exact HB.out | apply below_alloc | apply pw_below_drewN | apply below_drew1) | exact HB.out)⟩
      · replace c7 := Bool.eq_false_iff.mpr c7
        subst c7
        have H1 : ((spec_P6Words.f kj2 l0).bind fun t358 => ((impl_VoteWord.f kj2 t358).bind fun bt361 => ((spec_VoteWord.f kj2 t358).bind fun bt363 => ((impl_LeastUnlike.f kj2 t358).bind fun bt365 => ((spec_LeastUnlike.f kj2 t358).bind fun bt367 => ((spec_P6Pick.f l1 5).bind fun t369 => ((impl_ChooseApart.f kj2 t358 t369).bind fun bt370 => ((spec_ChooseApart.f kj2 t358 t369).bind fun bt374 => (if bt361.2 = bt363.2 then (if bt361.1.toList = bt363.1.toList then (if ((bt361.2 == 0) != (decide ((t358.length : Int) > 0))) = true then (laws_FnVotes.j1 kj2 l1 t358 bt363.1 bt367.1 t369 bt374.1 true) else (if bt365.2 = bt367.2 then (if bt365.1 = bt367.1 then (if ((bt365.2 == 0) != (decide ((t358.length : Int) > 1))) = true then (laws_FnVotes.j1 kj2 l1 t358 bt363.1 bt367.1 t369 bt374.1 true) else (if bt370.2 = bt374.2 then (if bt370.2 = 0 then ((spec_SameNumbers.f kj2 bt370.1 bt374.1).bind fun t378 => (if t378 = true then (if (t358.length : Int) > 0 then (laws_FnVotes.j1 kj2 l1 t358 bt363.1 bt367.1 t369 bt374.1 ((bt374.1.length : Int) == 0)) else (laws_FnVotes.j1 kj2 l1 t358 bt363.1 bt367.1 t369 bt374.1 false)) else (laws_FnVotes.j1 kj2 l1 t358 bt363.1 bt367.1 t369 bt374.1 true))) else (laws_FnVotes.j1 kj2 l1 t358 bt363.1 bt367.1 t369 bt374.1 true)) else (laws_FnVotes.j1 kj2 l1 t358 bt363.1 bt367.1 t369 bt374.1 true))) else (laws_FnVotes.j1 kj2 l1 t358 bt363.1 bt367.1 t369 bt374.1 true)) else (laws_FnVotes.j1 kj2 l1 t358 bt363.1 bt367.1 t369 bt374.1 true))) else (laws_FnVotes.j1 kj2 l1 t358 bt363.1 bt367.1 t369 bt374.1 true)) else (laws_FnVotes.j1 kj2 l1 t358 bt363.1 bt367.1 t369 bt374.1 true)))))))))) = some r := by rw [if_neg (show ¬ (false = true) by decide)] at H; exact H
        clear H
        have H := H1
        clear H1
        replace H := Option.bind_eq_some_iff.mp H
        obtain ⟨t358, A80, H⟩ := H
        replace H : ((impl_VoteWord.f kj2 t358).bind fun bt361 => ((spec_VoteWord.f kj2 t358).bind fun bt363 => ((impl_LeastUnlike.f kj2 t358).bind fun bt365 => ((spec_LeastUnlike.f kj2 t358).bind fun bt367 => ((spec_P6Pick.f l1 5).bind fun t369 => ((impl_ChooseApart.f kj2 t358 t369).bind fun bt370 => ((spec_ChooseApart.f kj2 t358 t369).bind fun bt374 => (if bt361.2 = bt363.2 then (if bt361.1.toList = bt363.1.toList then (if ((bt361.2 == 0) != (decide ((t358.length : Int) > 0))) = true then (laws_FnVotes.j1 kj2 l1 t358 bt363.1 bt367.1 t369 bt374.1 true) else (if bt365.2 = bt367.2 then (if bt365.1 = bt367.1 then (if ((bt365.2 == 0) != (decide ((t358.length : Int) > 1))) = true then (laws_FnVotes.j1 kj2 l1 t358 bt363.1 bt367.1 t369 bt374.1 true) else (if bt370.2 = bt374.2 then (if bt370.2 = 0 then ((spec_SameNumbers.f kj2 bt370.1 bt374.1).bind fun t378 => (if t378 = true then (if (t358.length : Int) > 0 then (laws_FnVotes.j1 kj2 l1 t358 bt363.1 bt367.1 t369 bt374.1 ((bt374.1.length : Int) == 0)) else (laws_FnVotes.j1 kj2 l1 t358 bt363.1 bt367.1 t369 bt374.1 false)) else (laws_FnVotes.j1 kj2 l1 t358 bt363.1 bt367.1 t369 bt374.1 true))) else (laws_FnVotes.j1 kj2 l1 t358 bt363.1 bt367.1 t369 bt374.1 true)) else (laws_FnVotes.j1 kj2 l1 t358 bt363.1 bt367.1 t369 bt374.1 true))) else (laws_FnVotes.j1 kj2 l1 t358 bt363.1 bt367.1 t369 bt374.1 true)) else (laws_FnVotes.j1 kj2 l1 t358 bt363.1 bt367.1 t369 bt374.1 true))) else (laws_FnVotes.j1 kj2 l1 t358 bt363.1 bt367.1 t369 bt374.1 true)) else (laws_FnVotes.j1 kj2 l1 t358 bt363.1 bt367.1 t369 bt374.1 true))))))))) = some r := H
        have A8 := Aside0.mk A80
        clear A80
        replace H := Option.bind_eq_some_iff.mp H
        obtain ⟨⟨t361, t362⟩, A90, H⟩ := H
        replace H : ((spec_VoteWord.f kj2 t358).bind fun bt363 => ((impl_LeastUnlike.f kj2 t358).bind fun bt365 => ((spec_LeastUnlike.f kj2 t358).bind fun bt367 => ((spec_P6Pick.f l1 5).bind fun t369 => ((impl_ChooseApart.f kj2 t358 t369).bind fun bt370 => ((spec_ChooseApart.f kj2 t358 t369).bind fun bt374 => (if t362 = bt363.2 then (if t361.toList = bt363.1.toList then (if ((t362 == 0) != (decide ((t358.length : Int) > 0))) = true then (laws_FnVotes.j1 kj2 l1 t358 bt363.1 bt367.1 t369 bt374.1 true) else (if bt365.2 = bt367.2 then (if bt365.1 = bt367.1 then (if ((bt365.2 == 0) != (decide ((t358.length : Int) > 1))) = true then (laws_FnVotes.j1 kj2 l1 t358 bt363.1 bt367.1 t369 bt374.1 true) else (if bt370.2 = bt374.2 then (if bt370.2 = 0 then ((spec_SameNumbers.f kj2 bt370.1 bt374.1).bind fun t378 => (if t378 = true then (if (t358.length : Int) > 0 then (laws_FnVotes.j1 kj2 l1 t358 bt363.1 bt367.1 t369 bt374.1 ((bt374.1.length : Int) == 0)) else (laws_FnVotes.j1 kj2 l1 t358 bt363.1 bt367.1 t369 bt374.1 false)) else (laws_FnVotes.j1 kj2 l1 t358 bt363.1 bt367.1 t369 bt374.1 true))) else (laws_FnVotes.j1 kj2 l1 t358 bt363.1 bt367.1 t369 bt374.1 true)) else (laws_FnVotes.j1 kj2 l1 t358 bt363.1 bt367.1 t369 bt374.1 true))) else (laws_FnVotes.j1 kj2 l1 t358 bt363.1 bt367.1 t369 bt374.1 true)) else (laws_FnVotes.j1 kj2 l1 t358 bt363.1 bt367.1 t369 bt374.1 true))) else (laws_FnVotes.j1 kj2 l1 t358 bt363.1 bt367.1 t369 bt374.1 true)) else (laws_FnVotes.j1 kj2 l1 t358 bt363.1 bt367.1 t369 bt374.1 true)))))))) = some r := H
        have A9 := Aside0.mk A90
        clear A90
        replace H := Option.bind_eq_some_iff.mp H
        obtain ⟨⟨t363, t364⟩, A100, H⟩ := H
        replace H : ((impl_LeastUnlike.f kj2 t358).bind fun bt365 => ((spec_LeastUnlike.f kj2 t358).bind fun bt367 => ((spec_P6Pick.f l1 5).bind fun t369 => ((impl_ChooseApart.f kj2 t358 t369).bind fun bt370 => ((spec_ChooseApart.f kj2 t358 t369).bind fun bt374 => (if t362 = t364 then (if t361.toList = t363.toList then (if ((t362 == 0) != (decide ((t358.length : Int) > 0))) = true then (laws_FnVotes.j1 kj2 l1 t358 t363 bt367.1 t369 bt374.1 true) else (if bt365.2 = bt367.2 then (if bt365.1 = bt367.1 then (if ((bt365.2 == 0) != (decide ((t358.length : Int) > 1))) = true then (laws_FnVotes.j1 kj2 l1 t358 t363 bt367.1 t369 bt374.1 true) else (if bt370.2 = bt374.2 then (if bt370.2 = 0 then ((spec_SameNumbers.f kj2 bt370.1 bt374.1).bind fun t378 => (if t378 = true then (if (t358.length : Int) > 0 then (laws_FnVotes.j1 kj2 l1 t358 t363 bt367.1 t369 bt374.1 ((bt374.1.length : Int) == 0)) else (laws_FnVotes.j1 kj2 l1 t358 t363 bt367.1 t369 bt374.1 false)) else (laws_FnVotes.j1 kj2 l1 t358 t363 bt367.1 t369 bt374.1 true))) else (laws_FnVotes.j1 kj2 l1 t358 t363 bt367.1 t369 bt374.1 true)) else (laws_FnVotes.j1 kj2 l1 t358 t363 bt367.1 t369 bt374.1 true))) else (laws_FnVotes.j1 kj2 l1 t358 t363 bt367.1 t369 bt374.1 true)) else (laws_FnVotes.j1 kj2 l1 t358 t363 bt367.1 t369 bt374.1 true))) else (laws_FnVotes.j1 kj2 l1 t358 t363 bt367.1 t369 bt374.1 true)) else (laws_FnVotes.j1 kj2 l1 t358 t363 bt367.1 t369 bt374.1 true))))))) = some r := H
        have A10 := Aside0.mk A100
        clear A100
        replace H := Option.bind_eq_some_iff.mp H
        obtain ⟨⟨t365, t366⟩, A110, H⟩ := H
        replace H : ((spec_LeastUnlike.f kj2 t358).bind fun bt367 => ((spec_P6Pick.f l1 5).bind fun t369 => ((impl_ChooseApart.f kj2 t358 t369).bind fun bt370 => ((spec_ChooseApart.f kj2 t358 t369).bind fun bt374 => (if t362 = t364 then (if t361.toList = t363.toList then (if ((t362 == 0) != (decide ((t358.length : Int) > 0))) = true then (laws_FnVotes.j1 kj2 l1 t358 t363 bt367.1 t369 bt374.1 true) else (if t366 = bt367.2 then (if t365 = bt367.1 then (if ((t366 == 0) != (decide ((t358.length : Int) > 1))) = true then (laws_FnVotes.j1 kj2 l1 t358 t363 bt367.1 t369 bt374.1 true) else (if bt370.2 = bt374.2 then (if bt370.2 = 0 then ((spec_SameNumbers.f kj2 bt370.1 bt374.1).bind fun t378 => (if t378 = true then (if (t358.length : Int) > 0 then (laws_FnVotes.j1 kj2 l1 t358 t363 bt367.1 t369 bt374.1 ((bt374.1.length : Int) == 0)) else (laws_FnVotes.j1 kj2 l1 t358 t363 bt367.1 t369 bt374.1 false)) else (laws_FnVotes.j1 kj2 l1 t358 t363 bt367.1 t369 bt374.1 true))) else (laws_FnVotes.j1 kj2 l1 t358 t363 bt367.1 t369 bt374.1 true)) else (laws_FnVotes.j1 kj2 l1 t358 t363 bt367.1 t369 bt374.1 true))) else (laws_FnVotes.j1 kj2 l1 t358 t363 bt367.1 t369 bt374.1 true)) else (laws_FnVotes.j1 kj2 l1 t358 t363 bt367.1 t369 bt374.1 true))) else (laws_FnVotes.j1 kj2 l1 t358 t363 bt367.1 t369 bt374.1 true)) else (laws_FnVotes.j1 kj2 l1 t358 t363 bt367.1 t369 bt374.1 true)))))) = some r := H
        have A11 := Aside0.mk A110
        clear A110
        replace H := Option.bind_eq_some_iff.mp H
        obtain ⟨⟨t367, t368⟩, A120, H⟩ := H
        replace H : ((spec_P6Pick.f l1 5).bind fun t369 => ((impl_ChooseApart.f kj2 t358 t369).bind fun bt370 => ((spec_ChooseApart.f kj2 t358 t369).bind fun bt374 => (if t362 = t364 then (if t361.toList = t363.toList then (if ((t362 == 0) != (decide ((t358.length : Int) > 0))) = true then (laws_FnVotes.j1 kj2 l1 t358 t363 t367 t369 bt374.1 true) else (if t366 = t368 then (if t365 = t367 then (if ((t366 == 0) != (decide ((t358.length : Int) > 1))) = true then (laws_FnVotes.j1 kj2 l1 t358 t363 t367 t369 bt374.1 true) else (if bt370.2 = bt374.2 then (if bt370.2 = 0 then ((spec_SameNumbers.f kj2 bt370.1 bt374.1).bind fun t378 => (if t378 = true then (if (t358.length : Int) > 0 then (laws_FnVotes.j1 kj2 l1 t358 t363 t367 t369 bt374.1 ((bt374.1.length : Int) == 0)) else (laws_FnVotes.j1 kj2 l1 t358 t363 t367 t369 bt374.1 false)) else (laws_FnVotes.j1 kj2 l1 t358 t363 t367 t369 bt374.1 true))) else (laws_FnVotes.j1 kj2 l1 t358 t363 t367 t369 bt374.1 true)) else (laws_FnVotes.j1 kj2 l1 t358 t363 t367 t369 bt374.1 true))) else (laws_FnVotes.j1 kj2 l1 t358 t363 t367 t369 bt374.1 true)) else (laws_FnVotes.j1 kj2 l1 t358 t363 t367 t369 bt374.1 true))) else (laws_FnVotes.j1 kj2 l1 t358 t363 t367 t369 bt374.1 true)) else (laws_FnVotes.j1 kj2 l1 t358 t363 t367 t369 bt374.1 true))))) = some r := H
        have A12 := Aside0.mk A120
        clear A120
        replace H := Option.bind_eq_some_iff.mp H
        obtain ⟨t369, A130, H⟩ := H
        replace H : ((impl_ChooseApart.f kj2 t358 t369).bind fun bt370 => ((spec_ChooseApart.f kj2 t358 t369).bind fun bt374 => (if t362 = t364 then (if t361.toList = t363.toList then (if ((t362 == 0) != (decide ((t358.length : Int) > 0))) = true then (laws_FnVotes.j1 kj2 l1 t358 t363 t367 t369 bt374.1 true) else (if t366 = t368 then (if t365 = t367 then (if ((t366 == 0) != (decide ((t358.length : Int) > 1))) = true then (laws_FnVotes.j1 kj2 l1 t358 t363 t367 t369 bt374.1 true) else (if bt370.2 = bt374.2 then (if bt370.2 = 0 then ((spec_SameNumbers.f kj2 bt370.1 bt374.1).bind fun t378 => (if t378 = true then (if (t358.length : Int) > 0 then (laws_FnVotes.j1 kj2 l1 t358 t363 t367 t369 bt374.1 ((bt374.1.length : Int) == 0)) else (laws_FnVotes.j1 kj2 l1 t358 t363 t367 t369 bt374.1 false)) else (laws_FnVotes.j1 kj2 l1 t358 t363 t367 t369 bt374.1 true))) else (laws_FnVotes.j1 kj2 l1 t358 t363 t367 t369 bt374.1 true)) else (laws_FnVotes.j1 kj2 l1 t358 t363 t367 t369 bt374.1 true))) else (laws_FnVotes.j1 kj2 l1 t358 t363 t367 t369 bt374.1 true)) else (laws_FnVotes.j1 kj2 l1 t358 t363 t367 t369 bt374.1 true))) else (laws_FnVotes.j1 kj2 l1 t358 t363 t367 t369 bt374.1 true)) else (laws_FnVotes.j1 kj2 l1 t358 t363 t367 t369 bt374.1 true)))) = some r := H
        have A13 := Aside0.mk A130
        clear A130
        replace H := Option.bind_eq_some_iff.mp H
        obtain ⟨⟨t370, t371⟩, A140, H⟩ := H
        replace H : ((spec_ChooseApart.f kj2 t358 t369).bind fun bt374 => (if t362 = t364 then (if t361.toList = t363.toList then (if ((t362 == 0) != (decide ((t358.length : Int) > 0))) = true then (laws_FnVotes.j1 kj2 l1 t358 t363 t367 t369 bt374.1 true) else (if t366 = t368 then (if t365 = t367 then (if ((t366 == 0) != (decide ((t358.length : Int) > 1))) = true then (laws_FnVotes.j1 kj2 l1 t358 t363 t367 t369 bt374.1 true) else (if t371 = bt374.2 then (if t371 = 0 then ((spec_SameNumbers.f kj2 t370 bt374.1).bind fun t378 => (if t378 = true then (if (t358.length : Int) > 0 then (laws_FnVotes.j1 kj2 l1 t358 t363 t367 t369 bt374.1 ((bt374.1.length : Int) == 0)) else (laws_FnVotes.j1 kj2 l1 t358 t363 t367 t369 bt374.1 false)) else (laws_FnVotes.j1 kj2 l1 t358 t363 t367 t369 bt374.1 true))) else (laws_FnVotes.j1 kj2 l1 t358 t363 t367 t369 bt374.1 true)) else (laws_FnVotes.j1 kj2 l1 t358 t363 t367 t369 bt374.1 true))) else (laws_FnVotes.j1 kj2 l1 t358 t363 t367 t369 bt374.1 true)) else (laws_FnVotes.j1 kj2 l1 t358 t363 t367 t369 bt374.1 true))) else (laws_FnVotes.j1 kj2 l1 t358 t363 t367 t369 bt374.1 true)) else (laws_FnVotes.j1 kj2 l1 t358 t363 t367 t369 bt374.1 true))) = some r := H
        have A14 := Aside0.mk A140
        clear A140
        replace H := Option.bind_eq_some_iff.mp H
        obtain ⟨⟨t374, t375⟩, A150, H⟩ := H
        replace H : (if t362 = t364 then (if t361.toList = t363.toList then (if ((t362 == 0) != (decide ((t358.length : Int) > 0))) = true then (laws_FnVotes.j1 kj2 l1 t358 t363 t367 t369 t374 true) else (if t366 = t368 then (if t365 = t367 then (if ((t366 == 0) != (decide ((t358.length : Int) > 1))) = true then (laws_FnVotes.j1 kj2 l1 t358 t363 t367 t369 t374 true) else (if t371 = t375 then (if t371 = 0 then ((spec_SameNumbers.f kj2 t370 t374).bind fun t378 => (if t378 = true then (if (t358.length : Int) > 0 then (laws_FnVotes.j1 kj2 l1 t358 t363 t367 t369 t374 ((t374.length : Int) == 0)) else (laws_FnVotes.j1 kj2 l1 t358 t363 t367 t369 t374 false)) else (laws_FnVotes.j1 kj2 l1 t358 t363 t367 t369 t374 true))) else (laws_FnVotes.j1 kj2 l1 t358 t363 t367 t369 t374 true)) else (laws_FnVotes.j1 kj2 l1 t358 t363 t367 t369 t374 true))) else (laws_FnVotes.j1 kj2 l1 t358 t363 t367 t369 t374 true)) else (laws_FnVotes.j1 kj2 l1 t358 t363 t367 t369 t374 true))) else (laws_FnVotes.j1 kj2 l1 t358 t363 t367 t369 t374 true)) else (laws_FnVotes.j1 kj2 l1 t358 t363 t367 t369 t374 true)) = some r := H
        have A15 := Aside0.mk A150
        clear A150
        have HC16 := Aside0.mk H
        clear H
        go_upto_region 11 with (first | (go_at_call 18; (with_reducible refine (spec_P6Words.calls kj2 _ _ l0 t358 _ ?side1 ?side2 A8.out).mono ?_); (case side1 => repeat (first | exact (Kd.C_below HR0.out HB.out) | (with_reducible refine Kd.C_alloc ?_ _) | (with_reducible refine Kd.C_drewN ?_ _) | (with_reducible refine Kd.C_drew ?_))); (case side2 => exact HC0.out); rintro e w17 ⟨v359, rfl, ho0, hb⟩; have n0_ := Aside0.mk (Kd.R_lower ho0 (below_size (by repeat (first | (with_reducible first | exact HB.out | apply below_alloc | apply pw_below_drewN | apply below_drew1) | exact HB.out)))); have n1_ := Aside0.mk (below_step (by repeat (first | (with_reducible first | exact HB.out | apply below_alloc | apply pw_below_drewN | apply below_drew1) | exact HB.out)) hb); clear HB; have HO360 := n0_; have HB := n1_; clear n0_ n1_; (try clear hb); (try clear hb2); (try clear hk); (try clear hi); (try clear ho0); obtain ⟨Ao18, co18, eo18⟩ := Kd.R_slice HO360.out; subst eo18) | (go_at_call 9; (with_reducible refine (impl_VoteWord.calls kj2 _ _ t358 t361 t362 _ ?side1 ?side2 A9.out).mono ?_); (case side1 => repeat (first | exact (Kd.R_reads' HO360.out).2.2 | (with_reducible refine Kd.C_alloc ?_ _) | (with_reducible refine Kd.C_drewN ?_ _) | (with_reducible refine Kd.C_drew ?_))); (case side2 => exact (Kd.R_reads' HO360.out).2.1); rintro e w19 ⟨rfl, hb⟩; have n0_ := Aside0.mk (Kd.R_below (by (with_reducible repeat (first | apply Kd.R_alloc | apply Kd.R_drewN | apply Kd.R_drew)); exact HO360.out) hb); have n1_ := Aside0.mk (below_step (by repeat (first | (with_reducible first | exact HB.out | apply below_alloc | apply pw_below_drewN | apply below_drew1) | exact HB.out)) hb); clear HO360; clear HB; have HO360 := n0_; have HB := n1_; clear n0_ n1_; (try clear hb); (try clear hb2); (try clear hk); (try clear hi)) | (go_at_call 7; (with_reducible refine (spec_VoteWord.calls kj2 _ _ t358 t363 t364 _ ?side1 ?side2 A10.out).mono ?_); (case side1 => repeat (first | exact (Kd.R_reads' HO360.out).2.2 | (with_reducible refine Kd.C_alloc ?_ _) | (with_reducible refine Kd.C_drewN ?_ _) | (with_reducible refine Kd.C_drew ?_))); (case side2 => exact (Kd.R_reads' HO360.out).2.1); rintro e w20 ⟨rfl, hb⟩; have n0_ := Aside0.mk (Kd.R_below (by (with_reducible repeat (first | apply Kd.R_alloc | apply Kd.R_drewN | apply Kd.R_drew)); exact HO360.out) hb); have n1_ := Aside0.mk (below_step (by repeat (first | (with_reducible first | exact HB.out | apply below_alloc | apply pw_below_drewN | apply below_drew1) | exact HB.out)) hb); clear HO360; clear HB; have HO360 := n0_; have HB := n1_; clear n0_ n1_; (try clear hb); (try clear hb2); (try clear hk); (try clear hi)) | (go_at_call 19; (with_reducible refine (impl_LeastUnlike.calls kj2 _ _ t358 t365 t366 _ ?side1 ?side2 A11.out).mono ?_); (case side1 => repeat (first | exact (Kd.R_reads' HO360.out).2.2 | (with_reducible refine Kd.C_alloc ?_ _) | (with_reducible refine Kd.C_drewN ?_ _) | (with_reducible refine Kd.C_drew ?_))); (case side2 => exact (Kd.R_reads' HO360.out).2.1); rintro e w21 ⟨rfl, hb⟩; have n0_ := Aside0.mk (Kd.R_below (by (with_reducible repeat (first | apply Kd.R_alloc | apply Kd.R_drewN | apply Kd.R_drew)); exact HO360.out) hb); have n1_ := Aside0.mk (below_step (by repeat (first | (with_reducible first | exact HB.out | apply below_alloc | apply pw_below_drewN | apply below_drew1) | exact HB.out)) hb); clear HO360; clear HB; have HO360 := n0_; have HB := n1_; clear n0_ n1_; (try clear hb); (try clear hb2); (try clear hk); (try clear hi)) | (go_at_call 20; (with_reducible refine (spec_LeastUnlike.calls kj2 _ _ t358 t367 t368 _ ?side1 ?side2 A12.out).mono ?_); (case side1 => repeat (first | exact (Kd.R_reads' HO360.out).2.2 | (with_reducible refine Kd.C_alloc ?_ _) | (with_reducible refine Kd.C_drewN ?_ _) | (with_reducible refine Kd.C_drew ?_))); (case side2 => exact (Kd.R_reads' HO360.out).2.1); rintro e w22 ⟨rfl, hb⟩; have n0_ := Aside0.mk (Kd.R_below (by (with_reducible repeat (first | apply Kd.R_alloc | apply Kd.R_drewN | apply Kd.R_drew)); exact HO360.out) hb); have n1_ := Aside0.mk (below_step (by repeat (first | (with_reducible first | exact HB.out | apply below_alloc | apply pw_below_drewN | apply below_drew1) | exact HB.out)) hb); clear HO360; clear HB; have HO360 := n0_; have HB := n1_; clear n0_ n1_; (try clear hb); (try clear hb2); (try clear hk); (try clear hi)) | (go_at_call 21; (with_reducible refine (spec_P6Pick.calls _ _ l1 5 t369 _ ?side1 ?side2 A13.out).mono ?_); (case side1 => repeat (first | exact (Kd.C_below HR1.out HB.out) | (with_reducible refine Kd.C_alloc ?_ _) | (with_reducible refine Kd.C_drewN ?_ _) | (with_reducible refine Kd.C_drew ?_))); (case side2 => exact HC1.out); rintro e w23 ⟨rfl, hb⟩; have n0_ := Aside0.mk (Kd.R_below (by (with_reducible repeat (first | apply Kd.R_alloc | apply Kd.R_drewN | apply Kd.R_drew)); exact HO360.out) hb); have n1_ := Aside0.mk (below_step (by repeat (first | (with_reducible first | exact HB.out | apply below_alloc | apply pw_below_drewN | apply below_drew1) | exact HB.out)) hb); clear HO360; clear HB; have HO360 := n0_; have HB := n1_; clear n0_ n1_; (try clear hb); (try clear hb2); (try clear hk); (try clear hi)) | (go_at_call 12; (with_reducible refine (impl_ChooseApart.calls kj2 _ _ t358 t369 t370 t371 _ ?side1 ?side2 A14.out).mono ?_); (case side1 => repeat (first | exact (Kd.R_reads' HO360.out).2.2 | (with_reducible refine Kd.C_alloc ?_ _) | (with_reducible refine Kd.C_drewN ?_ _) | (with_reducible refine Kd.C_drew ?_))); (case side2 => exact (Kd.R_reads' HO360.out).2.1); rintro e w24 ⟨v372, rfl, ho0, hb⟩; have n0_ := Aside0.mk (Kd.R_below (by (with_reducible repeat (first | apply Kd.R_alloc | apply Kd.R_drewN | apply Kd.R_drew)); exact HO360.out) hb); have n1_ := Aside0.mk (Kd.R_lower ho0 (below_size (by repeat (first | (with_reducible first | exact HB.out | apply below_alloc | apply pw_below_drewN | apply below_drew1) | exact HB.out)))); have n2_ := Aside0.mk (below_step (by repeat (first | (with_reducible first | exact HB.out | apply below_alloc | apply pw_below_drewN | apply below_drew1) | exact HB.out)) hb); clear HO360; clear HB; have HO360 := n0_; have HO373 := n1_; have HB := n2_; clear n0_ n1_ n2_; (try clear hb); (try clear hb2); (try clear hk); (try clear hi); (try clear ho0)) | (go_at_call 11; (with_reducible refine (spec_ChooseApart.calls kj2 _ _ t358 t369 t374 t375 _ ?side1 ?side2 A15.out).mono ?_); (case side1 => repeat (first | exact (Kd.R_reads' HO360.out).2.2 | (with_reducible refine Kd.C_alloc ?_ _) | (with_reducible refine Kd.C_drewN ?_ _) | (with_reducible refine Kd.C_drew ?_))); (case side2 => exact (Kd.R_reads' HO360.out).2.1); rintro e w25 ⟨v376, rfl, ho0, hb⟩; have n0_ := Aside0.mk (Kd.R_below (by (with_reducible repeat (first | apply Kd.R_alloc | apply Kd.R_drewN | apply Kd.R_drew)); exact HO360.out) hb); have n1_ := Aside0.mk (Kd.R_elder' (by (with_reducible repeat (first | apply Kd.R_alloc | apply Kd.R_drewN | apply Kd.R_drew)); exact HO373.out) (Kd.R_base ho0) hb); have n2_ := Aside0.mk (Kd.R_lower (Kd.R_new' ho0 (Kd.R_lt (by (with_reducible repeat (first | apply Kd.R_alloc | apply Kd.R_drewN | apply Kd.R_drew)); exact HO373.out))) (below_size (by repeat (first | (with_reducible first | exact HB.out | apply below_alloc | apply pw_below_drewN | apply below_drew1) | exact HB.out)))); have n3_ := Aside0.mk (below_step (by repeat (first | (with_reducible first | exact HB.out | apply below_alloc | apply pw_below_drewN | apply below_drew1) | exact HB.out)) hb); clear HO360; clear HO373; clear HB; have HO360 := n0_; have HO373 := n1_; have HO377 := n2_; have HB := n3_; clear n0_ n1_ n2_ n3_; (try clear hb); (try clear hb2); (try clear hk); (try clear hi); (try clear ho0)))
        repeat (go_quiet (first | (go_at_call 18; (with_reducible refine (spec_P6Words.calls kj2 _ _ l0 t358 _ ?side1 ?side2 A8.out).mono ?_); (case side1 => repeat (first | exact (Kd.C_below HR0.out HB.out) | (with_reducible refine Kd.C_alloc ?_ _) | (with_reducible refine Kd.C_drewN ?_ _) | (with_reducible refine Kd.C_drew ?_))); (case side2 => exact HC0.out); rintro e w17 ⟨v359, rfl, ho0, hb⟩; have n0_ := Aside0.mk (Kd.R_lower ho0 (below_size (by repeat (first | (with_reducible first | exact HB.out | apply below_alloc | apply pw_below_drewN | apply below_drew1) | exact HB.out)))); have n1_ := Aside0.mk (below_step (by repeat (first | (with_reducible first | exact HB.out | apply below_alloc | apply pw_below_drewN | apply below_drew1) | exact HB.out)) hb); clear HB; have HO360 := n0_; have HB := n1_; clear n0_ n1_; (try clear hb); (try clear hb2); (try clear hk); (try clear hi); (try clear ho0); obtain ⟨Ao18, co18, eo18⟩ := Kd.R_slice HO360.out; subst eo18) | (go_at_call 9; (with_reducible refine (impl_VoteWord.calls kj2 _ _ t358 t361 t362 _ ?side1 ?side2 A9.out).mono ?_); (case side1 => repeat (first | exact (Kd.R_reads' HO360.out).2.2 | (with_reducible refine Kd.C_alloc ?_ _) | (with_reducible refine Kd.C_drewN ?_ _) | (with_reducible refine Kd.C_drew ?_))); (case side2 => exact (Kd.R_reads' HO360.out).2.1); rintro e w19 ⟨rfl, hb⟩; have n0_ := Aside0.mk (Kd.R_below (by (with_reducible repeat (first | apply Kd.R_alloc | apply Kd.R_drewN | apply Kd.R_drew)); exact HO360.out) hb); have n1_ := Aside0.mk (below_step (by repeat (first | (with_reducible first | exact HB.out | apply below_alloc | apply pw_below_drewN | apply below_drew1) | exact HB.out)) hb); clear HO360; clear HB; have HO360 := n0_; have HB := n1_; clear n0_ n1_; (try clear hb); (try clear hb2); (try clear hk); (try clear hi)) | (go_at_call 7; (with_reducible refine (spec_VoteWord.calls kj2 _ _ t358 t363 t364 _ ?side1 ?side2 A10.out).mono ?_); (case side1 => repeat (first | exact (Kd.R_reads' HO360.out).2.2 | (with_reducible refine Kd.C_alloc ?_ _) | (with_reducible refine Kd.C_drewN ?_ _) | (with_reducible refine Kd.C_drew ?_))); (case side2 => exact (Kd.R_reads' HO360.out).2.1); rintro e w20 ⟨rfl, hb⟩; have n0_ := Aside0.mk (Kd.R_below (by (with_reducible repeat (first | apply Kd.R_alloc | apply Kd.R_drewN | apply Kd.R_drew)); exact HO360.out) hb); have n1_ := Aside0.mk (below_step (by repeat (first | (with_reducible first | exact HB.out | apply below_alloc | apply pw_below_drewN | apply below_drew1) | exact HB.out)) hb); clear HO360; clear HB; have HO360 := n0_; have HB := n1_; clear n0_ n1_; (try clear hb); (try clear hb2); (try clear hk); (try clear hi)) | (go_at_call 19; (with_reducible refine (impl_LeastUnlike.calls kj2 _ _ t358 t365 t366 _ ?side1 ?side2 A11.out).mono ?_); (case side1 => repeat (first | exact (Kd.R_reads' HO360.out).2.2 | (with_reducible refine Kd.C_alloc ?_ _) | (with_reducible refine Kd.C_drewN ?_ _) | (with_reducible refine Kd.C_drew ?_))); (case side2 => exact (Kd.R_reads' HO360.out).2.1); rintro e w21 ⟨rfl, hb⟩; have n0_ := Aside0.mk (Kd.R_below (by (with_reducible repeat (first | apply Kd.R_alloc | apply Kd.R_drewN | apply Kd.R_drew)); exact HO360.out) hb); have n1_ := Aside0.mk (below_step (by repeat (first | (with_reducible first | exact HB.out | apply below_alloc | apply pw_below_drewN | apply below_drew1) | exact HB.out)) hb); clear HO360; clear HB; have HO360 := n0_; have HB := n1_; clear n0_ n1_; (try clear hb); (try clear hb2); (try clear hk); (try clear hi)) | (go_at_call 20; (with_reducible refine (spec_LeastUnlike.calls kj2 _ _ t358 t367 t368 _ ?side1 ?side2 A12.out).mono ?_); (case side1 => repeat (first | exact (Kd.R_reads' HO360.out).2.2 | (with_reducible refine Kd.C_alloc ?_ _) | (with_reducible refine Kd.C_drewN ?_ _) | (with_reducible refine Kd.C_drew ?_))); (case side2 => exact (Kd.R_reads' HO360.out).2.1); rintro e w22 ⟨rfl, hb⟩; have n0_ := Aside0.mk (Kd.R_below (by (with_reducible repeat (first | apply Kd.R_alloc | apply Kd.R_drewN | apply Kd.R_drew)); exact HO360.out) hb); have n1_ := Aside0.mk (below_step (by repeat (first | (with_reducible first | exact HB.out | apply below_alloc | apply pw_below_drewN | apply below_drew1) | exact HB.out)) hb); clear HO360; clear HB; have HO360 := n0_; have HB := n1_; clear n0_ n1_; (try clear hb); (try clear hb2); (try clear hk); (try clear hi)) | (go_at_call 21; (with_reducible refine (spec_P6Pick.calls _ _ l1 5 t369 _ ?side1 ?side2 A13.out).mono ?_); (case side1 => repeat (first | exact (Kd.C_below HR1.out HB.out) | (with_reducible refine Kd.C_alloc ?_ _) | (with_reducible refine Kd.C_drewN ?_ _) | (with_reducible refine Kd.C_drew ?_))); (case side2 => exact HC1.out); rintro e w23 ⟨rfl, hb⟩; have n0_ := Aside0.mk (Kd.R_below (by (with_reducible repeat (first | apply Kd.R_alloc | apply Kd.R_drewN | apply Kd.R_drew)); exact HO360.out) hb); have n1_ := Aside0.mk (below_step (by repeat (first | (with_reducible first | exact HB.out | apply below_alloc | apply pw_below_drewN | apply below_drew1) | exact HB.out)) hb); clear HO360; clear HB; have HO360 := n0_; have HB := n1_; clear n0_ n1_; (try clear hb); (try clear hb2); (try clear hk); (try clear hi)) | (go_at_call 12; (with_reducible refine (impl_ChooseApart.calls kj2 _ _ t358 t369 t370 t371 _ ?side1 ?side2 A14.out).mono ?_); (case side1 => repeat (first | exact (Kd.R_reads' HO360.out).2.2 | (with_reducible refine Kd.C_alloc ?_ _) | (with_reducible refine Kd.C_drewN ?_ _) | (with_reducible refine Kd.C_drew ?_))); (case side2 => exact (Kd.R_reads' HO360.out).2.1); rintro e w24 ⟨v372, rfl, ho0, hb⟩; have n0_ := Aside0.mk (Kd.R_below (by (with_reducible repeat (first | apply Kd.R_alloc | apply Kd.R_drewN | apply Kd.R_drew)); exact HO360.out) hb); have n1_ := Aside0.mk (Kd.R_lower ho0 (below_size (by repeat (first | (with_reducible first | exact HB.out | apply below_alloc | apply pw_below_drewN | apply below_drew1) | exact HB.out)))); have n2_ := Aside0.mk (below_step (by repeat (first | (with_reducible first | exact HB.out | apply below_alloc | apply pw_below_drewN | apply below_drew1) | exact HB.out)) hb); clear HO360; clear HB; have HO360 := n0_; have HO373 := n1_; have HB := n2_; clear n0_ n1_ n2_; (try clear hb); (try clear hb2); (try clear hk); (try clear hi); (try clear ho0)) | (go_at_call 11; (with_reducible refine (spec_ChooseApart.calls kj2 _ _ t358 t369 t374 t375 _ ?side1 ?side2 A15.out).mono ?_); (case side1 => repeat (first | exact (Kd.R_reads' HO360.out).2.2 | (with_reducible refine Kd.C_alloc ?_ _) | (with_reducible refine Kd.C_drewN ?_ _) | (with_reducible refine Kd.C_drew ?_))); (case side2 => exact (Kd.R_reads' HO360.out).2.1); rintro e w25 ⟨v376, rfl, ho0, hb⟩; have n0_ := Aside0.mk (Kd.R_below (by (with_reducible repeat (first | apply Kd.R_alloc | apply Kd.R_drewN | apply Kd.R_drew)); exact HO360.out) hb); have n1_ := Aside0.mk (Kd.R_elder' (by (with_reducible repeat (first | apply Kd.R_alloc | apply Kd.R_drewN | apply Kd.R_drew)); exact HO373.out) (Kd.R_base ho0) hb); have n2_ := Aside0.mk (Kd.R_lower (Kd.R_new' ho0 (Kd.R_lt (by (with_reducible repeat (first | apply Kd.R_alloc | apply Kd.R_drewN | apply Kd.R_drew)); exact HO373.out))) (below_size (by repeat (first | (with_reducible first | exact HB.out | apply below_alloc | apply pw_below_drewN | apply below_drew1) | exact HB.out)))); have n3_ := Aside0.mk (below_step (by repeat (first | (with_reducible first | exact HB.out | apply below_alloc | apply pw_below_drewN | apply below_drew1) | exact HB.out)) hb); clear HO360; clear HO373; clear HB; have HO360 := n0_; have HO373 := n1_; have HO377 := n2_; have HB := n3_; clear n0_ n1_ n2_ n3_; (try clear hb); (try clear hb2); (try clear hk); (try clear hi); (try clear ho0))); go_upto_region 11 with (first | (go_at_call 18; (with_reducible refine (spec_P6Words.calls kj2 _ _ l0 t358 _ ?side1 ?side2 A8.out).mono ?_); (case side1 => repeat (first | exact (Kd.C_below HR0.out HB.out) | (with_reducible refine Kd.C_alloc ?_ _) | (with_reducible refine Kd.C_drewN ?_ _) | (with_reducible refine Kd.C_drew ?_))); (case side2 => exact HC0.out); rintro e w17 ⟨v359, rfl, ho0, hb⟩; have n0_ := Aside0.mk (Kd.R_lower ho0 (below_size (by repeat (first | (with_reducible first | exact HB.out | apply below_alloc | apply pw_below_drewN | apply below_drew1) | exact HB.out)))); have n1_ := Aside0.mk (below_step (by repeat (first | (with_reducible first | exact HB.out | apply below_alloc | apply pw_below_drewN | apply below_drew1) | exact HB.out)) hb); clear HB; have HO360 := n0_; have HB := n1_; clear n0_ n1_; (try clear hb); (try clear hb2); (try clear hk); (try clear hi); (try clear ho0); obtain ⟨Ao18, co18, eo18⟩ := Kd.R_slice HO360.out; subst eo18) | (go_at_call 9; (with_reducible refine (impl_VoteWord.calls kj2 _ _ t358 t361 t362 _ ?side1 ?side2 A9.out).mono ?_); (case side1 => repeat (first | exact (Kd.R_reads' HO360.out).2.2 | (with_reducible refine Kd.C_alloc ?_ _) | (with_reducible refine Kd.C_drewN ?_ _) | (with_reducible refine Kd.C_drew ?_))); (case side2 => exact (Kd.R_reads' HO360.out).2.1); rintro e w19 ⟨rfl, hb⟩; have n0_ := Aside0.mk (Kd.R_below (by (with_reducible repeat (first | apply Kd.R_alloc | apply Kd.R_drewN | apply Kd.R_drew)); exact HO360.out) hb); have n1_ := Aside0.mk (below_step (by repeat (first | (with_reducible first | exact HB.out | apply below_alloc | apply pw_below_drewN | apply below_drew1) | exact HB.out)) hb); clear HO360; clear HB; have HO360 := n0_; have HB := n1_; clear n0_ n1_; (try clear hb); (try clear hb2); (try clear hk); (try clear hi)) | (go_at_call 7; (with_reducible refine (spec_VoteWord.calls kj2 _ _ t358 t363 t364 _ ?side1 ?side2 A10.out).mono ?_); (case side1 => repeat (first | exact (Kd.R_reads' HO360.out).2.2 | (with_reducible refine Kd.C_alloc ?_ _) | (with_reducible refine Kd.C_drewN ?_ _) | (with_reducible refine Kd.C_drew ?_))); (case side2 => exact (Kd.R_reads' HO360.out).2.1); rintro e w20 ⟨rfl, hb⟩; have n0_ := Aside0.mk (Kd.R_below (by (with_reducible repeat (first | apply Kd.R_alloc | apply Kd.R_drewN | apply Kd.R_drew)); exact HO360.out) hb); have n1_ := Aside0.mk (below_step (by repeat (first | (with_reducible first | exact HB.out | apply below_alloc | apply pw_below_drewN | apply below_drew1) | exact HB.out)) hb); clear HO360; clear HB; have HO360 := n0_; have HB := n1_; clear n0_ n1_; (try clear hb); (try clear hb2); (try clear hk); (try clear hi)) | (go_at_call 19; (with_reducible refine (impl_LeastUnlike.calls kj2 _ _ t358 t365 t366 _ ?side1 ?side2 A11.out).mono ?_); (case side1 => repeat (first | exact (Kd.R_reads' HO360.out).2.2 | (with_reducible refine Kd.C_alloc ?_ _) | (with_reducible refine Kd.C_drewN ?_ _) | (with_reducible refine Kd.C_drew ?_))); (case side2 => exact (Kd.R_reads' HO360.out).2.1); rintro e w21 ⟨rfl, hb⟩; have n0_ := Aside0.mk (Kd.R_below (by (with_reducible repeat (first | apply Kd.R_alloc | apply Kd.R_drewN | apply Kd.R_drew)); exact HO360.out) hb); have n1_ := Aside0.mk (below_step (by repeat (first | (with_reducible first | exact HB.out | apply below_alloc | apply pw_below_drewN | apply below_drew1) | exact HB.out)) hb); clear HO360; clear HB; have HO360 := n0_; have HB := n1_; clear n0_ n1_; (try clear hb); (try clear hb2); (try clear hk); (try clear hi)) | (go_at_call 20; (with_reducible refine (spec_LeastUnlike.calls kj2 _ _ t358 t367 t368 _ ?side1 ?side2 A12.out).mono ?_); (case side1 => repeat (first | exact (Kd.R_reads' HO360.out).2.2 | (with_reducible refine Kd.C_alloc ?_ _) | (with_reducible refine Kd.C_drewN ?_ _) | (with_reducible refine Kd.C_drew ?_))); (case side2 => exact (Kd.R_reads' HO360.out).2.1); rintro e w22 ⟨rfl, hb⟩; have n0_ := Aside0.mk (Kd.R_below (by (with_reducible repeat (first | apply Kd.R_alloc | apply Kd.R_drewN | apply Kd.R_drew)); exact HO360.out) hb); have n1_ := Aside0.mk (below_step (by repeat (first | (with_reducible first | exact HB.out | apply below_alloc | apply pw_below_drewN | apply below_drew1) | exact HB.out)) hb); clear HO360; clear HB; have HO360 := n0_; have HB := n1_; clear n0_ n1_; (try clear hb); (try clear hb2); (try clear hk); (try clear hi)) | (go_at_call 21; (with_reducible refine (spec_P6Pick.calls _ _ l1 5 t369 _ ?side1 ?side2 A13.out).mono ?_); (case side1 => repeat (first | exact (Kd.C_below HR1.out HB.out) | (with_reducible refine Kd.C_alloc ?_ _) | (with_reducible refine Kd.C_drewN ?_ _) | (with_reducible refine Kd.C_drew ?_))); (case side2 => exact HC1.out); rintro e w23 ⟨rfl, hb⟩; have n0_ := Aside0.mk (Kd.R_below (by (with_reducible repeat (first | apply Kd.R_alloc | apply Kd.R_drewN | apply Kd.R_drew)); exact HO360.out) hb); have n1_ := Aside0.mk (below_step (by repeat (first | (with_reducible first | exact HB.out | apply below_alloc | apply pw_below_drewN | apply below_drew1) | exact HB.out)) hb); clear HO360; clear HB; have HO360 := n0_; have HB := n1_; clear n0_ n1_; (try clear hb); (try clear hb2); (try clear hk); (try clear hi)) | (go_at_call 12; (with_reducible refine (impl_ChooseApart.calls kj2 _ _ t358 t369 t370 t371 _ ?side1 ?side2 A14.out).mono ?_); (case side1 => repeat (first | exact (Kd.R_reads' HO360.out).2.2 | (with_reducible refine Kd.C_alloc ?_ _) | (with_reducible refine Kd.C_drewN ?_ _) | (with_reducible refine Kd.C_drew ?_))); (case side2 => exact (Kd.R_reads' HO360.out).2.1); rintro e w24 ⟨v372, rfl, ho0, hb⟩; have n0_ := Aside0.mk (Kd.R_below (by (with_reducible repeat (first | apply Kd.R_alloc | apply Kd.R_drewN | apply Kd.R_drew)); exact HO360.out) hb); have n1_ := Aside0.mk (Kd.R_lower ho0 (below_size (by repeat (first | (with_reducible first | exact HB.out | apply below_alloc | apply pw_below_drewN | apply below_drew1) | exact HB.out)))); have n2_ := Aside0.mk (below_step (by repeat (first | (with_reducible first | exact HB.out | apply below_alloc | apply pw_below_drewN | apply below_drew1) | exact HB.out)) hb); clear HO360; clear HB; have HO360 := n0_; have HO373 := n1_; have HB := n2_; clear n0_ n1_ n2_; (try clear hb); (try clear hb2); (try clear hk); (try clear hi); (try clear ho0)) | (go_at_call 11; (with_reducible refine (spec_ChooseApart.calls kj2 _ _ t358 t369 t374 t375 _ ?side1 ?side2 A15.out).mono ?_); (case side1 => repeat (first | exact (Kd.R_reads' HO360.out).2.2 | (with_reducible refine Kd.C_alloc ?_ _) | (with_reducible refine Kd.C_drewN ?_ _) | (with_reducible refine Kd.C_drew ?_))); (case side2 => exact (Kd.R_reads' HO360.out).2.1); rintro e w25 ⟨v376, rfl, ho0, hb⟩; have n0_ := Aside0.mk (Kd.R_below (by (with_reducible repeat (first | apply Kd.R_alloc | apply Kd.R_drewN | apply Kd.R_drew)); exact HO360.out) hb); have n1_ := Aside0.mk (Kd.R_elder' (by (with_reducible repeat (first | apply Kd.R_alloc | apply Kd.R_drewN | apply Kd.R_drew)); exact HO373.out) (Kd.R_base ho0) hb); have n2_ := Aside0.mk (Kd.R_lower (Kd.R_new' ho0 (Kd.R_lt (by (with_reducible repeat (first | apply Kd.R_alloc | apply Kd.R_drewN | apply Kd.R_drew)); exact HO373.out))) (below_size (by repeat (first | (with_reducible first | exact HB.out | apply below_alloc | apply pw_below_drewN | apply below_drew1) | exact HB.out)))); have n3_ := Aside0.mk (below_step (by repeat (first | (with_reducible first | exact HB.out | apply below_alloc | apply pw_below_drewN | apply below_drew1) | exact HB.out)) hb); clear HO360; clear HO373; clear HB; have HO360 := n0_; have HO373 := n1_; have HO377 := n2_; have HB := n3_; clear n0_ n1_ n2_ n3_; (try clear hb); (try clear hb2); (try clear hk); (try clear hi); (try clear ho0))))
        (try simp only [Act.put, List.setIfInBounds_toArray, List.set_cons_zero, List.set_cons_succ])
        go_cut [137] (fun v137 wc => ∃ (kq : Nat) (x137_15 : Bool), v137 = .bool x137_15 ∧ Aside0 (laws_FnVotes.j1 kq l1 t358 t363 t367 t369 t374 x137_15 = some r) ∧ Aside0 (kq ≤ kj2) ∧ Aside0 (Kd.R Kd.string 9 wc w.heap.size (fun _ => True) (.slice Ao18 t358.length co18) t358) ∧ Aside0 (Kd.R (Kd.int .i64) 2 wc w.heap.size (fun _ => True) v376 t374) ∧ Aside0 (Below w.heap.size w wc))
        case first =>
          as_aux_lemma =>
          have H := HC16.out
          clear HC16
          by_cases c26 : t362 = t364
          · rw [if_pos c26] at H
            have c26b0 : (t362 == t364) = true := beq_iff_eq.mpr c26
            have c26b1 : (t362 != t364) = false := bne_eq_false_iff_eq.mpr c26
            clear c26
            (first | rw [c26b0] | (simp only [i64_w, i32_w]; rw [c26b0]) | skip)
            by_cases c27 : t361.toList = t363.toList
            · rw [if_pos c27] at H
              have c27b0 : (t361.toList == t363.toList) = true := beq_iff_eq.mpr c27
              have c27b1 : (t361.toList != t363.toList) = false := bne_eq_false_iff_eq.mpr c27
              clear c27
              by_cases c28 : ((t362 == 0) != (decide ((t358.length : Int) > 0))) = true
              · rw [if_pos c28] at H
                have c28b0 : ((t362 == 0) != (decide ((t358.length : Int) > 0))) = true := c28
                have c28b4 : ((t362 == 0) != decide (0 < t358.length)) = true := by rw [show decide (0 < t358.length) = decide ((t358.length : Int) > 0) from decide_eq_decide.2 (by omega)]; exact c28b0
                obtain ⟨c28b5, c28b6, c28b7⟩ := bne_t _ _ c28b4
                (try (have c28b1 : decide ((t362 == 0) = (decide ((t358.length : Int) > 0))) = false := by simpa using c28))
                (try (have c28b2 : ((t362 == 0) == (decide ((t358.length : Int) > 0))) = false := by simpa using c28))
                (try (have c28b3 : ¬ ((t362 == 0) = (decide ((t358.length : Int) > 0))) := by simpa using c28))
                clear c28
                as_aux_lemma =>
                have H' := Aside0.mk H
                clear H
                go_wp2
                repeat (go_quiet (fail); try go_wp2)
                go_meet
                case rel => exact ⟨_, (true), (by first | rfl | (simp; done) | (simp [*]; done)), H', ⟨by have := HJ2.out; first | omega | exact Nat.le_refl _⟩, ⟨by (with_reducible repeat (first | apply Kd.R_alloc | apply Kd.R_drewN | apply Kd.R_drew)); exact HO360.out⟩, ⟨by (with_reducible repeat (first | apply Kd.R_alloc | apply Kd.R_drewN | apply Kd.R_drew)); exact Kd.R_mono HO377.out (fun _ hk => trivial)⟩, ⟨by repeat (first | (with_reducible first | exact HB.out | apply below_alloc | apply pw_below_drewN | apply below_drew1) | exact HB.out)⟩⟩
              · rw [if_neg c28] at H
                have c28b0 : ((t362 == 0) != (decide ((t358.length : Int) > 0))) = false := by simpa using c28
                have c28b4 : ((t362 == 0) != decide (0 < t358.length)) = false := by rw [show decide (0 < t358.length) = decide ((t358.length : Int) > 0) from decide_eq_decide.2 (by omega)]; exact c28b0
                obtain ⟨c28b5, c28b6, c28b7⟩ := bne_f _ _ c28b4
                (try (have c28b1 : decide ((t362 == 0) = (decide ((t358.length : Int) > 0))) = true := by simpa using c28))
                (try (have c28b2 : ((t362 == 0) == (decide ((t358.length : Int) > 0))) = true := by simpa using c28))
                clear c28
                by_cases c29 : t366 = t368
                · rw [if_pos c29] at H
                  have c29b0 : (t366 == t368) = true := beq_iff_eq.mpr c29
                  have c29b1 : (t366 != t368) = false := bne_eq_false_iff_eq.mpr c29
                  clear c29
                  by_cases c30 : t365 = t367
                  · rw [if_pos c30] at H
                    have c30b0 : (t365 == t367) = true := beq_iff_eq.mpr c30
                    have c30b1 : (t365 != t367) = false := bne_eq_false_iff_eq.mpr c30
                    clear c30
                    by_cases c31 : ((t366 == 0) != (decide ((t358.length : Int) > 1))) = true
                    · rw [if_pos c31] at H
                      have c31b0 : ((t366 == 0) != (decide ((t358.length : Int) > 1))) = true := c31
                      have c31b4 : ((t366 == 0) != decide (1 < t358.length)) = true := by rw [show decide (1 < t358.length) = decide ((t358.length : Int) > 1) from decide_eq_decide.2 (by omega)]; exact c31b0
                      obtain ⟨c31b5, c31b6, c31b7⟩ := bne_t _ _ c31b4
                      (try (have c31b1 : decide ((t366 == 0) = (decide ((t358.length : Int) > 1))) = false := by simpa using c31))
                      (try (have c31b2 : ((t366 == 0) == (decide ((t358.length : Int) > 1))) = false := by simpa using c31))
                      (try (have c31b3 : ¬ ((t366 == 0) = (decide ((t358.length : Int) > 1))) := by simpa using c31))
                      clear c31
                      as_aux_lemma =>
                      have H' := Aside0.mk H
                      clear H
                      go_wp2
                      repeat (go_quiet (fail); try go_wp2)
                      go_meet
                      case rel => exact ⟨_, (true), (by first | rfl | (simp; done) | (simp [*]; done)), H', ⟨by have := HJ2.out; first | omega | exact Nat.le_refl _⟩, ⟨by (with_reducible repeat (first | apply Kd.R_alloc | apply Kd.R_drewN | apply Kd.R_drew)); exact HO360.out⟩, ⟨by (with_reducible repeat (first | apply Kd.R_alloc | apply Kd.R_drewN | apply Kd.R_drew)); exact Kd.R_mono HO377.out (fun _ hk => trivial)⟩, ⟨by repeat (first | (with_reducible first | exact HB.out | apply below_alloc | apply pw_below_drewN | apply below_drew1) | exact HB.out)⟩⟩
                    · rw [if_neg c31] at H
                      have c31b0 : ((t366 == 0) != (decide ((t358.length : Int) > 1))) = false := by simpa using c31
                      have c31b4 : ((t366 == 0) != decide (1 < t358.length)) = false := by rw [show decide (1 < t358.length) = decide ((t358.length : Int) > 1) from decide_eq_decide.2 (by omega)]; exact c31b0
                      obtain ⟨c31b5, c31b6, c31b7⟩ := bne_f _ _ c31b4
                      (try (have c31b1 : decide ((t366 == 0) = (decide ((t358.length : Int) > 1))) = true := by simpa using c31))
                      (try (have c31b2 : ((t366 == 0) == (decide ((t358.length : Int) > 1))) = true := by simpa using c31))
                      clear c31
                      by_cases c32 : t371 = t375
                      · rw [if_pos c32] at H
                        have c32b0 : (t371 == t375) = true := beq_iff_eq.mpr c32
                        have c32b1 : (t371 != t375) = false := bne_eq_false_iff_eq.mpr c32
                        clear c32
                        by_cases c33 : t371 = 0
                        · rw [if_pos c33] at H
                          have c33b0 : (t371 == 0) = true := beq_iff_eq.mpr c33
                          have c33b1 : (t371 != 0) = false := bne_eq_false_iff_eq.mpr c33
                          clear c33
                          replace H := Option.bind_eq_some_iff.mp H
                          obtain ⟨t378, A340, H⟩ := H
                          replace H : (if t378 = true then (if (t358.length : Int) > 0 then (laws_FnVotes.j1 kj2 l1 t358 t363 t367 t369 t374 ((t374.length : Int) == 0)) else (laws_FnVotes.j1 kj2 l1 t358 t363 t367 t369 t374 false)) else (laws_FnVotes.j1 kj2 l1 t358 t363 t367 t369 t374 true)) = some r := H
                          have A34 := Aside0.mk A340
                          clear A340
                          by_cases c35 : t378 = true
                          · subst c35
                            have H1 : (if (t358.length : Int) > 0 then (laws_FnVotes.j1 kj2 l1 t358 t363 t367 t369 t374 ((t374.length : Int) == 0)) else (laws_FnVotes.j1 kj2 l1 t358 t363 t367 t369 t374 false)) = some r := by rw [if_pos rfl] at H; exact H
                            clear H
                            have H := H1
                            clear H1
                            by_cases c36 : (t358.length : Int) > 0
                            · rw [if_pos c36] at H
                              have c36b0 : decide (0 < (t358.length : Int)) = true := decide_eq_true c36
                              have c36b1 : decide (0 < t358.length) = true := decide_eq_true (by omega)
                              clear c36
                              (try (have c36q : (t362 == 0) = true := by have z := c28b4; rw [c36b1] at z; revert z; cases (t362 == 0) <;> simp))
                              (try (have c36r : (t362 = 0) = True := eq_true (beq_iff_eq.mp c36q)))
                              as_aux_lemma =>
                              have H' := Aside0.mk H
                              clear H
                              obtain ⟨Ao37, co37, eo37⟩ := Kd.R_slice HO373.out
                              subst eo37
                              obtain ⟨Ao38, co38, eo38⟩ := Kd.R_slice HO377.out
                              subst eo38
                              go_wp2_with (first | (go_at_call 22; (with_reducible refine (spec_SameNumbers.calls kj2 _ _ t370 _ _ t374 true _ ?side1 ?side2 ?side3 ?side4 A34.out).mono ?_); (case side1 => repeat (first | exact (Kd.R_reads' HO373.out).2.2 | (with_reducible refine Kd.C_alloc ?_ _) | (with_reducible refine Kd.C_drewN ?_ _) | (with_reducible refine Kd.C_drew ?_))); (case side2 => exact (Kd.R_reads' HO373.out).2.1); (case side3 => repeat (first | exact (Kd.R_reads' HO377.out).2.2 | (with_reducible refine Kd.C_alloc ?_ _) | (with_reducible refine Kd.C_drewN ?_ _) | (with_reducible refine Kd.C_drew ?_))); (case side4 => exact (Kd.R_reads' HO377.out).2.1); rintro e w' ⟨rfl, ⟨nd, rfl⟩⟩; (try first | exact ⟨rfl, _, World.drewN_drewN _ _ _⟩ | exact ⟨rfl, _, Eq.trans (World.drewN_drewN _ _ _) (congrArg (World.drewN _) (Nat.add_assoc _ _ _))⟩)))
                              repeat (go_quiet (first | (go_at_call 22; (with_reducible refine (spec_SameNumbers.calls kj2 _ _ t370 _ _ t374 true _ ?side1 ?side2 ?side3 ?side4 A34.out).mono ?_); (case side1 => repeat (first | exact (Kd.R_reads' HO373.out).2.2 | (with_reducible refine Kd.C_alloc ?_ _) | (with_reducible refine Kd.C_drewN ?_ _) | (with_reducible refine Kd.C_drew ?_))); (case side2 => exact (Kd.R_reads' HO373.out).2.1); (case side3 => repeat (first | exact (Kd.R_reads' HO377.out).2.2 | (with_reducible refine Kd.C_alloc ?_ _) | (with_reducible refine Kd.C_drewN ?_ _) | (with_reducible refine Kd.C_drew ?_))); (case side4 => exact (Kd.R_reads' HO377.out).2.1); rintro e w' ⟨rfl, ⟨nd, rfl⟩⟩; (try first | exact ⟨rfl, _, World.drewN_drewN _ _ _⟩ | exact ⟨rfl, _, Eq.trans (World.drewN_drewN _ _ _) (congrArg (World.drewN _) (Nat.add_assoc _ _ _))⟩))); try go_wp2_with (first | (go_at_call 22; (with_reducible refine (spec_SameNumbers.calls kj2 _ _ t370 _ _ t374 true _ ?side1 ?side2 ?side3 ?side4 A34.out).mono ?_); (case side1 => repeat (first | exact (Kd.R_reads' HO373.out).2.2 | (with_reducible refine Kd.C_alloc ?_ _) | (with_reducible refine Kd.C_drewN ?_ _) | (with_reducible refine Kd.C_drew ?_))); (case side2 => exact (Kd.R_reads' HO373.out).2.1); (case side3 => repeat (first | exact (Kd.R_reads' HO377.out).2.2 | (with_reducible refine Kd.C_alloc ?_ _) | (with_reducible refine Kd.C_drewN ?_ _) | (with_reducible refine Kd.C_drew ?_))); (case side4 => exact (Kd.R_reads' HO377.out).2.1); rintro e w' ⟨rfl, ⟨nd, rfl⟩⟩; (try first | exact ⟨rfl, _, World.drewN_drewN _ _ _⟩ | exact ⟨rfl, _, Eq.trans (World.drewN_drewN _ _ _) (congrArg (World.drewN _) (Nat.add_assoc _ _ _))⟩))))
                              go_meet
                              case rel => exact ⟨_, (((t374.length : Int) == 0)), (by first | rfl | (simp; done) | (simp [*]; done)), H', ⟨by have := HJ2.out; first | omega | exact Nat.le_refl _⟩, ⟨by (with_reducible repeat (first | apply Kd.R_alloc | apply Kd.R_drewN | apply Kd.R_drew)); exact HO360.out⟩, ⟨by (with_reducible repeat (first | apply Kd.R_alloc | apply Kd.R_drewN | apply Kd.R_drew)); exact Kd.R_mono HO377.out (fun _ hk => trivial)⟩, ⟨by repeat (first | (with_reducible first | exact HB.out | apply below_alloc | apply pw_below_drewN | apply below_drew1) | exact HB.out)⟩⟩
                            · rw [if_neg c36] at H
                              have c36b0 : decide (0 < (t358.length : Int)) = false := decide_eq_false c36
                              have c36b1 : decide (0 < t358.length) = false := decide_eq_false (by omega)
                              clear c36
                              (try (have c36q : (t362 == 0) = false := by have z := c28b4; rw [c36b1] at z; revert z; cases (t362 == 0) <;> simp))
                              (try (have c36r : (t362 = 0) = False := eq_false (beq_eq_false_iff_ne.mp c36q)))
                              as_aux_lemma =>
                              have H' := Aside0.mk H
                              clear H
                              obtain ⟨Ao39, co39, eo39⟩ := Kd.R_slice HO373.out
                              subst eo39
                              obtain ⟨Ao40, co40, eo40⟩ := Kd.R_slice HO377.out
                              subst eo40
                              go_wp2_with (first | (go_at_call 22; (with_reducible refine (spec_SameNumbers.calls kj2 _ _ t370 _ _ t374 true _ ?side1 ?side2 ?side3 ?side4 A34.out).mono ?_); (case side1 => repeat (first | exact (Kd.R_reads' HO373.out).2.2 | (with_reducible refine Kd.C_alloc ?_ _) | (with_reducible refine Kd.C_drewN ?_ _) | (with_reducible refine Kd.C_drew ?_))); (case side2 => exact (Kd.R_reads' HO373.out).2.1); (case side3 => repeat (first | exact (Kd.R_reads' HO377.out).2.2 | (with_reducible refine Kd.C_alloc ?_ _) | (with_reducible refine Kd.C_drewN ?_ _) | (with_reducible refine Kd.C_drew ?_))); (case side4 => exact (Kd.R_reads' HO377.out).2.1); rintro e w' ⟨rfl, ⟨nd, rfl⟩⟩; (try first | exact ⟨rfl, _, World.drewN_drewN _ _ _⟩ | exact ⟨rfl, _, Eq.trans (World.drewN_drewN _ _ _) (congrArg (World.drewN _) (Nat.add_assoc _ _ _))⟩)))
                              repeat (go_quiet (first | (go_at_call 22; (with_reducible refine (spec_SameNumbers.calls kj2 _ _ t370 _ _ t374 true _ ?side1 ?side2 ?side3 ?side4 A34.out).mono ?_); (case side1 => repeat (first | exact (Kd.R_reads' HO373.out).2.2 | (with_reducible refine Kd.C_alloc ?_ _) | (with_reducible refine Kd.C_drewN ?_ _) | (with_reducible refine Kd.C_drew ?_))); (case side2 => exact (Kd.R_reads' HO373.out).2.1); (case side3 => repeat (first | exact (Kd.R_reads' HO377.out).2.2 | (with_reducible refine Kd.C_alloc ?_ _) | (with_reducible refine Kd.C_drewN ?_ _) | (with_reducible refine Kd.C_drew ?_))); (case side4 => exact (Kd.R_reads' HO377.out).2.1); rintro e w' ⟨rfl, ⟨nd, rfl⟩⟩; (try first | exact ⟨rfl, _, World.drewN_drewN _ _ _⟩ | exact ⟨rfl, _, Eq.trans (World.drewN_drewN _ _ _) (congrArg (World.drewN _) (Nat.add_assoc _ _ _))⟩))); try go_wp2_with (first | (go_at_call 22; (with_reducible refine (spec_SameNumbers.calls kj2 _ _ t370 _ _ t374 true _ ?side1 ?side2 ?side3 ?side4 A34.out).mono ?_); (case side1 => repeat (first | exact (Kd.R_reads' HO373.out).2.2 | (with_reducible refine Kd.C_alloc ?_ _) | (with_reducible refine Kd.C_drewN ?_ _) | (with_reducible refine Kd.C_drew ?_))); (case side2 => exact (Kd.R_reads' HO373.out).2.1); (case side3 => repeat (first | exact (Kd.R_reads' HO377.out).2.2 | (with_reducible refine Kd.C_alloc ?_ _) | (with_reducible refine Kd.C_drewN ?_ _) | (with_reducible refine Kd.C_drew ?_))); (case side4 => exact (Kd.R_reads' HO377.out).2.1); rintro e w' ⟨rfl, ⟨nd, rfl⟩⟩; (try first | exact ⟨rfl, _, World.drewN_drewN _ _ _⟩ | exact ⟨rfl, _, Eq.trans (World.drewN_drewN _ _ _) (congrArg (World.drewN _) (Nat.add_assoc _ _ _))⟩))))
                              go_meet
                              case rel => exact ⟨_, (false), (by first | rfl | (simp; done) | (simp [*]; done)), H', ⟨by have := HJ2.out; first | omega | exact Nat.le_refl _⟩, ⟨by (with_reducible repeat (first | apply Kd.R_alloc | apply Kd.R_drewN | apply Kd.R_drew)); exact HO360.out⟩, ⟨by (with_reducible repeat (first | apply Kd.R_alloc | apply Kd.R_drewN | apply Kd.R_drew)); exact Kd.R_mono HO377.out (fun _ hk => trivial)⟩, ⟨by repeat (first | (with_reducible first | exact HB.out | apply below_alloc | apply pw_below_drewN | apply below_drew1) | exact HB.out)⟩⟩
                          · replace c35 := Bool.eq_false_iff.mpr c35
                            subst c35
                            have H1 : (laws_FnVotes.j1 kj2 l1 t358 t363 t367 t369 t374 true) = some r := by rw [if_neg (show ¬ (false = true) by decide)] at H; exact H
                            clear H
                            have H := H1
                            clear H1
                            as_aux_lemma =>
                            have H' := Aside0.mk H
                            clear H
                            obtain ⟨Ao41, co41, eo41⟩ := Kd.R_slice HO373.out
                            subst eo41
                            obtain ⟨Ao42, co42, eo42⟩ := Kd.R_slice HO377.out
                            subst eo42
                            go_wp2_with (first | (go_at_call 22; (with_reducible refine (spec_SameNumbers.calls kj2 _ _ t370 _ _ t374 false _ ?side1 ?side2 ?side3 ?side4 A34.out).mono ?_); (case side1 => repeat (first | exact (Kd.R_reads' HO373.out).2.2 | (with_reducible refine Kd.C_alloc ?_ _) | (with_reducible refine Kd.C_drewN ?_ _) | (with_reducible refine Kd.C_drew ?_))); (case side2 => exact (Kd.R_reads' HO373.out).2.1); (case side3 => repeat (first | exact (Kd.R_reads' HO377.out).2.2 | (with_reducible refine Kd.C_alloc ?_ _) | (with_reducible refine Kd.C_drewN ?_ _) | (with_reducible refine Kd.C_drew ?_))); (case side4 => exact (Kd.R_reads' HO377.out).2.1); rintro e w' ⟨rfl, ⟨nd, rfl⟩⟩; (try first | exact ⟨rfl, _, World.drewN_drewN _ _ _⟩ | exact ⟨rfl, _, Eq.trans (World.drewN_drewN _ _ _) (congrArg (World.drewN _) (Nat.add_assoc _ _ _))⟩)))
                            repeat (go_quiet (first | (go_at_call 22; (with_reducible refine (spec_SameNumbers.calls kj2 _ _ t370 _ _ t374 false _ ?side1 ?side2 ?side3 ?side4 A34.out).mono ?_); (case side1 => repeat (first | exact (Kd.R_reads' HO373.out).2.2 | (with_reducible refine Kd.C_alloc ?_ _) | (with_reducible refine Kd.C_drewN ?_ _) | (with_reducible refine Kd.C_drew ?_))); (case side2 => exact (Kd.R_reads' HO373.out).2.1); (case side3 => repeat (first | exact (Kd.R_reads' HO377.out).2.2 | (with_reducible refine Kd.C_alloc ?_ _) | (with_reducible refine Kd.C_drewN ?_ _) | (with_reducible refine Kd.C_drew ?_))); (case side4 => exact (Kd.R_reads' HO377.out).2.1); rintro e w' ⟨rfl, ⟨nd, rfl⟩⟩; (try first | exact ⟨rfl, _, World.drewN_drewN _ _ _⟩ | exact ⟨rfl, _, Eq.trans (World.drewN_drewN _ _ _) (congrArg (World.drewN _) (Nat.add_assoc _ _ _))⟩))); try go_wp2_with (first | (go_at_call 22; (with_reducible refine (spec_SameNumbers.calls kj2 _ _ t370 _ _ t374 false _ ?side1 ?side2 ?side3 ?side4 A34.out).mono ?_); (case side1 => repeat (first | exact (Kd.R_reads' HO373.out).2.2 | (with_reducible refine Kd.C_alloc ?_ _) | (with_reducible refine Kd.C_drewN ?_ _) | (with_reducible refine Kd.C_drew ?_))); (case side2 => exact (Kd.R_reads' HO373.out).2.1); (case side3 => repeat (first | exact (Kd.R_reads' HO377.out).2.2 | (with_reducible refine Kd.C_alloc ?_ _) | (with_reducible refine Kd.C_drewN ?_ _) | (with_reducible refine Kd.C_drew ?_))); (case side4 => exact (Kd.R_reads' HO377.out).2.1); rintro e w' ⟨rfl, ⟨nd, rfl⟩⟩; (try first | exact ⟨rfl, _, World.drewN_drewN _ _ _⟩ | exact ⟨rfl, _, Eq.trans (World.drewN_drewN _ _ _) (congrArg (World.drewN _) (Nat.add_assoc _ _ _))⟩))))
                            go_meet
                            case rel => exact ⟨_, (true), (by first | rfl | (simp; done) | (simp [*]; done)), H', ⟨by have := HJ2.out; first | omega | exact Nat.le_refl _⟩, ⟨by (with_reducible repeat (first | apply Kd.R_alloc | apply Kd.R_drewN | apply Kd.R_drew)); exact HO360.out⟩, ⟨by (with_reducible repeat (first | apply Kd.R_alloc | apply Kd.R_drewN | apply Kd.R_drew)); exact Kd.R_mono HO377.out (fun _ hk => trivial)⟩, ⟨by repeat (first | (with_reducible first | exact HB.out | apply below_alloc | apply pw_below_drewN | apply below_drew1) | exact HB.out)⟩⟩
                        · rw [if_neg c33] at H
                          have c33b0 : (t371 == 0) = false := beq_eq_false_iff_ne.mpr c33
                          have c33b1 : (t371 != 0) = true := bne_iff_ne.mpr c33
                          as_aux_lemma =>
                          have H' := Aside0.mk H
                          clear H
                          go_wp2
                          repeat (go_quiet (fail); try go_wp2)
                          go_meet
                          case rel => exact ⟨_, (true), (by first | rfl | (simp; done) | (simp [*]; done)), H', ⟨by have := HJ2.out; first | omega | exact Nat.le_refl _⟩, ⟨by (with_reducible repeat (first | apply Kd.R_alloc | apply Kd.R_drewN | apply Kd.R_drew)); exact HO360.out⟩, ⟨by (with_reducible repeat (first | apply Kd.R_alloc | apply Kd.R_drewN | apply Kd.R_drew)); exact Kd.R_mono HO377.out (fun _ hk => trivial)⟩, ⟨by repeat (first | (with_reducible first | exact HB.out | apply below_alloc | apply pw_below_drewN | apply below_drew1) | exact HB.out)⟩⟩
                      · rw [if_neg c32] at H
                        have c32b0 : (t371 == t375) = false := beq_eq_false_iff_ne.mpr c32
                        have c32b1 : (t371 != t375) = true := bne_iff_ne.mpr c32
                        as_aux_lemma =>
                        have H' := Aside0.mk H
                        clear H
                        go_wp2
                        repeat (go_quiet (fail); try go_wp2)
                        go_meet
                        case rel => exact ⟨_, (true), (by first | rfl | (simp; done) | (simp [*]; done)), H', ⟨by have := HJ2.out; first | omega | exact Nat.le_refl _⟩, ⟨by (with_reducible repeat (first | apply Kd.R_alloc | apply Kd.R_drewN | apply Kd.R_drew)); exact HO360.out⟩, ⟨by (with_reducible repeat (first | apply Kd.R_alloc | apply Kd.R_drewN | apply Kd.R_drew)); exact Kd.R_mono HO377.out (fun _ hk => trivial)⟩, ⟨by repeat (first | (with_reducible first | exact HB.out | apply below_alloc | apply pw_below_drewN | apply below_drew1) | exact HB.out)⟩⟩
                  · rw [if_neg c30] at H
                    have c30b0 : (t365 == t367) = false := beq_eq_false_iff_ne.mpr c30
                    have c30b1 : (t365 != t367) = true := bne_iff_ne.mpr c30
                    as_aux_lemma =>
                    have H' := Aside0.mk H
                    clear H
                    go_wp2
                    repeat (go_quiet (fail); try go_wp2)
                    go_meet
                    case rel => exact ⟨_, (true), (by first | rfl | (simp; done) | (simp [*]; done)), H', ⟨by have := HJ2.out; first | omega | exact Nat.le_refl _⟩, ⟨by (with_reducible repeat (first | apply Kd.R_alloc | apply Kd.R_drewN | apply Kd.R_drew)); exact HO360.out⟩, ⟨by (with_reducible repeat (first | apply Kd.R_alloc | apply Kd.R_drewN | apply Kd.R_drew)); exact Kd.R_mono HO377.out (fun _ hk => trivial)⟩, ⟨by repeat (first | (with_reducible first | exact HB.out | apply below_alloc | apply pw_below_drewN | apply below_drew1) | exact HB.out)⟩⟩
                · rw [if_neg c29] at H
                  have c29b0 : (t366 == t368) = false := beq_eq_false_iff_ne.mpr c29
                  have c29b1 : (t366 != t368) = true := bne_iff_ne.mpr c29
                  as_aux_lemma =>
                  have H' := Aside0.mk H
                  clear H
                  go_wp2
                  repeat (go_quiet (fail); try go_wp2)
                  go_meet
                  case rel => exact ⟨_, (true), (by first | rfl | (simp; done) | (simp [*]; done)), H', ⟨by have := HJ2.out; first | omega | exact Nat.le_refl _⟩, ⟨by (with_reducible repeat (first | apply Kd.R_alloc | apply Kd.R_drewN | apply Kd.R_drew)); exact HO360.out⟩, ⟨by (with_reducible repeat (first | apply Kd.R_alloc | apply Kd.R_drewN | apply Kd.R_drew)); exact Kd.R_mono HO377.out (fun _ hk => trivial)⟩, ⟨by repeat (first | (with_reducible first | exact HB.out | apply below_alloc | apply pw_below_drewN | apply below_drew1) | exact HB.out)⟩⟩
            · rw [if_neg c27] at H
              have c27b0 : (t361.toList == t363.toList) = false := beq_eq_false_iff_ne.mpr c27
              have c27b1 : (t361.toList != t363.toList) = true := bne_iff_ne.mpr c27
              as_aux_lemma =>
              have H' := Aside0.mk H
              clear H
              go_wp2
              repeat (go_quiet (fail); try go_wp2)
              go_meet
              case rel => exact ⟨_, (true), (by first | rfl | (simp; done) | (simp [*]; done)), H', ⟨by have := HJ2.out; first | omega | exact Nat.le_refl _⟩, ⟨by (with_reducible repeat (first | apply Kd.R_alloc | apply Kd.R_drewN | apply Kd.R_drew)); exact HO360.out⟩, ⟨by (with_reducible repeat (first | apply Kd.R_alloc | apply Kd.R_drewN | apply Kd.R_drew)); exact Kd.R_mono HO377.out (fun _ hk => trivial)⟩, ⟨by repeat (first | (with_reducible first | exact HB.out | apply below_alloc | apply pw_below_drewN | apply below_drew1) | exact HB.out)⟩⟩
          · rw [if_neg c26] at H
            have c26b0 : (t362 == t364) = false := beq_eq_false_iff_ne.mpr c26
            have c26b1 : (t362 != t364) = true := bne_iff_ne.mpr c26
            (first | rw [c26b0] | (simp only [i64_w, i32_w]; rw [c26b0]) | skip)
            as_aux_lemma =>
            have H' := Aside0.mk H
            clear H
            go_wp2
            repeat (go_quiet (fail); try go_wp2)
            go_meet
            case rel => exact ⟨_, (true), (by first | rfl | (simp; done) | (simp [*]; done)), H', ⟨by have := HJ2.out; first | omega | exact Nat.le_refl _⟩, ⟨by (with_reducible repeat (first | apply Kd.R_alloc | apply Kd.R_drewN | apply Kd.R_drew)); exact HO360.out⟩, ⟨by (with_reducible repeat (first | apply Kd.R_alloc | apply Kd.R_drewN | apply Kd.R_drew)); exact Kd.R_mono HO377.out (fun _ hk => trivial)⟩, ⟨by repeat (first | (with_reducible first | exact HB.out | apply below_alloc | apply pw_below_drewN | apply below_drew1) | exact HB.out)⟩⟩
        case rest =>
          as_aux_lemma =>
          clear HC16
          try clear c1
          try clear c2
          try clear p2
          try clear c3
          try clear c5
          try clear c7
          try clear c26
          try clear c26b0
          try clear c26b1
          try clear c27
          try clear c27b0
          try clear c27b1
          try clear c28
          try clear c28b0
          try clear c28b1
          try clear c28b2
          try clear c29
          try clear c29b0
          try clear c29b1
          try clear c30
          try clear c30b0
          try clear c30b1
          try clear c31
          try clear c31b0
          try clear c31b1
          try clear c31b2
          try clear c32
          try clear c32b0
          try clear c32b1
          try clear c33
          try clear c33b0
          try clear c33b1
          try clear c35
          try clear c36
          try clear c36b0
          try clear c36b1
          try clear p2
          obtain ⟨kq, x137_15, rfl, HA, HJ15, HO_5, HO_17, HB⟩ := hcut
          cases kq with
          | zero => exact absurd HA.out (by simp [laws_FnVotes.j1])
          | succ kj15 =>
            have H := HA.out
            clear HA
            simp only [laws_FnVotes.j1] at H
            by_cases c43 : x137_15 = true
            · subst c43
              have H1 : (some false) = some r := by rw [if_pos rfl] at H; exact H
              clear H
              have H := H1
              clear H1
              exact absurd ((Option.some.inj H).trans HT.out) (by decide)
            · replace c43 := Bool.eq_false_iff.mpr c43
              subst c43
              have H1 : (laws_FnVotes.l0 kj15 l1 t358 t363 t367 t369 t374 0) = some r := by rw [if_neg (show ¬ (false = true) by decide)] at H; exact H
              clear H
              have H := H1
              clear H1
              have H' := Aside0.mk H
              clear H
              go_wp2
              repeat (go_quiet (fail); try go_wp2)
              go_loopg [19] kj15 (fun kq v19 w' => ∃ (x19_3 : Int), v19 = .int .i64 x19_3 ∧ Aside0 (laws_FnVotes.l0 kq l1 t358 t363 t367 t369 t374 x19_3 = some r) ∧ Aside0 (kq ≤ kj15) ∧ Aside0 (Kd.R Kd.string 9 w' w.heap.size (fun _ => True) (.slice Ao18 t358.length co18) t358) ∧ Aside0 (Kd.R (Kd.int .i64) 2 w' w.heap.size (fun _ => True) v376 t374) ∧ Aside0 (Below w.heap.size w w'))
              case atStart => exact ⟨(0), (by first | rfl | (simp; done) | (simp [*]; done)), H', ⟨Nat.le_refl _⟩, ⟨by (with_reducible repeat (first | apply Kd.R_alloc | apply Kd.R_drewN | apply Kd.R_drew)); exact HO_5.out⟩, ⟨by (with_reducible repeat (first | apply Kd.R_alloc | apply Kd.R_drewN | apply Kd.R_drew)); exact HO_17.out⟩, ⟨by repeat (first | (with_reducible first | exact HB.out | apply below_alloc | apply pw_below_drewN | apply below_drew1) | exact HB.out)⟩⟩
              case round =>
                as_aux_lemma =>
                clear H'
                try clear c1
                try clear c2
                try clear p2
                try clear c3
                try clear c4
                try clear c5
                try clear c7
                try clear c26
                try clear c26b0
                try clear c26b1
                try clear c27
                try clear c27b0
                try clear c27b1
                try clear c28
                try clear c28b0
                try clear c28b1
                try clear c28b2
                try clear c29
                try clear c29b0
                try clear c29b1
                try clear c30
                try clear c30b0
                try clear c30b1
                try clear c31
                try clear c31b0
                try clear c31b1
                try clear c31b2
                try clear c32
                try clear c32b0
                try clear c32b1
                try clear c33
                try clear c33b0
                try clear c33b1
                try clear c35
                try clear c36
                try clear c36b0
                try clear c36b1
                try clear c43
                try clear p2
                obtain ⟨x19_3, rfl, HA, HK3, HO_5, HO_17, HB⟩ := hrel
                cases gk with
                | zero => exact absurd HA.out (by simp [laws_FnVotes.l0])
                | succ k3 =>
                  have H := HA.out
                  clear HA
                  simp only [laws_FnVotes.l0] at H
                  by_cases c44 : x19_3 < (t358.length : Int)
                  · rw [if_pos c44] at H
                    have c44b0 : decide (x19_3 < (t358.length : Int)) = true := decide_eq_true c44
                    clear c44
                    have H' := Aside0.mk H
                    clear H
                    go_wp2
                    repeat (go_quiet (fail); try go_wp2)
                    go_loopg [20, 21, 22] k3 (fun kq v20 v21 v22 w' => ∃ (x20_4 : Int) (x21_4 : Bool) (x22_4 : Int), v20 = .int .i64 x20_4 ∧ v21 = .bool x21_4 ∧ v22 = .int .i64 x22_4 ∧ Aside0 (laws_FnVotes.l1 kq l1 t358 t363 t367 t369 t374 x19_3 x20_4 x21_4 x22_4 = some r) ∧ Aside0 (kq ≤ k3) ∧ Aside0 (Kd.R Kd.string 9 w' w.heap.size (fun _ => True) (.slice Ao18 t358.length co18) t358) ∧ Aside0 (Kd.R (Kd.int .i64) 2 w' w.heap.size (fun _ => True) v376 t374) ∧ Aside0 (Below w.heap.size w w'))
                    case atStart => exact ⟨(0), (false), (0), (by first | rfl | (simp; done) | (simp [*]; done)), (by first | rfl | (simp; done) | (simp [*]; done)), (by first | rfl | (simp; done) | (simp [*]; done)), H', ⟨Nat.le_refl _⟩, ⟨by (with_reducible repeat (first | apply Kd.R_alloc | apply Kd.R_drewN | apply Kd.R_drew)); exact HO_5.out⟩, ⟨by (with_reducible repeat (first | apply Kd.R_alloc | apply Kd.R_drewN | apply Kd.R_drew)); exact HO_17.out⟩, ⟨by repeat (first | (with_reducible first | exact HB.out | apply below_alloc | apply pw_below_drewN | apply below_drew1) | exact HB.out)⟩⟩
                    case round =>
                      as_aux_lemma =>
                      clear H'
                      try clear c1
                      try clear c2
                      try clear p2
                      try clear c3
                      try clear c4
                      try clear c5
                      try clear c7
                      try clear c26
                      try clear c26b0
                      try clear c26b1
                      try clear c27
                      try clear c27b0
                      try clear c27b1
                      try clear c28
                      try clear c28b0
                      try clear c28b1
                      try clear c28b2
                      try clear c29
                      try clear c29b0
                      try clear c29b1
                      try clear c30
                      try clear c30b0
                      try clear c30b1
                      try clear c31
                      try clear c31b0
                      try clear c31b1
                      try clear c31b2
                      try clear c32
                      try clear c32b0
                      try clear c32b1
                      try clear c33
                      try clear c33b0
                      try clear c33b1
                      try clear c35
                      try clear c36
                      try clear c36b0
                      try clear c36b1
                      try clear c43
                      try clear c44
                      try clear c44b0
                      try clear p2
                      obtain ⟨x20_4, x21_4, x22_4, rfl, rfl, rfl, HA, HK4, HO_5, HO_17, HB⟩ := hrel
                      cases gk with
                      | zero => exact absurd HA.out (by simp [laws_FnVotes.l1])
                      | succ k4 =>
                        have H := HA.out
                        clear HA
                        simp only [laws_FnVotes.l1] at H
                        by_cases c45 : x22_4 < (t358.length : Int)
                        · rw [if_pos c45] at H
                          have c45b0 : decide (x22_4 < (t358.length : Int)) = true := decide_eq_true c45
                          clear c45
                          by_cases c46 : 0 ≤ x19_3
                          · rw [if_pos c46] at H
                            have c46b0 : decide (0 ≤ x19_3) = true := decide_eq_true c46
                            clear c46
                            by_cases c47 : x19_3 < (t358.length : Int)
                            · rw [if_pos c47] at H
                              have c47b0 : decide (x19_3 < (t358.length : Int)) = true := decide_eq_true c47
                              clear c47
                              by_cases c48 : 0 ≤ x22_4
                              · rw [if_pos c48] at H
                                have c48b0 : decide (0 ≤ x22_4) = true := decide_eq_true c48
                                clear c48
                                replace H := Option.bind_eq_some_iff.mp H
                                obtain ⟨⟨t384, t385⟩, A490, H⟩ := H
                                replace H : ((impl_UnlikeBy.f k4 (rdOf ByteArray.empty t358 x22_4) (rdOf ByteArray.empty t358 x19_3)).bind fun bt388 => (if t385 = 0 then (if bt388.2 = 0 then (if t384 = bt388.1 then (if ((t384 == 0) != ((rdOf ByteArray.empty t358 x19_3).toList == (rdOf ByteArray.empty t358 x22_4).toList)) = true then (laws_FnVotes.j4 k4 l1 t358 t363 t367 t369 t374 x19_3 x20_4 x21_4 x22_4 t384 true) else (if x19_3 = x22_4 then (laws_FnVotes.j4 k4 l1 t358 t363 t367 t369 t374 x19_3 x20_4 x21_4 x22_4 t384 false) else (laws_FnVotes.j4 k4 l1 t358 t363 t367 t369 t374 x19_3 x20_4 x21_4 x22_4 t384 (decide (t384 < t367))))) else (laws_FnVotes.j4 k4 l1 t358 t363 t367 t369 t374 x19_3 x20_4 x21_4 x22_4 t384 true)) else (laws_FnVotes.j4 k4 l1 t358 t363 t367 t369 t374 x19_3 x20_4 x21_4 x22_4 t384 true)) else (laws_FnVotes.j4 k4 l1 t358 t363 t367 t369 t374 x19_3 x20_4 x21_4 x22_4 t384 true))) = some r := H
                                have A49 := Aside0.mk A490
                                clear A490
                                replace H := Option.bind_eq_some_iff.mp H
                                obtain ⟨⟨t388, t389⟩, A500, H⟩ := H
                                replace H : (if t385 = 0 then (if t389 = 0 then (if t384 = t388 then (if ((t384 == 0) != ((rdOf ByteArray.empty t358 x19_3).toList == (rdOf ByteArray.empty t358 x22_4).toList)) = true then (laws_FnVotes.j4 k4 l1 t358 t363 t367 t369 t374 x19_3 x20_4 x21_4 x22_4 t384 true) else (if x19_3 = x22_4 then (laws_FnVotes.j4 k4 l1 t358 t363 t367 t369 t374 x19_3 x20_4 x21_4 x22_4 t384 false) else (laws_FnVotes.j4 k4 l1 t358 t363 t367 t369 t374 x19_3 x20_4 x21_4 x22_4 t384 (decide (t384 < t367))))) else (laws_FnVotes.j4 k4 l1 t358 t363 t367 t369 t374 x19_3 x20_4 x21_4 x22_4 t384 true)) else (laws_FnVotes.j4 k4 l1 t358 t363 t367 t369 t374 x19_3 x20_4 x21_4 x22_4 t384 true)) else (laws_FnVotes.j4 k4 l1 t358 t363 t367 t369 t374 x19_3 x20_4 x21_4 x22_4 t384 true)) = some r := H
                                have A50 := Aside0.mk A500
                                clear A500
                                have HC51 := Aside0.mk H
                                clear H
                                have p382 : 0 ≤ (x19_3 : Int) := of_decide_eq_true (by first | (with_reducible assumption) | assumption)
                                have q382 : x19_3 < (t358.length : Int) := of_decide_eq_true (by first | (with_reducible assumption) | assumption)
                                obtain ⟨ad382, e382, hx382_0⟩ := Kd.at_string (Kd.R_reads' HO_5.out).2.2 x19_3 p382 q382
                                cases e382
                                replace p382 := eq_true p382
                                replace q382 := eq_true q382
                                have p383 : 0 ≤ (x22_4 : Int) := of_decide_eq_true (by first | (with_reducible assumption) | assumption)
                                have q383 : x22_4 < (t358.length : Int) := of_decide_eq_true (by first | (with_reducible assumption) | assumption)
                                obtain ⟨ad383, e383, hx383_0⟩ := Kd.at_string (Kd.R_reads' HO_5.out).2.2 x22_4 p383 q383
                                obtain rfl : ad382 = ad383 := (by injection e383)
                                replace p383 := eq_true p383
                                replace q383 := eq_true q383
                                go_upto_region 23 with (first | (go_at_call 23; (with_reducible refine (impl_UnlikeBy.calls k4 (rdOf ByteArray.empty t358 x19_3) (rdOf ByteArray.empty t358 x22_4) t384 t385 _ A49.out).mono ?_); rintro e w' ⟨rfl, ⟨nd, rfl⟩⟩; (try first | exact ⟨rfl, _, World.drewN_drewN _ _ _⟩ | exact ⟨rfl, _, Eq.trans (World.drewN_drewN _ _ _) (congrArg (World.drewN _) (Nat.add_assoc _ _ _))⟩); have p386 : 0 ≤ (x22_4 : Int) := of_decide_eq_true (by first | (with_reducible assumption) | assumption); have q386 : x22_4 < (t358.length : Int) := of_decide_eq_true (by first | (with_reducible assumption) | assumption); obtain ⟨ad386, e386, hx386_0⟩ := Kd.at_string (Kd.R_reads' HO_5.out).2.2 x22_4 p386 q386; obtain rfl : ad382 = ad386 := (by injection e386); replace p386 := eq_true p386; replace q386 := eq_true q386; have p387 : 0 ≤ (x19_3 : Int) := of_decide_eq_true (by first | (with_reducible assumption) | assumption); have q387 : x19_3 < (t358.length : Int) := of_decide_eq_true (by first | (with_reducible assumption) | assumption); obtain ⟨ad387, e387, hx387_0⟩ := Kd.at_string (Kd.R_reads' HO_5.out).2.2 x19_3 p387 q387; obtain rfl : ad382 = ad387 := (by injection e387); replace p387 := eq_true p387; replace q387 := eq_true q387) | (go_at_call 23; (with_reducible refine (impl_UnlikeBy.calls k4 (rdOf ByteArray.empty t358 x22_4) (rdOf ByteArray.empty t358 x19_3) t388 t389 _ A50.out).mono ?_); rintro e w' ⟨rfl, ⟨nd, rfl⟩⟩; (try first | exact ⟨rfl, _, World.drewN_drewN _ _ _⟩ | exact ⟨rfl, _, Eq.trans (World.drewN_drewN _ _ _) (congrArg (World.drewN _) (Nat.add_assoc _ _ _))⟩)))
                                try (have p386 : 0 ≤ (x22_4 : Int) := of_decide_eq_true (by first | (with_reducible assumption) | assumption); have q386 : x22_4 < (t358.length : Int) := of_decide_eq_true (by first | (with_reducible assumption) | assumption); obtain ⟨ad386, e386, hx386_0⟩ := Kd.at_string (Kd.R_reads' HO_5.out).2.2 x22_4 p386 q386; obtain rfl : ad382 = ad386 := (by injection e386); replace p386 := eq_true p386; replace q386 := eq_true q386; have p387 : 0 ≤ (x19_3 : Int) := of_decide_eq_true (by first | (with_reducible assumption) | assumption); have q387 : x19_3 < (t358.length : Int) := of_decide_eq_true (by first | (with_reducible assumption) | assumption); obtain ⟨ad387, e387, hx387_0⟩ := Kd.at_string (Kd.R_reads' HO_5.out).2.2 x19_3 p387 q387; obtain rfl : ad382 = ad387 := (by injection e387); replace p387 := eq_true p387; replace q387 := eq_true q387)
                                repeat (go_quiet (first | (go_at_call 23; (with_reducible refine (impl_UnlikeBy.calls k4 (rdOf ByteArray.empty t358 x19_3) (rdOf ByteArray.empty t358 x22_4) t384 t385 _ A49.out).mono ?_); rintro e w' ⟨rfl, ⟨nd, rfl⟩⟩; (try first | exact ⟨rfl, _, World.drewN_drewN _ _ _⟩ | exact ⟨rfl, _, Eq.trans (World.drewN_drewN _ _ _) (congrArg (World.drewN _) (Nat.add_assoc _ _ _))⟩); try (have p386 : 0 ≤ (x22_4 : Int) := of_decide_eq_true (by first | (with_reducible assumption) | assumption); have q386 : x22_4 < (t358.length : Int) := of_decide_eq_true (by first | (with_reducible assumption) | assumption); obtain ⟨ad386, e386, hx386_0⟩ := Kd.at_string (Kd.R_reads' HO_5.out).2.2 x22_4 p386 q386; obtain rfl : ad382 = ad386 := (by injection e386); replace p386 := eq_true p386; replace q386 := eq_true q386; have p387 : 0 ≤ (x19_3 : Int) := of_decide_eq_true (by first | (with_reducible assumption) | assumption); have q387 : x19_3 < (t358.length : Int) := of_decide_eq_true (by first | (with_reducible assumption) | assumption); obtain ⟨ad387, e387, hx387_0⟩ := Kd.at_string (Kd.R_reads' HO_5.out).2.2 x19_3 p387 q387; obtain rfl : ad382 = ad387 := (by injection e387); replace p387 := eq_true p387; replace q387 := eq_true q387)) | (go_at_call 23; (with_reducible refine (impl_UnlikeBy.calls k4 (rdOf ByteArray.empty t358 x22_4) (rdOf ByteArray.empty t358 x19_3) t388 t389 _ A50.out).mono ?_); rintro e w' ⟨rfl, ⟨nd, rfl⟩⟩; (try first | exact ⟨rfl, _, World.drewN_drewN _ _ _⟩ | exact ⟨rfl, _, Eq.trans (World.drewN_drewN _ _ _) (congrArg (World.drewN _) (Nat.add_assoc _ _ _))⟩))); go_upto_region 23 with (first | (go_at_call 23; (with_reducible refine (impl_UnlikeBy.calls k4 (rdOf ByteArray.empty t358 x19_3) (rdOf ByteArray.empty t358 x22_4) t384 t385 _ A49.out).mono ?_); rintro e w' ⟨rfl, ⟨nd, rfl⟩⟩; (try first | exact ⟨rfl, _, World.drewN_drewN _ _ _⟩ | exact ⟨rfl, _, Eq.trans (World.drewN_drewN _ _ _) (congrArg (World.drewN _) (Nat.add_assoc _ _ _))⟩); try (have p386 : 0 ≤ (x22_4 : Int) := of_decide_eq_true (by first | (with_reducible assumption) | assumption); have q386 : x22_4 < (t358.length : Int) := of_decide_eq_true (by first | (with_reducible assumption) | assumption); obtain ⟨ad386, e386, hx386_0⟩ := Kd.at_string (Kd.R_reads' HO_5.out).2.2 x22_4 p386 q386; obtain rfl : ad382 = ad386 := (by injection e386); replace p386 := eq_true p386; replace q386 := eq_true q386; have p387 : 0 ≤ (x19_3 : Int) := of_decide_eq_true (by first | (with_reducible assumption) | assumption); have q387 : x19_3 < (t358.length : Int) := of_decide_eq_true (by first | (with_reducible assumption) | assumption); obtain ⟨ad387, e387, hx387_0⟩ := Kd.at_string (Kd.R_reads' HO_5.out).2.2 x19_3 p387 q387; obtain rfl : ad382 = ad387 := (by injection e387); replace p387 := eq_true p387; replace q387 := eq_true q387)) | (go_at_call 23; (with_reducible refine (impl_UnlikeBy.calls k4 (rdOf ByteArray.empty t358 x22_4) (rdOf ByteArray.empty t358 x19_3) t388 t389 _ A50.out).mono ?_); rintro e w' ⟨rfl, ⟨nd, rfl⟩⟩; (try first | exact ⟨rfl, _, World.drewN_drewN _ _ _⟩ | exact ⟨rfl, _, Eq.trans (World.drewN_drewN _ _ _) (congrArg (World.drewN _) (Nat.add_assoc _ _ _))⟩))))
                                (try simp only [Act.put, List.setIfInBounds_toArray, List.set_cons_zero, List.set_cons_succ])
                                go_cut [208] (fun v208 wc => ∃ (kq : Nat) (x208_50 : Bool), v208 = .bool x208_50 ∧ Aside0 (laws_FnVotes.j4 kq l1 t358 t363 t367 t369 t374 x19_3 x20_4 x21_4 x22_4 t384 x208_50 = some r) ∧ Aside0 (kq ≤ k4) ∧ Aside0 (Kd.R Kd.string 9 wc w.heap.size (fun _ => True) (.slice (some ad382) t358.length co18) t358) ∧ Aside0 (Kd.R (Kd.int .i64) 2 wc w.heap.size (fun _ => True) v376 t374) ∧ Aside0 (Below w.heap.size w wc))
                                case first =>
                                  as_aux_lemma =>
                                  have H := HC51.out
                                  clear HC51
                                  by_cases c52 : t385 = 0
                                  · rw [if_pos c52] at H
                                    have c52b0 : (t385 == 0) = true := beq_iff_eq.mpr c52
                                    have c52b1 : (t385 != 0) = false := bne_eq_false_iff_eq.mpr c52
                                    clear c52
                                    (first | rw [c52b0] | (simp only [i64_w, i32_w]; rw [c52b0]) | skip)
                                    by_cases c53 : t389 = 0
                                    · rw [if_pos c53] at H
                                      have c53b0 : (t389 == 0) = true := beq_iff_eq.mpr c53
                                      have c53b1 : (t389 != 0) = false := bne_eq_false_iff_eq.mpr c53
                                      clear c53
                                      by_cases c54 : t384 = t388
                                      · rw [if_pos c54] at H
                                        have c54b0 : (t384 == t388) = true := beq_iff_eq.mpr c54
                                        have c54b1 : (t384 != t388) = false := bne_eq_false_iff_eq.mpr c54
                                        clear c54
                                        by_cases c55 : ((t384 == 0) != ((rdOf ByteArray.empty t358 x19_3).toList == (rdOf ByteArray.empty t358 x22_4).toList)) = true
                                        · rw [if_pos c55] at H
                                          have c55b0 : ((t384 == 0) != ((rdOf ByteArray.empty t358 x19_3).toList == (rdOf ByteArray.empty t358 x22_4).toList)) = true := c55
                                          (try (have c55b1 : decide ((t384 == 0) = ((rdOf ByteArray.empty t358 x19_3).toList == (rdOf ByteArray.empty t358 x22_4).toList)) = false := by simpa using c55))
                                          (try (have c55b2 : ((t384 == 0) == ((rdOf ByteArray.empty t358 x19_3).toList == (rdOf ByteArray.empty t358 x22_4).toList)) = false := by simpa using c55))
                                          (try (have c55b3 : ¬ ((t384 == 0) = ((rdOf ByteArray.empty t358 x19_3).toList == (rdOf ByteArray.empty t358 x22_4).toList)) := by simpa using c55))
                                          clear c55
                                          have H' := Aside0.mk H
                                          clear H
                                          have p390 : 0 ≤ (x19_3 : Int) := of_decide_eq_true (by first | (with_reducible assumption) | assumption)
                                          have q390 : x19_3 < (t358.length : Int) := of_decide_eq_true (by first | (with_reducible assumption) | assumption)
                                          obtain ⟨ad390, e390, hx390_0⟩ := Kd.at_string (Kd.R_reads' HO_5.out).2.2 x19_3 p390 q390
                                          obtain rfl : ad382 = ad390 := (by injection e390)
                                          replace p390 := eq_true p390
                                          replace q390 := eq_true q390
                                          have p391 : 0 ≤ (x22_4 : Int) := of_decide_eq_true (by first | (with_reducible assumption) | assumption)
                                          have q391 : x22_4 < (t358.length : Int) := of_decide_eq_true (by first | (with_reducible assumption) | assumption)
                                          obtain ⟨ad391, e391, hx391_0⟩ := Kd.at_string (Kd.R_reads' HO_5.out).2.2 x22_4 p391 q391
                                          obtain rfl : ad382 = ad391 := (by injection e391)
                                          replace p391 := eq_true p391
                                          replace q391 := eq_true q391
                                          go_wp2
                                          repeat (go_quiet (fail); try go_wp2)
                                          go_meet
                                          case rel => exact ⟨_, (true), (by first | rfl | (simp; done) | (simp [*]; done)), H', ⟨by have := HJ2.out; have := HJ15.out; have := HK3.out; have := HK4.out; first | omega | exact Nat.le_refl _⟩, ⟨by (with_reducible repeat (first | apply Kd.R_alloc | apply Kd.R_drewN | apply Kd.R_drew)); exact HO_5.out⟩, ⟨by (with_reducible repeat (first | apply Kd.R_alloc | apply Kd.R_drewN | apply Kd.R_drew)); exact HO_17.out⟩, ⟨by repeat (first | (with_reducible first | exact HB.out | apply below_alloc | apply pw_below_drewN | apply below_drew1) | exact HB.out)⟩⟩
                                        · rw [if_neg c55] at H
                                          have c55b0 : ((t384 == 0) != ((rdOf ByteArray.empty t358 x19_3).toList == (rdOf ByteArray.empty t358 x22_4).toList)) = false := by simpa using c55
                                          (try (have c55b1 : decide ((t384 == 0) = ((rdOf ByteArray.empty t358 x19_3).toList == (rdOf ByteArray.empty t358 x22_4).toList)) = true := by simpa using c55))
                                          (try (have c55b2 : ((t384 == 0) == ((rdOf ByteArray.empty t358 x19_3).toList == (rdOf ByteArray.empty t358 x22_4).toList)) = true := by simpa using c55))
                                          clear c55
                                          by_cases c56 : x19_3 = x22_4
                                          · rw [if_pos c56] at H
                                            have c56b0 : (x19_3 == x22_4) = true := beq_iff_eq.mpr c56
                                            have c56b1 : (x19_3 != x22_4) = false := bne_eq_false_iff_eq.mpr c56
                                            clear c56
                                            have H' := Aside0.mk H
                                            clear H
                                            have p390 : 0 ≤ (x19_3 : Int) := of_decide_eq_true (by first | (with_reducible assumption) | assumption)
                                            have q390 : x19_3 < (t358.length : Int) := of_decide_eq_true (by first | (with_reducible assumption) | assumption)
                                            obtain ⟨ad390, e390, hx390_0⟩ := Kd.at_string (Kd.R_reads' HO_5.out).2.2 x19_3 p390 q390
                                            obtain rfl : ad382 = ad390 := (by injection e390)
                                            replace p390 := eq_true p390
                                            replace q390 := eq_true q390
                                            have p391 : 0 ≤ (x22_4 : Int) := of_decide_eq_true (by first | (with_reducible assumption) | assumption)
                                            have q391 : x22_4 < (t358.length : Int) := of_decide_eq_true (by first | (with_reducible assumption) | assumption)
                                            obtain ⟨ad391, e391, hx391_0⟩ := Kd.at_string (Kd.R_reads' HO_5.out).2.2 x22_4 p391 q391
                                            obtain rfl : ad382 = ad391 := (by injection e391)
                                            replace p391 := eq_true p391
                                            replace q391 := eq_true q391
                                            go_wp2
                                            repeat (go_quiet (fail); try go_wp2)
                                            go_meet
                                            case rel => exact ⟨_, (false), (by first | rfl | (simp; done) | (simp [*]; done)), H', ⟨by have := HJ2.out; have := HJ15.out; have := HK3.out; have := HK4.out; first | omega | exact Nat.le_refl _⟩, ⟨by (with_reducible repeat (first | apply Kd.R_alloc | apply Kd.R_drewN | apply Kd.R_drew)); exact HO_5.out⟩, ⟨by (with_reducible repeat (first | apply Kd.R_alloc | apply Kd.R_drewN | apply Kd.R_drew)); exact HO_17.out⟩, ⟨by repeat (first | (with_reducible first | exact HB.out | apply below_alloc | apply pw_below_drewN | apply below_drew1) | exact HB.out)⟩⟩
                                          · rw [if_neg c56] at H
                                            have c56b0 : (x19_3 == x22_4) = false := beq_eq_false_iff_ne.mpr c56
                                            have c56b1 : (x19_3 != x22_4) = true := bne_iff_ne.mpr c56
                                            have H' := Aside0.mk H
                                            clear H
                                            have p390 : 0 ≤ (x19_3 : Int) := of_decide_eq_true (by first | (with_reducible assumption) | assumption)
                                            have q390 : x19_3 < (t358.length : Int) := of_decide_eq_true (by first | (with_reducible assumption) | assumption)
                                            obtain ⟨ad390, e390, hx390_0⟩ := Kd.at_string (Kd.R_reads' HO_5.out).2.2 x19_3 p390 q390
                                            obtain rfl : ad382 = ad390 := (by injection e390)
                                            replace p390 := eq_true p390
                                            replace q390 := eq_true q390
                                            have p391 : 0 ≤ (x22_4 : Int) := of_decide_eq_true (by first | (with_reducible assumption) | assumption)
                                            have q391 : x22_4 < (t358.length : Int) := of_decide_eq_true (by first | (with_reducible assumption) | assumption)
                                            obtain ⟨ad391, e391, hx391_0⟩ := Kd.at_string (Kd.R_reads' HO_5.out).2.2 x22_4 p391 q391
                                            obtain rfl : ad382 = ad391 := (by injection e391)
                                            replace p391 := eq_true p391
                                            replace q391 := eq_true q391
                                            go_wp2
                                            repeat (go_quiet (fail); try go_wp2)
                                            go_meet
                                            case rel => exact ⟨_, (decide (t384 < t367)), (by first | rfl | (simp; done) | (simp [*]; done)), H', ⟨by have := HJ2.out; have := HJ15.out; have := HK3.out; have := HK4.out; first | omega | exact Nat.le_refl _⟩, ⟨by (with_reducible repeat (first | apply Kd.R_alloc | apply Kd.R_drewN | apply Kd.R_drew)); exact HO_5.out⟩, ⟨by (with_reducible repeat (first | apply Kd.R_alloc | apply Kd.R_drewN | apply Kd.R_drew)); exact HO_17.out⟩, ⟨by repeat (first | (with_reducible first | exact HB.out | apply below_alloc | apply pw_below_drewN | apply below_drew1) | exact HB.out)⟩⟩
                                      · rw [if_neg c54] at H
                                        have c54b0 : (t384 == t388) = false := beq_eq_false_iff_ne.mpr c54
                                        have c54b1 : (t384 != t388) = true := bne_iff_ne.mpr c54
                                        have H' := Aside0.mk H
                                        clear H
                                        go_wp2
                                        repeat (go_quiet (fail); try go_wp2)
                                        go_meet
                                        case rel => exact ⟨_, (true), (by first | rfl | (simp; done) | (simp [*]; done)), H', ⟨by have := HJ2.out; have := HJ15.out; have := HK3.out; have := HK4.out; first | omega | exact Nat.le_refl _⟩, ⟨by (with_reducible repeat (first | apply Kd.R_alloc | apply Kd.R_drewN | apply Kd.R_drew)); exact HO_5.out⟩, ⟨by (with_reducible repeat (first | apply Kd.R_alloc | apply Kd.R_drewN | apply Kd.R_drew)); exact HO_17.out⟩, ⟨by repeat (first | (with_reducible first | exact HB.out | apply below_alloc | apply pw_below_drewN | apply below_drew1) | exact HB.out)⟩⟩
                                    · rw [if_neg c53] at H
                                      have c53b0 : (t389 == 0) = false := beq_eq_false_iff_ne.mpr c53
                                      have c53b1 : (t389 != 0) = true := bne_iff_ne.mpr c53
                                      have H' := Aside0.mk H
                                      clear H
                                      go_wp2
                                      repeat (go_quiet (fail); try go_wp2)
                                      go_meet
                                      case rel => exact ⟨_, (true), (by first | rfl | (simp; done) | (simp [*]; done)), H', ⟨by have := HJ2.out; have := HJ15.out; have := HK3.out; have := HK4.out; first | omega | exact Nat.le_refl _⟩, ⟨by (with_reducible repeat (first | apply Kd.R_alloc | apply Kd.R_drewN | apply Kd.R_drew)); exact HO_5.out⟩, ⟨by (with_reducible repeat (first | apply Kd.R_alloc | apply Kd.R_drewN | apply Kd.R_drew)); exact HO_17.out⟩, ⟨by repeat (first | (with_reducible first | exact HB.out | apply below_alloc | apply pw_below_drewN | apply below_drew1) | exact HB.out)⟩⟩
                                  · rw [if_neg c52] at H
                                    have c52b0 : (t385 == 0) = false := beq_eq_false_iff_ne.mpr c52
                                    have c52b1 : (t385 != 0) = true := bne_iff_ne.mpr c52
                                    (first | rw [c52b0] | (simp only [i64_w, i32_w]; rw [c52b0]) | skip)
                                    have H' := Aside0.mk H
                                    clear H
                                    go_wp2
                                    repeat (go_quiet (fail); try go_wp2)
                                    go_meet
                                    case rel => exact ⟨_, (true), (by first | rfl | (simp; done) | (simp [*]; done)), H', ⟨by have := HJ2.out; have := HJ15.out; have := HK3.out; have := HK4.out; first | omega | exact Nat.le_refl _⟩, ⟨by (with_reducible repeat (first | apply Kd.R_alloc | apply Kd.R_drewN | apply Kd.R_drew)); exact HO_5.out⟩, ⟨by (with_reducible repeat (first | apply Kd.R_alloc | apply Kd.R_drewN | apply Kd.R_drew)); exact HO_17.out⟩, ⟨by repeat (first | (with_reducible first | exact HB.out | apply below_alloc | apply pw_below_drewN | apply below_drew1) | exact HB.out)⟩⟩
                                case rest =>
                                  as_aux_lemma =>
                                  clear HC51
                                  try clear c1
                                  try clear c2
                                  try clear p2
                                  try clear c3
                                  try clear p3
                                  try clear q3
                                  try clear hx3
                                  try clear c4
                                  try clear c5
                                  try clear c7
                                  try clear c26
                                  try clear c26b0
                                  try clear c26b1
                                  try clear c27
                                  try clear c27b0
                                  try clear c27b1
                                  try clear c28
                                  try clear c28b0
                                  try clear c28b1
                                  try clear c28b2
                                  try clear c29
                                  try clear c29b0
                                  try clear c29b1
                                  try clear c30
                                  try clear c30b0
                                  try clear c30b1
                                  try clear c31
                                  try clear c31b0
                                  try clear c31b1
                                  try clear c31b2
                                  try clear c32
                                  try clear c32b0
                                  try clear c32b1
                                  try clear c33
                                  try clear c33b0
                                  try clear c33b1
                                  try clear c35
                                  try clear c36
                                  try clear c36b0
                                  try clear c36b1
                                  try clear p38
                                  try clear q38
                                  try clear hx38
                                  try clear p39
                                  try clear q39
                                  try clear hx39
                                  try clear c43
                                  try clear c44
                                  try clear c44b0
                                  try clear c45
                                  try clear c45b0
                                  try clear c46
                                  try clear c46b0
                                  try clear c47
                                  try clear c47b0
                                  try clear c48
                                  try clear c48b0
                                  try clear c52
                                  try clear c52b0
                                  try clear c52b1
                                  try clear c53
                                  try clear c53b0
                                  try clear c53b1
                                  try clear c54
                                  try clear c54b0
                                  try clear c54b1
                                  try clear c55
                                  try clear c55b0
                                  try clear c55b1
                                  try clear c55b2
                                  try clear c56
                                  try clear c56b0
                                  try clear c56b1
                                  try clear hx382_0
                                  try clear hx383_0
                                  try clear hx386_0
                                  try clear hx387_0
                                  try clear hx390_0
                                  try clear hx391_0
                                  try clear p2
                                  try clear p382
                                  try clear p383
                                  try clear p386
                                  try clear p387
                                  try clear p390
                                  try clear p391
                                  try clear q382
                                  try clear q383
                                  try clear q386
                                  try clear q387
                                  try clear q390
                                  try clear q391
                                  obtain ⟨kq, x208_50, rfl, HA, HJ50, HO_5, HO_17, HB⟩ := hcut
                                  cases kq with
                                  | zero => exact absurd HA.out (by simp [laws_FnVotes.j4])
                                  | succ kj50 =>
                                    have H := HA.out
                                    clear HA
                                    simp only [laws_FnVotes.j4] at H
                                    by_cases c57 : x208_50 = true
                                    · subst c57
                                      have H1 : (some false) = some r := by rw [if_pos rfl] at H; exact H
                                      clear H
                                      have H := H1
                                      clear H1
                                      exact absurd ((Option.some.inj H).trans HT.out) (by decide)
                                    · replace c57 := Bool.eq_false_iff.mpr c57
                                      subst c57
                                      have H1 : (if t384 = 0 then ((spec_HasNumber.f kj50 t374 x22_4).bind fun t392 => (if t392 = true then (if x22_4 < x19_3 then (if t384 < t369 then (laws_FnVotes.l1 kj50 l1 t358 t363 t367 t369 t374 x19_3 (wrap64 (x20_4 + 1)) true (wrap64 (x22_4 + 1))) else (laws_FnVotes.l1 kj50 l1 t358 t363 t367 t369 t374 x19_3 (wrap64 (x20_4 + 1)) x21_4 (wrap64 (x22_4 + 1)))) else (laws_FnVotes.l1 kj50 l1 t358 t363 t367 t369 t374 x19_3 (wrap64 (x20_4 + 1)) x21_4 (wrap64 (x22_4 + 1)))) else (laws_FnVotes.l1 kj50 l1 t358 t363 t367 t369 t374 x19_3 (wrap64 (x20_4 + 1)) x21_4 (wrap64 (x22_4 + 1))))) else ((spec_HasNumber.f kj50 t374 x22_4).bind fun t393 => (if t393 = true then (if x22_4 < x19_3 then (if t384 < t369 then (laws_FnVotes.l1 kj50 l1 t358 t363 t367 t369 t374 x19_3 x20_4 true (wrap64 (x22_4 + 1))) else (laws_FnVotes.l1 kj50 l1 t358 t363 t367 t369 t374 x19_3 x20_4 x21_4 (wrap64 (x22_4 + 1)))) else (laws_FnVotes.l1 kj50 l1 t358 t363 t367 t369 t374 x19_3 x20_4 x21_4 (wrap64 (x22_4 + 1)))) else (laws_FnVotes.l1 kj50 l1 t358 t363 t367 t369 t374 x19_3 x20_4 x21_4 (wrap64 (x22_4 + 1)))))) = some r := by rw [if_neg (show ¬ (false = true) by decide)] at H; exact H
                                      clear H
                                      have H := H1
                                      clear H1
                                      by_cases c58 : t384 = 0
                                      · rw [if_pos c58] at H
                                        have c58b0 : (t384 == 0) = true := beq_iff_eq.mpr c58
                                        have c58b1 : (t384 != 0) = false := bne_eq_false_iff_eq.mpr c58
                                        clear c58
                                        replace H := Option.bind_eq_some_iff.mp H
                                        obtain ⟨t392, A590, H⟩ := H
                                        replace H : (if t392 = true then (if x22_4 < x19_3 then (if t384 < t369 then (laws_FnVotes.l1 kj50 l1 t358 t363 t367 t369 t374 x19_3 (wrap64 (x20_4 + 1)) true (wrap64 (x22_4 + 1))) else (laws_FnVotes.l1 kj50 l1 t358 t363 t367 t369 t374 x19_3 (wrap64 (x20_4 + 1)) x21_4 (wrap64 (x22_4 + 1)))) else (laws_FnVotes.l1 kj50 l1 t358 t363 t367 t369 t374 x19_3 (wrap64 (x20_4 + 1)) x21_4 (wrap64 (x22_4 + 1)))) else (laws_FnVotes.l1 kj50 l1 t358 t363 t367 t369 t374 x19_3 (wrap64 (x20_4 + 1)) x21_4 (wrap64 (x22_4 + 1)))) = some r := H
                                        have A59 := Aside0.mk A590
                                        clear A590
                                        by_cases c60 : t392 = true
                                        · subst c60
                                          have H1 : (if x22_4 < x19_3 then (if t384 < t369 then (laws_FnVotes.l1 kj50 l1 t358 t363 t367 t369 t374 x19_3 (wrap64 (x20_4 + 1)) true (wrap64 (x22_4 + 1))) else (laws_FnVotes.l1 kj50 l1 t358 t363 t367 t369 t374 x19_3 (wrap64 (x20_4 + 1)) x21_4 (wrap64 (x22_4 + 1)))) else (laws_FnVotes.l1 kj50 l1 t358 t363 t367 t369 t374 x19_3 (wrap64 (x20_4 + 1)) x21_4 (wrap64 (x22_4 + 1)))) = some r := by rw [if_pos rfl] at H; exact H
                                          clear H
                                          have H := H1
                                          clear H1
                                          by_cases c61 : x22_4 < x19_3
                                          · rw [if_pos c61] at H
                                            have c61b0 : decide (x22_4 < x19_3) = true := decide_eq_true c61
                                            clear c61
                                            by_cases c62 : t384 < t369
                                            · rw [if_pos c62] at H
                                              have c62b0 : decide (t384 < t369) = true := decide_eq_true c62
                                              clear c62
                                              have H' := Aside0.mk H
                                              clear H
                                              obtain ⟨Ao63, co63, eo63⟩ := Kd.R_slice HO_17.out
                                              subst eo63
                                              go_wp2_with (first | (go_at_call 24; (with_reducible refine (spec_HasNumber.calls kj50 _ _ t374 x22_4 true _ ?side1 ?side2 A59.out).mono ?_); (case side1 => repeat (first | exact (Kd.R_reads' HO_17.out).2.2 | (with_reducible refine Kd.C_alloc ?_ _) | (with_reducible refine Kd.C_drewN ?_ _) | (with_reducible refine Kd.C_drew ?_))); (case side2 => exact (Kd.R_reads' HO_17.out).2.1); rintro e w' ⟨rfl, ⟨nd, rfl⟩⟩; (try first | exact ⟨rfl, _, World.drewN_drewN _ _ _⟩ | exact ⟨rfl, _, Eq.trans (World.drewN_drewN _ _ _) (congrArg (World.drewN _) (Nat.add_assoc _ _ _))⟩)))
                                              repeat (go_quiet (first | (go_at_call 24; (with_reducible refine (spec_HasNumber.calls kj50 _ _ t374 x22_4 true _ ?side1 ?side2 A59.out).mono ?_); (case side1 => repeat (first | exact (Kd.R_reads' HO_17.out).2.2 | (with_reducible refine Kd.C_alloc ?_ _) | (with_reducible refine Kd.C_drewN ?_ _) | (with_reducible refine Kd.C_drew ?_))); (case side2 => exact (Kd.R_reads' HO_17.out).2.1); rintro e w' ⟨rfl, ⟨nd, rfl⟩⟩; (try first | exact ⟨rfl, _, World.drewN_drewN _ _ _⟩ | exact ⟨rfl, _, Eq.trans (World.drewN_drewN _ _ _) (congrArg (World.drewN _) (Nat.add_assoc _ _ _))⟩))); try go_wp2_with (first | (go_at_call 24; (with_reducible refine (spec_HasNumber.calls kj50 _ _ t374 x22_4 true _ ?side1 ?side2 A59.out).mono ?_); (case side1 => repeat (first | exact (Kd.R_reads' HO_17.out).2.2 | (with_reducible refine Kd.C_alloc ?_ _) | (with_reducible refine Kd.C_drewN ?_ _) | (with_reducible refine Kd.C_drew ?_))); (case side2 => exact (Kd.R_reads' HO_17.out).2.1); rintro e w' ⟨rfl, ⟨nd, rfl⟩⟩; (try first | exact ⟨rfl, _, World.drewN_drewN _ _ _⟩ | exact ⟨rfl, _, Eq.trans (World.drewN_drewN _ _ _) (congrArg (World.drewN _) (Nat.add_assoc _ _ _))⟩))))
                                              go_roundg kj50
                                              case measure => have := HJ2.out; have := HJ15.out; have := HK3.out; have := HK4.out; have := HJ50.out; omega
                                              case rel => exact ⟨(wrap64 (x20_4 + 1)), (true), (wrap64 (x22_4 + 1)), (by first | rfl | (simp; done) | (simp [*]; done)), (by first | rfl | (simp; done) | (simp [*]; done)), (by first | rfl | (simp; done) | (simp [*]; done)), H', ⟨by have := HJ2.out; have := HJ15.out; have := HK3.out; have := HK4.out; have := HJ50.out; omega⟩, ⟨by (with_reducible repeat (first | apply Kd.R_alloc | apply Kd.R_drewN | apply Kd.R_drew)); exact HO_5.out⟩, ⟨by (with_reducible repeat (first | apply Kd.R_alloc | apply Kd.R_drewN | apply Kd.R_drew)); exact HO_17.out⟩, ⟨by repeat (first | (with_reducible first | exact HB.out | apply below_alloc | apply pw_below_drewN | apply below_drew1) | exact HB.out)⟩⟩
                                            · rw [if_neg c62] at H
                                              have c62b0 : decide (t384 < t369) = false := decide_eq_false c62
                                              clear c62
                                              have H' := Aside0.mk H
                                              clear H
                                              obtain ⟨Ao64, co64, eo64⟩ := Kd.R_slice HO_17.out
                                              subst eo64
                                              go_wp2_with (first | (go_at_call 24; (with_reducible refine (spec_HasNumber.calls kj50 _ _ t374 x22_4 true _ ?side1 ?side2 A59.out).mono ?_); (case side1 => repeat (first | exact (Kd.R_reads' HO_17.out).2.2 | (with_reducible refine Kd.C_alloc ?_ _) | (with_reducible refine Kd.C_drewN ?_ _) | (with_reducible refine Kd.C_drew ?_))); (case side2 => exact (Kd.R_reads' HO_17.out).2.1); rintro e w' ⟨rfl, ⟨nd, rfl⟩⟩; (try first | exact ⟨rfl, _, World.drewN_drewN _ _ _⟩ | exact ⟨rfl, _, Eq.trans (World.drewN_drewN _ _ _) (congrArg (World.drewN _) (Nat.add_assoc _ _ _))⟩)))
                                              repeat (go_quiet (first | (go_at_call 24; (with_reducible refine (spec_HasNumber.calls kj50 _ _ t374 x22_4 true _ ?side1 ?side2 A59.out).mono ?_); (case side1 => repeat (first | exact (Kd.R_reads' HO_17.out).2.2 | (with_reducible refine Kd.C_alloc ?_ _) | (with_reducible refine Kd.C_drewN ?_ _) | (with_reducible refine Kd.C_drew ?_))); (case side2 => exact (Kd.R_reads' HO_17.out).2.1); rintro e w' ⟨rfl, ⟨nd, rfl⟩⟩; (try first | exact ⟨rfl, _, World.drewN_drewN _ _ _⟩ | exact ⟨rfl, _, Eq.trans (World.drewN_drewN _ _ _) (congrArg (World.drewN _) (Nat.add_assoc _ _ _))⟩))); try go_wp2_with (first | (go_at_call 24; (with_reducible refine (spec_HasNumber.calls kj50 _ _ t374 x22_4 true _ ?side1 ?side2 A59.out).mono ?_); (case side1 => repeat (first | exact (Kd.R_reads' HO_17.out).2.2 | (with_reducible refine Kd.C_alloc ?_ _) | (with_reducible refine Kd.C_drewN ?_ _) | (with_reducible refine Kd.C_drew ?_))); (case side2 => exact (Kd.R_reads' HO_17.out).2.1); rintro e w' ⟨rfl, ⟨nd, rfl⟩⟩; (try first | exact ⟨rfl, _, World.drewN_drewN _ _ _⟩ | exact ⟨rfl, _, Eq.trans (World.drewN_drewN _ _ _) (congrArg (World.drewN _) (Nat.add_assoc _ _ _))⟩))))
                                              go_roundg kj50
                                              case measure => have := HJ2.out; have := HJ15.out; have := HK3.out; have := HK4.out; have := HJ50.out; omega
                                              case rel => exact ⟨(wrap64 (x20_4 + 1)), (x21_4), (wrap64 (x22_4 + 1)), (by first | rfl | (simp; done) | (simp [*]; done)), (by first | rfl | (simp; done) | (simp [*]; done)), (by first | rfl | (simp; done) | (simp [*]; done)), H', ⟨by have := HJ2.out; have := HJ15.out; have := HK3.out; have := HK4.out; have := HJ50.out; omega⟩, ⟨by (with_reducible repeat (first | apply Kd.R_alloc | apply Kd.R_drewN | apply Kd.R_drew)); exact HO_5.out⟩, ⟨by (with_reducible repeat (first | apply Kd.R_alloc | apply Kd.R_drewN | apply Kd.R_drew)); exact HO_17.out⟩, ⟨by repeat (first | (with_reducible first | exact HB.out | apply below_alloc | apply pw_below_drewN | apply below_drew1) | exact HB.out)⟩⟩
                                          · rw [if_neg c61] at H
                                            have c61b0 : decide (x22_4 < x19_3) = false := decide_eq_false c61
                                            clear c61
                                            have H' := Aside0.mk H
                                            clear H
                                            obtain ⟨Ao65, co65, eo65⟩ := Kd.R_slice HO_17.out
                                            subst eo65
                                            go_wp2_with (first | (go_at_call 24; (with_reducible refine (spec_HasNumber.calls kj50 _ _ t374 x22_4 true _ ?side1 ?side2 A59.out).mono ?_); (case side1 => repeat (first | exact (Kd.R_reads' HO_17.out).2.2 | (with_reducible refine Kd.C_alloc ?_ _) | (with_reducible refine Kd.C_drewN ?_ _) | (with_reducible refine Kd.C_drew ?_))); (case side2 => exact (Kd.R_reads' HO_17.out).2.1); rintro e w' ⟨rfl, ⟨nd, rfl⟩⟩; (try first | exact ⟨rfl, _, World.drewN_drewN _ _ _⟩ | exact ⟨rfl, _, Eq.trans (World.drewN_drewN _ _ _) (congrArg (World.drewN _) (Nat.add_assoc _ _ _))⟩)))
                                            repeat (go_quiet (first | (go_at_call 24; (with_reducible refine (spec_HasNumber.calls kj50 _ _ t374 x22_4 true _ ?side1 ?side2 A59.out).mono ?_); (case side1 => repeat (first | exact (Kd.R_reads' HO_17.out).2.2 | (with_reducible refine Kd.C_alloc ?_ _) | (with_reducible refine Kd.C_drewN ?_ _) | (with_reducible refine Kd.C_drew ?_))); (case side2 => exact (Kd.R_reads' HO_17.out).2.1); rintro e w' ⟨rfl, ⟨nd, rfl⟩⟩; (try first | exact ⟨rfl, _, World.drewN_drewN _ _ _⟩ | exact ⟨rfl, _, Eq.trans (World.drewN_drewN _ _ _) (congrArg (World.drewN _) (Nat.add_assoc _ _ _))⟩))); try go_wp2_with (first | (go_at_call 24; (with_reducible refine (spec_HasNumber.calls kj50 _ _ t374 x22_4 true _ ?side1 ?side2 A59.out).mono ?_); (case side1 => repeat (first | exact (Kd.R_reads' HO_17.out).2.2 | (with_reducible refine Kd.C_alloc ?_ _) | (with_reducible refine Kd.C_drewN ?_ _) | (with_reducible refine Kd.C_drew ?_))); (case side2 => exact (Kd.R_reads' HO_17.out).2.1); rintro e w' ⟨rfl, ⟨nd, rfl⟩⟩; (try first | exact ⟨rfl, _, World.drewN_drewN _ _ _⟩ | exact ⟨rfl, _, Eq.trans (World.drewN_drewN _ _ _) (congrArg (World.drewN _) (Nat.add_assoc _ _ _))⟩))))
                                            go_roundg kj50
                                            case measure => have := HJ2.out; have := HJ15.out; have := HK3.out; have := HK4.out; have := HJ50.out; omega
                                            case rel => exact ⟨(wrap64 (x20_4 + 1)), (x21_4), (wrap64 (x22_4 + 1)), (by first | rfl | (simp; done) | (simp [*]; done)), (by first | rfl | (simp; done) | (simp [*]; done)), (by first | rfl | (simp; done) | (simp [*]; done)), H', ⟨by have := HJ2.out; have := HJ15.out; have := HK3.out; have := HK4.out; have := HJ50.out; omega⟩, ⟨by (with_reducible repeat (first | apply Kd.R_alloc | apply Kd.R_drewN | apply Kd.R_drew)); exact HO_5.out⟩, ⟨by (with_reducible repeat (first | apply Kd.R_alloc | apply Kd.R_drewN | apply Kd.R_drew)); exact HO_17.out⟩, ⟨by repeat (first | (with_reducible first | exact HB.out | apply below_alloc | apply pw_below_drewN | apply below_drew1) | exact HB.out)⟩⟩
                                        · replace c60 := Bool.eq_false_iff.mpr c60
                                          subst c60
                                          have H1 : (laws_FnVotes.l1 kj50 l1 t358 t363 t367 t369 t374 x19_3 (wrap64 (x20_4 + 1)) x21_4 (wrap64 (x22_4 + 1))) = some r := by rw [if_neg (show ¬ (false = true) by decide)] at H; exact H
                                          clear H
                                          have H := H1
                                          clear H1
                                          have H' := Aside0.mk H
                                          clear H
                                          obtain ⟨Ao66, co66, eo66⟩ := Kd.R_slice HO_17.out
                                          subst eo66
                                          go_wp2_with (first | (go_at_call 24; (with_reducible refine (spec_HasNumber.calls kj50 _ _ t374 x22_4 false _ ?side1 ?side2 A59.out).mono ?_); (case side1 => repeat (first | exact (Kd.R_reads' HO_17.out).2.2 | (with_reducible refine Kd.C_alloc ?_ _) | (with_reducible refine Kd.C_drewN ?_ _) | (with_reducible refine Kd.C_drew ?_))); (case side2 => exact (Kd.R_reads' HO_17.out).2.1); rintro e w' ⟨rfl, ⟨nd, rfl⟩⟩; (try first | exact ⟨rfl, _, World.drewN_drewN _ _ _⟩ | exact ⟨rfl, _, Eq.trans (World.drewN_drewN _ _ _) (congrArg (World.drewN _) (Nat.add_assoc _ _ _))⟩)))
                                          repeat (go_quiet (first | (go_at_call 24; (with_reducible refine (spec_HasNumber.calls kj50 _ _ t374 x22_4 false _ ?side1 ?side2 A59.out).mono ?_); (case side1 => repeat (first | exact (Kd.R_reads' HO_17.out).2.2 | (with_reducible refine Kd.C_alloc ?_ _) | (with_reducible refine Kd.C_drewN ?_ _) | (with_reducible refine Kd.C_drew ?_))); (case side2 => exact (Kd.R_reads' HO_17.out).2.1); rintro e w' ⟨rfl, ⟨nd, rfl⟩⟩; (try first | exact ⟨rfl, _, World.drewN_drewN _ _ _⟩ | exact ⟨rfl, _, Eq.trans (World.drewN_drewN _ _ _) (congrArg (World.drewN _) (Nat.add_assoc _ _ _))⟩))); try go_wp2_with (first | (go_at_call 24; (with_reducible refine (spec_HasNumber.calls kj50 _ _ t374 x22_4 false _ ?side1 ?side2 A59.out).mono ?_); (case side1 => repeat (first | exact (Kd.R_reads' HO_17.out).2.2 | (with_reducible refine Kd.C_alloc ?_ _) | (with_reducible refine Kd.C_drewN ?_ _) | (with_reducible refine Kd.C_drew ?_))); (case side2 => exact (Kd.R_reads' HO_17.out).2.1); rintro e w' ⟨rfl, ⟨nd, rfl⟩⟩; (try first | exact ⟨rfl, _, World.drewN_drewN _ _ _⟩ | exact ⟨rfl, _, Eq.trans (World.drewN_drewN _ _ _) (congrArg (World.drewN _) (Nat.add_assoc _ _ _))⟩))))
                                          go_roundg kj50
                                          case measure => have := HJ2.out; have := HJ15.out; have := HK3.out; have := HK4.out; have := HJ50.out; omega
                                          case rel => exact ⟨(wrap64 (x20_4 + 1)), (x21_4), (wrap64 (x22_4 + 1)), (by first | rfl | (simp; done) | (simp [*]; done)), (by first | rfl | (simp; done) | (simp [*]; done)), (by first | rfl | (simp; done) | (simp [*]; done)), H', ⟨by have := HJ2.out; have := HJ15.out; have := HK3.out; have := HK4.out; have := HJ50.out; omega⟩, ⟨by (with_reducible repeat (first | apply Kd.R_alloc | apply Kd.R_drewN | apply Kd.R_drew)); exact HO_5.out⟩, ⟨by (with_reducible repeat (first | apply Kd.R_alloc | apply Kd.R_drewN | apply Kd.R_drew)); exact HO_17.out⟩, ⟨by repeat (first | (with_reducible first | exact HB.out | apply below_alloc | apply pw_below_drewN | apply below_drew1) | exact HB.out)⟩⟩
                                      · rw [if_neg c58] at H
                                        have c58b0 : (t384 == 0) = false := beq_eq_false_iff_ne.mpr c58
                                        have c58b1 : (t384 != 0) = true := bne_iff_ne.mpr c58
                                        replace H := Option.bind_eq_some_iff.mp H
                                        obtain ⟨t393, A670, H⟩ := H
                                        replace H : (if t393 = true then (if x22_4 < x19_3 then (if t384 < t369 then (laws_FnVotes.l1 kj50 l1 t358 t363 t367 t369 t374 x19_3 x20_4 true (wrap64 (x22_4 + 1))) else (laws_FnVotes.l1 kj50 l1 t358 t363 t367 t369 t374 x19_3 x20_4 x21_4 (wrap64 (x22_4 + 1)))) else (laws_FnVotes.l1 kj50 l1 t358 t363 t367 t369 t374 x19_3 x20_4 x21_4 (wrap64 (x22_4 + 1)))) else (laws_FnVotes.l1 kj50 l1 t358 t363 t367 t369 t374 x19_3 x20_4 x21_4 (wrap64 (x22_4 + 1)))) = some r := H
                                        have A67 := Aside0.mk A670
                                        clear A670
                                        by_cases c68 : t393 = true
                                        · subst c68
                                          have H1 : (if x22_4 < x19_3 then (if t384 < t369 then (laws_FnVotes.l1 kj50 l1 t358 t363 t367 t369 t374 x19_3 x20_4 true (wrap64 (x22_4 + 1))) else (laws_FnVotes.l1 kj50 l1 t358 t363 t367 t369 t374 x19_3 x20_4 x21_4 (wrap64 (x22_4 + 1)))) else (laws_FnVotes.l1 kj50 l1 t358 t363 t367 t369 t374 x19_3 x20_4 x21_4 (wrap64 (x22_4 + 1)))) = some r := by rw [if_pos rfl] at H; exact H
                                          clear H
                                          have H := H1
                                          clear H1
                                          by_cases c69 : x22_4 < x19_3
                                          · rw [if_pos c69] at H
                                            have c69b0 : decide (x22_4 < x19_3) = true := decide_eq_true c69
                                            clear c69
                                            by_cases c70 : t384 < t369
                                            · rw [if_pos c70] at H
                                              have c70b0 : decide (t384 < t369) = true := decide_eq_true c70
                                              clear c70
                                              have H' := Aside0.mk H
                                              clear H
                                              obtain ⟨Ao71, co71, eo71⟩ := Kd.R_slice HO_17.out
                                              subst eo71
                                              go_wp2_with (first | (go_at_call 24; (with_reducible refine (spec_HasNumber.calls kj50 _ _ t374 x22_4 true _ ?side1 ?side2 A67.out).mono ?_); (case side1 => repeat (first | exact (Kd.R_reads' HO_17.out).2.2 | (with_reducible refine Kd.C_alloc ?_ _) | (with_reducible refine Kd.C_drewN ?_ _) | (with_reducible refine Kd.C_drew ?_))); (case side2 => exact (Kd.R_reads' HO_17.out).2.1); rintro e w' ⟨rfl, ⟨nd, rfl⟩⟩; (try first | exact ⟨rfl, _, World.drewN_drewN _ _ _⟩ | exact ⟨rfl, _, Eq.trans (World.drewN_drewN _ _ _) (congrArg (World.drewN _) (Nat.add_assoc _ _ _))⟩)))
                                              repeat (go_quiet (first | (go_at_call 24; (with_reducible refine (spec_HasNumber.calls kj50 _ _ t374 x22_4 true _ ?side1 ?side2 A67.out).mono ?_); (case side1 => repeat (first | exact (Kd.R_reads' HO_17.out).2.2 | (with_reducible refine Kd.C_alloc ?_ _) | (with_reducible refine Kd.C_drewN ?_ _) | (with_reducible refine Kd.C_drew ?_))); (case side2 => exact (Kd.R_reads' HO_17.out).2.1); rintro e w' ⟨rfl, ⟨nd, rfl⟩⟩; (try first | exact ⟨rfl, _, World.drewN_drewN _ _ _⟩ | exact ⟨rfl, _, Eq.trans (World.drewN_drewN _ _ _) (congrArg (World.drewN _) (Nat.add_assoc _ _ _))⟩))); try go_wp2_with (first | (go_at_call 24; (with_reducible refine (spec_HasNumber.calls kj50 _ _ t374 x22_4 true _ ?side1 ?side2 A67.out).mono ?_); (case side1 => repeat (first | exact (Kd.R_reads' HO_17.out).2.2 | (with_reducible refine Kd.C_alloc ?_ _) | (with_reducible refine Kd.C_drewN ?_ _) | (with_reducible refine Kd.C_drew ?_))); (case side2 => exact (Kd.R_reads' HO_17.out).2.1); rintro e w' ⟨rfl, ⟨nd, rfl⟩⟩; (try first | exact ⟨rfl, _, World.drewN_drewN _ _ _⟩ | exact ⟨rfl, _, Eq.trans (World.drewN_drewN _ _ _) (congrArg (World.drewN _) (Nat.add_assoc _ _ _))⟩))))
                                              go_roundg kj50
                                              case measure => have := HJ2.out; have := HJ15.out; have := HK3.out; have := HK4.out; have := HJ50.out; omega
                                              case rel => exact ⟨(x20_4), (true), (wrap64 (x22_4 + 1)), (by first | rfl | (simp; done) | (simp [*]; done)), (by first | rfl | (simp; done) | (simp [*]; done)), (by first | rfl | (simp; done) | (simp [*]; done)), H', ⟨by have := HJ2.out; have := HJ15.out; have := HK3.out; have := HK4.out; have := HJ50.out; omega⟩, ⟨by (with_reducible repeat (first | apply Kd.R_alloc | apply Kd.R_drewN | apply Kd.R_drew)); exact HO_5.out⟩, ⟨by (with_reducible repeat (first | apply Kd.R_alloc | apply Kd.R_drewN | apply Kd.R_drew)); exact HO_17.out⟩, ⟨by repeat (first | (with_reducible first | exact HB.out | apply below_alloc | apply pw_below_drewN | apply below_drew1) | exact HB.out)⟩⟩
                                            · rw [if_neg c70] at H
                                              have c70b0 : decide (t384 < t369) = false := decide_eq_false c70
                                              clear c70
                                              have H' := Aside0.mk H
                                              clear H
                                              obtain ⟨Ao72, co72, eo72⟩ := Kd.R_slice HO_17.out
                                              subst eo72
                                              go_wp2_with (first | (go_at_call 24; (with_reducible refine (spec_HasNumber.calls kj50 _ _ t374 x22_4 true _ ?side1 ?side2 A67.out).mono ?_); (case side1 => repeat (first | exact (Kd.R_reads' HO_17.out).2.2 | (with_reducible refine Kd.C_alloc ?_ _) | (with_reducible refine Kd.C_drewN ?_ _) | (with_reducible refine Kd.C_drew ?_))); (case side2 => exact (Kd.R_reads' HO_17.out).2.1); rintro e w' ⟨rfl, ⟨nd, rfl⟩⟩; (try first | exact ⟨rfl, _, World.drewN_drewN _ _ _⟩ | exact ⟨rfl, _, Eq.trans (World.drewN_drewN _ _ _) (congrArg (World.drewN _) (Nat.add_assoc _ _ _))⟩)))
                                              repeat (go_quiet (first | (go_at_call 24; (with_reducible refine (spec_HasNumber.calls kj50 _ _ t374 x22_4 true _ ?side1 ?side2 A67.out).mono ?_); (case side1 => repeat (first | exact (Kd.R_reads' HO_17.out).2.2 | (with_reducible refine Kd.C_alloc ?_ _) | (with_reducible refine Kd.C_drewN ?_ _) | (with_reducible refine Kd.C_drew ?_))); (case side2 => exact (Kd.R_reads' HO_17.out).2.1); rintro e w' ⟨rfl, ⟨nd, rfl⟩⟩; (try first | exact ⟨rfl, _, World.drewN_drewN _ _ _⟩ | exact ⟨rfl, _, Eq.trans (World.drewN_drewN _ _ _) (congrArg (World.drewN _) (Nat.add_assoc _ _ _))⟩))); try go_wp2_with (first | (go_at_call 24; (with_reducible refine (spec_HasNumber.calls kj50 _ _ t374 x22_4 true _ ?side1 ?side2 A67.out).mono ?_); (case side1 => repeat (first | exact (Kd.R_reads' HO_17.out).2.2 | (with_reducible refine Kd.C_alloc ?_ _) | (with_reducible refine Kd.C_drewN ?_ _) | (with_reducible refine Kd.C_drew ?_))); (case side2 => exact (Kd.R_reads' HO_17.out).2.1); rintro e w' ⟨rfl, ⟨nd, rfl⟩⟩; (try first | exact ⟨rfl, _, World.drewN_drewN _ _ _⟩ | exact ⟨rfl, _, Eq.trans (World.drewN_drewN _ _ _) (congrArg (World.drewN _) (Nat.add_assoc _ _ _))⟩))))
                                              go_roundg kj50
                                              case measure => have := HJ2.out; have := HJ15.out; have := HK3.out; have := HK4.out; have := HJ50.out; omega
                                              case rel => exact ⟨(x20_4), (x21_4), (wrap64 (x22_4 + 1)), (by first | rfl | (simp; done) | (simp [*]; done)), (by first | rfl | (simp; done) | (simp [*]; done)), (by first | rfl | (simp; done) | (simp [*]; done)), H', ⟨by have := HJ2.out; have := HJ15.out; have := HK3.out; have := HK4.out; have := HJ50.out; omega⟩, ⟨by (with_reducible repeat (first | apply Kd.R_alloc | apply Kd.R_drewN | apply Kd.R_drew)); exact HO_5.out⟩, ⟨by (with_reducible repeat (first | apply Kd.R_alloc | apply Kd.R_drewN | apply Kd.R_drew)); exact HO_17.out⟩, ⟨by repeat (first | (with_reducible first | exact HB.out | apply below_alloc | apply pw_below_drewN | apply below_drew1) | exact HB.out)⟩⟩
                                          · rw [if_neg c69] at H
                                            have c69b0 : decide (x22_4 < x19_3) = false := decide_eq_false c69
                                            clear c69
                                            have H' := Aside0.mk H
                                            clear H
                                            obtain ⟨Ao73, co73, eo73⟩ := Kd.R_slice HO_17.out
                                            subst eo73
                                            go_wp2_with (first | (go_at_call 24; (with_reducible refine (spec_HasNumber.calls kj50 _ _ t374 x22_4 true _ ?side1 ?side2 A67.out).mono ?_); (case side1 => repeat (first | exact (Kd.R_reads' HO_17.out).2.2 | (with_reducible refine Kd.C_alloc ?_ _) | (with_reducible refine Kd.C_drewN ?_ _) | (with_reducible refine Kd.C_drew ?_))); (case side2 => exact (Kd.R_reads' HO_17.out).2.1); rintro e w' ⟨rfl, ⟨nd, rfl⟩⟩; (try first | exact ⟨rfl, _, World.drewN_drewN _ _ _⟩ | exact ⟨rfl, _, Eq.trans (World.drewN_drewN _ _ _) (congrArg (World.drewN _) (Nat.add_assoc _ _ _))⟩)))
                                            repeat (go_quiet (first | (go_at_call 24; (with_reducible refine (spec_HasNumber.calls kj50 _ _ t374 x22_4 true _ ?side1 ?side2 A67.out).mono ?_); (case side1 => repeat (first | exact (Kd.R_reads' HO_17.out).2.2 | (with_reducible refine Kd.C_alloc ?_ _) | (with_reducible refine Kd.C_drewN ?_ _) | (with_reducible refine Kd.C_drew ?_))); (case side2 => exact (Kd.R_reads' HO_17.out).2.1); rintro e w' ⟨rfl, ⟨nd, rfl⟩⟩; (try first | exact ⟨rfl, _, World.drewN_drewN _ _ _⟩ | exact ⟨rfl, _, Eq.trans (World.drewN_drewN _ _ _) (congrArg (World.drewN _) (Nat.add_assoc _ _ _))⟩))); try go_wp2_with (first | (go_at_call 24; (with_reducible refine (spec_HasNumber.calls kj50 _ _ t374 x22_4 true _ ?side1 ?side2 A67.out).mono ?_); (case side1 => repeat (first | exact (Kd.R_reads' HO_17.out).2.2 | (with_reducible refine Kd.C_alloc ?_ _) | (with_reducible refine Kd.C_drewN ?_ _) | (with_reducible refine Kd.C_drew ?_))); (case side2 => exact (Kd.R_reads' HO_17.out).2.1); rintro e w' ⟨rfl, ⟨nd, rfl⟩⟩; (try first | exact ⟨rfl, _, World.drewN_drewN _ _ _⟩ | exact ⟨rfl, _, Eq.trans (World.drewN_drewN _ _ _) (congrArg (World.drewN _) (Nat.add_assoc _ _ _))⟩))))
                                            go_roundg kj50
                                            case measure => have := HJ2.out; have := HJ15.out; have := HK3.out; have := HK4.out; have := HJ50.out; omega
                                            case rel => exact ⟨(x20_4), (x21_4), (wrap64 (x22_4 + 1)), (by first | rfl | (simp; done) | (simp [*]; done)), (by first | rfl | (simp; done) | (simp [*]; done)), (by first | rfl | (simp; done) | (simp [*]; done)), H', ⟨by have := HJ2.out; have := HJ15.out; have := HK3.out; have := HK4.out; have := HJ50.out; omega⟩, ⟨by (with_reducible repeat (first | apply Kd.R_alloc | apply Kd.R_drewN | apply Kd.R_drew)); exact HO_5.out⟩, ⟨by (with_reducible repeat (first | apply Kd.R_alloc | apply Kd.R_drewN | apply Kd.R_drew)); exact HO_17.out⟩, ⟨by repeat (first | (with_reducible first | exact HB.out | apply below_alloc | apply pw_below_drewN | apply below_drew1) | exact HB.out)⟩⟩
                                        · replace c68 := Bool.eq_false_iff.mpr c68
                                          subst c68
                                          have H1 : (laws_FnVotes.l1 kj50 l1 t358 t363 t367 t369 t374 x19_3 x20_4 x21_4 (wrap64 (x22_4 + 1))) = some r := by rw [if_neg (show ¬ (false = true) by decide)] at H; exact H
                                          clear H
                                          have H := H1
                                          clear H1
                                          have H' := Aside0.mk H
                                          clear H
                                          obtain ⟨Ao74, co74, eo74⟩ := Kd.R_slice HO_17.out
                                          subst eo74
                                          go_wp2_with (first | (go_at_call 24; (with_reducible refine (spec_HasNumber.calls kj50 _ _ t374 x22_4 false _ ?side1 ?side2 A67.out).mono ?_); (case side1 => repeat (first | exact (Kd.R_reads' HO_17.out).2.2 | (with_reducible refine Kd.C_alloc ?_ _) | (with_reducible refine Kd.C_drewN ?_ _) | (with_reducible refine Kd.C_drew ?_))); (case side2 => exact (Kd.R_reads' HO_17.out).2.1); rintro e w' ⟨rfl, ⟨nd, rfl⟩⟩; (try first | exact ⟨rfl, _, World.drewN_drewN _ _ _⟩ | exact ⟨rfl, _, Eq.trans (World.drewN_drewN _ _ _) (congrArg (World.drewN _) (Nat.add_assoc _ _ _))⟩)))
                                          repeat (go_quiet (first | (go_at_call 24; (with_reducible refine (spec_HasNumber.calls kj50 _ _ t374 x22_4 false _ ?side1 ?side2 A67.out).mono ?_); (case side1 => repeat (first | exact (Kd.R_reads' HO_17.out).2.2 | (with_reducible refine Kd.C_alloc ?_ _) | (with_reducible refine Kd.C_drewN ?_ _) | (with_reducible refine Kd.C_drew ?_))); (case side2 => exact (Kd.R_reads' HO_17.out).2.1); rintro e w' ⟨rfl, ⟨nd, rfl⟩⟩; (try first | exact ⟨rfl, _, World.drewN_drewN _ _ _⟩ | exact ⟨rfl, _, Eq.trans (World.drewN_drewN _ _ _) (congrArg (World.drewN _) (Nat.add_assoc _ _ _))⟩))); try go_wp2_with (first | (go_at_call 24; (with_reducible refine (spec_HasNumber.calls kj50 _ _ t374 x22_4 false _ ?side1 ?side2 A67.out).mono ?_); (case side1 => repeat (first | exact (Kd.R_reads' HO_17.out).2.2 | (with_reducible refine Kd.C_alloc ?_ _) | (with_reducible refine Kd.C_drewN ?_ _) | (with_reducible refine Kd.C_drew ?_))); (case side2 => exact (Kd.R_reads' HO_17.out).2.1); rintro e w' ⟨rfl, ⟨nd, rfl⟩⟩; (try first | exact ⟨rfl, _, World.drewN_drewN _ _ _⟩ | exact ⟨rfl, _, Eq.trans (World.drewN_drewN _ _ _) (congrArg (World.drewN _) (Nat.add_assoc _ _ _))⟩))))
                                          go_roundg kj50
                                          case measure => have := HJ2.out; have := HJ15.out; have := HK3.out; have := HK4.out; have := HJ50.out; omega
                                          case rel => exact ⟨(x20_4), (x21_4), (wrap64 (x22_4 + 1)), (by first | rfl | (simp; done) | (simp [*]; done)), (by first | rfl | (simp; done) | (simp [*]; done)), (by first | rfl | (simp; done) | (simp [*]; done)), H', ⟨by have := HJ2.out; have := HJ15.out; have := HK3.out; have := HK4.out; have := HJ50.out; omega⟩, ⟨by (with_reducible repeat (first | apply Kd.R_alloc | apply Kd.R_drewN | apply Kd.R_drew)); exact HO_5.out⟩, ⟨by (with_reducible repeat (first | apply Kd.R_alloc | apply Kd.R_drewN | apply Kd.R_drew)); exact HO_17.out⟩, ⟨by repeat (first | (with_reducible first | exact HB.out | apply below_alloc | apply pw_below_drewN | apply below_drew1) | exact HB.out)⟩⟩
                              · rw [if_neg c48] at H
                                exact absurd H (by simp)
                            · rw [if_neg c47] at H
                              exact absurd H (by simp)
                          · rw [if_neg c46] at H
                            exact absurd H (by simp)
                        · rw [if_neg c45] at H
                          have c45b0 : decide (x22_4 < (t358.length : Int)) = false := decide_eq_false c45
                          clear c45
                          by_cases c75 : (wrap64 (2 * x20_4)) > (t358.length : Int)
                          · rw [if_pos c75] at H
                            have c75b0 : decide ((t358.length : Int) < (wrap64 (2 * x20_4))) = true := decide_eq_true c75
                            (try (have c75b1 : decide ((t358.length : Int) < (IntKind.i64.wrap (2 * x20_4))) = true := by first | simpa only [i64_w, i32_w] using (show decide ((t358.length : Int) < (wrap64 (2 * x20_4))) = true from decide_eq_true c75) | simpa only [i64_w] using (show decide ((t358.length : Int) < (wrap64 (2 * x20_4))) = true from decide_eq_true c75)))
                            clear c75
                            by_cases c76 : 0 ≤ x19_3
                            · rw [if_pos c76] at H
                              have c76b0 : decide (0 ≤ x19_3) = true := decide_eq_true c76
                              clear c76
                              by_cases c77 : x19_3 < (t358.length : Int)
                              · rw [if_pos c77] at H
                                have c77b0 : decide (x19_3 < (t358.length : Int)) = true := decide_eq_true c77
                                clear c77
                                by_cases c78 : t363.toList = (rdOf ByteArray.empty t358 x19_3).toList
                                · rw [if_pos c78] at H
                                  have c78b0 : (t363.toList == (rdOf ByteArray.empty t358 x19_3).toList) = true := beq_iff_eq.mpr c78
                                  have c78b1 : (t363.toList != (rdOf ByteArray.empty t358 x19_3).toList) = false := bne_eq_false_iff_eq.mpr c78
                                  clear c78
                                  replace H := Option.bind_eq_some_iff.mp H
                                  obtain ⟨t380, A790, H⟩ := H
                                  replace H : (if (t380 == x21_4) = true then (some false) else (laws_FnVotes.l0 k4 l1 t358 t363 t367 t369 t374 (wrap64 (x19_3 + 1)))) = some r := H
                                  have A79 := Aside0.mk A790
                                  clear A790
                                  by_cases c80 : (t380 == x21_4) = true
                                  · rw [if_pos c80] at H
                                    have c80b0 : (t380 == x21_4) = true := c80
                                    (try (have c80b1 : decide (t380 = x21_4) = true := by simpa using c80))
                                    (try (have c80b2 : (t380 == x21_4) = true := by simpa using c80))
                                    clear c80
                                    exact absurd ((Option.some.inj H).trans HT.out) (by decide)
                                  · rw [if_neg c80] at H
                                    have c80b0 : (t380 == x21_4) = false := by simpa using c80
                                    (try (have c80b1 : decide (t380 = x21_4) = false := by simpa using c80))
                                    (try (have c80b2 : (t380 == x21_4) = false := by simpa using c80))
                                    (try (have c80b3 : ¬ (t380 = x21_4) := by simpa using c80))
                                    clear c80
                                    have H' := Aside0.mk H
                                    clear H
                                    have p379 : 0 ≤ (x19_3 : Int) := of_decide_eq_true (by first | (with_reducible assumption) | assumption)
                                    have q379 : x19_3 < (t358.length : Int) := of_decide_eq_true (by first | (with_reducible assumption) | assumption)
                                    obtain ⟨ad379, e379, hx379_0⟩ := Kd.at_string (Kd.R_reads' HO_5.out).2.2 x19_3 p379 q379
                                    cases e379
                                    replace p379 := eq_true p379
                                    replace q379 := eq_true q379
                                    obtain ⟨Ao81, co81, eo81⟩ := Kd.R_slice HO_17.out
                                    subst eo81
                                    go_wp2_with (first | (go_at_call 24; (with_reducible refine (spec_HasNumber.calls k4 _ _ t374 x19_3 t380 _ ?side1 ?side2 A79.out).mono ?_); (case side1 => repeat (first | exact (Kd.R_reads' HO_17.out).2.2 | (with_reducible refine Kd.C_alloc ?_ _) | (with_reducible refine Kd.C_drewN ?_ _) | (with_reducible refine Kd.C_drew ?_))); (case side2 => exact (Kd.R_reads' HO_17.out).2.1); rintro e w' ⟨rfl, ⟨nd, rfl⟩⟩; (try first | exact ⟨rfl, _, World.drewN_drewN _ _ _⟩ | exact ⟨rfl, _, Eq.trans (World.drewN_drewN _ _ _) (congrArg (World.drewN _) (Nat.add_assoc _ _ _))⟩)))
                                    repeat (go_quiet (first | (go_at_call 24; (with_reducible refine (spec_HasNumber.calls k4 _ _ t374 x19_3 t380 _ ?side1 ?side2 A79.out).mono ?_); (case side1 => repeat (first | exact (Kd.R_reads' HO_17.out).2.2 | (with_reducible refine Kd.C_alloc ?_ _) | (with_reducible refine Kd.C_drewN ?_ _) | (with_reducible refine Kd.C_drew ?_))); (case side2 => exact (Kd.R_reads' HO_17.out).2.1); rintro e w' ⟨rfl, ⟨nd, rfl⟩⟩; (try first | exact ⟨rfl, _, World.drewN_drewN _ _ _⟩ | exact ⟨rfl, _, Eq.trans (World.drewN_drewN _ _ _) (congrArg (World.drewN _) (Nat.add_assoc _ _ _))⟩))); try go_wp2_with (first | (go_at_call 24; (with_reducible refine (spec_HasNumber.calls k4 _ _ t374 x19_3 t380 _ ?side1 ?side2 A79.out).mono ?_); (case side1 => repeat (first | exact (Kd.R_reads' HO_17.out).2.2 | (with_reducible refine Kd.C_alloc ?_ _) | (with_reducible refine Kd.C_drewN ?_ _) | (with_reducible refine Kd.C_drew ?_))); (case side2 => exact (Kd.R_reads' HO_17.out).2.1); rintro e w' ⟨rfl, ⟨nd, rfl⟩⟩; (try first | exact ⟨rfl, _, World.drewN_drewN _ _ _⟩ | exact ⟨rfl, _, Eq.trans (World.drewN_drewN _ _ _) (congrArg (World.drewN _) (Nat.add_assoc _ _ _))⟩))))
                                    go_roundg k4
                                    case measure => have := HJ2.out; have := HJ15.out; have := HK3.out; have := HK4.out; omega
                                    case rel => exact ⟨(wrap64 (x19_3 + 1)), (by first | rfl | (simp; done) | (simp [*]; done)), H', ⟨by have := HJ2.out; have := HJ15.out; have := HK3.out; have := HK4.out; omega⟩, ⟨by (with_reducible repeat (first | apply Kd.R_alloc | apply Kd.R_drewN | apply Kd.R_drew)); exact HO_5.out⟩, ⟨by (with_reducible repeat (first | apply Kd.R_alloc | apply Kd.R_drewN | apply Kd.R_drew)); exact HO_17.out⟩, ⟨by repeat (first | (with_reducible first | exact HB.out | apply below_alloc | apply pw_below_drewN | apply below_drew1) | exact HB.out)⟩⟩
                                · rw [if_neg c78] at H
                                  have c78b0 : (t363.toList == (rdOf ByteArray.empty t358 x19_3).toList) = false := beq_eq_false_iff_ne.mpr c78
                                  have c78b1 : (t363.toList != (rdOf ByteArray.empty t358 x19_3).toList) = true := bne_iff_ne.mpr c78
                                  exact absurd ((Option.some.inj H).trans HT.out) (by decide)
                              · rw [if_neg c77] at H
                                exact absurd H (by simp)
                            · rw [if_neg c76] at H
                              exact absurd H (by simp)
                          · rw [if_neg c75] at H
                            have c75b0 : decide ((t358.length : Int) < (wrap64 (2 * x20_4))) = false := decide_eq_false c75
                            (try (have c75b1 : decide ((t358.length : Int) < (IntKind.i64.wrap (2 * x20_4))) = false := by first | simpa only [i64_w, i32_w] using (show decide ((t358.length : Int) < (wrap64 (2 * x20_4))) = false from decide_eq_false c75) | simpa only [i64_w] using (show decide ((t358.length : Int) < (wrap64 (2 * x20_4))) = false from decide_eq_false c75)))
                            clear c75
                            replace H := Option.bind_eq_some_iff.mp H
                            obtain ⟨t381, A820, H⟩ := H
                            replace H : (if (t381 == x21_4) = true then (some false) else (laws_FnVotes.l0 k4 l1 t358 t363 t367 t369 t374 (wrap64 (x19_3 + 1)))) = some r := H
                            have A82 := Aside0.mk A820
                            clear A820
                            by_cases c83 : (t381 == x21_4) = true
                            · rw [if_pos c83] at H
                              have c83b0 : (t381 == x21_4) = true := c83
                              (try (have c83b1 : decide (t381 = x21_4) = true := by simpa using c83))
                              (try (have c83b2 : (t381 == x21_4) = true := by simpa using c83))
                              clear c83
                              exact absurd ((Option.some.inj H).trans HT.out) (by decide)
                            · rw [if_neg c83] at H
                              have c83b0 : (t381 == x21_4) = false := by simpa using c83
                              (try (have c83b1 : decide (t381 = x21_4) = false := by simpa using c83))
                              (try (have c83b2 : (t381 == x21_4) = false := by simpa using c83))
                              (try (have c83b3 : ¬ (t381 = x21_4) := by simpa using c83))
                              clear c83
                              have H' := Aside0.mk H
                              clear H
                              obtain ⟨Ao84, co84, eo84⟩ := Kd.R_slice HO_17.out
                              subst eo84
                              go_wp2_with (first | (go_at_call 24; (with_reducible refine (spec_HasNumber.calls k4 _ _ t374 x19_3 t381 _ ?side1 ?side2 A82.out).mono ?_); (case side1 => repeat (first | exact (Kd.R_reads' HO_17.out).2.2 | (with_reducible refine Kd.C_alloc ?_ _) | (with_reducible refine Kd.C_drewN ?_ _) | (with_reducible refine Kd.C_drew ?_))); (case side2 => exact (Kd.R_reads' HO_17.out).2.1); rintro e w' ⟨rfl, ⟨nd, rfl⟩⟩; (try first | exact ⟨rfl, _, World.drewN_drewN _ _ _⟩ | exact ⟨rfl, _, Eq.trans (World.drewN_drewN _ _ _) (congrArg (World.drewN _) (Nat.add_assoc _ _ _))⟩)))
                              repeat (go_quiet (first | (go_at_call 24; (with_reducible refine (spec_HasNumber.calls k4 _ _ t374 x19_3 t381 _ ?side1 ?side2 A82.out).mono ?_); (case side1 => repeat (first | exact (Kd.R_reads' HO_17.out).2.2 | (with_reducible refine Kd.C_alloc ?_ _) | (with_reducible refine Kd.C_drewN ?_ _) | (with_reducible refine Kd.C_drew ?_))); (case side2 => exact (Kd.R_reads' HO_17.out).2.1); rintro e w' ⟨rfl, ⟨nd, rfl⟩⟩; (try first | exact ⟨rfl, _, World.drewN_drewN _ _ _⟩ | exact ⟨rfl, _, Eq.trans (World.drewN_drewN _ _ _) (congrArg (World.drewN _) (Nat.add_assoc _ _ _))⟩))); try go_wp2_with (first | (go_at_call 24; (with_reducible refine (spec_HasNumber.calls k4 _ _ t374 x19_3 t381 _ ?side1 ?side2 A82.out).mono ?_); (case side1 => repeat (first | exact (Kd.R_reads' HO_17.out).2.2 | (with_reducible refine Kd.C_alloc ?_ _) | (with_reducible refine Kd.C_drewN ?_ _) | (with_reducible refine Kd.C_drew ?_))); (case side2 => exact (Kd.R_reads' HO_17.out).2.1); rintro e w' ⟨rfl, ⟨nd, rfl⟩⟩; (try first | exact ⟨rfl, _, World.drewN_drewN _ _ _⟩ | exact ⟨rfl, _, Eq.trans (World.drewN_drewN _ _ _) (congrArg (World.drewN _) (Nat.add_assoc _ _ _))⟩))))
                              go_roundg k4
                              case measure => have := HJ2.out; have := HJ15.out; have := HK3.out; have := HK4.out; omega
                              case rel => exact ⟨(wrap64 (x19_3 + 1)), (by first | rfl | (simp; done) | (simp [*]; done)), H', ⟨by have := HJ2.out; have := HJ15.out; have := HK3.out; have := HK4.out; omega⟩, ⟨by (with_reducible repeat (first | apply Kd.R_alloc | apply Kd.R_drewN | apply Kd.R_drew)); exact HO_5.out⟩, ⟨by (with_reducible repeat (first | apply Kd.R_alloc | apply Kd.R_drewN | apply Kd.R_drew)); exact HO_17.out⟩, ⟨by repeat (first | (with_reducible first | exact HB.out | apply below_alloc | apply pw_below_drewN | apply below_drew1) | exact HB.out)⟩⟩
                  · rw [if_neg c44] at H
                    have c44b0 : decide (x19_3 < (t358.length : Int)) = false := decide_eq_false c44
                    clear c44
                    replace H := Option.bind_eq_some_iff.mp H
                    obtain ⟨t394, A850, H⟩ := H
                    replace H : ((impl_NearestWord.f k3 t358 t394).bind fun bt395 => ((spec_NearestWord.f k3 t358 t394).bind fun bt398 => (if bt395.2.2 = bt398.2.2 then (if bt395.1 = bt398.1 then (if bt395.2.1 = bt398.2.1 then (if (t358.length : Int) > 0 then (if 0 < (t358.length : Int) then (laws_FnVotes.j5 k3 t358 t394 bt395.2.2 bt398.1 bt398.2.1 ((bt395.2.2 == 0) != (((rdOf ByteArray.empty t358 0).size : Int) == (t394.size : Int)))) else (none)) else (laws_FnVotes.j5 k3 t358 t394 bt395.2.2 bt398.1 bt398.2.1 ((bt395.2.2 == 0) != false))) else (laws_FnVotes.j5 k3 t358 t394 bt395.2.2 bt398.1 bt398.2.1 true)) else (laws_FnVotes.j5 k3 t358 t394 bt395.2.2 bt398.1 bt398.2.1 true)) else (laws_FnVotes.j5 k3 t358 t394 bt395.2.2 bt398.1 bt398.2.1 true)))) = some r := H
                    have A85 := Aside0.mk A850
                    clear A850
                    replace H := Option.bind_eq_some_iff.mp H
                    obtain ⟨⟨t395, t396, t397⟩, A860, H⟩ := H
                    replace H : ((spec_NearestWord.f k3 t358 t394).bind fun bt398 => (if t397 = bt398.2.2 then (if t395 = bt398.1 then (if t396 = bt398.2.1 then (if (t358.length : Int) > 0 then (if 0 < (t358.length : Int) then (laws_FnVotes.j5 k3 t358 t394 t397 bt398.1 bt398.2.1 ((t397 == 0) != (((rdOf ByteArray.empty t358 0).size : Int) == (t394.size : Int)))) else (none)) else (laws_FnVotes.j5 k3 t358 t394 t397 bt398.1 bt398.2.1 ((t397 == 0) != false))) else (laws_FnVotes.j5 k3 t358 t394 t397 bt398.1 bt398.2.1 true)) else (laws_FnVotes.j5 k3 t358 t394 t397 bt398.1 bt398.2.1 true)) else (laws_FnVotes.j5 k3 t358 t394 t397 bt398.1 bt398.2.1 true))) = some r := H
                    have A86 := Aside0.mk A860
                    clear A860
                    replace H := Option.bind_eq_some_iff.mp H
                    obtain ⟨⟨t398, t399, t400⟩, A870, H⟩ := H
                    replace H : (if t397 = t400 then (if t395 = t398 then (if t396 = t399 then (if (t358.length : Int) > 0 then (if 0 < (t358.length : Int) then (laws_FnVotes.j5 k3 t358 t394 t397 t398 t399 ((t397 == 0) != (((rdOf ByteArray.empty t358 0).size : Int) == (t394.size : Int)))) else (none)) else (laws_FnVotes.j5 k3 t358 t394 t397 t398 t399 ((t397 == 0) != false))) else (laws_FnVotes.j5 k3 t358 t394 t397 t398 t399 true)) else (laws_FnVotes.j5 k3 t358 t394 t397 t398 t399 true)) else (laws_FnVotes.j5 k3 t358 t394 t397 t398 t399 true)) = some r := H
                    have A87 := Aside0.mk A870
                    clear A870
                    have HC88 := Aside0.mk H
                    clear H
                    go_upto_region 34 with (first | (go_at_call 25; (with_reducible refine (spec_P6Word.calls k3 _ _ l1 t394 _ ?side1 ?side2 A85.out).mono ?_); (case side1 => repeat (first | exact (Kd.C_below HR1.out HB.out) | (with_reducible refine Kd.C_alloc ?_ _) | (with_reducible refine Kd.C_drewN ?_ _) | (with_reducible refine Kd.C_drew ?_))); (case side2 => exact HC1.out); rintro e w89 ⟨rfl, hb⟩; have n0_ := Aside0.mk (Kd.R_below (by (with_reducible repeat (first | apply Kd.R_alloc | apply Kd.R_drewN | apply Kd.R_drew)); exact HO_5.out) hb); have n1_ := Aside0.mk (Kd.R_below (by (with_reducible repeat (first | apply Kd.R_alloc | apply Kd.R_drewN | apply Kd.R_drew)); exact HO_17.out) hb); have n2_ := Aside0.mk (below_step (by repeat (first | (with_reducible first | exact HB.out | apply below_alloc | apply pw_below_drewN | apply below_drew1) | exact HB.out)) hb); clear HO_5; clear HO_17; clear HB; have HO_5 := n0_; have HO_17 := n1_; have HB := n2_; clear n0_ n1_ n2_; (try clear hb); (try clear hb2); (try clear hk); (try clear hi)) | (go_at_call 26; (with_reducible refine (impl_NearestWord.calls k3 _ _ t358 t394 t395 t396 t397 _ ?side1 ?side2 A86.out).mono ?_); (case side1 => repeat (first | exact (Kd.R_reads' HO_5.out).2.2 | (with_reducible refine Kd.C_alloc ?_ _) | (with_reducible refine Kd.C_drewN ?_ _) | (with_reducible refine Kd.C_drew ?_))); (case side2 => exact (Kd.R_reads' HO_5.out).2.1); rintro e w90 ⟨rfl, hb⟩; have n0_ := Aside0.mk (Kd.R_below (by (with_reducible repeat (first | apply Kd.R_alloc | apply Kd.R_drewN | apply Kd.R_drew)); exact HO_5.out) hb); have n1_ := Aside0.mk (Kd.R_below (by (with_reducible repeat (first | apply Kd.R_alloc | apply Kd.R_drewN | apply Kd.R_drew)); exact HO_17.out) hb); have n2_ := Aside0.mk (below_step (by repeat (first | (with_reducible first | exact HB.out | apply below_alloc | apply pw_below_drewN | apply below_drew1) | exact HB.out)) hb); clear HO_5; clear HO_17; clear HB; have HO_5 := n0_; have HO_17 := n1_; have HB := n2_; clear n0_ n1_ n2_; (try clear hb); (try clear hb2); (try clear hk); (try clear hi)) | (go_at_call 27; (with_reducible refine (spec_NearestWord.calls k3 _ _ t358 t394 t398 t399 t400 _ ?side1 ?side2 A87.out).mono ?_); (case side1 => repeat (first | exact (Kd.R_reads' HO_5.out).2.2 | (with_reducible refine Kd.C_alloc ?_ _) | (with_reducible refine Kd.C_drewN ?_ _) | (with_reducible refine Kd.C_drew ?_))); (case side2 => exact (Kd.R_reads' HO_5.out).2.1); rintro e w91 ⟨rfl, hb⟩; have n0_ := Aside0.mk (Kd.R_below (by (with_reducible repeat (first | apply Kd.R_alloc | apply Kd.R_drewN | apply Kd.R_drew)); exact HO_5.out) hb); have n1_ := Aside0.mk (Kd.R_below (by (with_reducible repeat (first | apply Kd.R_alloc | apply Kd.R_drewN | apply Kd.R_drew)); exact HO_17.out) hb); have n2_ := Aside0.mk (below_step (by repeat (first | (with_reducible first | exact HB.out | apply below_alloc | apply pw_below_drewN | apply below_drew1) | exact HB.out)) hb); clear HO_5; clear HO_17; clear HB; have HO_5 := n0_; have HO_17 := n1_; have HB := n2_; clear n0_ n1_ n2_; (try clear hb); (try clear hb2); (try clear hk); (try clear hi)))
                    repeat (go_quiet (first | (go_at_call 25; (with_reducible refine (spec_P6Word.calls k3 _ _ l1 t394 _ ?side1 ?side2 A85.out).mono ?_); (case side1 => repeat (first | exact (Kd.C_below HR1.out HB.out) | (with_reducible refine Kd.C_alloc ?_ _) | (with_reducible refine Kd.C_drewN ?_ _) | (with_reducible refine Kd.C_drew ?_))); (case side2 => exact HC1.out); rintro e w89 ⟨rfl, hb⟩; have n0_ := Aside0.mk (Kd.R_below (by (with_reducible repeat (first | apply Kd.R_alloc | apply Kd.R_drewN | apply Kd.R_drew)); exact HO_5.out) hb); have n1_ := Aside0.mk (Kd.R_below (by (with_reducible repeat (first | apply Kd.R_alloc | apply Kd.R_drewN | apply Kd.R_drew)); exact HO_17.out) hb); have n2_ := Aside0.mk (below_step (by repeat (first | (with_reducible first | exact HB.out | apply below_alloc | apply pw_below_drewN | apply below_drew1) | exact HB.out)) hb); clear HO_5; clear HO_17; clear HB; have HO_5 := n0_; have HO_17 := n1_; have HB := n2_; clear n0_ n1_ n2_; (try clear hb); (try clear hb2); (try clear hk); (try clear hi)) | (go_at_call 26; (with_reducible refine (impl_NearestWord.calls k3 _ _ t358 t394 t395 t396 t397 _ ?side1 ?side2 A86.out).mono ?_); (case side1 => repeat (first | exact (Kd.R_reads' HO_5.out).2.2 | (with_reducible refine Kd.C_alloc ?_ _) | (with_reducible refine Kd.C_drewN ?_ _) | (with_reducible refine Kd.C_drew ?_))); (case side2 => exact (Kd.R_reads' HO_5.out).2.1); rintro e w90 ⟨rfl, hb⟩; have n0_ := Aside0.mk (Kd.R_below (by (with_reducible repeat (first | apply Kd.R_alloc | apply Kd.R_drewN | apply Kd.R_drew)); exact HO_5.out) hb); have n1_ := Aside0.mk (Kd.R_below (by (with_reducible repeat (first | apply Kd.R_alloc | apply Kd.R_drewN | apply Kd.R_drew)); exact HO_17.out) hb); have n2_ := Aside0.mk (below_step (by repeat (first | (with_reducible first | exact HB.out | apply below_alloc | apply pw_below_drewN | apply below_drew1) | exact HB.out)) hb); clear HO_5; clear HO_17; clear HB; have HO_5 := n0_; have HO_17 := n1_; have HB := n2_; clear n0_ n1_ n2_; (try clear hb); (try clear hb2); (try clear hk); (try clear hi)) | (go_at_call 27; (with_reducible refine (spec_NearestWord.calls k3 _ _ t358 t394 t398 t399 t400 _ ?side1 ?side2 A87.out).mono ?_); (case side1 => repeat (first | exact (Kd.R_reads' HO_5.out).2.2 | (with_reducible refine Kd.C_alloc ?_ _) | (with_reducible refine Kd.C_drewN ?_ _) | (with_reducible refine Kd.C_drew ?_))); (case side2 => exact (Kd.R_reads' HO_5.out).2.1); rintro e w91 ⟨rfl, hb⟩; have n0_ := Aside0.mk (Kd.R_below (by (with_reducible repeat (first | apply Kd.R_alloc | apply Kd.R_drewN | apply Kd.R_drew)); exact HO_5.out) hb); have n1_ := Aside0.mk (Kd.R_below (by (with_reducible repeat (first | apply Kd.R_alloc | apply Kd.R_drewN | apply Kd.R_drew)); exact HO_17.out) hb); have n2_ := Aside0.mk (below_step (by repeat (first | (with_reducible first | exact HB.out | apply below_alloc | apply pw_below_drewN | apply below_drew1) | exact HB.out)) hb); clear HO_5; clear HO_17; clear HB; have HO_5 := n0_; have HO_17 := n1_; have HB := n2_; clear n0_ n1_ n2_; (try clear hb); (try clear hb2); (try clear hk); (try clear hi))); go_upto_region 34 with (first | (go_at_call 25; (with_reducible refine (spec_P6Word.calls k3 _ _ l1 t394 _ ?side1 ?side2 A85.out).mono ?_); (case side1 => repeat (first | exact (Kd.C_below HR1.out HB.out) | (with_reducible refine Kd.C_alloc ?_ _) | (with_reducible refine Kd.C_drewN ?_ _) | (with_reducible refine Kd.C_drew ?_))); (case side2 => exact HC1.out); rintro e w89 ⟨rfl, hb⟩; have n0_ := Aside0.mk (Kd.R_below (by (with_reducible repeat (first | apply Kd.R_alloc | apply Kd.R_drewN | apply Kd.R_drew)); exact HO_5.out) hb); have n1_ := Aside0.mk (Kd.R_below (by (with_reducible repeat (first | apply Kd.R_alloc | apply Kd.R_drewN | apply Kd.R_drew)); exact HO_17.out) hb); have n2_ := Aside0.mk (below_step (by repeat (first | (with_reducible first | exact HB.out | apply below_alloc | apply pw_below_drewN | apply below_drew1) | exact HB.out)) hb); clear HO_5; clear HO_17; clear HB; have HO_5 := n0_; have HO_17 := n1_; have HB := n2_; clear n0_ n1_ n2_; (try clear hb); (try clear hb2); (try clear hk); (try clear hi)) | (go_at_call 26; (with_reducible refine (impl_NearestWord.calls k3 _ _ t358 t394 t395 t396 t397 _ ?side1 ?side2 A86.out).mono ?_); (case side1 => repeat (first | exact (Kd.R_reads' HO_5.out).2.2 | (with_reducible refine Kd.C_alloc ?_ _) | (with_reducible refine Kd.C_drewN ?_ _) | (with_reducible refine Kd.C_drew ?_))); (case side2 => exact (Kd.R_reads' HO_5.out).2.1); rintro e w90 ⟨rfl, hb⟩; have n0_ := Aside0.mk (Kd.R_below (by (with_reducible repeat (first | apply Kd.R_alloc | apply Kd.R_drewN | apply Kd.R_drew)); exact HO_5.out) hb); have n1_ := Aside0.mk (Kd.R_below (by (with_reducible repeat (first | apply Kd.R_alloc | apply Kd.R_drewN | apply Kd.R_drew)); exact HO_17.out) hb); have n2_ := Aside0.mk (below_step (by repeat (first | (with_reducible first | exact HB.out | apply below_alloc | apply pw_below_drewN | apply below_drew1) | exact HB.out)) hb); clear HO_5; clear HO_17; clear HB; have HO_5 := n0_; have HO_17 := n1_; have HB := n2_; clear n0_ n1_ n2_; (try clear hb); (try clear hb2); (try clear hk); (try clear hi)) | (go_at_call 27; (with_reducible refine (spec_NearestWord.calls k3 _ _ t358 t394 t398 t399 t400 _ ?side1 ?side2 A87.out).mono ?_); (case side1 => repeat (first | exact (Kd.R_reads' HO_5.out).2.2 | (with_reducible refine Kd.C_alloc ?_ _) | (with_reducible refine Kd.C_drewN ?_ _) | (with_reducible refine Kd.C_drew ?_))); (case side2 => exact (Kd.R_reads' HO_5.out).2.1); rintro e w91 ⟨rfl, hb⟩; have n0_ := Aside0.mk (Kd.R_below (by (with_reducible repeat (first | apply Kd.R_alloc | apply Kd.R_drewN | apply Kd.R_drew)); exact HO_5.out) hb); have n1_ := Aside0.mk (Kd.R_below (by (with_reducible repeat (first | apply Kd.R_alloc | apply Kd.R_drewN | apply Kd.R_drew)); exact HO_17.out) hb); have n2_ := Aside0.mk (below_step (by repeat (first | (with_reducible first | exact HB.out | apply below_alloc | apply pw_below_drewN | apply below_drew1) | exact HB.out)) hb); clear HO_5; clear HO_17; clear HB; have HO_5 := n0_; have HO_17 := n1_; have HB := n2_; clear n0_ n1_ n2_; (try clear hb); (try clear hb2); (try clear hk); (try clear hi))))
                    (try simp only [Act.put, List.setIfInBounds_toArray, List.set_cons_zero, List.set_cons_succ])
                    go_cut [291] (fun v291 wc => ∃ (kq : Nat) (x291_87 : Bool), v291 = .bool x291_87 ∧ Aside0 (laws_FnVotes.j5 kq t358 t394 t397 t398 t399 x291_87 = some r) ∧ Aside0 (kq ≤ k3) ∧ Aside0 (Kd.R Kd.string 9 wc w.heap.size (fun _ => True) (.slice Ao18 t358.length co18) t358) ∧ Aside0 (Below w.heap.size w wc))
                    case first =>
                      as_aux_lemma =>
                      have H := HC88.out
                      clear HC88
                      by_cases c92 : t397 = t400
                      · rw [if_pos c92] at H
                        have c92b0 : (t397 == t400) = true := beq_iff_eq.mpr c92
                        have c92b1 : (t397 != t400) = false := bne_eq_false_iff_eq.mpr c92
                        clear c92
                        (first | rw [c92b0] | (simp only [i64_w, i32_w]; rw [c92b0]) | skip)
                        by_cases c93 : t395 = t398
                        · rw [if_pos c93] at H
                          have c93b0 : (t395 == t398) = true := beq_iff_eq.mpr c93
                          have c93b1 : (t395 != t398) = false := bne_eq_false_iff_eq.mpr c93
                          clear c93
                          by_cases c94 : t396 = t399
                          · rw [if_pos c94] at H
                            have c94b0 : (t396 == t399) = true := beq_iff_eq.mpr c94
                            have c94b1 : (t396 != t399) = false := bne_eq_false_iff_eq.mpr c94
                            clear c94
                            by_cases c95 : (t358.length : Int) > 0
                            · rw [if_pos c95] at H
                              have c95b0 : decide (0 < (t358.length : Int)) = true := decide_eq_true c95
                              have c95b1 : decide (0 < t358.length) = true := decide_eq_true (by omega)
                              clear c95
                              (try (have c95q : (t362 == 0) = true := by have z := c28b4; rw [c95b1] at z; revert z; cases (t362 == 0) <;> simp))
                              (try (have c95r : (t362 = 0) = True := eq_true (beq_iff_eq.mp c95q)))
                              by_cases c96 : 0 < (t358.length : Int)
                              · rw [if_pos c96] at H
                                have c96b0 : decide (0 < (t358.length : Int)) = true := decide_eq_true c96
                                have c96b1 : decide (0 < t358.length) = true := decide_eq_true (by omega)
                                clear c96
                                (try (have c96q : (t362 == 0) = true := by have z := c28b4; rw [c96b1] at z; revert z; cases (t362 == 0) <;> simp))
                                (try (have c96r : (t362 = 0) = True := eq_true (beq_iff_eq.mp c96q)))
                                have H' := Aside0.mk H
                                clear H
                                have p401 : 0 ≤ (0 : Int) := (by omega)
                                have q401 : 0 < (t358.length : Int) := of_decide_eq_true (by first | (with_reducible assumption) | assumption)
                                obtain ⟨ad401, e401, hx401_0⟩ := Kd.at_string (Kd.R_reads' HO_5.out).2.2 0 p401 q401
                                cases e401
                                have qi401 : (0 < t358.length) = True := eq_true (by omega)
                                (try rw [show ((0 : Int)).toNat = 0 from rfl] at hx401_0)
                                (try rw [Addr.add_zero'] at hx401_0)
                                replace p401 := eq_true p401
                                replace q401 := eq_true q401
                                go_wp2
                                repeat (go_quiet (fail); try go_wp2)
                                go_meet
                                case rel => exact ⟨_, (((t397 == 0) != (((rdOf ByteArray.empty t358 0).size : Int) == (t394.size : Int)))), (by first | rfl | (simp; done) | (simp [*]; done)), H', ⟨by have := HJ2.out; have := HJ15.out; have := HK3.out; first | omega | exact Nat.le_refl _⟩, ⟨by (with_reducible repeat (first | apply Kd.R_alloc | apply Kd.R_drewN | apply Kd.R_drew)); exact HO_5.out⟩, ⟨by repeat (first | (with_reducible first | exact HB.out | apply below_alloc | apply pw_below_drewN | apply below_drew1) | exact HB.out)⟩⟩
                              · rw [if_neg c96] at H
                                exact absurd H (by simp)
                            · rw [if_neg c95] at H
                              have c95b0 : decide (0 < (t358.length : Int)) = false := decide_eq_false c95
                              have c95b1 : decide (0 < t358.length) = false := decide_eq_false (by omega)
                              clear c95
                              (try (have c95q : (t362 == 0) = false := by have z := c28b4; rw [c95b1] at z; revert z; cases (t362 == 0) <;> simp))
                              (try (have c95r : (t362 = 0) = False := eq_false (beq_eq_false_iff_ne.mp c95q)))
                              have H' := Aside0.mk H
                              clear H
                              go_wp2
                              repeat (go_quiet (fail); try go_wp2)
                              go_meet
                              case rel => exact ⟨_, (((t397 == 0) != false)), (by first | rfl | (simp; done) | (simp [*]; done)), H', ⟨by have := HJ2.out; have := HJ15.out; have := HK3.out; first | omega | exact Nat.le_refl _⟩, ⟨by (with_reducible repeat (first | apply Kd.R_alloc | apply Kd.R_drewN | apply Kd.R_drew)); exact HO_5.out⟩, ⟨by repeat (first | (with_reducible first | exact HB.out | apply below_alloc | apply pw_below_drewN | apply below_drew1) | exact HB.out)⟩⟩
                          · rw [if_neg c94] at H
                            have c94b0 : (t396 == t399) = false := beq_eq_false_iff_ne.mpr c94
                            have c94b1 : (t396 != t399) = true := bne_iff_ne.mpr c94
                            have H' := Aside0.mk H
                            clear H
                            go_wp2
                            repeat (go_quiet (fail); try go_wp2)
                            go_meet
                            case rel => exact ⟨_, (true), (by first | rfl | (simp; done) | (simp [*]; done)), H', ⟨by have := HJ2.out; have := HJ15.out; have := HK3.out; first | omega | exact Nat.le_refl _⟩, ⟨by (with_reducible repeat (first | apply Kd.R_alloc | apply Kd.R_drewN | apply Kd.R_drew)); exact HO_5.out⟩, ⟨by repeat (first | (with_reducible first | exact HB.out | apply below_alloc | apply pw_below_drewN | apply below_drew1) | exact HB.out)⟩⟩
                        · rw [if_neg c93] at H
                          have c93b0 : (t395 == t398) = false := beq_eq_false_iff_ne.mpr c93
                          have c93b1 : (t395 != t398) = true := bne_iff_ne.mpr c93
                          have H' := Aside0.mk H
                          clear H
                          go_wp2
                          repeat (go_quiet (fail); try go_wp2)
                          go_meet
                          case rel => exact ⟨_, (true), (by first | rfl | (simp; done) | (simp [*]; done)), H', ⟨by have := HJ2.out; have := HJ15.out; have := HK3.out; first | omega | exact Nat.le_refl _⟩, ⟨by (with_reducible repeat (first | apply Kd.R_alloc | apply Kd.R_drewN | apply Kd.R_drew)); exact HO_5.out⟩, ⟨by repeat (first | (with_reducible first | exact HB.out | apply below_alloc | apply pw_below_drewN | apply below_drew1) | exact HB.out)⟩⟩
                      · rw [if_neg c92] at H
                        have c92b0 : (t397 == t400) = false := beq_eq_false_iff_ne.mpr c92
                        have c92b1 : (t397 != t400) = true := bne_iff_ne.mpr c92
                        (first | rw [c92b0] | (simp only [i64_w, i32_w]; rw [c92b0]) | skip)
                        have H' := Aside0.mk H
                        clear H
                        go_wp2
                        repeat (go_quiet (fail); try go_wp2)
                        go_meet
                        case rel => exact ⟨_, (true), (by first | rfl | (simp; done) | (simp [*]; done)), H', ⟨by have := HJ2.out; have := HJ15.out; have := HK3.out; first | omega | exact Nat.le_refl _⟩, ⟨by (with_reducible repeat (first | apply Kd.R_alloc | apply Kd.R_drewN | apply Kd.R_drew)); exact HO_5.out⟩, ⟨by repeat (first | (with_reducible first | exact HB.out | apply below_alloc | apply pw_below_drewN | apply below_drew1) | exact HB.out)⟩⟩
                    case rest =>
                      as_aux_lemma =>
                      clear HC88
                      try clear c1
                      try clear c2
                      try clear p2
                      try clear c3
                      try clear p3
                      try clear q3
                      try clear hx3
                      try clear c4
                      try clear p4
                      try clear q4
                      try clear hx4
                      try clear qi4
                      try clear c5
                      try clear c6
                      try clear p6
                      try clear c7
                      try clear c8
                      try clear c9
                      try clear c26
                      try clear c26b0
                      try clear c26b1
                      try clear c27
                      try clear c27b0
                      try clear c27b1
                      try clear c28
                      try clear c28b0
                      try clear c28b1
                      try clear c28b2
                      try clear c29
                      try clear c29b0
                      try clear c29b1
                      try clear c30
                      try clear c30b0
                      try clear c30b1
                      try clear c31
                      try clear c31b0
                      try clear c31b1
                      try clear c31b2
                      try clear c32
                      try clear c32b0
                      try clear c32b1
                      try clear c33
                      try clear c33b0
                      try clear c33b1
                      try clear c35
                      try clear c36
                      try clear c36b0
                      try clear c36b1
                      try clear p37
                      try clear q37
                      try clear hx37
                      try clear p38
                      try clear q38
                      try clear hx38
                      try clear p39
                      try clear q39
                      try clear hx39
                      try clear p40
                      try clear q40
                      try clear hx40
                      try clear qi40
                      try clear c43
                      try clear c44
                      try clear c44b0
                      try clear c45
                      try clear c45b0
                      try clear c46
                      try clear c46b0
                      try clear c47
                      try clear c47b0
                      try clear c48
                      try clear c48b0
                      try clear c52
                      try clear c52b0
                      try clear c52b1
                      try clear c53
                      try clear c53b0
                      try clear c53b1
                      try clear c54
                      try clear c54b0
                      try clear c54b1
                      try clear c55
                      try clear c55b0
                      try clear c55b1
                      try clear c55b2
                      try clear c56
                      try clear c56b0
                      try clear c56b1
                      try clear c57
                      try clear c58
                      try clear c58b0
                      try clear c58b1
                      try clear c60
                      try clear c61
                      try clear c61b0
                      try clear c62
                      try clear c62b0
                      try clear p64
                      try clear c68
                      try clear c69
                      try clear c69b0
                      try clear c70
                      try clear c70b0
                      try clear c75
                      try clear c75b0
                      try clear c75b1
                      try clear c76
                      try clear c76b0
                      try clear c77
                      try clear c77b0
                      try clear c78
                      try clear c78b0
                      try clear c78b1
                      try clear c80
                      try clear c80b0
                      try clear c80b1
                      try clear c80b2
                      try clear c83
                      try clear c83b0
                      try clear c83b1
                      try clear c83b2
                      try clear c92
                      try clear c92b0
                      try clear c92b1
                      try clear c93
                      try clear c93b0
                      try clear c93b1
                      try clear c94
                      try clear c94b0
                      try clear c94b1
                      try clear c95
                      try clear c95b0
                      try clear c95b1
                      try clear c96
                      try clear c96b0
                      try clear c96b1
                      try clear hx379_0
                      try clear hx382_0
                      try clear hx383_0
                      try clear hx386_0
                      try clear hx387_0
                      try clear hx390_0
                      try clear hx391_0
                      try clear hx401_0
                      try clear p2
                      try clear p3
                      try clear p379
                      try clear p38
                      try clear p382
                      try clear p383
                      try clear p386
                      try clear p387
                      try clear p39
                      try clear p390
                      try clear p391
                      try clear p401
                      try clear q3
                      try clear q379
                      try clear q38
                      try clear q382
                      try clear q383
                      try clear q386
                      try clear q387
                      try clear q39
                      try clear q390
                      try clear q391
                      try clear q401
                      obtain ⟨kq, x291_87, rfl, HA, HJ87, HO_5, HB⟩ := hcut
                      cases kq with
                      | zero => exact absurd HA.out (by simp [laws_FnVotes.j5])
                      | succ kj87 =>
                        have H := HA.out
                        clear HA
                        simp only [laws_FnVotes.j5] at H
                        by_cases c97 : x291_87 = true
                        · subst c97
                          have H1 : (some false) = some r := by rw [if_pos rfl] at H; exact H
                          clear H
                          have H := H1
                          clear H1
                          exact absurd ((Option.some.inj H).trans HT.out) (by decide)
                        · replace c97 := Bool.eq_false_iff.mpr c97
                          subst c97
                          have H1 : (if t397 = 0 then (laws_FnVotes.l2 kj87 t358 t394 t398 t399 0) else (some (t397 == 6))) = some r := by rw [if_neg (show ¬ (false = true) by decide)] at H; exact H
                          clear H
                          have H := H1
                          clear H1
                          by_cases c98 : t397 = 0
                          · rw [if_pos c98] at H
                            have c98b0 : (t397 == 0) = true := beq_iff_eq.mpr c98
                            have c98b1 : (t397 != 0) = false := bne_eq_false_iff_eq.mpr c98
                            clear c98
                            have H' := Aside0.mk H
                            clear H
                            go_wp2
                            repeat (go_quiet (fail); try go_wp2)
                            go_loopg [34] kj87 (fun kq v34 w' => ∃ (x34_5 : Int), v34 = .int .i64 x34_5 ∧ Aside0 (laws_FnVotes.l2 kq t358 t394 t398 t399 x34_5 = some r) ∧ Aside0 (kq ≤ kj87) ∧ Aside0 (Kd.R Kd.string 9 w' w.heap.size (fun _ => True) (.slice Ao18 t358.length co18) t358) ∧ Aside0 (Below w.heap.size w w'))
                            case atStart => exact ⟨(0), (by first | rfl | (simp; done) | (simp [*]; done)), H', ⟨Nat.le_refl _⟩, ⟨by (with_reducible repeat (first | apply Kd.R_alloc | apply Kd.R_drewN | apply Kd.R_drew)); exact HO_5.out⟩, ⟨by repeat (first | (with_reducible first | exact HB.out | apply below_alloc | apply pw_below_drewN | apply below_drew1) | exact HB.out)⟩⟩
                            case round =>
                              as_aux_lemma =>
                              clear H'
                              try clear c1
                              try clear c2
                              try clear p2
                              try clear c3
                              try clear p3
                              try clear q3
                              try clear hx3
                              try clear c4
                              try clear p4
                              try clear q4
                              try clear hx4
                              try clear qi4
                              try clear c5
                              try clear c6
                              try clear p6
                              try clear c7
                              try clear c8
                              try clear c9
                              try clear c26
                              try clear c26b0
                              try clear c26b1
                              try clear c27
                              try clear c27b0
                              try clear c27b1
                              try clear c28
                              try clear c28b0
                              try clear c28b1
                              try clear c28b2
                              try clear c29
                              try clear c29b0
                              try clear c29b1
                              try clear c30
                              try clear c30b0
                              try clear c30b1
                              try clear c31
                              try clear c31b0
                              try clear c31b1
                              try clear c31b2
                              try clear c32
                              try clear c32b0
                              try clear c32b1
                              try clear c33
                              try clear c33b0
                              try clear c33b1
                              try clear c35
                              try clear c36
                              try clear c36b0
                              try clear c36b1
                              try clear p37
                              try clear q37
                              try clear hx37
                              try clear p38
                              try clear q38
                              try clear hx38
                              try clear p39
                              try clear q39
                              try clear hx39
                              try clear p40
                              try clear q40
                              try clear hx40
                              try clear qi40
                              try clear c43
                              try clear c44
                              try clear c44b0
                              try clear c45
                              try clear c45b0
                              try clear c46
                              try clear c46b0
                              try clear c47
                              try clear c47b0
                              try clear c48
                              try clear c48b0
                              try clear c52
                              try clear c52b0
                              try clear c52b1
                              try clear c53
                              try clear c53b0
                              try clear c53b1
                              try clear c54
                              try clear c54b0
                              try clear c54b1
                              try clear c55
                              try clear c55b0
                              try clear c55b1
                              try clear c55b2
                              try clear c56
                              try clear c56b0
                              try clear c56b1
                              try clear c57
                              try clear c58
                              try clear c58b0
                              try clear c58b1
                              try clear c60
                              try clear c61
                              try clear c61b0
                              try clear c62
                              try clear c62b0
                              try clear p64
                              try clear c68
                              try clear c69
                              try clear c69b0
                              try clear c70
                              try clear c70b0
                              try clear c75
                              try clear c75b0
                              try clear c75b1
                              try clear c76
                              try clear c76b0
                              try clear c77
                              try clear c77b0
                              try clear c78
                              try clear c78b0
                              try clear c78b1
                              try clear c80
                              try clear c80b0
                              try clear c80b1
                              try clear c80b2
                              try clear c83
                              try clear c83b0
                              try clear c83b1
                              try clear c83b2
                              try clear c92
                              try clear c92b0
                              try clear c92b1
                              try clear c93
                              try clear c93b0
                              try clear c93b1
                              try clear c94
                              try clear c94b0
                              try clear c94b1
                              try clear c95
                              try clear c95b0
                              try clear c95b1
                              try clear c96
                              try clear c96b0
                              try clear c96b1
                              try clear c97
                              try clear c98
                              try clear c98b0
                              try clear c98b1
                              try clear hx379_0
                              try clear hx382_0
                              try clear hx383_0
                              try clear hx386_0
                              try clear hx387_0
                              try clear hx390_0
                              try clear hx391_0
                              try clear hx401_0
                              try clear p2
                              try clear p3
                              try clear p37
                              try clear p379
                              try clear p38
                              try clear p382
                              try clear p383
                              try clear p386
                              try clear p387
                              try clear p39
                              try clear p390
                              try clear p391
                              try clear p4
                              try clear p40
                              try clear p401
                              try clear p6
                              try clear p64
                              try clear q3
                              try clear q37
                              try clear q379
                              try clear q38
                              try clear q382
                              try clear q383
                              try clear q386
                              try clear q387
                              try clear q39
                              try clear q390
                              try clear q391
                              try clear q4
                              try clear q40
                              try clear q401
                              obtain ⟨x34_5, rfl, HA, HK5, HO_5, HB⟩ := hrel
                              cases gk with
                              | zero => exact absurd HA.out (by simp [laws_FnVotes.l2])
                              | succ k5 =>
                                have H := HA.out
                                clear HA
                                simp only [laws_FnVotes.l2] at H
                                by_cases c99 : x34_5 < (t358.length : Int)
                                · rw [if_pos c99] at H
                                  have c99b0 : decide (x34_5 < (t358.length : Int)) = true := decide_eq_true c99
                                  clear c99
                                  by_cases c100 : 0 ≤ x34_5
                                  · rw [if_pos c100] at H
                                    have c100b0 : decide (0 ≤ x34_5) = true := decide_eq_true c100
                                    clear c100
                                    replace H := Option.bind_eq_some_iff.mp H
                                    obtain ⟨⟨t403, t404⟩, A1010, H⟩ := H
                                    replace H : (if t404 = 0 then (if t403 < t399 then (some false) else (if t403 = t399 then (if x34_5 < t398 then (some false) else (laws_FnVotes.l2 k5 t358 t394 t398 t399 (wrap64 (x34_5 + 1)))) else (laws_FnVotes.l2 k5 t358 t394 t398 t399 (wrap64 (x34_5 + 1))))) else (some false)) = some r := H
                                    have A101 := Aside0.mk A1010
                                    clear A1010
                                    by_cases c102 : t404 = 0
                                    · rw [if_pos c102] at H
                                      have c102b0 : (t404 == 0) = true := beq_iff_eq.mpr c102
                                      have c102b1 : (t404 != 0) = false := bne_eq_false_iff_eq.mpr c102
                                      clear c102
                                      by_cases c103 : t403 < t399
                                      · rw [if_pos c103] at H
                                        have c103b0 : decide (t403 < t399) = true := decide_eq_true c103
                                        clear c103
                                        exact absurd ((Option.some.inj H).trans HT.out) (by decide)
                                      · rw [if_neg c103] at H
                                        have c103b0 : decide (t403 < t399) = false := decide_eq_false c103
                                        clear c103
                                        by_cases c104 : t403 = t399
                                        · rw [if_pos c104] at H
                                          have c104b0 : (t403 == t399) = true := beq_iff_eq.mpr c104
                                          have c104b1 : (t403 != t399) = false := bne_eq_false_iff_eq.mpr c104
                                          clear c104
                                          by_cases c105 : x34_5 < t398
                                          · rw [if_pos c105] at H
                                            have c105b0 : decide (x34_5 < t398) = true := decide_eq_true c105
                                            clear c105
                                            exact absurd ((Option.some.inj H).trans HT.out) (by decide)
                                          · rw [if_neg c105] at H
                                            have c105b0 : decide (x34_5 < t398) = false := decide_eq_false c105
                                            clear c105
                                            have H' := Aside0.mk H
                                            clear H
                                            have p402 : 0 ≤ (x34_5 : Int) := of_decide_eq_true (by first | (with_reducible assumption) | assumption)
                                            have q402 : x34_5 < (t358.length : Int) := of_decide_eq_true (by first | (with_reducible assumption) | assumption)
                                            obtain ⟨ad402, e402, hx402_0⟩ := Kd.at_string (Kd.R_reads' HO_5.out).2.2 x34_5 p402 q402
                                            cases e402
                                            replace p402 := eq_true p402
                                            replace q402 := eq_true q402
                                            go_wp2_with (first | (go_at_call 23; (with_reducible refine (impl_UnlikeBy.calls k5 (rdOf ByteArray.empty t358 x34_5) t394 t403 t404 _ A101.out).mono ?_); rintro e w' ⟨rfl, ⟨nd, rfl⟩⟩; (try first | exact ⟨rfl, _, World.drewN_drewN _ _ _⟩ | exact ⟨rfl, _, Eq.trans (World.drewN_drewN _ _ _) (congrArg (World.drewN _) (Nat.add_assoc _ _ _))⟩)))
                                            repeat (go_quiet (first | (go_at_call 23; (with_reducible refine (impl_UnlikeBy.calls k5 (rdOf ByteArray.empty t358 x34_5) t394 t403 t404 _ A101.out).mono ?_); rintro e w' ⟨rfl, ⟨nd, rfl⟩⟩; (try first | exact ⟨rfl, _, World.drewN_drewN _ _ _⟩ | exact ⟨rfl, _, Eq.trans (World.drewN_drewN _ _ _) (congrArg (World.drewN _) (Nat.add_assoc _ _ _))⟩))); try go_wp2_with (first | (go_at_call 23; (with_reducible refine (impl_UnlikeBy.calls k5 (rdOf ByteArray.empty t358 x34_5) t394 t403 t404 _ A101.out).mono ?_); rintro e w' ⟨rfl, ⟨nd, rfl⟩⟩; (try first | exact ⟨rfl, _, World.drewN_drewN _ _ _⟩ | exact ⟨rfl, _, Eq.trans (World.drewN_drewN _ _ _) (congrArg (World.drewN _) (Nat.add_assoc _ _ _))⟩))))
                                            go_roundg k5
                                            case measure => have := HJ2.out; have := HJ15.out; have := HK3.out; have := HJ87.out; have := HK5.out; omega
                                            case rel => exact ⟨(wrap64 (x34_5 + 1)), (by first | rfl | (simp; done) | (simp [*]; done)), H', ⟨by have := HJ2.out; have := HJ15.out; have := HK3.out; have := HJ87.out; have := HK5.out; omega⟩, ⟨by (with_reducible repeat (first | apply Kd.R_alloc | apply Kd.R_drewN | apply Kd.R_drew)); exact HO_5.out⟩, ⟨by repeat (first | (with_reducible first | exact HB.out | apply below_alloc | apply pw_below_drewN | apply below_drew1) | exact HB.out)⟩⟩
                                        · rw [if_neg c104] at H
                                          have c104b0 : (t403 == t399) = false := beq_eq_false_iff_ne.mpr c104
                                          have c104b1 : (t403 != t399) = true := bne_iff_ne.mpr c104
                                          have H' := Aside0.mk H
                                          clear H
                                          have p402 : 0 ≤ (x34_5 : Int) := of_decide_eq_true (by first | (with_reducible assumption) | assumption)
                                          have q402 : x34_5 < (t358.length : Int) := of_decide_eq_true (by first | (with_reducible assumption) | assumption)
                                          obtain ⟨ad402, e402, hx402_0⟩ := Kd.at_string (Kd.R_reads' HO_5.out).2.2 x34_5 p402 q402
                                          cases e402
                                          replace p402 := eq_true p402
                                          replace q402 := eq_true q402
                                          go_wp2_with (first | (go_at_call 23; (with_reducible refine (impl_UnlikeBy.calls k5 (rdOf ByteArray.empty t358 x34_5) t394 t403 t404 _ A101.out).mono ?_); rintro e w' ⟨rfl, ⟨nd, rfl⟩⟩; (try first | exact ⟨rfl, _, World.drewN_drewN _ _ _⟩ | exact ⟨rfl, _, Eq.trans (World.drewN_drewN _ _ _) (congrArg (World.drewN _) (Nat.add_assoc _ _ _))⟩)))
                                          repeat (go_quiet (first | (go_at_call 23; (with_reducible refine (impl_UnlikeBy.calls k5 (rdOf ByteArray.empty t358 x34_5) t394 t403 t404 _ A101.out).mono ?_); rintro e w' ⟨rfl, ⟨nd, rfl⟩⟩; (try first | exact ⟨rfl, _, World.drewN_drewN _ _ _⟩ | exact ⟨rfl, _, Eq.trans (World.drewN_drewN _ _ _) (congrArg (World.drewN _) (Nat.add_assoc _ _ _))⟩))); try go_wp2_with (first | (go_at_call 23; (with_reducible refine (impl_UnlikeBy.calls k5 (rdOf ByteArray.empty t358 x34_5) t394 t403 t404 _ A101.out).mono ?_); rintro e w' ⟨rfl, ⟨nd, rfl⟩⟩; (try first | exact ⟨rfl, _, World.drewN_drewN _ _ _⟩ | exact ⟨rfl, _, Eq.trans (World.drewN_drewN _ _ _) (congrArg (World.drewN _) (Nat.add_assoc _ _ _))⟩))))
                                          go_roundg k5
                                          case measure => have := HJ2.out; have := HJ15.out; have := HK3.out; have := HJ87.out; have := HK5.out; omega
                                          case rel => exact ⟨(wrap64 (x34_5 + 1)), (by first | rfl | (simp; done) | (simp [*]; done)), H', ⟨by have := HJ2.out; have := HJ15.out; have := HK3.out; have := HJ87.out; have := HK5.out; omega⟩, ⟨by (with_reducible repeat (first | apply Kd.R_alloc | apply Kd.R_drewN | apply Kd.R_drew)); exact HO_5.out⟩, ⟨by repeat (first | (with_reducible first | exact HB.out | apply below_alloc | apply pw_below_drewN | apply below_drew1) | exact HB.out)⟩⟩
                                    · rw [if_neg c102] at H
                                      have c102b0 : (t404 == 0) = false := beq_eq_false_iff_ne.mpr c102
                                      have c102b1 : (t404 != 0) = true := bne_iff_ne.mpr c102
                                      exact absurd ((Option.some.inj H).trans HT.out) (by decide)
                                  · rw [if_neg c100] at H
                                    exact absurd H (by simp)
                                · rw [if_neg c99] at H
                                  have c99b0 : decide (x34_5 < (t358.length : Int)) = false := decide_eq_false c99
                                  clear c99
                                  obtain rfl := Option.some.inj H
                                  go_wp2
                                  repeat (go_quiet (fail); try go_wp2)
                                  go_ret
                                  exact ⟨by first | rfl | (simp [errW_none, errW_some] <;> rfl) | (simp [*, errW_none, errW_some] <;> rfl), by repeat (first | (with_reducible first | exact HB.out | apply below_alloc | apply pw_below_drewN | apply below_drew1) | exact HB.out)⟩
                          · rw [if_neg c98] at H
                            have c98b0 : (t397 == 0) = false := beq_eq_false_iff_ne.mpr c98
                            have c98b1 : (t397 != 0) = true := bne_iff_ne.mpr c98
                            obtain rfl := Option.some.inj H
                            go_wp2
                            repeat (go_quiet (fail); try go_wp2)
                            go_ret
                            exact ⟨by first | rfl | (simp [errW_none, errW_some] <;> rfl) | (simp [*, errW_none, errW_some] <;> rfl), by repeat (first | (with_reducible first | exact HB.out | apply below_alloc | apply pw_below_drewN | apply below_drew1) | exact HB.out)⟩

/-- THE ONE PURE STATEMENT of laws_FnVotes: yours. -/
def laws_FnVotes.Pure : Prop := ∀ (l0 : List Int) (l1 : List Int), l0.length ≤ maxLen → l0.length * 1 ≤ 140737488351232 → (∀ x ∈ l0, (Lit.int .u8 x).wf = true) → l1.length ≤ maxLen → l1.length * 1 ≤ 140737488351232 → (∀ x ∈ l1, (Lit.int .u8 x).wf = true) → ∃ k, laws_FnVotes.f k l0 l1 = some true
theorem laws_FnVotes.walk (P : laws_FnVotes.Pure) (a0 : Option Addr) (len0 cap0 : Nat) (z0 : List Int) (a1 : Option Addr) (len1 cap1 : Nat) (z1 : List Int) (w : World) (w0 : (a0 = none ∧ len0 = 0 ∧ cap0 = 0 ∧ z0 = []) ∨ ∃ x, a0 = some x ∧ len0 ≤ cap0 ∧ cap0 ≤ maxLen ∧ z0.length = cap0 ∧ (∀ i, i < z0.length → w.cell? (x.add i) = some (.int .u8 (z0.getD i 0))) ∧ ∀ n ∈ z0, (Lit.int .u8 n).wf = true) (y0 : len0 * 1 ≤ 140737488351232) (w1 : (a1 = none ∧ len1 = 0 ∧ cap1 = 0 ∧ z1 = []) ∨ ∃ x, a1 = some x ∧ len1 ≤ cap1 ∧ cap1 ≤ maxLen ∧ z1.length = cap1 ∧ (∀ i, i < z1.length → w.cell? (x.add i) = some (.int .u8 (z1.getD i 0))) ∧ ∀ n ∈ z1, (Lit.int .u8 n).wf = true) (y1 : len1 * 1 ≤ 140737488351232) :
    Calls Try.prog 5 #[.slice a0 len0 cap0, .slice a1 len1 cap1] w fun e w' => e = .returned (.bool true) ∧ Below w.heap.size w w' := by
  obtain ⟨l0, rfl, hr0, hm0, hw0, hc0⟩ := ReadsInt.ofRowC w0
  obtain ⟨l1, rfl, hr1, hm1, hw1, hc1⟩ := ReadsInt.ofRowC w1
  obtain ⟨k, h⟩ := P l0 l1 hm0 y0 hw0 hm1 y1 hw1
  refine (laws_FnVotes.calls k _ _ l0 _ _ l1 true w (Kd.C_of_reads (d := (0 : Int)) (h1 := fun _ => rfl) hr0) hc0 (Kd.C_of_reads (d := (0 : Int)) (h1 := fun _ => rfl) hr1) hc1 rfl h).mono ?_
  rintro e w' ⟨rfl, hd⟩
  exact ⟨rfl, hd⟩

end Go.Proofs.Ytkdloidojmccgaa.P
