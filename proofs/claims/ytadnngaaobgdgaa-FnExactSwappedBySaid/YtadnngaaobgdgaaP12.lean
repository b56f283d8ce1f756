-- Printed by wip/print (my turned copy of the kit's print) out of the translation; Lean checks it.
import Derived.Test.YtadnngaaobgdgaaP0
import Derived.Test.YtadnngaaobgdgaaP2
import Derived.Test.YtadnngaaobgdgaaP7
import Derived.Test.YtadnngaaobgdgaaP8
import Derived.Test.YtadnngaaobgdgaaP9
import Derived.Test.YtadnngaaobgdgaaP10
import Derived.Test.YtadnngaaobgdgaaP11
namespace Go.Proofs.Ytadnngaaobgdgaa.P
open Go.RowKit Go.Proofs.YtadnngaaobgdgaaW.PrintWords Go.Proofs.YtadnngaaobgdgaaW.PrintLast Go.Proofs.YtadnngaaobgdgaaW.PrintMore
attribute [local go_sem] max2_int min2_int max_two min_two max_three min_three max_four min_four   -- for this text's walks alone
set_option linter.unusedVariables false
set_option linter.unusedSimpArgs false

/-! ### laws_FnExactSwappedBy: function 4 -/
mutual
def laws_FnExactSwappedBy.j0 : Nat → List (S29) → List (S68) → Int → List (S38) → List (S68) → Int → Bool → Int → List Int → Int → Int → Int → List Int → Option (Bool)
 | 0, _, _, _, _, _, _, _, _, _, _, _, _, _ => none
 | k + 1, x1, x8, x9, x11, x12, x13, x59, x385000, x385001, x386000, x386001, x406000, x406001 => if x59 = true then (some false) else ((laws_toRope.f k x385000 x385001).bind fun bt416 => ((laws_eqRope.f k x406000 x406001 bt416.1 bt416.2).bind fun t420 => (if t420 = true then ((laws_toHoldS.f k x1).bind fun t421 => ((laws_eqHoldS.f k x11 t421).bind fun t424 => (if t424 = true then ((laws_markRope.f k x406000 x406001 1).bind fun bt425 => ((laws_markHoldS.f k x11 bt425.1).bind fun bt427 => (if bt427.1 < 0 then (laws_FnExactSwappedBy.j1 k x1 x8 x9 x12 true x385000 x385001 x386000 x386001) else ((laws_eqInt64A2S.f k x12 x8).bind fun t429 => (if t429 = true then (laws_FnExactSwappedBy.j1 k x1 x8 x9 x12 (x13 != x9) x385000 x385001 x386000 x386001) else (laws_FnExactSwappedBy.j1 k x1 x8 x9 x12 true x385000 x385001 x386000 x386001)))))) else (some false)))) else (some false))))
def laws_FnExactSwappedBy.j1 : Nat → List (S29) → List (S68) → Int → List (S68) → Bool → Int → List Int → Int → Int → Option (Bool)
 | 0, _, _, _, _, _, _, _, _, _ => none
 | k + 1, x1, x8, x9, x12, x88, x385000, x385001, x386000, x386001 => if x88 = true then (some false) else ((laws_markInt64A2S.f k x12 1).bind fun bt430 => ((laws_heldInt64A2S.f k bt430.2 1).bind fun t432 => (if t432 < 0 then (some false) else (if t432 = bt430.1 then ((laws_toRope.f k x385000 x385001).bind fun bt433 => ((laws_toHoldS.f k x1).bind fun t437 => ((laws_toSaid.f x386000 x386001).bind fun bt440 => ((impl_SwappedBy.f k bt433.1 bt433.2 t437 bt440.1 bt440.2).bind fun bt442 => ((laws_eqInt64A2S.f k bt442.1 x8).bind fun t446 => (if t446 = true then (laws_FnExactSwappedBy.j2 k bt430.2 bt430.1 (bt442.2 != x9)) else (laws_FnExactSwappedBy.j2 k bt430.2 bt430.1 true))))))) else (some false)))))
def laws_FnExactSwappedBy.j2 : Nat → List (S68) → Int → Bool → Option (Bool)
 | 0, _, _, _ => none
 | k + 1, x12, x15, x118 => if x118 = true then (some false) else ((laws_heldInt64A2S.f k x12 1).bind fun t447 => (if t447 < 0 then (some false) else (if t447 = x15 then (some true) else (some false))))
end
def laws_FnExactSwappedBy.f (k : Nat) (a0_0 : Int) (l0_1 : List Int) (l1 : List (S29)) (a2_0 : Int) (a2_1 : Int) : Option (Bool) := (laws_szRope.f a0_0 l0_1 1048576).bind fun t386 => (if t386 < 0 then (some true) else ((laws_szHoldS.f l1 t386).bind fun t387 => (if t387 < 0 then (some true) else ((laws_toRope.f k a0_0 l0_1).bind fun bt388 => ((laws_toHoldS.f k l1).bind fun t392 => ((laws_toSaid.f a2_0 a2_1).bind fun bt395 => ((spec_SwappedBy.f k bt388.1 bt388.2 t392 bt395.1 bt395.2).bind fun bt397 => ((laws_toRope.f k a0_0 l0_1).bind fun bt401 => ((laws_toHoldS.f k l1).bind fun t406 => ((laws_toSaid.f a2_0 a2_1).bind fun bt409 => ((impl_SwappedBy.f k bt401.1 bt401.2 t406 bt409.1 bt409.2).bind fun bt411 => ((laws_eqInt64A2S.f k bt411.1 bt397.1).bind fun t415 => (if t415 = true then (laws_FnExactSwappedBy.j0 k l1 bt397.1 bt397.2 t406 bt411.1 bt411.2 (bt411.2 != bt397.2) a0_0 l0_1 a2_0 a2_1 bt401.1 bt401.2) else (laws_FnExactSwappedBy.j0 k l1 bt397.1 bt397.2 t406 bt411.1 bt411.2 true a0_0 l0_1 a2_0 a2_1 bt401.1 bt401.2))))))))))))))
theorem laws_FnExactSwappedBy.mono_l : ∀ k, (∀ y0 y1 y2 y3 y4 y5 y6 y7 y8 y9 y10 y11 y12, LeO (laws_FnExactSwappedBy.j0 k y0 y1 y2 y3 y4 y5 y6 y7 y8 y9 y10 y11 y12) (laws_FnExactSwappedBy.j0 (k + 1) y0 y1 y2 y3 y4 y5 y6 y7 y8 y9 y10 y11 y12)) ∧ (∀ y0 y1 y2 y3 y4 y5 y6 y7 y8, LeO (laws_FnExactSwappedBy.j1 k y0 y1 y2 y3 y4 y5 y6 y7 y8) (laws_FnExactSwappedBy.j1 (k + 1) y0 y1 y2 y3 y4 y5 y6 y7 y8)) ∧ (∀ y0 y1 y2, LeO (laws_FnExactSwappedBy.j2 k y0 y1 y2) (laws_FnExactSwappedBy.j2 (k + 1) y0 y1 y2))
 | 0 => ⟨fun _ _ _ _ _ _ _ _ _ _ _ _ _ r h => by simp [laws_FnExactSwappedBy.j0] at h, fun _ _ _ _ _ _ _ _ _ r h => by simp [laws_FnExactSwappedBy.j1] at h, fun _ _ _ r h => by simp [laws_FnExactSwappedBy.j2] at h⟩
 | k + 1 => by
  obtain ⟨ih0, ih1, ih2⟩ := laws_FnExactSwappedBy.mono_l k
  refine ⟨?_, ?_, ?_⟩
  ·intro y0 y1 y2 y3 y4 y5 y6 y7 y8 y9 y10 y11 y12
   unfold laws_FnExactSwappedBy.j0
   repeat' first
   | (with_reducible exact ih0 _ _ _ _ _ _ _ _ _ _ _ _ _)
   | (with_reducible exact ih1 _ _ _ _ _ _ _ _ _)
   | (with_reducible exact ih2 _ _ _)
   | (with_reducible exact impl_SwappedBy.mono _ _ _ _ _ _)
   | (with_reducible exact laws_eqHoldS.mono _ _ _)
   | (with_reducible exact laws_eqInt64A2S.mono _ _ _)
   | (with_reducible exact laws_eqRope.mono _ _ _ _ _)
   | (with_reducible exact laws_heldInt64A2S.mono _ _ _)
   | (with_reducible exact laws_markHoldS.mono _ _ _)
   | (with_reducible exact laws_markInt64A2S.mono _ _ _)
   | (with_reducible exact laws_markRope.mono _ _ _ _)
   | (with_reducible exact laws_toHoldS.mono _ _)
   | (with_reducible exact laws_toRope.mono _ _ _)
   | (with_reducible exact spec_SwappedBy.mono _ _ _ _ _ _)
   | (with_reducible exact LeO.refl _)
   | (with_reducible exact LeO.none _)
   | (with_reducible refine LeO.ite ?_ ?_)
   | (with_reducible refine LeO.bind ?_ (fun _ => ?_))
   | exact ih0 _ _ _ _ _ _ _ _ _ _ _ _ _
   | exact ih1 _ _ _ _ _ _ _ _ _
   | exact ih2 _ _ _
   | exact impl_SwappedBy.mono _ _ _ _ _ _
   | exact laws_eqHoldS.mono _ _ _
   | exact laws_eqInt64A2S.mono _ _ _
   | exact laws_eqRope.mono _ _ _ _ _
   | exact laws_heldInt64A2S.mono _ _ _
   | exact laws_markHoldS.mono _ _ _
   | exact laws_markInt64A2S.mono _ _ _
   | exact laws_markRope.mono _ _ _ _
   | exact laws_toHoldS.mono _ _
   | exact laws_toRope.mono _ _ _
   | exact spec_SwappedBy.mono _ _ _ _ _ _
   | exact LeO.none _
   | refine LeO.ite ?_ ?_
   | refine LeO.bind ?_ (fun _ => ?_)
  ·intro y0 y1 y2 y3 y4 y5 y6 y7 y8
   unfold laws_FnExactSwappedBy.j1
   repeat' first
   | (with_reducible exact ih0 _ _ _ _ _ _ _ _ _ _ _ _ _)
   | (with_reducible exact ih1 _ _ _ _ _ _ _ _ _)
   | (with_reducible exact ih2 _ _ _)
   | (with_reducible exact impl_SwappedBy.mono _ _ _ _ _ _)
   | (with_reducible exact laws_eqHoldS.mono _ _ _)
   | (with_reducible exact laws_eqInt64A2S.mono _ _ _)
   | (with_reducible exact laws_eqRope.mono _ _ _ _ _)
   | (with_reducible exact laws_heldInt64A2S.mono _ _ _)
   | (with_reducible exact laws_markHoldS.mono _ _ _)
   | (with_reducible exact laws_markInt64A2S.mono _ _ _)
   | (with_reducible exact laws_markRope.mono _ _ _ _)
   | (with_reducible exact laws_toHoldS.mono _ _)
   | (with_reducible exact laws_toRope.mono _ _ _)
   | (with_reducible exact spec_SwappedBy.mono _ _ _ _ _ _)
   | (with_reducible exact LeO.refl _)
   | (with_reducible exact LeO.none _)
   | (with_reducible refine LeO.ite ?_ ?_)
   | (with_reducible refine LeO.bind ?_ (fun _ => ?_))
   | exact ih0 _ _ _ _ _ _ _ _ _ _ _ _ _
   | exact ih1 _ _ _ _ _ _ _ _ _
   | exact ih2 _ _ _
   | exact impl_SwappedBy.mono _ _ _ _ _ _
   | exact laws_eqHoldS.mono _ _ _
   | exact laws_eqInt64A2S.mono _ _ _
   | exact laws_eqRope.mono _ _ _ _ _
   | exact laws_heldInt64A2S.mono _ _ _
   | exact laws_markHoldS.mono _ _ _
   | exact laws_markInt64A2S.mono _ _ _
   | exact laws_markRope.mono _ _ _ _
   | exact laws_toHoldS.mono _ _
   | exact laws_toRope.mono _ _ _
   | exact spec_SwappedBy.mono _ _ _ _ _ _
   | exact LeO.none _
   | refine LeO.ite ?_ ?_
   | refine LeO.bind ?_ (fun _ => ?_)
  ·intro y0 y1 y2
   unfold laws_FnExactSwappedBy.j2
   repeat' first
   | (with_reducible exact ih0 _ _ _ _ _ _ _ _ _ _ _ _ _)
   | (with_reducible exact ih1 _ _ _ _ _ _ _ _ _)
   | (with_reducible exact ih2 _ _ _)
   | (with_reducible exact impl_SwappedBy.mono _ _ _ _ _ _)
   | (with_reducible exact laws_eqHoldS.mono _ _ _)
   | (with_reducible exact laws_eqInt64A2S.mono _ _ _)
   | (with_reducible exact laws_eqRope.mono _ _ _ _ _)
   | (with_reducible exact laws_heldInt64A2S.mono _ _ _)
   | (with_reducible exact laws_markHoldS.mono _ _ _)
   | (with_reducible exact laws_markInt64A2S.mono _ _ _)
   | (with_reducible exact laws_markRope.mono _ _ _ _)
   | (with_reducible exact laws_toHoldS.mono _ _)
   | (with_reducible exact laws_toRope.mono _ _ _)
   | (with_reducible exact spec_SwappedBy.mono _ _ _ _ _ _)
   | (with_reducible exact LeO.refl _)
   | (with_reducible exact LeO.none _)
   | (with_reducible refine LeO.ite ?_ ?_)
   | (with_reducible refine LeO.bind ?_ (fun _ => ?_))
   | exact ih0 _ _ _ _ _ _ _ _ _ _ _ _ _
   | exact ih1 _ _ _ _ _ _ _ _ _
   | exact ih2 _ _ _
   | exact impl_SwappedBy.mono _ _ _ _ _ _
   | exact laws_eqHoldS.mono _ _ _
   | exact laws_eqInt64A2S.mono _ _ _
   | exact laws_eqRope.mono _ _ _ _ _
   | exact laws_heldInt64A2S.mono _ _ _
   | exact laws_markHoldS.mono _ _ _
   | exact laws_markInt64A2S.mono _ _ _
   | exact laws_markRope.mono _ _ _ _
   | exact laws_toHoldS.mono _ _
   | exact laws_toRope.mono _ _ _
   | exact spec_SwappedBy.mono _ _ _ _ _ _
   | exact LeO.none _
   | refine LeO.ite ?_ ?_
   | refine LeO.bind ?_ (fun _ => ?_)
theorem laws_FnExactSwappedBy.mono : ∀ a0 a1 a2 a3 a4 k, LeO (laws_FnExactSwappedBy.f k a0 a1 a2 a3 a4) (laws_FnExactSwappedBy.f (k + 1) a0 a1 a2 a3 a4) := by
 intro a0 a1 a2 a3 a4 k
 obtain ⟨ih0, ih1, ih2⟩ := laws_FnExactSwappedBy.mono_l k
 unfold laws_FnExactSwappedBy.f
 repeat' first
   | (with_reducible exact ih0 _ _ _ _ _ _ _ _ _ _ _ _ _)
   | (with_reducible exact ih1 _ _ _ _ _ _ _ _ _)
   | (with_reducible exact ih2 _ _ _)
   | (with_reducible exact impl_SwappedBy.mono _ _ _ _ _ _)
   | (with_reducible exact laws_eqHoldS.mono _ _ _)
   | (with_reducible exact laws_eqInt64A2S.mono _ _ _)
   | (with_reducible exact laws_eqRope.mono _ _ _ _ _)
   | (with_reducible exact laws_heldInt64A2S.mono _ _ _)
   | (with_reducible exact laws_markHoldS.mono _ _ _)
   | (with_reducible exact laws_markInt64A2S.mono _ _ _)
   | (with_reducible exact laws_markRope.mono _ _ _ _)
   | (with_reducible exact laws_toHoldS.mono _ _)
   | (with_reducible exact laws_toRope.mono _ _ _)
   | (with_reducible exact spec_SwappedBy.mono _ _ _ _ _ _)
   | (with_reducible exact LeO.refl _)
   | (with_reducible exact LeO.none _)
   | (with_reducible refine LeO.ite ?_ ?_)
   | (with_reducible refine LeO.bind ?_ (fun _ => ?_))
   | exact ih0 _ _ _ _ _ _ _ _ _ _ _ _ _
   | exact ih1 _ _ _ _ _ _ _ _ _
   | exact ih2 _ _ _
   | exact impl_SwappedBy.mono _ _ _ _ _ _
   | exact laws_eqHoldS.mono _ _ _
   | exact laws_eqInt64A2S.mono _ _ _
   | exact laws_eqRope.mono _ _ _ _ _
   | exact laws_heldInt64A2S.mono _ _ _
   | exact laws_markHoldS.mono _ _ _
   | exact laws_markInt64A2S.mono _ _ _
   | exact laws_markRope.mono _ _ _ _
   | exact laws_toHoldS.mono _ _
   | exact laws_toRope.mono _ _ _
   | exact spec_SwappedBy.mono _ _ _ _ _ _
   | exact LeO.none _
   | refine LeO.ite ?_ ?_
   | refine LeO.bind ?_ (fun _ => ?_)
def laws_FnExactSwappedBy.T8 : Bool × List (List Nat × List Nat) := (true, [([], []), ([0], [0]), ([], []), ([2, 1], [2]), ([], []), ([4, 3], [4]), ([1, 3, 5, 5], [1, 3, 5]), ([6], [6]), ([7], [7]), ([7], [7]), ([8, 6, 0, 1, 2, 3, 4, 5, 6, 7, 8], [8]), ([9, 10, 0, 1, 2, 3, 4, 5, 6, 7, 8, 9, 10], [9])])
def laws_FnExactSwappedBy.B8 : List Nat := [0, 1, 0, 7, 0, 31, 63, 127, 255, 255, 511, 2047]
theorem laws_FnExactSwappedBy.tab8 : rtab .any (opsOf Try.f4 8) = laws_FnExactSwappedBy.T8 := by kernel_rfl
theorem laws_FnExactSwappedBy.bits8 : waitsOk laws_FnExactSwappedBy.T8.2 laws_FnExactSwappedBy.B8 = true := by kernel_rfl
def laws_FnExactSwappedBy.T11 : Bool × List (List Nat × List Nat) := (true, [([], []), ([], []), ([], []), ([2], [2]), ([0, 1, 3, 3], [0, 1, 3]), ([4], [4]), ([5], [5]), ([5], [5]), ([6, 4, 0, 1, 2, 3, 4, 5, 6], [6]), ([7, 8, 0, 1, 2, 3, 4, 5, 6, 7, 8], [7])])
def laws_FnExactSwappedBy.B11 : List Nat := [0, 0, 0, 4, 15, 31, 63, 63, 127, 511]
theorem laws_FnExactSwappedBy.tab11 : rtab .any (opsOf Try.f4 11) = laws_FnExactSwappedBy.T11 := by kernel_rfl
theorem laws_FnExactSwappedBy.bits11 : waitsOk laws_FnExactSwappedBy.T11.2 laws_FnExactSwappedBy.B11 = true := by kernel_rfl
def laws_FnExactSwappedBy.T31 : Bool × List (List Nat × List Nat) := (true, [([], []), ([0], [0]), ([], []), ([2, 1], [2]), ([], []), ([4, 3], [4]), ([1, 3, 5, 5], [1, 3, 5]), ([6], [6]), ([7], [7]), ([7], [7]), ([8, 6, 0, 1, 2, 3, 4, 5, 6, 7, 8], [8]), ([9, 10, 0, 1, 2, 3, 4, 5, 6, 7, 8, 9, 10], [9])])
def laws_FnExactSwappedBy.B31 : List Nat := [0, 1, 0, 7, 0, 31, 63, 127, 255, 255, 511, 2047]
theorem laws_FnExactSwappedBy.tab31 : rtab .any (opsOf Try.f4 31) = laws_FnExactSwappedBy.T31 := by kernel_rfl
theorem laws_FnExactSwappedBy.bits31 : waitsOk laws_FnExactSwappedBy.T31.2 laws_FnExactSwappedBy.B31 = true := by kernel_rfl
set_option maxHeartbeats 8000000 in
set_option maxRecDepth 100000 in
theorem laws_FnExactSwappedBy.calls (k : Nat) (a0_0 : Int) (A0_1 : Option Addr) (c0_1 : Nat) (l0_1 : List Int) (A1 : Option Addr) (c1 : Nat) (l1 : List (S29)) (a2_0 : Int) (a2_1 : Int) (r : Bool) (w : World) (hr0_1 : Kd.C (Kd.int .i16) w A0_1 l0_1.length l0_1) (hc0_1 : l0_1.length ≤ c0_1) (hr1 : Kd.C k29 w A1 l1.length l1) (hc1 : l1.length ≤ c1) (hT : r = true) (h : laws_FnExactSwappedBy.f k a0_0 l0_1 l1 a2_0 a2_1 = some r) :
  Calls Try.prog 4 #[.agg #[.int .i16 a0_0, .slice A0_1 l0_1.length c0_1], .slice A1 l1.length c1, .agg #[.int .i64 a2_0, .int .i64 a2_1]] w fun e w' => e = .returned (.bool r) ∧ Below w.heap.size w w' := by
 have hu25 := Try.underlying25
 have hu46 := Try.underlying46
 have hu35 := Try.underlying35
 have HR0_1 := Aside0.mk hr0_1
 have HC0_1 := Aside0.mk hc0_1
 clear hr0_1 hc0_1
 have HR1 := Aside0.mk hr1
 have HC1 := Aside0.mk hc1
 clear hr1 hc1
 have HT := Aside0.mk hT
 clear hT
 have HB := Aside0.mk (Below.refl w.heap.size w)
 have H : ((laws_szRope.f a0_0 l0_1 1048576).bind fun t386 => (if t386 < 0 then (some true) else ((laws_szHoldS.f l1 t386).bind fun t387 => (if t387 < 0 then (some true) else ((laws_toRope.f k a0_0 l0_1).bind fun bt388 => ((laws_toHoldS.f k l1).bind fun t392 => ((laws_toSaid.f a2_0 a2_1).bind fun bt395 => ((spec_SwappedBy.f k bt388.1 bt388.2 t392 bt395.1 bt395.2).bind fun bt397 => ((laws_toRope.f k a0_0 l0_1).bind fun bt401 => ((laws_toHoldS.f k l1).bind fun t406 => ((laws_toSaid.f a2_0 a2_1).bind fun bt409 => ((impl_SwappedBy.f k bt401.1 bt401.2 t406 bt409.1 bt409.2).bind fun bt411 => ((laws_eqInt64A2S.f k bt411.1 bt397.1).bind fun t415 => (if t415 = true then (laws_FnExactSwappedBy.j0 k l1 bt397.1 bt397.2 t406 bt411.1 bt411.2 (bt411.2 != bt397.2) a0_0 l0_1 a2_0 a2_1 bt401.1 bt401.2) else (laws_FnExactSwappedBy.j0 k l1 bt397.1 bt397.2 t406 bt411.1 bt411.2 true a0_0 l0_1 a2_0 a2_1 bt401.1 bt401.2))))))))))))))) = some r := h
 clear h
 replace H := Option.bind_eq_some_iff.mp H
 obtain ⟨t386, A40, H⟩ := H
 replace H : (if t386 < 0 then (some true) else ((laws_szHoldS.f l1 t386).bind fun t387 => (if t387 < 0 then (some true) else ((laws_toRope.f k a0_0 l0_1).bind fun bt388 => ((laws_toHoldS.f k l1).bind fun t392 => ((laws_toSaid.f a2_0 a2_1).bind fun bt395 => ((spec_SwappedBy.f k bt388.1 bt388.2 t392 bt395.1 bt395.2).bind fun bt397 => ((laws_toRope.f k a0_0 l0_1).bind fun bt401 => ((laws_toHoldS.f k l1).bind fun t406 => ((laws_toSaid.f a2_0 a2_1).bind fun bt409 => ((impl_SwappedBy.f k bt401.1 bt401.2 t406 bt409.1 bt409.2).bind fun bt411 => ((laws_eqInt64A2S.f k bt411.1 bt397.1).bind fun t415 => (if t415 = true then (laws_FnExactSwappedBy.j0 k l1 bt397.1 bt397.2 t406 bt411.1 bt411.2 (bt411.2 != bt397.2) a0_0 l0_1 a2_0 a2_1 bt401.1 bt401.2) else (laws_FnExactSwappedBy.j0 k l1 bt397.1 bt397.2 t406 bt411.1 bt411.2 true a0_0 l0_1 a2_0 a2_1 bt401.1 bt401.2)))))))))))))) = some r := H
 have A4 := Aside0.mk A40
 clear A40
 by_cases c5 : t386 < 0
 ·rw [if_pos c5] at H
  have c5b0 : decide (t386 < 0) = true := decide_eq_true c5
  clear c5
  obtain rfl := Option.some.inj H
  go_enter Try.func4, Try.ntmps4
  go_wp2_with (first | ((with_reducible refine gate_dst (N := 3) rfl ?_); refine box_event ?hg (N := 3) ?hd (cs := #[.int .i16 a0_0, .slice A0_1 l0_1.length c0_1]) (t := 25) ?hr ?_; (case hd => rfl); (case hg => rfl); (case hr => first | (go_simp; done) | (go_simp; rfl)); intro gb384 hg w6 hbox hb; have n0_ := Aside0.mk (below_step (by repeat (first | (with_reducible first | exact HB.out | apply below_alloc | apply pw_below_drewN | apply below_drew1) | exact HB.out)) hb); have n1_ := Aside0.mk (hbox); have n2_ := Aside0.mk ((by rw [hg]; exact (below_size (by repeat (first | (with_reducible first | exact HB.out | apply below_alloc | apply pw_below_drewN | apply below_drew1) | exact HB.out))) : w.heap.size ≤ gb384)); have n3_ := Aside0.mk ((by rw [hg]; exact (below_size (by repeat (first | (with_reducible first | exact HB.out | apply below_alloc | apply pw_below_drewN | apply below_drew1) | exact HB.out))) : w.heap.size ≤ gb384)); clear HB; have HB := n0_; have BK384 := n1_; have GW384 := n2_; have GE384 := n3_; clear n0_ n1_ n2_ n3_; clear hb hbox hg) | ((with_reducible refine gate_dst (N := 5) rfl ?_); refine box_event ?hg (N := 5) ?hd (cs := #[.int .i64 a2_0, .int .i64 a2_1]) (t := 46) ?hr ?_; (case hd => rfl); (case hg => rfl); (case hr => first | (go_simp; done) | (go_simp; rfl)); intro gb385 hg w7 hbox hb; have n0_ := Aside0.mk (blk_below (g := gb384) (o := .cells #[.int .i16 a0_0, .slice A0_1 l0_1.length c0_1] 25 (0, 0)) (by (with_reducible repeat (first | refine blk_drewN ?_ _ | refine blk_drew ?_ | refine blk_alloc ?_ _)); exact BK384.out) hb); have n1_ := Aside0.mk (below_step (by repeat (first | (with_reducible first | exact HB.out | apply below_alloc | apply pw_below_drewN | apply below_drew1 | refine below_set ?_ GE384.out) | exact HB.out)) hb); have n2_ := Aside0.mk (hbox); have n3_ := Aside0.mk ((by rw [hg]; exact (below_size (by repeat (first | (with_reducible first | exact HB.out | apply below_alloc | apply pw_below_drewN | apply below_drew1 | refine below_set ?_ GE384.out) | exact HB.out))) : w.heap.size ≤ gb385)); have n4_ := Aside0.mk ((by rw [hg]; exact (below_size (by repeat (first | (with_reducible first | exact HB.out | apply below_alloc | apply pw_below_drewN | apply below_drew1 | refine below_set ?_ GE384.out) | exact HB.out))) : w.heap.size ≤ gb385)); have n5_ := Aside0.mk ((by rw [hg]; exact Nat.ne_of_lt (blk_lt (g := gb384) (o := .cells #[.int .i16 a0_0, .slice A0_1 l0_1.length c0_1] 25 (0, 0)) (by (with_reducible repeat (first | refine blk_drewN ?_ _ | refine blk_drew ?_ | refine blk_alloc ?_ _)); exact BK384.out)) : gb384 ≠ gb385)); have n6_ := Aside0.mk ((by rw [hg]; exact Nat.ne_of_gt (blk_lt (g := gb384) (o := .cells #[.int .i16 a0_0, .slice A0_1 l0_1.length c0_1] 25 (0, 0)) (by (with_reducible repeat (first | refine blk_drewN ?_ _ | refine blk_drew ?_ | refine blk_alloc ?_ _)); exact BK384.out)) : gb385 ≠ gb384)); clear BK384; clear HB; have BK384 := n0_; have HB := n1_; have BK385 := n2_; have GW385 := n3_; have GE385 := n4_; have NB384_385 := n5_; have NB385_384 := n6_; clear n0_ n1_ n2_ n3_ n4_ n5_ n6_; clear hb hbox hg; have hnb8 := NB384_385.out; have hnc8 := NB385_384.out; have hcz9_0 : w7.cell? ⟨gb384, 0, none⟩ = some (.int .i16 a0_0) := (blk_cell BK384.out 0).trans rfl; have hcz9_1 : w7.cell? ⟨gb384, 1, none⟩ = some (.slice A0_1 l0_1.length c0_1) := (blk_cell BK384.out 1).trans rfl; have hfz9_0 := blk_frozen BK384.out 0; have hfz9_1 := blk_frozen BK384.out 1) | ((with_reducible refine gate_callee (f := 5) rfl ?_); refine goesL_ (some 21) rfl rfl Try.func5 (by kernel_rfl) rfl #[.agg #[.int .i16 a0_0, .slice A0_1 l0_1.length c0_1], .int .i64 1048576] rfl (by (try simp only [List.map_toArray, List.map_cons, List.map_nil]); first | done | rfl | (simp only [List.length_drop, List.length_take]; rfl)) ?_; (with_reducible refine (laws_szRope.calls a0_0 _ _ l0_1 1048576 t386 _ ?side1 ?side2 A4.out).mono ?_); (case side1 => repeat (first | exact (Kd.C_below HR0_1.out HB.out) | (with_reducible refine Kd.C_alloc ?_ _) | (with_reducible refine Kd.C_drewN ?_ _) | (with_reducible refine Kd.C_drew ?_))); (case side2 => exact HC0_1.out); rintro e w10 ⟨rfl, hb⟩; refine ⟨_, rfl, ?_⟩; have n0_ := Aside0.mk (blk_below (g := gb384) (o := .cells #[.int .i16 a0_0, .slice A0_1 l0_1.length c0_1] 25 (0, 0)) (by (with_reducible repeat (first | refine blk_drewN ?_ _ | refine blk_drew ?_ | refine blk_alloc ?_ _)); exact BK384.out) hb); have n1_ := Aside0.mk (blk_below (g := gb385) (o := .cells #[.int .i64 a2_0, .int .i64 a2_1] 46 (0, 0)) (by (with_reducible repeat (first | refine blk_drewN ?_ _ | refine blk_drew ?_ | refine blk_alloc ?_ _)); exact BK385.out) hb); have n2_ := Aside0.mk (below_step (by repeat (first | (with_reducible first | exact HB.out | apply below_alloc | apply pw_below_drewN | apply below_drew1 | refine below_set ?_ GE384.out | refine below_set ?_ GE385.out) | exact HB.out)) hb); clear BK384; clear BK385; clear HB; have BK384 := n0_; have BK385 := n1_; have HB := n2_; clear n0_ n1_ n2_; (try clear hb); (try clear hb2); (try clear hk); (try clear hi)))
  go_ret
  exact ⟨by first | rfl | (simp [errW_none, errW_some] <;> rfl) | (simp [*, errW_none, errW_some] <;> rfl), by repeat (first | (with_reducible first | exact HB.out | apply below_alloc | apply pw_below_drewN | apply below_drew1 | refine below_set ?_ GE384.out | refine below_set ?_ GE385.out) | exact HB.out)⟩
 ·rw [if_neg c5] at H
  have c5b0 : decide (t386 < 0) = false := decide_eq_false c5
  clear c5
  replace H := Option.bind_eq_some_iff.mp H
  obtain ⟨t387, A110, H⟩ := H
  replace H : (if t387 < 0 then (some true) else ((laws_toRope.f k a0_0 l0_1).bind fun bt388 => ((laws_toHoldS.f k l1).bind fun t392 => ((laws_toSaid.f a2_0 a2_1).bind fun bt395 => ((spec_SwappedBy.f k bt388.1 bt388.2 t392 bt395.1 bt395.2).bind fun bt397 => ((laws_toRope.f k a0_0 l0_1).bind fun bt401 => ((laws_toHoldS.f k l1).bind fun t406 => ((laws_toSaid.f a2_0 a2_1).bind fun bt409 => ((impl_SwappedBy.f k bt401.1 bt401.2 t406 bt409.1 bt409.2).bind fun bt411 => ((laws_eqInt64A2S.f k bt411.1 bt397.1).bind fun t415 => (if t415 = true then (laws_FnExactSwappedBy.j0 k l1 bt397.1 bt397.2 t406 bt411.1 bt411.2 (bt411.2 != bt397.2) a0_0 l0_1 a2_0 a2_1 bt401.1 bt401.2) else (laws_FnExactSwappedBy.j0 k l1 bt397.1 bt397.2 t406 bt411.1 bt411.2 true a0_0 l0_1 a2_0 a2_1 bt401.1 bt401.2)))))))))))) = some r := H
  have A11 := Aside0.mk A110
  clear A110
  by_cases c12 : t387 < 0
  ·rw [if_pos c12] at H
   have c12b0 : decide (t387 < 0) = true := decide_eq_true c12
   clear c12
   obtain rfl := Option.some.inj H
   go_enter Try.func4, Try.ntmps4
   go_wp2_with (first | ((with_reducible refine gate_dst (N := 3) rfl ?_); refine box_event ?hg (N := 3) ?hd (cs := #[.int .i16 a0_0, .slice A0_1 l0_1.length c0_1]) (t := 25) ?hr ?_; (case hd => rfl); (case hg => rfl); (case hr => first | (go_simp; done) | (go_simp; rfl)); intro gb384 hg w13 hbox hb; have n0_ := Aside0.mk (below_step (by repeat (first | (with_reducible first | exact HB.out | apply below_alloc | apply pw_below_drewN | apply below_drew1) | exact HB.out)) hb); have n1_ := Aside0.mk (hbox); have n2_ := Aside0.mk ((by rw [hg]; exact (below_size (by repeat (first | (with_reducible first | exact HB.out | apply below_alloc | apply pw_below_drewN | apply below_drew1) | exact HB.out))) : w.heap.size ≤ gb384)); have n3_ := Aside0.mk ((by rw [hg]; exact (below_size (by repeat (first | (with_reducible first | exact HB.out | apply below_alloc | apply pw_below_drewN | apply below_drew1) | exact HB.out))) : w.heap.size ≤ gb384)); clear HB; have HB := n0_; have BK384 := n1_; have GW384 := n2_; have GE384 := n3_; clear n0_ n1_ n2_ n3_; clear hb hbox hg) | ((with_reducible refine gate_dst (N := 5) rfl ?_); refine box_event ?hg (N := 5) ?hd (cs := #[.int .i64 a2_0, .int .i64 a2_1]) (t := 46) ?hr ?_; (case hd => rfl); (case hg => rfl); (case hr => first | (go_simp; done) | (go_simp; rfl)); intro gb385 hg w14 hbox hb; have n0_ := Aside0.mk (blk_below (g := gb384) (o := .cells #[.int .i16 a0_0, .slice A0_1 l0_1.length c0_1] 25 (0, 0)) (by (with_reducible repeat (first | refine blk_drewN ?_ _ | refine blk_drew ?_ | refine blk_alloc ?_ _)); exact BK384.out) hb); have n1_ := Aside0.mk (below_step (by repeat (first | (with_reducible first | exact HB.out | apply below_alloc | apply pw_below_drewN | apply below_drew1 | refine below_set ?_ GE384.out) | exact HB.out)) hb); have n2_ := Aside0.mk (hbox); have n3_ := Aside0.mk ((by rw [hg]; exact (below_size (by repeat (first | (with_reducible first | exact HB.out | apply below_alloc | apply pw_below_drewN | apply below_drew1 | refine below_set ?_ GE384.out) | exact HB.out))) : w.heap.size ≤ gb385)); have n4_ := Aside0.mk ((by rw [hg]; exact (below_size (by repeat (first | (with_reducible first | exact HB.out | apply below_alloc | apply pw_below_drewN | apply below_drew1 | refine below_set ?_ GE384.out) | exact HB.out))) : w.heap.size ≤ gb385)); have n5_ := Aside0.mk ((by rw [hg]; exact Nat.ne_of_lt (blk_lt (g := gb384) (o := .cells #[.int .i16 a0_0, .slice A0_1 l0_1.length c0_1] 25 (0, 0)) (by (with_reducible repeat (first | refine blk_drewN ?_ _ | refine blk_drew ?_ | refine blk_alloc ?_ _)); exact BK384.out)) : gb384 ≠ gb385)); have n6_ := Aside0.mk ((by rw [hg]; exact Nat.ne_of_gt (blk_lt (g := gb384) (o := .cells #[.int .i16 a0_0, .slice A0_1 l0_1.length c0_1] 25 (0, 0)) (by (with_reducible repeat (first | refine blk_drewN ?_ _ | refine blk_drew ?_ | refine blk_alloc ?_ _)); exact BK384.out)) : gb385 ≠ gb384)); clear BK384; clear HB; have BK384 := n0_; have HB := n1_; have BK385 := n2_; have GW385 := n3_; have GE385 := n4_; have NB384_385 := n5_; have NB385_384 := n6_; clear n0_ n1_ n2_ n3_ n4_ n5_ n6_; clear hb hbox hg; have hnb15 := NB384_385.out; have hnc15 := NB385_384.out; have hcz16_0 : w14.cell? ⟨gb384, 0, none⟩ = some (.int .i16 a0_0) := (blk_cell BK384.out 0).trans rfl; have hcz16_1 : w14.cell? ⟨gb384, 1, none⟩ = some (.slice A0_1 l0_1.length c0_1) := (blk_cell BK384.out 1).trans rfl; have hfz16_0 := blk_frozen BK384.out 0; have hfz16_1 := blk_frozen BK384.out 1) | ((with_reducible refine gate_callee (f := 5) rfl ?_); refine goesL_ (some 21) rfl rfl Try.func5 (by kernel_rfl) rfl #[.agg #[.int .i16 a0_0, .slice A0_1 l0_1.length c0_1], .int .i64 1048576] rfl (by (try simp only [List.map_toArray, List.map_cons, List.map_nil]); first | done | rfl | (simp only [List.length_drop, List.length_take]; rfl)) ?_; (with_reducible refine (laws_szRope.calls a0_0 _ _ l0_1 1048576 t386 _ ?side1 ?side2 A4.out).mono ?_); (case side1 => repeat (first | exact (Kd.C_below HR0_1.out HB.out) | (with_reducible refine Kd.C_alloc ?_ _) | (with_reducible refine Kd.C_drewN ?_ _) | (with_reducible refine Kd.C_drew ?_))); (case side2 => exact HC0_1.out); rintro e w17 ⟨rfl, hb⟩; refine ⟨_, rfl, ?_⟩; have n0_ := Aside0.mk (blk_below (g := gb384) (o := .cells #[.int .i16 a0_0, .slice A0_1 l0_1.length c0_1] 25 (0, 0)) (by (with_reducible repeat (first | refine blk_drewN ?_ _ | refine blk_drew ?_ | refine blk_alloc ?_ _)); exact BK384.out) hb); have n1_ := Aside0.mk (blk_below (g := gb385) (o := .cells #[.int .i64 a2_0, .int .i64 a2_1] 46 (0, 0)) (by (with_reducible repeat (first | refine blk_drewN ?_ _ | refine blk_drew ?_ | refine blk_alloc ?_ _)); exact BK385.out) hb); have n2_ := Aside0.mk (below_step (by repeat (first | (with_reducible first | exact HB.out | apply below_alloc | apply pw_below_drewN | apply below_drew1 | refine below_set ?_ GE384.out | refine below_set ?_ GE385.out) | exact HB.out)) hb); clear BK384; clear BK385; clear HB; have BK384 := n0_; have BK385 := n1_; have HB := n2_; clear n0_ n1_ n2_; (try clear hb); (try clear hb2); (try clear hk); (try clear hi)) | ((with_reducible refine gate_callee (f := 6) rfl ?_); refine goesL_ (some 26) rfl rfl Try.func6 (by kernel_rfl) rfl #[.slice A1 l1.length c1, .int .i64 t386] rfl (by (try simp only [List.map_toArray, List.map_cons, List.map_nil]); first | done | rfl | (simp only [List.length_drop, List.length_take]; rfl)) ?_; (with_reducible refine (laws_szHoldS.calls _ _ l1 t386 t387 _ ?side1 ?side2 A11.out).mono ?_); (case side1 => repeat (first | exact (Kd.C_below HR1.out HB.out) | (with_reducible refine Kd.C_alloc ?_ _) | (with_reducible refine Kd.C_drewN ?_ _) | (with_reducible refine Kd.C_drew ?_))); (case side2 => exact HC1.out); rintro e w' ⟨rfl, ⟨nd, rfl⟩⟩; refine ⟨_, rfl, ?_⟩))
   go_ret
   exact ⟨by first | rfl | (simp [errW_none, errW_some] <;> rfl) | (simp [*, errW_none, errW_some] <;> rfl), by repeat (first | (with_reducible first | exact HB.out | apply below_alloc | apply pw_below_drewN | apply below_drew1 | refine below_set ?_ GE384.out | refine below_set ?_ GE385.out) | exact HB.out)⟩
  ·rw [if_neg c12] at H
   have c12b0 : decide (t387 < 0) = false := decide_eq_false c12
   clear c12
   replace H := Option.bind_eq_some_iff.mp H
   obtain ⟨⟨t388, t389⟩, A180, H⟩ := H
   replace H : ((laws_toHoldS.f k l1).bind fun t392 => ((laws_toSaid.f a2_0 a2_1).bind fun bt395 => ((spec_SwappedBy.f k t388 t389 t392 bt395.1 bt395.2).bind fun bt397 => ((laws_toRope.f k a0_0 l0_1).bind fun bt401 => ((laws_toHoldS.f k l1).bind fun t406 => ((laws_toSaid.f a2_0 a2_1).bind fun bt409 => ((impl_SwappedBy.f k bt401.1 bt401.2 t406 bt409.1 bt409.2).bind fun bt411 => ((laws_eqInt64A2S.f k bt411.1 bt397.1).bind fun t415 => (if t415 = true then (laws_FnExactSwappedBy.j0 k l1 bt397.1 bt397.2 t406 bt411.1 bt411.2 (bt411.2 != bt397.2) a0_0 l0_1 a2_0 a2_1 bt401.1 bt401.2) else (laws_FnExactSwappedBy.j0 k l1 bt397.1 bt397.2 t406 bt411.1 bt411.2 true a0_0 l0_1 a2_0 a2_1 bt401.1 bt401.2)))))))))) = some r := H
   have A18 := Aside0.mk A180
   clear A180
   replace H := Option.bind_eq_some_iff.mp H
   obtain ⟨t392, A190, H⟩ := H
   replace H : ((laws_toSaid.f a2_0 a2_1).bind fun bt395 => ((spec_SwappedBy.f k t388 t389 t392 bt395.1 bt395.2).bind fun bt397 => ((laws_toRope.f k a0_0 l0_1).bind fun bt401 => ((laws_toHoldS.f k l1).bind fun t406 => ((laws_toSaid.f a2_0 a2_1).bind fun bt409 => ((impl_SwappedBy.f k bt401.1 bt401.2 t406 bt409.1 bt409.2).bind fun bt411 => ((laws_eqInt64A2S.f k bt411.1 bt397.1).bind fun t415 => (if t415 = true then (laws_FnExactSwappedBy.j0 k l1 bt397.1 bt397.2 t406 bt411.1 bt411.2 (bt411.2 != bt397.2) a0_0 l0_1 a2_0 a2_1 bt401.1 bt401.2) else (laws_FnExactSwappedBy.j0 k l1 bt397.1 bt397.2 t406 bt411.1 bt411.2 true a0_0 l0_1 a2_0 a2_1 bt401.1 bt401.2))))))))) = some r := H
   have A19 := Aside0.mk A190
   clear A190
   replace H := Option.bind_eq_some_iff.mp H
   obtain ⟨⟨t395, t396⟩, A200, H⟩ := H
   replace H : ((spec_SwappedBy.f k t388 t389 t392 t395 t396).bind fun bt397 => ((laws_toRope.f k a0_0 l0_1).bind fun bt401 => ((laws_toHoldS.f k l1).bind fun t406 => ((laws_toSaid.f a2_0 a2_1).bind fun bt409 => ((impl_SwappedBy.f k bt401.1 bt401.2 t406 bt409.1 bt409.2).bind fun bt411 => ((laws_eqInt64A2S.f k bt411.1 bt397.1).bind fun t415 => (if t415 = true then (laws_FnExactSwappedBy.j0 k l1 bt397.1 bt397.2 t406 bt411.1 bt411.2 (bt411.2 != bt397.2) a0_0 l0_1 a2_0 a2_1 bt401.1 bt401.2) else (laws_FnExactSwappedBy.j0 k l1 bt397.1 bt397.2 t406 bt411.1 bt411.2 true a0_0 l0_1 a2_0 a2_1 bt401.1 bt401.2)))))))) = some r := H
   have A20 := Aside0.mk A200
   clear A200
   replace H := Option.bind_eq_some_iff.mp H
   obtain ⟨⟨t397, t400⟩, A210, H⟩ := H
   replace H : ((laws_toRope.f k a0_0 l0_1).bind fun bt401 => ((laws_toHoldS.f k l1).bind fun t406 => ((laws_toSaid.f a2_0 a2_1).bind fun bt409 => ((impl_SwappedBy.f k bt401.1 bt401.2 t406 bt409.1 bt409.2).bind fun bt411 => ((laws_eqInt64A2S.f k bt411.1 t397).bind fun t415 => (if t415 = true then (laws_FnExactSwappedBy.j0 k l1 t397 t400 t406 bt411.1 bt411.2 (bt411.2 != t400) a0_0 l0_1 a2_0 a2_1 bt401.1 bt401.2) else (laws_FnExactSwappedBy.j0 k l1 t397 t400 t406 bt411.1 bt411.2 true a0_0 l0_1 a2_0 a2_1 bt401.1 bt401.2))))))) = some r := H
   have A21 := Aside0.mk A210
   clear A210
   replace H := Option.bind_eq_some_iff.mp H
   obtain ⟨⟨t401, t402⟩, A220, H⟩ := H
   replace H : ((laws_toHoldS.f k l1).bind fun t406 => ((laws_toSaid.f a2_0 a2_1).bind fun bt409 => ((impl_SwappedBy.f k t401 t402 t406 bt409.1 bt409.2).bind fun bt411 => ((laws_eqInt64A2S.f k bt411.1 t397).bind fun t415 => (if t415 = true then (laws_FnExactSwappedBy.j0 k l1 t397 t400 t406 bt411.1 bt411.2 (bt411.2 != t400) a0_0 l0_1 a2_0 a2_1 t401 t402) else (laws_FnExactSwappedBy.j0 k l1 t397 t400 t406 bt411.1 bt411.2 true a0_0 l0_1 a2_0 a2_1 t401 t402)))))) = some r := H
   have A22 := Aside0.mk A220
   clear A220
   replace H := Option.bind_eq_some_iff.mp H
   obtain ⟨t406, A230, H⟩ := H
   replace H : ((laws_toSaid.f a2_0 a2_1).bind fun bt409 => ((impl_SwappedBy.f k t401 t402 t406 bt409.1 bt409.2).bind fun bt411 => ((laws_eqInt64A2S.f k bt411.1 t397).bind fun t415 => (if t415 = true then (laws_FnExactSwappedBy.j0 k l1 t397 t400 t406 bt411.1 bt411.2 (bt411.2 != t400) a0_0 l0_1 a2_0 a2_1 t401 t402) else (laws_FnExactSwappedBy.j0 k l1 t397 t400 t406 bt411.1 bt411.2 true a0_0 l0_1 a2_0 a2_1 t401 t402))))) = some r := H
   have A23 := Aside0.mk A230
   clear A230
   replace H := Option.bind_eq_some_iff.mp H
   obtain ⟨⟨t409, t410⟩, A240, H⟩ := H
   replace H : ((impl_SwappedBy.f k t401 t402 t406 t409 t410).bind fun bt411 => ((laws_eqInt64A2S.f k bt411.1 t397).bind fun t415 => (if t415 = true then (laws_FnExactSwappedBy.j0 k l1 t397 t400 t406 bt411.1 bt411.2 (bt411.2 != t400) a0_0 l0_1 a2_0 a2_1 t401 t402) else (laws_FnExactSwappedBy.j0 k l1 t397 t400 t406 bt411.1 bt411.2 true a0_0 l0_1 a2_0 a2_1 t401 t402)))) = some r := H
   have A24 := Aside0.mk A240
   clear A240
   replace H := Option.bind_eq_some_iff.mp H
   obtain ⟨⟨t411, t414⟩, A250, H⟩ := H
   replace H : ((laws_eqInt64A2S.f k t411 t397).bind fun t415 => (if t415 = true then (laws_FnExactSwappedBy.j0 k l1 t397 t400 t406 t411 t414 (t414 != t400) a0_0 l0_1 a2_0 a2_1 t401 t402) else (laws_FnExactSwappedBy.j0 k l1 t397 t400 t406 t411 t414 true a0_0 l0_1 a2_0 a2_1 t401 t402))) = some r := H
   have A25 := Aside0.mk A250
   clear A250
   have HC26 := Aside0.mk H
   clear H
   go_enter Try.func4, Try.ntmps4
   try go_wp2_with (first | ((with_reducible refine gate_dst (N := 3) rfl ?_); refine box_event ?hg (N := 3) ?hd (cs := #[.int .i16 a0_0, .slice A0_1 l0_1.length c0_1]) (t := 25) ?hr ?_; (case hd => rfl); (case hg => rfl); (case hr => first | (go_simp; done) | (go_simp; rfl)); intro gb384 hg w27 hbox hb; have n0_ := Aside0.mk (below_step (by repeat (first | (with_reducible first | exact HB.out | apply below_alloc | apply pw_below_drewN | apply below_drew1) | exact HB.out)) hb); have n1_ := Aside0.mk (hbox); have n2_ := Aside0.mk ((by rw [hg]; exact (below_size (by repeat (first | (with_reducible first | exact HB.out | apply below_alloc | apply pw_below_drewN | apply below_drew1) | exact HB.out))) : w.heap.size ≤ gb384)); have n3_ := Aside0.mk ((by rw [hg]; exact (below_size (by repeat (first | (with_reducible first | exact HB.out | apply below_alloc | apply pw_below_drewN | apply below_drew1) | exact HB.out))) : w.heap.size ≤ gb384)); clear HB; have HB := n0_; have BK384 := n1_; have GW384 := n2_; have GE384 := n3_; clear n0_ n1_ n2_ n3_; clear hb hbox hg) | ((with_reducible refine gate_dst (N := 5) rfl ?_); refine box_event ?hg (N := 5) ?hd (cs := #[.int .i64 a2_0, .int .i64 a2_1]) (t := 46) ?hr ?_; (case hd => rfl); (case hg => rfl); (case hr => first | (go_simp; done) | (go_simp; rfl)); intro gb385 hg w28 hbox hb; have n0_ := Aside0.mk (blk_below (g := gb384) (o := .cells #[.int .i16 a0_0, .slice A0_1 l0_1.length c0_1] 25 (0, 0)) (by (with_reducible repeat (first | refine blk_drewN ?_ _ | refine blk_drew ?_ | refine blk_alloc ?_ _)); exact BK384.out) hb); have n1_ := Aside0.mk (below_step (by repeat (first | (with_reducible first | exact HB.out | apply below_alloc | apply pw_below_drewN | apply below_drew1 | refine below_set ?_ GE384.out) | exact HB.out)) hb); have n2_ := Aside0.mk (hbox); have n3_ := Aside0.mk ((by rw [hg]; exact (below_size (by repeat (first | (with_reducible first | exact HB.out | apply below_alloc | apply pw_below_drewN | apply below_drew1 | refine below_set ?_ GE384.out) | exact HB.out))) : w.heap.size ≤ gb385)); have n4_ := Aside0.mk ((by rw [hg]; exact (below_size (by repeat (first | (with_reducible first | exact HB.out | apply below_alloc | apply pw_below_drewN | apply below_drew1 | refine below_set ?_ GE384.out) | exact HB.out))) : w.heap.size ≤ gb385)); have n5_ := Aside0.mk ((by rw [hg]; exact Nat.ne_of_lt (blk_lt (g := gb384) (o := .cells #[.int .i16 a0_0, .slice A0_1 l0_1.length c0_1] 25 (0, 0)) (by (with_reducible repeat (first | refine blk_drewN ?_ _ | refine blk_drew ?_ | refine blk_alloc ?_ _)); exact BK384.out)) : gb384 ≠ gb385)); have n6_ := Aside0.mk ((by rw [hg]; exact Nat.ne_of_gt (blk_lt (g := gb384) (o := .cells #[.int .i16 a0_0, .slice A0_1 l0_1.length c0_1] 25 (0, 0)) (by (with_reducible repeat (first | refine blk_drewN ?_ _ | refine blk_drew ?_ | refine blk_alloc ?_ _)); exact BK384.out)) : gb385 ≠ gb384)); clear BK384; clear HB; have BK384 := n0_; have HB := n1_; have BK385 := n2_; have GW385 := n3_; have GE385 := n4_; have NB384_385 := n5_; have NB385_384 := n6_; clear n0_ n1_ n2_ n3_ n4_ n5_ n6_; clear hb hbox hg; have hnb29 := NB384_385.out; have hnc29 := NB385_384.out; have hcz30_0 : w28.cell? ⟨gb384, 0, none⟩ = some (.int .i16 a0_0) := (blk_cell BK384.out 0).trans rfl; have hcz30_1 : w28.cell? ⟨gb384, 1, none⟩ = some (.slice A0_1 l0_1.length c0_1) := (blk_cell BK384.out 1).trans rfl; have hfz30_0 := blk_frozen BK384.out 0; have hfz30_1 := blk_frozen BK384.out 1) | ((with_reducible refine gate_callee (f := 5) rfl ?_); refine goesL_ (some 21) rfl rfl Try.func5 (by kernel_rfl) rfl #[.agg #[.int .i16 a0_0, .slice A0_1 l0_1.length c0_1], .int .i64 1048576] rfl (by (try simp only [List.map_toArray, List.map_cons, List.map_nil]); first | done | rfl | (simp only [List.length_drop, List.length_take]; rfl)) ?_; (with_reducible refine (laws_szRope.calls a0_0 _ _ l0_1 1048576 t386 _ ?side1 ?side2 A4.out).mono ?_); (case side1 => repeat (first | exact (Kd.C_below HR0_1.out HB.out) | (with_reducible refine Kd.C_alloc ?_ _) | (with_reducible refine Kd.C_drewN ?_ _) | (with_reducible refine Kd.C_drew ?_))); (case side2 => exact HC0_1.out); rintro e w31 ⟨rfl, hb⟩; refine ⟨_, rfl, ?_⟩; have n0_ := Aside0.mk (blk_below (g := gb384) (o := .cells #[.int .i16 a0_0, .slice A0_1 l0_1.length c0_1] 25 (0, 0)) (by (with_reducible repeat (first | refine blk_drewN ?_ _ | refine blk_drew ?_ | refine blk_alloc ?_ _)); exact BK384.out) hb); have n1_ := Aside0.mk (blk_below (g := gb385) (o := .cells #[.int .i64 a2_0, .int .i64 a2_1] 46 (0, 0)) (by (with_reducible repeat (first | refine blk_drewN ?_ _ | refine blk_drew ?_ | refine blk_alloc ?_ _)); exact BK385.out) hb); have n2_ := Aside0.mk (below_step (by repeat (first | (with_reducible first | exact HB.out | apply below_alloc | apply pw_below_drewN | apply below_drew1 | refine below_set ?_ GE384.out | refine below_set ?_ GE385.out) | exact HB.out)) hb); clear BK384; clear BK385; clear HB; have BK384 := n0_; have BK385 := n1_; have HB := n2_; clear n0_ n1_ n2_; (try clear hb); (try clear hb2); (try clear hk); (try clear hi)) | ((with_reducible refine gate_callee (f := 6) rfl ?_); refine goesL_ (some 26) rfl rfl Try.func6 (by kernel_rfl) rfl #[.slice A1 l1.length c1, .int .i64 t386] rfl (by (try simp only [List.map_toArray, List.map_cons, List.map_nil]); first | done | rfl | (simp only [List.length_drop, List.length_take]; rfl)) ?_; (with_reducible refine (laws_szHoldS.calls _ _ l1 t386 t387 _ ?side1 ?side2 A11.out).mono ?_); (case side1 => repeat (first | exact (Kd.C_below HR1.out HB.out) | (with_reducible refine Kd.C_alloc ?_ _) | (with_reducible refine Kd.C_drewN ?_ _) | (with_reducible refine Kd.C_drew ?_))); (case side2 => exact HC1.out); rintro e w' ⟨rfl, ⟨nd, rfl⟩⟩; refine ⟨_, rfl, ?_⟩; (try (rw [drewN_self w31]; generalize hq_ : World.drewN w31 _ = w31; have n0_ : Aside0 (w31.heap[gb384]? = some (.cells #[.int .i16 a0_0, .slice A0_1 l0_1.length c0_1] 25 (0, 0))) := ⟨by rw [← hq_]; exact (by (with_reducible repeat (first | refine blk_drewN ?_ _ | refine blk_drew ?_ | refine blk_alloc ?_ _)); exact BK384.out)⟩; have n1_ : Aside0 (w31.heap[gb385]? = some (.cells #[.int .i64 a2_0, .int .i64 a2_1] 46 (0, 0))) := ⟨by rw [← hq_]; exact (by (with_reducible repeat (first | refine blk_drewN ?_ _ | refine blk_drew ?_ | refine blk_alloc ?_ _)); exact BK385.out)⟩; have n2_ : Aside0 (Below w.heap.size w w31) := ⟨by rw [← hq_]; exact (by repeat (first | (with_reducible first | exact HB.out | apply below_alloc | apply pw_below_drewN | apply below_drew1 | refine below_set ?_ GE384.out | refine below_set ?_ GE385.out) | exact HB.out))⟩; clear BK384 BK385 HB hq_; have BK384 := n0_; have BK385 := n1_; have HB := n2_; clear n0_ n1_ n2_))))
   have n0_ := Aside0.mk (blk_drew BK384.out)
   have n1_ := Aside0.mk (blk_drew BK385.out)
   have n2_ := Aside0.mk (below_drew1 HB.out)
   clear BK384
   clear BK385
   clear HB
   have BK384 := n0_
   have BK385 := n1_
   have HB := n2_
   clear n0_ n1_ n2_
   refine start_ (n := 12) (S := fun w' => w'.cell? ⟨gb384, 0, none⟩ = some (.int .i16 a0_0) ∧ w'.cell? ⟨gb384, 1, none⟩ = some (.slice A0_1 l0_1.length c0_1) ∧ w'.cell? ⟨gb385, 0, none⟩ = some (.int .i64 a2_0) ∧ w'.cell? ⟨gb385, 1, none⟩ = some (.int .i64 a2_1)) (ds := []) #[false, false, false, false, false, false, false, false, false, false, false, false] (by kernel_rfl) rfl rfl ⟨(blk_cell BK384.out 0).trans rfl, (blk_cell BK384.out 1).trans rfl, (blk_cell BK385.out 0).trans rfl, (blk_cell BK385.out 1).trans rfl⟩ (fun hHeld => ?_); refine with_tabW laws_FnExactSwappedBy.tab8 laws_FnExactSwappedBy.bits8 (fun HT_ HW_ => ?_)
   generalize w31.drew = w32 at BK384 BK385 HB hHeld ⊢
   refine pure_ (i := 2) (N := some 32) (v := ?_) (a' := ?_) #[false, false, true, false, false, false, false, false, false, false, false, false] rfl rfl (any_of HT_.out (by kernel_rfl)) (fun _ _ _ h => h) (Or.inl ⟨by rfl, ?_⟩) ?_ ?_
   rotate_left
   ·intro w'
    go_simp
    with_reducible rfl
   rotate_left
   ·simp only [Act.put, List.setIfInBounds_toArray, List.set_cons_zero, List.set_cons_succ, i64_w, i32_w]
    rfl
   refine take_ (i := 0) (N := some 30) (v := ?_) (a' := ?_) #[true, false, true, false, false, false, false, false, false, false, false, false] rfl rfl (take_ofW HT_.out HW_.out (by kernel_rfl)) (fun _ _ _ h => h) (Or.inl ⟨by rfl, ?_⟩) hHeld ?_ ?_
   rotate_left
   ·rintro w' ⟨s0, s1, s2, s3⟩
    go_simp
    with_reducible rfl
   rotate_left
   ·simp only [Act.put, List.setIfInBounds_toArray, List.set_cons_zero, List.set_cons_succ, i64_w, i32_w]
    rfl
   refine take_ (i := 4) (N := some 34) (v := ?_) (a' := ?_) #[true, false, true, false, true, false, false, false, false, false, false, false] rfl rfl (take_ofW HT_.out HW_.out (by kernel_rfl)) (fun _ _ _ h => h) (Or.inl ⟨by rfl, ?_⟩) hHeld ?_ ?_
   rotate_left
   ·rintro w' ⟨s0, s1, s2, s3⟩
    go_simp
    with_reducible rfl
   rotate_left
   ·simp only [Act.put, List.setIfInBounds_toArray, List.set_cons_zero, List.set_cons_succ, i64_w, i32_w]
    rfl
   refine one_ (i := 1) (N := some 31) #[true, true, true, false, true, false, false, false, false, false, false, false] rfl rfl (one_of HT_.out (by kernel_rfl)) (by decide) (fun K hK => ?_)
   refine goes_ Try.func8 (by kernel_rfl) rfl #[.agg #[.int .i16 a0_0, .slice A0_1 l0_1.length c0_1]] (by rfl) rfl rfl (by (try simp only [List.map_toArray, List.map_cons, List.map_nil]); first | done | rfl | (simp only [List.length_drop, List.length_take]; rfl)) ?_
   with_reducible refine (laws_toRope.calls k a0_0 _ _ l0_1 t388 t389 _ ?side1 ?side2 A18.out).mono ?_
   (case side1 => repeat (first | exact (Kd.C_below HR0_1.out HB.out) | (with_reducible refine Kd.C_alloc ?_ _) | (with_reducible refine Kd.C_drewN ?_ _) | (with_reducible refine Kd.C_drew ?_)))
   (case side2 => exact HC0_1.out)
   rintro e w33 ⟨v390, rfl, ho0, hb⟩
   refine ⟨_, rfl, ?_⟩
   have n0_ := Aside0.mk (Kd.R_lower ho0 (below_size (by repeat (first | (with_reducible first | exact HB.out | apply below_alloc | apply pw_below_drewN | apply below_drew1 | refine below_set ?_ GE384.out | refine below_set ?_ GE385.out) | exact HB.out))))
   have n1_ := Aside0.mk (blk_below (g := gb384) (o := .cells #[.int .i16 a0_0, .slice A0_1 l0_1.length c0_1] 25 (0, 0)) (by (with_reducible repeat (first | refine blk_drewN ?_ _ | refine blk_drew ?_ | refine blk_alloc ?_ _)); exact BK384.out) hb)
   have n2_ := Aside0.mk (blk_below (g := gb385) (o := .cells #[.int .i64 a2_0, .int .i64 a2_1] 46 (0, 0)) (by (with_reducible repeat (first | refine blk_drewN ?_ _ | refine blk_drew ?_ | refine blk_alloc ?_ _)); exact BK385.out) hb)
   have n3_ := Aside0.mk (below_step (by repeat (first | (with_reducible first | exact HB.out | apply below_alloc | apply pw_below_drewN | apply below_drew1 | refine below_set ?_ GE384.out | refine below_set ?_ GE385.out) | exact HB.out)) hb)
   clear BK384
   clear BK385
   clear HB
   have HO391 := n0_
   have BK384 := n1_
   have BK385 := n2_
   have HB := n3_
   clear n0_ n1_ n2_ n3_
   (try clear hb)
   (try clear hb2)
   (try clear hk)
   (try clear hi)
   (try clear ho0)
   refine hK.out _ _ ⟨(blk_cell BK384.out 0).trans rfl, (blk_cell BK384.out 1).trans rfl, (blk_cell BK385.out 0).trans rfl, (blk_cell BK385.out 1).trans rfl⟩ (fun hHeld => ?_)
   clear hK K
   refine norm_ (a' := ?_) ?_ ?_
   rotate_left
   ·show Act.put _ (some 31) _ = _
    simp only [Act.put, List.setIfInBounds_toArray, List.set_cons_zero, List.set_cons_succ, i64_w, i32_w]
    rfl
   refine one_ (i := 3) (N := some 33) #[true, true, true, true, true, false, false, false, false, false, false, false] rfl rfl (one_of HT_.out (by kernel_rfl)) (by decide) (fun K hK => ?_)
   refine goes_ Try.func9 (by kernel_rfl) rfl #[.slice A1 l1.length c1] (by rfl) rfl rfl (by (try simp only [List.map_toArray, List.map_cons, List.map_nil]); first | done | rfl | (simp only [List.length_drop, List.length_take]; rfl)) ?_
   with_reducible refine (laws_toHoldS.calls k _ _ l1 t392 _ ?side1 ?side2 A19.out).mono ?_
   (case side1 => repeat (first | exact (Kd.C_below HR1.out HB.out) | (with_reducible refine Kd.C_alloc ?_ _) | (with_reducible refine Kd.C_drewN ?_ _) | (with_reducible refine Kd.C_drew ?_)))
   (case side2 => exact HC1.out)
   rintro e w34 ⟨v393, rfl, ho0, hb⟩
   refine ⟨_, rfl, ?_⟩
   have n0_ := Aside0.mk (Kd.R_below (by (with_reducible repeat (first | apply Kd.R_alloc | apply Kd.R_drewN | apply Kd.R_drew)); exact HO391.out) hb)
   have n1_ := Aside0.mk (Kd.R_lower ho0 (below_size (by repeat (first | (with_reducible first | exact HB.out | apply below_alloc | apply pw_below_drewN | apply below_drew1 | refine below_set ?_ GE384.out | refine below_set ?_ GE385.out) | exact HB.out))))
   have n2_ := Aside0.mk (blk_below (g := gb384) (o := .cells #[.int .i16 a0_0, .slice A0_1 l0_1.length c0_1] 25 (0, 0)) (by (with_reducible repeat (first | refine blk_drewN ?_ _ | refine blk_drew ?_ | refine blk_alloc ?_ _)); exact BK384.out) hb)
   have n3_ := Aside0.mk (blk_below (g := gb385) (o := .cells #[.int .i64 a2_0, .int .i64 a2_1] 46 (0, 0)) (by (with_reducible repeat (first | refine blk_drewN ?_ _ | refine blk_drew ?_ | refine blk_alloc ?_ _)); exact BK385.out) hb)
   have n4_ := Aside0.mk (below_step (by repeat (first | (with_reducible first | exact HB.out | apply below_alloc | apply pw_below_drewN | apply below_drew1 | refine below_set ?_ GE384.out | refine below_set ?_ GE385.out) | exact HB.out)) hb)
   clear HO391
   clear BK384
   clear BK385
   clear HB
   have HO391 := n0_
   have HO394 := n1_
   have BK384 := n2_
   have BK385 := n3_
   have HB := n4_
   clear n0_ n1_ n2_ n3_ n4_
   (try clear hb)
   (try clear hb2)
   (try clear hk)
   (try clear hi)
   (try clear ho0)
   refine hK.out _ _ ⟨(blk_cell BK384.out 0).trans rfl, (blk_cell BK384.out 1).trans rfl, (blk_cell BK385.out 0).trans rfl, (blk_cell BK385.out 1).trans rfl⟩ (fun hHeld => ?_)
   clear hK K
   refine norm_ (a' := ?_) ?_ ?_
   rotate_left
   ·show Act.put _ (some 33) _ = _
    simp only [Act.put, List.setIfInBounds_toArray, List.set_cons_zero, List.set_cons_succ, i64_w, i32_w]
    rfl
   refine one_ (i := 5) (N := some 35) #[true, true, true, true, true, true, false, false, false, false, false, false] rfl rfl (one_of HT_.out (by kernel_rfl)) (by decide) (fun K hK => ?_)
   refine goes_ Try.func18 (by kernel_rfl) rfl #[.agg #[.int .i64 a2_0, .int .i64 a2_1]] (by rfl) rfl rfl (by (try simp only [List.map_toArray, List.map_cons, List.map_nil]); first | done | rfl | (simp only [List.length_drop, List.length_take]; rfl)) ?_
   with_reducible refine (laws_toSaid.calls a2_0 a2_1 t395 t396 _ A20.out).mono ?_
   rintro e w35 ⟨rfl, hb⟩
   refine ⟨_, rfl, ?_⟩
   have n0_ := Aside0.mk (Kd.R_below (by (with_reducible repeat (first | apply Kd.R_alloc | apply Kd.R_drewN | apply Kd.R_drew)); exact HO391.out) hb)
   have n1_ := Aside0.mk (Kd.R_below (by (with_reducible repeat (first | apply Kd.R_alloc | apply Kd.R_drewN | apply Kd.R_drew)); exact HO394.out) hb)
   have n2_ := Aside0.mk (blk_below (g := gb384) (o := .cells #[.int .i16 a0_0, .slice A0_1 l0_1.length c0_1] 25 (0, 0)) (by (with_reducible repeat (first | refine blk_drewN ?_ _ | refine blk_drew ?_ | refine blk_alloc ?_ _)); exact BK384.out) hb)
   have n3_ := Aside0.mk (blk_below (g := gb385) (o := .cells #[.int .i64 a2_0, .int .i64 a2_1] 46 (0, 0)) (by (with_reducible repeat (first | refine blk_drewN ?_ _ | refine blk_drew ?_ | refine blk_alloc ?_ _)); exact BK385.out) hb)
   have n4_ := Aside0.mk (below_step (by repeat (first | (with_reducible first | exact HB.out | apply below_alloc | apply pw_below_drewN | apply below_drew1 | refine below_set ?_ GE384.out | refine below_set ?_ GE385.out) | exact HB.out)) hb)
   clear HO391
   clear HO394
   clear BK384
   clear BK385
   clear HB
   have HO391 := n0_
   have HO394 := n1_
   have BK384 := n2_
   have BK385 := n3_
   have HB := n4_
   clear n0_ n1_ n2_ n3_ n4_
   (try clear hb)
   (try clear hb2)
   (try clear hk)
   (try clear hi)
   obtain ⟨Ao36, co36, eo36⟩ := Kd.R_slice HO391.out
   (first | subst eo36 | (injection eo36 with f1_ f2_ f3_; have f4_ := f1_.symm; have f5_ := f3_.symm; clear f1_ f2_ f3_; subst f4_; subst f5_))
   obtain ⟨Ao37, co37, eo37⟩ := Kd.R_slice HO394.out
   (first | subst eo37 | (injection eo37 with f1_ f2_ f3_; have f4_ := f1_.symm; have f5_ := f3_.symm; clear f1_ f2_ f3_; subst f4_; subst f5_))
   refine hK.out _ _ ⟨(blk_cell BK384.out 0).trans rfl, (blk_cell BK384.out 1).trans rfl, (blk_cell BK385.out 0).trans rfl, (blk_cell BK385.out 1).trans rfl⟩ (fun hHeld => ?_)
   clear hK K
   refine norm_ (a' := ?_) ?_ ?_
   rotate_left
   ·show Act.put _ (some 35) _ = _
    simp only [Act.put, List.setIfInBounds_toArray, List.set_cons_zero, List.set_cons_succ, i64_w, i32_w]
    rfl
   refine one_ (i := 6) (N := some 36) #[true, true, true, true, true, true, true, false, false, false, false, false] rfl rfl (one_of HT_.out (by kernel_rfl)) (by decide) (fun K hK => ?_)
   refine goes_ Try.func17 (by kernel_rfl) rfl #[.agg #[.int .i16 t388, .slice Ao36 t389.length co36], .slice Ao37 t392.length co37, .agg #[.int .i64 t395, .int .i64 t396]] (by rfl) rfl rfl (by (try simp only [List.map_toArray, List.map_cons, List.map_nil]); first | done | rfl | (simp only [List.length_drop, List.length_take]; rfl)) ?_
   with_reducible refine (spec_SwappedBy.calls k t388 _ _ t389 _ _ t392 t395 t396 t397 t400 _ ?side1 ?side2 ?side3 ?side4 A21.out).mono ?_
   (case side1 => repeat (first | exact (Kd.R_reads' HO391.out).2.2 | (with_reducible refine Kd.C_alloc ?_ _) | (with_reducible refine Kd.C_drewN ?_ _) | (with_reducible refine Kd.C_drew ?_)))
   (case side2 => exact (Kd.R_reads' HO391.out).2.1)
   (case side3 => repeat (first | exact (Kd.R_reads' HO394.out).2.2 | (with_reducible refine Kd.C_alloc ?_ _) | (with_reducible refine Kd.C_drewN ?_ _) | (with_reducible refine Kd.C_drew ?_)))
   (case side4 => exact (Kd.R_reads' HO394.out).2.1)
   rintro e w38 ⟨v398, rfl, ho0, hb⟩
   refine ⟨_, rfl, ?_⟩
   have n0_ := Aside0.mk (Kd.R_below (by (with_reducible repeat (first | apply Kd.R_alloc | apply Kd.R_drewN | apply Kd.R_drew)); exact HO391.out) hb)
   have n1_ := Aside0.mk (Kd.R_below (by (with_reducible repeat (first | apply Kd.R_alloc | apply Kd.R_drewN | apply Kd.R_drew)); exact HO394.out) hb)
   have n2_ := Aside0.mk (Kd.R_lower ho0 (below_size (by repeat (first | (with_reducible first | exact HB.out | apply below_alloc | apply pw_below_drewN | apply below_drew1 | refine below_set ?_ GE384.out | refine below_set ?_ GE385.out) | exact HB.out))))
   have n3_ := Aside0.mk (blk_below (g := gb384) (o := .cells #[.int .i16 a0_0, .slice A0_1 l0_1.length c0_1] 25 (0, 0)) (by (with_reducible repeat (first | refine blk_drewN ?_ _ | refine blk_drew ?_ | refine blk_alloc ?_ _)); exact BK384.out) hb)
   have n4_ := Aside0.mk (blk_below (g := gb385) (o := .cells #[.int .i64 a2_0, .int .i64 a2_1] 46 (0, 0)) (by (with_reducible repeat (first | refine blk_drewN ?_ _ | refine blk_drew ?_ | refine blk_alloc ?_ _)); exact BK385.out) hb)
   have n5_ := Aside0.mk (below_step (by repeat (first | (with_reducible first | exact HB.out | apply below_alloc | apply pw_below_drewN | apply below_drew1 | refine below_set ?_ GE384.out | refine below_set ?_ GE385.out) | exact HB.out)) hb)
   clear HO391
   clear HO394
   clear BK384
   clear BK385
   clear HB
   have HO391 := n0_
   have HO394 := n1_
   have HO399 := n2_
   have BK384 := n3_
   have BK385 := n4_
   have HB := n5_
   clear n0_ n1_ n2_ n3_ n4_ n5_
   (try clear hb)
   (try clear hb2)
   (try clear hk)
   (try clear hi)
   (try clear ho0)
   refine hK.out _ _ ⟨(blk_cell BK384.out 0).trans rfl, (blk_cell BK384.out 1).trans rfl, (blk_cell BK385.out 0).trans rfl, (blk_cell BK385.out 1).trans rfl⟩ (fun hHeld => ?_)
   clear hK K
   refine norm_ (a' := ?_) ?_ ?_
   rotate_left
   ·show Act.put _ (some 36) _ = _
    simp only [Act.put, List.setIfInBounds_toArray, List.set_cons_zero, List.set_cons_succ, i64_w, i32_w]
    rfl
   refine pure_ (i := 7) (N := some 29) (v := ?_) (a' := ?_) #[true, true, true, true, true, true, true, true, false, false, false, false] rfl rfl (any_of HT_.out (by kernel_rfl)) (fun _ _ _ h => h) (Or.inl ⟨by rfl, ?_⟩) ?_ ?_
   rotate_left
   ·intro w'
    go_simp
    with_reducible rfl
   rotate_left
   ·simp only [Act.put, List.setIfInBounds_toArray, List.set_cons_zero, List.set_cons_succ, i64_w, i32_w]
    rfl
   refine pure_ (i := 8) (N := some 37) (v := ?_) (a' := ?_) #[true, true, true, true, true, true, true, true, true, false, false, false] rfl rfl (any_of HT_.out (by kernel_rfl)) (fun _ _ _ h => h) (Or.inl ⟨by rfl, ?_⟩) ?_ ?_
   rotate_left
   ·intro w'
    go_simp
    with_reducible rfl
   rotate_left
   ·simp only [Act.put, List.setIfInBounds_toArray, List.set_cons_zero, List.set_cons_succ, i64_w, i32_w]
    rfl
   refine pure_ (i := 9) (N := some 38) (v := ?_) (a' := ?_) #[true, true, true, true, true, true, true, true, true, true, false, false] rfl rfl (any_of HT_.out (by kernel_rfl)) (fun _ _ _ h => h) (Or.inl ⟨by rfl, ?_⟩) ?_ ?_
   rotate_left
   ·intro w'
    go_simp
    with_reducible rfl
   rotate_left
   ·simp only [Act.put, List.setIfInBounds_toArray, List.set_cons_zero, List.set_cons_succ, i64_w, i32_w]
    rfl
   refine pure_ (i := 10) (N := some 8) (v := ?_) (a' := ?_) #[true, true, true, true, true, true, true, true, true, true, true, false] rfl rfl (any_of HT_.out (by kernel_rfl)) (fun _ _ _ h => h) (Or.inl ⟨by rfl, ?_⟩) ?_ ?_
   rotate_left
   ·intro w'
    go_simp
    with_reducible rfl
   rotate_left
   ·simp only [Act.put, List.setIfInBounds_toArray, List.set_cons_zero, List.set_cons_succ, i64_w, i32_w]
    rfl
   refine pure_ (i := 11) (N := some 9) (v := ?_) (a' := ?_) #[true, true, true, true, true, true, true, true, true, true, true, true] rfl rfl (any_of HT_.out (by kernel_rfl)) (fun _ _ _ h => h) (Or.inl ⟨by rfl, ?_⟩) ?_ ?_
   rotate_left
   ·intro w'
    go_simp
    with_reducible rfl
   rotate_left
   ·simp only [Act.put, List.setIfInBounds_toArray, List.set_cons_zero, List.set_cons_succ, i64_w, i32_w]
    rfl
   refine done_ (done_of HT_.out (by kernel_rfl)) ?_
   have hcz39_0 : w38.cell? ⟨gb384, 0, none⟩ = some (.int .i16 a0_0) := (blk_cell BK384.out 0).trans rfl
   have hcz39_1 : w38.cell? ⟨gb384, 1, none⟩ = some (.slice A0_1 l0_1.length c0_1) := (blk_cell BK384.out 1).trans rfl
   have hfz39_0 := blk_frozen BK384.out 0
   have hfz39_1 := blk_frozen BK384.out 1
   try go_wp2_with (first | ((with_reducible refine gate_callee (f := 8) rfl ?_); refine goesL_ (some 40) rfl rfl Try.func8 (by kernel_rfl) rfl #[.agg #[.int .i16 a0_0, .slice A0_1 l0_1.length c0_1]] rfl (by (try simp only [List.map_toArray, List.map_cons, List.map_nil]); first | done | rfl | (simp only [List.length_drop, List.length_take]; rfl)) ?_; (with_reducible refine (laws_toRope.calls k a0_0 _ _ l0_1 t401 t402 _ ?side1 ?side2 A22.out).mono ?_); (case side1 => repeat (first | exact (Kd.C_below HR0_1.out HB.out) | (with_reducible refine Kd.C_alloc ?_ _) | (with_reducible refine Kd.C_drewN ?_ _) | (with_reducible refine Kd.C_drew ?_))); (case side2 => exact HC0_1.out); rintro e w40 ⟨v403, rfl, ho0, hb⟩; refine ⟨_, rfl, ?_⟩; have n0_ := Aside0.mk (Kd.R_elder' (by (with_reducible repeat (first | apply Kd.R_alloc | apply Kd.R_drewN | apply Kd.R_drew)); exact HO391.out) (Kd.R_base ho0) hb); have n1_ := Aside0.mk (Kd.R_below (by (with_reducible repeat (first | apply Kd.R_alloc | apply Kd.R_drewN | apply Kd.R_drew)); exact HO394.out) hb); have n2_ := Aside0.mk (Kd.R_below (by (with_reducible repeat (first | apply Kd.R_alloc | apply Kd.R_drewN | apply Kd.R_drew)); exact HO399.out) hb); have n3_ := Aside0.mk (Kd.R_lower (Kd.R_new' ho0 (Kd.R_lt (by (with_reducible repeat (first | apply Kd.R_alloc | apply Kd.R_drewN | apply Kd.R_drew)); exact HO391.out))) (below_size (by repeat (first | (with_reducible first | exact HB.out | apply below_alloc | apply pw_below_drewN | apply below_drew1 | refine below_set ?_ GE384.out | refine below_set ?_ GE385.out) | exact HB.out)))); have n4_ := Aside0.mk (blk_below (g := gb384) (o := .cells #[.int .i16 a0_0, .slice A0_1 l0_1.length c0_1] 25 (0, 0)) (by (with_reducible repeat (first | refine blk_drewN ?_ _ | refine blk_drew ?_ | refine blk_alloc ?_ _)); exact BK384.out) hb); have n5_ := Aside0.mk (blk_below (g := gb385) (o := .cells #[.int .i64 a2_0, .int .i64 a2_1] 46 (0, 0)) (by (with_reducible repeat (first | refine blk_drewN ?_ _ | refine blk_drew ?_ | refine blk_alloc ?_ _)); exact BK385.out) hb); have n6_ := Aside0.mk (below_step (by repeat (first | (with_reducible first | exact HB.out | apply below_alloc | apply pw_below_drewN | apply below_drew1 | refine below_set ?_ GE384.out | refine below_set ?_ GE385.out) | exact HB.out)) hb); clear HO391; clear HO394; clear HO399; clear BK384; clear BK385; clear HB; have HO391 := n0_; have HO394 := n1_; have HO399 := n2_; have HO404 := n3_; have BK384 := n4_; have BK385 := n5_; have HB := n6_; clear n0_ n1_ n2_ n3_ n4_ n5_ n6_; (try clear hb); (try clear hb2); (try clear hk); (try clear hi); (try clear ho0)) | ((with_reducible refine gate_dst (N := 10) rfl ?_); refine box_event ?hg (N := 10) ?hd (cs := #[.int .i16 0, .slice none 0 0]) (t := 35) ?hr ?_; (case hd => rfl); (case hg => rfl); (case hr => first | (go_simp; done) | (go_simp; rfl)); intro gb405 hg w41 hbox hb; have n0_ := Aside0.mk (Kd.R_below (by (with_reducible repeat (first | apply Kd.R_alloc | apply Kd.R_drewN | apply Kd.R_drew)); exact HO391.out) hb); have n1_ := Aside0.mk (Kd.R_below (by (with_reducible repeat (first | apply Kd.R_alloc | apply Kd.R_drewN | apply Kd.R_drew)); exact HO394.out) hb); have n2_ := Aside0.mk (Kd.R_below (by (with_reducible repeat (first | apply Kd.R_alloc | apply Kd.R_drewN | apply Kd.R_drew)); exact HO399.out) hb); have n3_ := Aside0.mk (Kd.R_below (by (with_reducible repeat (first | apply Kd.R_alloc | apply Kd.R_drewN | apply Kd.R_drew)); exact HO404.out) hb); have n4_ := Aside0.mk (blk_below (g := gb384) (o := .cells #[.int .i16 a0_0, .slice A0_1 l0_1.length c0_1] 25 (0, 0)) (by (with_reducible repeat (first | refine blk_drewN ?_ _ | refine blk_drew ?_ | refine blk_alloc ?_ _)); exact BK384.out) hb); have n5_ := Aside0.mk (blk_below (g := gb385) (o := .cells #[.int .i64 a2_0, .int .i64 a2_1] 46 (0, 0)) (by (with_reducible repeat (first | refine blk_drewN ?_ _ | refine blk_drew ?_ | refine blk_alloc ?_ _)); exact BK385.out) hb); have n6_ := Aside0.mk (below_step (by repeat (first | (with_reducible first | exact HB.out | apply below_alloc | apply pw_below_drewN | apply below_drew1 | refine below_set ?_ GE384.out | refine below_set ?_ GE385.out) | exact HB.out)) hb); have n7_ := Aside0.mk (hbox); have n8_ := Aside0.mk ((by rw [hg]; exact (below_size (by repeat (first | (with_reducible first | exact HB.out | apply below_alloc | apply pw_below_drewN | apply below_drew1 | refine below_set ?_ GE384.out | refine below_set ?_ GE385.out) | exact HB.out))) : w.heap.size ≤ gb405)); have n9_ := Aside0.mk ((by rw [hg]; exact (below_size (by repeat (first | (with_reducible first | exact HB.out | apply below_alloc | apply pw_below_drewN | apply below_drew1 | refine below_set ?_ GE384.out | refine below_set ?_ GE385.out) | exact HB.out))) : w.heap.size ≤ gb405)); have n10_ := Aside0.mk ((by rw [hg]; exact Nat.ne_of_lt (blk_lt (g := gb384) (o := .cells #[.int .i16 a0_0, .slice A0_1 l0_1.length c0_1] 25 (0, 0)) (by (with_reducible repeat (first | refine blk_drewN ?_ _ | refine blk_drew ?_ | refine blk_alloc ?_ _)); exact BK384.out)) : gb384 ≠ gb405)); have n11_ := Aside0.mk ((by rw [hg]; exact Nat.ne_of_gt (blk_lt (g := gb384) (o := .cells #[.int .i16 a0_0, .slice A0_1 l0_1.length c0_1] 25 (0, 0)) (by (with_reducible repeat (first | refine blk_drewN ?_ _ | refine blk_drew ?_ | refine blk_alloc ?_ _)); exact BK384.out)) : gb405 ≠ gb384)); have n12_ := Aside0.mk ((by rw [hg]; exact Nat.ne_of_lt (blk_lt (g := gb385) (o := .cells #[.int .i64 a2_0, .int .i64 a2_1] 46 (0, 0)) (by (with_reducible repeat (first | refine blk_drewN ?_ _ | refine blk_drew ?_ | refine blk_alloc ?_ _)); exact BK385.out)) : gb385 ≠ gb405)); have n13_ := Aside0.mk ((by rw [hg]; exact Nat.ne_of_gt (blk_lt (g := gb385) (o := .cells #[.int .i64 a2_0, .int .i64 a2_1] 46 (0, 0)) (by (with_reducible repeat (first | refine blk_drewN ?_ _ | refine blk_drew ?_ | refine blk_alloc ?_ _)); exact BK385.out)) : gb405 ≠ gb385)); clear HO391; clear HO394; clear HO399; clear HO404; clear BK384; clear BK385; clear HB; have HO391 := n0_; have HO394 := n1_; have HO399 := n2_; have HO404 := n3_; have BK384 := n4_; have BK385 := n5_; have HB := n6_; have BK405 := n7_; have GW405 := n8_; have GE405 := n9_; have NB384_405 := n10_; have NB405_384 := n11_; have NB385_405 := n12_; have NB405_385 := n13_; clear n0_ n1_ n2_ n3_ n4_ n5_ n6_ n7_ n8_ n9_ n10_ n11_ n12_ n13_; clear hb hbox hg; have hnb42 := NB405_384.out; have hnc42 := NB384_405.out; have hnb43 := NB405_385.out; have hnc43 := NB385_405.out; have hcz44_0 : w41.cell? ⟨gb405, 0, none⟩ = some (.int .i16 0) := (blk_cell BK405.out 0).trans rfl; have hcz44_1 : w41.cell? ⟨gb405, 1, none⟩ = some (.slice none 0 0) := (blk_cell BK405.out 1).trans rfl; have hfz44_0 := blk_frozen BK405.out 0; have hfz44_1 := blk_frozen BK405.out 1; obtain ⟨Ao45, co45, eo45⟩ := Kd.R_slice HO404.out; subst eo45) | ((with_reducible refine gate_callee (f := 9) rfl ?_); refine goesL_ (some 42) rfl rfl Try.func9 (by kernel_rfl) rfl #[.slice A1 l1.length c1] rfl (by (try simp only [List.map_toArray, List.map_cons, List.map_nil]); first | done | rfl | (simp only [List.length_drop, List.length_take]; rfl)) ?_; (with_reducible refine (laws_toHoldS.calls k _ _ l1 t406 _ ?side1 ?side2 A23.out).mono ?_); (case side1 => exact Kd.C_below HR1.out (by repeat (first | (with_reducible first | exact HB.out | apply below_alloc | apply pw_below_drewN | apply below_drew1 | refine below_set ?_ GE384.out | refine below_set ?_ GE385.out | refine below_set ?_ GE405.out) | exact HB.out))); (case side2 => exact HC1.out); rintro e w46 ⟨v407, rfl, ho0, hb⟩; refine ⟨_, rfl, ?_⟩; have n0_ := Aside0.mk (Kd.R_below (by (with_reducible repeat (first | apply Kd.R_alloc | apply Kd.R_drewN | apply Kd.R_drew)); exact (Kd.R_mono (Kd.R_far (p := ⟨gb405, 1, none⟩) (Kd.R_far (p := ⟨gb405, 0, none⟩) (Kd.R_types HO391.out BK405.out (by decide)) (fun _ hk => hk.2) (.int .i16 t401)) (fun _ hk => hk.2) (.slice Ao45 t402.length co45)) (fun _ h_ => h_.1))) hb); have n1_ := Aside0.mk (Kd.R_elder' (by (with_reducible repeat (first | apply Kd.R_alloc | apply Kd.R_drewN | apply Kd.R_drew)); exact (Kd.R_mono (Kd.R_far (p := ⟨gb405, 1, none⟩) (Kd.R_far (p := ⟨gb405, 0, none⟩) (Kd.R_types HO394.out BK405.out (by decide)) (fun _ hk => hk.2) (.int .i16 t401)) (fun _ hk => hk.2) (.slice Ao45 t402.length co45)) (fun _ h_ => h_.1))) (Kd.R_base ho0) hb); have n2_ := Aside0.mk (Kd.R_below (by (with_reducible repeat (first | apply Kd.R_alloc | apply Kd.R_drewN | apply Kd.R_drew)); exact (Kd.R_mono (Kd.R_far (p := ⟨gb405, 1, none⟩) (Kd.R_far (p := ⟨gb405, 0, none⟩) (Kd.R_types HO399.out BK405.out (by decide)) (fun _ hk => hk.2) (.int .i16 t401)) (fun _ hk => hk.2) (.slice Ao45 t402.length co45)) (fun _ h_ => h_.1))) hb); have n3_ := Aside0.mk (Kd.R_below (by (with_reducible repeat (first | apply Kd.R_alloc | apply Kd.R_drewN | apply Kd.R_drew)); exact (Kd.R_mono (Kd.R_far (p := ⟨gb405, 1, none⟩) (Kd.R_far (p := ⟨gb405, 0, none⟩) (Kd.R_types HO404.out BK405.out (by decide)) (fun _ hk => hk.2) (.int .i16 t401)) (fun _ hk => hk.2) (.slice Ao45 t402.length co45)) (fun _ h_ => h_.1))) hb); have n4_ := Aside0.mk (Kd.R_lower (Kd.R_new' ho0 (Kd.R_lt (by (with_reducible repeat (first | apply Kd.R_alloc | apply Kd.R_drewN | apply Kd.R_drew)); exact (Kd.R_mono (Kd.R_far (p := ⟨gb405, 1, none⟩) (Kd.R_far (p := ⟨gb405, 0, none⟩) (Kd.R_types HO394.out BK405.out (by decide)) (fun _ hk => hk.2) (.int .i16 t401)) (fun _ hk => hk.2) (.slice Ao45 t402.length co45)) (fun _ h_ => h_.1))))) (below_size (by repeat (first | (with_reducible first | exact HB.out | apply below_alloc | apply pw_below_drewN | apply below_drew1 | refine below_set ?_ GE384.out | refine below_set ?_ GE385.out | refine below_set ?_ GE405.out) | exact HB.out)))); have n5_ := Aside0.mk (blk_below (g := gb384) (o := .cells #[.int .i16 a0_0, .slice A0_1 l0_1.length c0_1] 25 (0, 0)) (by (with_reducible repeat (first | refine blk_drewN ?_ _ | refine blk_drew ?_ | refine blk_alloc ?_ _)); refine blk_far ?_ NB384_405.out _; (with_reducible repeat (first | refine blk_drewN ?_ _ | refine blk_drew ?_ | refine blk_alloc ?_ _)); refine blk_far ?_ NB384_405.out _; (with_reducible repeat (first | refine blk_drewN ?_ _ | refine blk_drew ?_ | refine blk_alloc ?_ _)); exact BK384.out) hb); have n6_ := Aside0.mk (blk_below (g := gb385) (o := .cells #[.int .i64 a2_0, .int .i64 a2_1] 46 (0, 0)) (by (with_reducible repeat (first | refine blk_drewN ?_ _ | refine blk_drew ?_ | refine blk_alloc ?_ _)); refine blk_far ?_ NB385_405.out _; (with_reducible repeat (first | refine blk_drewN ?_ _ | refine blk_drew ?_ | refine blk_alloc ?_ _)); refine blk_far ?_ NB385_405.out _; (with_reducible repeat (first | refine blk_drewN ?_ _ | refine blk_drew ?_ | refine blk_alloc ?_ _)); exact BK385.out) hb); have n7_ := Aside0.mk (blk_below (g := gb405) (o := .cells #[.int .i16 t401, .slice Ao45 t402.length co45] 35 (0, 0)) (by (with_reducible repeat (first | refine blk_drewN ?_ _ | refine blk_drew ?_ | refine blk_alloc ?_ _)); refine blk_put (cs := #[.int .i16 t401, .slice none 0 0]) ?_ 1 _ rfl; (with_reducible repeat (first | refine blk_drewN ?_ _ | refine blk_drew ?_ | refine blk_alloc ?_ _)); refine blk_put (cs := #[.int .i16 0, .slice none 0 0]) ?_ 0 _ rfl; (with_reducible repeat (first | refine blk_drewN ?_ _ | refine blk_drew ?_ | refine blk_alloc ?_ _)); exact BK405.out) hb); have n8_ := Aside0.mk (below_step (by repeat (first | (with_reducible first | exact HB.out | apply below_alloc | apply pw_below_drewN | apply below_drew1 | refine below_set ?_ GE384.out | refine below_set ?_ GE385.out | refine below_set ?_ GE405.out) | exact HB.out)) hb); clear HO391; clear HO394; clear HO399; clear HO404; clear BK384; clear BK385; clear BK405; clear HB; have HO391 := n0_; have HO394 := n1_; have HO399 := n2_; have HO404 := n3_; have HO408 := n4_; have BK384 := n5_; have BK385 := n6_; have BK405 := n7_; have HB := n8_; clear n0_ n1_ n2_ n3_ n4_ n5_ n6_ n7_ n8_; (try clear hb); (try clear hb2); (try clear hk); (try clear hi); (try clear ho0)))
   have n0_ := Aside0.mk (Kd.R_drew HO391.out)
   have n1_ := Aside0.mk (Kd.R_drew HO394.out)
   have n2_ := Aside0.mk (Kd.R_drew HO399.out)
   have n3_ := Aside0.mk (Kd.R_drew HO404.out)
   have n4_ := Aside0.mk (Kd.R_drew HO408.out)
   have n5_ := Aside0.mk (blk_drew BK384.out)
   have n6_ := Aside0.mk (blk_drew BK385.out)
   have n7_ := Aside0.mk (blk_drew BK405.out)
   have n8_ := Aside0.mk (below_drew1 HB.out)
   clear HO391
   clear HO394
   clear HO399
   clear HO404
   clear HO408
   clear BK384
   clear BK385
   clear BK405
   clear HB
   have HO391 := n0_
   have HO394 := n1_
   have HO399 := n2_
   have HO404 := n3_
   have HO408 := n4_
   have BK384 := n5_
   have BK385 := n6_
   have BK405 := n7_
   have HB := n8_
   clear n0_ n1_ n2_ n3_ n4_ n5_ n6_ n7_ n8_
   refine start_ (n := 10) (S := fun w' => w'.cell? ⟨gb405, 0, none⟩ = some (.int .i16 t401) ∧ w'.cell? ⟨gb405, 1, none⟩ = some (.slice Ao45 t402.length co45) ∧ w'.cell? ⟨gb385, 0, none⟩ = some (.int .i64 a2_0) ∧ w'.cell? ⟨gb385, 1, none⟩ = some (.int .i64 a2_1)) (ds := []) #[false, false, false, false, false, false, false, false, false, false] (by kernel_rfl) rfl rfl ⟨(blk_cell BK405.out 0).trans rfl, (blk_cell BK405.out 1).trans rfl, (blk_cell BK385.out 0).trans rfl, (blk_cell BK385.out 1).trans rfl⟩ (fun hHeld => ?_); refine with_tabW laws_FnExactSwappedBy.tab11 laws_FnExactSwappedBy.bits11 (fun HT_ HW_ => ?_)
   generalize w46.drew = w47 at HO391 HO394 HO399 HO404 HO408 BK384 BK385 BK405 HB hHeld ⊢
   refine pure_ (i := 1) (N := some 45) (v := ?_) (a' := ?_) #[false, true, false, false, false, false, false, false, false, false] rfl rfl (any_of HT_.out (by kernel_rfl)) (fun _ _ _ h => h) (Or.inl ⟨by rfl, ?_⟩) ?_ ?_
   rotate_left
   ·intro w'
    go_simp
    with_reducible rfl
   rotate_left
   ·simp only [Act.put, List.setIfInBounds_toArray, List.set_cons_zero, List.set_cons_succ, i64_w, i32_w]
    rfl
   refine take_ (i := 0) (N := some 44) (v := ?_) (a' := ?_) #[true, true, false, false, false, false, false, false, false, false] rfl rfl (take_ofW HT_.out HW_.out (by kernel_rfl)) (fun _ _ _ h => h) (Or.inl ⟨by rfl, ?_⟩) hHeld ?_ ?_
   rotate_left
   ·rintro w' ⟨s0, s1, s2, s3⟩
    go_simp
    with_reducible rfl
   rotate_left
   ·simp only [Act.put, List.setIfInBounds_toArray, List.set_cons_zero, List.set_cons_succ, i64_w, i32_w]
    rfl
   refine take_ (i := 2) (N := some 46) (v := ?_) (a' := ?_) #[true, true, true, false, false, false, false, false, false, false] rfl rfl (take_ofW HT_.out HW_.out (by kernel_rfl)) (fun _ _ _ h => h) (Or.inl ⟨by rfl, ?_⟩) hHeld ?_ ?_
   rotate_left
   ·rintro w' ⟨s0, s1, s2, s3⟩
    go_simp
    with_reducible rfl
   rotate_left
   ·simp only [Act.put, List.setIfInBounds_toArray, List.set_cons_zero, List.set_cons_succ, i64_w, i32_w]
    rfl
   refine one_ (i := 3) (N := some 47) #[true, true, true, true, false, false, false, false, false, false] rfl rfl (one_of HT_.out (by kernel_rfl)) (by decide) (fun K hK => ?_)
   refine goes_ Try.func18 (by kernel_rfl) rfl #[.agg #[.int .i64 a2_0, .int .i64 a2_1]] (by rfl) rfl rfl (by (try simp only [List.map_toArray, List.map_cons, List.map_nil]); first | done | rfl | (simp only [List.length_drop, List.length_take]; rfl)) ?_
   with_reducible refine (laws_toSaid.calls a2_0 a2_1 t409 t410 _ A24.out).mono ?_
   rintro e w48 ⟨rfl, hb⟩
   refine ⟨_, rfl, ?_⟩
   have n0_ := Aside0.mk (Kd.R_below (by (with_reducible repeat (first | apply Kd.R_alloc | apply Kd.R_drewN | apply Kd.R_drew)); exact HO391.out) hb)
   have n1_ := Aside0.mk (Kd.R_below (by (with_reducible repeat (first | apply Kd.R_alloc | apply Kd.R_drewN | apply Kd.R_drew)); exact HO394.out) hb)
   have n2_ := Aside0.mk (Kd.R_below (by (with_reducible repeat (first | apply Kd.R_alloc | apply Kd.R_drewN | apply Kd.R_drew)); exact HO399.out) hb)
   have n3_ := Aside0.mk (Kd.R_below (by (with_reducible repeat (first | apply Kd.R_alloc | apply Kd.R_drewN | apply Kd.R_drew)); exact HO404.out) hb)
   have n4_ := Aside0.mk (Kd.R_below (by (with_reducible repeat (first | apply Kd.R_alloc | apply Kd.R_drewN | apply Kd.R_drew)); exact HO408.out) hb)
   have n5_ := Aside0.mk (blk_below (g := gb384) (o := .cells #[.int .i16 a0_0, .slice A0_1 l0_1.length c0_1] 25 (0, 0)) (by (with_reducible repeat (first | refine blk_drewN ?_ _ | refine blk_drew ?_ | refine blk_alloc ?_ _)); exact BK384.out) hb)
   have n6_ := Aside0.mk (blk_below (g := gb385) (o := .cells #[.int .i64 a2_0, .int .i64 a2_1] 46 (0, 0)) (by (with_reducible repeat (first | refine blk_drewN ?_ _ | refine blk_drew ?_ | refine blk_alloc ?_ _)); exact BK385.out) hb)
   have n7_ := Aside0.mk (blk_below (g := gb405) (o := .cells #[.int .i16 t401, .slice Ao45 t402.length co45] 35 (0, 0)) (by (with_reducible repeat (first | refine blk_drewN ?_ _ | refine blk_drew ?_ | refine blk_alloc ?_ _)); exact BK405.out) hb)
   have n8_ := Aside0.mk (below_step (by repeat (first | (with_reducible first | exact HB.out | apply below_alloc | apply pw_below_drewN | apply below_drew1 | refine below_set ?_ GE384.out | refine below_set ?_ GE385.out | refine below_set ?_ GE405.out) | exact HB.out)) hb)
   clear HO391
   clear HO394
   clear HO399
   clear HO404
   clear HO408
   clear BK384
   clear BK385
   clear BK405
   clear HB
   have HO391 := n0_
   have HO394 := n1_
   have HO399 := n2_
   have HO404 := n3_
   have HO408 := n4_
   have BK384 := n5_
   have BK385 := n6_
   have BK405 := n7_
   have HB := n8_
   clear n0_ n1_ n2_ n3_ n4_ n5_ n6_ n7_ n8_
   (try clear hb)
   (try clear hb2)
   (try clear hk)
   (try clear hi)
   obtain ⟨Ao49, co49, eo49⟩ := Kd.R_slice HO408.out
   (first | subst eo49 | (injection eo49 with f1_ f2_ f3_; have f4_ := f1_.symm; have f5_ := f3_.symm; clear f1_ f2_ f3_; subst f4_; subst f5_))
   refine hK.out _ _ ⟨(blk_cell BK405.out 0).trans rfl, (blk_cell BK405.out 1).trans rfl, (blk_cell BK385.out 0).trans rfl, (blk_cell BK385.out 1).trans rfl⟩ (fun hHeld => ?_)
   clear hK K
   refine norm_ (a' := ?_) ?_ ?_
   rotate_left
   ·show Act.put _ (some 47) _ = _
    simp only [Act.put, List.setIfInBounds_toArray, List.set_cons_zero, List.set_cons_succ, i64_w, i32_w]
    rfl
   refine one_ (i := 4) (N := some 48) #[true, true, true, true, true, false, false, false, false, false] rfl rfl (one_of HT_.out (by kernel_rfl)) (by decide) (fun K hK => ?_)
   refine goes_ Try.func19 (by kernel_rfl) rfl #[.agg #[.int .i16 t401, .slice Ao45 t402.length co45], .slice Ao49 t406.length co49, .agg #[.int .i64 t409, .int .i64 t410]] (by rfl) rfl rfl (by (try simp only [List.map_toArray, List.map_cons, List.map_nil]); first | done | rfl | (simp only [List.length_drop, List.length_take]; rfl)) ?_
   with_reducible refine (impl_SwappedBy.calls k t401 _ _ t402 _ _ t406 t409 t410 t411 t414 _ ?side1 ?side2 ?side3 ?side4 A25.out).mono ?_
   (case side1 => repeat (first | exact (Kd.R_reads' HO404.out).2.2 | (with_reducible refine Kd.C_alloc ?_ _) | (with_reducible refine Kd.C_drewN ?_ _) | (with_reducible refine Kd.C_drew ?_)))
   (case side2 => exact (Kd.R_reads' HO404.out).2.1)
   (case side3 => repeat (first | exact (Kd.R_reads' HO408.out).2.2 | (with_reducible refine Kd.C_alloc ?_ _) | (with_reducible refine Kd.C_drewN ?_ _) | (with_reducible refine Kd.C_drew ?_)))
   (case side4 => exact (Kd.R_reads' HO408.out).2.1)
   rintro e w50 ⟨v412, rfl, ho0, hb⟩
   refine ⟨_, rfl, ?_⟩
   have n0_ := Aside0.mk (Kd.R_below (by (with_reducible repeat (first | apply Kd.R_alloc | apply Kd.R_drewN | apply Kd.R_drew)); exact HO391.out) hb)
   have n1_ := Aside0.mk (Kd.R_below (by (with_reducible repeat (first | apply Kd.R_alloc | apply Kd.R_drewN | apply Kd.R_drew)); exact HO394.out) hb)
   have n2_ := Aside0.mk (Kd.R_elder' (by (with_reducible repeat (first | apply Kd.R_alloc | apply Kd.R_drewN | apply Kd.R_drew)); exact HO399.out) (Kd.R_base ho0) hb)
   have n3_ := Aside0.mk (Kd.R_below (by (with_reducible repeat (first | apply Kd.R_alloc | apply Kd.R_drewN | apply Kd.R_drew)); exact HO404.out) hb)
   have n4_ := Aside0.mk (Kd.R_below (by (with_reducible repeat (first | apply Kd.R_alloc | apply Kd.R_drewN | apply Kd.R_drew)); exact HO408.out) hb)
   have n5_ := Aside0.mk (Kd.R_lower (Kd.R_new' ho0 (Kd.R_lt (by (with_reducible repeat (first | apply Kd.R_alloc | apply Kd.R_drewN | apply Kd.R_drew)); exact HO399.out))) (below_size (by repeat (first | (with_reducible first | exact HB.out | apply below_alloc | apply pw_below_drewN | apply below_drew1 | refine below_set ?_ GE384.out | refine below_set ?_ GE385.out | refine below_set ?_ GE405.out) | exact HB.out))))
   have n6_ := Aside0.mk (blk_below (g := gb384) (o := .cells #[.int .i16 a0_0, .slice A0_1 l0_1.length c0_1] 25 (0, 0)) (by (with_reducible repeat (first | refine blk_drewN ?_ _ | refine blk_drew ?_ | refine blk_alloc ?_ _)); exact BK384.out) hb)
   have n7_ := Aside0.mk (blk_below (g := gb385) (o := .cells #[.int .i64 a2_0, .int .i64 a2_1] 46 (0, 0)) (by (with_reducible repeat (first | refine blk_drewN ?_ _ | refine blk_drew ?_ | refine blk_alloc ?_ _)); exact BK385.out) hb)
   have n8_ := Aside0.mk (blk_below (g := gb405) (o := .cells #[.int .i16 t401, .slice Ao45 t402.length co45] 35 (0, 0)) (by (with_reducible repeat (first | refine blk_drewN ?_ _ | refine blk_drew ?_ | refine blk_alloc ?_ _)); exact BK405.out) hb)
   have n9_ := Aside0.mk (below_step (by repeat (first | (with_reducible first | exact HB.out | apply below_alloc | apply pw_below_drewN | apply below_drew1 | refine below_set ?_ GE384.out | refine below_set ?_ GE385.out | refine below_set ?_ GE405.out) | exact HB.out)) hb)
   clear HO391
   clear HO394
   clear HO399
   clear HO404
   clear HO408
   clear BK384
   clear BK385
   clear BK405
   clear HB
   have HO391 := n0_
   have HO394 := n1_
   have HO399 := n2_
   have HO404 := n3_
   have HO408 := n4_
   have HO413 := n5_
   have BK384 := n6_
   have BK385 := n7_
   have BK405 := n8_
   have HB := n9_
   clear n0_ n1_ n2_ n3_ n4_ n5_ n6_ n7_ n8_ n9_
   (try clear hb)
   (try clear hb2)
   (try clear hk)
   (try clear hi)
   (try clear ho0)
   refine hK.out _ _ ⟨(blk_cell BK405.out 0).trans rfl, (blk_cell BK405.out 1).trans rfl, (blk_cell BK385.out 0).trans rfl, (blk_cell BK385.out 1).trans rfl⟩ (fun hHeld => ?_)
   clear hK K
   refine norm_ (a' := ?_) ?_ ?_
   rotate_left
   ·show Act.put _ (some 48) _ = _
    simp only [Act.put, List.setIfInBounds_toArray, List.set_cons_zero, List.set_cons_succ, i64_w, i32_w]
    rfl
   refine pure_ (i := 5) (N := some 43) (v := ?_) (a' := ?_) #[true, true, true, true, true, true, false, false, false, false] rfl rfl (any_of HT_.out (by kernel_rfl)) (fun _ _ _ h => h) (Or.inl ⟨by rfl, ?_⟩) ?_ ?_
   rotate_left
   ·intro w'
    go_simp
    with_reducible rfl
   rotate_left
   ·simp only [Act.put, List.setIfInBounds_toArray, List.set_cons_zero, List.set_cons_succ, i64_w, i32_w]
    rfl
   refine pure_ (i := 6) (N := some 49) (v := ?_) (a' := ?_) #[true, true, true, true, true, true, true, false, false, false] rfl rfl (any_of HT_.out (by kernel_rfl)) (fun _ _ _ h => h) (Or.inl ⟨by rfl, ?_⟩) ?_ ?_
   rotate_left
   ·intro w'
    go_simp
    with_reducible rfl
   rotate_left
   ·simp only [Act.put, List.setIfInBounds_toArray, List.set_cons_zero, List.set_cons_succ, i64_w, i32_w]
    rfl
   refine pure_ (i := 7) (N := some 50) (v := ?_) (a' := ?_) #[true, true, true, true, true, true, true, true, false, false] rfl rfl (any_of HT_.out (by kernel_rfl)) (fun _ _ _ h => h) (Or.inl ⟨by rfl, ?_⟩) ?_ ?_
   rotate_left
   ·intro w'
    go_simp
    with_reducible rfl
   rotate_left
   ·simp only [Act.put, List.setIfInBounds_toArray, List.set_cons_zero, List.set_cons_succ, i64_w, i32_w]
    rfl
   refine pure_ (i := 8) (N := some 12) (v := ?_) (a' := ?_) #[true, true, true, true, true, true, true, true, true, false] rfl rfl (any_of HT_.out (by kernel_rfl)) (fun _ _ _ h => h) (Or.inl ⟨by rfl, ?_⟩) ?_ ?_
   rotate_left
   ·intro w'
    go_simp
    with_reducible rfl
   rotate_left
   ·simp only [Act.put, List.setIfInBounds_toArray, List.set_cons_zero, List.set_cons_succ, i64_w, i32_w]
    rfl
   refine pure_ (i := 9) (N := some 13) (v := ?_) (a' := ?_) #[true, true, true, true, true, true, true, true, true, true] rfl rfl (any_of HT_.out (by kernel_rfl)) (fun _ _ _ h => h) (Or.inl ⟨by rfl, ?_⟩) ?_ ?_
   rotate_left
   ·intro w'
    go_simp
    with_reducible rfl
   rotate_left
   ·simp only [Act.put, List.setIfInBounds_toArray, List.set_cons_zero, List.set_cons_succ, i64_w, i32_w]
    rfl
   refine done_ (done_of HT_.out (by kernel_rfl)) ?_
   go_upto_region 12 with (fail)
   go_cut [59] (fun v59 wc => ∃ (kq : Nat) (x59_25 : Bool), v59 = .bool x59_25 ∧ Aside0 (laws_FnExactSwappedBy.j0 kq l1 t397 t400 t406 t411 t414 x59_25 a0_0 l0_1 a2_0 a2_1 t401 t402 = some r) ∧ Aside0 (kq ≤ k) ∧ Aside0 (Kd.R k68 68 wc w.heap.size (fun k_ => some k_ ≠ (v412 : Value).ownBlock) v398 t397) ∧ Aside0 (Kd.R k38 38 wc w.heap.size (fun _ => True) (.slice Ao49 t406.length co49) t406) ∧ Aside0 (Kd.R k68 68 wc w.heap.size (fun k_ => some k_ ≠ (v398 : Value).ownBlock) v412 t411) ∧ Aside0 (Kd.R (Kd.int .i16) 22 wc w.heap.size (fun _ => True) (.slice Ao45 t402.length co45) t402) ∧ Aside0 (wc.heap[gb384]? = some (.cells #[.int .i16 a0_0, (.slice A0_1 l0_1.length c0_1)] 25 (0, 0))) ∧ Aside0 (wc.heap[gb385]? = some (.cells #[.int .i64 a2_0, .int .i64 a2_1] 46 (0, 0))) ∧ Aside0 (wc.heap[gb405]? = some (.cells #[.int .i16 t401, (.slice Ao45 t402.length co45)] 35 (0, 0))) ∧ Aside0 (Below w.heap.size w wc))
   case first =>
    have H := HC26.out
    clear HC26
    replace H := Option.bind_eq_some_iff.mp H
    obtain ⟨t415, A510, H⟩ := H
    replace H : (if t415 = true then (laws_FnExactSwappedBy.j0 k l1 t397 t400 t406 t411 t414 (t414 != t400) a0_0 l0_1 a2_0 a2_1 t401 t402) else (laws_FnExactSwappedBy.j0 k l1 t397 t400 t406 t411 t414 true a0_0 l0_1 a2_0 a2_1 t401 t402)) = some r := H
    have A51 := Aside0.mk A510
    clear A510
    by_cases c52 : t415 = true
    ·subst c52
     have H1 : (laws_FnExactSwappedBy.j0 k l1 t397 t400 t406 t411 t414 (t414 != t400) a0_0 l0_1 a2_0 a2_1 t401 t402) = some r := by rw [if_pos rfl] at H; exact H
     clear H
     have H := H1
     clear H1
     have H' := Aside0.mk H
     clear H
     obtain ⟨Ao53, co53, eo53⟩ := Kd.R_slice HO413.out
     subst eo53
     obtain ⟨Ao54, co54, eo54⟩ := Kd.R_slice HO399.out
     subst eo54
     go_wp2_with (first | ((with_reducible refine gate_callee (f := 20) rfl ?_); refine goesL_ (some 53) rfl rfl Try.func20 (by kernel_rfl) rfl #[.slice Ao53 t411.length co53, .slice Ao54 t397.length co54] rfl (by (try simp only [List.map_toArray, List.map_cons, List.map_nil]); first | done | rfl | (simp only [List.length_drop, List.length_take]; rfl)) ?_; (with_reducible refine (laws_eqInt64A2S.calls k _ _ t411 _ _ t397 true _ ?side1 ?side2 ?side3 ?side4 A51.out).mono ?_); (case side1 => repeat (first | exact (Kd.R_reads' HO413.out).2.2 | (with_reducible refine Kd.C_alloc ?_ _) | (with_reducible refine Kd.C_drewN ?_ _) | (with_reducible refine Kd.C_drew ?_))); (case side2 => exact (Kd.R_reads' HO413.out).2.1); (case side3 => repeat (first | exact (Kd.R_reads' HO399.out).2.2 | (with_reducible refine Kd.C_alloc ?_ _) | (with_reducible refine Kd.C_drewN ?_ _) | (with_reducible refine Kd.C_drew ?_))); (case side4 => exact (Kd.R_reads' HO399.out).2.1); rintro e w55 ⟨rfl, hb⟩; refine ⟨_, rfl, ?_⟩; have n0_ := Aside0.mk (Kd.R_below (by (with_reducible repeat (first | apply Kd.R_alloc | apply Kd.R_drewN | apply Kd.R_drew)); exact HO391.out) hb); have n1_ := Aside0.mk (Kd.R_below (by (with_reducible repeat (first | apply Kd.R_alloc | apply Kd.R_drewN | apply Kd.R_drew)); exact HO394.out) hb); have n2_ := Aside0.mk (Kd.R_below (by (with_reducible repeat (first | apply Kd.R_alloc | apply Kd.R_drewN | apply Kd.R_drew)); exact HO399.out) hb); have n3_ := Aside0.mk (Kd.R_below (by (with_reducible repeat (first | apply Kd.R_alloc | apply Kd.R_drewN | apply Kd.R_drew)); exact HO404.out) hb); have n4_ := Aside0.mk (Kd.R_below (by (with_reducible repeat (first | apply Kd.R_alloc | apply Kd.R_drewN | apply Kd.R_drew)); exact HO408.out) hb); have n5_ := Aside0.mk (Kd.R_below (by (with_reducible repeat (first | apply Kd.R_alloc | apply Kd.R_drewN | apply Kd.R_drew)); exact HO413.out) hb); have n6_ := Aside0.mk (blk_below (g := gb384) (o := .cells #[.int .i16 a0_0, .slice A0_1 l0_1.length c0_1] 25 (0, 0)) (by (with_reducible repeat (first | refine blk_drewN ?_ _ | refine blk_drew ?_ | refine blk_alloc ?_ _)); exact BK384.out) hb); have n7_ := Aside0.mk (blk_below (g := gb385) (o := .cells #[.int .i64 a2_0, .int .i64 a2_1] 46 (0, 0)) (by (with_reducible repeat (first | refine blk_drewN ?_ _ | refine blk_drew ?_ | refine blk_alloc ?_ _)); exact BK385.out) hb); have n8_ := Aside0.mk (blk_below (g := gb405) (o := .cells #[.int .i16 t401, .slice Ao45 t402.length co45] 35 (0, 0)) (by (with_reducible repeat (first | refine blk_drewN ?_ _ | refine blk_drew ?_ | refine blk_alloc ?_ _)); exact BK405.out) hb); have n9_ := Aside0.mk (below_step (by repeat (first | (with_reducible first | exact HB.out | apply below_alloc | apply pw_below_drewN | apply below_drew1 | refine below_set ?_ GE384.out | refine below_set ?_ GE385.out | refine below_set ?_ GE405.out) | exact HB.out)) hb); clear HO391; clear HO394; clear HO399; clear HO404; clear HO408; clear HO413; clear BK384; clear BK385; clear BK405; clear HB; have HO391 := n0_; have HO394 := n1_; have HO399 := n2_; have HO404 := n3_; have HO408 := n4_; have HO413 := n5_; have BK384 := n6_; have BK385 := n7_; have BK405 := n8_; have HB := n9_; clear n0_ n1_ n2_ n3_ n4_ n5_ n6_ n7_ n8_ n9_; (try clear hb); (try clear hb2); (try clear hk); (try clear hi)))
     go_meet
     case rel => exact ⟨_, ((t414 != t400)), (by first | rfl | (simp; done) | (simp [*]; done)), H', ⟨by first | omega | exact Nat.le_refl _⟩, ⟨by (with_reducible repeat (first | apply Kd.R_alloc | apply Kd.R_drewN | apply Kd.R_drew)); exact Kd.R_mono HO399.out (fun _ hk => hk.2)⟩, ⟨by (with_reducible repeat (first | apply Kd.R_alloc | apply Kd.R_drewN | apply Kd.R_drew)); exact Kd.R_mono HO408.out (fun _ hk => trivial)⟩, ⟨by (with_reducible repeat (first | apply Kd.R_alloc | apply Kd.R_drewN | apply Kd.R_drew)); exact Kd.R_mono HO413.out (fun _ hk => hk.2)⟩, ⟨by (with_reducible repeat (first | apply Kd.R_alloc | apply Kd.R_drewN | apply Kd.R_drew)); exact Kd.R_mono HO404.out (fun _ hk => trivial)⟩, ⟨by (with_reducible repeat (first | refine blk_drewN ?_ _ | refine blk_drew ?_ | refine blk_alloc ?_ _)); exact BK384.out⟩, ⟨by (with_reducible repeat (first | refine blk_drewN ?_ _ | refine blk_drew ?_ | refine blk_alloc ?_ _)); exact BK385.out⟩, ⟨by (with_reducible repeat (first | refine blk_drewN ?_ _ | refine blk_drew ?_ | refine blk_alloc ?_ _)); exact BK405.out⟩, ⟨by repeat (first | (with_reducible first | exact HB.out | apply below_alloc | apply pw_below_drewN | apply below_drew1 | refine below_set ?_ GE384.out | refine below_set ?_ GE385.out | refine below_set ?_ GE405.out) | exact HB.out)⟩⟩
    ·replace c52 := Bool.eq_false_iff.mpr c52
     subst c52
     have H1 : (laws_FnExactSwappedBy.j0 k l1 t397 t400 t406 t411 t414 true a0_0 l0_1 a2_0 a2_1 t401 t402) = some r := by rw [if_neg (show ¬ (false = true) by decide)] at H; exact H
     clear H
     have H := H1
     clear H1
     have H' := Aside0.mk H
     clear H
     obtain ⟨Ao56, co56, eo56⟩ := Kd.R_slice HO413.out
     subst eo56
     obtain ⟨Ao57, co57, eo57⟩ := Kd.R_slice HO399.out
     subst eo57
     go_wp2_with (first | ((with_reducible refine gate_callee (f := 20) rfl ?_); refine goesL_ (some 53) rfl rfl Try.func20 (by kernel_rfl) rfl #[.slice Ao56 t411.length co56, .slice Ao57 t397.length co57] rfl (by (try simp only [List.map_toArray, List.map_cons, List.map_nil]); first | done | rfl | (simp only [List.length_drop, List.length_take]; rfl)) ?_; (with_reducible refine (laws_eqInt64A2S.calls k _ _ t411 _ _ t397 false _ ?side1 ?side2 ?side3 ?side4 A51.out).mono ?_); (case side1 => repeat (first | exact (Kd.R_reads' HO413.out).2.2 | (with_reducible refine Kd.C_alloc ?_ _) | (with_reducible refine Kd.C_drewN ?_ _) | (with_reducible refine Kd.C_drew ?_))); (case side2 => exact (Kd.R_reads' HO413.out).2.1); (case side3 => repeat (first | exact (Kd.R_reads' HO399.out).2.2 | (with_reducible refine Kd.C_alloc ?_ _) | (with_reducible refine Kd.C_drewN ?_ _) | (with_reducible refine Kd.C_drew ?_))); (case side4 => exact (Kd.R_reads' HO399.out).2.1); rintro e w58 ⟨rfl, hb⟩; refine ⟨_, rfl, ?_⟩; have n0_ := Aside0.mk (Kd.R_below (by (with_reducible repeat (first | apply Kd.R_alloc | apply Kd.R_drewN | apply Kd.R_drew)); exact HO391.out) hb); have n1_ := Aside0.mk (Kd.R_below (by (with_reducible repeat (first | apply Kd.R_alloc | apply Kd.R_drewN | apply Kd.R_drew)); exact HO394.out) hb); have n2_ := Aside0.mk (Kd.R_below (by (with_reducible repeat (first | apply Kd.R_alloc | apply Kd.R_drewN | apply Kd.R_drew)); exact HO399.out) hb); have n3_ := Aside0.mk (Kd.R_below (by (with_reducible repeat (first | apply Kd.R_alloc | apply Kd.R_drewN | apply Kd.R_drew)); exact HO404.out) hb); have n4_ := Aside0.mk (Kd.R_below (by (with_reducible repeat (first | apply Kd.R_alloc | apply Kd.R_drewN | apply Kd.R_drew)); exact HO408.out) hb); have n5_ := Aside0.mk (Kd.R_below (by (with_reducible repeat (first | apply Kd.R_alloc | apply Kd.R_drewN | apply Kd.R_drew)); exact HO413.out) hb); have n6_ := Aside0.mk (blk_below (g := gb384) (o := .cells #[.int .i16 a0_0, .slice A0_1 l0_1.length c0_1] 25 (0, 0)) (by (with_reducible repeat (first | refine blk_drewN ?_ _ | refine blk_drew ?_ | refine blk_alloc ?_ _)); exact BK384.out) hb); have n7_ := Aside0.mk (blk_below (g := gb385) (o := .cells #[.int .i64 a2_0, .int .i64 a2_1] 46 (0, 0)) (by (with_reducible repeat (first | refine blk_drewN ?_ _ | refine blk_drew ?_ | refine blk_alloc ?_ _)); exact BK385.out) hb); have n8_ := Aside0.mk (blk_below (g := gb405) (o := .cells #[.int .i16 t401, .slice Ao45 t402.length co45] 35 (0, 0)) (by (with_reducible repeat (first | refine blk_drewN ?_ _ | refine blk_drew ?_ | refine blk_alloc ?_ _)); exact BK405.out) hb); have n9_ := Aside0.mk (below_step (by repeat (first | (with_reducible first | exact HB.out | apply below_alloc | apply pw_below_drewN | apply below_drew1 | refine below_set ?_ GE384.out | refine below_set ?_ GE385.out | refine below_set ?_ GE405.out) | exact HB.out)) hb); clear HO391; clear HO394; clear HO399; clear HO404; clear HO408; clear HO413; clear BK384; clear BK385; clear BK405; clear HB; have HO391 := n0_; have HO394 := n1_; have HO399 := n2_; have HO404 := n3_; have HO408 := n4_; have HO413 := n5_; have BK384 := n6_; have BK385 := n7_; have BK405 := n8_; have HB := n9_; clear n0_ n1_ n2_ n3_ n4_ n5_ n6_ n7_ n8_ n9_; (try clear hb); (try clear hb2); (try clear hk); (try clear hi)))
     go_meet
     case rel => exact ⟨_, (true), (by first | rfl | (simp; done) | (simp [*]; done)), H', ⟨by first | omega | exact Nat.le_refl _⟩, ⟨by (with_reducible repeat (first | apply Kd.R_alloc | apply Kd.R_drewN | apply Kd.R_drew)); exact Kd.R_mono HO399.out (fun _ hk => hk.2)⟩, ⟨by (with_reducible repeat (first | apply Kd.R_alloc | apply Kd.R_drewN | apply Kd.R_drew)); exact Kd.R_mono HO408.out (fun _ hk => trivial)⟩, ⟨by (with_reducible repeat (first | apply Kd.R_alloc | apply Kd.R_drewN | apply Kd.R_drew)); exact Kd.R_mono HO413.out (fun _ hk => hk.2)⟩, ⟨by (with_reducible repeat (first | apply Kd.R_alloc | apply Kd.R_drewN | apply Kd.R_drew)); exact Kd.R_mono HO404.out (fun _ hk => trivial)⟩, ⟨by (with_reducible repeat (first | refine blk_drewN ?_ _ | refine blk_drew ?_ | refine blk_alloc ?_ _)); exact BK384.out⟩, ⟨by (with_reducible repeat (first | refine blk_drewN ?_ _ | refine blk_drew ?_ | refine blk_alloc ?_ _)); exact BK385.out⟩, ⟨by (with_reducible repeat (first | refine blk_drewN ?_ _ | refine blk_drew ?_ | refine blk_alloc ?_ _)); exact BK405.out⟩, ⟨by repeat (first | (with_reducible first | exact HB.out | apply below_alloc | apply pw_below_drewN | apply below_drew1 | refine below_set ?_ GE384.out | refine below_set ?_ GE385.out | refine below_set ?_ GE405.out) | exact HB.out)⟩⟩
   case rest =>
    clear HC26
    try clear c1
    try clear c2
    try clear p2
    try clear c4
    try clear c5
    try clear c5b0
    try clear c6
    try clear c8
    try clear c9
    try clear c12
    try clear c12b0
    try clear c15
    try clear c17
    try clear c18
    try clear c19
    try clear c20
    try clear c29
    try clear c42
    try clear c43
    try clear c52
    try clear hcz16_0
    try clear hcz16_1
    try clear hcz30_0
    try clear hcz30_1
    try clear hcz39_0
    try clear hcz39_1
    try clear hcz44_0
    try clear hcz44_1
    try clear hcz9_0
    try clear hcz9_1
    try clear hfz16_0
    try clear hfz16_1
    try clear hfz30_0
    try clear hfz30_1
    try clear hfz39_0
    try clear hfz39_1
    try clear hfz44_0
    try clear hfz44_1
    try clear hfz9_0
    try clear hfz9_1
    obtain ⟨kq, x59_25, rfl, HA, HJ25, HO_8, HO_11, HO_12, HO_406001, BK384, BK385, BK405, HB⟩ := hcut
    cases kq with
    | zero => exact absurd HA.out (by simp [laws_FnExactSwappedBy.j0])
    | succ kj25 =>
     have H := HA.out
     clear HA
     simp only [laws_FnExactSwappedBy.j0] at H
     by_cases c59 : x59_25 = true
     ·subst c59
      have H1 : (some false) = some r := by rw [if_pos rfl] at H; exact H
      clear H
      have H := H1
      clear H1
      exact absurd ((Option.some.inj H).trans HT.out) (by decide)
     ·replace c59 := Bool.eq_false_iff.mpr c59
      subst c59
      have H1 : ((laws_toRope.f kj25 a0_0 l0_1).bind fun bt416 => ((laws_eqRope.f kj25 t401 t402 bt416.1 bt416.2).bind fun t420 => (if t420 = true then ((laws_toHoldS.f kj25 l1).bind fun t421 => ((laws_eqHoldS.f kj25 t406 t421).bind fun t424 => (if t424 = true then ((laws_markRope.f kj25 t401 t402 1).bind fun bt425 => ((laws_markHoldS.f kj25 t406 bt425.1).bind fun bt427 => (if bt427.1 < 0 then (laws_FnExactSwappedBy.j1 kj25 l1 t397 t400 t411 true a0_0 l0_1 a2_0 a2_1) else ((laws_eqInt64A2S.f kj25 t411 t397).bind fun t429 => (if t429 = true then (laws_FnExactSwappedBy.j1 kj25 l1 t397 t400 t411 (t414 != t400) a0_0 l0_1 a2_0 a2_1) else (laws_FnExactSwappedBy.j1 kj25 l1 t397 t400 t411 true a0_0 l0_1 a2_0 a2_1)))))) else (some false)))) else (some false)))) = some r := by rw [if_neg (show ¬ (false = true) by decide)] at H; exact H
      clear H
      have H := H1
      clear H1
      replace H := Option.bind_eq_some_iff.mp H
      obtain ⟨⟨t416, t417⟩, A600, H⟩ := H
      replace H : ((laws_eqRope.f kj25 t401 t402 t416 t417).bind fun t420 => (if t420 = true then ((laws_toHoldS.f kj25 l1).bind fun t421 => ((laws_eqHoldS.f kj25 t406 t421).bind fun t424 => (if t424 = true then ((laws_markRope.f kj25 t401 t402 1).bind fun bt425 => ((laws_markHoldS.f kj25 t406 bt425.1).bind fun bt427 => (if bt427.1 < 0 then (laws_FnExactSwappedBy.j1 kj25 l1 t397 t400 t411 true a0_0 l0_1 a2_0 a2_1) else ((laws_eqInt64A2S.f kj25 t411 t397).bind fun t429 => (if t429 = true then (laws_FnExactSwappedBy.j1 kj25 l1 t397 t400 t411 (t414 != t400) a0_0 l0_1 a2_0 a2_1) else (laws_FnExactSwappedBy.j1 kj25 l1 t397 t400 t411 true a0_0 l0_1 a2_0 a2_1)))))) else (some false)))) else (some false))) = some r := H
      have A60 := Aside0.mk A600
      clear A600
      replace H := Option.bind_eq_some_iff.mp H
      obtain ⟨t420, A610, H⟩ := H
      replace H : (if t420 = true then ((laws_toHoldS.f kj25 l1).bind fun t421 => ((laws_eqHoldS.f kj25 t406 t421).bind fun t424 => (if t424 = true then ((laws_markRope.f kj25 t401 t402 1).bind fun bt425 => ((laws_markHoldS.f kj25 t406 bt425.1).bind fun bt427 => (if bt427.1 < 0 then (laws_FnExactSwappedBy.j1 kj25 l1 t397 t400 t411 true a0_0 l0_1 a2_0 a2_1) else ((laws_eqInt64A2S.f kj25 t411 t397).bind fun t429 => (if t429 = true then (laws_FnExactSwappedBy.j1 kj25 l1 t397 t400 t411 (t414 != t400) a0_0 l0_1 a2_0 a2_1) else (laws_FnExactSwappedBy.j1 kj25 l1 t397 t400 t411 true a0_0 l0_1 a2_0 a2_1)))))) else (some false)))) else (some false)) = some r := H
      have A61 := Aside0.mk A610
      clear A610
      by_cases c62 : t420 = true
      ·subst c62
       have H1 : ((laws_toHoldS.f kj25 l1).bind fun t421 => ((laws_eqHoldS.f kj25 t406 t421).bind fun t424 => (if t424 = true then ((laws_markRope.f kj25 t401 t402 1).bind fun bt425 => ((laws_markHoldS.f kj25 t406 bt425.1).bind fun bt427 => (if bt427.1 < 0 then (laws_FnExactSwappedBy.j1 kj25 l1 t397 t400 t411 true a0_0 l0_1 a2_0 a2_1) else ((laws_eqInt64A2S.f kj25 t411 t397).bind fun t429 => (if t429 = true then (laws_FnExactSwappedBy.j1 kj25 l1 t397 t400 t411 (t414 != t400) a0_0 l0_1 a2_0 a2_1) else (laws_FnExactSwappedBy.j1 kj25 l1 t397 t400 t411 true a0_0 l0_1 a2_0 a2_1)))))) else (some false)))) = some r := by rw [if_pos rfl] at H; exact H
       clear H
       have H := H1
       clear H1
       replace H := Option.bind_eq_some_iff.mp H
       obtain ⟨t421, A630, H⟩ := H
       replace H : ((laws_eqHoldS.f kj25 t406 t421).bind fun t424 => (if t424 = true then ((laws_markRope.f kj25 t401 t402 1).bind fun bt425 => ((laws_markHoldS.f kj25 t406 bt425.1).bind fun bt427 => (if bt427.1 < 0 then (laws_FnExactSwappedBy.j1 kj25 l1 t397 t400 t411 true a0_0 l0_1 a2_0 a2_1) else ((laws_eqInt64A2S.f kj25 t411 t397).bind fun t429 => (if t429 = true then (laws_FnExactSwappedBy.j1 kj25 l1 t397 t400 t411 (t414 != t400) a0_0 l0_1 a2_0 a2_1) else (laws_FnExactSwappedBy.j1 kj25 l1 t397 t400 t411 true a0_0 l0_1 a2_0 a2_1)))))) else (some false))) = some r := H
       have A63 := Aside0.mk A630
       clear A630
       replace H := Option.bind_eq_some_iff.mp H
       obtain ⟨t424, A640, H⟩ := H
       replace H : (if t424 = true then ((laws_markRope.f kj25 t401 t402 1).bind fun bt425 => ((laws_markHoldS.f kj25 t406 bt425.1).bind fun bt427 => (if bt427.1 < 0 then (laws_FnExactSwappedBy.j1 kj25 l1 t397 t400 t411 true a0_0 l0_1 a2_0 a2_1) else ((laws_eqInt64A2S.f kj25 t411 t397).bind fun t429 => (if t429 = true then (laws_FnExactSwappedBy.j1 kj25 l1 t397 t400 t411 (t414 != t400) a0_0 l0_1 a2_0 a2_1) else (laws_FnExactSwappedBy.j1 kj25 l1 t397 t400 t411 true a0_0 l0_1 a2_0 a2_1)))))) else (some false)) = some r := H
       have A64 := Aside0.mk A640
       clear A640
       by_cases c65 : t424 = true
       ·subst c65
        have H1 : ((laws_markRope.f kj25 t401 t402 1).bind fun bt425 => ((laws_markHoldS.f kj25 t406 bt425.1).bind fun bt427 => (if bt427.1 < 0 then (laws_FnExactSwappedBy.j1 kj25 l1 t397 t400 t411 true a0_0 l0_1 a2_0 a2_1) else ((laws_eqInt64A2S.f kj25 t411 t397).bind fun t429 => (if t429 = true then (laws_FnExactSwappedBy.j1 kj25 l1 t397 t400 t411 (t414 != t400) a0_0 l0_1 a2_0 a2_1) else (laws_FnExactSwappedBy.j1 kj25 l1 t397 t400 t411 true a0_0 l0_1 a2_0 a2_1)))))) = some r := by rw [if_pos rfl] at H; exact H
        clear H
        have H := H1
        clear H1
        replace H := Option.bind_eq_some_iff.mp H
        obtain ⟨⟨t425, t426⟩, A660, H⟩ := H
        replace H : ((laws_markHoldS.f kj25 t406 t425).bind fun bt427 => (if bt427.1 < 0 then (laws_FnExactSwappedBy.j1 kj25 l1 t397 t400 t411 true a0_0 l0_1 a2_0 a2_1) else ((laws_eqInt64A2S.f kj25 t411 t397).bind fun t429 => (if t429 = true then (laws_FnExactSwappedBy.j1 kj25 l1 t397 t400 t411 (t414 != t400) a0_0 l0_1 a2_0 a2_1) else (laws_FnExactSwappedBy.j1 kj25 l1 t397 t400 t411 true a0_0 l0_1 a2_0 a2_1))))) = some r := H
        have A66 := Aside0.mk A660
        clear A660
        replace H := Option.bind_eq_some_iff.mp H
        obtain ⟨⟨t427, t428⟩, A670, H⟩ := H
        replace H : (if t427 < 0 then (laws_FnExactSwappedBy.j1 kj25 l1 t397 t400 t411 true a0_0 l0_1 a2_0 a2_1) else ((laws_eqInt64A2S.f kj25 t411 t397).bind fun t429 => (if t429 = true then (laws_FnExactSwappedBy.j1 kj25 l1 t397 t400 t411 (t414 != t400) a0_0 l0_1 a2_0 a2_1) else (laws_FnExactSwappedBy.j1 kj25 l1 t397 t400 t411 true a0_0 l0_1 a2_0 a2_1)))) = some r := H
        have A67 := Aside0.mk A670
        clear A670
        have HC68 := Aside0.mk H
        clear H
        try go_wp2
        have n0_ := Aside0.mk (Kd.R_drew HO_8.out)
        have n1_ := Aside0.mk (Kd.R_drew HO_11.out)
        have n2_ := Aside0.mk (Kd.R_drew HO_12.out)
        have n3_ := Aside0.mk (Kd.R_drew HO_406001.out)
        have n4_ := Aside0.mk (blk_drew BK384.out)
        have n5_ := Aside0.mk (blk_drew BK385.out)
        have n6_ := Aside0.mk (blk_drew BK405.out)
        have n7_ := Aside0.mk (below_drew1 HB.out)
        clear HO_8
        clear HO_11
        clear HO_12
        clear HO_406001
        clear BK384
        clear BK385
        clear BK405
        clear HB
        have HO_8 := n0_
        have HO_11 := n1_
        have HO_12 := n2_
        have HO_406001 := n3_
        have BK384 := n4_
        have BK385 := n5_
        have BK405 := n6_
        have HB := n7_
        clear n0_ n1_ n2_ n3_ n4_ n5_ n6_ n7_
        refine start_ (n := 5) (S := fun w' => w'.cell? ⟨gb405, 0, none⟩ = some (.int .i16 t401) ∧ w'.cell? ⟨gb405, 1, none⟩ = some (.slice Ao45 t402.length co45) ∧ w'.cell? ⟨gb384, 0, none⟩ = some (.int .i16 a0_0) ∧ w'.cell? ⟨gb384, 1, none⟩ = some (.slice A0_1 l0_1.length c0_1)) (ds := []) #[false, false, false, false, false] (by kernel_rfl) rfl rfl ⟨(blk_cell BK405.out 0).trans rfl, (blk_cell BK405.out 1).trans rfl, (blk_cell BK384.out 0).trans rfl, (blk_cell BK384.out 1).trans rfl⟩ (fun hHeld => ?_)
        generalize wc.drew = w69 at HO_8 HO_11 HO_12 HO_406001 BK384 BK385 BK405 HB hHeld ⊢
        refine take_ (i := 0) (N := some 60) (v := ?_) (a' := ?_) #[true, false, false, false, false] rfl rfl (by kernel_rfl) (fun _ _ _ h => h) (Or.inl ⟨by rfl, ?_⟩) hHeld ?_ ?_
        rotate_left
        ·rintro w' ⟨s0, s1, s2, s3⟩
         go_simp
         with_reducible rfl
        rotate_left
        ·simp only [Act.put, List.setIfInBounds_toArray, List.set_cons_zero, List.set_cons_succ, i64_w, i32_w]
         rfl
        refine take_ (i := 1) (N := some 61) (v := ?_) (a' := ?_) #[true, true, false, false, false] rfl rfl (by kernel_rfl) (fun _ _ _ h => h) (Or.inl ⟨by rfl, ?_⟩) hHeld ?_ ?_
        rotate_left
        ·rintro w' ⟨s0, s1, s2, s3⟩
         go_simp
         with_reducible rfl
        rotate_left
        ·simp only [Act.put, List.setIfInBounds_toArray, List.set_cons_zero, List.set_cons_succ, i64_w, i32_w]
         rfl
        refine one_ (i := 2) (N := some 62) #[true, true, true, false, false] rfl rfl (by kernel_rfl) (by decide) (fun K hK => ?_)
        refine goes_ Try.func8 (by kernel_rfl) rfl #[.agg #[.int .i16 a0_0, .slice A0_1 l0_1.length c0_1]] (by rfl) rfl rfl (by (try simp only [List.map_toArray, List.map_cons, List.map_nil]); first | done | rfl | (simp only [List.length_drop, List.length_take]; rfl)) ?_
        with_reducible refine (laws_toRope.calls kj25 a0_0 _ _ l0_1 t416 t417 _ ?side1 ?side2 A60.out).mono ?_
        (case side1 => repeat (first | exact (Kd.C_below HR0_1.out HB.out) | (with_reducible refine Kd.C_alloc ?_ _) | (with_reducible refine Kd.C_drewN ?_ _) | (with_reducible refine Kd.C_drew ?_)))
        (case side2 => exact HC0_1.out)
        rintro e w70 ⟨v418, rfl, ho0, hb⟩
        refine ⟨_, rfl, ?_⟩
        have n0_ := Aside0.mk (Kd.R_below (by (with_reducible repeat (first | apply Kd.R_alloc | apply Kd.R_drewN | apply Kd.R_drew)); exact HO_8.out) hb)
        have n1_ := Aside0.mk (Kd.R_below (by (with_reducible repeat (first | apply Kd.R_alloc | apply Kd.R_drewN | apply Kd.R_drew)); exact HO_11.out) hb)
        have n2_ := Aside0.mk (Kd.R_below (by (with_reducible repeat (first | apply Kd.R_alloc | apply Kd.R_drewN | apply Kd.R_drew)); exact HO_12.out) hb)
        have n3_ := Aside0.mk (Kd.R_elder' (by (with_reducible repeat (first | apply Kd.R_alloc | apply Kd.R_drewN | apply Kd.R_drew)); exact HO_406001.out) (Kd.R_base ho0) hb)
        have n4_ := Aside0.mk (Kd.R_lower (Kd.R_new' ho0 (Kd.R_lt (by (with_reducible repeat (first | apply Kd.R_alloc | apply Kd.R_drewN | apply Kd.R_drew)); exact HO_406001.out))) (below_size (by repeat (first | (with_reducible first | exact HB.out | apply below_alloc | apply pw_below_drewN | apply below_drew1 | refine below_set ?_ GE384.out | refine below_set ?_ GE385.out | refine below_set ?_ GE405.out) | exact HB.out))))
        have n5_ := Aside0.mk (blk_below (g := gb384) (o := .cells #[.int .i16 a0_0, .slice A0_1 l0_1.length c0_1] 25 (0, 0)) (by (with_reducible repeat (first | refine blk_drewN ?_ _ | refine blk_drew ?_ | refine blk_alloc ?_ _)); exact BK384.out) hb)
        have n6_ := Aside0.mk (blk_below (g := gb385) (o := .cells #[.int .i64 a2_0, .int .i64 a2_1] 46 (0, 0)) (by (with_reducible repeat (first | refine blk_drewN ?_ _ | refine blk_drew ?_ | refine blk_alloc ?_ _)); exact BK385.out) hb)
        have n7_ := Aside0.mk (blk_below (g := gb405) (o := .cells #[.int .i16 t401, .slice Ao45 t402.length co45] 35 (0, 0)) (by (with_reducible repeat (first | refine blk_drewN ?_ _ | refine blk_drew ?_ | refine blk_alloc ?_ _)); exact BK405.out) hb)
        have n8_ := Aside0.mk (below_step (by repeat (first | (with_reducible first | exact HB.out | apply below_alloc | apply pw_below_drewN | apply below_drew1 | refine below_set ?_ GE384.out | refine below_set ?_ GE385.out | refine below_set ?_ GE405.out) | exact HB.out)) hb)
        clear HO_8
        clear HO_11
        clear HO_12
        clear HO_406001
        clear BK384
        clear BK385
        clear BK405
        clear HB
        have HO_8 := n0_
        have HO_11 := n1_
        have HO_12 := n2_
        have HO_406001 := n3_
        have HO419 := n4_
        have BK384 := n5_
        have BK385 := n6_
        have BK405 := n7_
        have HB := n8_
        clear n0_ n1_ n2_ n3_ n4_ n5_ n6_ n7_ n8_
        (try clear hb)
        (try clear hb2)
        (try clear hk)
        (try clear hi)
        (try clear ho0)
        obtain ⟨Ao71, co71, eo71⟩ := Kd.R_slice HO419.out
        (first | subst eo71 | (injection eo71 with f1_ f2_ f3_; have f4_ := f1_.symm; have f5_ := f3_.symm; clear f1_ f2_ f3_; subst f4_; subst f5_))
        refine hK.out _ _ ⟨(blk_cell BK405.out 0).trans rfl, (blk_cell BK405.out 1).trans rfl, (blk_cell BK384.out 0).trans rfl, (blk_cell BK384.out 1).trans rfl⟩ (fun hHeld => ?_)
        clear hK K
        refine norm_ (a' := ?_) ?_ ?_
        rotate_left
        ·show Act.put _ (some 62) _ = _
         simp only [Act.put, List.setIfInBounds_toArray, List.set_cons_zero, List.set_cons_succ, i64_w, i32_w]
         rfl
        refine one_ (i := 3) (N := some 63) #[true, true, true, true, false] rfl rfl (by kernel_rfl) (by decide) (fun K hK => ?_)
        refine goes_ Try.func13 (by kernel_rfl) rfl #[.agg #[.int .i16 t401, .slice Ao45 t402.length co45], .agg #[.int .i16 t416, .slice Ao71 t417.length co71]] (by rfl) rfl rfl (by (try simp only [List.map_toArray, List.map_cons, List.map_nil]); first | done | rfl | (simp only [List.length_drop, List.length_take]; rfl)) ?_
        with_reducible refine (laws_eqRope.calls kj25 t401 _ _ t402 t416 _ _ t417 true _ ?side1 ?side2 ?side3 ?side4 A61.out).mono ?_
        (case side1 => repeat (first | exact (Kd.R_reads' HO_406001.out).2.2 | (with_reducible refine Kd.C_alloc ?_ _) | (with_reducible refine Kd.C_drewN ?_ _) | (with_reducible refine Kd.C_drew ?_)))
        (case side2 => exact (Kd.R_reads' HO_406001.out).2.1)
        (case side3 => repeat (first | exact (Kd.R_reads' HO419.out).2.2 | (with_reducible refine Kd.C_alloc ?_ _) | (with_reducible refine Kd.C_drewN ?_ _) | (with_reducible refine Kd.C_drew ?_)))
        (case side4 => exact (Kd.R_reads' HO419.out).2.1)
        rintro e w72 ⟨rfl, hb⟩
        refine ⟨_, rfl, ?_⟩
        have n0_ := Aside0.mk (Kd.R_below (by (with_reducible repeat (first | apply Kd.R_alloc | apply Kd.R_drewN | apply Kd.R_drew)); exact HO_8.out) hb)
        have n1_ := Aside0.mk (Kd.R_below (by (with_reducible repeat (first | apply Kd.R_alloc | apply Kd.R_drewN | apply Kd.R_drew)); exact HO_11.out) hb)
        have n2_ := Aside0.mk (Kd.R_below (by (with_reducible repeat (first | apply Kd.R_alloc | apply Kd.R_drewN | apply Kd.R_drew)); exact HO_12.out) hb)
        have n3_ := Aside0.mk (Kd.R_below (by (with_reducible repeat (first | apply Kd.R_alloc | apply Kd.R_drewN | apply Kd.R_drew)); exact HO_406001.out) hb)
        have n4_ := Aside0.mk (Kd.R_below (by (with_reducible repeat (first | apply Kd.R_alloc | apply Kd.R_drewN | apply Kd.R_drew)); exact HO419.out) hb)
        have n5_ := Aside0.mk (blk_below (g := gb384) (o := .cells #[.int .i16 a0_0, .slice A0_1 l0_1.length c0_1] 25 (0, 0)) (by (with_reducible repeat (first | refine blk_drewN ?_ _ | refine blk_drew ?_ | refine blk_alloc ?_ _)); exact BK384.out) hb)
        have n6_ := Aside0.mk (blk_below (g := gb385) (o := .cells #[.int .i64 a2_0, .int .i64 a2_1] 46 (0, 0)) (by (with_reducible repeat (first | refine blk_drewN ?_ _ | refine blk_drew ?_ | refine blk_alloc ?_ _)); exact BK385.out) hb)
        have n7_ := Aside0.mk (blk_below (g := gb405) (o := .cells #[.int .i16 t401, .slice Ao45 t402.length co45] 35 (0, 0)) (by (with_reducible repeat (first | refine blk_drewN ?_ _ | refine blk_drew ?_ | refine blk_alloc ?_ _)); exact BK405.out) hb)
        have n8_ := Aside0.mk (below_step (by repeat (first | (with_reducible first | exact HB.out | apply below_alloc | apply pw_below_drewN | apply below_drew1 | refine below_set ?_ GE384.out | refine below_set ?_ GE385.out | refine below_set ?_ GE405.out) | exact HB.out)) hb)
        clear HO_8
        clear HO_11
        clear HO_12
        clear HO_406001
        clear HO419
        clear BK384
        clear BK385
        clear BK405
        clear HB
        have HO_8 := n0_
        have HO_11 := n1_
        have HO_12 := n2_
        have HO_406001 := n3_
        have HO419 := n4_
        have BK384 := n5_
        have BK385 := n6_
        have BK405 := n7_
        have HB := n8_
        clear n0_ n1_ n2_ n3_ n4_ n5_ n6_ n7_ n8_
        (try clear hb)
        (try clear hb2)
        (try clear hk)
        (try clear hi)
        refine hK.out _ _ ⟨(blk_cell BK405.out 0).trans rfl, (blk_cell BK405.out 1).trans rfl, (blk_cell BK384.out 0).trans rfl, (blk_cell BK384.out 1).trans rfl⟩ (fun hHeld => ?_)
        clear hK K
        refine norm_ (a' := ?_) ?_ ?_
        rotate_left
        ·show Act.put _ (some 63) _ = _
         simp only [Act.put, List.setIfInBounds_toArray, List.set_cons_zero, List.set_cons_succ, i64_w, i32_w]
         rfl
        refine pure_ (i := 4) (N := some 64) (v := ?_) (a' := ?_) #[true, true, true, true, true] rfl rfl (by kernel_rfl) (fun _ _ _ h => h) (Or.inl ⟨by rfl, ?_⟩) ?_ ?_
        rotate_left
        ·intro w'
         go_simp
         with_reducible rfl
        rotate_left
        ·simp only [Act.put, List.setIfInBounds_toArray, List.set_cons_zero, List.set_cons_succ, i64_w, i32_w]
         rfl
        refine done_ (by kernel_rfl) ?_
        go_upto_region 21 with (first | ((with_reducible refine gate_callee (f := 9) rfl ?_); refine goesL_ (some 67) rfl rfl Try.func9 (by kernel_rfl) rfl #[.slice A1 l1.length c1] rfl (by (try simp only [List.map_toArray, List.map_cons, List.map_nil]); first | done | rfl | (simp only [List.length_drop, List.length_take]; rfl)) ?_; (with_reducible refine (laws_toHoldS.calls kj25 _ _ l1 t421 _ ?side1 ?side2 A63.out).mono ?_); (case side1 => repeat (first | exact (Kd.C_below HR1.out HB.out) | (with_reducible refine Kd.C_alloc ?_ _) | (with_reducible refine Kd.C_drewN ?_ _) | (with_reducible refine Kd.C_drew ?_))); (case side2 => exact HC1.out); rintro e w73 ⟨v422, rfl, ho0, hb⟩; refine ⟨_, rfl, ?_⟩; have n0_ := Aside0.mk (Kd.R_below (by (with_reducible repeat (first | apply Kd.R_alloc | apply Kd.R_drewN | apply Kd.R_drew)); exact HO_8.out) hb); have n1_ := Aside0.mk (Kd.R_elder' (by (with_reducible repeat (first | apply Kd.R_alloc | apply Kd.R_drewN | apply Kd.R_drew)); exact HO_11.out) (Kd.R_base ho0) hb); have n2_ := Aside0.mk (Kd.R_below (by (with_reducible repeat (first | apply Kd.R_alloc | apply Kd.R_drewN | apply Kd.R_drew)); exact HO_12.out) hb); have n3_ := Aside0.mk (Kd.R_below (by (with_reducible repeat (first | apply Kd.R_alloc | apply Kd.R_drewN | apply Kd.R_drew)); exact HO_406001.out) hb); have n4_ := Aside0.mk (Kd.R_below (by (with_reducible repeat (first | apply Kd.R_alloc | apply Kd.R_drewN | apply Kd.R_drew)); exact HO419.out) hb); have n5_ := Aside0.mk (Kd.R_lower (Kd.R_new' ho0 (Kd.R_lt (by (with_reducible repeat (first | apply Kd.R_alloc | apply Kd.R_drewN | apply Kd.R_drew)); exact HO_11.out))) (below_size (by repeat (first | (with_reducible first | exact HB.out | apply below_alloc | apply pw_below_drewN | apply below_drew1 | refine below_set ?_ GE384.out | refine below_set ?_ GE385.out | refine below_set ?_ GE405.out) | exact HB.out)))); have n6_ := Aside0.mk (blk_below (g := gb384) (o := .cells #[.int .i16 a0_0, .slice A0_1 l0_1.length c0_1] 25 (0, 0)) (by (with_reducible repeat (first | refine blk_drewN ?_ _ | refine blk_drew ?_ | refine blk_alloc ?_ _)); exact BK384.out) hb); have n7_ := Aside0.mk (blk_below (g := gb385) (o := .cells #[.int .i64 a2_0, .int .i64 a2_1] 46 (0, 0)) (by (with_reducible repeat (first | refine blk_drewN ?_ _ | refine blk_drew ?_ | refine blk_alloc ?_ _)); exact BK385.out) hb); have n8_ := Aside0.mk (blk_below (g := gb405) (o := .cells #[.int .i16 t401, .slice Ao45 t402.length co45] 35 (0, 0)) (by (with_reducible repeat (first | refine blk_drewN ?_ _ | refine blk_drew ?_ | refine blk_alloc ?_ _)); exact BK405.out) hb); have n9_ := Aside0.mk (below_step (by repeat (first | (with_reducible first | exact HB.out | apply below_alloc | apply pw_below_drewN | apply below_drew1 | refine below_set ?_ GE384.out | refine below_set ?_ GE385.out | refine below_set ?_ GE405.out) | exact HB.out)) hb); clear HO_8; clear HO_11; clear HO_12; clear HO_406001; clear HO419; clear BK384; clear BK385; clear BK405; clear HB; have HO_8 := n0_; have HO_11 := n1_; have HO_12 := n2_; have HO_406001 := n3_; have HO419 := n4_; have HO423 := n5_; have BK384 := n6_; have BK385 := n7_; have BK405 := n8_; have HB := n9_; clear n0_ n1_ n2_ n3_ n4_ n5_ n6_ n7_ n8_ n9_; (try clear hb); (try clear hb2); (try clear hk); (try clear hi); (try clear ho0); obtain ⟨Ao74, co74, eo74⟩ := Kd.R_slice HO423.out; subst eo74) | ((with_reducible refine gate_callee (f := 12) rfl ?_); refine goesL_ (some 68) rfl rfl Try.func12 (by kernel_rfl) rfl #[.slice Ao49 t406.length co49, .slice Ao74 t421.length co74] rfl (by (try simp only [List.map_toArray, List.map_cons, List.map_nil]); first | done | rfl | (simp only [List.length_drop, List.length_take]; rfl)) ?_; (with_reducible refine (laws_eqHoldS.calls kj25 _ _ t406 _ _ t421 true _ ?side1 ?side2 ?side3 ?side4 A64.out).mono ?_); (case side1 => repeat (first | exact (Kd.R_reads' HO_11.out).2.2 | (with_reducible refine Kd.C_alloc ?_ _) | (with_reducible refine Kd.C_drewN ?_ _) | (with_reducible refine Kd.C_drew ?_))); (case side2 => exact (Kd.R_reads' HO_11.out).2.1); (case side3 => repeat (first | exact (Kd.R_reads' HO423.out).2.2 | (with_reducible refine Kd.C_alloc ?_ _) | (with_reducible refine Kd.C_drewN ?_ _) | (with_reducible refine Kd.C_drew ?_))); (case side4 => exact (Kd.R_reads' HO423.out).2.1); rintro e w75 ⟨rfl, hb⟩; refine ⟨_, rfl, ?_⟩; have n0_ := Aside0.mk (Kd.R_below (by (with_reducible repeat (first | apply Kd.R_alloc | apply Kd.R_drewN | apply Kd.R_drew)); exact HO_8.out) hb); have n1_ := Aside0.mk (Kd.R_below (by (with_reducible repeat (first | apply Kd.R_alloc | apply Kd.R_drewN | apply Kd.R_drew)); exact HO_11.out) hb); have n2_ := Aside0.mk (Kd.R_below (by (with_reducible repeat (first | apply Kd.R_alloc | apply Kd.R_drewN | apply Kd.R_drew)); exact HO_12.out) hb); have n3_ := Aside0.mk (Kd.R_below (by (with_reducible repeat (first | apply Kd.R_alloc | apply Kd.R_drewN | apply Kd.R_drew)); exact HO_406001.out) hb); have n4_ := Aside0.mk (Kd.R_below (by (with_reducible repeat (first | apply Kd.R_alloc | apply Kd.R_drewN | apply Kd.R_drew)); exact HO419.out) hb); have n5_ := Aside0.mk (Kd.R_below (by (with_reducible repeat (first | apply Kd.R_alloc | apply Kd.R_drewN | apply Kd.R_drew)); exact HO423.out) hb); have n6_ := Aside0.mk (blk_below (g := gb384) (o := .cells #[.int .i16 a0_0, .slice A0_1 l0_1.length c0_1] 25 (0, 0)) (by (with_reducible repeat (first | refine blk_drewN ?_ _ | refine blk_drew ?_ | refine blk_alloc ?_ _)); exact BK384.out) hb); have n7_ := Aside0.mk (blk_below (g := gb385) (o := .cells #[.int .i64 a2_0, .int .i64 a2_1] 46 (0, 0)) (by (with_reducible repeat (first | refine blk_drewN ?_ _ | refine blk_drew ?_ | refine blk_alloc ?_ _)); exact BK385.out) hb); have n8_ := Aside0.mk (blk_below (g := gb405) (o := .cells #[.int .i16 t401, .slice Ao45 t402.length co45] 35 (0, 0)) (by (with_reducible repeat (first | refine blk_drewN ?_ _ | refine blk_drew ?_ | refine blk_alloc ?_ _)); exact BK405.out) hb); have n9_ := Aside0.mk (below_step (by repeat (first | (with_reducible first | exact HB.out | apply below_alloc | apply pw_below_drewN | apply below_drew1 | refine below_set ?_ GE384.out | refine below_set ?_ GE385.out | refine below_set ?_ GE405.out) | exact HB.out)) hb); clear HO_8; clear HO_11; clear HO_12; clear HO_406001; clear HO419; clear HO423; clear BK384; clear BK385; clear BK405; clear HB; have HO_8 := n0_; have HO_11 := n1_; have HO_12 := n2_; have HO_406001 := n3_; have HO419 := n4_; have HO423 := n5_; have BK384 := n6_; have BK385 := n7_; have BK405 := n8_; have HB := n9_; clear n0_ n1_ n2_ n3_ n4_ n5_ n6_ n7_ n8_ n9_; (try clear hb); (try clear hb2); (try clear hk); (try clear hi); have hnb76 := NB405_384.out; have hnc76 := NB384_405.out; have hnb77 := NB405_385.out; have hnc77 := NB385_405.out; have hcz78_0 : w75.cell? ⟨gb405, 0, none⟩ = some (.int .i16 t401) := (blk_cell BK405.out 0).trans rfl; have hcz78_1 : w75.cell? ⟨gb405, 1, none⟩ = some (.slice Ao45 t402.length co45) := (blk_cell BK405.out 1).trans rfl; have hfz78_0 := blk_frozen BK405.out 0; have hfz78_1 := blk_frozen BK405.out 1) | ((with_reducible refine gate_callee (f := 14) rfl ?_); refine goesL_ (some 72) rfl rfl Try.func14 (by kernel_rfl) rfl #[.agg #[.int .i16 t401, .slice Ao45 t402.length co45], .int .i64 1] rfl (by (try simp only [List.map_toArray, List.map_cons, List.map_nil]); first | done | rfl | (simp only [List.length_drop, List.length_take]; rfl)) ?_; (with_reducible refine (laws_markRope.calls kj25 t401 (fun k_ => some k_ = (.slice Ao45 t402.length co45 : Value).ownBlock) (.slice Ao45 t402.length co45) t402 1 t425 t426 w _ ?side1 ?side2 A66.out).mono ?_); (case side1 => repeat (first | (with_reducible first | exact HB.out | apply below_alloc | apply pw_below_drewN | apply below_drew1 | refine below_set ?_ GE384.out | refine below_set ?_ GE385.out | refine below_set ?_ GE405.out) | exact HB.out)); (case side2 => exact Kd.R_tight rfl HO_406001.out); rintro e w79 ⟨rfl, hy0, hb, hkp⟩; refine ⟨_, rfl, ?_⟩; have n0_ := Aside0.mk (Kd.R_mono (ok' := fun k_ => some k_ ≠ (v412 : Value).ownBlock) (Kd.R_keptB ((Kd.R_apart' HO_8.out (Kd.R_typed HO_406001.out) (by decide))) hkp (fun k_ hk_ hs_ => (hk_.2) hs_)) (fun k_ hk_ => hk_.1.1)); have n1_ := Aside0.mk (Kd.R_mono (ok' := fun k_ => some k_ ≠ (.slice Ao74 t421.length co74 : Value).ownBlock) (Kd.R_keptB ((Kd.R_apart' HO_11.out (Kd.R_typed HO_406001.out) (by decide))) hkp (fun k_ hk_ hs_ => (hk_.2) hs_)) (fun k_ hk_ => hk_.1.1.2)); have n2_ := Aside0.mk (Kd.R_mono (ok' := fun k_ => some k_ ≠ (v398 : Value).ownBlock) (Kd.R_keptB ((Kd.R_apart' HO_12.out (Kd.R_typed HO_406001.out) (by decide))) hkp (fun k_ hk_ hs_ => (hk_.2) hs_)) (fun k_ hk_ => hk_.1.1)); have n3_ := Aside0.mk (Kd.R_reok rfl hy0 (fun k_ e_ => HO_406001.out.1 k_ e_)); have n4_ := Aside0.mk (blk_kept (by (with_reducible repeat (first | refine blk_drewN ?_ _ | refine blk_drew ?_ | refine blk_alloc ?_ _)); exact BK384.out) hkp (fun hs_ => (fun e_ => (Kd.R_ne HO_406001.out BK384.out (by decide)) e_) hs_)); have n5_ := Aside0.mk (blk_kept (by (with_reducible repeat (first | refine blk_drewN ?_ _ | refine blk_drew ?_ | refine blk_alloc ?_ _)); exact BK385.out) hkp (fun hs_ => (fun e_ => (Kd.R_ne HO_406001.out BK385.out (by decide)) e_) hs_)); have n6_ := Aside0.mk (blk_kept (by (with_reducible repeat (first | refine blk_drewN ?_ _ | refine blk_drew ?_ | refine blk_alloc ?_ _)); exact BK405.out) hkp (fun hs_ => (fun e_ => (Kd.R_ne HO_406001.out BK405.out (by decide)) e_) hs_)); have n7_ := Aside0.mk (Kd.R_mono (ok' := fun k_ => some k_ ≠ (.slice Ao45 t402.length co45 : Value).ownBlock) (Kd.R_keptB (HO419.out) hkp (fun k_ hk_ hs_ => (hk_.2) hs_)) (fun k_ hk_ => hk_.1.2)); have n8_ := Aside0.mk (Kd.R_mono (ok' := fun k_ => some k_ ≠ (.slice Ao49 t406.length co49 : Value).ownBlock) (Kd.R_keptB ((Kd.R_apart' HO423.out (Kd.R_typed HO_406001.out) (by decide))) hkp (fun k_ hk_ hs_ => (hk_.2) hs_)) (fun k_ hk_ => hk_.1.1.2)); have n9_ := Aside0.mk (hb); clear HO_8; clear HO_11; clear HO_12; clear HO_406001; clear BK384; clear BK385; clear BK405; clear HO419; clear HO423; clear HB; have HO_8 := n0_; have HO_11 := n1_; have HO_12 := n2_; have HO_406001 := n3_; have BK384 := n4_; have BK385 := n5_; have BK405 := n6_; have HO419 := n7_; have HO423 := n8_; have HB := n9_; clear n0_ n1_ n2_ n3_ n4_ n5_ n6_ n7_ n8_ n9_; (try clear hb); (try clear hkp); (try clear hy0)) | ((with_reducible refine gate_callee (f := 15) rfl ?_); refine goesL_ (some 75) rfl rfl Try.func15 (by kernel_rfl) rfl #[.slice Ao49 t406.length co49, .int .i64 t425] rfl (by (try simp only [List.map_toArray, List.map_cons, List.map_nil]); first | done | rfl | (simp only [List.length_drop, List.length_take]; rfl)) ?_; (with_reducible refine (laws_markHoldS.calls kj25 (fun k_ => some k_ = (.slice Ao49 t406.length co49 : Value).ownBlock) (.slice Ao49 t406.length co49) t406 t425 t427 t428 w _ ?side1 ?side2 A67.out).mono ?_); (case side1 => repeat (first | (with_reducible first | exact HB.out | apply below_alloc | apply pw_below_drewN | apply below_drew1 | refine below_set ?_ GE384.out | refine below_set ?_ GE385.out | refine below_set ?_ GE405.out) | exact HB.out)); (case side2 => exact Kd.R_tight rfl HO_11.out); rintro e w80 ⟨rfl, hy0, hb, hkp⟩; refine ⟨_, rfl, ?_⟩; have n0_ := Aside0.mk (Kd.R_mono (ok' := fun k_ => some k_ ≠ (v412 : Value).ownBlock) (Kd.R_keptB ((Kd.R_apart' HO_8.out (Kd.R_typed HO_11.out) (by decide))) hkp (fun k_ hk_ hs_ => (hk_.2) hs_)) (fun k_ hk_ => hk_.1.1)); have n1_ := Aside0.mk (Kd.R_reok rfl hy0 (fun k_ e_ => HO_11.out.1 k_ e_)); have n2_ := Aside0.mk (Kd.R_mono (ok' := fun k_ => some k_ ≠ (v398 : Value).ownBlock) (Kd.R_keptB ((Kd.R_apart' HO_12.out (Kd.R_typed HO_11.out) (by decide))) hkp (fun k_ hk_ hs_ => (hk_.2) hs_)) (fun k_ hk_ => hk_.1.1)); have n3_ := Aside0.mk (Kd.R_mono (ok' := fun k_ => some k_ ≠ (.slice Ao71 t417.length co71 : Value).ownBlock) (Kd.R_keptB ((Kd.R_apart' HO_406001.out (Kd.R_typed HO_11.out) (by decide))) hkp (fun k_ hk_ hs_ => (hk_.2) hs_)) (fun k_ hk_ => hk_.1.1.2)); have n4_ := Aside0.mk (blk_kept (by (with_reducible repeat (first | refine blk_drewN ?_ _ | refine blk_drew ?_ | refine blk_alloc ?_ _)); exact BK384.out) hkp (fun hs_ => (fun e_ => (Kd.R_ne HO_11.out BK384.out (by decide)) e_) hs_)); have n5_ := Aside0.mk (blk_kept (by (with_reducible repeat (first | refine blk_drewN ?_ _ | refine blk_drew ?_ | refine blk_alloc ?_ _)); exact BK385.out) hkp (fun hs_ => (fun e_ => (Kd.R_ne HO_11.out BK385.out (by decide)) e_) hs_)); have n6_ := Aside0.mk (blk_kept (by (with_reducible repeat (first | refine blk_drewN ?_ _ | refine blk_drew ?_ | refine blk_alloc ?_ _)); exact BK405.out) hkp (fun hs_ => (fun e_ => (Kd.R_ne HO_11.out BK405.out (by decide)) e_) hs_)); have n7_ := Aside0.mk (Kd.R_mono (ok' := fun k_ => some k_ ≠ (.slice Ao45 t402.length co45 : Value).ownBlock) (Kd.R_keptB ((Kd.R_apart' HO419.out (Kd.R_typed HO_11.out) (by decide))) hkp (fun k_ hk_ hs_ => (hk_.2) hs_)) (fun k_ hk_ => hk_.1.1)); have n8_ := Aside0.mk (Kd.R_mono (ok' := fun k_ => some k_ ≠ (.slice Ao49 t406.length co49 : Value).ownBlock) (Kd.R_keptB (HO423.out) hkp (fun k_ hk_ hs_ => (hk_) hs_)) (fun k_ hk_ => hk_.1)); have n9_ := Aside0.mk (hb); clear HO_8; clear HO_11; clear HO_12; clear HO_406001; clear BK384; clear BK385; clear BK405; clear HO419; clear HO423; clear HB; have HO_8 := n0_; have HO_11 := n1_; have HO_12 := n2_; have HO_406001 := n3_; have BK384 := n4_; have BK385 := n5_; have BK405 := n6_; have HO419 := n7_; have HO423 := n8_; have HB := n9_; clear n0_ n1_ n2_ n3_ n4_ n5_ n6_ n7_ n8_ n9_; (try clear hb); (try clear hkp); (try clear hy0)))
        (try simp only [Act.put, List.setIfInBounds_toArray, List.set_cons_zero, List.set_cons_succ])
        go_cut [88] (fun v88 wc => ∃ (kq : Nat) (x88_67 : Bool), v88 = .bool x88_67 ∧ Aside0 (laws_FnExactSwappedBy.j1 kq l1 t397 t400 t411 x88_67 a0_0 l0_1 a2_0 a2_1 = some r) ∧ Aside0 (kq ≤ kj25) ∧ Aside0 (Kd.R k68 68 wc w.heap.size (fun k_ => some k_ ≠ (v412 : Value).ownBlock) v398 t397) ∧ Aside0 (Kd.R k68 68 wc w.heap.size (fun k_ => some k_ ≠ (v398 : Value).ownBlock) v412 t411) ∧ Aside0 (Kd.R (Kd.int .i16) 22 wc w.heap.size (fun _ => True) (.slice Ao45 t402.length co45) t426) ∧ Aside0 (wc.heap[gb384]? = some (.cells #[.int .i16 a0_0, (.slice A0_1 l0_1.length c0_1)] 25 (0, 0))) ∧ Aside0 (wc.heap[gb385]? = some (.cells #[.int .i64 a2_0, .int .i64 a2_1] 46 (0, 0))) ∧ Aside0 (wc.heap[gb405]? = some (.cells #[.int .i16 t401, (.slice Ao45 t402.length co45)] 35 (0, 0))) ∧ Aside0 (Below w.heap.size w wc))
        case first =>
         have H := HC68.out
         clear HC68
         by_cases c81 : t427 < 0
         ·rw [if_pos c81] at H
          have c81b0 : decide (t427 < 0) = true := decide_eq_true c81
          clear c81
          (first | rw [c81b0] | (simp only [i64_w, i32_w]; rw [c81b0]) | skip)
          have H' := Aside0.mk H
          clear H
          go_wp2
          go_meet
          case rel => exact ⟨_, (true), (by first | rfl | (simp; done) | (simp [*]; done)), H', ⟨by have := HJ25.out; first | omega | exact Nat.le_refl _⟩, ⟨by (with_reducible repeat (first | apply Kd.R_alloc | apply Kd.R_drewN | apply Kd.R_drew)); exact HO_8.out⟩, ⟨by (with_reducible repeat (first | apply Kd.R_alloc | apply Kd.R_drewN | apply Kd.R_drew)); exact HO_12.out⟩, ⟨by (with_reducible repeat (first | apply Kd.R_alloc | apply Kd.R_drewN | apply Kd.R_drew)); exact Kd.R_mono HO_406001.out (fun _ hk => trivial)⟩, ⟨by (with_reducible repeat (first | refine blk_drewN ?_ _ | refine blk_drew ?_ | refine blk_alloc ?_ _)); exact BK384.out⟩, ⟨by (with_reducible repeat (first | refine blk_drewN ?_ _ | refine blk_drew ?_ | refine blk_alloc ?_ _)); exact BK385.out⟩, ⟨by (with_reducible repeat (first | refine blk_drewN ?_ _ | refine blk_drew ?_ | refine blk_alloc ?_ _)); exact BK405.out⟩, ⟨by repeat (first | (with_reducible first | exact HB.out | apply below_alloc | apply pw_below_drewN | apply below_drew1 | refine below_set ?_ GE384.out | refine below_set ?_ GE385.out | refine below_set ?_ GE405.out) | exact HB.out)⟩⟩
         ·rw [if_neg c81] at H
          have c81b0 : decide (t427 < 0) = false := decide_eq_false c81
          clear c81
          (first | rw [c81b0] | (simp only [i64_w, i32_w]; rw [c81b0]) | skip)
          replace H := Option.bind_eq_some_iff.mp H
          obtain ⟨t429, A820, H⟩ := H
          replace H : (if t429 = true then (laws_FnExactSwappedBy.j1 kj25 l1 t397 t400 t411 (t414 != t400) a0_0 l0_1 a2_0 a2_1) else (laws_FnExactSwappedBy.j1 kj25 l1 t397 t400 t411 true a0_0 l0_1 a2_0 a2_1)) = some r := H
          have A82 := Aside0.mk A820
          clear A820
          by_cases c83 : t429 = true
          ·subst c83
           have H1 : (laws_FnExactSwappedBy.j1 kj25 l1 t397 t400 t411 (t414 != t400) a0_0 l0_1 a2_0 a2_1) = some r := by rw [if_pos rfl] at H; exact H
           clear H
           have H := H1
           clear H1
           have H' := Aside0.mk H
           clear H
           obtain ⟨Ao84, co84, eo84⟩ := Kd.R_slice HO_12.out
           subst eo84
           obtain ⟨Ao85, co85, eo85⟩ := Kd.R_slice HO_8.out
           subst eo85
           go_wp2_with (first | (go_at_call 20; (with_reducible refine (laws_eqInt64A2S.calls kj25 _ _ t411 _ _ t397 true _ ?side1 ?side2 ?side3 ?side4 A82.out).mono ?_); (case side1 => repeat (first | exact (Kd.R_reads' HO_12.out).2.2 | (with_reducible refine Kd.C_alloc ?_ _) | (with_reducible refine Kd.C_drewN ?_ _) | (with_reducible refine Kd.C_drew ?_))); (case side2 => exact (Kd.R_reads' HO_12.out).2.1); (case side3 => repeat (first | exact (Kd.R_reads' HO_8.out).2.2 | (with_reducible refine Kd.C_alloc ?_ _) | (with_reducible refine Kd.C_drewN ?_ _) | (with_reducible refine Kd.C_drew ?_))); (case side4 => exact (Kd.R_reads' HO_8.out).2.1); rintro e w86 ⟨rfl, hb⟩; have n0_ := Aside0.mk (Kd.R_below (by (with_reducible repeat (first | apply Kd.R_alloc | apply Kd.R_drewN | apply Kd.R_drew)); exact HO_8.out) hb); have n1_ := Aside0.mk (Kd.R_below (by (with_reducible repeat (first | apply Kd.R_alloc | apply Kd.R_drewN | apply Kd.R_drew)); exact HO_11.out) hb); have n2_ := Aside0.mk (Kd.R_below (by (with_reducible repeat (first | apply Kd.R_alloc | apply Kd.R_drewN | apply Kd.R_drew)); exact HO_12.out) hb); have n3_ := Aside0.mk (Kd.R_below (by (with_reducible repeat (first | apply Kd.R_alloc | apply Kd.R_drewN | apply Kd.R_drew)); exact HO_406001.out) hb); have n4_ := Aside0.mk (Kd.R_below (by (with_reducible repeat (first | apply Kd.R_alloc | apply Kd.R_drewN | apply Kd.R_drew)); exact HO419.out) hb); have n5_ := Aside0.mk (Kd.R_below (by (with_reducible repeat (first | apply Kd.R_alloc | apply Kd.R_drewN | apply Kd.R_drew)); exact HO423.out) hb); have n6_ := Aside0.mk (blk_below (g := gb384) (o := .cells #[.int .i16 a0_0, .slice A0_1 l0_1.length c0_1] 25 (0, 0)) (by (with_reducible repeat (first | refine blk_drewN ?_ _ | refine blk_drew ?_ | refine blk_alloc ?_ _)); exact BK384.out) hb); have n7_ := Aside0.mk (blk_below (g := gb385) (o := .cells #[.int .i64 a2_0, .int .i64 a2_1] 46 (0, 0)) (by (with_reducible repeat (first | refine blk_drewN ?_ _ | refine blk_drew ?_ | refine blk_alloc ?_ _)); exact BK385.out) hb); have n8_ := Aside0.mk (blk_below (g := gb405) (o := .cells #[.int .i16 t401, .slice Ao45 t402.length co45] 35 (0, 0)) (by (with_reducible repeat (first | refine blk_drewN ?_ _ | refine blk_drew ?_ | refine blk_alloc ?_ _)); exact BK405.out) hb); have n9_ := Aside0.mk (below_step (by repeat (first | (with_reducible first | exact HB.out | apply below_alloc | apply pw_below_drewN | apply below_drew1 | refine below_set ?_ GE384.out | refine below_set ?_ GE385.out | refine below_set ?_ GE405.out) | exact HB.out)) hb); clear HO_8; clear HO_11; clear HO_12; clear HO_406001; clear HO419; clear HO423; clear BK384; clear BK385; clear BK405; clear HB; have HO_8 := n0_; have HO_11 := n1_; have HO_12 := n2_; have HO_406001 := n3_; have HO419 := n4_; have HO423 := n5_; have BK384 := n6_; have BK385 := n7_; have BK405 := n8_; have HB := n9_; clear n0_ n1_ n2_ n3_ n4_ n5_ n6_ n7_ n8_ n9_; (try clear hb); (try clear hb2); (try clear hk); (try clear hi)))
           go_meet
           case rel => exact ⟨_, ((t414 != t400)), (by first | rfl | (simp; done) | (simp [*]; done)), H', ⟨by have := HJ25.out; first | omega | exact Nat.le_refl _⟩, ⟨by (with_reducible repeat (first | apply Kd.R_alloc | apply Kd.R_drewN | apply Kd.R_drew)); exact HO_8.out⟩, ⟨by (with_reducible repeat (first | apply Kd.R_alloc | apply Kd.R_drewN | apply Kd.R_drew)); exact HO_12.out⟩, ⟨by (with_reducible repeat (first | apply Kd.R_alloc | apply Kd.R_drewN | apply Kd.R_drew)); exact Kd.R_mono HO_406001.out (fun _ hk => trivial)⟩, ⟨by (with_reducible repeat (first | refine blk_drewN ?_ _ | refine blk_drew ?_ | refine blk_alloc ?_ _)); exact BK384.out⟩, ⟨by (with_reducible repeat (first | refine blk_drewN ?_ _ | refine blk_drew ?_ | refine blk_alloc ?_ _)); exact BK385.out⟩, ⟨by (with_reducible repeat (first | refine blk_drewN ?_ _ | refine blk_drew ?_ | refine blk_alloc ?_ _)); exact BK405.out⟩, ⟨by repeat (first | (with_reducible first | exact HB.out | apply below_alloc | apply pw_below_drewN | apply below_drew1 | refine below_set ?_ GE384.out | refine below_set ?_ GE385.out | refine below_set ?_ GE405.out) | exact HB.out)⟩⟩
          ·replace c83 := Bool.eq_false_iff.mpr c83
           subst c83
           have H1 : (laws_FnExactSwappedBy.j1 kj25 l1 t397 t400 t411 true a0_0 l0_1 a2_0 a2_1) = some r := by rw [if_neg (show ¬ (false = true) by decide)] at H; exact H
           clear H
           have H := H1
           clear H1
           have H' := Aside0.mk H
           clear H
           obtain ⟨Ao87, co87, eo87⟩ := Kd.R_slice HO_12.out
           subst eo87
           obtain ⟨Ao88, co88, eo88⟩ := Kd.R_slice HO_8.out
           subst eo88
           go_wp2_with (first | (go_at_call 20; (with_reducible refine (laws_eqInt64A2S.calls kj25 _ _ t411 _ _ t397 false _ ?side1 ?side2 ?side3 ?side4 A82.out).mono ?_); (case side1 => repeat (first | exact (Kd.R_reads' HO_12.out).2.2 | (with_reducible refine Kd.C_alloc ?_ _) | (with_reducible refine Kd.C_drewN ?_ _) | (with_reducible refine Kd.C_drew ?_))); (case side2 => exact (Kd.R_reads' HO_12.out).2.1); (case side3 => repeat (first | exact (Kd.R_reads' HO_8.out).2.2 | (with_reducible refine Kd.C_alloc ?_ _) | (with_reducible refine Kd.C_drewN ?_ _) | (with_reducible refine Kd.C_drew ?_))); (case side4 => exact (Kd.R_reads' HO_8.out).2.1); rintro e w89 ⟨rfl, hb⟩; have n0_ := Aside0.mk (Kd.R_below (by (with_reducible repeat (first | apply Kd.R_alloc | apply Kd.R_drewN | apply Kd.R_drew)); exact HO_8.out) hb); have n1_ := Aside0.mk (Kd.R_below (by (with_reducible repeat (first | apply Kd.R_alloc | apply Kd.R_drewN | apply Kd.R_drew)); exact HO_11.out) hb); have n2_ := Aside0.mk (Kd.R_below (by (with_reducible repeat (first | apply Kd.R_alloc | apply Kd.R_drewN | apply Kd.R_drew)); exact HO_12.out) hb); have n3_ := Aside0.mk (Kd.R_below (by (with_reducible repeat (first | apply Kd.R_alloc | apply Kd.R_drewN | apply Kd.R_drew)); exact HO_406001.out) hb); have n4_ := Aside0.mk (Kd.R_below (by (with_reducible repeat (first | apply Kd.R_alloc | apply Kd.R_drewN | apply Kd.R_drew)); exact HO419.out) hb); have n5_ := Aside0.mk (Kd.R_below (by (with_reducible repeat (first | apply Kd.R_alloc | apply Kd.R_drewN | apply Kd.R_drew)); exact HO423.out) hb); have n6_ := Aside0.mk (blk_below (g := gb384) (o := .cells #[.int .i16 a0_0, .slice A0_1 l0_1.length c0_1] 25 (0, 0)) (by (with_reducible repeat (first | refine blk_drewN ?_ _ | refine blk_drew ?_ | refine blk_alloc ?_ _)); exact BK384.out) hb); have n7_ := Aside0.mk (blk_below (g := gb385) (o := .cells #[.int .i64 a2_0, .int .i64 a2_1] 46 (0, 0)) (by (with_reducible repeat (first | refine blk_drewN ?_ _ | refine blk_drew ?_ | refine blk_alloc ?_ _)); exact BK385.out) hb); have n8_ := Aside0.mk (blk_below (g := gb405) (o := .cells #[.int .i16 t401, .slice Ao45 t402.length co45] 35 (0, 0)) (by (with_reducible repeat (first | refine blk_drewN ?_ _ | refine blk_drew ?_ | refine blk_alloc ?_ _)); exact BK405.out) hb); have n9_ := Aside0.mk (below_step (by repeat (first | (with_reducible first | exact HB.out | apply below_alloc | apply pw_below_drewN | apply below_drew1 | refine below_set ?_ GE384.out | refine below_set ?_ GE385.out | refine below_set ?_ GE405.out) | exact HB.out)) hb); clear HO_8; clear HO_11; clear HO_12; clear HO_406001; clear HO419; clear HO423; clear BK384; clear BK385; clear BK405; clear HB; have HO_8 := n0_; have HO_11 := n1_; have HO_12 := n2_; have HO_406001 := n3_; have HO419 := n4_; have HO423 := n5_; have BK384 := n6_; have BK385 := n7_; have BK405 := n8_; have HB := n9_; clear n0_ n1_ n2_ n3_ n4_ n5_ n6_ n7_ n8_ n9_; (try clear hb); (try clear hb2); (try clear hk); (try clear hi)))
           go_meet
           case rel => exact ⟨_, (true), (by first | rfl | (simp; done) | (simp [*]; done)), H', ⟨by have := HJ25.out; first | omega | exact Nat.le_refl _⟩, ⟨by (with_reducible repeat (first | apply Kd.R_alloc | apply Kd.R_drewN | apply Kd.R_drew)); exact HO_8.out⟩, ⟨by (with_reducible repeat (first | apply Kd.R_alloc | apply Kd.R_drewN | apply Kd.R_drew)); exact HO_12.out⟩, ⟨by (with_reducible repeat (first | apply Kd.R_alloc | apply Kd.R_drewN | apply Kd.R_drew)); exact Kd.R_mono HO_406001.out (fun _ hk => trivial)⟩, ⟨by (with_reducible repeat (first | refine blk_drewN ?_ _ | refine blk_drew ?_ | refine blk_alloc ?_ _)); exact BK384.out⟩, ⟨by (with_reducible repeat (first | refine blk_drewN ?_ _ | refine blk_drew ?_ | refine blk_alloc ?_ _)); exact BK385.out⟩, ⟨by (with_reducible repeat (first | refine blk_drewN ?_ _ | refine blk_drew ?_ | refine blk_alloc ?_ _)); exact BK405.out⟩, ⟨by repeat (first | (with_reducible first | exact HB.out | apply below_alloc | apply pw_below_drewN | apply below_drew1 | refine below_set ?_ GE384.out | refine below_set ?_ GE385.out | refine below_set ?_ GE405.out) | exact HB.out)⟩⟩
        case rest =>
         clear HC68
         try clear c1
         try clear c2
         try clear p2
         try clear c4
         try clear c5
         try clear c5b0
         try clear c6
         try clear c7
         try clear c8
         try clear c9
         try clear c12
         try clear c12b0
         try clear c13
         try clear c14
         try clear c15
         try clear c17
         try clear c18
         try clear c19
         try clear c20
         try clear c29
         try clear c42
         try clear c43
         try clear c52
         try clear c59
         try clear c62
         try clear c65
         try clear c76
         try clear c77
         try clear c81
         try clear c81b0
         try clear c83
         try clear hcz16_0
         try clear hcz16_1
         try clear hcz30_0
         try clear hcz30_1
         try clear hcz39_0
         try clear hcz39_1
         try clear hcz44_0
         try clear hcz44_1
         try clear hcz78_0
         try clear hcz78_1
         try clear hcz9_0
         try clear hcz9_1
         try clear hfz16_0
         try clear hfz16_1
         try clear hfz30_0
         try clear hfz30_1
         try clear hfz39_0
         try clear hfz39_1
         try clear hfz44_0
         try clear hfz44_1
         try clear hfz78_0
         try clear hfz78_1
         try clear hfz9_0
         try clear hfz9_1
         try clear p2
         obtain ⟨kq, x88_67, rfl, HA, HJ67, HO_8, HO_12, HO_406001, BK384, BK385, BK405, HB⟩ := hcut
         have hl406001_67 := (Kd.R_reads' HO_406001.out).1
         rw [hl406001_67] at HO_406001
         (try simp only [hl406001_67])
         (try simp only [hl406001_67] at BK384)
         (try simp only [hl406001_67] at BK385)
         (try simp only [hl406001_67] at BK405)
         (try simp only [hl406001_67] at HO_8)
         (try simp only [hl406001_67] at HO_12)
         cases kq with
         | zero => exact absurd HA.out (by simp [laws_FnExactSwappedBy.j1])
         | succ kj67 =>
          have H := HA.out
          clear HA
          simp only [laws_FnExactSwappedBy.j1] at H
          by_cases c90 : x88_67 = true
          ·subst c90
           have H1 : (some false) = some r := by rw [if_pos rfl] at H; exact H
           clear H
           have H := H1
           clear H1
           exact absurd ((Option.some.inj H).trans HT.out) (by decide)
          ·replace c90 := Bool.eq_false_iff.mpr c90
           subst c90
           have H1 : ((laws_markInt64A2S.f kj67 t411 1).bind fun bt430 => ((laws_heldInt64A2S.f kj67 bt430.2 1).bind fun t432 => (if t432 < 0 then (some false) else (if t432 = bt430.1 then ((laws_toRope.f kj67 a0_0 l0_1).bind fun bt433 => ((laws_toHoldS.f kj67 l1).bind fun t437 => ((laws_toSaid.f a2_0 a2_1).bind fun bt440 => ((impl_SwappedBy.f kj67 bt433.1 bt433.2 t437 bt440.1 bt440.2).bind fun bt442 => ((laws_eqInt64A2S.f kj67 bt442.1 t397).bind fun t446 => (if t446 = true then (laws_FnExactSwappedBy.j2 kj67 bt430.2 bt430.1 (bt442.2 != t400)) else (laws_FnExactSwappedBy.j2 kj67 bt430.2 bt430.1 true))))))) else (some false))))) = some r := by rw [if_neg (show ¬ (false = true) by decide)] at H; exact H
           clear H
           have H := H1
           clear H1
           replace H := Option.bind_eq_some_iff.mp H
           obtain ⟨⟨t430, t431⟩, A910, H⟩ := H
           replace H : ((laws_heldInt64A2S.f kj67 t431 1).bind fun t432 => (if t432 < 0 then (some false) else (if t432 = t430 then ((laws_toRope.f kj67 a0_0 l0_1).bind fun bt433 => ((laws_toHoldS.f kj67 l1).bind fun t437 => ((laws_toSaid.f a2_0 a2_1).bind fun bt440 => ((impl_SwappedBy.f kj67 bt433.1 bt433.2 t437 bt440.1 bt440.2).bind fun bt442 => ((laws_eqInt64A2S.f kj67 bt442.1 t397).bind fun t446 => (if t446 = true then (laws_FnExactSwappedBy.j2 kj67 t431 t430 (bt442.2 != t400)) else (laws_FnExactSwappedBy.j2 kj67 t431 t430 true))))))) else (some false)))) = some r := H
           have A91 := Aside0.mk A910
           clear A910
           replace H := Option.bind_eq_some_iff.mp H
           obtain ⟨t432, A920, H⟩ := H
           replace H : (if t432 < 0 then (some false) else (if t432 = t430 then ((laws_toRope.f kj67 a0_0 l0_1).bind fun bt433 => ((laws_toHoldS.f kj67 l1).bind fun t437 => ((laws_toSaid.f a2_0 a2_1).bind fun bt440 => ((impl_SwappedBy.f kj67 bt433.1 bt433.2 t437 bt440.1 bt440.2).bind fun bt442 => ((laws_eqInt64A2S.f kj67 bt442.1 t397).bind fun t446 => (if t446 = true then (laws_FnExactSwappedBy.j2 kj67 t431 t430 (bt442.2 != t400)) else (laws_FnExactSwappedBy.j2 kj67 t431 t430 true))))))) else (some false))) = some r := H
           have A92 := Aside0.mk A920
           clear A920
           by_cases c93 : t432 < 0
           ·rw [if_pos c93] at H
            have c93b0 : decide (t432 < 0) = true := decide_eq_true c93
            clear c93
            exact absurd ((Option.some.inj H).trans HT.out) (by decide)
           ·rw [if_neg c93] at H
            have c93b0 : decide (t432 < 0) = false := decide_eq_false c93
            clear c93
            by_cases c94 : t432 = t430
            ·rw [if_pos c94] at H
             have c94b0 : (t432 == t430) = true := beq_iff_eq.mpr c94
             have c94b1 : (t432 != t430) = false := bne_eq_false_iff_eq.mpr c94
             clear c94
             replace H := Option.bind_eq_some_iff.mp H
             obtain ⟨⟨t433, t434⟩, A950, H⟩ := H
             replace H : ((laws_toHoldS.f kj67 l1).bind fun t437 => ((laws_toSaid.f a2_0 a2_1).bind fun bt440 => ((impl_SwappedBy.f kj67 t433 t434 t437 bt440.1 bt440.2).bind fun bt442 => ((laws_eqInt64A2S.f kj67 bt442.1 t397).bind fun t446 => (if t446 = true then (laws_FnExactSwappedBy.j2 kj67 t431 t430 (bt442.2 != t400)) else (laws_FnExactSwappedBy.j2 kj67 t431 t430 true)))))) = some r := H
             have A95 := Aside0.mk A950
             clear A950
             replace H := Option.bind_eq_some_iff.mp H
             obtain ⟨t437, A960, H⟩ := H
             replace H : ((laws_toSaid.f a2_0 a2_1).bind fun bt440 => ((impl_SwappedBy.f kj67 t433 t434 t437 bt440.1 bt440.2).bind fun bt442 => ((laws_eqInt64A2S.f kj67 bt442.1 t397).bind fun t446 => (if t446 = true then (laws_FnExactSwappedBy.j2 kj67 t431 t430 (bt442.2 != t400)) else (laws_FnExactSwappedBy.j2 kj67 t431 t430 true))))) = some r := H
             have A96 := Aside0.mk A960
             clear A960
             replace H := Option.bind_eq_some_iff.mp H
             obtain ⟨⟨t440, t441⟩, A970, H⟩ := H
             replace H : ((impl_SwappedBy.f kj67 t433 t434 t437 t440 t441).bind fun bt442 => ((laws_eqInt64A2S.f kj67 bt442.1 t397).bind fun t446 => (if t446 = true then (laws_FnExactSwappedBy.j2 kj67 t431 t430 (bt442.2 != t400)) else (laws_FnExactSwappedBy.j2 kj67 t431 t430 true)))) = some r := H
             have A97 := Aside0.mk A970
             clear A970
             replace H := Option.bind_eq_some_iff.mp H
             obtain ⟨⟨t442, t445⟩, A980, H⟩ := H
             replace H : ((laws_eqInt64A2S.f kj67 t442 t397).bind fun t446 => (if t446 = true then (laws_FnExactSwappedBy.j2 kj67 t431 t430 (t445 != t400)) else (laws_FnExactSwappedBy.j2 kj67 t431 t430 true))) = some r := H
             have A98 := Aside0.mk A980
             clear A980
             have HC99 := Aside0.mk H
             clear H
             obtain ⟨Ao100, co100, eo100⟩ := Kd.R_slice HO_12.out
             subst eo100
             try go_wp2_with (first | ((with_reducible refine gate_callee (f := 21) rfl ?_); refine goesL_ (some 91) rfl rfl Try.func21 (by kernel_rfl) rfl #[.slice Ao100 t411.length co100, .int .i64 1] rfl (by (try simp only [List.map_toArray, List.map_cons, List.map_nil]); first | done | rfl | (simp only [List.length_drop, List.length_take]; rfl)) ?_; (with_reducible refine (laws_markInt64A2S.calls kj67 (fun k_ => some k_ = (.slice Ao100 t411.length co100 : Value).ownBlock) (.slice Ao100 t411.length co100) t411 1 t430 t431 w _ ?side1 ?side2 A91.out).mono ?_); (case side1 => repeat (first | (with_reducible first | exact HB.out | apply below_alloc | apply pw_below_drewN | apply below_drew1 | refine below_set ?_ GE384.out | refine below_set ?_ GE385.out | refine below_set ?_ GE405.out) | exact HB.out)); (case side2 => exact Kd.R_tight rfl HO_12.out); rintro e w101 ⟨rfl, hy0, hb, hkp⟩; refine ⟨_, rfl, ?_⟩; have n0_ := Aside0.mk (Kd.R_mono (ok' := fun k_ => some k_ ≠ (.slice Ao100 t411.length co100 : Value).ownBlock) (Kd.R_keptB (HO_8.out) hkp (fun k_ hk_ hs_ => (hk_) hs_)) (fun k_ hk_ => hk_.1)); have n1_ := Aside0.mk (Kd.R_reok rfl hy0 (fun k_ e_ => HO_12.out.1 k_ e_)); have n2_ := Aside0.mk (Kd.R_mono (ok' := fun k_ => True) (Kd.R_keptB ((Kd.R_apart' HO_406001.out (Kd.R_typed HO_12.out) (by decide))) hkp (fun k_ hk_ hs_ => (hk_.2) hs_)) (fun k_ hk_ => trivial)); have n3_ := Aside0.mk (blk_kept (by (with_reducible repeat (first | refine blk_drewN ?_ _ | refine blk_drew ?_ | refine blk_alloc ?_ _)); exact BK384.out) hkp (fun hs_ => (fun e_ => (Kd.R_ne HO_12.out BK384.out (by decide)) e_) hs_)); have n4_ := Aside0.mk (blk_kept (by (with_reducible repeat (first | refine blk_drewN ?_ _ | refine blk_drew ?_ | refine blk_alloc ?_ _)); exact BK385.out) hkp (fun hs_ => (fun e_ => (Kd.R_ne HO_12.out BK385.out (by decide)) e_) hs_)); have n5_ := Aside0.mk (blk_kept (by (with_reducible repeat (first | refine blk_drewN ?_ _ | refine blk_drew ?_ | refine blk_alloc ?_ _)); exact BK405.out) hkp (fun hs_ => (fun e_ => (Kd.R_ne HO_12.out BK405.out (by decide)) e_) hs_)); have n6_ := Aside0.mk (hb); clear HO_8; clear HO_12; clear HO_406001; clear BK384; clear BK385; clear BK405; clear HB; have HO_8 := n0_; have HO_12 := n1_; have HO_406001 := n2_; have BK384 := n3_; have BK385 := n4_; have BK405 := n5_; have HB := n6_; clear n0_ n1_ n2_ n3_ n4_ n5_ n6_; (try clear hb); (try clear hkp); (try clear hy0)) | ((with_reducible refine gate_callee (f := 22) rfl ?_); refine goesL_ (some 94) rfl rfl Try.func22 (by kernel_rfl) rfl #[.slice Ao100 t431.length co100, .int .i64 1] rfl (by (try simp only [List.map_toArray, List.map_cons, List.map_nil]); first | done | (rw [show t431.length = t411.length from (Kd.R_reads' HO_12.out).1.symm] <;> rfl) | rfl | (simp only [List.length_drop, List.length_take]; rfl)) ?_; (with_reducible refine (laws_heldInt64A2S.calls kj67 _ _ t431 1 t432 _ ?side1 ?side2 A92.out).mono ?_); (case side1 => repeat (first | exact (Kd.R_reads' HO_12.out).2.2 | (with_reducible refine Kd.C_alloc ?_ _) | (with_reducible refine Kd.C_drewN ?_ _) | (with_reducible refine Kd.C_drew ?_))); (case side2 => rw [show t431.length = t411.length from (Kd.R_reads' HO_12.out).1.symm]; exact (Kd.R_reads' HO_12.out).2.1); rintro e w' ⟨rfl, ⟨nd, rfl⟩⟩; refine ⟨_, rfl, ?_⟩))
             (try (rw [drewN_self w101]; generalize hq_ : World.drewN w101 _ = w101; have n0_ : Aside0 (Kd.R k68 68 w101 w.heap.size (fun k_ => some k_ ≠ (v398 : Value).ownBlock) (.slice Ao100 t411.length co100) t431) := ⟨by rw [← hq_]; exact (by (with_reducible repeat (first | apply Kd.R_alloc | apply Kd.R_drewN | apply Kd.R_drew)); exact HO_12.out)⟩; have n1_ : Aside0 (Kd.R (Kd.int .i16) 22 w101 w.heap.size (fun _ => True) (.slice Ao45 t426.length co45) t426) := ⟨by rw [← hq_]; exact (by (with_reducible repeat (first | apply Kd.R_alloc | apply Kd.R_drewN | apply Kd.R_drew)); exact HO_406001.out)⟩; have n2_ : Aside0 (Kd.R k68 68 w101 w.heap.size (fun k_ => some k_ ≠ (.slice Ao100 t411.length co100 : Value).ownBlock) v398 t397) := ⟨by rw [← hq_]; exact (by (with_reducible repeat (first | apply Kd.R_alloc | apply Kd.R_drewN | apply Kd.R_drew)); exact HO_8.out)⟩; have n3_ : Aside0 (w101.heap[gb384]? = some (.cells #[.int .i16 a0_0, .slice A0_1 l0_1.length c0_1] 25 (0, 0))) := ⟨by rw [← hq_]; exact (by (with_reducible repeat (first | refine blk_drewN ?_ _ | refine blk_drew ?_ | refine blk_alloc ?_ _)); exact BK384.out)⟩; have n4_ : Aside0 (w101.heap[gb385]? = some (.cells #[.int .i64 a2_0, .int .i64 a2_1] 46 (0, 0))) := ⟨by rw [← hq_]; exact (by (with_reducible repeat (first | refine blk_drewN ?_ _ | refine blk_drew ?_ | refine blk_alloc ?_ _)); exact BK385.out)⟩; have n5_ : Aside0 (w101.heap[gb405]? = some (.cells #[.int .i16 t401, .slice Ao45 t426.length co45] 35 (0, 0))) := ⟨by rw [← hq_]; exact (by (with_reducible repeat (first | refine blk_drewN ?_ _ | refine blk_drew ?_ | refine blk_alloc ?_ _)); exact BK405.out)⟩; have n6_ : Aside0 (Below w.heap.size w w101) := ⟨by rw [← hq_]; exact (by repeat (first | (with_reducible first | exact HB.out | apply below_alloc | apply pw_below_drewN | apply below_drew1 | refine below_set ?_ GE384.out | refine below_set ?_ GE385.out | refine below_set ?_ GE405.out) | exact HB.out))⟩; clear HO_12 HO_406001 HO_8 BK384 BK385 BK405 HB hq_; have HO_12 := n0_; have HO_406001 := n1_; have HO_8 := n2_; have BK384 := n3_; have BK385 := n4_; have BK405 := n5_; have HB := n6_; clear n0_ n1_ n2_ n3_ n4_ n5_ n6_))
             have n0_ := Aside0.mk (Kd.R_drew HO_8.out)
             have n1_ := Aside0.mk (Kd.R_drew HO_12.out)
             have n2_ := Aside0.mk (Kd.R_drew HO_406001.out)
             have n3_ := Aside0.mk (blk_drew BK384.out)
             have n4_ := Aside0.mk (blk_drew BK385.out)
             have n5_ := Aside0.mk (blk_drew BK405.out)
             have n6_ := Aside0.mk (below_drew1 HB.out)
             clear HO_8
             clear HO_12
             clear HO_406001
             clear BK384
             clear BK385
             clear BK405
             clear HB
             have HO_8 := n0_
             have HO_12 := n1_
             have HO_406001 := n2_
             have BK384 := n3_
             have BK385 := n4_
             have BK405 := n5_
             have HB := n6_
             clear n0_ n1_ n2_ n3_ n4_ n5_ n6_
             refine start_ (n := 12) (S := fun w' => w'.cell? ⟨gb384, 0, none⟩ = some (.int .i16 a0_0) ∧ w'.cell? ⟨gb384, 1, none⟩ = some (.slice A0_1 l0_1.length c0_1) ∧ w'.cell? ⟨gb385, 0, none⟩ = some (.int .i64 a2_0) ∧ w'.cell? ⟨gb385, 1, none⟩ = some (.int .i64 a2_1)) (ds := []) #[false, false, false, false, false, false, false, false, false, false, false, false] (by kernel_rfl) rfl rfl ⟨(blk_cell BK384.out 0).trans rfl, (blk_cell BK384.out 1).trans rfl, (blk_cell BK385.out 0).trans rfl, (blk_cell BK385.out 1).trans rfl⟩ (fun hHeld => ?_); refine with_tabW laws_FnExactSwappedBy.tab31 laws_FnExactSwappedBy.bits31 (fun HT_ HW_ => ?_)
             generalize w101.drew = w102 at HO_8 HO_12 HO_406001 BK384 BK385 BK405 HB hHeld ⊢
             refine pure_ (i := 2) (N := some 103) (v := ?_) (a' := ?_) #[false, false, true, false, false, false, false, false, false, false, false, false] rfl rfl (any_of HT_.out (by kernel_rfl)) (fun _ _ _ h => h) (Or.inl ⟨by rfl, ?_⟩) ?_ ?_
             rotate_left
             ·intro w'
              go_simp
              with_reducible rfl
             rotate_left
             ·simp only [Act.put, List.setIfInBounds_toArray, List.set_cons_zero, List.set_cons_succ, i64_w, i32_w]
              rfl
             refine take_ (i := 0) (N := some 101) (v := ?_) (a' := ?_) #[true, false, true, false, false, false, false, false, false, false, false, false] rfl rfl (take_ofW HT_.out HW_.out (by kernel_rfl)) (fun _ _ _ h => h) (Or.inl ⟨by rfl, ?_⟩) hHeld ?_ ?_
             rotate_left
             ·rintro w' ⟨s0, s1, s2, s3⟩
              go_simp
              with_reducible rfl
             rotate_left
             ·simp only [Act.put, List.setIfInBounds_toArray, List.set_cons_zero, List.set_cons_succ, i64_w, i32_w]
              rfl
             refine take_ (i := 4) (N := some 105) (v := ?_) (a' := ?_) #[true, false, true, false, true, false, false, false, false, false, false, false] rfl rfl (take_ofW HT_.out HW_.out (by kernel_rfl)) (fun _ _ _ h => h) (Or.inl ⟨by rfl, ?_⟩) hHeld ?_ ?_
             rotate_left
             ·rintro w' ⟨s0, s1, s2, s3⟩
              go_simp
              with_reducible rfl
             rotate_left
             ·simp only [Act.put, List.setIfInBounds_toArray, List.set_cons_zero, List.set_cons_succ, i64_w, i32_w]
              rfl
             refine one_ (i := 1) (N := some 102) #[true, true, true, false, true, false, false, false, false, false, false, false] rfl rfl (one_of HT_.out (by kernel_rfl)) (by decide) (fun K hK => ?_)
             refine goes_ Try.func8 (by kernel_rfl) rfl #[.agg #[.int .i16 a0_0, .slice A0_1 l0_1.length c0_1]] (by rfl) rfl rfl (by (try simp only [List.map_toArray, List.map_cons, List.map_nil]); first | done | rfl | (simp only [List.length_drop, List.length_take]; rfl)) ?_
             with_reducible refine (laws_toRope.calls kj67 a0_0 _ _ l0_1 t433 t434 _ ?side1 ?side2 A95.out).mono ?_
             (case side1 => repeat (first | exact (Kd.C_below HR0_1.out HB.out) | (with_reducible refine Kd.C_alloc ?_ _) | (with_reducible refine Kd.C_drewN ?_ _) | (with_reducible refine Kd.C_drew ?_)))
             (case side2 => exact HC0_1.out)
             rintro e w103 ⟨v435, rfl, ho0, hb⟩
             refine ⟨_, rfl, ?_⟩
             have n0_ := Aside0.mk (Kd.R_below (by (with_reducible repeat (first | apply Kd.R_alloc | apply Kd.R_drewN | apply Kd.R_drew)); exact HO_8.out) hb)
             have n1_ := Aside0.mk (Kd.R_below (by (with_reducible repeat (first | apply Kd.R_alloc | apply Kd.R_drewN | apply Kd.R_drew)); exact HO_12.out) hb)
             have n2_ := Aside0.mk (Kd.R_elder' (by (with_reducible repeat (first | apply Kd.R_alloc | apply Kd.R_drewN | apply Kd.R_drew)); exact HO_406001.out) (Kd.R_base ho0) hb)
             have n3_ := Aside0.mk (Kd.R_lower (Kd.R_new' ho0 (Kd.R_lt (by (with_reducible repeat (first | apply Kd.R_alloc | apply Kd.R_drewN | apply Kd.R_drew)); exact HO_406001.out))) (below_size (by repeat (first | (with_reducible first | exact HB.out | apply below_alloc | apply pw_below_drewN | apply below_drew1 | refine below_set ?_ GE384.out | refine below_set ?_ GE385.out | refine below_set ?_ GE405.out) | exact HB.out))))
             have n4_ := Aside0.mk (blk_below (g := gb384) (o := .cells #[.int .i16 a0_0, .slice A0_1 l0_1.length c0_1] 25 (0, 0)) (by (with_reducible repeat (first | refine blk_drewN ?_ _ | refine blk_drew ?_ | refine blk_alloc ?_ _)); exact BK384.out) hb)
             have n5_ := Aside0.mk (blk_below (g := gb385) (o := .cells #[.int .i64 a2_0, .int .i64 a2_1] 46 (0, 0)) (by (with_reducible repeat (first | refine blk_drewN ?_ _ | refine blk_drew ?_ | refine blk_alloc ?_ _)); exact BK385.out) hb)
             have n6_ := Aside0.mk (blk_below (g := gb405) (o := .cells #[.int .i16 t401, .slice Ao45 t426.length co45] 35 (0, 0)) (by (with_reducible repeat (first | refine blk_drewN ?_ _ | refine blk_drew ?_ | refine blk_alloc ?_ _)); exact BK405.out) hb)
             have n7_ := Aside0.mk (below_step (by repeat (first | (with_reducible first | exact HB.out | apply below_alloc | apply pw_below_drewN | apply below_drew1 | refine below_set ?_ GE384.out | refine below_set ?_ GE385.out | refine below_set ?_ GE405.out) | exact HB.out)) hb)
             clear HO_8
             clear HO_12
             clear HO_406001
             clear BK384
             clear BK385
             clear BK405
             clear HB
             have HO_8 := n0_
             have HO_12 := n1_
             have HO_406001 := n2_
             have HO436 := n3_
             have BK384 := n4_
             have BK385 := n5_
             have BK405 := n6_
             have HB := n7_
             clear n0_ n1_ n2_ n3_ n4_ n5_ n6_ n7_
             (try clear hb)
             (try clear hb2)
             (try clear hk)
             (try clear hi)
             (try clear ho0)
             refine hK.out _ _ ⟨(blk_cell BK384.out 0).trans rfl, (blk_cell BK384.out 1).trans rfl, (blk_cell BK385.out 0).trans rfl, (blk_cell BK385.out 1).trans rfl⟩ (fun hHeld => ?_)
             clear hK K
             refine norm_ (a' := ?_) ?_ ?_
             rotate_left
             ·show Act.put _ (some 102) _ = _
              simp only [Act.put, List.setIfInBounds_toArray, List.set_cons_zero, List.set_cons_succ, i64_w, i32_w]
              rfl
             refine one_ (i := 3) (N := some 104) #[true, true, true, true, true, false, false, false, false, false, false, false] rfl rfl (one_of HT_.out (by kernel_rfl)) (by decide) (fun K hK => ?_)
             refine goes_ Try.func9 (by kernel_rfl) rfl #[.slice A1 l1.length c1] (by rfl) rfl rfl (by (try simp only [List.map_toArray, List.map_cons, List.map_nil]); first | done | rfl | (simp only [List.length_drop, List.length_take]; rfl)) ?_
             with_reducible refine (laws_toHoldS.calls kj67 _ _ l1 t437 _ ?side1 ?side2 A96.out).mono ?_
             (case side1 => repeat (first | exact (Kd.C_below HR1.out HB.out) | (with_reducible refine Kd.C_alloc ?_ _) | (with_reducible refine Kd.C_drewN ?_ _) | (with_reducible refine Kd.C_drew ?_)))
             (case side2 => exact HC1.out)
             rintro e w104 ⟨v438, rfl, ho0, hb⟩
             refine ⟨_, rfl, ?_⟩
             have n0_ := Aside0.mk (Kd.R_below (by (with_reducible repeat (first | apply Kd.R_alloc | apply Kd.R_drewN | apply Kd.R_drew)); exact HO_8.out) hb)
             have n1_ := Aside0.mk (Kd.R_below (by (with_reducible repeat (first | apply Kd.R_alloc | apply Kd.R_drewN | apply Kd.R_drew)); exact HO_12.out) hb)
             have n2_ := Aside0.mk (Kd.R_below (by (with_reducible repeat (first | apply Kd.R_alloc | apply Kd.R_drewN | apply Kd.R_drew)); exact HO_406001.out) hb)
             have n3_ := Aside0.mk (Kd.R_below (by (with_reducible repeat (first | apply Kd.R_alloc | apply Kd.R_drewN | apply Kd.R_drew)); exact HO436.out) hb)
             have n4_ := Aside0.mk (Kd.R_lower ho0 (below_size (by repeat (first | (with_reducible first | exact HB.out | apply below_alloc | apply pw_below_drewN | apply below_drew1 | refine below_set ?_ GE384.out | refine below_set ?_ GE385.out | refine below_set ?_ GE405.out) | exact HB.out))))
             have n5_ := Aside0.mk (blk_below (g := gb384) (o := .cells #[.int .i16 a0_0, .slice A0_1 l0_1.length c0_1] 25 (0, 0)) (by (with_reducible repeat (first | refine blk_drewN ?_ _ | refine blk_drew ?_ | refine blk_alloc ?_ _)); exact BK384.out) hb)
             have n6_ := Aside0.mk (blk_below (g := gb385) (o := .cells #[.int .i64 a2_0, .int .i64 a2_1] 46 (0, 0)) (by (with_reducible repeat (first | refine blk_drewN ?_ _ | refine blk_drew ?_ | refine blk_alloc ?_ _)); exact BK385.out) hb)
             have n7_ := Aside0.mk (blk_below (g := gb405) (o := .cells #[.int .i16 t401, .slice Ao45 t426.length co45] 35 (0, 0)) (by (with_reducible repeat (first | refine blk_drewN ?_ _ | refine blk_drew ?_ | refine blk_alloc ?_ _)); exact BK405.out) hb)
             have n8_ := Aside0.mk (below_step (by repeat (first | (with_reducible first | exact HB.out | apply below_alloc | apply pw_below_drewN | apply below_drew1 | refine below_set ?_ GE384.out | refine below_set ?_ GE385.out | refine below_set ?_ GE405.out) | exact HB.out)) hb)
             clear HO_8
             clear HO_12
             clear HO_406001
             clear HO436
             clear BK384
             clear BK385
             clear BK405
             clear HB
             have HO_8 := n0_
             have HO_12 := n1_
             have HO_406001 := n2_
             have HO436 := n3_
             have HO439 := n4_
             have BK384 := n5_
             have BK385 := n6_
             have BK405 := n7_
             have HB := n8_
             clear n0_ n1_ n2_ n3_ n4_ n5_ n6_ n7_ n8_
             (try clear hb)
             (try clear hb2)
             (try clear hk)
             (try clear hi)
             (try clear ho0)
             refine hK.out _ _ ⟨(blk_cell BK384.out 0).trans rfl, (blk_cell BK384.out 1).trans rfl, (blk_cell BK385.out 0).trans rfl, (blk_cell BK385.out 1).trans rfl⟩ (fun hHeld => ?_)
             clear hK K
             refine norm_ (a' := ?_) ?_ ?_
             rotate_left
             ·show Act.put _ (some 104) _ = _
              simp only [Act.put, List.setIfInBounds_toArray, List.set_cons_zero, List.set_cons_succ, i64_w, i32_w]
              rfl
             refine one_ (i := 5) (N := some 106) #[true, true, true, true, true, true, false, false, false, false, false, false] rfl rfl (one_of HT_.out (by kernel_rfl)) (by decide) (fun K hK => ?_)
             refine goes_ Try.func18 (by kernel_rfl) rfl #[.agg #[.int .i64 a2_0, .int .i64 a2_1]] (by rfl) rfl rfl (by (try simp only [List.map_toArray, List.map_cons, List.map_nil]); first | done | rfl | (simp only [List.length_drop, List.length_take]; rfl)) ?_
             with_reducible refine (laws_toSaid.calls a2_0 a2_1 t440 t441 _ A97.out).mono ?_
             rintro e w105 ⟨rfl, hb⟩
             refine ⟨_, rfl, ?_⟩
             have n0_ := Aside0.mk (Kd.R_below (by (with_reducible repeat (first | apply Kd.R_alloc | apply Kd.R_drewN | apply Kd.R_drew)); exact HO_8.out) hb)
             have n1_ := Aside0.mk (Kd.R_below (by (with_reducible repeat (first | apply Kd.R_alloc | apply Kd.R_drewN | apply Kd.R_drew)); exact HO_12.out) hb)
             have n2_ := Aside0.mk (Kd.R_below (by (with_reducible repeat (first | apply Kd.R_alloc | apply Kd.R_drewN | apply Kd.R_drew)); exact HO_406001.out) hb)
             have n3_ := Aside0.mk (Kd.R_below (by (with_reducible repeat (first | apply Kd.R_alloc | apply Kd.R_drewN | apply Kd.R_drew)); exact HO436.out) hb)
             have n4_ := Aside0.mk (Kd.R_below (by (with_reducible repeat (first | apply Kd.R_alloc | apply Kd.R_drewN | apply Kd.R_drew)); exact HO439.out) hb)
             have n5_ := Aside0.mk (blk_below (g := gb384) (o := .cells #[.int .i16 a0_0, .slice A0_1 l0_1.length c0_1] 25 (0, 0)) (by (with_reducible repeat (first | refine blk_drewN ?_ _ | refine blk_drew ?_ | refine blk_alloc ?_ _)); exact BK384.out) hb)
             have n6_ := Aside0.mk (blk_below (g := gb385) (o := .cells #[.int .i64 a2_0, .int .i64 a2_1] 46 (0, 0)) (by (with_reducible repeat (first | refine blk_drewN ?_ _ | refine blk_drew ?_ | refine blk_alloc ?_ _)); exact BK385.out) hb)
             have n7_ := Aside0.mk (blk_below (g := gb405) (o := .cells #[.int .i16 t401, .slice Ao45 t426.length co45] 35 (0, 0)) (by (with_reducible repeat (first | refine blk_drewN ?_ _ | refine blk_drew ?_ | refine blk_alloc ?_ _)); exact BK405.out) hb)
             have n8_ := Aside0.mk (below_step (by repeat (first | (with_reducible first | exact HB.out | apply below_alloc | apply pw_below_drewN | apply below_drew1 | refine below_set ?_ GE384.out | refine below_set ?_ GE385.out | refine below_set ?_ GE405.out) | exact HB.out)) hb)
             clear HO_8
             clear HO_12
             clear HO_406001
             clear HO436
             clear HO439
             clear BK384
             clear BK385
             clear BK405
             clear HB
             have HO_8 := n0_
             have HO_12 := n1_
             have HO_406001 := n2_
             have HO436 := n3_
             have HO439 := n4_
             have BK384 := n5_
             have BK385 := n6_
             have BK405 := n7_
             have HB := n8_
             clear n0_ n1_ n2_ n3_ n4_ n5_ n6_ n7_ n8_
             (try clear hb)
             (try clear hb2)
             (try clear hk)
             (try clear hi)
             obtain ⟨Ao106, co106, eo106⟩ := Kd.R_slice HO436.out
             (first | subst eo106 | (injection eo106 with f1_ f2_ f3_; have f4_ := f1_.symm; have f5_ := f3_.symm; clear f1_ f2_ f3_; subst f4_; subst f5_))
             obtain ⟨Ao107, co107, eo107⟩ := Kd.R_slice HO439.out
             (first | subst eo107 | (injection eo107 with f1_ f2_ f3_; have f4_ := f1_.symm; have f5_ := f3_.symm; clear f1_ f2_ f3_; subst f4_; subst f5_))
             refine hK.out _ _ ⟨(blk_cell BK384.out 0).trans rfl, (blk_cell BK384.out 1).trans rfl, (blk_cell BK385.out 0).trans rfl, (blk_cell BK385.out 1).trans rfl⟩ (fun hHeld => ?_)
             clear hK K
             refine norm_ (a' := ?_) ?_ ?_
             rotate_left
             ·show Act.put _ (some 106) _ = _
              simp only [Act.put, List.setIfInBounds_toArray, List.set_cons_zero, List.set_cons_succ, i64_w, i32_w]
              rfl
             refine one_ (i := 6) (N := some 107) #[true, true, true, true, true, true, true, false, false, false, false, false] rfl rfl (one_of HT_.out (by kernel_rfl)) (by decide) (fun K hK => ?_)
             refine goes_ Try.func19 (by kernel_rfl) rfl #[.agg #[.int .i16 t433, .slice Ao106 t434.length co106], .slice Ao107 t437.length co107, .agg #[.int .i64 t440, .int .i64 t441]] (by rfl) rfl rfl (by (try simp only [List.map_toArray, List.map_cons, List.map_nil]); first | done | rfl | (simp only [List.length_drop, List.length_take]; rfl)) ?_
             with_reducible refine (impl_SwappedBy.calls kj67 t433 _ _ t434 _ _ t437 t440 t441 t442 t445 _ ?side1 ?side2 ?side3 ?side4 A98.out).mono ?_
             (case side1 => repeat (first | exact (Kd.R_reads' HO436.out).2.2 | (with_reducible refine Kd.C_alloc ?_ _) | (with_reducible refine Kd.C_drewN ?_ _) | (with_reducible refine Kd.C_drew ?_)))
             (case side2 => exact (Kd.R_reads' HO436.out).2.1)
             (case side3 => repeat (first | exact (Kd.R_reads' HO439.out).2.2 | (with_reducible refine Kd.C_alloc ?_ _) | (with_reducible refine Kd.C_drewN ?_ _) | (with_reducible refine Kd.C_drew ?_)))
             (case side4 => exact (Kd.R_reads' HO439.out).2.1)
             rintro e w108 ⟨v443, rfl, ho0, hb⟩
             refine ⟨_, rfl, ?_⟩
             have n0_ := Aside0.mk (Kd.R_elder' (by (with_reducible repeat (first | apply Kd.R_alloc | apply Kd.R_drewN | apply Kd.R_drew)); exact HO_8.out) (Kd.R_base ho0) hb)
             have n1_ := Aside0.mk (Kd.R_elder' (by (with_reducible repeat (first | apply Kd.R_alloc | apply Kd.R_drewN | apply Kd.R_drew)); exact HO_12.out) (Kd.R_base ho0) hb)
             have n2_ := Aside0.mk (Kd.R_below (by (with_reducible repeat (first | apply Kd.R_alloc | apply Kd.R_drewN | apply Kd.R_drew)); exact HO_406001.out) hb)
             have n3_ := Aside0.mk (Kd.R_below (by (with_reducible repeat (first | apply Kd.R_alloc | apply Kd.R_drewN | apply Kd.R_drew)); exact HO436.out) hb)
             have n4_ := Aside0.mk (Kd.R_below (by (with_reducible repeat (first | apply Kd.R_alloc | apply Kd.R_drewN | apply Kd.R_drew)); exact HO439.out) hb)
             have n5_ := Aside0.mk (Kd.R_lower (Kd.R_new' (Kd.R_new' ho0 (Kd.R_lt (by (with_reducible repeat (first | apply Kd.R_alloc | apply Kd.R_drewN | apply Kd.R_drew)); exact HO_8.out))) (Kd.R_lt (by (with_reducible repeat (first | apply Kd.R_alloc | apply Kd.R_drewN | apply Kd.R_drew)); exact HO_12.out))) (below_size (by repeat (first | (with_reducible first | exact HB.out | apply below_alloc | apply pw_below_drewN | apply below_drew1 | refine below_set ?_ GE384.out | refine below_set ?_ GE385.out | refine below_set ?_ GE405.out) | exact HB.out))))
             have n6_ := Aside0.mk (blk_below (g := gb384) (o := .cells #[.int .i16 a0_0, .slice A0_1 l0_1.length c0_1] 25 (0, 0)) (by (with_reducible repeat (first | refine blk_drewN ?_ _ | refine blk_drew ?_ | refine blk_alloc ?_ _)); exact BK384.out) hb)
             have n7_ := Aside0.mk (blk_below (g := gb385) (o := .cells #[.int .i64 a2_0, .int .i64 a2_1] 46 (0, 0)) (by (with_reducible repeat (first | refine blk_drewN ?_ _ | refine blk_drew ?_ | refine blk_alloc ?_ _)); exact BK385.out) hb)
             have n8_ := Aside0.mk (blk_below (g := gb405) (o := .cells #[.int .i16 t401, .slice Ao45 t426.length co45] 35 (0, 0)) (by (with_reducible repeat (first | refine blk_drewN ?_ _ | refine blk_drew ?_ | refine blk_alloc ?_ _)); exact BK405.out) hb)
             have n9_ := Aside0.mk (below_step (by repeat (first | (with_reducible first | exact HB.out | apply below_alloc | apply pw_below_drewN | apply below_drew1 | refine below_set ?_ GE384.out | refine below_set ?_ GE385.out | refine below_set ?_ GE405.out) | exact HB.out)) hb)
             clear HO_8
             clear HO_12
             clear HO_406001
             clear HO436
             clear HO439
             clear BK384
             clear BK385
             clear BK405
             clear HB
             have HO_8 := n0_
             have HO_12 := n1_
             have HO_406001 := n2_
             have HO436 := n3_
             have HO439 := n4_
             have HO444 := n5_
             have BK384 := n6_
             have BK385 := n7_
             have BK405 := n8_
             have HB := n9_
             clear n0_ n1_ n2_ n3_ n4_ n5_ n6_ n7_ n8_ n9_
             (try clear hb)
             (try clear hb2)
             (try clear hk)
             (try clear hi)
             (try clear ho0)
             refine hK.out _ _ ⟨(blk_cell BK384.out 0).trans rfl, (blk_cell BK384.out 1).trans rfl, (blk_cell BK385.out 0).trans rfl, (blk_cell BK385.out 1).trans rfl⟩ (fun hHeld => ?_)
             clear hK K
             refine norm_ (a' := ?_) ?_ ?_
             rotate_left
             ·show Act.put _ (some 107) _ = _
              simp only [Act.put, List.setIfInBounds_toArray, List.set_cons_zero, List.set_cons_succ, i64_w, i32_w]
              rfl
             refine pure_ (i := 7) (N := some 100) (v := ?_) (a' := ?_) #[true, true, true, true, true, true, true, true, false, false, false, false] rfl rfl (any_of HT_.out (by kernel_rfl)) (fun _ _ _ h => h) (Or.inl ⟨by rfl, ?_⟩) ?_ ?_
             rotate_left
             ·intro w'
              go_simp
              with_reducible rfl
             rotate_left
             ·simp only [Act.put, List.setIfInBounds_toArray, List.set_cons_zero, List.set_cons_succ, i64_w, i32_w]
              rfl
             refine pure_ (i := 8) (N := some 108) (v := ?_) (a' := ?_) #[true, true, true, true, true, true, true, true, true, false, false, false] rfl rfl (any_of HT_.out (by kernel_rfl)) (fun _ _ _ h => h) (Or.inl ⟨by rfl, ?_⟩) ?_ ?_
             rotate_left
             ·intro w'
              go_simp
              with_reducible rfl
             rotate_left
             ·simp only [Act.put, List.setIfInBounds_toArray, List.set_cons_zero, List.set_cons_succ, i64_w, i32_w]
              rfl
             refine pure_ (i := 9) (N := some 109) (v := ?_) (a' := ?_) #[true, true, true, true, true, true, true, true, true, true, false, false] rfl rfl (any_of HT_.out (by kernel_rfl)) (fun _ _ _ h => h) (Or.inl ⟨by rfl, ?_⟩) ?_ ?_
             rotate_left
             ·intro w'
              go_simp
              with_reducible rfl
             rotate_left
             ·simp only [Act.put, List.setIfInBounds_toArray, List.set_cons_zero, List.set_cons_succ, i64_w, i32_w]
              rfl
             refine pure_ (i := 10) (N := some 17) (v := ?_) (a' := ?_) #[true, true, true, true, true, true, true, true, true, true, true, false] rfl rfl (any_of HT_.out (by kernel_rfl)) (fun _ _ _ h => h) (Or.inl ⟨by rfl, ?_⟩) ?_ ?_
             rotate_left
             ·intro w'
              go_simp
              with_reducible rfl
             rotate_left
             ·simp only [Act.put, List.setIfInBounds_toArray, List.set_cons_zero, List.set_cons_succ, i64_w, i32_w]
              rfl
             refine pure_ (i := 11) (N := some 18) (v := ?_) (a' := ?_) #[true, true, true, true, true, true, true, true, true, true, true, true] rfl rfl (any_of HT_.out (by kernel_rfl)) (fun _ _ _ h => h) (Or.inl ⟨by rfl, ?_⟩) ?_ ?_
             rotate_left
             ·intro w'
              go_simp
              with_reducible rfl
             rotate_left
             ·simp only [Act.put, List.setIfInBounds_toArray, List.set_cons_zero, List.set_cons_succ, i64_w, i32_w]
              rfl
             refine done_ (done_of HT_.out (by kernel_rfl)) ?_
             go_upto_region 32 with (fail)
             go_cut [118] (fun v118 wc => ∃ (kq : Nat) (x118_98 : Bool), v118 = .bool x118_98 ∧ Aside0 (laws_FnExactSwappedBy.j2 kq t431 t430 x118_98 = some r) ∧ Aside0 (kq ≤ kj67) ∧ Aside0 (Kd.R k68 68 wc w.heap.size (fun _ => True) (.slice Ao100 t411.length co100) t431) ∧ Aside0 (Kd.R (Kd.int .i16) 22 wc w.heap.size (fun _ => True) (.slice Ao45 t426.length co45) t426) ∧ Aside0 (wc.heap[gb384]? = some (.cells #[.int .i16 a0_0, (.slice A0_1 l0_1.length c0_1)] 25 (0, 0))) ∧ Aside0 (wc.heap[gb385]? = some (.cells #[.int .i64 a2_0, .int .i64 a2_1] 46 (0, 0))) ∧ Aside0 (wc.heap[gb405]? = some (.cells #[.int .i16 t401, (.slice Ao45 t426.length co45)] 35 (0, 0))) ∧ Aside0 (Below w.heap.size w wc))
             case first =>
              have H := HC99.out
              clear HC99
              replace H := Option.bind_eq_some_iff.mp H
              obtain ⟨t446, A1090, H⟩ := H
              replace H : (if t446 = true then (laws_FnExactSwappedBy.j2 kj67 t431 t430 (t445 != t400)) else (laws_FnExactSwappedBy.j2 kj67 t431 t430 true)) = some r := H
              have A109 := Aside0.mk A1090
              clear A1090
              by_cases c110 : t446 = true
              ·subst c110
               have H1 : (laws_FnExactSwappedBy.j2 kj67 t431 t430 (t445 != t400)) = some r := by rw [if_pos rfl] at H; exact H
               clear H
               have H := H1
               clear H1
               have H' := Aside0.mk H
               clear H
               obtain ⟨Ao111, co111, eo111⟩ := Kd.R_slice HO444.out
               subst eo111
               obtain ⟨Ao112, co112, eo112⟩ := Kd.R_slice HO_8.out
               subst eo112
               go_wp2_with (first | ((with_reducible refine gate_callee (f := 20) rfl ?_); refine goesL_ (some 112) rfl rfl Try.func20 (by kernel_rfl) rfl #[.slice Ao111 t442.length co111, .slice Ao112 t397.length co112] rfl (by (try simp only [List.map_toArray, List.map_cons, List.map_nil]); first | done | rfl | (simp only [List.length_drop, List.length_take]; rfl)) ?_; (with_reducible refine (laws_eqInt64A2S.calls kj67 _ _ t442 _ _ t397 true _ ?side1 ?side2 ?side3 ?side4 A109.out).mono ?_); (case side1 => repeat (first | exact (Kd.R_reads' HO444.out).2.2 | (with_reducible refine Kd.C_alloc ?_ _) | (with_reducible refine Kd.C_drewN ?_ _) | (with_reducible refine Kd.C_drew ?_))); (case side2 => exact (Kd.R_reads' HO444.out).2.1); (case side3 => repeat (first | exact (Kd.R_reads' HO_8.out).2.2 | (with_reducible refine Kd.C_alloc ?_ _) | (with_reducible refine Kd.C_drewN ?_ _) | (with_reducible refine Kd.C_drew ?_))); (case side4 => exact (Kd.R_reads' HO_8.out).2.1); rintro e w113 ⟨rfl, hb⟩; refine ⟨_, rfl, ?_⟩; have n0_ := Aside0.mk (Kd.R_below (by (with_reducible repeat (first | apply Kd.R_alloc | apply Kd.R_drewN | apply Kd.R_drew)); exact HO_8.out) hb); have n1_ := Aside0.mk (Kd.R_below (by (with_reducible repeat (first | apply Kd.R_alloc | apply Kd.R_drewN | apply Kd.R_drew)); exact HO_12.out) hb); have n2_ := Aside0.mk (Kd.R_below (by (with_reducible repeat (first | apply Kd.R_alloc | apply Kd.R_drewN | apply Kd.R_drew)); exact HO_406001.out) hb); have n3_ := Aside0.mk (Kd.R_below (by (with_reducible repeat (first | apply Kd.R_alloc | apply Kd.R_drewN | apply Kd.R_drew)); exact HO436.out) hb); have n4_ := Aside0.mk (Kd.R_below (by (with_reducible repeat (first | apply Kd.R_alloc | apply Kd.R_drewN | apply Kd.R_drew)); exact HO439.out) hb); have n5_ := Aside0.mk (Kd.R_below (by (with_reducible repeat (first | apply Kd.R_alloc | apply Kd.R_drewN | apply Kd.R_drew)); exact HO444.out) hb); have n6_ := Aside0.mk (blk_below (g := gb384) (o := .cells #[.int .i16 a0_0, .slice A0_1 l0_1.length c0_1] 25 (0, 0)) (by (with_reducible repeat (first | refine blk_drewN ?_ _ | refine blk_drew ?_ | refine blk_alloc ?_ _)); exact BK384.out) hb); have n7_ := Aside0.mk (blk_below (g := gb385) (o := .cells #[.int .i64 a2_0, .int .i64 a2_1] 46 (0, 0)) (by (with_reducible repeat (first | refine blk_drewN ?_ _ | refine blk_drew ?_ | refine blk_alloc ?_ _)); exact BK385.out) hb); have n8_ := Aside0.mk (blk_below (g := gb405) (o := .cells #[.int .i16 t401, .slice Ao45 t426.length co45] 35 (0, 0)) (by (with_reducible repeat (first | refine blk_drewN ?_ _ | refine blk_drew ?_ | refine blk_alloc ?_ _)); exact BK405.out) hb); have n9_ := Aside0.mk (below_step (by repeat (first | (with_reducible first | exact HB.out | apply below_alloc | apply pw_below_drewN | apply below_drew1 | refine below_set ?_ GE384.out | refine below_set ?_ GE385.out | refine below_set ?_ GE405.out) | exact HB.out)) hb); clear HO_8; clear HO_12; clear HO_406001; clear HO436; clear HO439; clear HO444; clear BK384; clear BK385; clear BK405; clear HB; have HO_8 := n0_; have HO_12 := n1_; have HO_406001 := n2_; have HO436 := n3_; have HO439 := n4_; have HO444 := n5_; have BK384 := n6_; have BK385 := n7_; have BK405 := n8_; have HB := n9_; clear n0_ n1_ n2_ n3_ n4_ n5_ n6_ n7_ n8_ n9_; (try clear hb); (try clear hb2); (try clear hk); (try clear hi)))
               go_meet
               case rel => exact ⟨_, ((t445 != t400)), (by first | rfl | (simp; done) | (simp [*]; done)), H', ⟨by have := HJ25.out; have := HJ67.out; first | omega | exact Nat.le_refl _⟩, ⟨by (try simp only [hl406001_67]); (with_reducible repeat (first | apply Kd.R_alloc | apply Kd.R_drewN | apply Kd.R_drew)); exact Kd.R_mono HO_12.out (fun _ hk => trivial)⟩, ⟨by (try simp only [hl406001_67]); (with_reducible repeat (first | apply Kd.R_alloc | apply Kd.R_drewN | apply Kd.R_drew)); exact Kd.R_mono HO_406001.out (fun _ hk => trivial)⟩, ⟨by (try simp only [hl406001_67]); (with_reducible repeat (first | refine blk_drewN ?_ _ | refine blk_drew ?_ | refine blk_alloc ?_ _)); exact BK384.out⟩, ⟨by (try simp only [hl406001_67]); (with_reducible repeat (first | refine blk_drewN ?_ _ | refine blk_drew ?_ | refine blk_alloc ?_ _)); exact BK385.out⟩, ⟨by (try simp only [hl406001_67]); (with_reducible repeat (first | refine blk_drewN ?_ _ | refine blk_drew ?_ | refine blk_alloc ?_ _)); exact BK405.out⟩, ⟨by repeat (first | (with_reducible first | exact HB.out | apply below_alloc | apply pw_below_drewN | apply below_drew1 | refine below_set ?_ GE384.out | refine below_set ?_ GE385.out | refine below_set ?_ GE405.out) | exact HB.out)⟩⟩
              ·replace c110 := Bool.eq_false_iff.mpr c110
               subst c110
               have H1 : (laws_FnExactSwappedBy.j2 kj67 t431 t430 true) = some r := by rw [if_neg (show ¬ (false = true) by decide)] at H; exact H
               clear H
               have H := H1
               clear H1
               have H' := Aside0.mk H
               clear H
               obtain ⟨Ao114, co114, eo114⟩ := Kd.R_slice HO444.out
               subst eo114
               obtain ⟨Ao115, co115, eo115⟩ := Kd.R_slice HO_8.out
               subst eo115
               go_wp2_with (first | ((with_reducible refine gate_callee (f := 20) rfl ?_); refine goesL_ (some 112) rfl rfl Try.func20 (by kernel_rfl) rfl #[.slice Ao114 t442.length co114, .slice Ao115 t397.length co115] rfl (by (try simp only [List.map_toArray, List.map_cons, List.map_nil]); first | done | rfl | (simp only [List.length_drop, List.length_take]; rfl)) ?_; (with_reducible refine (laws_eqInt64A2S.calls kj67 _ _ t442 _ _ t397 false _ ?side1 ?side2 ?side3 ?side4 A109.out).mono ?_); (case side1 => repeat (first | exact (Kd.R_reads' HO444.out).2.2 | (with_reducible refine Kd.C_alloc ?_ _) | (with_reducible refine Kd.C_drewN ?_ _) | (with_reducible refine Kd.C_drew ?_))); (case side2 => exact (Kd.R_reads' HO444.out).2.1); (case side3 => repeat (first | exact (Kd.R_reads' HO_8.out).2.2 | (with_reducible refine Kd.C_alloc ?_ _) | (with_reducible refine Kd.C_drewN ?_ _) | (with_reducible refine Kd.C_drew ?_))); (case side4 => exact (Kd.R_reads' HO_8.out).2.1); rintro e w116 ⟨rfl, hb⟩; refine ⟨_, rfl, ?_⟩; have n0_ := Aside0.mk (Kd.R_below (by (with_reducible repeat (first | apply Kd.R_alloc | apply Kd.R_drewN | apply Kd.R_drew)); exact HO_8.out) hb); have n1_ := Aside0.mk (Kd.R_below (by (with_reducible repeat (first | apply Kd.R_alloc | apply Kd.R_drewN | apply Kd.R_drew)); exact HO_12.out) hb); have n2_ := Aside0.mk (Kd.R_below (by (with_reducible repeat (first | apply Kd.R_alloc | apply Kd.R_drewN | apply Kd.R_drew)); exact HO_406001.out) hb); have n3_ := Aside0.mk (Kd.R_below (by (with_reducible repeat (first | apply Kd.R_alloc | apply Kd.R_drewN | apply Kd.R_drew)); exact HO436.out) hb); have n4_ := Aside0.mk (Kd.R_below (by (with_reducible repeat (first | apply Kd.R_alloc | apply Kd.R_drewN | apply Kd.R_drew)); exact HO439.out) hb); have n5_ := Aside0.mk (Kd.R_below (by (with_reducible repeat (first | apply Kd.R_alloc | apply Kd.R_drewN | apply Kd.R_drew)); exact HO444.out) hb); have n6_ := Aside0.mk (blk_below (g := gb384) (o := .cells #[.int .i16 a0_0, .slice A0_1 l0_1.length c0_1] 25 (0, 0)) (by (with_reducible repeat (first | refine blk_drewN ?_ _ | refine blk_drew ?_ | refine blk_alloc ?_ _)); exact BK384.out) hb); have n7_ := Aside0.mk (blk_below (g := gb385) (o := .cells #[.int .i64 a2_0, .int .i64 a2_1] 46 (0, 0)) (by (with_reducible repeat (first | refine blk_drewN ?_ _ | refine blk_drew ?_ | refine blk_alloc ?_ _)); exact BK385.out) hb); have n8_ := Aside0.mk (blk_below (g := gb405) (o := .cells #[.int .i16 t401, .slice Ao45 t426.length co45] 35 (0, 0)) (by (with_reducible repeat (first | refine blk_drewN ?_ _ | refine blk_drew ?_ | refine blk_alloc ?_ _)); exact BK405.out) hb); have n9_ := Aside0.mk (below_step (by repeat (first | (with_reducible first | exact HB.out | apply below_alloc | apply pw_below_drewN | apply below_drew1 | refine below_set ?_ GE384.out | refine below_set ?_ GE385.out | refine below_set ?_ GE405.out) | exact HB.out)) hb); clear HO_8; clear HO_12; clear HO_406001; clear HO436; clear HO439; clear HO444; clear BK384; clear BK385; clear BK405; clear HB; have HO_8 := n0_; have HO_12 := n1_; have HO_406001 := n2_; have HO436 := n3_; have HO439 := n4_; have HO444 := n5_; have BK384 := n6_; have BK385 := n7_; have BK405 := n8_; have HB := n9_; clear n0_ n1_ n2_ n3_ n4_ n5_ n6_ n7_ n8_ n9_; (try clear hb); (try clear hb2); (try clear hk); (try clear hi)))
               go_meet
               case rel => exact ⟨_, (true), (by first | rfl | (simp; done) | (simp [*]; done)), H', ⟨by have := HJ25.out; have := HJ67.out; first | omega | exact Nat.le_refl _⟩, ⟨by (try simp only [hl406001_67]); (with_reducible repeat (first | apply Kd.R_alloc | apply Kd.R_drewN | apply Kd.R_drew)); exact Kd.R_mono HO_12.out (fun _ hk => trivial)⟩, ⟨by (try simp only [hl406001_67]); (with_reducible repeat (first | apply Kd.R_alloc | apply Kd.R_drewN | apply Kd.R_drew)); exact Kd.R_mono HO_406001.out (fun _ hk => trivial)⟩, ⟨by (try simp only [hl406001_67]); (with_reducible repeat (first | refine blk_drewN ?_ _ | refine blk_drew ?_ | refine blk_alloc ?_ _)); exact BK384.out⟩, ⟨by (try simp only [hl406001_67]); (with_reducible repeat (first | refine blk_drewN ?_ _ | refine blk_drew ?_ | refine blk_alloc ?_ _)); exact BK385.out⟩, ⟨by (try simp only [hl406001_67]); (with_reducible repeat (first | refine blk_drewN ?_ _ | refine blk_drew ?_ | refine blk_alloc ?_ _)); exact BK405.out⟩, ⟨by repeat (first | (with_reducible first | exact HB.out | apply below_alloc | apply pw_below_drewN | apply below_drew1 | refine below_set ?_ GE384.out | refine below_set ?_ GE385.out | refine below_set ?_ GE405.out) | exact HB.out)⟩⟩
             case rest =>
              clear HC99
              try clear c1
              try clear c2
              try clear p2
              try clear c4
              try clear c5
              try clear c5b0
              try clear c6
              try clear c7
              try clear c8
              try clear c9
              try clear c11
              try clear c12
              try clear c12b0
              try clear c13
              try clear c14
              try clear c15
              try clear c17
              try clear c18
              try clear c19
              try clear c20
              try clear c21
              try clear c22
              try clear c29
              try clear c42
              try clear c43
              try clear c52
              try clear c59
              try clear c62
              try clear c65
              try clear c76
              try clear c77
              try clear c81
              try clear c81b0
              try clear c83
              try clear c90
              try clear c93
              try clear c93b0
              try clear c94
              try clear c94b0
              try clear c94b1
              try clear c110
              try clear hcz16_0
              try clear hcz16_1
              try clear hcz30_0
              try clear hcz30_1
              try clear hcz39_0
              try clear hcz39_1
              try clear hcz44_0
              try clear hcz44_1
              try clear hcz78_0
              try clear hcz78_1
              try clear hcz9_0
              try clear hcz9_1
              try clear hfz16_0
              try clear hfz16_1
              try clear hfz30_0
              try clear hfz30_1
              try clear hfz39_0
              try clear hfz39_1
              try clear hfz44_0
              try clear hfz44_1
              try clear hfz78_0
              try clear hfz78_1
              try clear hfz9_0
              try clear hfz9_1
              try clear p2
              obtain ⟨kq, x118_98, rfl, HA, HJ98, HO_12, HO_406001, BK384, BK385, BK405, HB⟩ := hcut
              have hl12_98 := (Kd.R_reads' HO_12.out).1
              rw [hl12_98] at HO_12
              (try simp only [hl12_98])
              (try simp only [hl12_98] at BK384)
              (try simp only [hl12_98] at BK385)
              (try simp only [hl12_98] at BK405)
              (try simp only [hl12_98] at HO_406001)
              cases kq with
              | zero => exact absurd HA.out (by simp [laws_FnExactSwappedBy.j2])
              | succ kj98 =>
               have H := HA.out
               clear HA
               simp only [laws_FnExactSwappedBy.j2] at H
               by_cases c117 : x118_98 = true
               ·subst c117
                have H1 : (some false) = some r := by rw [if_pos rfl] at H; exact H
                clear H
                have H := H1
                clear H1
                exact absurd ((Option.some.inj H).trans HT.out) (by decide)
               ·replace c117 := Bool.eq_false_iff.mpr c117
                subst c117
                have H1 : ((laws_heldInt64A2S.f kj98 t431 1).bind fun t447 => (if t447 < 0 then (some false) else (if t447 = t430 then (some true) else (some false)))) = some r := by rw [if_neg (show ¬ (false = true) by decide)] at H; exact H
                clear H
                have H := H1
                clear H1
                replace H := Option.bind_eq_some_iff.mp H
                obtain ⟨t447, A1180, H⟩ := H
                replace H : (if t447 < 0 then (some false) else (if t447 = t430 then (some true) else (some false))) = some r := H
                have A118 := Aside0.mk A1180
                clear A1180
                by_cases c119 : t447 < 0
                ·rw [if_pos c119] at H
                 have c119b0 : decide (t447 < 0) = true := decide_eq_true c119
                 clear c119
                 exact absurd ((Option.some.inj H).trans HT.out) (by decide)
                ·rw [if_neg c119] at H
                 have c119b0 : decide (t447 < 0) = false := decide_eq_false c119
                 clear c119
                 by_cases c120 : t447 = t430
                 ·rw [if_pos c120] at H
                  have c120b0 : (t447 == t430) = true := beq_iff_eq.mpr c120
                  have c120b1 : (t447 != t430) = false := bne_eq_false_iff_eq.mpr c120
                  clear c120
                  obtain rfl := Option.some.inj H
                  go_wp2_with (first | ((with_reducible refine gate_callee (f := 22) rfl ?_); refine goesL_ (some 121) rfl rfl Try.func22 (by kernel_rfl) rfl #[.slice Ao100 t431.length co100, .int .i64 1] rfl (by (try simp only [List.map_toArray, List.map_cons, List.map_nil]); first | done | rfl | (simp only [List.length_drop, List.length_take]; rfl)) ?_; (with_reducible refine (laws_heldInt64A2S.calls kj98 _ _ t431 1 t447 _ ?side1 ?side2 A118.out).mono ?_); (case side1 => repeat (first | exact (Kd.R_reads' HO_12.out).2.2 | (with_reducible refine Kd.C_alloc ?_ _) | (with_reducible refine Kd.C_drewN ?_ _) | (with_reducible refine Kd.C_drew ?_))); (case side2 => exact (Kd.R_reads' HO_12.out).2.1); rintro e w' ⟨rfl, ⟨nd, rfl⟩⟩; refine ⟨_, rfl, ?_⟩))
                  go_ret
                  exact ⟨by first | rfl | (simp [errW_none, errW_some] <;> rfl) | (simp [*, errW_none, errW_some] <;> rfl), by repeat (first | (with_reducible first | exact HB.out | apply below_alloc | apply pw_below_drewN | apply below_drew1 | refine below_set ?_ GE384.out | refine below_set ?_ GE385.out | refine below_set ?_ GE405.out) | exact HB.out)⟩
                 ·rw [if_neg c120] at H
                  have c120b0 : (t447 == t430) = false := beq_eq_false_iff_ne.mpr c120
                  have c120b1 : (t447 != t430) = true := bne_iff_ne.mpr c120
                  exact absurd ((Option.some.inj H).trans HT.out) (by decide)
            ·rw [if_neg c94] at H
             have c94b0 : (t432 == t430) = false := beq_eq_false_iff_ne.mpr c94
             have c94b1 : (t432 != t430) = true := bne_iff_ne.mpr c94
             exact absurd ((Option.some.inj H).trans HT.out) (by decide)
       ·replace c65 := Bool.eq_false_iff.mpr c65
        subst c65
        have H1 : (some false) = some r := by rw [if_neg (show ¬ (false = true) by decide)] at H; exact H
        clear H
        have H := H1
        clear H1
        exact absurd ((Option.some.inj H).trans HT.out) (by decide)
      ·replace c62 := Bool.eq_false_iff.mpr c62
       subst c62
       have H1 : (some false) = some r := by rw [if_neg (show ¬ (false = true) by decide)] at H; exact H
       clear H
       have H := H1
       clear H1
       exact absurd ((Option.some.inj H).trans HT.out) (by decide)

/-- THE ONE PURE STATEMENT of laws_FnExactSwappedBy: mine. -/
def laws_FnExactSwappedBy.Pure : Prop := ∀ (a0_0 : Int) (l0_1 : List Int) (l1 : List (S29)) (a2_0 : Int) (a2_1 : Int), ((Lit.int .i16 a0_0).wf = true) → (l0_1.length ≤ 9223372036854775807 ∧ ∀ x_ ∈ l0_1, ((Lit.int .i16 x_).wf = true)) → (l1.length ≤ 9223372036854775807 ∧ ∀ x_ ∈ l1, (((Lit.int .i16 x_.f0).wf = true) ∧ ((Lit.int .i8 x_.f1).wf = true))) → ((Lit.int .i64 a2_0).wf = true) → ((Lit.int .i64 a2_1).wf = true) → ∃ k, laws_FnExactSwappedBy.f k a0_0 l0_1 l1 a2_0 a2_1 = some true

end Go.Proofs.Ytadnngaaobgdgaa.P
