-- Printed by wip/print (my turned copy of the kit's print) out of the translation; Lean checks it.
import Derived.Test.YtooidjdgfoioiaaP0
import Derived.Test.YtooidjdgfoioiaaP12
import Derived.Test.YtooidjdgfoioiaaP13
import Derived.Test.YtooidjdgfoioiaaP24
import Derived.Test.YtooidjdgfoioiaaP25
import Derived.Test.YtooidjdgfoioiaaP26
import Derived.Test.YtooidjdgfoioiaaP29
namespace Go.Proofs.Ytooidjdgfoioiaa.P
open Go.RowKit Go.Proofs.YtooidjdgfoioiaaW.PrintWords Go.Proofs.YtooidjdgfoioiaaW.PrintLast Go.Proofs.YtooidjdgfoioiaaW.PrintMore
attribute [local go_sem] max2_int min2_int max_two min_two max_three min_three max_four min_four   -- for this text's walks alone
set_option linter.unusedVariables false
set_option linter.unusedSimpArgs false

/-! ### laws_FnExactRopeFor: function 3 -/
mutual
def laws_FnExactRopeFor.j0 : Nat → List (S82) → Int → List (S62) → Int → Bool → Int → Int → Int → Int → Int → Int → Int → Int → Int → Int → Int → Int → Int → List Int → Int → List Int → Option (Bool)
  | 0, _, _, _, _, _, _, _, _, _, _, _, _, _, _, _, _, _, _, _, _, _ => none
  | k + 1, x1, x7, x8, x10, x46, x268000, x268001, x268002, x268003, x268004, x268005, x268006, x268007, x268008, x268009, x268010, x268011, x290000, x290001, x311000, x311001 => if x46 = true then (some false) else ((laws_toSpotS.f k x1).bind fun t312 => ((laws_eqSpotS.f k x8 t312).bind fun t315 => (if t315 = true then ((laws_markSpotS.f k x8 1).bind fun bt316 => (if bt316.1 < 0 then (laws_FnExactRopeFor.j1 k x1 x7 true x268000 x268001 x268002 x268003 x268004 x268005 x268006 x268007 x268008 x268009 x268010 x268011 x290000 x290001 x311000 x311001) else ((laws_eqRope.f k x311000 x311001 x290000 x290001).bind fun t318 => (if t318 = true then (laws_FnExactRopeFor.j1 k x1 x7 (x10 != x7) x268000 x268001 x268002 x268003 x268004 x268005 x268006 x268007 x268008 x268009 x268010 x268011 x290000 x290001 x311000 x311001) else (laws_FnExactRopeFor.j1 k x1 x7 true x268000 x268001 x268002 x268003 x268004 x268005 x268006 x268007 x268008 x268009 x268010 x268011 x290000 x290001 x311000 x311001))))) else (some false))))
def laws_FnExactRopeFor.j1 : Nat → List (S82) → Int → Bool → Int → Int → Int → Int → Int → Int → Int → Int → Int → Int → Int → Int → Int → List Int → Int → List Int → Option (Bool)
  | 0, _, _, _, _, _, _, _, _, _, _, _, _, _, _, _, _, _, _, _ => none
  | k + 1, x1, x7, x67, x268000, x268001, x268002, x268003, x268004, x268005, x268006, x268007, x268008, x268009, x268010, x268011, x290000, x290001, x311000, x311001 => if x67 = true then (some false) else ((laws_markRope.f k x311000 x311001 1).bind fun bt319 => ((laws_heldRope.f k x311000 bt319.2 1).bind fun t321 => (if t321 < 0 then (some false) else (if t321 = bt319.1 then ((laws_toRoom.f k x268000 x268001 x268002 x268003 x268004 x268005 x268006 x268007 x268008 x268009 x268010 x268011).bind fun bt322 => ((laws_toSpotS.f k x1).bind fun t334 => ((impl_RopeFor.f k bt322.1 bt322.2.1 bt322.2.2.1 bt322.2.2.2.1 bt322.2.2.2.2.1 bt322.2.2.2.2.2.1 bt322.2.2.2.2.2.2.1 bt322.2.2.2.2.2.2.2.1 bt322.2.2.2.2.2.2.2.2.1 bt322.2.2.2.2.2.2.2.2.2.1 bt322.2.2.2.2.2.2.2.2.2.2.1 bt322.2.2.2.2.2.2.2.2.2.2.2 t334).bind fun bt337 => ((laws_eqRope.f k bt337.1 bt337.2.1 x290000 x290001).bind fun t343 => (if t343 = true then (laws_FnExactRopeFor.j2 k bt319.1 (bt337.2.2 != x7) x311000 bt319.2) else (laws_FnExactRopeFor.j2 k bt319.1 true x311000 bt319.2)))))) else (some false)))))
def laws_FnExactRopeFor.j2 : Nat → Int → Bool → Int → List Int → Option (Bool)
  | 0, _, _, _, _ => none
  | k + 1, x12, x95, x311000, x311001 => if x95 = true then (some false) else ((laws_heldRope.f k x311000 x311001 1).bind fun t344 => (if t344 < 0 then (some false) else (if t344 = x12 then (some true) else (some false))))
end
def laws_FnExactRopeFor.f (k : Nat) (a0_0 : Int) (a0_1 : Int) (a0_2 : Int) (a0_3 : Int) (a0_4 : Int) (a0_5 : Int) (a0_6 : Int) (a0_7 : Int) (a0_8 : Int) (a0_9 : Int) (a0_10 : Int) (a0_11 : Int) (l1 : List (S82)) : Option (Bool) := (laws_szSpotS.f l1 1048576).bind fun t268 => (if t268 < 0 then (some true) else ((laws_toRoom.f k a0_0 a0_1 a0_2 a0_3 a0_4 a0_5 a0_6 a0_7 a0_8 a0_9 a0_10 a0_11).bind fun bt269 => ((laws_toSpotS.f k l1).bind fun t281 => ((spec_RopeFor.f k bt269.1 bt269.2.1 bt269.2.2.1 bt269.2.2.2.1 bt269.2.2.2.2.1 bt269.2.2.2.2.2.1 bt269.2.2.2.2.2.2.1 bt269.2.2.2.2.2.2.2.1 bt269.2.2.2.2.2.2.2.2.1 bt269.2.2.2.2.2.2.2.2.2.1 bt269.2.2.2.2.2.2.2.2.2.2.1 bt269.2.2.2.2.2.2.2.2.2.2.2 t281).bind fun bt284 => ((laws_toSpotS.f k l1).bind fun t290 => ((laws_toRoom.f k a0_0 a0_1 a0_2 a0_3 a0_4 a0_5 a0_6 a0_7 a0_8 a0_9 a0_10 a0_11).bind fun bt293 => ((impl_RopeFor.f k bt293.1 bt293.2.1 bt293.2.2.1 bt293.2.2.2.1 bt293.2.2.2.2.1 bt293.2.2.2.2.2.1 bt293.2.2.2.2.2.2.1 bt293.2.2.2.2.2.2.2.1 bt293.2.2.2.2.2.2.2.2.1 bt293.2.2.2.2.2.2.2.2.2.1 bt293.2.2.2.2.2.2.2.2.2.2.1 bt293.2.2.2.2.2.2.2.2.2.2.2 t290).bind fun bt305 => ((laws_eqRope.f k bt305.1 bt305.2.1 bt284.1 bt284.2.1).bind fun t311 => (if t311 = true then (laws_FnExactRopeFor.j0 k l1 bt284.2.2 t290 bt305.2.2 (bt305.2.2 != bt284.2.2) a0_0 a0_1 a0_2 a0_3 a0_4 a0_5 a0_6 a0_7 a0_8 a0_9 a0_10 a0_11 bt284.1 bt284.2.1 bt305.1 bt305.2.1) else (laws_FnExactRopeFor.j0 k l1 bt284.2.2 t290 bt305.2.2 true a0_0 a0_1 a0_2 a0_3 a0_4 a0_5 a0_6 a0_7 a0_8 a0_9 a0_10 a0_11 bt284.1 bt284.2.1 bt305.1 bt305.2.1))))))))))
theorem laws_FnExactRopeFor.mono_l : ∀ k, (∀ y0 y1 y2 y3 y4 y5 y6 y7 y8 y9 y10 y11 y12 y13 y14 y15 y16 y17 y18 y19 y20, LeO (laws_FnExactRopeFor.j0 k y0 y1 y2 y3 y4 y5 y6 y7 y8 y9 y10 y11 y12 y13 y14 y15 y16 y17 y18 y19 y20) (laws_FnExactRopeFor.j0 (k + 1) y0 y1 y2 y3 y4 y5 y6 y7 y8 y9 y10 y11 y12 y13 y14 y15 y16 y17 y18 y19 y20)) ∧ (∀ y0 y1 y2 y3 y4 y5 y6 y7 y8 y9 y10 y11 y12 y13 y14 y15 y16 y17 y18, LeO (laws_FnExactRopeFor.j1 k y0 y1 y2 y3 y4 y5 y6 y7 y8 y9 y10 y11 y12 y13 y14 y15 y16 y17 y18) (laws_FnExactRopeFor.j1 (k + 1) y0 y1 y2 y3 y4 y5 y6 y7 y8 y9 y10 y11 y12 y13 y14 y15 y16 y17 y18)) ∧ (∀ y0 y1 y2 y3, LeO (laws_FnExactRopeFor.j2 k y0 y1 y2 y3) (laws_FnExactRopeFor.j2 (k + 1) y0 y1 y2 y3))
  | 0 => ⟨fun _ _ _ _ _ _ _ _ _ _ _ _ _ _ _ _ _ _ _ _ _ r h => by simp [laws_FnExactRopeFor.j0] at h, fun _ _ _ _ _ _ _ _ _ _ _ _ _ _ _ _ _ _ _ r h => by simp [laws_FnExactRopeFor.j1] at h, fun _ _ _ _ r h => by simp [laws_FnExactRopeFor.j2] at h⟩
  | k + 1 => by
    obtain ⟨ih0, ih1, ih2⟩ := laws_FnExactRopeFor.mono_l k
    refine ⟨?_, ?_, ?_⟩
    · intro y0 y1 y2 y3 y4 y5 y6 y7 y8 y9 y10 y11 y12 y13 y14 y15 y16 y17 y18 y19 y20
      unfold laws_FnExactRopeFor.j0
      repeat' first
      | (with_reducible exact ih0 _ _ _ _ _ _ _ _ _ _ _ _ _ _ _ _ _ _ _ _ _)
      | (with_reducible exact ih1 _ _ _ _ _ _ _ _ _ _ _ _ _ _ _ _ _ _ _)
      | (with_reducible exact ih2 _ _ _ _)
      | (with_reducible exact impl_RopeFor.mono _ _ _ _ _ _ _ _ _ _ _ _ _ _)
      | (with_reducible exact laws_eqRope.mono _ _ _ _ _)
      | (with_reducible exact laws_eqSpotS.mono _ _ _)
      | (with_reducible exact laws_heldRope.mono _ _ _ _)
      | (with_reducible exact laws_markRope.mono _ _ _ _)
      | (with_reducible exact laws_markSpotS.mono _ _ _)
      | (with_reducible exact laws_toRoom.mono _ _ _ _ _ _ _ _ _ _ _ _ _)
      | (with_reducible exact laws_toSpotS.mono _ _)
      | (with_reducible exact spec_RopeFor.mono _ _ _ _ _ _ _ _ _ _ _ _ _ _)
      | (with_reducible exact LeO.refl _)
      | (with_reducible exact LeO.none _)
      | (with_reducible refine LeO.ite ?_ ?_)
      | (with_reducible refine LeO.bind ?_ (fun _ => ?_))
      | exact ih0 _ _ _ _ _ _ _ _ _ _ _ _ _ _ _ _ _ _ _ _ _
      | exact ih1 _ _ _ _ _ _ _ _ _ _ _ _ _ _ _ _ _ _ _
      | exact ih2 _ _ _ _
      | exact impl_RopeFor.mono _ _ _ _ _ _ _ _ _ _ _ _ _ _
      | exact laws_eqRope.mono _ _ _ _ _
      | exact laws_eqSpotS.mono _ _ _
      | exact laws_heldRope.mono _ _ _ _
      | exact laws_markRope.mono _ _ _ _
      | exact laws_markSpotS.mono _ _ _
      | exact laws_toRoom.mono _ _ _ _ _ _ _ _ _ _ _ _ _
      | exact laws_toSpotS.mono _ _
      | exact spec_RopeFor.mono _ _ _ _ _ _ _ _ _ _ _ _ _ _
      | exact LeO.none _
      | refine LeO.ite ?_ ?_
      | refine LeO.bind ?_ (fun _ => ?_)
    · intro y0 y1 y2 y3 y4 y5 y6 y7 y8 y9 y10 y11 y12 y13 y14 y15 y16 y17 y18
      unfold laws_FnExactRopeFor.j1
      repeat' first
      | (with_reducible exact ih0 _ _ _ _ _ _ _ _ _ _ _ _ _ _ _ _ _ _ _ _ _)
      | (with_reducible exact ih1 _ _ _ _ _ _ _ _ _ _ _ _ _ _ _ _ _ _ _)
      | (with_reducible exact ih2 _ _ _ _)
      | (with_reducible exact impl_RopeFor.mono _ _ _ _ _ _ _ _ _ _ _ _ _ _)
      | (with_reducible exact laws_eqRope.mono _ _ _ _ _)
      | (with_reducible exact laws_eqSpotS.mono _ _ _)
      | (with_reducible exact laws_heldRope.mono _ _ _ _)
      | (with_reducible exact laws_markRope.mono _ _ _ _)
      | (with_reducible exact laws_markSpotS.mono _ _ _)
      | (with_reducible exact laws_toRoom.mono _ _ _ _ _ _ _ _ _ _ _ _ _)
      | (with_reducible exact laws_toSpotS.mono _ _)
      | (with_reducible exact spec_RopeFor.mono _ _ _ _ _ _ _ _ _ _ _ _ _ _)
      | (with_reducible exact LeO.refl _)
      | (with_reducible exact LeO.none _)
      | (with_reducible refine LeO.ite ?_ ?_)
      | (with_reducible refine LeO.bind ?_ (fun _ => ?_))
      | exact ih0 _ _ _ _ _ _ _ _ _ _ _ _ _ _ _ _ _ _ _ _ _
      | exact ih1 _ _ _ _ _ _ _ _ _ _ _ _ _ _ _ _ _ _ _
      | exact ih2 _ _ _ _
      | exact impl_RopeFor.mono _ _ _ _ _ _ _ _ _ _ _ _ _ _
      | exact laws_eqRope.mono _ _ _ _ _
      | exact laws_eqSpotS.mono _ _ _
      | exact laws_heldRope.mono _ _ _ _
      | exact laws_markRope.mono _ _ _ _
      | exact laws_markSpotS.mono _ _ _
      | exact laws_toRoom.mono _ _ _ _ _ _ _ _ _ _ _ _ _
      | exact laws_toSpotS.mono _ _
      | exact spec_RopeFor.mono _ _ _ _ _ _ _ _ _ _ _ _ _ _
      | exact LeO.none _
      | refine LeO.ite ?_ ?_
      | refine LeO.bind ?_ (fun _ => ?_)
    · intro y0 y1 y2 y3
      unfold laws_FnExactRopeFor.j2
      repeat' first
      | (with_reducible exact ih0 _ _ _ _ _ _ _ _ _ _ _ _ _ _ _ _ _ _ _ _ _)
      | (with_reducible exact ih1 _ _ _ _ _ _ _ _ _ _ _ _ _ _ _ _ _ _ _)
      | (with_reducible exact ih2 _ _ _ _)
      | (with_reducible exact impl_RopeFor.mono _ _ _ _ _ _ _ _ _ _ _ _ _ _)
      | (with_reducible exact laws_eqRope.mono _ _ _ _ _)
      | (with_reducible exact laws_eqSpotS.mono _ _ _)
      | (with_reducible exact laws_heldRope.mono _ _ _ _)
      | (with_reducible exact laws_markRope.mono _ _ _ _)
      | (with_reducible exact laws_markSpotS.mono _ _ _)
      | (with_reducible exact laws_toRoom.mono _ _ _ _ _ _ _ _ _ _ _ _ _)
      | (with_reducible exact laws_toSpotS.mono _ _)
      | (with_reducible exact spec_RopeFor.mono _ _ _ _ _ _ _ _ _ _ _ _ _ _)
      | (with_reducible exact LeO.refl _)
      | (with_reducible exact LeO.none _)
      | (with_reducible refine LeO.ite ?_ ?_)
      | (with_reducible refine LeO.bind ?_ (fun _ => ?_))
      | exact ih0 _ _ _ _ _ _ _ _ _ _ _ _ _ _ _ _ _ _ _ _ _
      | exact ih1 _ _ _ _ _ _ _ _ _ _ _ _ _ _ _ _ _ _ _
      | exact ih2 _ _ _ _
      | exact impl_RopeFor.mono _ _ _ _ _ _ _ _ _ _ _ _ _ _
      | exact laws_eqRope.mono _ _ _ _ _
      | exact laws_eqSpotS.mono _ _ _
      | exact laws_heldRope.mono _ _ _ _
      | exact laws_markRope.mono _ _ _ _
      | exact laws_markSpotS.mono _ _ _
      | exact laws_toRoom.mono _ _ _ _ _ _ _ _ _ _ _ _ _
      | exact laws_toSpotS.mono _ _
      | exact spec_RopeFor.mono _ _ _ _ _ _ _ _ _ _ _ _ _ _
      | exact LeO.none _
      | refine LeO.ite ?_ ?_
      | refine LeO.bind ?_ (fun _ => ?_)
theorem laws_FnExactRopeFor.mono : ∀ a0 a1 a2 a3 a4 a5 a6 a7 a8 a9 a10 a11 a12 k, LeO (laws_FnExactRopeFor.f k a0 a1 a2 a3 a4 a5 a6 a7 a8 a9 a10 a11 a12) (laws_FnExactRopeFor.f (k + 1) a0 a1 a2 a3 a4 a5 a6 a7 a8 a9 a10 a11 a12) := by
  intro a0 a1 a2 a3 a4 a5 a6 a7 a8 a9 a10 a11 a12 k
  obtain ⟨ih0, ih1, ih2⟩ := laws_FnExactRopeFor.mono_l k
  unfold laws_FnExactRopeFor.f
  repeat' first
      | (with_reducible exact ih0 _ _ _ _ _ _ _ _ _ _ _ _ _ _ _ _ _ _ _ _ _)
      | (with_reducible exact ih1 _ _ _ _ _ _ _ _ _ _ _ _ _ _ _ _ _ _ _)
      | (with_reducible exact ih2 _ _ _ _)
      | (with_reducible exact impl_RopeFor.mono _ _ _ _ _ _ _ _ _ _ _ _ _ _)
      | (with_reducible exact laws_eqRope.mono _ _ _ _ _)
      | (with_reducible exact laws_eqSpotS.mono _ _ _)
      | (with_reducible exact laws_heldRope.mono _ _ _ _)
      | (with_reducible exact laws_markRope.mono _ _ _ _)
      | (with_reducible exact laws_markSpotS.mono _ _ _)
      | (with_reducible exact laws_toRoom.mono _ _ _ _ _ _ _ _ _ _ _ _ _)
      | (with_reducible exact laws_toSpotS.mono _ _)
      | (with_reducible exact spec_RopeFor.mono _ _ _ _ _ _ _ _ _ _ _ _ _ _)
      | (with_reducible exact LeO.refl _)
      | (with_reducible exact LeO.none _)
      | (with_reducible refine LeO.ite ?_ ?_)
      | (with_reducible refine LeO.bind ?_ (fun _ => ?_))
      | exact ih0 _ _ _ _ _ _ _ _ _ _ _ _ _ _ _ _ _ _ _ _ _
      | exact ih1 _ _ _ _ _ _ _ _ _ _ _ _ _ _ _ _ _ _ _
      | exact ih2 _ _ _ _
      | exact impl_RopeFor.mono _ _ _ _ _ _ _ _ _ _ _ _ _ _
      | exact laws_eqRope.mono _ _ _ _ _
      | exact laws_eqSpotS.mono _ _ _
      | exact laws_heldRope.mono _ _ _ _
      | exact laws_markRope.mono _ _ _ _
      | exact laws_markSpotS.mono _ _ _
      | exact laws_toRoom.mono _ _ _ _ _ _ _ _ _ _ _ _ _
      | exact laws_toSpotS.mono _ _
      | exact spec_RopeFor.mono _ _ _ _ _ _ _ _ _ _ _ _ _ _
      | exact LeO.none _
      | refine LeO.ite ?_ ?_
      | refine LeO.bind ?_ (fun _ => ?_)
set_option maxHeartbeats 8000000 in
set_option maxRecDepth 100000 in
theorem laws_FnExactRopeFor.calls (k : Nat) (a0_0 : Int) (a0_1 : Int) (a0_2 : Int) (a0_3 : Int) (a0_4 : Int) (a0_5 : Int) (a0_6 : Int) (a0_7 : Int) (a0_8 : Int) (a0_9 : Int) (a0_10 : Int) (a0_11 : Int) (A1 : Option Addr) (c1 : Nat) (l1 : List (S82)) (r : Bool) (w : World) (hr1 : Kd.C k82 w A1 l1.length l1) (hc1 : l1.length ≤ c1) (hT : r = true) (h : laws_FnExactRopeFor.f k a0_0 a0_1 a0_2 a0_3 a0_4 a0_5 a0_6 a0_7 a0_8 a0_9 a0_10 a0_11 l1 = some r) :
    Calls Try.prog 3 #[.agg #[.int .i8 a0_0, .int .i8 a0_1, .int .u16 a0_2, .int .u16 a0_3, .int .u16 a0_4, .int .u16 a0_5, .int .u16 a0_6, .int .u16 a0_7, .int .u16 a0_8, .int .u16 a0_9, .int .u16 a0_10, .int .u16 a0_11], .slice A1 l1.length c1] w fun e w' => e = .returned (.bool r) ∧ Below w.heap.size w w' := by
 have hu26 := Try.underlying26
 have hu32 := Try.underlying32
 have HR1 := ak hr1
 have HC1 := ak hc1
 clear hr1 hc1
 have HT := ak hT
 clear hT
 have HB := ak (Below.refl w.heap.size w)
 have H : ((laws_szSpotS.f l1 1048576).bind fun t268 => (if t268 < 0 then (some true) else ((laws_toRoom.f k a0_0 a0_1 a0_2 a0_3 a0_4 a0_5 a0_6 a0_7 a0_8 a0_9 a0_10 a0_11).bind fun bt269 => ((laws_toSpotS.f k l1).bind fun t281 => ((spec_RopeFor.f k bt269.1 bt269.2.1 bt269.2.2.1 bt269.2.2.2.1 bt269.2.2.2.2.1 bt269.2.2.2.2.2.1 bt269.2.2.2.2.2.2.1 bt269.2.2.2.2.2.2.2.1 bt269.2.2.2.2.2.2.2.2.1 bt269.2.2.2.2.2.2.2.2.2.1 bt269.2.2.2.2.2.2.2.2.2.2.1 bt269.2.2.2.2.2.2.2.2.2.2.2 t281).bind fun bt284 => ((laws_toSpotS.f k l1).bind fun t290 => ((laws_toRoom.f k a0_0 a0_1 a0_2 a0_3 a0_4 a0_5 a0_6 a0_7 a0_8 a0_9 a0_10 a0_11).bind fun bt293 => ((impl_RopeFor.f k bt293.1 bt293.2.1 bt293.2.2.1 bt293.2.2.2.1 bt293.2.2.2.2.1 bt293.2.2.2.2.2.1 bt293.2.2.2.2.2.2.1 bt293.2.2.2.2.2.2.2.1 bt293.2.2.2.2.2.2.2.2.1 bt293.2.2.2.2.2.2.2.2.2.1 bt293.2.2.2.2.2.2.2.2.2.2.1 bt293.2.2.2.2.2.2.2.2.2.2.2 t290).bind fun bt305 => ((laws_eqRope.f k bt305.1 bt305.2.1 bt284.1 bt284.2.1).bind fun t311 => (if t311 = true then (laws_FnExactRopeFor.j0 k l1 bt284.2.2 t290 bt305.2.2 (bt305.2.2 != bt284.2.2) a0_0 a0_1 a0_2 a0_3 a0_4 a0_5 a0_6 a0_7 a0_8 a0_9 a0_10 a0_11 bt284.1 bt284.2.1 bt305.1 bt305.2.1) else (laws_FnExactRopeFor.j0 k l1 bt284.2.2 t290 bt305.2.2 true a0_0 a0_1 a0_2 a0_3 a0_4 a0_5 a0_6 a0_7 a0_8 a0_9 a0_10 a0_11 bt284.1 bt284.2.1 bt305.1 bt305.2.1))))))))))) = some r := h
 clear h
 replace H := Option.bind_eq_some_iff.mp H
 obtain ⟨t268, A30, H⟩ := H
 replace H : (if t268 < 0 then (some true) else ((laws_toRoom.f k a0_0 a0_1 a0_2 a0_3 a0_4 a0_5 a0_6 a0_7 a0_8 a0_9 a0_10 a0_11).bind fun bt269 => ((laws_toSpotS.f k l1).bind fun t281 => ((spec_RopeFor.f k bt269.1 bt269.2.1 bt269.2.2.1 bt269.2.2.2.1 bt269.2.2.2.2.1 bt269.2.2.2.2.2.1 bt269.2.2.2.2.2.2.1 bt269.2.2.2.2.2.2.2.1 bt269.2.2.2.2.2.2.2.2.1 bt269.2.2.2.2.2.2.2.2.2.1 bt269.2.2.2.2.2.2.2.2.2.2.1 bt269.2.2.2.2.2.2.2.2.2.2.2 t281).bind fun bt284 => ((laws_toSpotS.f k l1).bind fun t290 => ((laws_toRoom.f k a0_0 a0_1 a0_2 a0_3 a0_4 a0_5 a0_6 a0_7 a0_8 a0_9 a0_10 a0_11).bind fun bt293 => ((impl_RopeFor.f k bt293.1 bt293.2.1 bt293.2.2.1 bt293.2.2.2.1 bt293.2.2.2.2.1 bt293.2.2.2.2.2.1 bt293.2.2.2.2.2.2.1 bt293.2.2.2.2.2.2.2.1 bt293.2.2.2.2.2.2.2.2.1 bt293.2.2.2.2.2.2.2.2.2.1 bt293.2.2.2.2.2.2.2.2.2.2.1 bt293.2.2.2.2.2.2.2.2.2.2.2 t290).bind fun bt305 => ((laws_eqRope.f k bt305.1 bt305.2.1 bt284.1 bt284.2.1).bind fun t311 => (if t311 = true then (laws_FnExactRopeFor.j0 k l1 bt284.2.2 t290 bt305.2.2 (bt305.2.2 != bt284.2.2) a0_0 a0_1 a0_2 a0_3 a0_4 a0_5 a0_6 a0_7 a0_8 a0_9 a0_10 a0_11 bt284.1 bt284.2.1 bt305.1 bt305.2.1) else (laws_FnExactRopeFor.j0 k l1 bt284.2.2 t290 bt305.2.2 true a0_0 a0_1 a0_2 a0_3 a0_4 a0_5 a0_6 a0_7 a0_8 a0_9 a0_10 a0_11 bt284.1 bt284.2.1 bt305.1 bt305.2.1)))))))))) = some r := H
 have A3 := ak A30
 clear A30
 by_cases c4 : t268 < 0
 {
 rw [if_pos c4] at H
 have c4b0 : decide (t268 < 0) = true := decide_eq_true c4
 clear c4
 obtain rfl := Option.some.inj H
 go_enter Try.func3, Try.ntmps3
 go_wp2_with (first | ((with_reducible refine gate_dst (N := 2) rfl ?_); refine box_event ?hg (N := 2) ?hd (cs := #[.int .i8 a0_0, .int .i8 a0_1, .int .u16 a0_2, .int .u16 a0_3, .int .u16 a0_4, .int .u16 a0_5, .int .u16 a0_6, .int .u16 a0_7, .int .u16 a0_8, .int .u16 a0_9, .int .u16 a0_10, .int .u16 a0_11]) (t := 26) ?hr ?_; (case hd => rfl); (case hg => rfl); (case hr => first | (go_simp; done) | (go_simp; rfl)); intro gb267 hg w5 hbox hb; have BK267 := ak (hbox); have GW267 := ak ((by rw [hg]; exact (below_size (zB HB.out)) : w.heap.size ≤ gb267)); have GE267 := ak ((by rw [hg]; exact (below_size (zB HB.out)) : w.heap.size ≤ gb267)); replace HB := kB HB hb; clear hb hbox hg) | ((with_reducible refine gate_callee (f := 7) rfl ?_); refine goesL_ (some 18) rfl rfl Try.func7 (by kernel_rfl) rfl #[.slice A1 l1.length c1, .int .i64 1048576] rfl (by (try simp only [List.map_toArray, List.map_cons, List.map_nil]); first | done | rfl | (simp only [List.length_drop, List.length_take]; rfl)) ?_; (with_reducible refine (laws_szSpotS.calls _ _ l1 1048576 t268 _ ?side1 ?side2 A3.out).mono ?_); (case side1 => repeat (first | exact (Kd.C_below HR1.out HB.out) | (with_reducible refine Kd.C_alloc ?_ _) | (with_reducible refine Kd.C_drewN ?_ _) | (with_reducible refine Kd.C_drew ?_))); (case side2 => exact HC1.out); rintro e w' ⟨rfl, ⟨nd, rfl⟩⟩; refine ⟨_, rfl, ?_⟩))
 go_ret
 exact ⟨by first | rfl | (simp [errW_none, errW_some] <;> rfl) | (simp [*, errW_none, errW_some] <;> rfl), zBG HB.out GE267.out⟩
 }
 {
 rw [if_neg c4] at H
 have c4b0 : decide (t268 < 0) = false := decide_eq_false c4
 clear c4
 replace H := Option.bind_eq_some_iff.mp H
 obtain ⟨⟨t269, t270, t271, t272, t273, t274, t275, t276, t277, t278, t279, t280⟩, A60, H⟩ := H
 replace H : ((laws_toSpotS.f k l1).bind fun t281 => ((spec_RopeFor.f k t269 t270 t271 t272 t273 t274 t275 t276 t277 t278 t279 t280 t281).bind fun bt284 => ((laws_toSpotS.f k l1).bind fun t290 => ((laws_toRoom.f k a0_0 a0_1 a0_2 a0_3 a0_4 a0_5 a0_6 a0_7 a0_8 a0_9 a0_10 a0_11).bind fun bt293 => ((impl_RopeFor.f k bt293.1 bt293.2.1 bt293.2.2.1 bt293.2.2.2.1 bt293.2.2.2.2.1 bt293.2.2.2.2.2.1 bt293.2.2.2.2.2.2.1 bt293.2.2.2.2.2.2.2.1 bt293.2.2.2.2.2.2.2.2.1 bt293.2.2.2.2.2.2.2.2.2.1 bt293.2.2.2.2.2.2.2.2.2.2.1 bt293.2.2.2.2.2.2.2.2.2.2.2 t290).bind fun bt305 => ((laws_eqRope.f k bt305.1 bt305.2.1 bt284.1 bt284.2.1).bind fun t311 => (if t311 = true then (laws_FnExactRopeFor.j0 k l1 bt284.2.2 t290 bt305.2.2 (bt305.2.2 != bt284.2.2) a0_0 a0_1 a0_2 a0_3 a0_4 a0_5 a0_6 a0_7 a0_8 a0_9 a0_10 a0_11 bt284.1 bt284.2.1 bt305.1 bt305.2.1) else (laws_FnExactRopeFor.j0 k l1 bt284.2.2 t290 bt305.2.2 true a0_0 a0_1 a0_2 a0_3 a0_4 a0_5 a0_6 a0_7 a0_8 a0_9 a0_10 a0_11 bt284.1 bt284.2.1 bt305.1 bt305.2.1)))))))) = some r := H
 have A6 := ak A60
 clear A60
 replace H := Option.bind_eq_some_iff.mp H
 obtain ⟨t281, A70, H⟩ := H
 replace H : ((spec_RopeFor.f k t269 t270 t271 t272 t273 t274 t275 t276 t277 t278 t279 t280 t281).bind fun bt284 => ((laws_toSpotS.f k l1).bind fun t290 => ((laws_toRoom.f k a0_0 a0_1 a0_2 a0_3 a0_4 a0_5 a0_6 a0_7 a0_8 a0_9 a0_10 a0_11).bind fun bt293 => ((impl_RopeFor.f k bt293.1 bt293.2.1 bt293.2.2.1 bt293.2.2.2.1 bt293.2.2.2.2.1 bt293.2.2.2.2.2.1 bt293.2.2.2.2.2.2.1 bt293.2.2.2.2.2.2.2.1 bt293.2.2.2.2.2.2.2.2.1 bt293.2.2.2.2.2.2.2.2.2.1 bt293.2.2.2.2.2.2.2.2.2.2.1 bt293.2.2.2.2.2.2.2.2.2.2.2 t290).bind fun bt305 => ((laws_eqRope.f k bt305.1 bt305.2.1 bt284.1 bt284.2.1).bind fun t311 => (if t311 = true then (laws_FnExactRopeFor.j0 k l1 bt284.2.2 t290 bt305.2.2 (bt305.2.2 != bt284.2.2) a0_0 a0_1 a0_2 a0_3 a0_4 a0_5 a0_6 a0_7 a0_8 a0_9 a0_10 a0_11 bt284.1 bt284.2.1 bt305.1 bt305.2.1) else (laws_FnExactRopeFor.j0 k l1 bt284.2.2 t290 bt305.2.2 true a0_0 a0_1 a0_2 a0_3 a0_4 a0_5 a0_6 a0_7 a0_8 a0_9 a0_10 a0_11 bt284.1 bt284.2.1 bt305.1 bt305.2.1))))))) = some r := H
 have A7 := ak A70
 clear A70
 replace H := Option.bind_eq_some_iff.mp H
 obtain ⟨⟨t284, t285, t288⟩, A80, H⟩ := H
 replace H : ((laws_toSpotS.f k l1).bind fun t290 => ((laws_toRoom.f k a0_0 a0_1 a0_2 a0_3 a0_4 a0_5 a0_6 a0_7 a0_8 a0_9 a0_10 a0_11).bind fun bt293 => ((impl_RopeFor.f k bt293.1 bt293.2.1 bt293.2.2.1 bt293.2.2.2.1 bt293.2.2.2.2.1 bt293.2.2.2.2.2.1 bt293.2.2.2.2.2.2.1 bt293.2.2.2.2.2.2.2.1 bt293.2.2.2.2.2.2.2.2.1 bt293.2.2.2.2.2.2.2.2.2.1 bt293.2.2.2.2.2.2.2.2.2.2.1 bt293.2.2.2.2.2.2.2.2.2.2.2 t290).bind fun bt305 => ((laws_eqRope.f k bt305.1 bt305.2.1 t284 t285).bind fun t311 => (if t311 = true then (laws_FnExactRopeFor.j0 k l1 t288 t290 bt305.2.2 (bt305.2.2 != t288) a0_0 a0_1 a0_2 a0_3 a0_4 a0_5 a0_6 a0_7 a0_8 a0_9 a0_10 a0_11 t284 t285 bt305.1 bt305.2.1) else (laws_FnExactRopeFor.j0 k l1 t288 t290 bt305.2.2 true a0_0 a0_1 a0_2 a0_3 a0_4 a0_5 a0_6 a0_7 a0_8 a0_9 a0_10 a0_11 t284 t285 bt305.1 bt305.2.1)))))) = some r := H
 have A8 := ak A80
 clear A80
 replace H := Option.bind_eq_some_iff.mp H
 obtain ⟨t290, A90, H⟩ := H
 replace H : ((laws_toRoom.f k a0_0 a0_1 a0_2 a0_3 a0_4 a0_5 a0_6 a0_7 a0_8 a0_9 a0_10 a0_11).bind fun bt293 => ((impl_RopeFor.f k bt293.1 bt293.2.1 bt293.2.2.1 bt293.2.2.2.1 bt293.2.2.2.2.1 bt293.2.2.2.2.2.1 bt293.2.2.2.2.2.2.1 bt293.2.2.2.2.2.2.2.1 bt293.2.2.2.2.2.2.2.2.1 bt293.2.2.2.2.2.2.2.2.2.1 bt293.2.2.2.2.2.2.2.2.2.2.1 bt293.2.2.2.2.2.2.2.2.2.2.2 t290).bind fun bt305 => ((laws_eqRope.f k bt305.1 bt305.2.1 t284 t285).bind fun t311 => (if t311 = true then (laws_FnExactRopeFor.j0 k l1 t288 t290 bt305.2.2 (bt305.2.2 != t288) a0_0 a0_1 a0_2 a0_3 a0_4 a0_5 a0_6 a0_7 a0_8 a0_9 a0_10 a0_11 t284 t285 bt305.1 bt305.2.1) else (laws_FnExactRopeFor.j0 k l1 t288 t290 bt305.2.2 true a0_0 a0_1 a0_2 a0_3 a0_4 a0_5 a0_6 a0_7 a0_8 a0_9 a0_10 a0_11 t284 t285 bt305.1 bt305.2.1))))) = some r := H
 have A9 := ak A90
 clear A90
 replace H := Option.bind_eq_some_iff.mp H
 obtain ⟨⟨t293, t294, t295, t296, t297, t298, t299, t300, t301, t302, t303, t304⟩, A100, H⟩ := H
 replace H : ((impl_RopeFor.f k t293 t294 t295 t296 t297 t298 t299 t300 t301 t302 t303 t304 t290).bind fun bt305 => ((laws_eqRope.f k bt305.1 bt305.2.1 t284 t285).bind fun t311 => (if t311 = true then (laws_FnExactRopeFor.j0 k l1 t288 t290 bt305.2.2 (bt305.2.2 != t288) a0_0 a0_1 a0_2 a0_3 a0_4 a0_5 a0_6 a0_7 a0_8 a0_9 a0_10 a0_11 t284 t285 bt305.1 bt305.2.1) else (laws_FnExactRopeFor.j0 k l1 t288 t290 bt305.2.2 true a0_0 a0_1 a0_2 a0_3 a0_4 a0_5 a0_6 a0_7 a0_8 a0_9 a0_10 a0_11 t284 t285 bt305.1 bt305.2.1)))) = some r := H
 have A10 := ak A100
 clear A100
 replace H := Option.bind_eq_some_iff.mp H
 obtain ⟨⟨t305, t306, t309⟩, A110, H⟩ := H
 replace H : ((laws_eqRope.f k t305 t306 t284 t285).bind fun t311 => (if t311 = true then (laws_FnExactRopeFor.j0 k l1 t288 t290 t309 (t309 != t288) a0_0 a0_1 a0_2 a0_3 a0_4 a0_5 a0_6 a0_7 a0_8 a0_9 a0_10 a0_11 t284 t285 t305 t306) else (laws_FnExactRopeFor.j0 k l1 t288 t290 t309 true a0_0 a0_1 a0_2 a0_3 a0_4 a0_5 a0_6 a0_7 a0_8 a0_9 a0_10 a0_11 t284 t285 t305 t306))) = some r := H
 have A11 := ak A110
 clear A110
 have HC12 := ak H
 clear H
 go_enter Try.func3, Try.ntmps3
 go_upto_region 8 with (first | ((with_reducible refine gate_dst (N := 2) rfl ?_); refine box_event ?hg (N := 2) ?hd (cs := #[.int .i8 a0_0, .int .i8 a0_1, .int .u16 a0_2, .int .u16 a0_3, .int .u16 a0_4, .int .u16 a0_5, .int .u16 a0_6, .int .u16 a0_7, .int .u16 a0_8, .int .u16 a0_9, .int .u16 a0_10, .int .u16 a0_11]) (t := 26) ?hr ?_; (case hd => rfl); (case hg => rfl); (case hr => first | (go_simp; done) | (go_simp; rfl)); intro gb267 hg w13 hbox hb; have BK267 := ak (hbox); have GW267 := ak ((by rw [hg]; exact (below_size (zB HB.out)) : w.heap.size ≤ gb267)); have GE267 := ak ((by rw [hg]; exact (below_size (zB HB.out)) : w.heap.size ≤ gb267)); replace HB := kB HB hb; clear hb hbox hg) | ((with_reducible refine gate_callee (f := 7) rfl ?_); refine goesL_ (some 18) rfl rfl Try.func7 (by kernel_rfl) rfl #[.slice A1 l1.length c1, .int .i64 1048576] rfl (by (try simp only [List.map_toArray, List.map_cons, List.map_nil]); first | done | rfl | (simp only [List.length_drop, List.length_take]; rfl)) ?_; (with_reducible refine (laws_szSpotS.calls _ _ l1 1048576 t268 _ ?side1 ?side2 A3.out).mono ?_); (case side1 => repeat (first | exact (Kd.C_below HR1.out HB.out) | (with_reducible refine Kd.C_alloc ?_ _) | (with_reducible refine Kd.C_drewN ?_ _) | (with_reducible refine Kd.C_drew ?_))); (case side2 => exact HC1.out); rintro e w' ⟨rfl, ⟨nd, rfl⟩⟩; refine ⟨_, rfl, ?_⟩; (try (rw [drewN_self w13]; generalize hq_ : World.drewN w13 _ = w13; have n0_ : Aside0 (w13.heap[gb267]? = some (.cells #[.int .i8 a0_0, .int .i8 a0_1, .int .u16 a0_2, .int .u16 a0_3, .int .u16 a0_4, .int .u16 a0_5, .int .u16 a0_6, .int .u16 a0_7, .int .u16 a0_8, .int .u16 a0_9, .int .u16 a0_10, .int .u16 a0_11] 26 (0, 0))) := ⟨by rw [← hq_]; exact (zK BK267.out)⟩; have n1_ : Aside0 (Below w.heap.size w w13) := ⟨by rw [← hq_]; exact (zBG HB.out GE267.out)⟩; clear BK267 HB hq_; have BK267 := n0_; have HB := n1_; clear n0_ n1_)); obtain ⟨hcz14_0, hcz14_1, hcz14_2, hcz14_3, hcz14_4, hcz14_5, hcz14_6, hcz14_7, hcz14_8, hcz14_9, hcz14_10, hcz14_11, hfz14_0, hfz14_1, hfz14_2, hfz14_3, hfz14_4, hfz14_5, hfz14_6, hfz14_7, hfz14_8, hfz14_9, hfz14_10, hfz14_11⟩ := cz12 w13 BK267) | ((with_reducible refine gate_callee (f := 9) rfl ?_); refine goesL_ (some 23) rfl rfl Try.func9 (by kernel_rfl) rfl #[.agg #[.int .i8 a0_0, .int .i8 a0_1, .int .u16 a0_2, .int .u16 a0_3, .int .u16 a0_4, .int .u16 a0_5, .int .u16 a0_6, .int .u16 a0_7, .int .u16 a0_8, .int .u16 a0_9, .int .u16 a0_10, .int .u16 a0_11]] rfl (by (try simp only [List.map_toArray, List.map_cons, List.map_nil]); first | done | rfl | (simp only [List.length_drop, List.length_take]; rfl)) ?_; (with_reducible refine (laws_toRoom.calls k a0_0 a0_1 a0_2 a0_3 a0_4 a0_5 a0_6 a0_7 a0_8 a0_9 a0_10 a0_11 t269 t270 t271 t272 t273 t274 t275 t276 t277 t278 t279 t280 _ A6.out).mono ?_); rintro e w15 ⟨rfl, hb⟩; refine ⟨_, rfl, ?_⟩; replace BK267 := kK BK267 hb; replace HB := kB1 HB GE267 hb; (try clear hb)) | ((with_reducible refine gate_callee (f := 10) rfl ?_); refine goesL_ (some 25) rfl rfl Try.func10 (by kernel_rfl) rfl #[.slice A1 l1.length c1] rfl (by (try simp only [List.map_toArray, List.map_cons, List.map_nil]); first | done | rfl | (simp only [List.length_drop, List.length_take]; rfl)) ?_; (with_reducible refine (laws_toSpotS.calls k _ _ l1 t281 _ ?side1 ?side2 A7.out).mono ?_); (case side1 => repeat (first | exact (Kd.C_below HR1.out HB.out) | (with_reducible refine Kd.C_alloc ?_ _) | (with_reducible refine Kd.C_drewN ?_ _) | (with_reducible refine Kd.C_drew ?_))); (case side2 => exact HC1.out); rintro e w16 ⟨v282, rfl, ho0, hb⟩; refine ⟨_, rfl, ?_⟩; have HO283 := ak (Kd.R_lower ho0 (below_size (zBG HB.out GE267.out))); replace BK267 := kK BK267 hb; replace HB := kB1 HB GE267 hb; (try clear hb); (try clear ho0); obtain ⟨Ao17, co17, eo17⟩ := Kd.R_slice HO283.out; subst eo17) | ((with_reducible refine gate_callee (f := 8) rfl ?_); refine goesL_ (some 26) rfl rfl Try.func8 (by kernel_rfl) rfl #[.agg #[.int .i8 t269, .int .i8 t270, .int .u16 t271, .int .u16 t272, .int .u16 t273, .int .u16 t274, .int .u16 t275, .int .u16 t276, .int .u16 t277, .int .u16 t278, .int .u16 t279, .int .u16 t280], .slice Ao17 t281.length co17] rfl (by (try simp only [List.map_toArray, List.map_cons, List.map_nil]); first | done | rfl | (simp only [List.length_drop, List.length_take]; rfl)) ?_; (with_reducible refine (spec_RopeFor.calls k t269 t270 t271 t272 t273 t274 t275 t276 t277 t278 t279 t280 _ _ t281 t284 t285 t288 _ ?side1 ?side2 A8.out).mono ?_); (case side1 => exact sC HO283); (case side2 => exact sL HO283); rintro e w18 ⟨v286, rfl, ho0, hb⟩; refine ⟨_, rfl, ?_⟩; have HO287 := ak (Kd.R_lower ho0 (below_size (zBG HB.out GE267.out))); replace HO283 := kR HO283 hb; replace BK267 := kK BK267 hb; replace HB := kB1 HB GE267 hb; (try clear hb); (try clear ho0)) | ((with_reducible refine gate_dst (N := 6) rfl ?_); refine box_event ?hg (N := 6) ?hd (cs := #[.int .i16 0, .slice none 0 0]) (t := 32) ?hr ?_; (case hd => rfl); (case hg => rfl); (case hr => first | (go_simp; done) | (go_simp; rfl)); intro gb289 hg w19 hbox hb; have BK289 := ak (hbox); have GW289 := ak ((by rw [hg]; exact (below_size (zBG HB.out GE267.out)) : w.heap.size ≤ gb289)); have GE289 := ak ((by rw [hg]; exact (below_size (zBG HB.out GE267.out)) : w.heap.size ≤ gb289)); have NB267_289 := ak ((by rw [hg]; exact Nat.ne_of_lt (blk_lt (g := gb267) (o := .cells #[.int .i8 a0_0, .int .i8 a0_1, .int .u16 a0_2, .int .u16 a0_3, .int .u16 a0_4, .int .u16 a0_5, .int .u16 a0_6, .int .u16 a0_7, .int .u16 a0_8, .int .u16 a0_9, .int .u16 a0_10, .int .u16 a0_11] 26 (0, 0)) (zK BK267.out)) : gb267 ≠ gb289)); have NB289_267 := ak ((by rw [hg]; exact Nat.ne_of_gt (blk_lt (g := gb267) (o := .cells #[.int .i8 a0_0, .int .i8 a0_1, .int .u16 a0_2, .int .u16 a0_3, .int .u16 a0_4, .int .u16 a0_5, .int .u16 a0_6, .int .u16 a0_7, .int .u16 a0_8, .int .u16 a0_9, .int .u16 a0_10, .int .u16 a0_11] 26 (0, 0)) (zK BK267.out)) : gb289 ≠ gb267)); replace HO283 := kR HO283 hb; replace HO287 := kR HO287 hb; replace BK267 := kK BK267 hb; replace HB := kB1 HB GE267 hb; clear hb hbox hg; have hnb20 := NB289_267.out; have hnc20 := NB267_289.out; obtain ⟨hcz21_0, hcz21_1, hfz21_0, hfz21_1⟩ := cz2 w19 BK289; obtain ⟨Ao22, co22, eo22⟩ := Kd.R_slice HO287.out; subst eo22) | ((with_reducible refine gate_callee (f := 10) rfl ?_); refine goesL_ (some 30) rfl rfl Try.func10 (by kernel_rfl) rfl #[.slice A1 l1.length c1] rfl (by (try simp only [List.map_toArray, List.map_cons, List.map_nil]); first | done | rfl | (simp only [List.length_drop, List.length_take]; rfl)) ?_; (with_reducible refine (laws_toSpotS.calls k _ _ l1 t290 _ ?side1 ?side2 A9.out).mono ?_); (case side1 => exact Kd.C_below HR1.out (by repeat (first | (with_reducible first | exact HB.out | apply below_alloc | apply pw_below_drewN | apply below_drew1 | refine below_set ?_ GE267.out | refine below_set ?_ GE289.out) | exact HB.out))); (case side2 => exact HC1.out); rintro e w23 ⟨v291, rfl, ho0, hb⟩; refine ⟨_, rfl, ?_⟩; have HO292 := ak (Kd.R_lower (Kd.R_new' ho0 (Kd.R_lt (by (with_reducible repeat (first | apply Kd.R_alloc | apply Kd.R_drewN | apply Kd.R_drew)); exact (Kd.R_mono (Kd.R_far (p := ⟨gb289, 1, none⟩) (Kd.R_far (p := ⟨gb289, 0, none⟩) (Kd.R_types HO283.out BK289.out (by decide)) (fun _ hk => hk.2) (.int .i16 t284)) (fun _ hk => hk.2) (.slice Ao22 t285.length co22)) (fun _ h_ => h_.1))))) (below_size (by repeat (first | (with_reducible first | exact HB.out | apply below_alloc | apply pw_below_drewN | apply below_drew1 | refine below_set ?_ GE267.out | refine below_set ?_ GE289.out) | exact HB.out)))); replace HO283 := ak (Kd.R_elder' (by (with_reducible repeat (first | apply Kd.R_alloc | apply Kd.R_drewN | apply Kd.R_drew)); exact (Kd.R_mono (Kd.R_far (p := ⟨gb289, 1, none⟩) (Kd.R_far (p := ⟨gb289, 0, none⟩) (Kd.R_types HO283.out BK289.out (by decide)) (fun _ hk => hk.2) (.int .i16 t284)) (fun _ hk => hk.2) (.slice Ao22 t285.length co22)) (fun _ h_ => h_.1))) (Kd.R_base ho0) hb); replace HO287 := ak (Kd.R_below (by (with_reducible repeat (first | apply Kd.R_alloc | apply Kd.R_drewN | apply Kd.R_drew)); exact (Kd.R_mono (Kd.R_far (p := ⟨gb289, 1, none⟩) (Kd.R_far (p := ⟨gb289, 0, none⟩) (Kd.R_types HO287.out BK289.out (by decide)) (fun _ hk => hk.2) (.int .i16 t284)) (fun _ hk => hk.2) (.slice Ao22 t285.length co22)) (fun _ h_ => h_.1))) hb); replace BK267 := ak (blk_below (g := gb267) (o := .cells #[.int .i8 a0_0, .int .i8 a0_1, .int .u16 a0_2, .int .u16 a0_3, .int .u16 a0_4, .int .u16 a0_5, .int .u16 a0_6, .int .u16 a0_7, .int .u16 a0_8, .int .u16 a0_9, .int .u16 a0_10, .int .u16 a0_11] 26 (0, 0)) (by (with_reducible repeat (first | refine blk_drewN ?_ _ | refine blk_drew ?_ | refine blk_alloc ?_ _)); refine blk_far ?_ NB267_289.out _; (with_reducible repeat (first | refine blk_drewN ?_ _ | refine blk_drew ?_ | refine blk_alloc ?_ _)); refine blk_far ?_ NB267_289.out _; (with_reducible repeat (first | refine blk_drewN ?_ _ | refine blk_drew ?_ | refine blk_alloc ?_ _)); exact BK267.out) hb); replace BK289 := ak (blk_below (g := gb289) (o := .cells #[.int .i16 t284, .slice Ao22 t285.length co22] 32 (0, 0)) (by (with_reducible repeat (first | refine blk_drewN ?_ _ | refine blk_drew ?_ | refine blk_alloc ?_ _)); refine blk_put (cs := #[.int .i16 t284, .slice none 0 0]) ?_ 1 _ rfl; (with_reducible repeat (first | refine blk_drewN ?_ _ | refine blk_drew ?_ | refine blk_alloc ?_ _)); refine blk_put (cs := #[.int .i16 0, .slice none 0 0]) ?_ 0 _ rfl; (with_reducible repeat (first | refine blk_drewN ?_ _ | refine blk_drew ?_ | refine blk_alloc ?_ _)); exact BK289.out) hb); replace HB := kB2 HB GE267 GE289 hb; (try clear hb); (try clear hk); (try clear ho0); obtain ⟨hcz24_0, hcz24_1, hcz24_2, hcz24_3, hcz24_4, hcz24_5, hcz24_6, hcz24_7, hcz24_8, hcz24_9, hcz24_10, hcz24_11, hfz24_0, hfz24_1, hfz24_2, hfz24_3, hfz24_4, hfz24_5, hfz24_6, hfz24_7, hfz24_8, hfz24_9, hfz24_10, hfz24_11⟩ := cz12 w23 BK267) | ((with_reducible refine gate_callee (f := 9) rfl ?_); refine goesL_ (some 33) rfl rfl Try.func9 (by kernel_rfl) rfl #[.agg #[.int .i8 a0_0, .int .i8 a0_1, .int .u16 a0_2, .int .u16 a0_3, .int .u16 a0_4, .int .u16 a0_5, .int .u16 a0_6, .int .u16 a0_7, .int .u16 a0_8, .int .u16 a0_9, .int .u16 a0_10, .int .u16 a0_11]] rfl (by (try simp only [List.map_toArray, List.map_cons, List.map_nil]); first | done | rfl | (simp only [List.length_drop, List.length_take]; rfl)) ?_; (with_reducible refine (laws_toRoom.calls k a0_0 a0_1 a0_2 a0_3 a0_4 a0_5 a0_6 a0_7 a0_8 a0_9 a0_10 a0_11 t293 t294 t295 t296 t297 t298 t299 t300 t301 t302 t303 t304 _ A10.out).mono ?_); rintro e w25 ⟨rfl, hb⟩; refine ⟨_, rfl, ?_⟩; replace HO283 := kR HO283 hb; replace HO287 := kR HO287 hb; replace HO292 := kR HO292 hb; replace BK267 := kK BK267 hb; replace BK289 := kK BK289 hb; replace HB := kB2 HB GE267 GE289 hb; (try clear hb); obtain ⟨Ao26, co26, eo26⟩ := Kd.R_slice HO292.out; subst eo26) | ((with_reducible refine gate_callee (f := 11) rfl ?_); refine goesL_ (some 35) rfl rfl Try.func11 (by kernel_rfl) rfl #[.agg #[.int .i8 t293, .int .i8 t294, .int .u16 t295, .int .u16 t296, .int .u16 t297, .int .u16 t298, .int .u16 t299, .int .u16 t300, .int .u16 t301, .int .u16 t302, .int .u16 t303, .int .u16 t304], .slice Ao26 t290.length co26] rfl (by (try simp only [List.map_toArray, List.map_cons, List.map_nil]); first | done | rfl | (simp only [List.length_drop, List.length_take]; rfl)) ?_; (with_reducible refine (impl_RopeFor.calls k t293 t294 t295 t296 t297 t298 t299 t300 t301 t302 t303 t304 _ _ t290 t305 t306 t309 _ ?side1 ?side2 A11.out).mono ?_); (case side1 => exact sC HO292); (case side2 => exact sL HO292); rintro e w27 ⟨v307, rfl, ho0, hb⟩; refine ⟨_, rfl, ?_⟩; have HO308 := ak (Kd.R_lower (Kd.R_new' ho0 (Kd.R_lt (zR HO287.out))) (below_size (by repeat (first | (with_reducible first | exact HB.out | apply below_alloc | apply pw_below_drewN | apply below_drew1 | refine below_set ?_ GE267.out | refine below_set ?_ GE289.out) | exact HB.out)))); replace HO283 := kR HO283 hb; replace HO287 := kE HO287 ho0 hb; replace HO292 := kR HO292 hb; replace BK267 := kK BK267 hb; replace BK289 := kK BK289 hb; replace HB := kB2 HB GE267 GE289 hb; (try clear hb); (try clear ho0)) | ((with_reducible refine gate_dst (N := 9) rfl ?_); refine box_event ?hg (N := 9) ?hd (cs := #[.int .i16 0, .slice none 0 0]) (t := 32) ?hr ?_; (case hd => rfl); (case hg => rfl); (case hr => first | (go_simp; done) | (go_simp; rfl)); intro gb310 hg w28 hbox hb; have BK310 := ak (hbox); have GW310 := ak ((by rw [hg]; exact (below_size (by repeat (first | (with_reducible first | exact HB.out | apply below_alloc | apply pw_below_drewN | apply below_drew1 | refine below_set ?_ GE267.out | refine below_set ?_ GE289.out) | exact HB.out))) : w.heap.size ≤ gb310)); have GE310 := ak ((by rw [hg]; exact (below_size (by repeat (first | (with_reducible first | exact HB.out | apply below_alloc | apply pw_below_drewN | apply below_drew1 | refine below_set ?_ GE267.out | refine below_set ?_ GE289.out) | exact HB.out))) : w.heap.size ≤ gb310)); have NB267_310 := ak ((by rw [hg]; exact Nat.ne_of_lt (blk_lt (g := gb267) (o := .cells #[.int .i8 a0_0, .int .i8 a0_1, .int .u16 a0_2, .int .u16 a0_3, .int .u16 a0_4, .int .u16 a0_5, .int .u16 a0_6, .int .u16 a0_7, .int .u16 a0_8, .int .u16 a0_9, .int .u16 a0_10, .int .u16 a0_11] 26 (0, 0)) (zK BK267.out)) : gb267 ≠ gb310)); have NB310_267 := ak ((by rw [hg]; exact Nat.ne_of_gt (blk_lt (g := gb267) (o := .cells #[.int .i8 a0_0, .int .i8 a0_1, .int .u16 a0_2, .int .u16 a0_3, .int .u16 a0_4, .int .u16 a0_5, .int .u16 a0_6, .int .u16 a0_7, .int .u16 a0_8, .int .u16 a0_9, .int .u16 a0_10, .int .u16 a0_11] 26 (0, 0)) (zK BK267.out)) : gb310 ≠ gb267)); have NB289_310 := ak ((by rw [hg]; exact Nat.ne_of_lt (blk_lt (g := gb289) (o := .cells #[.int .i16 t284, .slice Ao22 t285.length co22] 32 (0, 0)) (zK BK289.out)) : gb289 ≠ gb310)); have NB310_289 := ak ((by rw [hg]; exact Nat.ne_of_gt (blk_lt (g := gb289) (o := .cells #[.int .i16 t284, .slice Ao22 t285.length co22] 32 (0, 0)) (zK BK289.out)) : gb310 ≠ gb289)); replace HO283 := kR HO283 hb; replace HO287 := kR HO287 hb; replace HO292 := kR HO292 hb; replace HO308 := kR HO308 hb; replace BK267 := kK BK267 hb; replace BK289 := kK BK289 hb; replace HB := kB2 HB GE267 GE289 hb; clear hb hbox hg; have hnb29 := NB310_267.out; have hnc29 := NB267_310.out; have hnb30 := NB310_289.out; have hnc30 := NB289_310.out; obtain ⟨hcz31_0, hcz31_1, hfz31_0, hfz31_1⟩ := cz2 w28 BK310; obtain ⟨Ao32, co32, eo32⟩ := Kd.R_slice HO308.out; subst eo32))
 (try simp only [Act.put, zs, zz, zk])
 go_cut [46] (fun v46 wc => ∃ (kq : Nat) (x46_11 : Bool), v46 = .bool x46_11 ∧ Aside0 (laws_FnExactRopeFor.j0 kq l1 t288 t290 t309 x46_11 a0_0 a0_1 a0_2 a0_3 a0_4 a0_5 a0_6 a0_7 a0_8 a0_9 a0_10 a0_11 t284 t285 t305 t306 = some r) ∧ Aside0 (kq ≤ k) ∧ Aside0 (Kd.R k62 62 wc w.heap.size (fun _ => True) (.slice Ao26 t290.length co26) t290) ∧ Aside0 (Kd.R (Kd.int .i16) 29 wc w.heap.size (fun k_ => some k_ ≠ ((.slice Ao32 t306.length co32) : Value).ownBlock) (.slice Ao22 t285.length co22) t285) ∧ Aside0 (Kd.R (Kd.int .i16) 29 wc w.heap.size (fun k_ => some k_ ≠ ((.slice Ao22 t285.length co22) : Value).ownBlock) (.slice Ao32 t306.length co32) t306) ∧ Aside0 (wc.heap[gb267]? = some (.cells #[.int .i8 a0_0, .int .i8 a0_1, .int .u16 a0_2, .int .u16 a0_3, .int .u16 a0_4, .int .u16 a0_5, .int .u16 a0_6, .int .u16 a0_7, .int .u16 a0_8, .int .u16 a0_9, .int .u16 a0_10, .int .u16 a0_11] 26 (0, 0))) ∧ Aside0 (wc.heap[gb289]? = some (.cells #[.int .i16 t284, (.slice Ao22 t285.length co22)] 32 (0, 0))) ∧ Aside0 (wc.heap[gb310]? = some (.cells #[.int .i16 t305, (.slice Ao32 t306.length co32)] 32 (0, 0))) ∧ Aside0 (Below w.heap.size w wc))
 case first => (
 have H := HC12.out
 clear HC12
 replace H := Option.bind_eq_some_iff.mp H
 obtain ⟨t311, A330, H⟩ := H
 replace H : (if t311 = true then (laws_FnExactRopeFor.j0 k l1 t288 t290 t309 (t309 != t288) a0_0 a0_1 a0_2 a0_3 a0_4 a0_5 a0_6 a0_7 a0_8 a0_9 a0_10 a0_11 t284 t285 t305 t306) else (laws_FnExactRopeFor.j0 k l1 t288 t290 t309 true a0_0 a0_1 a0_2 a0_3 a0_4 a0_5 a0_6 a0_7 a0_8 a0_9 a0_10 a0_11 t284 t285 t305 t306)) = some r := H
 have A33 := ak A330
 clear A330
 by_cases c34 : t311 = true
 {
 subst c34
 have H1 : (laws_FnExactRopeFor.j0 k l1 t288 t290 t309 (t309 != t288) a0_0 a0_1 a0_2 a0_3 a0_4 a0_5 a0_6 a0_7 a0_8 a0_9 a0_10 a0_11 t284 t285 t305 t306) = some r := by rw [if_pos rfl] at H; exact H
 clear H
 have H := H1
 clear H1
 have H' := ak H
 clear H
 have hnb35 := NB310_267.out
 have hnc35 := NB267_310.out
 have hnb36 := NB310_289.out
 have hnc36 := NB289_310.out
 have hcz37_0 : w28.cell? ⟨gb310, 0, none⟩ = some (.int .i16 0) := (blk_cell BK310.out 0).trans rfl
 have hcz37_1 : w28.cell? ⟨gb310, 1, none⟩ = some (.slice none 0 0) := (blk_cell BK310.out 1).trans rfl
 have hfz37_0 := blk_frozen BK310.out 0
 have hfz37_1 := blk_frozen BK310.out 1
 have hnb38 := NB289_267.out
 have hnc38 := NB267_289.out
 have hcz39_0 : w28.cell? ⟨gb289, 0, none⟩ = some (.int .i16 t284) := (blk_cell BK289.out 0).trans rfl
 have hcz39_1 : w28.cell? ⟨gb289, 1, none⟩ = some (.slice Ao22 t285.length co22) := (blk_cell BK289.out 1).trans rfl
 have hfz39_0 := blk_frozen BK289.out 0
 have hfz39_1 := blk_frozen BK289.out 1
 go_wp2_with (first | ((with_reducible refine gate_callee (f := 12) rfl ?_); refine goesL_ (some 40) rfl rfl Try.func12 (by kernel_rfl) rfl #[.agg #[.int .i16 t305, .slice Ao32 t306.length co32], .agg #[.int .i16 t284, .slice Ao22 t285.length co22]] rfl (by (try simp only [List.map_toArray, List.map_cons, List.map_nil]); first | done | rfl | (simp only [List.length_drop, List.length_take]; rfl)) ?_; (with_reducible refine (laws_eqRope.calls k t305 _ _ t306 t284 _ _ t285 true _ ?side1 ?side2 ?side3 ?side4 A33.out).mono ?_); (case side1 => refine (Kd.R_reads' (e := 29) (base := w.heap.size) (ok := fun k_ => (True ∧ some k_ ≠ (.slice Ao22 t285.length co22 : Value).ownBlock)) (n := t306.length) (c := co32) ?_).2.2; exact (by (with_reducible repeat (first | apply Kd.R_alloc | apply Kd.R_drewN | apply Kd.R_drew)); exact (Kd.R_mono (Kd.R_far (p := ⟨gb310, 1, none⟩) (Kd.R_far (p := ⟨gb310, 0, none⟩) (Kd.R_types HO308.out BK310.out (by decide)) (fun _ hk => hk.2) (.int .i16 t305)) (fun _ hk => hk.2) (.slice Ao32 t306.length co32)) (fun _ h_ => h_.1)))); (case side2 => exact sL HO308); (case side3 => refine (Kd.R_reads' (e := 29) (base := w.heap.size) (ok := fun k_ => (True ∧ some k_ ≠ (.slice Ao32 t306.length co32 : Value).ownBlock)) (n := t285.length) (c := co22) ?_).2.2; exact (by (with_reducible repeat (first | apply Kd.R_alloc | apply Kd.R_drewN | apply Kd.R_drew)); exact (Kd.R_mono (Kd.R_far (p := ⟨gb310, 1, none⟩) (Kd.R_far (p := ⟨gb310, 0, none⟩) (Kd.R_types HO287.out BK310.out (by decide)) (fun _ hk => hk.2) (.int .i16 t305)) (fun _ hk => hk.2) (.slice Ao32 t306.length co32)) (fun _ h_ => h_.1)))); (case side4 => exact sL HO287); rintro e w40 ⟨rfl, hb⟩; refine ⟨_, rfl, ?_⟩; replace HO283 := ak (Kd.R_below (by (with_reducible repeat (first | apply Kd.R_alloc | apply Kd.R_drewN | apply Kd.R_drew)); exact (Kd.R_mono (Kd.R_far (p := ⟨gb310, 1, none⟩) (Kd.R_far (p := ⟨gb310, 0, none⟩) (Kd.R_types HO283.out BK310.out (by decide)) (fun _ hk => hk.2) (.int .i16 t305)) (fun _ hk => hk.2) (.slice Ao32 t306.length co32)) (fun _ h_ => h_.1))) hb); replace HO287 := ak (Kd.R_below (by (with_reducible repeat (first | apply Kd.R_alloc | apply Kd.R_drewN | apply Kd.R_drew)); exact (Kd.R_mono (Kd.R_far (p := ⟨gb310, 1, none⟩) (Kd.R_far (p := ⟨gb310, 0, none⟩) (Kd.R_types HO287.out BK310.out (by decide)) (fun _ hk => hk.2) (.int .i16 t305)) (fun _ hk => hk.2) (.slice Ao32 t306.length co32)) (fun _ h_ => h_.1))) hb); replace HO292 := ak (Kd.R_below (by (with_reducible repeat (first | apply Kd.R_alloc | apply Kd.R_drewN | apply Kd.R_drew)); exact (Kd.R_mono (Kd.R_far (p := ⟨gb310, 1, none⟩) (Kd.R_far (p := ⟨gb310, 0, none⟩) (Kd.R_types HO292.out BK310.out (by decide)) (fun _ hk => hk.2) (.int .i16 t305)) (fun _ hk => hk.2) (.slice Ao32 t306.length co32)) (fun _ h_ => h_.1))) hb); replace HO308 := ak (Kd.R_below (by (with_reducible repeat (first | apply Kd.R_alloc | apply Kd.R_drewN | apply Kd.R_drew)); exact (Kd.R_mono (Kd.R_far (p := ⟨gb310, 1, none⟩) (Kd.R_far (p := ⟨gb310, 0, none⟩) (Kd.R_types HO308.out BK310.out (by decide)) (fun _ hk => hk.2) (.int .i16 t305)) (fun _ hk => hk.2) (.slice Ao32 t306.length co32)) (fun _ h_ => h_.1))) hb); replace BK267 := ak (blk_below (g := gb267) (o := .cells #[.int .i8 a0_0, .int .i8 a0_1, .int .u16 a0_2, .int .u16 a0_3, .int .u16 a0_4, .int .u16 a0_5, .int .u16 a0_6, .int .u16 a0_7, .int .u16 a0_8, .int .u16 a0_9, .int .u16 a0_10, .int .u16 a0_11] 26 (0, 0)) (by (with_reducible repeat (first | refine blk_drewN ?_ _ | refine blk_drew ?_ | refine blk_alloc ?_ _)); refine blk_far ?_ NB267_310.out _; (with_reducible repeat (first | refine blk_drewN ?_ _ | refine blk_drew ?_ | refine blk_alloc ?_ _)); refine blk_far ?_ NB267_310.out _; (with_reducible repeat (first | refine blk_drewN ?_ _ | refine blk_drew ?_ | refine blk_alloc ?_ _)); exact BK267.out) hb); replace BK289 := ak (blk_below (g := gb289) (o := .cells #[.int .i16 t284, .slice Ao22 t285.length co22] 32 (0, 0)) (by (with_reducible repeat (first | refine blk_drewN ?_ _ | refine blk_drew ?_ | refine blk_alloc ?_ _)); refine blk_far ?_ NB289_310.out _; (with_reducible repeat (first | refine blk_drewN ?_ _ | refine blk_drew ?_ | refine blk_alloc ?_ _)); refine blk_far ?_ NB289_310.out _; (with_reducible repeat (first | refine blk_drewN ?_ _ | refine blk_drew ?_ | refine blk_alloc ?_ _)); exact BK289.out) hb); replace BK310 := ak (blk_below (g := gb310) (o := .cells #[.int .i16 t305, .slice Ao32 t306.length co32] 32 (0, 0)) (by (with_reducible repeat (first | refine blk_drewN ?_ _ | refine blk_drew ?_ | refine blk_alloc ?_ _)); refine blk_put (cs := #[.int .i16 t305, .slice none 0 0]) ?_ 1 _ rfl; (with_reducible repeat (first | refine blk_drewN ?_ _ | refine blk_drew ?_ | refine blk_alloc ?_ _)); refine blk_put (cs := #[.int .i16 0, .slice none 0 0]) ?_ 0 _ rfl; (with_reducible repeat (first | refine blk_drewN ?_ _ | refine blk_drew ?_ | refine blk_alloc ?_ _)); exact BK310.out) hb); replace HB := kB3 HB GE267 GE289 GE310 hb; (try clear hb); (try clear hk)))
 go_meet
 case rel => exact ⟨_, ((t309 != t288)), (by first | rfl | (simp; done) | (simp [*]; done)), H', ⟨by first | omega | exact Nat.le_refl _⟩, ⟨by (with_reducible repeat (first | apply Kd.R_alloc | apply Kd.R_drewN | apply Kd.R_drew)); exact Kd.R_mono HO292.out (fun _ hk => trivial)⟩, ⟨by (with_reducible repeat (first | apply Kd.R_alloc | apply Kd.R_drewN | apply Kd.R_drew)); exact Kd.R_mono HO287.out (fun _ hk => hk.2)⟩, ⟨by (with_reducible repeat (first | apply Kd.R_alloc | apply Kd.R_drewN | apply Kd.R_drew)); exact Kd.R_mono HO308.out (fun _ hk => hk.2)⟩, ⟨(zK BK267.out)⟩, ⟨(zK BK289.out)⟩, ⟨(zK BK310.out)⟩, ⟨by repeat (first | (with_reducible first | exact HB.out | apply below_alloc | apply pw_below_drewN | apply below_drew1 | refine below_set ?_ GE267.out | refine below_set ?_ GE289.out | refine below_set ?_ GE310.out) | exact HB.out)⟩⟩
 }
 {
 replace c34 := Bool.eq_false_iff.mpr c34
 subst c34
 have H1 : (laws_FnExactRopeFor.j0 k l1 t288 t290 t309 true a0_0 a0_1 a0_2 a0_3 a0_4 a0_5 a0_6 a0_7 a0_8 a0_9 a0_10 a0_11 t284 t285 t305 t306) = some r := by rw [if_neg (show ¬ (false = true) by decide)] at H; exact H
 clear H
 have H := H1
 clear H1
 have H' := ak H
 clear H
 have hnb41 := NB310_267.out
 have hnc41 := NB267_310.out
 have hnb42 := NB310_289.out
 have hnc42 := NB289_310.out
 have hcz43_0 : w28.cell? ⟨gb310, 0, none⟩ = some (.int .i16 0) := (blk_cell BK310.out 0).trans rfl
 have hcz43_1 : w28.cell? ⟨gb310, 1, none⟩ = some (.slice none 0 0) := (blk_cell BK310.out 1).trans rfl
 have hfz43_0 := blk_frozen BK310.out 0
 have hfz43_1 := blk_frozen BK310.out 1
 have hnb44 := NB289_267.out
 have hnc44 := NB267_289.out
 have hcz45_0 : w28.cell? ⟨gb289, 0, none⟩ = some (.int .i16 t284) := (blk_cell BK289.out 0).trans rfl
 have hcz45_1 : w28.cell? ⟨gb289, 1, none⟩ = some (.slice Ao22 t285.length co22) := (blk_cell BK289.out 1).trans rfl
 have hfz45_0 := blk_frozen BK289.out 0
 have hfz45_1 := blk_frozen BK289.out 1
 go_wp2_with (first | ((with_reducible refine gate_callee (f := 12) rfl ?_); refine goesL_ (some 40) rfl rfl Try.func12 (by kernel_rfl) rfl #[.agg #[.int .i16 t305, .slice Ao32 t306.length co32], .agg #[.int .i16 t284, .slice Ao22 t285.length co22]] rfl (by (try simp only [List.map_toArray, List.map_cons, List.map_nil]); first | done | rfl | (simp only [List.length_drop, List.length_take]; rfl)) ?_; (with_reducible refine (laws_eqRope.calls k t305 _ _ t306 t284 _ _ t285 false _ ?side1 ?side2 ?side3 ?side4 A33.out).mono ?_); (case side1 => refine (Kd.R_reads' (e := 29) (base := w.heap.size) (ok := fun k_ => (True ∧ some k_ ≠ (.slice Ao22 t285.length co22 : Value).ownBlock)) (n := t306.length) (c := co32) ?_).2.2; exact (by (with_reducible repeat (first | apply Kd.R_alloc | apply Kd.R_drewN | apply Kd.R_drew)); exact (Kd.R_mono (Kd.R_far (p := ⟨gb310, 1, none⟩) (Kd.R_far (p := ⟨gb310, 0, none⟩) (Kd.R_types HO308.out BK310.out (by decide)) (fun _ hk => hk.2) (.int .i16 t305)) (fun _ hk => hk.2) (.slice Ao32 t306.length co32)) (fun _ h_ => h_.1)))); (case side2 => exact sL HO308); (case side3 => refine (Kd.R_reads' (e := 29) (base := w.heap.size) (ok := fun k_ => (True ∧ some k_ ≠ (.slice Ao32 t306.length co32 : Value).ownBlock)) (n := t285.length) (c := co22) ?_).2.2; exact (by (with_reducible repeat (first | apply Kd.R_alloc | apply Kd.R_drewN | apply Kd.R_drew)); exact (Kd.R_mono (Kd.R_far (p := ⟨gb310, 1, none⟩) (Kd.R_far (p := ⟨gb310, 0, none⟩) (Kd.R_types HO287.out BK310.out (by decide)) (fun _ hk => hk.2) (.int .i16 t305)) (fun _ hk => hk.2) (.slice Ao32 t306.length co32)) (fun _ h_ => h_.1)))); (case side4 => exact sL HO287); rintro e w46 ⟨rfl, hb⟩; refine ⟨_, rfl, ?_⟩; replace HO283 := ak (Kd.R_below (by (with_reducible repeat (first | apply Kd.R_alloc | apply Kd.R_drewN | apply Kd.R_drew)); exact (Kd.R_mono (Kd.R_far (p := ⟨gb310, 1, none⟩) (Kd.R_far (p := ⟨gb310, 0, none⟩) (Kd.R_types HO283.out BK310.out (by decide)) (fun _ hk => hk.2) (.int .i16 t305)) (fun _ hk => hk.2) (.slice Ao32 t306.length co32)) (fun _ h_ => h_.1))) hb); replace HO287 := ak (Kd.R_below (by (with_reducible repeat (first | apply Kd.R_alloc | apply Kd.R_drewN | apply Kd.R_drew)); exact (Kd.R_mono (Kd.R_far (p := ⟨gb310, 1, none⟩) (Kd.R_far (p := ⟨gb310, 0, none⟩) (Kd.R_types HO287.out BK310.out (by decide)) (fun _ hk => hk.2) (.int .i16 t305)) (fun _ hk => hk.2) (.slice Ao32 t306.length co32)) (fun _ h_ => h_.1))) hb); replace HO292 := ak (Kd.R_below (by (with_reducible repeat (first | apply Kd.R_alloc | apply Kd.R_drewN | apply Kd.R_drew)); exact (Kd.R_mono (Kd.R_far (p := ⟨gb310, 1, none⟩) (Kd.R_far (p := ⟨gb310, 0, none⟩) (Kd.R_types HO292.out BK310.out (by decide)) (fun _ hk => hk.2) (.int .i16 t305)) (fun _ hk => hk.2) (.slice Ao32 t306.length co32)) (fun _ h_ => h_.1))) hb); replace HO308 := ak (Kd.R_below (by (with_reducible repeat (first | apply Kd.R_alloc | apply Kd.R_drewN | apply Kd.R_drew)); exact (Kd.R_mono (Kd.R_far (p := ⟨gb310, 1, none⟩) (Kd.R_far (p := ⟨gb310, 0, none⟩) (Kd.R_types HO308.out BK310.out (by decide)) (fun _ hk => hk.2) (.int .i16 t305)) (fun _ hk => hk.2) (.slice Ao32 t306.length co32)) (fun _ h_ => h_.1))) hb); replace BK267 := ak (blk_below (g := gb267) (o := .cells #[.int .i8 a0_0, .int .i8 a0_1, .int .u16 a0_2, .int .u16 a0_3, .int .u16 a0_4, .int .u16 a0_5, .int .u16 a0_6, .int .u16 a0_7, .int .u16 a0_8, .int .u16 a0_9, .int .u16 a0_10, .int .u16 a0_11] 26 (0, 0)) (by (with_reducible repeat (first | refine blk_drewN ?_ _ | refine blk_drew ?_ | refine blk_alloc ?_ _)); refine blk_far ?_ NB267_310.out _; (with_reducible repeat (first | refine blk_drewN ?_ _ | refine blk_drew ?_ | refine blk_alloc ?_ _)); refine blk_far ?_ NB267_310.out _; (with_reducible repeat (first | refine blk_drewN ?_ _ | refine blk_drew ?_ | refine blk_alloc ?_ _)); exact BK267.out) hb); replace BK289 := ak (blk_below (g := gb289) (o := .cells #[.int .i16 t284, .slice Ao22 t285.length co22] 32 (0, 0)) (by (with_reducible repeat (first | refine blk_drewN ?_ _ | refine blk_drew ?_ | refine blk_alloc ?_ _)); refine blk_far ?_ NB289_310.out _; (with_reducible repeat (first | refine blk_drewN ?_ _ | refine blk_drew ?_ | refine blk_alloc ?_ _)); refine blk_far ?_ NB289_310.out _; (with_reducible repeat (first | refine blk_drewN ?_ _ | refine blk_drew ?_ | refine blk_alloc ?_ _)); exact BK289.out) hb); replace BK310 := ak (blk_below (g := gb310) (o := .cells #[.int .i16 t305, .slice Ao32 t306.length co32] 32 (0, 0)) (by (with_reducible repeat (first | refine blk_drewN ?_ _ | refine blk_drew ?_ | refine blk_alloc ?_ _)); refine blk_put (cs := #[.int .i16 t305, .slice none 0 0]) ?_ 1 _ rfl; (with_reducible repeat (first | refine blk_drewN ?_ _ | refine blk_drew ?_ | refine blk_alloc ?_ _)); refine blk_put (cs := #[.int .i16 0, .slice none 0 0]) ?_ 0 _ rfl; (with_reducible repeat (first | refine blk_drewN ?_ _ | refine blk_drew ?_ | refine blk_alloc ?_ _)); exact BK310.out) hb); replace HB := kB3 HB GE267 GE289 GE310 hb; (try clear hb); (try clear hk)))
 go_meet
 case rel => exact ⟨_, (true), (by first | rfl | (simp; done) | (simp [*]; done)), H', ⟨by first | omega | exact Nat.le_refl _⟩, ⟨by (with_reducible repeat (first | apply Kd.R_alloc | apply Kd.R_drewN | apply Kd.R_drew)); exact Kd.R_mono HO292.out (fun _ hk => trivial)⟩, ⟨by (with_reducible repeat (first | apply Kd.R_alloc | apply Kd.R_drewN | apply Kd.R_drew)); exact Kd.R_mono HO287.out (fun _ hk => hk.2)⟩, ⟨by (with_reducible repeat (first | apply Kd.R_alloc | apply Kd.R_drewN | apply Kd.R_drew)); exact Kd.R_mono HO308.out (fun _ hk => hk.2)⟩, ⟨(zK BK267.out)⟩, ⟨(zK BK289.out)⟩, ⟨(zK BK310.out)⟩, ⟨by repeat (first | (with_reducible first | exact HB.out | apply below_alloc | apply pw_below_drewN | apply below_drew1 | refine below_set ?_ GE267.out | refine below_set ?_ GE289.out | refine below_set ?_ GE310.out) | exact HB.out)⟩⟩
 }
 )
 case rest => (
 clear HC12
 try clear c1
 try clear c4
 try clear c4b0
 try clear hcz14_0
 try clear hcz14_1
 try clear hcz14_10
 try clear hcz14_11
 try clear hcz14_2
 try clear hcz14_3
 try clear hcz14_4
 try clear hcz14_5
 try clear hcz14_6
 try clear hcz14_7
 try clear hcz14_8
 try clear hcz14_9
 try clear hcz21_0
 try clear hcz21_1
 try clear hcz24_0
 try clear hcz24_1
 try clear hcz24_10
 try clear hcz24_11
 try clear hcz24_2
 try clear hcz24_3
 try clear hcz24_4
 try clear hcz24_5
 try clear hcz24_6
 try clear hcz24_7
 try clear hcz24_8
 try clear hcz24_9
 try clear hcz31_0
 try clear hcz31_1
 try clear hfz14_0
 try clear hfz14_1
 try clear hfz14_10
 try clear hfz14_11
 try clear hfz14_2
 try clear hfz14_3
 try clear hfz14_4
 try clear hfz14_5
 try clear hfz14_6
 try clear hfz14_7
 try clear hfz14_8
 try clear hfz14_9
 try clear hfz21_0
 try clear hfz21_1
 try clear hfz24_0
 try clear hfz24_1
 try clear hfz24_10
 try clear hfz24_11
 try clear hfz24_2
 try clear hfz24_3
 try clear hfz24_4
 try clear hfz24_5
 try clear hfz24_6
 try clear hfz24_7
 try clear hfz24_8
 try clear hfz24_9
 try clear hfz31_0
 try clear hfz31_1
 obtain ⟨kq, x46_11, rfl, HA, HJ11, HO_8, HO_290001, HO_311001, BK267, BK289, BK310, HB⟩ := hcut
 cases kq with
 | zero => exact absurd HA.out (by simp [laws_FnExactRopeFor.j0])
 | succ kj11 => (
 have H := HA.out
 clear HA
 simp only [laws_FnExactRopeFor.j0] at H
 by_cases c47 : x46_11 = true
 {
 subst c47
 have H1 : (some false) = some r := by rw [if_pos rfl] at H; exact H
 clear H
 have H := H1
 clear H1
 exact absurd ((Option.some.inj H).trans HT.out) (by decide)
 }
 {
 replace c47 := Bool.eq_false_iff.mpr c47
 subst c47
 have H1 : ((laws_toSpotS.f kj11 l1).bind fun t312 => ((laws_eqSpotS.f kj11 t290 t312).bind fun t315 => (if t315 = true then ((laws_markSpotS.f kj11 t290 1).bind fun bt316 => (if bt316.1 < 0 then (laws_FnExactRopeFor.j1 kj11 l1 t288 true a0_0 a0_1 a0_2 a0_3 a0_4 a0_5 a0_6 a0_7 a0_8 a0_9 a0_10 a0_11 t284 t285 t305 t306) else ((laws_eqRope.f kj11 t305 t306 t284 t285).bind fun t318 => (if t318 = true then (laws_FnExactRopeFor.j1 kj11 l1 t288 (t309 != t288) a0_0 a0_1 a0_2 a0_3 a0_4 a0_5 a0_6 a0_7 a0_8 a0_9 a0_10 a0_11 t284 t285 t305 t306) else (laws_FnExactRopeFor.j1 kj11 l1 t288 true a0_0 a0_1 a0_2 a0_3 a0_4 a0_5 a0_6 a0_7 a0_8 a0_9 a0_10 a0_11 t284 t285 t305 t306))))) else (some false)))) = some r := by rw [if_neg (show ¬ (false = true) by decide)] at H; exact H
 clear H
 have H := H1
 clear H1
 replace H := Option.bind_eq_some_iff.mp H
 obtain ⟨t312, A480, H⟩ := H
 replace H : ((laws_eqSpotS.f kj11 t290 t312).bind fun t315 => (if t315 = true then ((laws_markSpotS.f kj11 t290 1).bind fun bt316 => (if bt316.1 < 0 then (laws_FnExactRopeFor.j1 kj11 l1 t288 true a0_0 a0_1 a0_2 a0_3 a0_4 a0_5 a0_6 a0_7 a0_8 a0_9 a0_10 a0_11 t284 t285 t305 t306) else ((laws_eqRope.f kj11 t305 t306 t284 t285).bind fun t318 => (if t318 = true then (laws_FnExactRopeFor.j1 kj11 l1 t288 (t309 != t288) a0_0 a0_1 a0_2 a0_3 a0_4 a0_5 a0_6 a0_7 a0_8 a0_9 a0_10 a0_11 t284 t285 t305 t306) else (laws_FnExactRopeFor.j1 kj11 l1 t288 true a0_0 a0_1 a0_2 a0_3 a0_4 a0_5 a0_6 a0_7 a0_8 a0_9 a0_10 a0_11 t284 t285 t305 t306))))) else (some false))) = some r := H
 have A48 := ak A480
 clear A480
 replace H := Option.bind_eq_some_iff.mp H
 obtain ⟨t315, A490, H⟩ := H
 replace H : (if t315 = true then ((laws_markSpotS.f kj11 t290 1).bind fun bt316 => (if bt316.1 < 0 then (laws_FnExactRopeFor.j1 kj11 l1 t288 true a0_0 a0_1 a0_2 a0_3 a0_4 a0_5 a0_6 a0_7 a0_8 a0_9 a0_10 a0_11 t284 t285 t305 t306) else ((laws_eqRope.f kj11 t305 t306 t284 t285).bind fun t318 => (if t318 = true then (laws_FnExactRopeFor.j1 kj11 l1 t288 (t309 != t288) a0_0 a0_1 a0_2 a0_3 a0_4 a0_5 a0_6 a0_7 a0_8 a0_9 a0_10 a0_11 t284 t285 t305 t306) else (laws_FnExactRopeFor.j1 kj11 l1 t288 true a0_0 a0_1 a0_2 a0_3 a0_4 a0_5 a0_6 a0_7 a0_8 a0_9 a0_10 a0_11 t284 t285 t305 t306))))) else (some false)) = some r := H
 have A49 := ak A490
 clear A490
 by_cases c50 : t315 = true
 {
 subst c50
 have H1 : ((laws_markSpotS.f kj11 t290 1).bind fun bt316 => (if bt316.1 < 0 then (laws_FnExactRopeFor.j1 kj11 l1 t288 true a0_0 a0_1 a0_2 a0_3 a0_4 a0_5 a0_6 a0_7 a0_8 a0_9 a0_10 a0_11 t284 t285 t305 t306) else ((laws_eqRope.f kj11 t305 t306 t284 t285).bind fun t318 => (if t318 = true then (laws_FnExactRopeFor.j1 kj11 l1 t288 (t309 != t288) a0_0 a0_1 a0_2 a0_3 a0_4 a0_5 a0_6 a0_7 a0_8 a0_9 a0_10 a0_11 t284 t285 t305 t306) else (laws_FnExactRopeFor.j1 kj11 l1 t288 true a0_0 a0_1 a0_2 a0_3 a0_4 a0_5 a0_6 a0_7 a0_8 a0_9 a0_10 a0_11 t284 t285 t305 t306))))) = some r := by rw [if_pos rfl] at H; exact H
 clear H
 have H := H1
 clear H1
 replace H := Option.bind_eq_some_iff.mp H
 obtain ⟨⟨t316, t317⟩, A510, H⟩ := H
 replace H : (if t316 < 0 then (laws_FnExactRopeFor.j1 kj11 l1 t288 true a0_0 a0_1 a0_2 a0_3 a0_4 a0_5 a0_6 a0_7 a0_8 a0_9 a0_10 a0_11 t284 t285 t305 t306) else ((laws_eqRope.f kj11 t305 t306 t284 t285).bind fun t318 => (if t318 = true then (laws_FnExactRopeFor.j1 kj11 l1 t288 (t309 != t288) a0_0 a0_1 a0_2 a0_3 a0_4 a0_5 a0_6 a0_7 a0_8 a0_9 a0_10 a0_11 t284 t285 t305 t306) else (laws_FnExactRopeFor.j1 kj11 l1 t288 true a0_0 a0_1 a0_2 a0_3 a0_4 a0_5 a0_6 a0_7 a0_8 a0_9 a0_10 a0_11 t284 t285 t305 t306)))) = some r := H
 have A51 := ak A510
 clear A510
 have HC52 := ak H
 clear H
 go_upto_region 14 with (first | ((with_reducible refine gate_callee (f := 10) rfl ?_); refine goesL_ (some 49) rfl rfl Try.func10 (by kernel_rfl) rfl #[.slice A1 l1.length c1] rfl (by (try simp only [List.map_toArray, List.map_cons, List.map_nil]); first | done | rfl | (simp only [List.length_drop, List.length_take]; rfl)) ?_; (with_reducible refine (laws_toSpotS.calls kj11 _ _ l1 t312 _ ?side1 ?side2 A48.out).mono ?_); (case side1 => repeat (first | exact (Kd.C_below HR1.out HB.out) | (with_reducible refine Kd.C_alloc ?_ _) | (with_reducible refine Kd.C_drewN ?_ _) | (with_reducible refine Kd.C_drew ?_))); (case side2 => exact HC1.out); rintro e w53 ⟨v313, rfl, ho0, hb⟩; refine ⟨_, rfl, ?_⟩; have HO314 := ak (Kd.R_lower (Kd.R_new' ho0 (Kd.R_lt (zR HO_8.out))) (below_size (by repeat (first | (with_reducible first | exact HB.out | apply below_alloc | apply pw_below_drewN | apply below_drew1 | refine below_set ?_ GE267.out | refine below_set ?_ GE289.out | refine below_set ?_ GE310.out) | exact HB.out)))); replace HO_8 := kE HO_8 ho0 hb; replace HO_290001 := kR HO_290001 hb; replace HO_311001 := kR HO_311001 hb; replace BK267 := kK BK267 hb; replace BK289 := kK BK289 hb; replace BK310 := kK BK310 hb; replace HB := kB3 HB GE267 GE289 GE310 hb; (try clear hb); (try clear ho0); obtain ⟨Ao54, co54, eo54⟩ := Kd.R_slice HO314.out; subst eo54) | ((with_reducible refine gate_callee (f := 13) rfl ?_); refine goesL_ (some 50) rfl rfl Try.func13 (by kernel_rfl) rfl #[.slice Ao26 t290.length co26, .slice Ao54 t312.length co54] rfl (by (try simp only [List.map_toArray, List.map_cons, List.map_nil]); first | done | rfl | (simp only [List.length_drop, List.length_take]; rfl)) ?_; (with_reducible refine (laws_eqSpotS.calls kj11 _ _ t290 _ _ t312 true _ ?side1 ?side2 ?side3 ?side4 A49.out).mono ?_); (case side1 => exact sC HO_8); (case side2 => exact sL HO_8); (case side3 => exact sC HO314); (case side4 => exact sL HO314); rintro e w55 ⟨rfl, hb⟩; refine ⟨_, rfl, ?_⟩; replace HO_8 := kR HO_8 hb; replace HO_290001 := kR HO_290001 hb; replace HO_311001 := kR HO_311001 hb; replace HO314 := kR HO314 hb; replace BK267 := kK BK267 hb; replace BK289 := kK BK289 hb; replace BK310 := kK BK310 hb; replace HB := kB3 HB GE267 GE289 GE310 hb; (try clear hb)) | ((with_reducible refine gate_callee (f := 14) rfl ?_); refine goesL_ (some 54) rfl rfl Try.func14 (by kernel_rfl) rfl #[.slice Ao26 t290.length co26, .int .i64 1] rfl (by (try simp only [List.map_toArray, List.map_cons, List.map_nil]); first | done | rfl | (simp only [List.length_drop, List.length_take]; rfl)) ?_; (with_reducible refine (laws_markSpotS.calls kj11 (fun k_ => some k_ = (.slice Ao26 t290.length co26 : Value).ownBlock) (.slice Ao26 t290.length co26) t290 1 t316 t317 w _ ?side1 ?side2 A51.out).mono ?_); (case side1 => repeat (first | (with_reducible first | exact HB.out | apply below_alloc | apply pw_below_drewN | apply below_drew1 | refine below_set ?_ GE267.out | refine below_set ?_ GE289.out | refine below_set ?_ GE310.out) | exact HB.out)); (case side2 => exact Kd.R_tight rfl HO_8.out); rintro e w56 ⟨rfl, hy0, hb, hkp⟩; refine ⟨_, rfl, ?_⟩; replace HO_290001 := ak (Kd.R_mono (ok' := fun k_ => some k_ ≠ (.slice Ao32 t306.length co32 : Value).ownBlock) (Kd.R_keptB ((Kd.R_apart' HO_290001.out (Kd.R_typed HO_8.out) (by decide))) hkp (fun k_ hk_ hs_ => (hk_.2) hs_)) (fun k_ hk_ => hk_.1.1)); replace HO_311001 := ak (Kd.R_mono (ok' := fun k_ => some k_ ≠ (.slice Ao22 t285.length co22 : Value).ownBlock) (Kd.R_keptB ((Kd.R_apart' HO_311001.out (Kd.R_typed HO_8.out) (by decide))) hkp (fun k_ hk_ hs_ => (hk_.2) hs_)) (fun k_ hk_ => hk_.1.1)); replace BK267 := ak (blk_kept (zK BK267.out) hkp (fun hs_ => (fun e_ => (Kd.R_ne HO_8.out BK267.out (by decide)) e_) hs_)); replace BK289 := ak (blk_kept (zK BK289.out) hkp (fun hs_ => (fun e_ => (Kd.R_ne HO_8.out BK289.out (by decide)) e_) hs_)); replace BK310 := ak (blk_kept (zK BK310.out) hkp (fun hs_ => (fun e_ => (Kd.R_ne HO_8.out BK310.out (by decide)) e_) hs_)); replace HO_8 := ak (Kd.R_reok rfl hy0 (fun k_ e_ => HO_8.out.1 k_ e_)); replace HO314 := ak (Kd.R_mono (ok' := fun k_ => some k_ ≠ (.slice Ao26 t290.length co26 : Value).ownBlock) (Kd.R_keptB (HO314.out) hkp (fun k_ hk_ hs_ => (hk_.2) hs_)) (fun k_ hk_ => hk_.1.2)); replace HB := ak (hb); (try clear hb); (try clear hkp); (try clear hy0)))
 (try simp only [Act.put, zs, zz, zk])
 go_cut [67] (fun v67 wc => ∃ (kq : Nat) (x67_51 : Bool), v67 = .bool x67_51 ∧ Aside0 (laws_FnExactRopeFor.j1 kq l1 t288 x67_51 a0_0 a0_1 a0_2 a0_3 a0_4 a0_5 a0_6 a0_7 a0_8 a0_9 a0_10 a0_11 t284 t285 t305 t306 = some r) ∧ Aside0 (kq ≤ kj11) ∧ Aside0 (Kd.R (Kd.int .i16) 29 wc w.heap.size (fun k_ => some k_ ≠ ((.slice Ao32 t306.length co32) : Value).ownBlock) (.slice Ao22 t285.length co22) t285) ∧ Aside0 (Kd.R (Kd.int .i16) 29 wc w.heap.size (fun k_ => some k_ ≠ ((.slice Ao22 t285.length co22) : Value).ownBlock) (.slice Ao32 t306.length co32) t306) ∧ Aside0 (wc.heap[gb267]? = some (.cells #[.int .i8 a0_0, .int .i8 a0_1, .int .u16 a0_2, .int .u16 a0_3, .int .u16 a0_4, .int .u16 a0_5, .int .u16 a0_6, .int .u16 a0_7, .int .u16 a0_8, .int .u16 a0_9, .int .u16 a0_10, .int .u16 a0_11] 26 (0, 0))) ∧ Aside0 (wc.heap[gb289]? = some (.cells #[.int .i16 t284, (.slice Ao22 t285.length co22)] 32 (0, 0))) ∧ Aside0 (wc.heap[gb310]? = some (.cells #[.int .i16 t305, (.slice Ao32 t306.length co32)] 32 (0, 0))) ∧ Aside0 (Below w.heap.size w wc))
 case first => (
 have H := HC52.out
 clear HC52
 by_cases c57 : t316 < 0
 {
 rw [if_pos c57] at H
 have c57b0 : decide (t316 < 0) = true := decide_eq_true c57
 clear c57
 (first | rw [c57b0] | (simp only [i64_w, i32_w]; rw [c57b0]) | skip)
 have H' := ak H
 clear H
 go_wp2
 go_meet
 case rel => exact ⟨_, (true), (by first | rfl | (simp; done) | (simp [*]; done)), H', ⟨by have := HJ11.out; first | omega | exact Nat.le_refl _⟩, ⟨(zR HO_290001.out)⟩, ⟨(zR HO_311001.out)⟩, ⟨(zK BK267.out)⟩, ⟨(zK BK289.out)⟩, ⟨(zK BK310.out)⟩, ⟨by repeat (first | (with_reducible first | exact HB.out | apply below_alloc | apply pw_below_drewN | apply below_drew1 | refine below_set ?_ GE267.out | refine below_set ?_ GE289.out | refine below_set ?_ GE310.out) | exact HB.out)⟩⟩
 }
 {
 rw [if_neg c57] at H
 have c57b0 : decide (t316 < 0) = false := decide_eq_false c57
 clear c57
 (first | rw [c57b0] | (simp only [i64_w, i32_w]; rw [c57b0]) | skip)
 replace H := Option.bind_eq_some_iff.mp H
 obtain ⟨t318, A580, H⟩ := H
 replace H : (if t318 = true then (laws_FnExactRopeFor.j1 kj11 l1 t288 (t309 != t288) a0_0 a0_1 a0_2 a0_3 a0_4 a0_5 a0_6 a0_7 a0_8 a0_9 a0_10 a0_11 t284 t285 t305 t306) else (laws_FnExactRopeFor.j1 kj11 l1 t288 true a0_0 a0_1 a0_2 a0_3 a0_4 a0_5 a0_6 a0_7 a0_8 a0_9 a0_10 a0_11 t284 t285 t305 t306)) = some r := H
 have A58 := ak A580
 clear A580
 by_cases c59 : t318 = true
 {
 subst c59
 have H1 : (laws_FnExactRopeFor.j1 kj11 l1 t288 (t309 != t288) a0_0 a0_1 a0_2 a0_3 a0_4 a0_5 a0_6 a0_7 a0_8 a0_9 a0_10 a0_11 t284 t285 t305 t306) = some r := by rw [if_pos rfl] at H; exact H
 clear H
 have H := H1
 clear H1
 have H' := ak H
 clear H
 have hnb60 := NB310_267.out
 have hnc60 := NB267_310.out
 have hnb61 := NB310_289.out
 have hnc61 := NB289_310.out
 have hcz62_0 : w56.cell? ⟨gb310, 0, none⟩ = some (.int .i16 t305) := (blk_cell BK310.out 0).trans rfl
 have hcz62_1 : w56.cell? ⟨gb310, 1, none⟩ = some (.slice Ao32 t306.length co32) := (blk_cell BK310.out 1).trans rfl
 have hfz62_0 := blk_frozen BK310.out 0
 have hfz62_1 := blk_frozen BK310.out 1
 have hnb63 := NB289_267.out
 have hnc63 := NB267_289.out
 have hcz64_0 : w56.cell? ⟨gb289, 0, none⟩ = some (.int .i16 t284) := (blk_cell BK289.out 0).trans rfl
 have hcz64_1 : w56.cell? ⟨gb289, 1, none⟩ = some (.slice Ao22 t285.length co22) := (blk_cell BK289.out 1).trans rfl
 have hfz64_0 := blk_frozen BK289.out 0
 have hfz64_1 := blk_frozen BK289.out 1
 go_wp2_with (first | (go_at_call 12; (with_reducible refine (laws_eqRope.calls kj11 t305 _ _ t306 t284 _ _ t285 true _ ?side1 ?side2 ?side3 ?side4 A58.out).mono ?_); (case side1 => exact sC HO_311001); (case side2 => exact sL HO_311001); (case side3 => exact sC HO_290001); (case side4 => exact sL HO_290001); rintro e w65 ⟨rfl, hb⟩; replace HO_8 := kR HO_8 hb; replace HO_290001 := kR HO_290001 hb; replace HO_311001 := kR HO_311001 hb; replace HO314 := kR HO314 hb; replace BK267 := kK BK267 hb; replace BK289 := kK BK289 hb; replace BK310 := kK BK310 hb; replace HB := kB3 HB GE267 GE289 GE310 hb; (try clear hb)))
 go_meet
 case rel => exact ⟨_, ((t309 != t288)), (by first | rfl | (simp; done) | (simp [*]; done)), H', ⟨by have := HJ11.out; first | omega | exact Nat.le_refl _⟩, ⟨(zR HO_290001.out)⟩, ⟨(zR HO_311001.out)⟩, ⟨(zK BK267.out)⟩, ⟨(zK BK289.out)⟩, ⟨(zK BK310.out)⟩, ⟨by repeat (first | (with_reducible first | exact HB.out | apply below_alloc | apply pw_below_drewN | apply below_drew1 | refine below_set ?_ GE267.out | refine below_set ?_ GE289.out | refine below_set ?_ GE310.out) | exact HB.out)⟩⟩
 }
 {
 replace c59 := Bool.eq_false_iff.mpr c59
 subst c59
 have H1 : (laws_FnExactRopeFor.j1 kj11 l1 t288 true a0_0 a0_1 a0_2 a0_3 a0_4 a0_5 a0_6 a0_7 a0_8 a0_9 a0_10 a0_11 t284 t285 t305 t306) = some r := by rw [if_neg (show ¬ (false = true) by decide)] at H; exact H
 clear H
 have H := H1
 clear H1
 have H' := ak H
 clear H
 have hnb66 := NB310_267.out
 have hnc66 := NB267_310.out
 have hnb67 := NB310_289.out
 have hnc67 := NB289_310.out
 have hcz68_0 : w56.cell? ⟨gb310, 0, none⟩ = some (.int .i16 t305) := (blk_cell BK310.out 0).trans rfl
 have hcz68_1 : w56.cell? ⟨gb310, 1, none⟩ = some (.slice Ao32 t306.length co32) := (blk_cell BK310.out 1).trans rfl
 have hfz68_0 := blk_frozen BK310.out 0
 have hfz68_1 := blk_frozen BK310.out 1
 have hnb69 := NB289_267.out
 have hnc69 := NB267_289.out
 have hcz70_0 : w56.cell? ⟨gb289, 0, none⟩ = some (.int .i16 t284) := (blk_cell BK289.out 0).trans rfl
 have hcz70_1 : w56.cell? ⟨gb289, 1, none⟩ = some (.slice Ao22 t285.length co22) := (blk_cell BK289.out 1).trans rfl
 have hfz70_0 := blk_frozen BK289.out 0
 have hfz70_1 := blk_frozen BK289.out 1
 go_wp2_with (first | (go_at_call 12; (with_reducible refine (laws_eqRope.calls kj11 t305 _ _ t306 t284 _ _ t285 false _ ?side1 ?side2 ?side3 ?side4 A58.out).mono ?_); (case side1 => exact sC HO_311001); (case side2 => exact sL HO_311001); (case side3 => exact sC HO_290001); (case side4 => exact sL HO_290001); rintro e w71 ⟨rfl, hb⟩; replace HO_8 := kR HO_8 hb; replace HO_290001 := kR HO_290001 hb; replace HO_311001 := kR HO_311001 hb; replace HO314 := kR HO314 hb; replace BK267 := kK BK267 hb; replace BK289 := kK BK289 hb; replace BK310 := kK BK310 hb; replace HB := kB3 HB GE267 GE289 GE310 hb; (try clear hb)))
 go_meet
 case rel => exact ⟨_, (true), (by first | rfl | (simp; done) | (simp [*]; done)), H', ⟨by have := HJ11.out; first | omega | exact Nat.le_refl _⟩, ⟨(zR HO_290001.out)⟩, ⟨(zR HO_311001.out)⟩, ⟨(zK BK267.out)⟩, ⟨(zK BK289.out)⟩, ⟨(zK BK310.out)⟩, ⟨by repeat (first | (with_reducible first | exact HB.out | apply below_alloc | apply pw_below_drewN | apply below_drew1 | refine below_set ?_ GE267.out | refine below_set ?_ GE289.out | refine below_set ?_ GE310.out) | exact HB.out)⟩⟩
 }
 }
 )
 case rest => (
 clear HC52
 try clear c1
 try clear c4
 try clear c4b0
 try clear c47
 try clear c50
 try clear hcz14_0
 try clear hcz14_1
 try clear hcz14_10
 try clear hcz14_11
 try clear hcz14_2
 try clear hcz14_3
 try clear hcz14_4
 try clear hcz14_5
 try clear hcz14_6
 try clear hcz14_7
 try clear hcz14_8
 try clear hcz14_9
 try clear hcz21_0
 try clear hcz21_1
 try clear hcz24_0
 try clear hcz24_1
 try clear hcz24_10
 try clear hcz24_11
 try clear hcz24_2
 try clear hcz24_3
 try clear hcz24_4
 try clear hcz24_5
 try clear hcz24_6
 try clear hcz24_7
 try clear hcz24_8
 try clear hcz24_9
 try clear hcz31_0
 try clear hcz31_1
 try clear hfz14_0
 try clear hfz14_1
 try clear hfz14_10
 try clear hfz14_11
 try clear hfz14_2
 try clear hfz14_3
 try clear hfz14_4
 try clear hfz14_5
 try clear hfz14_6
 try clear hfz14_7
 try clear hfz14_8
 try clear hfz14_9
 try clear hfz21_0
 try clear hfz21_1
 try clear hfz24_0
 try clear hfz24_1
 try clear hfz24_10
 try clear hfz24_11
 try clear hfz24_2
 try clear hfz24_3
 try clear hfz24_4
 try clear hfz24_5
 try clear hfz24_6
 try clear hfz24_7
 try clear hfz24_8
 try clear hfz24_9
 try clear hfz31_0
 try clear hfz31_1
 obtain ⟨kq, x67_51, rfl, HA, HJ51, HO_290001, HO_311001, BK267, BK289, BK310, HB⟩ := hcut
 cases kq with
 | zero => exact absurd HA.out (by simp [laws_FnExactRopeFor.j1])
 | succ kj51 => (
 have H := HA.out
 clear HA
 simp only [laws_FnExactRopeFor.j1] at H
 by_cases c72 : x67_51 = true
 {
 subst c72
 have H1 : (some false) = some r := by rw [if_pos rfl] at H; exact H
 clear H
 have H := H1
 clear H1
 exact absurd ((Option.some.inj H).trans HT.out) (by decide)
 }
 {
 replace c72 := Bool.eq_false_iff.mpr c72
 subst c72
 have H1 : ((laws_markRope.f kj51 t305 t306 1).bind fun bt319 => ((laws_heldRope.f kj51 t305 bt319.2 1).bind fun t321 => (if t321 < 0 then (some false) else (if t321 = bt319.1 then ((laws_toRoom.f kj51 a0_0 a0_1 a0_2 a0_3 a0_4 a0_5 a0_6 a0_7 a0_8 a0_9 a0_10 a0_11).bind fun bt322 => ((laws_toSpotS.f kj51 l1).bind fun t334 => ((impl_RopeFor.f kj51 bt322.1 bt322.2.1 bt322.2.2.1 bt322.2.2.2.1 bt322.2.2.2.2.1 bt322.2.2.2.2.2.1 bt322.2.2.2.2.2.2.1 bt322.2.2.2.2.2.2.2.1 bt322.2.2.2.2.2.2.2.2.1 bt322.2.2.2.2.2.2.2.2.2.1 bt322.2.2.2.2.2.2.2.2.2.2.1 bt322.2.2.2.2.2.2.2.2.2.2.2 t334).bind fun bt337 => ((laws_eqRope.f kj51 bt337.1 bt337.2.1 t284 t285).bind fun t343 => (if t343 = true then (laws_FnExactRopeFor.j2 kj51 bt319.1 (bt337.2.2 != t288) t305 bt319.2) else (laws_FnExactRopeFor.j2 kj51 bt319.1 true t305 bt319.2)))))) else (some false))))) = some r := by rw [if_neg (show ¬ (false = true) by decide)] at H; exact H
 clear H
 have H := H1
 clear H1
 replace H := Option.bind_eq_some_iff.mp H
 obtain ⟨⟨t319, t320⟩, A730, H⟩ := H
 replace H : ((laws_heldRope.f kj51 t305 t320 1).bind fun t321 => (if t321 < 0 then (some false) else (if t321 = t319 then ((laws_toRoom.f kj51 a0_0 a0_1 a0_2 a0_3 a0_4 a0_5 a0_6 a0_7 a0_8 a0_9 a0_10 a0_11).bind fun bt322 => ((laws_toSpotS.f kj51 l1).bind fun t334 => ((impl_RopeFor.f kj51 bt322.1 bt322.2.1 bt322.2.2.1 bt322.2.2.2.1 bt322.2.2.2.2.1 bt322.2.2.2.2.2.1 bt322.2.2.2.2.2.2.1 bt322.2.2.2.2.2.2.2.1 bt322.2.2.2.2.2.2.2.2.1 bt322.2.2.2.2.2.2.2.2.2.1 bt322.2.2.2.2.2.2.2.2.2.2.1 bt322.2.2.2.2.2.2.2.2.2.2.2 t334).bind fun bt337 => ((laws_eqRope.f kj51 bt337.1 bt337.2.1 t284 t285).bind fun t343 => (if t343 = true then (laws_FnExactRopeFor.j2 kj51 t319 (bt337.2.2 != t288) t305 t320) else (laws_FnExactRopeFor.j2 kj51 t319 true t305 t320)))))) else (some false)))) = some r := H
 have A73 := ak A730
 clear A730
 replace H := Option.bind_eq_some_iff.mp H
 obtain ⟨t321, A740, H⟩ := H
 replace H : (if t321 < 0 then (some false) else (if t321 = t319 then ((laws_toRoom.f kj51 a0_0 a0_1 a0_2 a0_3 a0_4 a0_5 a0_6 a0_7 a0_8 a0_9 a0_10 a0_11).bind fun bt322 => ((laws_toSpotS.f kj51 l1).bind fun t334 => ((impl_RopeFor.f kj51 bt322.1 bt322.2.1 bt322.2.2.1 bt322.2.2.2.1 bt322.2.2.2.2.1 bt322.2.2.2.2.2.1 bt322.2.2.2.2.2.2.1 bt322.2.2.2.2.2.2.2.1 bt322.2.2.2.2.2.2.2.2.1 bt322.2.2.2.2.2.2.2.2.2.1 bt322.2.2.2.2.2.2.2.2.2.2.1 bt322.2.2.2.2.2.2.2.2.2.2.2 t334).bind fun bt337 => ((laws_eqRope.f kj51 bt337.1 bt337.2.1 t284 t285).bind fun t343 => (if t343 = true then (laws_FnExactRopeFor.j2 kj51 t319 (bt337.2.2 != t288) t305 t320) else (laws_FnExactRopeFor.j2 kj51 t319 true t305 t320)))))) else (some false))) = some r := H
 have A74 := ak A740
 clear A740
 by_cases c75 : t321 < 0
 · rw [if_pos c75] at H; have c75b0 : decide (t321 < 0) = true := decide_eq_true c75; clear c75; exact absurd ((Option.some.inj H).trans HT.out) (by decide)
 {
 rw [if_neg c75] at H
 have c75b0 : decide (t321 < 0) = false := decide_eq_false c75
 clear c75
 by_cases c76 : t321 = t319
 {
 rw [if_pos c76] at H
 have c76b0 : (t321 == t319) = true := beq_iff_eq.mpr c76
 have c76b1 : (t321 != t319) = false := bne_eq_false_iff_eq.mpr c76
 clear c76
 replace H := Option.bind_eq_some_iff.mp H
 obtain ⟨⟨t322, t323, t324, t325, t326, t327, t328, t329, t330, t331, t332, t333⟩, A770, H⟩ := H
 replace H : ((laws_toSpotS.f kj51 l1).bind fun t334 => ((impl_RopeFor.f kj51 t322 t323 t324 t325 t326 t327 t328 t329 t330 t331 t332 t333 t334).bind fun bt337 => ((laws_eqRope.f kj51 bt337.1 bt337.2.1 t284 t285).bind fun t343 => (if t343 = true then (laws_FnExactRopeFor.j2 kj51 t319 (bt337.2.2 != t288) t305 t320) else (laws_FnExactRopeFor.j2 kj51 t319 true t305 t320))))) = some r := H
 have A77 := ak A770
 clear A770
 replace H := Option.bind_eq_some_iff.mp H
 obtain ⟨t334, A780, H⟩ := H
 replace H : ((impl_RopeFor.f kj51 t322 t323 t324 t325 t326 t327 t328 t329 t330 t331 t332 t333 t334).bind fun bt337 => ((laws_eqRope.f kj51 bt337.1 bt337.2.1 t284 t285).bind fun t343 => (if t343 = true then (laws_FnExactRopeFor.j2 kj51 t319 (bt337.2.2 != t288) t305 t320) else (laws_FnExactRopeFor.j2 kj51 t319 true t305 t320)))) = some r := H
 have A78 := ak A780
 clear A780
 replace H := Option.bind_eq_some_iff.mp H
 obtain ⟨⟨t337, t338, t341⟩, A790, H⟩ := H
 replace H : ((laws_eqRope.f kj51 t337 t338 t284 t285).bind fun t343 => (if t343 = true then (laws_FnExactRopeFor.j2 kj51 t319 (t341 != t288) t305 t320) else (laws_FnExactRopeFor.j2 kj51 t319 true t305 t320))) = some r := H
 have A79 := ak A790
 clear A790
 have HC80 := ak H
 clear H
 have hnb81 := NB310_267.out
 have hnc81 := NB267_310.out
 have hnb82 := NB310_289.out
 have hnc82 := NB289_310.out
 have hcz83_0 : wc.cell? ⟨gb310, 0, none⟩ = some (.int .i16 t305) := (blk_cell BK310.out 0).trans rfl
 have hcz83_1 : wc.cell? ⟨gb310, 1, none⟩ = some (.slice Ao32 t306.length co32) := (blk_cell BK310.out 1).trans rfl
 have hfz83_0 := blk_frozen BK310.out 0
 have hfz83_1 := blk_frozen BK310.out 1
 go_upto_region 25 with (first | ((with_reducible refine gate_callee (f := 15) rfl ?_); refine goesL_ (some 70) rfl rfl Try.func15 (by kernel_rfl) rfl #[.agg #[.int .i16 t305, .slice Ao32 t306.length co32], .int .i64 1] rfl (by (try simp only [List.map_toArray, List.map_cons, List.map_nil]); first | done | rfl | (simp only [List.length_drop, List.length_take]; rfl)) ?_; (with_reducible refine (laws_markRope.calls kj51 t305 (fun k_ => some k_ = (.slice Ao32 t306.length co32 : Value).ownBlock) (.slice Ao32 t306.length co32) t306 1 t319 t320 w _ ?side1 ?side2 A73.out).mono ?_); (case side1 => repeat (first | (with_reducible first | exact HB.out | apply below_alloc | apply pw_below_drewN | apply below_drew1 | refine below_set ?_ GE267.out | refine below_set ?_ GE289.out | refine below_set ?_ GE310.out) | exact HB.out)); (case side2 => exact Kd.R_tight rfl HO_311001.out); rintro e w84 ⟨rfl, hy0, hb, hkp⟩; refine ⟨_, rfl, ?_⟩; replace HO_290001 := ak (Kd.R_mono (ok' := fun k_ => some k_ ≠ (.slice Ao32 t306.length co32 : Value).ownBlock) (Kd.R_keptB (HO_290001.out) hkp (fun k_ hk_ hs_ => (hk_) hs_)) (fun k_ hk_ => hk_.1)); replace BK267 := ak (blk_kept (zK BK267.out) hkp (fun hs_ => (fun e_ => (Kd.R_ne HO_311001.out BK267.out (by decide)) e_) hs_)); replace BK289 := ak (blk_kept (zK BK289.out) hkp (fun hs_ => (fun e_ => (Kd.R_ne HO_311001.out BK289.out (by decide)) e_) hs_)); replace BK310 := ak (blk_kept (zK BK310.out) hkp (fun hs_ => (fun e_ => (Kd.R_ne HO_311001.out BK310.out (by decide)) e_) hs_)); replace HO_311001 := ak (Kd.R_reok rfl hy0 (fun k_ e_ => HO_311001.out.1 k_ e_)); replace HB := ak (hb); (try clear hb); (try clear hkp); (try clear hy0); obtain ⟨hcz85_0, hcz85_1, hfz85_0, hfz85_1⟩ := cz2 w84 BK310) | ((with_reducible refine gate_callee (f := 16) rfl ?_); refine goesL_ (some 73) rfl rfl Try.func16 (by kernel_rfl) rfl #[.agg #[.int .i16 t305, .slice Ao32 t320.length co32], .int .i64 1] rfl (by (try simp only [List.map_toArray, List.map_cons, List.map_nil]); first | done | (rw [show t320.length = t306.length from (Kd.R_reads' HO_311001.out).1.symm] <;> rfl) | rfl | (simp only [List.length_drop, List.length_take]; rfl)) ?_; (with_reducible refine (laws_heldRope.calls kj51 t305 _ _ t320 1 t321 _ ?side1 ?side2 A74.out).mono ?_); (case side1 => exact sC HO_311001); (case side2 => rw [show t320.length = t306.length from (Kd.R_reads' HO_311001.out).1.symm]; exact (Kd.R_reads' HO_311001.out).2.1); rintro e w86 ⟨rfl, hb⟩; refine ⟨_, rfl, ?_⟩; replace HO_290001 := kR HO_290001 hb; replace HO_311001 := kR HO_311001 hb; replace BK267 := kK BK267 hb; replace BK289 := kK BK289 hb; replace BK310 := kK BK310 hb; replace HB := kB3 HB GE267 GE289 GE310 hb; (try clear hb); have hnb87 := NB267_289.out; have hnc87 := NB289_267.out; obtain ⟨hcz88_0, hcz88_1, hcz88_2, hcz88_3, hcz88_4, hcz88_5, hcz88_6, hcz88_7, hcz88_8, hcz88_9, hcz88_10, hcz88_11, hfz88_0, hfz88_1, hfz88_2, hfz88_3, hfz88_4, hfz88_5, hfz88_6, hfz88_7, hfz88_8, hfz88_9, hfz88_10, hfz88_11⟩ := cz12 w86 BK267) | ((with_reducible refine gate_callee (f := 9) rfl ?_); refine goesL_ (some 81) rfl rfl Try.func9 (by kernel_rfl) rfl #[.agg #[.int .i8 a0_0, .int .i8 a0_1, .int .u16 a0_2, .int .u16 a0_3, .int .u16 a0_4, .int .u16 a0_5, .int .u16 a0_6, .int .u16 a0_7, .int .u16 a0_8, .int .u16 a0_9, .int .u16 a0_10, .int .u16 a0_11]] rfl (by (try simp only [List.map_toArray, List.map_cons, List.map_nil]); first | done | rfl | (simp only [List.length_drop, List.length_take]; rfl)) ?_; (with_reducible refine (laws_toRoom.calls kj51 a0_0 a0_1 a0_2 a0_3 a0_4 a0_5 a0_6 a0_7 a0_8 a0_9 a0_10 a0_11 t322 t323 t324 t325 t326 t327 t328 t329 t330 t331 t332 t333 _ A77.out).mono ?_); rintro e w89 ⟨rfl, hb⟩; refine ⟨_, rfl, ?_⟩; replace HO_290001 := kR HO_290001 hb; replace HO_311001 := kR HO_311001 hb; replace BK267 := kK BK267 hb; replace BK289 := kK BK289 hb; replace BK310 := kK BK310 hb; replace HB := kB3 HB GE267 GE289 GE310 hb; (try clear hb)) | ((with_reducible refine gate_callee (f := 10) rfl ?_); refine goesL_ (some 83) rfl rfl Try.func10 (by kernel_rfl) rfl #[.slice A1 l1.length c1] rfl (by (try simp only [List.map_toArray, List.map_cons, List.map_nil]); first | done | rfl | (simp only [List.length_drop, List.length_take]; rfl)) ?_; (with_reducible refine (laws_toSpotS.calls kj51 _ _ l1 t334 _ ?side1 ?side2 A78.out).mono ?_); (case side1 => repeat (first | exact (Kd.C_below HR1.out HB.out) | (with_reducible refine Kd.C_alloc ?_ _) | (with_reducible refine Kd.C_drewN ?_ _) | (with_reducible refine Kd.C_drew ?_))); (case side2 => exact HC1.out); rintro e w90 ⟨v335, rfl, ho0, hb⟩; refine ⟨_, rfl, ?_⟩; have HO336 := ak (Kd.R_lower ho0 (below_size (by repeat (first | (with_reducible first | exact HB.out | apply below_alloc | apply pw_below_drewN | apply below_drew1 | refine below_set ?_ GE267.out | refine below_set ?_ GE289.out | refine below_set ?_ GE310.out) | exact HB.out)))); replace HO_290001 := kR HO_290001 hb; replace HO_311001 := kR HO_311001 hb; replace BK267 := kK BK267 hb; replace BK289 := kK BK289 hb; replace BK310 := kK BK310 hb; replace HB := kB3 HB GE267 GE289 GE310 hb; (try clear hb); (try clear ho0); obtain ⟨Ao91, co91, eo91⟩ := Kd.R_slice HO336.out; subst eo91) | ((with_reducible refine gate_callee (f := 11) rfl ?_); refine goesL_ (some 84) rfl rfl Try.func11 (by kernel_rfl) rfl #[.agg #[.int .i8 t322, .int .i8 t323, .int .u16 t324, .int .u16 t325, .int .u16 t326, .int .u16 t327, .int .u16 t328, .int .u16 t329, .int .u16 t330, .int .u16 t331, .int .u16 t332, .int .u16 t333], .slice Ao91 t334.length co91] rfl (by (try simp only [List.map_toArray, List.map_cons, List.map_nil]); first | done | rfl | (simp only [List.length_drop, List.length_take]; rfl)) ?_; (with_reducible refine (impl_RopeFor.calls kj51 t322 t323 t324 t325 t326 t327 t328 t329 t330 t331 t332 t333 _ _ t334 t337 t338 t341 _ ?side1 ?side2 A79.out).mono ?_); (case side1 => exact sC HO336); (case side2 => exact sL HO336); rintro e w92 ⟨v339, rfl, ho0, hb⟩; refine ⟨_, rfl, ?_⟩; have HO340 := ak (Kd.R_lower (Kd.R_new' (Kd.R_new' ho0 (Kd.R_lt (zR HO_290001.out))) (Kd.R_lt (zR HO_311001.out))) (below_size (by repeat (first | (with_reducible first | exact HB.out | apply below_alloc | apply pw_below_drewN | apply below_drew1 | refine below_set ?_ GE267.out | refine below_set ?_ GE289.out | refine below_set ?_ GE310.out) | exact HB.out)))); replace HO_290001 := kE HO_290001 ho0 hb; replace HO_311001 := kE HO_311001 ho0 hb; replace HO336 := kR HO336 hb; replace BK267 := kK BK267 hb; replace BK289 := kK BK289 hb; replace BK310 := kK BK310 hb; replace HB := kB3 HB GE267 GE289 GE310 hb; (try clear hb); (try clear ho0)) | ((with_reducible refine gate_dst (N := 14) rfl ?_); refine box_event ?hg (N := 14) ?hd (cs := #[.int .i16 0, .slice none 0 0]) (t := 32) ?hr ?_; (case hd => rfl); (case hg => rfl); (case hr => first | (go_simp; done) | (go_simp; rfl)); intro gb342 hg w93 hbox hb; have BK342 := ak (hbox); have GW342 := ak ((by rw [hg]; exact (below_size (by repeat (first | (with_reducible first | exact HB.out | apply below_alloc | apply pw_below_drewN | apply below_drew1 | refine below_set ?_ GE267.out | refine below_set ?_ GE289.out | refine below_set ?_ GE310.out) | exact HB.out))) : w.heap.size ≤ gb342)); have GE342 := ak ((by rw [hg]; exact (below_size (by repeat (first | (with_reducible first | exact HB.out | apply below_alloc | apply pw_below_drewN | apply below_drew1 | refine below_set ?_ GE267.out | refine below_set ?_ GE289.out | refine below_set ?_ GE310.out) | exact HB.out))) : w.heap.size ≤ gb342)); have NB267_342 := ak ((by rw [hg]; exact Nat.ne_of_lt (blk_lt (g := gb267) (o := .cells #[.int .i8 a0_0, .int .i8 a0_1, .int .u16 a0_2, .int .u16 a0_3, .int .u16 a0_4, .int .u16 a0_5, .int .u16 a0_6, .int .u16 a0_7, .int .u16 a0_8, .int .u16 a0_9, .int .u16 a0_10, .int .u16 a0_11] 26 (0, 0)) (zK BK267.out)) : gb267 ≠ gb342)); have NB342_267 := ak ((by rw [hg]; exact Nat.ne_of_gt (blk_lt (g := gb267) (o := .cells #[.int .i8 a0_0, .int .i8 a0_1, .int .u16 a0_2, .int .u16 a0_3, .int .u16 a0_4, .int .u16 a0_5, .int .u16 a0_6, .int .u16 a0_7, .int .u16 a0_8, .int .u16 a0_9, .int .u16 a0_10, .int .u16 a0_11] 26 (0, 0)) (zK BK267.out)) : gb342 ≠ gb267)); have NB289_342 := ak ((by rw [hg]; exact Nat.ne_of_lt (blk_lt (g := gb289) (o := .cells #[.int .i16 t284, .slice Ao22 t285.length co22] 32 (0, 0)) (zK BK289.out)) : gb289 ≠ gb342)); have NB342_289 := ak ((by rw [hg]; exact Nat.ne_of_gt (blk_lt (g := gb289) (o := .cells #[.int .i16 t284, .slice Ao22 t285.length co22] 32 (0, 0)) (zK BK289.out)) : gb342 ≠ gb289)); have NB310_342 := ak ((by rw [hg]; exact Nat.ne_of_lt (blk_lt (g := gb310) (o := .cells #[.int .i16 t305, .slice Ao32 t306.length co32] 32 (0, 0)) (zK BK310.out)) : gb310 ≠ gb342)); have NB342_310 := ak ((by rw [hg]; exact Nat.ne_of_gt (blk_lt (g := gb310) (o := .cells #[.int .i16 t305, .slice Ao32 t306.length co32] 32 (0, 0)) (zK BK310.out)) : gb342 ≠ gb310)); replace HO_290001 := kR HO_290001 hb; replace HO_311001 := kR HO_311001 hb; replace HO336 := kR HO336 hb; replace HO340 := kR HO340 hb; replace BK267 := kK BK267 hb; replace BK289 := kK BK289 hb; replace BK310 := kK BK310 hb; replace HB := kB3 HB GE267 GE289 GE310 hb; clear hb hbox hg; have hnb94 := NB342_267.out; have hnc94 := NB267_342.out; have hnb95 := NB342_289.out; have hnc95 := NB289_342.out; have hnb96 := NB342_310.out; have hnc96 := NB310_342.out; obtain ⟨hcz97_0, hcz97_1, hfz97_0, hfz97_1⟩ := cz2 w93 BK342; obtain ⟨Ao98, co98, eo98⟩ := Kd.R_slice HO340.out; subst eo98))
 (try simp only [Act.put, zs, zz, zk])
 go_cut [95] (fun v95 wc => ∃ (kq : Nat) (x95_79 : Bool), v95 = .bool x95_79 ∧ Aside0 (laws_FnExactRopeFor.j2 kq t319 x95_79 t305 t320 = some r) ∧ Aside0 (kq ≤ kj51) ∧ Aside0 (Kd.R (Kd.int .i16) 29 wc w.heap.size (fun k_ => some k_ ≠ ((.slice Ao32 t306.length co32) : Value).ownBlock ∧ some k_ ≠ ((.slice Ao98 t338.length co98) : Value).ownBlock) (.slice Ao22 t285.length co22) t285) ∧ Aside0 (Kd.R (Kd.int .i16) 29 wc w.heap.size (fun k_ => some k_ ≠ ((.slice Ao22 t285.length co22) : Value).ownBlock ∧ some k_ ≠ ((.slice Ao98 t338.length co98) : Value).ownBlock) (.slice Ao32 t306.length co32) t320) ∧ Aside0 (Kd.R (Kd.int .i16) 29 wc w.heap.size (fun k_ => some k_ ≠ ((.slice Ao22 t285.length co22) : Value).ownBlock ∧ some k_ ≠ ((.slice Ao32 t306.length co32) : Value).ownBlock) (.slice Ao98 t338.length co98) t338) ∧ Aside0 (wc.heap[gb267]? = some (.cells #[.int .i8 a0_0, .int .i8 a0_1, .int .u16 a0_2, .int .u16 a0_3, .int .u16 a0_4, .int .u16 a0_5, .int .u16 a0_6, .int .u16 a0_7, .int .u16 a0_8, .int .u16 a0_9, .int .u16 a0_10, .int .u16 a0_11] 26 (0, 0))) ∧ Aside0 (wc.heap[gb289]? = some (.cells #[.int .i16 t284, (.slice Ao22 t285.length co22)] 32 (0, 0))) ∧ Aside0 (wc.heap[gb310]? = some (.cells #[.int .i16 t305, (.slice Ao32 t306.length co32)] 32 (0, 0))) ∧ Aside0 (wc.heap[gb342]? = some (.cells #[.int .i16 t337, (.slice Ao98 t338.length co98)] 32 (0, 0))) ∧ Aside0 (Below w.heap.size w wc))
 case first => (
 have H := HC80.out
 clear HC80
 replace H := Option.bind_eq_some_iff.mp H
 obtain ⟨t343, A990, H⟩ := H
 replace H : (if t343 = true then (laws_FnExactRopeFor.j2 kj51 t319 (t341 != t288) t305 t320) else (laws_FnExactRopeFor.j2 kj51 t319 true t305 t320)) = some r := H
 have A99 := ak A990
 clear A990
 by_cases c100 : t343 = true
 {
 subst c100
 have H1 : (laws_FnExactRopeFor.j2 kj51 t319 (t341 != t288) t305 t320) = some r := by rw [if_pos rfl] at H; exact H
 clear H
 have H := H1
 clear H1
 have H' := ak H
 clear H
 have hnb101 := NB342_267.out
 have hnc101 := NB267_342.out
 have hnb102 := NB342_289.out
 have hnc102 := NB289_342.out
 have hnb103 := NB342_310.out
 have hnc103 := NB310_342.out
 have hcz104_0 : w93.cell? ⟨gb342, 0, none⟩ = some (.int .i16 0) := (blk_cell BK342.out 0).trans rfl
 have hcz104_1 : w93.cell? ⟨gb342, 1, none⟩ = some (.slice none 0 0) := (blk_cell BK342.out 1).trans rfl
 have hfz104_0 := blk_frozen BK342.out 0
 have hfz104_1 := blk_frozen BK342.out 1
 have hnb105 := NB289_267.out
 have hnc105 := NB267_289.out
 have hnb106 := NB289_310.out
 have hnc106 := NB310_289.out
 have hcz107_0 : w93.cell? ⟨gb289, 0, none⟩ = some (.int .i16 t284) := (blk_cell BK289.out 0).trans rfl
 have hcz107_1 : w93.cell? ⟨gb289, 1, none⟩ = some (.slice Ao22 t285.length co22) := (blk_cell BK289.out 1).trans rfl
 have hfz107_0 := blk_frozen BK289.out 0
 have hfz107_1 := blk_frozen BK289.out 1
 go_wp2_with (first | ((with_reducible refine gate_callee (f := 12) rfl ?_); refine goesL_ (some 89) rfl rfl Try.func12 (by kernel_rfl) rfl #[.agg #[.int .i16 t337, .slice Ao98 t338.length co98], .agg #[.int .i16 t284, .slice Ao22 t285.length co22]] rfl (by (try simp only [List.map_toArray, List.map_cons, List.map_nil]); first | done | rfl | (simp only [List.length_drop, List.length_take]; rfl)) ?_; (with_reducible refine (laws_eqRope.calls kj51 t337 _ _ t338 t284 _ _ t285 true _ ?side1 ?side2 ?side3 ?side4 A99.out).mono ?_); (case side1 => refine (Kd.R_reads' (e := 29) (base := w.heap.size) (ok := fun k_ => ((True ∧ some k_ ≠ (.slice Ao22 t285.length co22 : Value).ownBlock) ∧ some k_ ≠ (.slice Ao32 t306.length co32 : Value).ownBlock)) (n := t338.length) (c := co98) ?_).2.2; exact (by (with_reducible repeat (first | apply Kd.R_alloc | apply Kd.R_drewN | apply Kd.R_drew)); exact (Kd.R_mono (Kd.R_far (p := ⟨gb342, 1, none⟩) (Kd.R_far (p := ⟨gb342, 0, none⟩) (Kd.R_types HO340.out BK342.out (by decide)) (fun _ hk => hk.2) (.int .i16 t337)) (fun _ hk => hk.2) (.slice Ao98 t338.length co98)) (fun _ h_ => h_.1)))); (case side2 => exact sL HO340); (case side3 => refine (Kd.R_reads' (e := 29) (base := w.heap.size) (ok := fun k_ => (some k_ ≠ (.slice Ao32 t306.length co32 : Value).ownBlock ∧ some k_ ≠ (.slice Ao98 t338.length co98 : Value).ownBlock)) (n := t285.length) (c := co22) ?_).2.2; exact (by (with_reducible repeat (first | apply Kd.R_alloc | apply Kd.R_drewN | apply Kd.R_drew)); exact (Kd.R_mono (Kd.R_far (p := ⟨gb342, 1, none⟩) (Kd.R_far (p := ⟨gb342, 0, none⟩) (Kd.R_types HO_290001.out BK342.out (by decide)) (fun _ hk => hk.2) (.int .i16 t337)) (fun _ hk => hk.2) (.slice Ao98 t338.length co98)) (fun _ h_ => h_.1)))); (case side4 => exact sL HO_290001); rintro e w108 ⟨rfl, hb⟩; refine ⟨_, rfl, ?_⟩; replace HO_290001 := ak (Kd.R_below (by (with_reducible repeat (first | apply Kd.R_alloc | apply Kd.R_drewN | apply Kd.R_drew)); exact (Kd.R_mono (Kd.R_far (p := ⟨gb342, 1, none⟩) (Kd.R_far (p := ⟨gb342, 0, none⟩) (Kd.R_types HO_290001.out BK342.out (by decide)) (fun _ hk => hk.2) (.int .i16 t337)) (fun _ hk => hk.2) (.slice Ao98 t338.length co98)) (fun _ h_ => h_.1))) hb); replace HO_311001 := ak (Kd.R_below (by (with_reducible repeat (first | apply Kd.R_alloc | apply Kd.R_drewN | apply Kd.R_drew)); exact (Kd.R_mono (Kd.R_far (p := ⟨gb342, 1, none⟩) (Kd.R_far (p := ⟨gb342, 0, none⟩) (Kd.R_types HO_311001.out BK342.out (by decide)) (fun _ hk => hk.2) (.int .i16 t337)) (fun _ hk => hk.2) (.slice Ao98 t338.length co98)) (fun _ h_ => h_.1))) hb); replace HO336 := ak (Kd.R_below (by (with_reducible repeat (first | apply Kd.R_alloc | apply Kd.R_drewN | apply Kd.R_drew)); exact (Kd.R_mono (Kd.R_far (p := ⟨gb342, 1, none⟩) (Kd.R_far (p := ⟨gb342, 0, none⟩) (Kd.R_types HO336.out BK342.out (by decide)) (fun _ hk => hk.2) (.int .i16 t337)) (fun _ hk => hk.2) (.slice Ao98 t338.length co98)) (fun _ h_ => h_.1))) hb); replace HO340 := ak (Kd.R_below (by (with_reducible repeat (first | apply Kd.R_alloc | apply Kd.R_drewN | apply Kd.R_drew)); exact (Kd.R_mono (Kd.R_far (p := ⟨gb342, 1, none⟩) (Kd.R_far (p := ⟨gb342, 0, none⟩) (Kd.R_types HO340.out BK342.out (by decide)) (fun _ hk => hk.2) (.int .i16 t337)) (fun _ hk => hk.2) (.slice Ao98 t338.length co98)) (fun _ h_ => h_.1))) hb); replace BK267 := ak (blk_below (g := gb267) (o := .cells #[.int .i8 a0_0, .int .i8 a0_1, .int .u16 a0_2, .int .u16 a0_3, .int .u16 a0_4, .int .u16 a0_5, .int .u16 a0_6, .int .u16 a0_7, .int .u16 a0_8, .int .u16 a0_9, .int .u16 a0_10, .int .u16 a0_11] 26 (0, 0)) (by (with_reducible repeat (first | refine blk_drewN ?_ _ | refine blk_drew ?_ | refine blk_alloc ?_ _)); refine blk_far ?_ NB267_342.out _; (with_reducible repeat (first | refine blk_drewN ?_ _ | refine blk_drew ?_ | refine blk_alloc ?_ _)); refine blk_far ?_ NB267_342.out _; (with_reducible repeat (first | refine blk_drewN ?_ _ | refine blk_drew ?_ | refine blk_alloc ?_ _)); exact BK267.out) hb); replace BK289 := ak (blk_below (g := gb289) (o := .cells #[.int .i16 t284, .slice Ao22 t285.length co22] 32 (0, 0)) (by (with_reducible repeat (first | refine blk_drewN ?_ _ | refine blk_drew ?_ | refine blk_alloc ?_ _)); refine blk_far ?_ NB289_342.out _; (with_reducible repeat (first | refine blk_drewN ?_ _ | refine blk_drew ?_ | refine blk_alloc ?_ _)); refine blk_far ?_ NB289_342.out _; (with_reducible repeat (first | refine blk_drewN ?_ _ | refine blk_drew ?_ | refine blk_alloc ?_ _)); exact BK289.out) hb); replace BK310 := ak (blk_below (g := gb310) (o := .cells #[.int .i16 t305, .slice Ao32 t306.length co32] 32 (0, 0)) (by (with_reducible repeat (first | refine blk_drewN ?_ _ | refine blk_drew ?_ | refine blk_alloc ?_ _)); refine blk_far ?_ NB310_342.out _; (with_reducible repeat (first | refine blk_drewN ?_ _ | refine blk_drew ?_ | refine blk_alloc ?_ _)); refine blk_far ?_ NB310_342.out _; (with_reducible repeat (first | refine blk_drewN ?_ _ | refine blk_drew ?_ | refine blk_alloc ?_ _)); exact BK310.out) hb); replace BK342 := ak (blk_below (g := gb342) (o := .cells #[.int .i16 t337, .slice Ao98 t338.length co98] 32 (0, 0)) (by (with_reducible repeat (first | refine blk_drewN ?_ _ | refine blk_drew ?_ | refine blk_alloc ?_ _)); refine blk_put (cs := #[.int .i16 t337, .slice none 0 0]) ?_ 1 _ rfl; (with_reducible repeat (first | refine blk_drewN ?_ _ | refine blk_drew ?_ | refine blk_alloc ?_ _)); refine blk_put (cs := #[.int .i16 0, .slice none 0 0]) ?_ 0 _ rfl; (with_reducible repeat (first | refine blk_drewN ?_ _ | refine blk_drew ?_ | refine blk_alloc ?_ _)); exact BK342.out) hb); replace HB := ak (below_step (by repeat (first | (with_reducible first | exact HB.out | apply below_alloc | apply pw_below_drewN | apply below_drew1 | refine below_set ?_ GE267.out | refine below_set ?_ GE289.out | refine below_set ?_ GE310.out | refine below_set ?_ GE342.out) | exact HB.out)) hb); (try clear hb); (try clear hk)))
 go_meet
 case rel => exact ⟨_, ((t341 != t288)), (by first | rfl | (simp; done) | (simp [*]; done)), H', ⟨by have := HJ11.out; have := HJ51.out; first | omega | exact Nat.le_refl _⟩, ⟨(zR HO_290001.out)⟩, ⟨(zR HO_311001.out)⟩, ⟨by (with_reducible repeat (first | apply Kd.R_alloc | apply Kd.R_drewN | apply Kd.R_drew)); exact Kd.R_mono HO340.out (fun _ hk => ⟨hk.1.2, hk.2⟩)⟩, ⟨(zK BK267.out)⟩, ⟨(zK BK289.out)⟩, ⟨(zK BK310.out)⟩, ⟨(zK BK342.out)⟩, ⟨by repeat (first | (with_reducible first | exact HB.out | apply below_alloc | apply pw_below_drewN | apply below_drew1 | refine below_set ?_ GE267.out | refine below_set ?_ GE289.out | refine below_set ?_ GE310.out | refine below_set ?_ GE342.out) | exact HB.out)⟩⟩
 }
 {
 replace c100 := Bool.eq_false_iff.mpr c100
 subst c100
 have H1 : (laws_FnExactRopeFor.j2 kj51 t319 true t305 t320) = some r := by rw [if_neg (show ¬ (false = true) by decide)] at H; exact H
 clear H
 have H := H1
 clear H1
 have H' := ak H
 clear H
 have hnb109 := NB342_267.out
 have hnc109 := NB267_342.out
 have hnb110 := NB342_289.out
 have hnc110 := NB289_342.out
 have hnb111 := NB342_310.out
 have hnc111 := NB310_342.out
 have hcz112_0 : w93.cell? ⟨gb342, 0, none⟩ = some (.int .i16 0) := (blk_cell BK342.out 0).trans rfl
 have hcz112_1 : w93.cell? ⟨gb342, 1, none⟩ = some (.slice none 0 0) := (blk_cell BK342.out 1).trans rfl
 have hfz112_0 := blk_frozen BK342.out 0
 have hfz112_1 := blk_frozen BK342.out 1
 have hnb113 := NB289_267.out
 have hnc113 := NB267_289.out
 have hnb114 := NB289_310.out
 have hnc114 := NB310_289.out
 have hcz115_0 : w93.cell? ⟨gb289, 0, none⟩ = some (.int .i16 t284) := (blk_cell BK289.out 0).trans rfl
 have hcz115_1 : w93.cell? ⟨gb289, 1, none⟩ = some (.slice Ao22 t285.length co22) := (blk_cell BK289.out 1).trans rfl
 have hfz115_0 := blk_frozen BK289.out 0
 have hfz115_1 := blk_frozen BK289.out 1
 go_wp2_with (first | ((with_reducible refine gate_callee (f := 12) rfl ?_); refine goesL_ (some 89) rfl rfl Try.func12 (by kernel_rfl) rfl #[.agg #[.int .i16 t337, .slice Ao98 t338.length co98], .agg #[.int .i16 t284, .slice Ao22 t285.length co22]] rfl (by (try simp only [List.map_toArray, List.map_cons, List.map_nil]); first | done | rfl | (simp only [List.length_drop, List.length_take]; rfl)) ?_; (with_reducible refine (laws_eqRope.calls kj51 t337 _ _ t338 t284 _ _ t285 false _ ?side1 ?side2 ?side3 ?side4 A99.out).mono ?_); (case side1 => refine (Kd.R_reads' (e := 29) (base := w.heap.size) (ok := fun k_ => ((True ∧ some k_ ≠ (.slice Ao22 t285.length co22 : Value).ownBlock) ∧ some k_ ≠ (.slice Ao32 t306.length co32 : Value).ownBlock)) (n := t338.length) (c := co98) ?_).2.2; exact (by (with_reducible repeat (first | apply Kd.R_alloc | apply Kd.R_drewN | apply Kd.R_drew)); exact (Kd.R_mono (Kd.R_far (p := ⟨gb342, 1, none⟩) (Kd.R_far (p := ⟨gb342, 0, none⟩) (Kd.R_types HO340.out BK342.out (by decide)) (fun _ hk => hk.2) (.int .i16 t337)) (fun _ hk => hk.2) (.slice Ao98 t338.length co98)) (fun _ h_ => h_.1)))); (case side2 => exact sL HO340); (case side3 => refine (Kd.R_reads' (e := 29) (base := w.heap.size) (ok := fun k_ => (some k_ ≠ (.slice Ao32 t306.length co32 : Value).ownBlock ∧ some k_ ≠ (.slice Ao98 t338.length co98 : Value).ownBlock)) (n := t285.length) (c := co22) ?_).2.2; exact (by (with_reducible repeat (first | apply Kd.R_alloc | apply Kd.R_drewN | apply Kd.R_drew)); exact (Kd.R_mono (Kd.R_far (p := ⟨gb342, 1, none⟩) (Kd.R_far (p := ⟨gb342, 0, none⟩) (Kd.R_types HO_290001.out BK342.out (by decide)) (fun _ hk => hk.2) (.int .i16 t337)) (fun _ hk => hk.2) (.slice Ao98 t338.length co98)) (fun _ h_ => h_.1)))); (case side4 => exact sL HO_290001); rintro e w116 ⟨rfl, hb⟩; refine ⟨_, rfl, ?_⟩; replace HO_290001 := ak (Kd.R_below (by (with_reducible repeat (first | apply Kd.R_alloc | apply Kd.R_drewN | apply Kd.R_drew)); exact (Kd.R_mono (Kd.R_far (p := ⟨gb342, 1, none⟩) (Kd.R_far (p := ⟨gb342, 0, none⟩) (Kd.R_types HO_290001.out BK342.out (by decide)) (fun _ hk => hk.2) (.int .i16 t337)) (fun _ hk => hk.2) (.slice Ao98 t338.length co98)) (fun _ h_ => h_.1))) hb); replace HO_311001 := ak (Kd.R_below (by (with_reducible repeat (first | apply Kd.R_alloc | apply Kd.R_drewN | apply Kd.R_drew)); exact (Kd.R_mono (Kd.R_far (p := ⟨gb342, 1, none⟩) (Kd.R_far (p := ⟨gb342, 0, none⟩) (Kd.R_types HO_311001.out BK342.out (by decide)) (fun _ hk => hk.2) (.int .i16 t337)) (fun _ hk => hk.2) (.slice Ao98 t338.length co98)) (fun _ h_ => h_.1))) hb); replace HO336 := ak (Kd.R_below (by (with_reducible repeat (first | apply Kd.R_alloc | apply Kd.R_drewN | apply Kd.R_drew)); exact (Kd.R_mono (Kd.R_far (p := ⟨gb342, 1, none⟩) (Kd.R_far (p := ⟨gb342, 0, none⟩) (Kd.R_types HO336.out BK342.out (by decide)) (fun _ hk => hk.2) (.int .i16 t337)) (fun _ hk => hk.2) (.slice Ao98 t338.length co98)) (fun _ h_ => h_.1))) hb); replace HO340 := ak (Kd.R_below (by (with_reducible repeat (first | apply Kd.R_alloc | apply Kd.R_drewN | apply Kd.R_drew)); exact (Kd.R_mono (Kd.R_far (p := ⟨gb342, 1, none⟩) (Kd.R_far (p := ⟨gb342, 0, none⟩) (Kd.R_types HO340.out BK342.out (by decide)) (fun _ hk => hk.2) (.int .i16 t337)) (fun _ hk => hk.2) (.slice Ao98 t338.length co98)) (fun _ h_ => h_.1))) hb); replace BK267 := ak (blk_below (g := gb267) (o := .cells #[.int .i8 a0_0, .int .i8 a0_1, .int .u16 a0_2, .int .u16 a0_3, .int .u16 a0_4, .int .u16 a0_5, .int .u16 a0_6, .int .u16 a0_7, .int .u16 a0_8, .int .u16 a0_9, .int .u16 a0_10, .int .u16 a0_11] 26 (0, 0)) (by (with_reducible repeat (first | refine blk_drewN ?_ _ | refine blk_drew ?_ | refine blk_alloc ?_ _)); refine blk_far ?_ NB267_342.out _; (with_reducible repeat (first | refine blk_drewN ?_ _ | refine blk_drew ?_ | refine blk_alloc ?_ _)); refine blk_far ?_ NB267_342.out _; (with_reducible repeat (first | refine blk_drewN ?_ _ | refine blk_drew ?_ | refine blk_alloc ?_ _)); exact BK267.out) hb); replace BK289 := ak (blk_below (g := gb289) (o := .cells #[.int .i16 t284, .slice Ao22 t285.length co22] 32 (0, 0)) (by (with_reducible repeat (first | refine blk_drewN ?_ _ | refine blk_drew ?_ | refine blk_alloc ?_ _)); refine blk_far ?_ NB289_342.out _; (with_reducible repeat (first | refine blk_drewN ?_ _ | refine blk_drew ?_ | refine blk_alloc ?_ _)); refine blk_far ?_ NB289_342.out _; (with_reducible repeat (first | refine blk_drewN ?_ _ | refine blk_drew ?_ | refine blk_alloc ?_ _)); exact BK289.out) hb); replace BK310 := ak (blk_below (g := gb310) (o := .cells #[.int .i16 t305, .slice Ao32 t306.length co32] 32 (0, 0)) (by (with_reducible repeat (first | refine blk_drewN ?_ _ | refine blk_drew ?_ | refine blk_alloc ?_ _)); refine blk_far ?_ NB310_342.out _; (with_reducible repeat (first | refine blk_drewN ?_ _ | refine blk_drew ?_ | refine blk_alloc ?_ _)); refine blk_far ?_ NB310_342.out _; (with_reducible repeat (first | refine blk_drewN ?_ _ | refine blk_drew ?_ | refine blk_alloc ?_ _)); exact BK310.out) hb); replace BK342 := ak (blk_below (g := gb342) (o := .cells #[.int .i16 t337, .slice Ao98 t338.length co98] 32 (0, 0)) (by (with_reducible repeat (first | refine blk_drewN ?_ _ | refine blk_drew ?_ | refine blk_alloc ?_ _)); refine blk_put (cs := #[.int .i16 t337, .slice none 0 0]) ?_ 1 _ rfl; (with_reducible repeat (first | refine blk_drewN ?_ _ | refine blk_drew ?_ | refine blk_alloc ?_ _)); refine blk_put (cs := #[.int .i16 0, .slice none 0 0]) ?_ 0 _ rfl; (with_reducible repeat (first | refine blk_drewN ?_ _ | refine blk_drew ?_ | refine blk_alloc ?_ _)); exact BK342.out) hb); replace HB := ak (below_step (by repeat (first | (with_reducible first | exact HB.out | apply below_alloc | apply pw_below_drewN | apply below_drew1 | refine below_set ?_ GE267.out | refine below_set ?_ GE289.out | refine below_set ?_ GE310.out | refine below_set ?_ GE342.out) | exact HB.out)) hb); (try clear hb); (try clear hk)))
 go_meet
 case rel => exact ⟨_, (true), (by first | rfl | (simp; done) | (simp [*]; done)), H', ⟨by have := HJ11.out; have := HJ51.out; first | omega | exact Nat.le_refl _⟩, ⟨(zR HO_290001.out)⟩, ⟨(zR HO_311001.out)⟩, ⟨by (with_reducible repeat (first | apply Kd.R_alloc | apply Kd.R_drewN | apply Kd.R_drew)); exact Kd.R_mono HO340.out (fun _ hk => ⟨hk.1.2, hk.2⟩)⟩, ⟨(zK BK267.out)⟩, ⟨(zK BK289.out)⟩, ⟨(zK BK310.out)⟩, ⟨(zK BK342.out)⟩, ⟨by repeat (first | (with_reducible first | exact HB.out | apply below_alloc | apply pw_below_drewN | apply below_drew1 | refine below_set ?_ GE267.out | refine below_set ?_ GE289.out | refine below_set ?_ GE310.out | refine below_set ?_ GE342.out) | exact HB.out)⟩⟩
 }
 )
 case rest => (
 clear HC80
 try clear c1
 try clear c4
 try clear c4b0
 try clear c47
 try clear c50
 try clear c72
 try clear c75
 try clear c75b0
 try clear c76
 try clear c76b0
 try clear c76b1
 try clear hcz14_0
 try clear hcz14_1
 try clear hcz14_10
 try clear hcz14_11
 try clear hcz14_2
 try clear hcz14_3
 try clear hcz14_4
 try clear hcz14_5
 try clear hcz14_6
 try clear hcz14_7
 try clear hcz14_8
 try clear hcz14_9
 try clear hcz21_0
 try clear hcz21_1
 try clear hcz24_0
 try clear hcz24_1
 try clear hcz24_10
 try clear hcz24_11
 try clear hcz24_2
 try clear hcz24_3
 try clear hcz24_4
 try clear hcz24_5
 try clear hcz24_6
 try clear hcz24_7
 try clear hcz24_8
 try clear hcz24_9
 try clear hcz31_0
 try clear hcz31_1
 try clear hcz83_0
 try clear hcz83_1
 try clear hcz85_0
 try clear hcz85_1
 try clear hcz88_0
 try clear hcz88_1
 try clear hcz88_10
 try clear hcz88_11
 try clear hcz88_2
 try clear hcz88_3
 try clear hcz88_4
 try clear hcz88_5
 try clear hcz88_6
 try clear hcz88_7
 try clear hcz88_8
 try clear hcz88_9
 try clear hcz97_0
 try clear hcz97_1
 try clear hfz14_0
 try clear hfz14_1
 try clear hfz14_10
 try clear hfz14_11
 try clear hfz14_2
 try clear hfz14_3
 try clear hfz14_4
 try clear hfz14_5
 try clear hfz14_6
 try clear hfz14_7
 try clear hfz14_8
 try clear hfz14_9
 try clear hfz21_0
 try clear hfz21_1
 try clear hfz24_0
 try clear hfz24_1
 try clear hfz24_10
 try clear hfz24_11
 try clear hfz24_2
 try clear hfz24_3
 try clear hfz24_4
 try clear hfz24_5
 try clear hfz24_6
 try clear hfz24_7
 try clear hfz24_8
 try clear hfz24_9
 try clear hfz31_0
 try clear hfz31_1
 try clear hfz83_0
 try clear hfz83_1
 try clear hfz85_0
 try clear hfz85_1
 try clear hfz88_0
 try clear hfz88_1
 try clear hfz88_10
 try clear hfz88_11
 try clear hfz88_2
 try clear hfz88_3
 try clear hfz88_4
 try clear hfz88_5
 try clear hfz88_6
 try clear hfz88_7
 try clear hfz88_8
 try clear hfz88_9
 try clear hfz97_0
 try clear hfz97_1
 obtain ⟨kq, x95_79, rfl, HA, HJ79, HO_290001, HO_311001, HO_343001, BK267, BK289, BK310, BK342, HB⟩ := hcut
 have hl311001_79 := (Kd.R_reads' HO_311001.out).1
 rw [hl311001_79] at HO_311001
 (try simp only [hl311001_79])
 (try simp only [hl311001_79] at BK267)
 (try simp only [hl311001_79] at BK289)
 (try simp only [hl311001_79] at BK310)
 (try simp only [hl311001_79] at BK342)
 (try simp only [hl311001_79] at HO_290001)
 (try simp only [hl311001_79] at HO_343001)
 cases kq with
 | zero => exact absurd HA.out (by simp [laws_FnExactRopeFor.j2])
 | succ kj79 => (
 have H := HA.out
 clear HA
 simp only [laws_FnExactRopeFor.j2] at H
 by_cases c117 : x95_79 = true
 {
 subst c117
 have H1 : (some false) = some r := by rw [if_pos rfl] at H; exact H
 clear H
 have H := H1
 clear H1
 exact absurd ((Option.some.inj H).trans HT.out) (by decide)
 }
 {
 replace c117 := Bool.eq_false_iff.mpr c117
 subst c117
 have H1 : ((laws_heldRope.f kj79 t305 t320 1).bind fun t344 => (if t344 < 0 then (some false) else (if t344 = t319 then (some true) else (some false)))) = some r := by rw [if_neg (show ¬ (false = true) by decide)] at H; exact H
 clear H
 have H := H1
 clear H1
 replace H := Option.bind_eq_some_iff.mp H
 obtain ⟨t344, A1180, H⟩ := H
 replace H : (if t344 < 0 then (some false) else (if t344 = t319 then (some true) else (some false))) = some r := H
 have A118 := ak A1180
 clear A1180
 by_cases c119 : t344 < 0
 · rw [if_pos c119] at H; have c119b0 : decide (t344 < 0) = true := decide_eq_true c119; clear c119; exact absurd ((Option.some.inj H).trans HT.out) (by decide)
 {
 rw [if_neg c119] at H
 have c119b0 : decide (t344 < 0) = false := decide_eq_false c119
 clear c119
 by_cases c120 : t344 = t319
 {
 rw [if_pos c120] at H
 have c120b0 : (t344 == t319) = true := beq_iff_eq.mpr c120
 have c120b1 : (t344 != t319) = false := bne_eq_false_iff_eq.mpr c120
 clear c120
 obtain rfl := Option.some.inj H
 have hnb121 := NB310_267.out
 have hnc121 := NB267_310.out
 have hnb122 := NB310_289.out
 have hnc122 := NB289_310.out
 have hnb123 := NB310_342.out
 have hnc123 := NB342_310.out
 have hcz124_0 : wc.cell? ⟨gb310, 0, none⟩ = some (.int .i16 t305) := (blk_cell BK310.out 0).trans rfl
 have hcz124_1 : wc.cell? ⟨gb310, 1, none⟩ = some (.slice Ao32 t320.length co32) := (blk_cell BK310.out 1).trans rfl
 have hfz124_0 := blk_frozen BK310.out 0
 have hfz124_1 := blk_frozen BK310.out 1
 go_wp2_with (first | ((with_reducible refine gate_callee (f := 16) rfl ?_); refine goesL_ (some 98) rfl rfl Try.func16 (by kernel_rfl) rfl #[.agg #[.int .i16 t305, .slice Ao32 t320.length co32], .int .i64 1] rfl (by (try simp only [List.map_toArray, List.map_cons, List.map_nil]); first | done | rfl | (simp only [List.length_drop, List.length_take]; rfl)) ?_; (with_reducible refine (laws_heldRope.calls kj79 t305 _ _ t320 1 t344 _ ?side1 ?side2 A118.out).mono ?_); (case side1 => exact sC HO_311001); (case side2 => exact sL HO_311001); rintro e w125 ⟨rfl, hb⟩; refine ⟨_, rfl, ?_⟩; replace HO_290001 := kR HO_290001 hb; replace HO_311001 := kR HO_311001 hb; replace HO_343001 := kR HO_343001 hb; replace BK267 := kK BK267 hb; replace BK289 := kK BK289 hb; replace BK310 := kK BK310 hb; replace BK342 := kK BK342 hb; replace HB := ak (below_step (by repeat (first | (with_reducible first | exact HB.out | apply below_alloc | apply pw_below_drewN | apply below_drew1 | refine below_set ?_ GE267.out | refine below_set ?_ GE289.out | refine below_set ?_ GE310.out | refine below_set ?_ GE342.out) | exact HB.out)) hb); (try clear hb)))
 go_ret
 exact ⟨by first | rfl | (simp [errW_none, errW_some] <;> rfl) | (simp [*, errW_none, errW_some] <;> rfl), by repeat (first | (with_reducible first | exact HB.out | apply below_alloc | apply pw_below_drewN | apply below_drew1 | refine below_set ?_ GE267.out | refine below_set ?_ GE289.out | refine below_set ?_ GE310.out | refine below_set ?_ GE342.out) | exact HB.out)⟩
 }
 · rw [if_neg c120] at H; have c120b0 : (t344 == t319) = false := beq_eq_false_iff_ne.mpr c120; have c120b1 : (t344 != t319) = true := bne_iff_ne.mpr c120; exact absurd ((Option.some.inj H).trans HT.out) (by decide)
 }
 }
 )
 )
 }
 · rw [if_neg c76] at H; have c76b0 : (t321 == t319) = false := beq_eq_false_iff_ne.mpr c76; have c76b1 : (t321 != t319) = true := bne_iff_ne.mpr c76; exact absurd ((Option.some.inj H).trans HT.out) (by decide)
 }
 }
 )
 )
 }
 {
 replace c50 := Bool.eq_false_iff.mpr c50
 subst c50
 have H1 : (some false) = some r := by rw [if_neg (show ¬ (false = true) by decide)] at H; exact H
 clear H
 have H := H1
 clear H1
 exact absurd ((Option.some.inj H).trans HT.out) (by decide)
 }
 }
 )
 )
 }
/-- THE ONE PURE STATEMENT of laws_FnExactRopeFor: mine. -/
def laws_FnExactRopeFor.Pure : Prop := ∀ (a0_0 : Int) (a0_1 : Int) (a0_2 : Int) (a0_3 : Int) (a0_4 : Int) (a0_5 : Int) (a0_6 : Int) (a0_7 : Int) (a0_8 : Int) (a0_9 : Int) (a0_10 : Int) (a0_11 : Int) (l1 : List (S82)), ((Lit.int .i8 a0_0).wf = true) → ((Lit.int .i8 a0_1).wf = true) → ((Lit.int .u16 a0_2).wf = true) → ((Lit.int .u16 a0_3).wf = true) → ((Lit.int .u16 a0_4).wf = true) → ((Lit.int .u16 a0_5).wf = true) → ((Lit.int .u16 a0_6).wf = true) → ((Lit.int .u16 a0_7).wf = true) → ((Lit.int .u16 a0_8).wf = true) → ((Lit.int .u16 a0_9).wf = true) → ((Lit.int .u16 a0_10).wf = true) → ((Lit.int .u16 a0_11).wf = true) → (l1.length ≤ 9223372036854775807 ∧ ∀ x_ ∈ l1, (((Lit.int .i8 x_.f0).wf = true) ∧ ((Lit.int .i8 x_.f1).wf = true))) → ∃ k, laws_FnExactRopeFor.f k a0_0 a0_1 a0_2 a0_3 a0_4 a0_5 a0_6 a0_7 a0_8 a0_9 a0_10 a0_11 l1 = some true

end Go.Proofs.Ytooidjdgfoioiaa.P
