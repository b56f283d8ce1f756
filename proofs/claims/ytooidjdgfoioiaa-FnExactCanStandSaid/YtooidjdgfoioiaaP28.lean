-- Printed by wip/print (my turned copy of the kit's print) out of the translation; Lean checks it.
import Derived.Test.YtooidjdgfoioiaaP0
import Derived.Test.YtooidjdgfoioiaaP12
import Derived.Test.YtooidjdgfoioiaaP13
import Derived.Test.YtooidjdgfoioiaaP22
import Derived.Test.YtooidjdgfoioiaaP23
import Derived.Test.YtooidjdgfoioiaaP27
namespace Go.Proofs.Ytooidjdgfoioiaa.P
open Go.RowKit Go.Proofs.YtooidjdgfoioiaaW.PrintWords Go.Proofs.YtooidjdgfoioiaaW.PrintLast Go.Proofs.YtooidjdgfoioiaaW.PrintMore
attribute [local go_sem] max2_int min2_int max_two min_two max_three min_three max_four min_four   -- for this text's walks alone
set_option linter.unusedVariables false
set_option linter.unusedSimpArgs false

/-! ### laws_FnExactCanStand: function 4 -/
def laws_FnExactCanStand.j0 : Nat → List (S92) → List (S82) → List (S65) → List (S62) → Bool → Int → List Int → Int → List Int → Option (Bool)
  | 0, _, _, _, _, _, _, _, _, _ => none
  | k + 1, x2, x3, x13, x14, x66, x498000, x498001, x530000, x530001 => if x66 = true then (some false) else ((laws_toRope.f k x498000 x498001).bind fun bt550 => ((laws_eqRope.f k x530000 x530001 bt550.1 bt550.2).bind fun t554 => (if t554 = true then ((laws_toHoldS.f k x2).bind fun t555 => ((laws_eqHoldS.f k x13 t555).bind fun t558 => (if t558 = true then ((laws_toSpotS.f k x3).bind fun t559 => ((laws_eqSpotS.f k x14 t559).bind fun t562 => (if t562 = true then (some true) else (some false)))) else (some false)))) else (some false))))
def laws_FnExactCanStand.f (k : Nat) (a0_0 : Int) (a0_1 : Int) (a0_2 : Int) (a0_3 : Int) (a0_4 : Int) (a0_5 : Int) (a0_6 : Int) (a0_7 : Int) (a0_8 : Int) (a0_9 : Int) (a0_10 : Int) (a0_11 : Int) (a1_0 : Int) (l1_1 : List Int) (l2 : List (S92)) (l3 : List (S82)) : Option (Bool) := (laws_szRope.f a1_0 l1_1 1048576).bind fun t498 => (if t498 < 0 then (some true) else ((laws_szHoldS.f l2 t498).bind fun t499 => (if t499 < 0 then (some true) else ((laws_szSpotS.f l3 t499).bind fun t500 => (if t500 < 0 then (some true) else ((laws_toRoom.f k a0_0 a0_1 a0_2 a0_3 a0_4 a0_5 a0_6 a0_7 a0_8 a0_9 a0_10 a0_11).bind fun bt501 => ((laws_toRope.f k a1_0 l1_1).bind fun bt513 => ((laws_toHoldS.f k l2).bind fun t517 => ((laws_toSpotS.f k l3).bind fun t520 => ((spec_CanStand.f k bt501.1 bt501.2.1 bt501.2.2.1 bt501.2.2.2.1 bt501.2.2.2.2.1 bt501.2.2.2.2.2.1 bt501.2.2.2.2.2.2.1 bt501.2.2.2.2.2.2.2.1 bt501.2.2.2.2.2.2.2.2.1 bt501.2.2.2.2.2.2.2.2.2.1 bt501.2.2.2.2.2.2.2.2.2.2.1 bt501.2.2.2.2.2.2.2.2.2.2.2 bt513.1 bt513.2 t517 t520).bind fun bt523 => ((laws_toRope.f k a1_0 l1_1).bind fun bt525 => ((laws_toHoldS.f k l2).bind fun t530 => ((laws_toSpotS.f k l3).bind fun t533 => ((laws_toRoom.f k a0_0 a0_1 a0_2 a0_3 a0_4 a0_5 a0_6 a0_7 a0_8 a0_9 a0_10 a0_11).bind fun bt536 => ((impl_CanStand.f k bt536.1 bt536.2.1 bt536.2.2.1 bt536.2.2.2.1 bt536.2.2.2.2.1 bt536.2.2.2.2.2.1 bt536.2.2.2.2.2.2.1 bt536.2.2.2.2.2.2.2.1 bt536.2.2.2.2.2.2.2.2.1 bt536.2.2.2.2.2.2.2.2.2.1 bt536.2.2.2.2.2.2.2.2.2.2.1 bt536.2.2.2.2.2.2.2.2.2.2.2 bt525.1 bt525.2 t530 t533).bind fun bt548 => (if (bt548.1 != bt523.1) = true then (laws_FnExactCanStand.j0 k l2 l3 t530 t533 true a1_0 l1_1 bt525.1 bt525.2) else (laws_FnExactCanStand.j0 k l2 l3 t530 t533 (bt548.2 != bt523.2) a1_0 l1_1 bt525.1 bt525.2)))))))))))))))))
theorem laws_FnExactCanStand.mono_l : ∀ k, (∀ y0 y1 y2 y3 y4 y5 y6 y7 y8, LeO (laws_FnExactCanStand.j0 k y0 y1 y2 y3 y4 y5 y6 y7 y8) (laws_FnExactCanStand.j0 (k + 1) y0 y1 y2 y3 y4 y5 y6 y7 y8))
  | 0 => fun _ _ _ _ _ _ _ _ _ r h => by simp [laws_FnExactCanStand.j0] at h
  | k + 1 => by
    have ih0 := laws_FnExactCanStand.mono_l k
    · intro y0 y1 y2 y3 y4 y5 y6 y7 y8
      unfold laws_FnExactCanStand.j0
      repeat' first
      | (with_reducible exact ih0 ..)
      | (with_reducible exact impl_CanStand.mono ..)
      | (with_reducible exact laws_eqHoldS.mono ..)
      | (with_reducible exact laws_eqRope.mono ..)
      | (with_reducible exact laws_eqSpotS.mono ..)
      | (with_reducible exact laws_toHoldS.mono ..)
      | (with_reducible exact laws_toRoom.mono ..)
      | (with_reducible exact laws_toRope.mono ..)
      | (with_reducible exact laws_toSpotS.mono ..)
      | (with_reducible exact spec_CanStand.mono ..)
      | (with_reducible exact LeO.refl ..)
      | (with_reducible exact LeO.none ..)
      | (with_reducible refine LeO.ite ?_ ?_)
      | (with_reducible refine LeO.bind ?_ (fun _ => ?_))
theorem laws_FnExactCanStand.mono : ∀ a0 a1 a2 a3 a4 a5 a6 a7 a8 a9 a10 a11 a12 a13 a14 a15 k, LeO (laws_FnExactCanStand.f k a0 a1 a2 a3 a4 a5 a6 a7 a8 a9 a10 a11 a12 a13 a14 a15) (laws_FnExactCanStand.f (k + 1) a0 a1 a2 a3 a4 a5 a6 a7 a8 a9 a10 a11 a12 a13 a14 a15) := by
  intro a0 a1 a2 a3 a4 a5 a6 a7 a8 a9 a10 a11 a12 a13 a14 a15 k
  have ih0 := laws_FnExactCanStand.mono_l k
  unfold laws_FnExactCanStand.f
  repeat' first
      | (with_reducible exact ih0 ..)
      | (with_reducible exact impl_CanStand.mono ..)
      | (with_reducible exact laws_eqHoldS.mono ..)
      | (with_reducible exact laws_eqRope.mono ..)
      | (with_reducible exact laws_eqSpotS.mono ..)
      | (with_reducible exact laws_toHoldS.mono ..)
      | (with_reducible exact laws_toRoom.mono ..)
      | (with_reducible exact laws_toRope.mono ..)
      | (with_reducible exact laws_toSpotS.mono ..)
      | (with_reducible exact spec_CanStand.mono ..)
      | (with_reducible exact LeO.refl ..)
      | (with_reducible exact LeO.none ..)
      | (with_reducible refine LeO.ite ?_ ?_)
      | (with_reducible refine LeO.bind ?_ (fun _ => ?_))
def laws_FnExactCanStand.T11 : Bool × List (List Nat × List Nat) := (true, [([], []), ([0], [0]), ([], []), ([2, 1], [2]), ([], []), ([4, 3], [4]), ([], []), ([6, 5], [6]), ([1, 3, 5, 7, 7], [1, 3, 5, 7]), ([8], [8]), ([9], [9]), ([9], [9]), ([10, 8, 0, 1, 2, 3, 4, 5, 6, 7, 8, 9, 10], [10]), ([11, 12, 0, 1, 2, 3, 4, 5, 6, 7, 8, 9, 10, 11, 12], [11])])
def laws_FnExactCanStand.B11 : List Nat := [0, 1, 0, 7, 0, 31, 0, 127, 255, 511, 1023, 1023, 2047, 8191]
theorem laws_FnExactCanStand.tab11 : rtab .any (opsOf Try.f4 11) = laws_FnExactCanStand.T11 := by kernel_rfl
theorem laws_FnExactCanStand.bits11 : waitsOk laws_FnExactCanStand.T11.2 laws_FnExactCanStand.B11 = true := by kernel_rfl
def laws_FnExactCanStand.T15 : Bool × List (List Nat × List Nat) := (true, [([], []), ([0], [0]), ([], []), ([], []), ([], []), ([1, 2, 3, 4, 1], [1, 2, 3, 4]), ([5], [5]), ([6], [6]), ([6], [6]), ([7, 5, 0, 1, 2, 3, 4, 5, 6, 7], [7]), ([8, 9, 0, 1, 2, 3, 4, 5, 6, 7, 8, 9], [8])])
def laws_FnExactCanStand.B15 : List Nat := [0, 1, 0, 0, 0, 31, 63, 127, 127, 255, 1023]
theorem laws_FnExactCanStand.tab15 : rtab .any (opsOf Try.f4 15) = laws_FnExactCanStand.T15 := by kernel_rfl
theorem laws_FnExactCanStand.bits15 : waitsOk laws_FnExactCanStand.T15.2 laws_FnExactCanStand.B15 = true := by kernel_rfl
set_option maxHeartbeats 8000000 in
set_option maxRecDepth 100000 in
theorem laws_FnExactCanStand.calls (k : Nat) (a0_0 : Int) (a0_1 : Int) (a0_2 : Int) (a0_3 : Int) (a0_4 : Int) (a0_5 : Int) (a0_6 : Int) (a0_7 : Int) (a0_8 : Int) (a0_9 : Int) (a0_10 : Int) (a0_11 : Int) (a1_0 : Int) (A1_1 : Option Addr) (c1_1 : Nat) (l1_1 : List Int) (A2 : Option Addr) (c2 : Nat) (l2 : List (S92)) (A3 : Option Addr) (c3 : Nat) (l3 : List (S82)) (r : Bool) (w : World) (hr1_1 : Kd.C (Kd.int .i16) w A1_1 l1_1.length l1_1) (hc1_1 : l1_1.length ≤ c1_1) (hr2 : Kd.C k92 w A2 l2.length l2) (hc2 : l2.length ≤ c2) (hr3 : Kd.C k82 w A3 l3.length l3) (hc3 : l3.length ≤ c3) (hT : r = true) (h : laws_FnExactCanStand.f k a0_0 a0_1 a0_2 a0_3 a0_4 a0_5 a0_6 a0_7 a0_8 a0_9 a0_10 a0_11 a1_0 l1_1 l2 l3 = some r) :
    Calls Try.prog 4 #[.agg #[.int .i8 a0_0, .int .i8 a0_1, .int .u16 a0_2, .int .u16 a0_3, .int .u16 a0_4, .int .u16 a0_5, .int .u16 a0_6, .int .u16 a0_7, .int .u16 a0_8, .int .u16 a0_9, .int .u16 a0_10, .int .u16 a0_11], .agg #[.int .i16 a1_0, .slice A1_1 l1_1.length c1_1], .slice A2 l2.length c2, .slice A3 l3.length c3] w fun e w' => e = .returned (.bool r) ∧ Below w.heap.size w w' := by
 have hu26 := Try.underlying26
 have hu44 := Try.underlying44
 have hu32 := Try.underlying32
 have HR1_1 := ak hr1_1
 have HC1_1 := ak hc1_1
 clear hr1_1 hc1_1
 have HR2 := ak hr2
 have HC2 := ak hc2
 clear hr2 hc2
 have HR3 := ak hr3
 have HC3 := ak hc3
 clear hr3 hc3
 have HT := ak hT
 clear hT
 have HB := ak (Below.refl w.heap.size w)
 have H := h
 unfold laws_FnExactCanStand.f at H
 clear h
 replace H := Option.bind_eq_some_iff.mp H
 obtain ⟨t498, A50, H⟩ := H
 have A5 := ak A50
 clear A50
 by_cases c6 : t498 < 0
 {
 rw [if_pos c6] at H
 have c6b0 : decide (t498 < 0) = true := decide_eq_true c6
 clear c6
 obtain rfl := Option.some.inj H
 go_enter Try.func4, Try.ntmps4
 go_wp2_with (first | ((with_reducible refine gate_dst (N := 4) rfl ?_); refine box_event ?hg (N := 4) ?hd (cs := #[.int .i8 a0_0, .int .i8 a0_1, .int .u16 a0_2, .int .u16 a0_3, .int .u16 a0_4, .int .u16 a0_5, .int .u16 a0_6, .int .u16 a0_7, .int .u16 a0_8, .int .u16 a0_9, .int .u16 a0_10, .int .u16 a0_11]) (t := 26) ?hr ?_; (case hd => rfl); (case hg => rfl); (case hr => first | (go_simp; done) | (go_simp; rfl)); intro gb496 hg w7 hbox hb; have BK496 := ak (hbox); have GW496 := ak ((by rw [hg]; exact (below_size (zB HB.out)) : w.heap.size ≤ gb496)); have GE496 := ak ((by rw [hg]; exact (below_size (zB HB.out)) : w.heap.size ≤ gb496)); replace HB := kB HB hb; clear hb hbox hg) | ((with_reducible refine gate_dst (N := 5) rfl ?_); refine box_event ?hg (N := 5) ?hd (cs := #[.int .i16 a1_0, .slice A1_1 l1_1.length c1_1]) (t := 44) ?hr ?_; (case hd => rfl); (case hg => rfl); (case hr => first | (go_simp; done) | (go_simp; rfl)); intro gb497 hg w8 hbox hb; have BK497 := ak (hbox); have GW497 := ak ((by rw [hg]; exact (below_size (zBG HB.out GE496.out)) : w.heap.size ≤ gb497)); have GE497 := ak ((by rw [hg]; exact (below_size (zBG HB.out GE496.out)) : w.heap.size ≤ gb497)); have NB496_497 := nL BK496 hg; have NB497_496 := nG BK496 hg; replace BK496 := kK BK496 hb; replace HB := kB1 HB GE496 hb; clear hb hbox hg; have hnb9 := NB497_496.out; have hnc9 := NB496_497.out; obtain ⟨hcz10_0, hcz10_1, hfz10_0, hfz10_1⟩ := cz2 w8 BK497) | ((with_reducible refine gate_callee (f := 17) rfl ?_); refine goesL_ (some 19) rfl rfl Try.func17 (by kernel_rfl) rfl #[.agg #[.int .i16 a1_0, .slice A1_1 l1_1.length c1_1], .int .i64 1048576] rfl (by (try simp only [List.map_toArray, List.map_cons, List.map_nil]); first | done | rfl | (simp only [List.length_drop, List.length_take]; rfl)) ?_; (with_reducible refine (laws_szRope.calls a1_0 _ _ l1_1 1048576 t498 _ ?side1 ?side2 A5.out).mono ?_); (case side1 => repeat (first | exact (Kd.C_below HR1_1.out HB.out) | (with_reducible refine Kd.C_alloc ?_ _) | (with_reducible refine Kd.C_drewN ?_ _) | (with_reducible refine Kd.C_drew ?_))); (case side2 => exact HC1_1.out); rintro e w11 ⟨rfl, hb⟩; refine ⟨_, rfl, ?_⟩; replace BK496 := kK BK496 hb; replace BK497 := kK BK497 hb; replace HB := kB2 HB GE496 GE497 hb; (try clear hb)))
 go_ret
 exact ⟨by first | rfl | (simp [errW_none, errW_some] <;> rfl) | (simp [*, errW_none, errW_some] <;> rfl), by repeat (first | (with_reducible first | exact HB.out | apply below_alloc | apply pw_below_drewN | apply below_drew1 | refine below_set ?_ GE496.out | refine below_set ?_ GE497.out) | exact HB.out)⟩
 }
 {
 rw [if_neg c6] at H
 have c6b0 : decide (t498 < 0) = false := decide_eq_false c6
 clear c6
 replace H := Option.bind_eq_some_iff.mp H
 obtain ⟨t499, A120, H⟩ := H
 have A12 := ak A120
 clear A120
 by_cases c13 : t499 < 0
 {
 rw [if_pos c13] at H
 have c13b0 : decide (t499 < 0) = true := decide_eq_true c13
 clear c13
 obtain rfl := Option.some.inj H
 go_enter Try.func4, Try.ntmps4
 go_wp2_with (first | ((with_reducible refine gate_dst (N := 4) rfl ?_); refine box_event ?hg (N := 4) ?hd (cs := #[.int .i8 a0_0, .int .i8 a0_1, .int .u16 a0_2, .int .u16 a0_3, .int .u16 a0_4, .int .u16 a0_5, .int .u16 a0_6, .int .u16 a0_7, .int .u16 a0_8, .int .u16 a0_9, .int .u16 a0_10, .int .u16 a0_11]) (t := 26) ?hr ?_; (case hd => rfl); (case hg => rfl); (case hr => first | (go_simp; done) | (go_simp; rfl)); intro gb496 hg w14 hbox hb; have BK496 := ak (hbox); have GW496 := ak ((by rw [hg]; exact (below_size (zB HB.out)) : w.heap.size ≤ gb496)); have GE496 := ak ((by rw [hg]; exact (below_size (zB HB.out)) : w.heap.size ≤ gb496)); replace HB := kB HB hb; clear hb hbox hg) | ((with_reducible refine gate_dst (N := 5) rfl ?_); refine box_event ?hg (N := 5) ?hd (cs := #[.int .i16 a1_0, .slice A1_1 l1_1.length c1_1]) (t := 44) ?hr ?_; (case hd => rfl); (case hg => rfl); (case hr => first | (go_simp; done) | (go_simp; rfl)); intro gb497 hg w15 hbox hb; have BK497 := ak (hbox); have GW497 := ak ((by rw [hg]; exact (below_size (zBG HB.out GE496.out)) : w.heap.size ≤ gb497)); have GE497 := ak ((by rw [hg]; exact (below_size (zBG HB.out GE496.out)) : w.heap.size ≤ gb497)); have NB496_497 := nL BK496 hg; have NB497_496 := nG BK496 hg; replace BK496 := kK BK496 hb; replace HB := kB1 HB GE496 hb; clear hb hbox hg; have hnb16 := NB497_496.out; have hnc16 := NB496_497.out; obtain ⟨hcz17_0, hcz17_1, hfz17_0, hfz17_1⟩ := cz2 w15 BK497) | ((with_reducible refine gate_callee (f := 17) rfl ?_); refine goesL_ (some 19) rfl rfl Try.func17 (by kernel_rfl) rfl #[.agg #[.int .i16 a1_0, .slice A1_1 l1_1.length c1_1], .int .i64 1048576] rfl (by (try simp only [List.map_toArray, List.map_cons, List.map_nil]); first | done | rfl | (simp only [List.length_drop, List.length_take]; rfl)) ?_; (with_reducible refine (laws_szRope.calls a1_0 _ _ l1_1 1048576 t498 _ ?side1 ?side2 A5.out).mono ?_); (case side1 => repeat (first | exact (Kd.C_below HR1_1.out HB.out) | (with_reducible refine Kd.C_alloc ?_ _) | (with_reducible refine Kd.C_drewN ?_ _) | (with_reducible refine Kd.C_drew ?_))); (case side2 => exact HC1_1.out); rintro e w18 ⟨rfl, hb⟩; refine ⟨_, rfl, ?_⟩; replace BK496 := kK BK496 hb; replace BK497 := kK BK497 hb; replace HB := kB2 HB GE496 GE497 hb; (try clear hb)) | ((with_reducible refine gate_callee (f := 18) rfl ?_); refine goesL_ (some 24) rfl rfl Try.func18 (by kernel_rfl) rfl #[.slice A2 l2.length c2, .int .i64 t498] rfl (by (try simp only [List.map_toArray, List.map_cons, List.map_nil]); first | done | rfl | (simp only [List.length_drop, List.length_take]; rfl)) ?_; (with_reducible refine (laws_szHoldS.calls _ _ l2 t498 t499 _ ?side1 ?side2 A12.out).mono ?_); (case side1 => repeat (first | exact (Kd.C_below HR2.out HB.out) | (with_reducible refine Kd.C_alloc ?_ _) | (with_reducible refine Kd.C_drewN ?_ _) | (with_reducible refine Kd.C_drew ?_))); (case side2 => exact HC2.out); rintro e w' ⟨rfl, ⟨nd, rfl⟩⟩; refine ⟨_, rfl, ?_⟩))
 go_ret
 exact ⟨by first | rfl | (simp [errW_none, errW_some] <;> rfl) | (simp [*, errW_none, errW_some] <;> rfl), by repeat (first | (with_reducible first | exact HB.out | apply below_alloc | apply pw_below_drewN | apply below_drew1 | refine below_set ?_ GE496.out | refine below_set ?_ GE497.out) | exact HB.out)⟩
 }
 {
 rw [if_neg c13] at H
 have c13b0 : decide (t499 < 0) = false := decide_eq_false c13
 clear c13
 replace H := Option.bind_eq_some_iff.mp H
 obtain ⟨t500, A190, H⟩ := H
 have A19 := ak A190
 clear A190
 by_cases c20 : t500 < 0
 {
 rw [if_pos c20] at H
 have c20b0 : decide (t500 < 0) = true := decide_eq_true c20
 clear c20
 obtain rfl := Option.some.inj H
 go_enter Try.func4, Try.ntmps4
 go_wp2_with (first | ((with_reducible refine gate_dst (N := 4) rfl ?_); refine box_event ?hg (N := 4) ?hd (cs := #[.int .i8 a0_0, .int .i8 a0_1, .int .u16 a0_2, .int .u16 a0_3, .int .u16 a0_4, .int .u16 a0_5, .int .u16 a0_6, .int .u16 a0_7, .int .u16 a0_8, .int .u16 a0_9, .int .u16 a0_10, .int .u16 a0_11]) (t := 26) ?hr ?_; (case hd => rfl); (case hg => rfl); (case hr => first | (go_simp; done) | (go_simp; rfl)); intro gb496 hg w21 hbox hb; have BK496 := ak (hbox); have GW496 := ak ((by rw [hg]; exact (below_size (zB HB.out)) : w.heap.size ≤ gb496)); have GE496 := ak ((by rw [hg]; exact (below_size (zB HB.out)) : w.heap.size ≤ gb496)); replace HB := kB HB hb; clear hb hbox hg) | ((with_reducible refine gate_dst (N := 5) rfl ?_); refine box_event ?hg (N := 5) ?hd (cs := #[.int .i16 a1_0, .slice A1_1 l1_1.length c1_1]) (t := 44) ?hr ?_; (case hd => rfl); (case hg => rfl); (case hr => first | (go_simp; done) | (go_simp; rfl)); intro gb497 hg w22 hbox hb; have BK497 := ak (hbox); have GW497 := ak ((by rw [hg]; exact (below_size (zBG HB.out GE496.out)) : w.heap.size ≤ gb497)); have GE497 := ak ((by rw [hg]; exact (below_size (zBG HB.out GE496.out)) : w.heap.size ≤ gb497)); have NB496_497 := nL BK496 hg; have NB497_496 := nG BK496 hg; replace BK496 := kK BK496 hb; replace HB := kB1 HB GE496 hb; clear hb hbox hg; have hnb23 := NB497_496.out; have hnc23 := NB496_497.out; obtain ⟨hcz24_0, hcz24_1, hfz24_0, hfz24_1⟩ := cz2 w22 BK497) | ((with_reducible refine gate_callee (f := 17) rfl ?_); refine goesL_ (some 19) rfl rfl Try.func17 (by kernel_rfl) rfl #[.agg #[.int .i16 a1_0, .slice A1_1 l1_1.length c1_1], .int .i64 1048576] rfl (by (try simp only [List.map_toArray, List.map_cons, List.map_nil]); first | done | rfl | (simp only [List.length_drop, List.length_take]; rfl)) ?_; (with_reducible refine (laws_szRope.calls a1_0 _ _ l1_1 1048576 t498 _ ?side1 ?side2 A5.out).mono ?_); (case side1 => repeat (first | exact (Kd.C_below HR1_1.out HB.out) | (with_reducible refine Kd.C_alloc ?_ _) | (with_reducible refine Kd.C_drewN ?_ _) | (with_reducible refine Kd.C_drew ?_))); (case side2 => exact HC1_1.out); rintro e w25 ⟨rfl, hb⟩; refine ⟨_, rfl, ?_⟩; replace BK496 := kK BK496 hb; replace BK497 := kK BK497 hb; replace HB := kB2 HB GE496 GE497 hb; (try clear hb)) | ((with_reducible refine gate_callee (f := 18) rfl ?_); refine goesL_ (some 24) rfl rfl Try.func18 (by kernel_rfl) rfl #[.slice A2 l2.length c2, .int .i64 t498] rfl (by (try simp only [List.map_toArray, List.map_cons, List.map_nil]); first | done | rfl | (simp only [List.length_drop, List.length_take]; rfl)) ?_; (with_reducible refine (laws_szHoldS.calls _ _ l2 t498 t499 _ ?side1 ?side2 A12.out).mono ?_); (case side1 => repeat (first | exact (Kd.C_below HR2.out HB.out) | (with_reducible refine Kd.C_alloc ?_ _) | (with_reducible refine Kd.C_drewN ?_ _) | (with_reducible refine Kd.C_drew ?_))); (case side2 => exact HC2.out); rintro e w' ⟨rfl, ⟨nd, rfl⟩⟩; refine ⟨_, rfl, ?_⟩) | ((with_reducible refine gate_callee (f := 7) rfl ?_); refine goesL_ (some 29) rfl rfl Try.func7 (by kernel_rfl) rfl #[.slice A3 l3.length c3, .int .i64 t499] rfl (by (try simp only [List.map_toArray, List.map_cons, List.map_nil]); first | done | rfl | (simp only [List.length_drop, List.length_take]; rfl)) ?_; (with_reducible refine (laws_szSpotS.calls _ _ l3 t499 t500 _ ?side1 ?side2 A19.out).mono ?_); (case side1 => repeat (first | exact (Kd.C_below HR3.out (by repeat (first | (with_reducible first | exact HB.out | apply below_alloc | apply pw_below_drewN | apply below_drew1 | refine below_set ?_ GE496.out | refine below_set ?_ GE497.out) | exact HB.out))) | (with_reducible refine Kd.C_alloc ?_ _) | (with_reducible refine Kd.C_drewN ?_ _) | (with_reducible refine Kd.C_drew ?_))); (case side2 => exact HC3.out); rintro e w' ⟨rfl, ⟨nd, rfl⟩⟩; refine ⟨_, rfl, ?_⟩))
 go_ret
 exact ⟨by first | rfl | (simp [errW_none, errW_some] <;> rfl) | (simp [*, errW_none, errW_some] <;> rfl), by repeat (first | (with_reducible first | exact HB.out | apply below_alloc | apply pw_below_drewN | apply below_drew1 | refine below_set ?_ GE496.out | refine below_set ?_ GE497.out) | exact HB.out)⟩
 }
 {
 rw [if_neg c20] at H
 have c20b0 : decide (t500 < 0) = false := decide_eq_false c20
 clear c20
 replace H := Option.bind_eq_some_iff.mp H
 obtain ⟨⟨t501, t502, t503, t504, t505, t506, t507, t508, t509, t510, t511, t512⟩, A260, H⟩ := H
 have A26 := ak A260
 clear A260
 replace H := Option.bind_eq_some_iff.mp H
 obtain ⟨⟨t513, t514⟩, A270, H⟩ := H
 have A27 := ak A270
 clear A270
 replace H := Option.bind_eq_some_iff.mp H
 obtain ⟨t517, A280, H⟩ := H
 have A28 := ak A280
 clear A280
 replace H := Option.bind_eq_some_iff.mp H
 obtain ⟨t520, A290, H⟩ := H
 have A29 := ak A290
 clear A290
 replace H := Option.bind_eq_some_iff.mp H
 obtain ⟨⟨t523, t524⟩, A300, H⟩ := H
 have A30 := ak A300
 clear A300
 replace H := Option.bind_eq_some_iff.mp H
 obtain ⟨⟨t525, t526⟩, A310, H⟩ := H
 have A31 := ak A310
 clear A310
 replace H := Option.bind_eq_some_iff.mp H
 obtain ⟨t530, A320, H⟩ := H
 have A32 := ak A320
 clear A320
 replace H := Option.bind_eq_some_iff.mp H
 obtain ⟨t533, A330, H⟩ := H
 have A33 := ak A330
 clear A330
 replace H := Option.bind_eq_some_iff.mp H
 obtain ⟨⟨t536, t537, t538, t539, t540, t541, t542, t543, t544, t545, t546, t547⟩, A340, H⟩ := H
 have A34 := ak A340
 clear A340
 replace H := Option.bind_eq_some_iff.mp H
 obtain ⟨⟨t548, t549⟩, A350, H⟩ := H
 have A35 := ak A350
 clear A350
 have HC36 := ak H
 clear H
 go_enter Try.func4, Try.ntmps4
 try go_wp2_with (first | ((with_reducible refine gate_dst (N := 4) rfl ?_); refine box_event ?hg (N := 4) ?hd (cs := #[.int .i8 a0_0, .int .i8 a0_1, .int .u16 a0_2, .int .u16 a0_3, .int .u16 a0_4, .int .u16 a0_5, .int .u16 a0_6, .int .u16 a0_7, .int .u16 a0_8, .int .u16 a0_9, .int .u16 a0_10, .int .u16 a0_11]) (t := 26) ?hr ?_; (case hd => rfl); (case hg => rfl); (case hr => first | (go_simp; done) | (go_simp; rfl)); intro gb496 hg w37 hbox hb; have n0_ := ak (below_step (zB HB.out) hb); have n1_ := ak (hbox); have n2_ := ak ((by rw [hg]; exact (below_size (zB HB.out)) : w.heap.size ≤ gb496)); have n3_ := ak ((by rw [hg]; exact (below_size (zB HB.out)) : w.heap.size ≤ gb496)); clear HB; have HB := n0_; have BK496 := n1_; have GW496 := n2_; have GE496 := n3_; clear n0_ n1_ n2_ n3_; clear hb hbox hg) | ((with_reducible refine gate_dst (N := 5) rfl ?_); refine box_event ?hg (N := 5) ?hd (cs := #[.int .i16 a1_0, .slice A1_1 l1_1.length c1_1]) (t := 44) ?hr ?_; (case hd => rfl); (case hg => rfl); (case hr => first | (go_simp; done) | (go_simp; rfl)); intro gb497 hg w38 hbox hb; have n0_ := ak (blk_below (g := gb496) (o := .cells #[.int .i8 a0_0, .int .i8 a0_1, .int .u16 a0_2, .int .u16 a0_3, .int .u16 a0_4, .int .u16 a0_5, .int .u16 a0_6, .int .u16 a0_7, .int .u16 a0_8, .int .u16 a0_9, .int .u16 a0_10, .int .u16 a0_11] 26 (0, 0)) (zK BK496.out) hb); have n1_ := ak (below_step (zBG HB.out GE496.out) hb); have n2_ := ak (hbox); have n3_ := ak ((by rw [hg]; exact (below_size (zBG HB.out GE496.out)) : w.heap.size ≤ gb497)); have n4_ := ak ((by rw [hg]; exact (below_size (zBG HB.out GE496.out)) : w.heap.size ≤ gb497)); have n5_ := nL BK496 hg; have n6_ := nG BK496 hg; clear BK496 HB; have BK496 := n0_; have HB := n1_; have BK497 := n2_; have GW497 := n3_; have GE497 := n4_; have NB496_497 := n5_; have NB497_496 := n6_; clear n0_ n1_ n2_ n3_ n4_ n5_ n6_; clear hb hbox hg; have hnb39 := NB497_496.out; have hnc39 := NB496_497.out; have hcz40_0 : w38.cell? ⟨gb497, 0, none⟩ = some (.int .i16 a1_0) := (blk_cell BK497.out 0).trans rfl; have hcz40_1 : w38.cell? ⟨gb497, 1, none⟩ = some (.slice A1_1 l1_1.length c1_1) := (blk_cell BK497.out 1).trans rfl; have hfz40_0 := blk_frozen BK497.out 0; have hfz40_1 := blk_frozen BK497.out 1) | ((with_reducible refine gate_callee (f := 17) rfl ?_); refine goesL_ (some 19) rfl rfl Try.func17 (by kernel_rfl) rfl #[.agg #[.int .i16 a1_0, .slice A1_1 l1_1.length c1_1], .int .i64 1048576] rfl (by (try simp only [List.map_toArray, List.map_cons, List.map_nil]); first | done | rfl | (simp only [List.length_drop, List.length_take]; rfl)) ?_; (with_reducible refine (laws_szRope.calls a1_0 _ _ l1_1 1048576 t498 _ ?side1 ?side2 A5.out).mono ?_); (case side1 => repeat (first | exact (Kd.C_below HR1_1.out HB.out) | (with_reducible refine Kd.C_alloc ?_ _) | (with_reducible refine Kd.C_drewN ?_ _) | (with_reducible refine Kd.C_drew ?_))); (case side2 => exact HC1_1.out); rintro e w41 ⟨rfl, hb⟩; refine ⟨_, rfl, ?_⟩; have n0_ := ak (blk_below (g := gb496) (o := .cells #[.int .i8 a0_0, .int .i8 a0_1, .int .u16 a0_2, .int .u16 a0_3, .int .u16 a0_4, .int .u16 a0_5, .int .u16 a0_6, .int .u16 a0_7, .int .u16 a0_8, .int .u16 a0_9, .int .u16 a0_10, .int .u16 a0_11] 26 (0, 0)) (zK BK496.out) hb); have n1_ := ak (blk_below (g := gb497) (o := .cells #[.int .i16 a1_0, .slice A1_1 l1_1.length c1_1] 44 (0, 0)) (zK BK497.out) hb); have n2_ := ak (below_step (by repeat (first | (with_reducible first | exact HB.out | apply below_alloc | apply pw_below_drewN | apply below_drew1 | refine below_set ?_ GE496.out | refine below_set ?_ GE497.out) | exact HB.out)) hb); clear BK496 BK497 HB; have BK496 := n0_; have BK497 := n1_; have HB := n2_; clear n0_ n1_ n2_; (try clear hb); (try clear hb2); (try clear hk); (try clear hi)) | ((with_reducible refine gate_callee (f := 18) rfl ?_); refine goesL_ (some 24) rfl rfl Try.func18 (by kernel_rfl) rfl #[.slice A2 l2.length c2, .int .i64 t498] rfl (by (try simp only [List.map_toArray, List.map_cons, List.map_nil]); first | done | rfl | (simp only [List.length_drop, List.length_take]; rfl)) ?_; (with_reducible refine (laws_szHoldS.calls _ _ l2 t498 t499 _ ?side1 ?side2 A12.out).mono ?_); (case side1 => repeat (first | exact (Kd.C_below HR2.out HB.out) | (with_reducible refine Kd.C_alloc ?_ _) | (with_reducible refine Kd.C_drewN ?_ _) | (with_reducible refine Kd.C_drew ?_))); (case side2 => exact HC2.out); rintro e w' ⟨rfl, ⟨nd, rfl⟩⟩; refine ⟨_, rfl, ?_⟩; (try (rw [drewN_self w41]; generalize hq_ : World.drewN w41 _ = w41; have n0_ : Aside0 (w41.heap[gb496]? = some (.cells #[.int .i8 a0_0, .int .i8 a0_1, .int .u16 a0_2, .int .u16 a0_3, .int .u16 a0_4, .int .u16 a0_5, .int .u16 a0_6, .int .u16 a0_7, .int .u16 a0_8, .int .u16 a0_9, .int .u16 a0_10, .int .u16 a0_11] 26 (0, 0))) := ⟨by rw [← hq_]; exact (zK BK496.out)⟩; have n1_ : Aside0 (w41.heap[gb497]? = some (.cells #[.int .i16 a1_0, .slice A1_1 l1_1.length c1_1] 44 (0, 0))) := ⟨by rw [← hq_]; exact (zK BK497.out)⟩; have n2_ : Aside0 (Below w.heap.size w w41) := ⟨by rw [← hq_]; exact (by repeat (first | (with_reducible first | exact HB.out | apply below_alloc | apply pw_below_drewN | apply below_drew1 | refine below_set ?_ GE496.out | refine below_set ?_ GE497.out) | exact HB.out))⟩; clear BK496 BK497 HB hq_; have BK496 := n0_; have BK497 := n1_; have HB := n2_; clear n0_ n1_ n2_))) | ((with_reducible refine gate_callee (f := 7) rfl ?_); refine goesL_ (some 29) rfl rfl Try.func7 (by kernel_rfl) rfl #[.slice A3 l3.length c3, .int .i64 t499] rfl (by (try simp only [List.map_toArray, List.map_cons, List.map_nil]); first | done | rfl | (simp only [List.length_drop, List.length_take]; rfl)) ?_; (with_reducible refine (laws_szSpotS.calls _ _ l3 t499 t500 _ ?side1 ?side2 A19.out).mono ?_); (case side1 => repeat (first | exact (Kd.C_below HR3.out HB.out) | (with_reducible refine Kd.C_alloc ?_ _) | (with_reducible refine Kd.C_drewN ?_ _) | (with_reducible refine Kd.C_drew ?_))); (case side2 => exact HC3.out); rintro e w' ⟨rfl, ⟨nd, rfl⟩⟩; refine ⟨_, rfl, ?_⟩; (try (rw [drewN_self w41]; generalize hq_ : World.drewN w41 _ = w41; have n0_ : Aside0 (w41.heap[gb496]? = some (.cells #[.int .i8 a0_0, .int .i8 a0_1, .int .u16 a0_2, .int .u16 a0_3, .int .u16 a0_4, .int .u16 a0_5, .int .u16 a0_6, .int .u16 a0_7, .int .u16 a0_8, .int .u16 a0_9, .int .u16 a0_10, .int .u16 a0_11] 26 (0, 0))) := ⟨by rw [← hq_]; exact (zK BK496.out)⟩; have n1_ : Aside0 (w41.heap[gb497]? = some (.cells #[.int .i16 a1_0, .slice A1_1 l1_1.length c1_1] 44 (0, 0))) := ⟨by rw [← hq_]; exact (zK BK497.out)⟩; have n2_ : Aside0 (Below w.heap.size w w41) := ⟨by rw [← hq_]; exact (by repeat (first | (with_reducible first | exact HB.out | apply below_alloc | apply pw_below_drewN | apply below_drew1 | refine below_set ?_ GE496.out | refine below_set ?_ GE497.out) | exact HB.out))⟩; clear BK496 BK497 HB hq_; have BK496 := n0_; have BK497 := n1_; have HB := n2_; clear n0_ n1_ n2_))))
 replace BK496 := ak (blk_drew BK496.out)
 replace BK497 := ak (blk_drew BK497.out)
 replace HB := ak (below_drew1 HB.out)
 refine start_ (n := 14) (S := fun w' => w'.cell? ⟨gb496, 0, none⟩ = some (.int .i8 a0_0) ∧ w'.cell? ⟨gb496, 1, none⟩ = some (.int .i8 a0_1) ∧ w'.cell? ⟨gb496, 2, none⟩ = some (.int .u16 a0_2) ∧ w'.cell? ⟨gb496, 3, none⟩ = some (.int .u16 a0_3) ∧ w'.cell? ⟨gb496, 4, none⟩ = some (.int .u16 a0_4) ∧ w'.cell? ⟨gb496, 5, none⟩ = some (.int .u16 a0_5) ∧ w'.cell? ⟨gb496, 6, none⟩ = some (.int .u16 a0_6) ∧ w'.cell? ⟨gb496, 7, none⟩ = some (.int .u16 a0_7) ∧ w'.cell? ⟨gb496, 8, none⟩ = some (.int .u16 a0_8) ∧ w'.cell? ⟨gb496, 9, none⟩ = some (.int .u16 a0_9) ∧ w'.cell? ⟨gb496, 10, none⟩ = some (.int .u16 a0_10) ∧ w'.cell? ⟨gb496, 11, none⟩ = some (.int .u16 a0_11) ∧ w'.cell? ⟨gb497, 0, none⟩ = some (.int .i16 a1_0) ∧ w'.cell? ⟨gb497, 1, none⟩ = some (.slice A1_1 l1_1.length c1_1)) (ds := []) (bA 14 0) (by kernel_rfl) rfl rfl (cr12 BK496 ⟨(blk_cell BK497.out 0).trans rfl, (blk_cell BK497.out 1).trans rfl⟩) (fun hHeld => ?_); refine with_tabW laws_FnExactCanStand.tab11 laws_FnExactCanStand.bits11 (fun HT_ HW_ => ?_)
 generalize w41.drew = w42 at BK496 BK497 HB hHeld ⊢
 refine pU 4 37 (bA 14 16) HT_ ?_
 refine pU 6 39 (bA 14 80) HT_ ?_
 refine tK 0 33 (bA 14 81) HT_ HW_ hHeld ?_
 refine tK 2 35 (bA 14 85) HT_ HW_ hHeld ?_
 refine one_ (i := 1) (N := some 34) (bA 14 87) rfl rfl (one_of HT_.out (by kernel_rfl)) (by decide) (fun K hK => ?_)
 refine goes_ Try.func9 (by kernel_rfl) rfl #[.agg #[.int .i8 a0_0, .int .i8 a0_1, .int .u16 a0_2, .int .u16 a0_3, .int .u16 a0_4, .int .u16 a0_5, .int .u16 a0_6, .int .u16 a0_7, .int .u16 a0_8, .int .u16 a0_9, .int .u16 a0_10, .int .u16 a0_11]] (by rfl) rfl rfl (by (try simp only [List.map_toArray, List.map_cons, List.map_nil]); first | done | rfl | (simp only [List.length_drop, List.length_take]; rfl)) ?_
 with_reducible refine (laws_toRoom.calls k a0_0 a0_1 a0_2 a0_3 a0_4 a0_5 a0_6 a0_7 a0_8 a0_9 a0_10 a0_11 t501 t502 t503 t504 t505 t506 t507 t508 t509 t510 t511 t512 _ A26.out).mono ?_
 rintro e w43 ⟨rfl, hb⟩
 refine ⟨_, rfl, ?_⟩
 replace BK496 := kK BK496 hb
 replace BK497 := kK BK497 hb
 replace HB := kB2 HB GE496 GE497 hb
 (try clear hb)
 refine hK.out _ _ (cr12 BK496 ⟨(blk_cell BK497.out 0).trans rfl, (blk_cell BK497.out 1).trans rfl⟩) (fun hHeld => ?_)
 clear hK K
 refine norm_ (a' := ?_) ?_ ?_
 rotate_left
 {
 show Act.put _ (some 34) _ = _
 simp only [Act.put, zs, zz, zk, i64_w, i32_w]
 rfl
 }
 refine one_ (i := 3) (N := some 36) (bA 14 95) rfl rfl (one_of HT_.out (by kernel_rfl)) (by decide) (fun K hK => ?_)
 refine goes_ Try.func20 (by kernel_rfl) rfl #[.agg #[.int .i16 a1_0, .slice A1_1 l1_1.length c1_1]] (by rfl) rfl rfl (by (try simp only [List.map_toArray, List.map_cons, List.map_nil]); first | done | rfl | (simp only [List.length_drop, List.length_take]; rfl)) ?_
 with_reducible refine (laws_toRope.calls k a1_0 _ _ l1_1 t513 t514 _ ?side1 ?side2 A27.out).mono ?_
 (case side1 => repeat (first | exact (Kd.C_below HR1_1.out HB.out) | (with_reducible refine Kd.C_alloc ?_ _) | (with_reducible refine Kd.C_drewN ?_ _) | (with_reducible refine Kd.C_drew ?_)))
 (case side2 => exact HC1_1.out)
 rintro e w44 ⟨v515, rfl, ho0, hb⟩
 refine ⟨_, rfl, ?_⟩
 have HO516 := ak (Kd.R_lower ho0 (below_size (by repeat (first | (with_reducible first | exact HB.out | apply below_alloc | apply pw_below_drewN | apply below_drew1 | refine below_set ?_ GE496.out | refine below_set ?_ GE497.out) | exact HB.out))))
 replace BK496 := kK BK496 hb
 replace BK497 := kK BK497 hb
 replace HB := kB2 HB GE496 GE497 hb
 (try clear hb)
 (try clear ho0)
 refine hK.out _ _ (cr12 BK496 ⟨(blk_cell BK497.out 0).trans rfl, (blk_cell BK497.out 1).trans rfl⟩) (fun hHeld => ?_)
 clear hK K
 refine norm_ (a' := ?_) ?_ ?_
 rotate_left
 {
 show Act.put _ (some 36) _ = _
 simp only [Act.put, zs, zz, zk, i64_w, i32_w]
 rfl
 }
 refine one_ (i := 5) (N := some 38) (bA 14 127) rfl rfl (one_of HT_.out (by kernel_rfl)) (by decide) (fun K hK => ?_)
 refine goes_ Try.func21 (by kernel_rfl) rfl #[.slice A2 l2.length c2] (by rfl) rfl rfl (by (try simp only [List.map_toArray, List.map_cons, List.map_nil]); first | done | rfl | (simp only [List.length_drop, List.length_take]; rfl)) ?_
 with_reducible refine (laws_toHoldS.calls k _ _ l2 t517 _ ?side1 ?side2 A28.out).mono ?_
 (case side1 => repeat (first | exact (Kd.C_below HR2.out HB.out) | (with_reducible refine Kd.C_alloc ?_ _) | (with_reducible refine Kd.C_drewN ?_ _) | (with_reducible refine Kd.C_drew ?_)))
 (case side2 => exact HC2.out)
 rintro e w45 ⟨v518, rfl, ho0, hb⟩
 refine ⟨_, rfl, ?_⟩
 have HO519 := ak (Kd.R_lower ho0 (below_size (by repeat (first | (with_reducible first | exact HB.out | apply below_alloc | apply pw_below_drewN | apply below_drew1 | refine below_set ?_ GE496.out | refine below_set ?_ GE497.out) | exact HB.out))))
 replace HO516 := kR HO516 hb
 replace BK496 := kK BK496 hb
 replace BK497 := kK BK497 hb
 replace HB := kB2 HB GE496 GE497 hb
 (try clear hb)
 (try clear ho0)
 refine hK.out _ _ (cr12 BK496 ⟨(blk_cell BK497.out 0).trans rfl, (blk_cell BK497.out 1).trans rfl⟩) (fun hHeld => ?_)
 clear hK K
 refine norm_ (a' := ?_) ?_ ?_
 rotate_left
 {
 show Act.put _ (some 38) _ = _
 simp only [Act.put, zs, zz, zk, i64_w, i32_w]
 rfl
 }
 refine one_ (i := 7) (N := some 40) (bA 14 255) rfl rfl (one_of HT_.out (by kernel_rfl)) (by decide) (fun K hK => ?_)
 refine goes_ Try.func10 (by kernel_rfl) rfl #[.slice A3 l3.length c3] (by rfl) rfl rfl (by (try simp only [List.map_toArray, List.map_cons, List.map_nil]); first | done | rfl | (simp only [List.length_drop, List.length_take]; rfl)) ?_
 with_reducible refine (laws_toSpotS.calls k _ _ l3 t520 _ ?side1 ?side2 A29.out).mono ?_
 (case side1 => repeat (first | exact (Kd.C_below HR3.out HB.out) | (with_reducible refine Kd.C_alloc ?_ _) | (with_reducible refine Kd.C_drewN ?_ _) | (with_reducible refine Kd.C_drew ?_)))
 (case side2 => exact HC3.out)
 rintro e w46 ⟨v521, rfl, ho0, hb⟩
 refine ⟨_, rfl, ?_⟩
 have HO522 := ak (Kd.R_lower ho0 (below_size (by repeat (first | (with_reducible first | exact HB.out | apply below_alloc | apply pw_below_drewN | apply below_drew1 | refine below_set ?_ GE496.out | refine below_set ?_ GE497.out) | exact HB.out))))
 replace HO516 := kR HO516 hb
 replace HO519 := kR HO519 hb
 replace BK496 := kK BK496 hb
 replace BK497 := kK BK497 hb
 replace HB := kB2 HB GE496 GE497 hb
 (try clear hb)
 (try clear ho0)
 obtain ⟨Ao47, co47, eo47⟩ := Kd.R_slice HO516.out
 (first | subst eo47 | (injection eo47 with f1_ f2_ f3_; have f4_ := f1_.symm; have f5_ := f3_.symm; clear f1_ f2_ f3_; subst f4_; subst f5_))
 obtain ⟨Ao48, co48, eo48⟩ := Kd.R_slice HO519.out
 (first | subst eo48 | (injection eo48 with f1_ f2_ f3_; have f4_ := f1_.symm; have f5_ := f3_.symm; clear f1_ f2_ f3_; subst f4_; subst f5_))
 obtain ⟨Ao49, co49, eo49⟩ := Kd.R_slice HO522.out
 (first | subst eo49 | (injection eo49 with f1_ f2_ f3_; have f4_ := f1_.symm; have f5_ := f3_.symm; clear f1_ f2_ f3_; subst f4_; subst f5_))
 refine hK.out _ _ (cr12 BK496 ⟨(blk_cell BK497.out 0).trans rfl, (blk_cell BK497.out 1).trans rfl⟩) (fun hHeld => ?_)
 clear hK K
 refine norm_ (a' := ?_) ?_ ?_
 rotate_left
 {
 show Act.put _ (some 40) _ = _
 simp only [Act.put, zs, zz, zk, i64_w, i32_w]
 rfl
 }
 refine one_ (i := 8) (N := some 41) (bA 14 511) rfl rfl (one_of HT_.out (by kernel_rfl)) (by decide) (fun K hK => ?_)
 refine goes_ Try.func19 (by kernel_rfl) rfl #[.agg #[.int .i8 t501, .int .i8 t502, .int .u16 t503, .int .u16 t504, .int .u16 t505, .int .u16 t506, .int .u16 t507, .int .u16 t508, .int .u16 t509, .int .u16 t510, .int .u16 t511, .int .u16 t512], .agg #[.int .i16 t513, .slice Ao47 t514.length co47], .slice Ao48 t517.length co48, .slice Ao49 t520.length co49] (by rfl) rfl rfl (by (try simp only [List.map_toArray, List.map_cons, List.map_nil]); first | done | rfl | (simp only [List.length_drop, List.length_take]; rfl)) ?_
 with_reducible refine (spec_CanStand.calls k t501 t502 t503 t504 t505 t506 t507 t508 t509 t510 t511 t512 t513 _ _ t514 _ _ t517 _ _ t520 t523 t524 _ ?side1 ?side2 ?side3 ?side4 ?side5 ?side6 A30.out).mono ?_
 (case side1 => exact zC (Kd.R_reads' HO516.out).2.2)
 (case side2 => exact (Kd.R_reads' HO516.out).2.1)
 (case side3 => exact zC (Kd.R_reads' HO519.out).2.2)
 (case side4 => exact (Kd.R_reads' HO519.out).2.1)
 (case side5 => exact zC (Kd.R_reads' HO522.out).2.2)
 (case side6 => exact (Kd.R_reads' HO522.out).2.1)
 rintro e w50 ⟨rfl, hb⟩
 refine ⟨_, rfl, ?_⟩
 replace HO516 := kR HO516 hb
 replace HO519 := kR HO519 hb
 replace HO522 := kR HO522 hb
 replace BK496 := kK BK496 hb
 replace BK497 := kK BK497 hb
 replace HB := kB2 HB GE496 GE497 hb
 (try clear hb)
 refine hK.out _ _ (cr12 BK496 ⟨(blk_cell BK497.out 0).trans rfl, (blk_cell BK497.out 1).trans rfl⟩) (fun hHeld => ?_)
 clear hK K
 refine norm_ (a' := ?_) ?_ ?_
 rotate_left
 {
 show Act.put _ (some 41) _ = _
 simp only [Act.put, zs, zz, zk, i64_w, i32_w]
 rfl
 }
 refine pU 9 32 (bA 14 1023) HT_ ?_
 refine pU 10 42 (bA 14 2047) HT_ ?_
 refine pU 11 43 (bA 14 4095) HT_ ?_
 refine pU 12 10 (bA 14 8191) HT_ ?_
 refine pU 13 11 (bA 14 16383) HT_ ?_
 refine done_ (done_of HT_.out (by kernel_rfl)) ?_
 have hcz51_0 : w50.cell? ⟨gb497, 0, none⟩ = some (.int .i16 a1_0) := (blk_cell BK497.out 0).trans rfl
 have hcz51_1 : w50.cell? ⟨gb497, 1, none⟩ = some (.slice A1_1 l1_1.length c1_1) := (blk_cell BK497.out 1).trans rfl
 have hfz51_0 := blk_frozen BK497.out 0
 have hfz51_1 := blk_frozen BK497.out 1
 try go_wp2_with (first | ((with_reducible refine gate_callee (f := 20) rfl ?_); refine goesL_ (some 45) rfl rfl Try.func20 (by kernel_rfl) rfl #[.agg #[.int .i16 a1_0, .slice A1_1 l1_1.length c1_1]] rfl (by (try simp only [List.map_toArray, List.map_cons, List.map_nil]); first | done | rfl | (simp only [List.length_drop, List.length_take]; rfl)) ?_; (with_reducible refine (laws_toRope.calls k a1_0 _ _ l1_1 t525 t526 _ ?side1 ?side2 A31.out).mono ?_); (case side1 => repeat (first | exact (Kd.C_below HR1_1.out HB.out) | (with_reducible refine Kd.C_alloc ?_ _) | (with_reducible refine Kd.C_drewN ?_ _) | (with_reducible refine Kd.C_drew ?_))); (case side2 => exact HC1_1.out); rintro e w52 ⟨v527, rfl, ho0, hb⟩; refine ⟨_, rfl, ?_⟩; have n0_ := ak (Kd.R_elder' (zR HO516.out) (Kd.R_base ho0) hb); have n1_ := ak (Kd.R_below (zR HO519.out) hb); have n2_ := ak (Kd.R_below (zR HO522.out) hb); have n3_ := ak (Kd.R_lower (Kd.R_new' ho0 (Kd.R_lt (zR HO516.out))) (below_size (by repeat (first | (with_reducible first | exact HB.out | apply below_alloc | apply pw_below_drewN | apply below_drew1 | refine below_set ?_ GE496.out | refine below_set ?_ GE497.out) | exact HB.out)))); have n4_ := ak (blk_below (g := gb496) (o := .cells #[.int .i8 a0_0, .int .i8 a0_1, .int .u16 a0_2, .int .u16 a0_3, .int .u16 a0_4, .int .u16 a0_5, .int .u16 a0_6, .int .u16 a0_7, .int .u16 a0_8, .int .u16 a0_9, .int .u16 a0_10, .int .u16 a0_11] 26 (0, 0)) (zK BK496.out) hb); have n5_ := ak (blk_below (g := gb497) (o := .cells #[.int .i16 a1_0, .slice A1_1 l1_1.length c1_1] 44 (0, 0)) (zK BK497.out) hb); have n6_ := ak (below_step (by repeat (first | (with_reducible first | exact HB.out | apply below_alloc | apply pw_below_drewN | apply below_drew1 | refine below_set ?_ GE496.out | refine below_set ?_ GE497.out) | exact HB.out)) hb); clear HO516 HO519 HO522 BK496 BK497 HB; have HO516 := n0_; have HO519 := n1_; have HO522 := n2_; have HO528 := n3_; have BK496 := n4_; have BK497 := n5_; have HB := n6_; clear n0_ n1_ n2_ n3_ n4_ n5_ n6_; (try clear hb); (try clear hb2); (try clear hk); (try clear hi); (try clear ho0)) | ((with_reducible refine gate_dst (N := 12) rfl ?_); refine box_event ?hg (N := 12) ?hd (cs := #[.int .i16 0, .slice none 0 0]) (t := 32) ?hr ?_; (case hd => rfl); (case hg => rfl); (case hr => first | (go_simp; done) | (go_simp; rfl)); intro gb529 hg w53 hbox hb; have n0_ := ak (Kd.R_below (zR HO516.out) hb); have n1_ := ak (Kd.R_below (zR HO519.out) hb); have n2_ := ak (Kd.R_below (zR HO522.out) hb); have n3_ := ak (Kd.R_below (zR HO528.out) hb); have n4_ := ak (blk_below (g := gb496) (o := .cells #[.int .i8 a0_0, .int .i8 a0_1, .int .u16 a0_2, .int .u16 a0_3, .int .u16 a0_4, .int .u16 a0_5, .int .u16 a0_6, .int .u16 a0_7, .int .u16 a0_8, .int .u16 a0_9, .int .u16 a0_10, .int .u16 a0_11] 26 (0, 0)) (zK BK496.out) hb); have n5_ := ak (blk_below (g := gb497) (o := .cells #[.int .i16 a1_0, .slice A1_1 l1_1.length c1_1] 44 (0, 0)) (zK BK497.out) hb); have n6_ := ak (below_step (by repeat (first | (with_reducible first | exact HB.out | apply below_alloc | apply pw_below_drewN | apply below_drew1 | refine below_set ?_ GE496.out | refine below_set ?_ GE497.out) | exact HB.out)) hb); have n7_ := ak (hbox); have n8_ := ak ((by rw [hg]; exact (below_size (by repeat (first | (with_reducible first | exact HB.out | apply below_alloc | apply pw_below_drewN | apply below_drew1 | refine below_set ?_ GE496.out | refine below_set ?_ GE497.out) | exact HB.out))) : w.heap.size ≤ gb529)); have n9_ := ak ((by rw [hg]; exact (below_size (by repeat (first | (with_reducible first | exact HB.out | apply below_alloc | apply pw_below_drewN | apply below_drew1 | refine below_set ?_ GE496.out | refine below_set ?_ GE497.out) | exact HB.out))) : w.heap.size ≤ gb529)); have n10_ := nL BK496 hg; have n11_ := nG BK496 hg; have n12_ := nL BK497 hg; have n13_ := nG BK497 hg; clear HO516 HO519 HO522 HO528 BK496 BK497 HB; have HO516 := n0_; have HO519 := n1_; have HO522 := n2_; have HO528 := n3_; have BK496 := n4_; have BK497 := n5_; have HB := n6_; have BK529 := n7_; have GW529 := n8_; have GE529 := n9_; have NB496_529 := n10_; have NB529_496 := n11_; have NB497_529 := n12_; have NB529_497 := n13_; clear n0_ n1_ n2_ n3_ n4_ n5_ n6_ n7_ n8_ n9_ n10_ n11_ n12_ n13_; clear hb hbox hg; have hnb54 := NB529_496.out; have hnc54 := NB496_529.out; have hnb55 := NB529_497.out; have hnc55 := NB497_529.out; have hcz56_0 : w53.cell? ⟨gb529, 0, none⟩ = some (.int .i16 0) := (blk_cell BK529.out 0).trans rfl; have hcz56_1 : w53.cell? ⟨gb529, 1, none⟩ = some (.slice none 0 0) := (blk_cell BK529.out 1).trans rfl; have hfz56_0 := blk_frozen BK529.out 0; have hfz56_1 := blk_frozen BK529.out 1; obtain ⟨Ao57, co57, eo57⟩ := Kd.R_slice HO528.out; subst eo57) | ((with_reducible refine gate_callee (f := 21) rfl ?_); refine goesL_ (some 47) rfl rfl Try.func21 (by kernel_rfl) rfl #[.slice A2 l2.length c2] rfl (by (try simp only [List.map_toArray, List.map_cons, List.map_nil]); first | done | rfl | (simp only [List.length_drop, List.length_take]; rfl)) ?_; (with_reducible refine (laws_toHoldS.calls k _ _ l2 t530 _ ?side1 ?side2 A32.out).mono ?_); (case side1 => exact Kd.C_below HR2.out (by repeat (first | (with_reducible first | exact HB.out | apply below_alloc | apply pw_below_drewN | apply below_drew1 | refine below_set ?_ GE496.out | refine below_set ?_ GE497.out | refine below_set ?_ GE529.out) | exact HB.out))); (case side2 => exact HC2.out); rintro e w58 ⟨v531, rfl, ho0, hb⟩; refine ⟨_, rfl, ?_⟩; have n0_ := ak (Kd.R_below (by (with_reducible repeat (first | apply Kd.R_alloc | apply Kd.R_drewN | apply Kd.R_drew)); exact (Kd.R_mono (Kd.R_far (p := ⟨gb529, 1, none⟩) (Kd.R_far (p := ⟨gb529, 0, none⟩) (Kd.R_types HO516.out BK529.out (by decide)) (fun _ hk => hk.2) (.int .i16 t525)) (fun _ hk => hk.2) (.slice Ao57 t526.length co57)) (fun _ h_ => h_.1))) hb); have n1_ := ak (Kd.R_elder' (by (with_reducible repeat (first | apply Kd.R_alloc | apply Kd.R_drewN | apply Kd.R_drew)); exact (Kd.R_mono (Kd.R_far (p := ⟨gb529, 1, none⟩) (Kd.R_far (p := ⟨gb529, 0, none⟩) (Kd.R_types HO519.out BK529.out (by decide)) (fun _ hk => hk.2) (.int .i16 t525)) (fun _ hk => hk.2) (.slice Ao57 t526.length co57)) (fun _ h_ => h_.1))) (Kd.R_base ho0) hb); have n2_ := ak (Kd.R_below (by (with_reducible repeat (first | apply Kd.R_alloc | apply Kd.R_drewN | apply Kd.R_drew)); exact (Kd.R_mono (Kd.R_far (p := ⟨gb529, 1, none⟩) (Kd.R_far (p := ⟨gb529, 0, none⟩) (Kd.R_types HO522.out BK529.out (by decide)) (fun _ hk => hk.2) (.int .i16 t525)) (fun _ hk => hk.2) (.slice Ao57 t526.length co57)) (fun _ h_ => h_.1))) hb); have n3_ := ak (Kd.R_below (by (with_reducible repeat (first | apply Kd.R_alloc | apply Kd.R_drewN | apply Kd.R_drew)); exact (Kd.R_mono (Kd.R_far (p := ⟨gb529, 1, none⟩) (Kd.R_far (p := ⟨gb529, 0, none⟩) (Kd.R_types HO528.out BK529.out (by decide)) (fun _ hk => hk.2) (.int .i16 t525)) (fun _ hk => hk.2) (.slice Ao57 t526.length co57)) (fun _ h_ => h_.1))) hb); have n4_ := ak (Kd.R_lower (Kd.R_new' ho0 (Kd.R_lt (by (with_reducible repeat (first | apply Kd.R_alloc | apply Kd.R_drewN | apply Kd.R_drew)); exact (Kd.R_mono (Kd.R_far (p := ⟨gb529, 1, none⟩) (Kd.R_far (p := ⟨gb529, 0, none⟩) (Kd.R_types HO519.out BK529.out (by decide)) (fun _ hk => hk.2) (.int .i16 t525)) (fun _ hk => hk.2) (.slice Ao57 t526.length co57)) (fun _ h_ => h_.1))))) (below_size (by repeat (first | (with_reducible first | exact HB.out | apply below_alloc | apply pw_below_drewN | apply below_drew1 | refine below_set ?_ GE496.out | refine below_set ?_ GE497.out | refine below_set ?_ GE529.out) | exact HB.out)))); have n5_ := ak (blk_below (g := gb496) (o := .cells #[.int .i8 a0_0, .int .i8 a0_1, .int .u16 a0_2, .int .u16 a0_3, .int .u16 a0_4, .int .u16 a0_5, .int .u16 a0_6, .int .u16 a0_7, .int .u16 a0_8, .int .u16 a0_9, .int .u16 a0_10, .int .u16 a0_11] 26 (0, 0)) (by (with_reducible repeat (first | refine blk_drewN ?_ _ | refine blk_drew ?_ | refine blk_alloc ?_ _)); refine blk_far ?_ NB496_529.out _; (with_reducible repeat (first | refine blk_drewN ?_ _ | refine blk_drew ?_ | refine blk_alloc ?_ _)); refine blk_far ?_ NB496_529.out _; (with_reducible repeat (first | refine blk_drewN ?_ _ | refine blk_drew ?_ | refine blk_alloc ?_ _)); exact BK496.out) hb); have n6_ := ak (blk_below (g := gb497) (o := .cells #[.int .i16 a1_0, .slice A1_1 l1_1.length c1_1] 44 (0, 0)) (by (with_reducible repeat (first | refine blk_drewN ?_ _ | refine blk_drew ?_ | refine blk_alloc ?_ _)); refine blk_far ?_ NB497_529.out _; (with_reducible repeat (first | refine blk_drewN ?_ _ | refine blk_drew ?_ | refine blk_alloc ?_ _)); refine blk_far ?_ NB497_529.out _; (with_reducible repeat (first | refine blk_drewN ?_ _ | refine blk_drew ?_ | refine blk_alloc ?_ _)); exact BK497.out) hb); have n7_ := ak (blk_below (g := gb529) (o := .cells #[.int .i16 t525, .slice Ao57 t526.length co57] 32 (0, 0)) (by (with_reducible repeat (first | refine blk_drewN ?_ _ | refine blk_drew ?_ | refine blk_alloc ?_ _)); refine blk_put (cs := #[.int .i16 t525, .slice none 0 0]) ?_ 1 _ rfl; (with_reducible repeat (first | refine blk_drewN ?_ _ | refine blk_drew ?_ | refine blk_alloc ?_ _)); refine blk_put (cs := #[.int .i16 0, .slice none 0 0]) ?_ 0 _ rfl; (with_reducible repeat (first | refine blk_drewN ?_ _ | refine blk_drew ?_ | refine blk_alloc ?_ _)); exact BK529.out) hb); have n8_ := ak (below_step (by repeat (first | (with_reducible first | exact HB.out | apply below_alloc | apply pw_below_drewN | apply below_drew1 | refine below_set ?_ GE496.out | refine below_set ?_ GE497.out | refine below_set ?_ GE529.out) | exact HB.out)) hb); clear HO516 HO519 HO522 HO528 BK496 BK497 BK529 HB; have HO516 := n0_; have HO519 := n1_; have HO522 := n2_; have HO528 := n3_; have HO532 := n4_; have BK496 := n5_; have BK497 := n6_; have BK529 := n7_; have HB := n8_; clear n0_ n1_ n2_ n3_ n4_ n5_ n6_ n7_ n8_; (try clear hb); (try clear hb2); (try clear hk); (try clear hi); (try clear ho0)) | ((with_reducible refine gate_callee (f := 10) rfl ?_); refine goesL_ (some 49) rfl rfl Try.func10 (by kernel_rfl) rfl #[.slice A3 l3.length c3] rfl (by (try simp only [List.map_toArray, List.map_cons, List.map_nil]); first | done | rfl | (simp only [List.length_drop, List.length_take]; rfl)) ?_; (with_reducible refine (laws_toSpotS.calls k _ _ l3 t533 _ ?side1 ?side2 A33.out).mono ?_); (case side1 => repeat (first | exact (Kd.C_below HR3.out HB.out) | (with_reducible refine Kd.C_alloc ?_ _) | (with_reducible refine Kd.C_drewN ?_ _) | (with_reducible refine Kd.C_drew ?_))); (case side2 => exact HC3.out); rintro e w59 ⟨v534, rfl, ho0, hb⟩; refine ⟨_, rfl, ?_⟩; have n0_ := ak (Kd.R_below (zR HO516.out) hb); have n1_ := ak (Kd.R_below (zR HO519.out) hb); have n2_ := ak (Kd.R_elder' (zR HO522.out) (Kd.R_base ho0) hb); have n3_ := ak (Kd.R_below (zR HO528.out) hb); have n4_ := ak (Kd.R_below (zR HO532.out) hb); have n5_ := ak (Kd.R_lower (Kd.R_new' ho0 (Kd.R_lt (zR HO522.out))) (below_size (by repeat (first | (with_reducible first | exact HB.out | apply below_alloc | apply pw_below_drewN | apply below_drew1 | refine below_set ?_ GE496.out | refine below_set ?_ GE497.out | refine below_set ?_ GE529.out) | exact HB.out)))); have n6_ := ak (blk_below (g := gb496) (o := .cells #[.int .i8 a0_0, .int .i8 a0_1, .int .u16 a0_2, .int .u16 a0_3, .int .u16 a0_4, .int .u16 a0_5, .int .u16 a0_6, .int .u16 a0_7, .int .u16 a0_8, .int .u16 a0_9, .int .u16 a0_10, .int .u16 a0_11] 26 (0, 0)) (zK BK496.out) hb); have n7_ := ak (blk_below (g := gb497) (o := .cells #[.int .i16 a1_0, .slice A1_1 l1_1.length c1_1] 44 (0, 0)) (zK BK497.out) hb); have n8_ := ak (blk_below (g := gb529) (o := .cells #[.int .i16 t525, .slice Ao57 t526.length co57] 32 (0, 0)) (zK BK529.out) hb); have n9_ := ak (below_step (by repeat (first | (with_reducible first | exact HB.out | apply below_alloc | apply pw_below_drewN | apply below_drew1 | refine below_set ?_ GE496.out | refine below_set ?_ GE497.out | refine below_set ?_ GE529.out) | exact HB.out)) hb); clear HO516 HO519 HO522 HO528 HO532 BK496 BK497 BK529 HB; have HO516 := n0_; have HO519 := n1_; have HO522 := n2_; have HO528 := n3_; have HO532 := n4_; have HO535 := n5_; have BK496 := n6_; have BK497 := n7_; have BK529 := n8_; have HB := n9_; clear n0_ n1_ n2_ n3_ n4_ n5_ n6_ n7_ n8_ n9_; (try clear hb); (try clear hb2); (try clear hk); (try clear hi); (try clear ho0)))
 replace HO516 := ak (Kd.R_drew HO516.out)
 replace HO519 := ak (Kd.R_drew HO519.out)
 replace HO522 := ak (Kd.R_drew HO522.out)
 replace HO528 := ak (Kd.R_drew HO528.out)
 replace HO532 := ak (Kd.R_drew HO532.out)
 replace HO535 := ak (Kd.R_drew HO535.out)
 replace BK496 := ak (blk_drew BK496.out)
 replace BK497 := ak (blk_drew BK497.out)
 replace BK529 := ak (blk_drew BK529.out)
 replace HB := ak (below_drew1 HB.out)
 refine start_ (n := 11) (S := fun w' => w'.cell? ⟨gb496, 0, none⟩ = some (.int .i8 a0_0) ∧ w'.cell? ⟨gb496, 1, none⟩ = some (.int .i8 a0_1) ∧ w'.cell? ⟨gb496, 2, none⟩ = some (.int .u16 a0_2) ∧ w'.cell? ⟨gb496, 3, none⟩ = some (.int .u16 a0_3) ∧ w'.cell? ⟨gb496, 4, none⟩ = some (.int .u16 a0_4) ∧ w'.cell? ⟨gb496, 5, none⟩ = some (.int .u16 a0_5) ∧ w'.cell? ⟨gb496, 6, none⟩ = some (.int .u16 a0_6) ∧ w'.cell? ⟨gb496, 7, none⟩ = some (.int .u16 a0_7) ∧ w'.cell? ⟨gb496, 8, none⟩ = some (.int .u16 a0_8) ∧ w'.cell? ⟨gb496, 9, none⟩ = some (.int .u16 a0_9) ∧ w'.cell? ⟨gb496, 10, none⟩ = some (.int .u16 a0_10) ∧ w'.cell? ⟨gb496, 11, none⟩ = some (.int .u16 a0_11) ∧ w'.cell? ⟨gb529, 0, none⟩ = some (.int .i16 t525) ∧ w'.cell? ⟨gb529, 1, none⟩ = some (.slice Ao57 t526.length co57)) (ds := []) (bA 11 0) (by kernel_rfl) rfl rfl (cr12 BK496 ⟨(blk_cell BK529.out 0).trans rfl, (blk_cell BK529.out 1).trans rfl⟩) (fun hHeld => ?_); refine with_tabW laws_FnExactCanStand.tab15 laws_FnExactCanStand.bits15 (fun HT_ HW_ => ?_)
 generalize w59.drew = w60 at HO516 HO519 HO522 HO528 HO532 HO535 BK496 BK497 BK529 HB hHeld ⊢
 refine pU 3 54 (bA 11 8) HT_ ?_
 refine pU 4 55 (bA 11 24) HT_ ?_
 refine tK 0 51 (bA 11 25) HT_ HW_ hHeld ?_
 refine tK 2 53 (bA 11 29) HT_ HW_ hHeld ?_
 refine one_ (i := 1) (N := some 52) (bA 11 31) rfl rfl (one_of HT_.out (by kernel_rfl)) (by decide) (fun K hK => ?_)
 refine goes_ Try.func9 (by kernel_rfl) rfl #[.agg #[.int .i8 a0_0, .int .i8 a0_1, .int .u16 a0_2, .int .u16 a0_3, .int .u16 a0_4, .int .u16 a0_5, .int .u16 a0_6, .int .u16 a0_7, .int .u16 a0_8, .int .u16 a0_9, .int .u16 a0_10, .int .u16 a0_11]] (by rfl) rfl rfl (by (try simp only [List.map_toArray, List.map_cons, List.map_nil]); first | done | rfl | (simp only [List.length_drop, List.length_take]; rfl)) ?_
 with_reducible refine (laws_toRoom.calls k a0_0 a0_1 a0_2 a0_3 a0_4 a0_5 a0_6 a0_7 a0_8 a0_9 a0_10 a0_11 t536 t537 t538 t539 t540 t541 t542 t543 t544 t545 t546 t547 _ A34.out).mono ?_
 rintro e w61 ⟨rfl, hb⟩
 refine ⟨_, rfl, ?_⟩
 replace HO516 := kR HO516 hb
 replace HO519 := kR HO519 hb
 replace HO522 := kR HO522 hb
 replace HO528 := kR HO528 hb
 replace HO532 := kR HO532 hb
 replace HO535 := kR HO535 hb
 replace BK496 := kK BK496 hb
 replace BK497 := kK BK497 hb
 replace BK529 := kK BK529 hb
 replace HB := kB3 HB GE496 GE497 GE529 hb
 (try clear hb)
 obtain ⟨Ao62, co62, eo62⟩ := Kd.R_slice HO532.out
 (first | subst eo62 | (injection eo62 with f1_ f2_ f3_; have f4_ := f1_.symm; have f5_ := f3_.symm; clear f1_ f2_ f3_; subst f4_; subst f5_))
 obtain ⟨Ao63, co63, eo63⟩ := Kd.R_slice HO535.out
 (first | subst eo63 | (injection eo63 with f1_ f2_ f3_; have f4_ := f1_.symm; have f5_ := f3_.symm; clear f1_ f2_ f3_; subst f4_; subst f5_))
 refine hK.out _ _ (cr12 BK496 ⟨(blk_cell BK529.out 0).trans rfl, (blk_cell BK529.out 1).trans rfl⟩) (fun hHeld => ?_)
 clear hK K
 refine norm_ (a' := ?_) ?_ ?_
 rotate_left
 {
 show Act.put _ (some 52) _ = _
 simp only [Act.put, zs, zz, zk, i64_w, i32_w]
 rfl
 }
 refine one_ (i := 5) (N := some 56) (bA 11 63) rfl rfl (one_of HT_.out (by kernel_rfl)) (by decide) (fun K hK => ?_)
 refine goes_ Try.func22 (by kernel_rfl) rfl #[.agg #[.int .i8 t536, .int .i8 t537, .int .u16 t538, .int .u16 t539, .int .u16 t540, .int .u16 t541, .int .u16 t542, .int .u16 t543, .int .u16 t544, .int .u16 t545, .int .u16 t546, .int .u16 t547], .agg #[.int .i16 t525, .slice Ao57 t526.length co57], .slice Ao62 t530.length co62, .slice Ao63 t533.length co63] (by rfl) rfl rfl (by (try simp only [List.map_toArray, List.map_cons, List.map_nil]); first | done | rfl | (simp only [List.length_drop, List.length_take]; rfl)) ?_
 with_reducible refine (impl_CanStand.calls k t536 t537 t538 t539 t540 t541 t542 t543 t544 t545 t546 t547 t525 _ _ t526 _ _ t530 _ _ t533 t548 t549 _ ?side1 ?side2 ?side3 ?side4 ?side5 ?side6 A35.out).mono ?_
 (case side1 => exact zC (Kd.R_reads' HO528.out).2.2)
 (case side2 => exact (Kd.R_reads' HO528.out).2.1)
 (case side3 => exact zC (Kd.R_reads' HO532.out).2.2)
 (case side4 => exact (Kd.R_reads' HO532.out).2.1)
 (case side5 => exact zC (Kd.R_reads' HO535.out).2.2)
 (case side6 => exact (Kd.R_reads' HO535.out).2.1)
 rintro e w64 ⟨rfl, hb⟩
 refine ⟨_, rfl, ?_⟩
 replace HO516 := kR HO516 hb
 replace HO519 := kR HO519 hb
 replace HO522 := kR HO522 hb
 replace HO528 := kR HO528 hb
 replace HO532 := kR HO532 hb
 replace HO535 := kR HO535 hb
 replace BK496 := kK BK496 hb
 replace BK497 := kK BK497 hb
 replace BK529 := kK BK529 hb
 replace HB := kB3 HB GE496 GE497 GE529 hb
 (try clear hb)
 refine hK.out _ _ (cr12 BK496 ⟨(blk_cell BK529.out 0).trans rfl, (blk_cell BK529.out 1).trans rfl⟩) (fun hHeld => ?_)
 clear hK K
 refine norm_ (a' := ?_) ?_ ?_
 rotate_left
 {
 show Act.put _ (some 56) _ = _
 simp only [Act.put, zs, zz, zk, i64_w, i32_w]
 rfl
 }
 refine pU 6 50 (bA 11 127) HT_ ?_
 refine pU 7 57 (bA 11 255) HT_ ?_
 refine pU 8 58 (bA 11 511) HT_ ?_
 refine pU 9 15 (bA 11 1023) HT_ ?_
 refine pU 10 16 (bA 11 2047) HT_ ?_
 refine done_ (done_of HT_.out (by kernel_rfl)) ?_
 go_upto_region 16 with (fail)
 go_cut [66] (fun v66 wc => ∃ (kq : Nat) (x66_35 : Bool), v66 = .bool x66_35 ∧ Aside0 (laws_FnExactCanStand.j0 kq l2 l3 t530 t533 x66_35 a1_0 l1_1 t525 t526 = some r) ∧ Aside0 (kq ≤ k) ∧ Aside0 (Kd.R k65 65 wc w.heap.size (fun _ => True) (.slice Ao62 t530.length co62) t530) ∧ Aside0 (Kd.R k62 62 wc w.heap.size (fun _ => True) (.slice Ao63 t533.length co63) t533) ∧ Aside0 (Kd.R (Kd.int .i16) 29 wc w.heap.size (fun _ => True) (.slice Ao57 t526.length co57) t526) ∧ Aside0 (wc.heap[gb496]? = some (.cells #[.int .i8 a0_0, .int .i8 a0_1, .int .u16 a0_2, .int .u16 a0_3, .int .u16 a0_4, .int .u16 a0_5, .int .u16 a0_6, .int .u16 a0_7, .int .u16 a0_8, .int .u16 a0_9, .int .u16 a0_10, .int .u16 a0_11] 26 (0, 0))) ∧ Aside0 (wc.heap[gb497]? = some (.cells #[.int .i16 a1_0, (.slice A1_1 l1_1.length c1_1)] 44 (0, 0))) ∧ Aside0 (wc.heap[gb529]? = some (.cells #[.int .i16 t525, (.slice Ao57 t526.length co57)] 32 (0, 0))) ∧ Aside0 (Below w.heap.size w wc))
 case first => (
 have H := HC36.out
 clear HC36
 by_cases c65 : (t548 != t523) = true
 {
 rw [if_pos c65] at H
 have c65b0 : (t548 != t523) = true := c65
 (try (have c65b1 : decide (t548 = t523) = false := by simpa using c65))
 (try (have c65b2 : (t548 == t523) = false := by simpa using c65))
 (try (have c65b3 : ¬ (t548 = t523) := by simpa using c65))
 clear c65
 (first | rw [c65b0] | (simp only [i64_w, i32_w]; rw [c65b0]) | skip)
 have H' := ak H
 clear H
 go_wp2
 go_meet
 case rel => exact ⟨_, (true), (by first | rfl | (simp; done) | (simp [*]; done)), H', ⟨by first | omega | exact Nat.le_refl _⟩, ⟨by (with_reducible repeat (first | apply Kd.R_alloc | apply Kd.R_drewN | apply Kd.R_drew)); exact Kd.R_mono HO532.out (fun _ hk => trivial)⟩, ⟨by (with_reducible repeat (first | apply Kd.R_alloc | apply Kd.R_drewN | apply Kd.R_drew)); exact Kd.R_mono HO535.out (fun _ hk => trivial)⟩, ⟨by (with_reducible repeat (first | apply Kd.R_alloc | apply Kd.R_drewN | apply Kd.R_drew)); exact Kd.R_mono HO528.out (fun _ hk => trivial)⟩, ⟨(zK BK496.out)⟩, ⟨(zK BK497.out)⟩, ⟨(zK BK529.out)⟩, ⟨by repeat (first | (with_reducible first | exact HB.out | apply below_alloc | apply pw_below_drewN | apply below_drew1 | refine below_set ?_ GE496.out | refine below_set ?_ GE497.out | refine below_set ?_ GE529.out) | exact HB.out)⟩⟩
 }
 {
 rw [if_neg c65] at H
 have c65b0 : (t548 != t523) = false := by simpa using c65
 (try (have c65b1 : decide (t548 = t523) = true := by simpa using c65))
 (try (have c65b2 : (t548 == t523) = true := by simpa using c65))
 clear c65
 (first | rw [c65b0] | (simp only [i64_w, i32_w]; rw [c65b0]) | skip)
 have H' := ak H
 clear H
 go_wp2
 go_meet
 case rel => exact ⟨_, ((t549 != t524)), (by first | rfl | (simp; done) | (simp [*]; done)), H', ⟨by first | omega | exact Nat.le_refl _⟩, ⟨by (with_reducible repeat (first | apply Kd.R_alloc | apply Kd.R_drewN | apply Kd.R_drew)); exact Kd.R_mono HO532.out (fun _ hk => trivial)⟩, ⟨by (with_reducible repeat (first | apply Kd.R_alloc | apply Kd.R_drewN | apply Kd.R_drew)); exact Kd.R_mono HO535.out (fun _ hk => trivial)⟩, ⟨by (with_reducible repeat (first | apply Kd.R_alloc | apply Kd.R_drewN | apply Kd.R_drew)); exact Kd.R_mono HO528.out (fun _ hk => trivial)⟩, ⟨(zK BK496.out)⟩, ⟨(zK BK497.out)⟩, ⟨(zK BK529.out)⟩, ⟨by repeat (first | (with_reducible first | exact HB.out | apply below_alloc | apply pw_below_drewN | apply below_drew1 | refine below_set ?_ GE496.out | refine below_set ?_ GE497.out | refine below_set ?_ GE529.out) | exact HB.out)⟩⟩
 }
 )
 case rest => (
 clear HC36
 try clear c2
 try clear c3
 try clear c6
 try clear c6b0
 try clear c13
 try clear c13b0
 try clear c20
 try clear c20b0
 try clear hcz40_0
 try clear hcz40_1
 try clear hcz51_0
 try clear hcz51_1
 try clear hcz56_0
 try clear hcz56_1
 try clear hfz40_0
 try clear hfz40_1
 try clear hfz51_0
 try clear hfz51_1
 try clear hfz56_0
 try clear hfz56_1
 obtain ⟨kq, x66_35, rfl, HA, HJ35, HO_13, HO_14, HO_530001, BK496, BK497, BK529, HB⟩ := hcut
 cases kq with
 | zero => exact absurd HA.out (by simp [laws_FnExactCanStand.j0])
 | succ kj35 => (
 have H := HA.out
 clear HA
 simp only [laws_FnExactCanStand.j0] at H
 by_cases c66 : x66_35 = true
 {
 subst c66
 rw [if_pos rfl] at H
 exact absurd ((Option.some.inj H).trans HT.out) (by decide)
 }
 {
 replace c66 := Bool.eq_false_iff.mpr c66
 subst c66
 rw [if_neg (show ¬ (false = true) by decide)] at H
 replace H := Option.bind_eq_some_iff.mp H
 obtain ⟨⟨t550, t551⟩, A670, H⟩ := H
 have A67 := ak A670
 clear A670
 replace H := Option.bind_eq_some_iff.mp H
 obtain ⟨t554, A680, H⟩ := H
 have A68 := ak A680
 clear A680
 by_cases c69 : t554 = true
 {
 subst c69
 rw [if_pos rfl] at H
 replace H := Option.bind_eq_some_iff.mp H
 obtain ⟨t555, A700, H⟩ := H
 have A70 := ak A700
 clear A700
 replace H := Option.bind_eq_some_iff.mp H
 obtain ⟨t558, A710, H⟩ := H
 have A71 := ak A710
 clear A710
 by_cases c72 : t558 = true
 {
 subst c72
 rw [if_pos rfl] at H
 replace H := Option.bind_eq_some_iff.mp H
 obtain ⟨t559, A730, H⟩ := H
 have A73 := ak A730
 clear A730
 replace H := Option.bind_eq_some_iff.mp H
 obtain ⟨t562, A740, H⟩ := H
 have A74 := ak A740
 clear A740
 by_cases c75 : t562 = true
 {
 subst c75
 rw [if_pos rfl] at H
 obtain rfl := Option.some.inj H
 try go_wp2
 replace HO_13 := ak (Kd.R_drew HO_13.out)
 replace HO_14 := ak (Kd.R_drew HO_14.out)
 replace HO_530001 := ak (Kd.R_drew HO_530001.out)
 replace BK496 := ak (blk_drew BK496.out)
 replace BK497 := ak (blk_drew BK497.out)
 replace BK529 := ak (blk_drew BK529.out)
 replace HB := ak (below_drew1 HB.out)
 refine start_ (n := 5) (S := fun w' => w'.cell? ⟨gb529, 0, none⟩ = some (.int .i16 t525) ∧ w'.cell? ⟨gb529, 1, none⟩ = some (.slice Ao57 t526.length co57) ∧ w'.cell? ⟨gb497, 0, none⟩ = some (.int .i16 a1_0) ∧ w'.cell? ⟨gb497, 1, none⟩ = some (.slice A1_1 l1_1.length c1_1)) (ds := []) (bA 5 0) (by kernel_rfl) rfl rfl ⟨(blk_cell BK529.out 0).trans rfl, (blk_cell BK529.out 1).trans rfl, (blk_cell BK497.out 0).trans rfl, (blk_cell BK497.out 1).trans rfl⟩ (fun hHeld => ?_)
 generalize wc.drew = w76 at HO_13 HO_14 HO_530001 BK496 BK497 BK529 HB hHeld ⊢
 refine take_ (i := 0) (N := some 67) (v := ?_) (a' := ?_) (bA 5 1) rfl rfl (by kernel_rfl) (fun _ _ _ h => h) (Or.inl ⟨by rfl, ?_⟩) hHeld ?_ ?_
 rotate_left
 {
 rintro w' ⟨s0, s1, s2, s3⟩
 go_simp
 with_reducible rfl
 }
 rotate_left
 · simp only [Act.put, zs, zz, zk, i64_w, i32_w]; rfl
 refine take_ (i := 1) (N := some 68) (v := ?_) (a' := ?_) (bA 5 3) rfl rfl (by kernel_rfl) (fun _ _ _ h => h) (Or.inl ⟨by rfl, ?_⟩) hHeld ?_ ?_
 rotate_left
 {
 rintro w' ⟨s0, s1, s2, s3⟩
 go_simp
 with_reducible rfl
 }
 rotate_left
 · simp only [Act.put, zs, zz, zk, i64_w, i32_w]; rfl
 refine one_ (i := 2) (N := some 69) (bA 5 7) rfl rfl (by kernel_rfl) (by decide) (fun K hK => ?_)
 refine goes_ Try.func20 (by kernel_rfl) rfl #[.agg #[.int .i16 a1_0, .slice A1_1 l1_1.length c1_1]] (by rfl) rfl rfl (by (try simp only [List.map_toArray, List.map_cons, List.map_nil]); first | done | rfl | (simp only [List.length_drop, List.length_take]; rfl)) ?_
 with_reducible refine (laws_toRope.calls kj35 a1_0 _ _ l1_1 t550 t551 _ ?side1 ?side2 A67.out).mono ?_
 (case side1 => repeat (first | exact (Kd.C_below HR1_1.out HB.out) | (with_reducible refine Kd.C_alloc ?_ _) | (with_reducible refine Kd.C_drewN ?_ _) | (with_reducible refine Kd.C_drew ?_)))
 (case side2 => exact HC1_1.out)
 rintro e w77 ⟨v552, rfl, ho0, hb⟩
 refine ⟨_, rfl, ?_⟩
 have HO553 := ak (Kd.R_lower (Kd.R_new' ho0 (Kd.R_lt (zR HO_530001.out))) (below_size (by repeat (first | (with_reducible first | exact HB.out | apply below_alloc | apply pw_below_drewN | apply below_drew1 | refine below_set ?_ GE496.out | refine below_set ?_ GE497.out | refine below_set ?_ GE529.out) | exact HB.out))))
 replace HO_13 := kR HO_13 hb
 replace HO_14 := kR HO_14 hb
 replace HO_530001 := kE HO_530001 ho0 hb
 replace BK496 := kK BK496 hb
 replace BK497 := kK BK497 hb
 replace BK529 := kK BK529 hb
 replace HB := kB3 HB GE496 GE497 GE529 hb
 (try clear hb)
 (try clear ho0)
 obtain ⟨Ao78, co78, eo78⟩ := Kd.R_slice HO553.out
 (first | subst eo78 | (injection eo78 with f1_ f2_ f3_; have f4_ := f1_.symm; have f5_ := f3_.symm; clear f1_ f2_ f3_; subst f4_; subst f5_))
 refine hK.out _ _ ⟨(blk_cell BK529.out 0).trans rfl, (blk_cell BK529.out 1).trans rfl, (blk_cell BK497.out 0).trans rfl, (blk_cell BK497.out 1).trans rfl⟩ (fun hHeld => ?_)
 clear hK K
 refine norm_ (a' := ?_) ?_ ?_
 rotate_left
 {
 show Act.put _ (some 69) _ = _
 simp only [Act.put, zs, zz, zk, i64_w, i32_w]
 rfl
 }
 refine one_ (i := 3) (N := some 70) (bA 5 15) rfl rfl (by kernel_rfl) (by decide) (fun K hK => ?_)
 refine goes_ Try.func12 (by kernel_rfl) rfl #[.agg #[.int .i16 t525, .slice Ao57 t526.length co57], .agg #[.int .i16 t550, .slice Ao78 t551.length co78]] (by rfl) rfl rfl (by (try simp only [List.map_toArray, List.map_cons, List.map_nil]); first | done | rfl | (simp only [List.length_drop, List.length_take]; rfl)) ?_
 with_reducible refine (laws_eqRope.calls kj35 t525 _ _ t526 t550 _ _ t551 true _ ?side1 ?side2 ?side3 ?side4 A68.out).mono ?_
 (case side1 => exact zC (Kd.R_reads' HO_530001.out).2.2)
 (case side2 => exact (Kd.R_reads' HO_530001.out).2.1)
 (case side3 => exact zC (Kd.R_reads' HO553.out).2.2)
 (case side4 => exact (Kd.R_reads' HO553.out).2.1)
 rintro e w79 ⟨rfl, hb⟩
 refine ⟨_, rfl, ?_⟩
 replace HO_13 := kR HO_13 hb
 replace HO_14 := kR HO_14 hb
 replace HO_530001 := kR HO_530001 hb
 replace HO553 := kR HO553 hb
 replace BK496 := kK BK496 hb
 replace BK497 := kK BK497 hb
 replace BK529 := kK BK529 hb
 replace HB := kB3 HB GE496 GE497 GE529 hb
 (try clear hb)
 refine hK.out _ _ ⟨(blk_cell BK529.out 0).trans rfl, (blk_cell BK529.out 1).trans rfl, (blk_cell BK497.out 0).trans rfl, (blk_cell BK497.out 1).trans rfl⟩ (fun hHeld => ?_)
 clear hK K
 refine norm_ (a' := ?_) ?_ ?_
 rotate_left
 {
 show Act.put _ (some 70) _ = _
 simp only [Act.put, zs, zz, zk, i64_w, i32_w]
 rfl
 }
 refine pure_ (i := 4) (N := some 71) (v := ?_) (a' := ?_) (bA 5 31) rfl rfl (by kernel_rfl) (fun _ _ _ h => h) (Or.inl ⟨by rfl, ?_⟩) ?_ ?_
 rotate_left
 {
 intro w'
 go_simp
 with_reducible rfl
 }
 rotate_left
 · simp only [Act.put, zs, zz, zk, i64_w, i32_w]; rfl
 refine done_ (by kernel_rfl) ?_
 try go_wp2_with (first | ((with_reducible refine gate_callee (f := 21) rfl ?_); refine goesL_ (some 74) rfl rfl Try.func21 (by kernel_rfl) rfl #[.slice A2 l2.length c2] rfl (by (try simp only [List.map_toArray, List.map_cons, List.map_nil]); first | done | rfl | (simp only [List.length_drop, List.length_take]; rfl)) ?_; (with_reducible refine (laws_toHoldS.calls kj35 _ _ l2 t555 _ ?side1 ?side2 A70.out).mono ?_); (case side1 => repeat (first | exact (Kd.C_below HR2.out HB.out) | (with_reducible refine Kd.C_alloc ?_ _) | (with_reducible refine Kd.C_drewN ?_ _) | (with_reducible refine Kd.C_drew ?_))); (case side2 => exact HC2.out); rintro e w80 ⟨v556, rfl, ho0, hb⟩; refine ⟨_, rfl, ?_⟩; have n0_ := ak (Kd.R_elder' (zR HO_13.out) (Kd.R_base ho0) hb); have n1_ := ak (Kd.R_below (zR HO_14.out) hb); have n2_ := ak (Kd.R_below (zR HO_530001.out) hb); have n3_ := ak (Kd.R_below (zR HO553.out) hb); have n4_ := ak (Kd.R_lower (Kd.R_new' ho0 (Kd.R_lt (zR HO_13.out))) (below_size (by repeat (first | (with_reducible first | exact HB.out | apply below_alloc | apply pw_below_drewN | apply below_drew1 | refine below_set ?_ GE496.out | refine below_set ?_ GE497.out | refine below_set ?_ GE529.out) | exact HB.out)))); have n5_ := ak (blk_below (g := gb496) (o := .cells #[.int .i8 a0_0, .int .i8 a0_1, .int .u16 a0_2, .int .u16 a0_3, .int .u16 a0_4, .int .u16 a0_5, .int .u16 a0_6, .int .u16 a0_7, .int .u16 a0_8, .int .u16 a0_9, .int .u16 a0_10, .int .u16 a0_11] 26 (0, 0)) (zK BK496.out) hb); have n6_ := ak (blk_below (g := gb497) (o := .cells #[.int .i16 a1_0, .slice A1_1 l1_1.length c1_1] 44 (0, 0)) (zK BK497.out) hb); have n7_ := ak (blk_below (g := gb529) (o := .cells #[.int .i16 t525, .slice Ao57 t526.length co57] 32 (0, 0)) (zK BK529.out) hb); have n8_ := ak (below_step (by repeat (first | (with_reducible first | exact HB.out | apply below_alloc | apply pw_below_drewN | apply below_drew1 | refine below_set ?_ GE496.out | refine below_set ?_ GE497.out | refine below_set ?_ GE529.out) | exact HB.out)) hb); clear HO_13 HO_14 HO_530001 HO553 BK496 BK497 BK529 HB; have HO_13 := n0_; have HO_14 := n1_; have HO_530001 := n2_; have HO553 := n3_; have HO557 := n4_; have BK496 := n5_; have BK497 := n6_; have BK529 := n7_; have HB := n8_; clear n0_ n1_ n2_ n3_ n4_ n5_ n6_ n7_ n8_; (try clear hb); (try clear hb2); (try clear hk); (try clear hi); (try clear ho0); obtain ⟨Ao81, co81, eo81⟩ := Kd.R_slice HO557.out; subst eo81) | ((with_reducible refine gate_callee (f := 23) rfl ?_); refine goesL_ (some 75) rfl rfl Try.func23 (by kernel_rfl) rfl #[.slice Ao62 t530.length co62, .slice Ao81 t555.length co81] rfl (by (try simp only [List.map_toArray, List.map_cons, List.map_nil]); first | done | rfl | (simp only [List.length_drop, List.length_take]; rfl)) ?_; (with_reducible refine (laws_eqHoldS.calls kj35 _ _ t530 _ _ t555 true _ ?side1 ?side2 ?side3 ?side4 A71.out).mono ?_); (case side1 => exact zC (Kd.R_reads' HO_13.out).2.2); (case side2 => exact (Kd.R_reads' HO_13.out).2.1); (case side3 => exact zC (Kd.R_reads' HO557.out).2.2); (case side4 => exact (Kd.R_reads' HO557.out).2.1); rintro e w82 ⟨rfl, hb⟩; refine ⟨_, rfl, ?_⟩; have n0_ := ak (Kd.R_below (zR HO_13.out) hb); have n1_ := ak (Kd.R_below (zR HO_14.out) hb); have n2_ := ak (Kd.R_below (zR HO_530001.out) hb); have n3_ := ak (Kd.R_below (zR HO553.out) hb); have n4_ := ak (Kd.R_below (zR HO557.out) hb); have n5_ := ak (blk_below (g := gb496) (o := .cells #[.int .i8 a0_0, .int .i8 a0_1, .int .u16 a0_2, .int .u16 a0_3, .int .u16 a0_4, .int .u16 a0_5, .int .u16 a0_6, .int .u16 a0_7, .int .u16 a0_8, .int .u16 a0_9, .int .u16 a0_10, .int .u16 a0_11] 26 (0, 0)) (zK BK496.out) hb); have n6_ := ak (blk_below (g := gb497) (o := .cells #[.int .i16 a1_0, .slice A1_1 l1_1.length c1_1] 44 (0, 0)) (zK BK497.out) hb); have n7_ := ak (blk_below (g := gb529) (o := .cells #[.int .i16 t525, .slice Ao57 t526.length co57] 32 (0, 0)) (zK BK529.out) hb); have n8_ := ak (below_step (by repeat (first | (with_reducible first | exact HB.out | apply below_alloc | apply pw_below_drewN | apply below_drew1 | refine below_set ?_ GE496.out | refine below_set ?_ GE497.out | refine below_set ?_ GE529.out) | exact HB.out)) hb); clear HO_13 HO_14 HO_530001 HO553 HO557 BK496 BK497 BK529 HB; have HO_13 := n0_; have HO_14 := n1_; have HO_530001 := n2_; have HO553 := n3_; have HO557 := n4_; have BK496 := n5_; have BK497 := n6_; have BK529 := n7_; have HB := n8_; clear n0_ n1_ n2_ n3_ n4_ n5_ n6_ n7_ n8_; (try clear hb); (try clear hb2); (try clear hk); (try clear hi)) | ((with_reducible refine gate_callee (f := 10) rfl ?_); refine goesL_ (some 79) rfl rfl Try.func10 (by kernel_rfl) rfl #[.slice A3 l3.length c3] rfl (by (try simp only [List.map_toArray, List.map_cons, List.map_nil]); first | done | rfl | (simp only [List.length_drop, List.length_take]; rfl)) ?_; (with_reducible refine (laws_toSpotS.calls kj35 _ _ l3 t559 _ ?side1 ?side2 A73.out).mono ?_); (case side1 => repeat (first | exact (Kd.C_below HR3.out HB.out) | (with_reducible refine Kd.C_alloc ?_ _) | (with_reducible refine Kd.C_drewN ?_ _) | (with_reducible refine Kd.C_drew ?_))); (case side2 => exact HC3.out); rintro e w83 ⟨v560, rfl, ho0, hb⟩; refine ⟨_, rfl, ?_⟩; have n0_ := ak (Kd.R_below (zR HO_13.out) hb); have n1_ := ak (Kd.R_elder' (zR HO_14.out) (Kd.R_base ho0) hb); have n2_ := ak (Kd.R_below (zR HO_530001.out) hb); have n3_ := ak (Kd.R_below (zR HO553.out) hb); have n4_ := ak (Kd.R_below (zR HO557.out) hb); have n5_ := ak (Kd.R_lower (Kd.R_new' ho0 (Kd.R_lt (zR HO_14.out))) (below_size (by repeat (first | (with_reducible first | exact HB.out | apply below_alloc | apply pw_below_drewN | apply below_drew1 | refine below_set ?_ GE496.out | refine below_set ?_ GE497.out | refine below_set ?_ GE529.out) | exact HB.out)))); have n6_ := ak (blk_below (g := gb496) (o := .cells #[.int .i8 a0_0, .int .i8 a0_1, .int .u16 a0_2, .int .u16 a0_3, .int .u16 a0_4, .int .u16 a0_5, .int .u16 a0_6, .int .u16 a0_7, .int .u16 a0_8, .int .u16 a0_9, .int .u16 a0_10, .int .u16 a0_11] 26 (0, 0)) (zK BK496.out) hb); have n7_ := ak (blk_below (g := gb497) (o := .cells #[.int .i16 a1_0, .slice A1_1 l1_1.length c1_1] 44 (0, 0)) (zK BK497.out) hb); have n8_ := ak (blk_below (g := gb529) (o := .cells #[.int .i16 t525, .slice Ao57 t526.length co57] 32 (0, 0)) (zK BK529.out) hb); have n9_ := ak (below_step (by repeat (first | (with_reducible first | exact HB.out | apply below_alloc | apply pw_below_drewN | apply below_drew1 | refine below_set ?_ GE496.out | refine below_set ?_ GE497.out | refine below_set ?_ GE529.out) | exact HB.out)) hb); clear HO_13 HO_14 HO_530001 HO553 HO557 BK496 BK497 BK529 HB; have HO_13 := n0_; have HO_14 := n1_; have HO_530001 := n2_; have HO553 := n3_; have HO557 := n4_; have HO561 := n5_; have BK496 := n6_; have BK497 := n7_; have BK529 := n8_; have HB := n9_; clear n0_ n1_ n2_ n3_ n4_ n5_ n6_ n7_ n8_ n9_; (try clear hb); (try clear hb2); (try clear hk); (try clear hi); (try clear ho0); obtain ⟨Ao84, co84, eo84⟩ := Kd.R_slice HO561.out; subst eo84) | ((with_reducible refine gate_callee (f := 13) rfl ?_); refine goesL_ (some 80) rfl rfl Try.func13 (by kernel_rfl) rfl #[.slice Ao63 t533.length co63, .slice Ao84 t559.length co84] rfl (by (try simp only [List.map_toArray, List.map_cons, List.map_nil]); first | done | rfl | (simp only [List.length_drop, List.length_take]; rfl)) ?_; (with_reducible refine (laws_eqSpotS.calls kj35 _ _ t533 _ _ t559 true _ ?side1 ?side2 ?side3 ?side4 A74.out).mono ?_); (case side1 => exact zC (Kd.R_reads' HO_14.out).2.2); (case side2 => exact (Kd.R_reads' HO_14.out).2.1); (case side3 => exact zC (Kd.R_reads' HO561.out).2.2); (case side4 => exact (Kd.R_reads' HO561.out).2.1); rintro e w85 ⟨rfl, hb⟩; refine ⟨_, rfl, ?_⟩; have n0_ := ak (Kd.R_below (zR HO_13.out) hb); have n1_ := ak (Kd.R_below (zR HO_14.out) hb); have n2_ := ak (Kd.R_below (zR HO_530001.out) hb); have n3_ := ak (Kd.R_below (zR HO553.out) hb); have n4_ := ak (Kd.R_below (zR HO557.out) hb); have n5_ := ak (Kd.R_below (zR HO561.out) hb); have n6_ := ak (blk_below (g := gb496) (o := .cells #[.int .i8 a0_0, .int .i8 a0_1, .int .u16 a0_2, .int .u16 a0_3, .int .u16 a0_4, .int .u16 a0_5, .int .u16 a0_6, .int .u16 a0_7, .int .u16 a0_8, .int .u16 a0_9, .int .u16 a0_10, .int .u16 a0_11] 26 (0, 0)) (zK BK496.out) hb); have n7_ := ak (blk_below (g := gb497) (o := .cells #[.int .i16 a1_0, .slice A1_1 l1_1.length c1_1] 44 (0, 0)) (zK BK497.out) hb); have n8_ := ak (blk_below (g := gb529) (o := .cells #[.int .i16 t525, .slice Ao57 t526.length co57] 32 (0, 0)) (zK BK529.out) hb); have n9_ := ak (below_step (by repeat (first | (with_reducible first | exact HB.out | apply below_alloc | apply pw_below_drewN | apply below_drew1 | refine below_set ?_ GE496.out | refine below_set ?_ GE497.out | refine below_set ?_ GE529.out) | exact HB.out)) hb); clear HO_13 HO_14 HO_530001 HO553 HO557 HO561 BK496 BK497 BK529 HB; have HO_13 := n0_; have HO_14 := n1_; have HO_530001 := n2_; have HO553 := n3_; have HO557 := n4_; have HO561 := n5_; have BK496 := n6_; have BK497 := n7_; have BK529 := n8_; have HB := n9_; clear n0_ n1_ n2_ n3_ n4_ n5_ n6_ n7_ n8_ n9_; (try clear hb); (try clear hb2); (try clear hk); (try clear hi)))
 go_ret
 exact ⟨by first | rfl | (simp [errW_none, errW_some] <;> rfl) | (simp [*, errW_none, errW_some] <;> rfl), by repeat (first | (with_reducible first | exact HB.out | apply below_alloc | apply pw_below_drewN | apply below_drew1 | refine below_set ?_ GE496.out | refine below_set ?_ GE497.out | refine below_set ?_ GE529.out) | exact HB.out)⟩
 }
 {
 replace c75 := Bool.eq_false_iff.mpr c75
 subst c75
 rw [if_neg (show ¬ (false = true) by decide)] at H
 exact absurd ((Option.some.inj H).trans HT.out) (by decide)
 }
 }
 {
 replace c72 := Bool.eq_false_iff.mpr c72
 subst c72
 rw [if_neg (show ¬ (false = true) by decide)] at H
 exact absurd ((Option.some.inj H).trans HT.out) (by decide)
 }
 }
 {
 replace c69 := Bool.eq_false_iff.mpr c69
 subst c69
 rw [if_neg (show ¬ (false = true) by decide)] at H
 exact absurd ((Option.some.inj H).trans HT.out) (by decide)
 }
 }
 )
 )
 }
 }
 }
/-- THE ONE PURE STATEMENT of laws_FnExactCanStand: mine. -/
def laws_FnExactCanStand.Pure : Prop := ∀ (a0_0 : Int) (a0_1 : Int) (a0_2 : Int) (a0_3 : Int) (a0_4 : Int) (a0_5 : Int) (a0_6 : Int) (a0_7 : Int) (a0_8 : Int) (a0_9 : Int) (a0_10 : Int) (a0_11 : Int) (a1_0 : Int) (l1_1 : List Int) (l2 : List (S92)) (l3 : List (S82)), ((Lit.int .i8 a0_0).wf = true) → ((Lit.int .i8 a0_1).wf = true) → ((Lit.int .u16 a0_2).wf = true) → ((Lit.int .u16 a0_3).wf = true) → ((Lit.int .u16 a0_4).wf = true) → ((Lit.int .u16 a0_5).wf = true) → ((Lit.int .u16 a0_6).wf = true) → ((Lit.int .u16 a0_7).wf = true) → ((Lit.int .u16 a0_8).wf = true) → ((Lit.int .u16 a0_9).wf = true) → ((Lit.int .u16 a0_10).wf = true) → ((Lit.int .u16 a0_11).wf = true) → ((Lit.int .i16 a1_0).wf = true) → (l1_1.length ≤ 9223372036854775807 ∧ ∀ x_ ∈ l1_1, ((Lit.int .i16 x_).wf = true)) → (l2.length ≤ 9223372036854775807 ∧ ∀ x_ ∈ l2, (((Lit.int .i16 x_.f0).wf = true) ∧ ((Lit.int .i8 x_.f1).wf = true))) → (l3.length ≤ 9223372036854775807 ∧ ∀ x_ ∈ l3, (((Lit.int .i8 x_.f0).wf = true) ∧ ((Lit.int .i8 x_.f1).wf = true))) → ∃ k, laws_FnExactCanStand.f k a0_0 a0_1 a0_2 a0_3 a0_4 a0_5 a0_6 a0_7 a0_8 a0_9 a0_10 a0_11 a1_0 l1_1 l2 l3 = some true

end Go.Proofs.Ytooidjdgfoioiaa.P
