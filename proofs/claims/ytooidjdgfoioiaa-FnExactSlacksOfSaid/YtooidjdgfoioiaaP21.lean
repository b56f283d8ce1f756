-- Printed by wip/print (my turned copy of the kit's print) out of the translation; Lean checks it.
import Derived.Test.YtooidjdgfoioiaaP0
import Derived.Test.YtooidjdgfoioiaaP6
import Derived.Test.YtooidjdgfoioiaaP7
import Derived.Test.YtooidjdgfoioiaaP11
import Derived.Test.YtooidjdgfoioiaaP20
namespace Go.Proofs.Ytooidjdgfoioiaa.P
open Go.RowKit Go.Proofs.YtooidjdgfoioiaaW.PrintWords Go.Proofs.YtooidjdgfoioiaaW.PrintLast Go.Proofs.YtooidjdgfoioiaaW.PrintMore
attribute [local go_sem] max2_int min2_int max_two min_two max_three min_three max_four min_four   -- for this text's walks alone
set_option linter.unusedVariables false
set_option linter.unusedSimpArgs false

/-! ### impl_SlacksOf: function 31 -/
mutual
def impl_SlacksOf.j0 : Nat → List (S65) → List (S62) → List Int → Bool → Int → Int → Int → Int → Int → Int → Int → Int → Int → Int → Int → Int → Option (List Int × Int)
  | 0, _, _, _, _, _, _, _, _, _, _, _, _, _, _, _, _ => none
  | k + 1, x2, x3, x10, x21, x467000, x467001, x467002, x467003, x467004, x467005, x467006, x467007, x467008, x467009, x467010, x467011 => if x21 = true then (some (([] : List Int), 1)) else (if (x3.length : Int) = (x2.length : Int) then ((impl_cellCode.f k x467000 x467001 x467002 x467003 x467004 x467005 x467006 x467007 x467008 x467009 x467010 x467011 x3).bind fun t473 => (if t473 = 0 then ((impl_stepsAlong.f k x467000 x467001 x467002 x467003 x467004 x467005 x467006 x467007 x467008 x467009 x467010 x467011 x3).bind fun bt474 => (if bt474.2 = 0 then (impl_SlacksOf.l0 k x10 bt474.1 (x10.length : Int) 0) else (some (([] : List Int), bt474.2)))) else (some (([] : List Int), t473)))) else (some (([] : List Int), 2)))
def impl_SlacksOf.l0 : Nat → List Int → List Int → Int → Int → Option (List Int × Int)
  | 0, _, _, _, _ => none
  | k + 1, x10, x13, x51, x52 => if x52 < x51 then (if 0 ≤ x52 then (if x52 < (x10.length : Int) then (if x52 < (x13.length : Int) then (impl_SlacksOf.l0 k (x10.set (x52 : Int).toNat (wrap64 ((rd x10 x52) - (rd x13 x52)))) x13 x51 (wrap64 (x52 + 1))) else (none)) else (none)) else (none)) else (some (x10, 0))
end
def impl_SlacksOf.f (k : Nat) (a0_0 : Int) (a0_1 : Int) (a0_2 : Int) (a0_3 : Int) (a0_4 : Int) (a0_5 : Int) (a0_6 : Int) (a0_7 : Int) (a0_8 : Int) (a0_9 : Int) (a0_10 : Int) (a0_11 : Int) (a1_0 : Int) (l1_1 : List Int) (l2 : List (S65)) (l3 : List (S62)) : Option (List Int × Int) := (impl_GapsOf.f k a1_0 l1_1 l2).bind fun bt468 => (if bt468.2 = 0 then ((impl_ValidRoom.f a0_0 a0_1 a0_2 a0_3 a0_4 a0_5 a0_6 a0_7 a0_8 a0_9 a0_10 a0_11).bind fun t472 => (impl_SlacksOf.j0 k l2 l3 bt468.1 (!t472) a0_0 a0_1 a0_2 a0_3 a0_4 a0_5 a0_6 a0_7 a0_8 a0_9 a0_10 a0_11)) else (impl_SlacksOf.j0 k l2 l3 bt468.1 true a0_0 a0_1 a0_2 a0_3 a0_4 a0_5 a0_6 a0_7 a0_8 a0_9 a0_10 a0_11))
theorem impl_SlacksOf.mono_l : ∀ k, (∀ y0 y1 y2 y3 y4 y5 y6 y7 y8 y9 y10 y11 y12 y13 y14 y15, LeO (impl_SlacksOf.j0 k y0 y1 y2 y3 y4 y5 y6 y7 y8 y9 y10 y11 y12 y13 y14 y15) (impl_SlacksOf.j0 (k + 1) y0 y1 y2 y3 y4 y5 y6 y7 y8 y9 y10 y11 y12 y13 y14 y15)) ∧ (∀ y0 y1 y2 y3, LeO (impl_SlacksOf.l0 k y0 y1 y2 y3) (impl_SlacksOf.l0 (k + 1) y0 y1 y2 y3))
  | 0 => ⟨fun _ _ _ _ _ _ _ _ _ _ _ _ _ _ _ _ r h => by simp [impl_SlacksOf.j0] at h, fun _ _ _ _ r h => by simp [impl_SlacksOf.l0] at h⟩
  | k + 1 => by
    obtain ⟨ih0, ih1⟩ := impl_SlacksOf.mono_l k
    refine ⟨?_, ?_⟩
    · intro y0 y1 y2 y3 y4 y5 y6 y7 y8 y9 y10 y11 y12 y13 y14 y15
      unfold impl_SlacksOf.j0
      repeat' first
      | (with_reducible exact ih0 ..)
      | (with_reducible exact ih1 ..)
      | (with_reducible exact impl_GapsOf.mono ..)
      | (with_reducible exact impl_cellCode.mono ..)
      | (with_reducible exact impl_stepsAlong.mono ..)
      | (with_reducible exact LeO.refl ..)
      | (with_reducible exact LeO.none ..)
      | (with_reducible refine LeO.ite ?_ ?_)
      | (with_reducible refine LeO.bind ?_ (fun _ => ?_))
    · intro y0 y1 y2 y3
      unfold impl_SlacksOf.l0
      repeat' first
      | (with_reducible exact ih0 ..)
      | (with_reducible exact ih1 ..)
      | (with_reducible exact impl_GapsOf.mono ..)
      | (with_reducible exact impl_cellCode.mono ..)
      | (with_reducible exact impl_stepsAlong.mono ..)
      | (with_reducible exact LeO.refl ..)
      | (with_reducible exact LeO.none ..)
      | (with_reducible refine LeO.ite ?_ ?_)
      | (with_reducible refine LeO.bind ?_ (fun _ => ?_))
theorem impl_SlacksOf.mono : ∀ a0 a1 a2 a3 a4 a5 a6 a7 a8 a9 a10 a11 a12 a13 a14 a15 k, LeO (impl_SlacksOf.f k a0 a1 a2 a3 a4 a5 a6 a7 a8 a9 a10 a11 a12 a13 a14 a15) (impl_SlacksOf.f (k + 1) a0 a1 a2 a3 a4 a5 a6 a7 a8 a9 a10 a11 a12 a13 a14 a15) := by
  intro a0 a1 a2 a3 a4 a5 a6 a7 a8 a9 a10 a11 a12 a13 a14 a15 k
  obtain ⟨ih0, ih1⟩ := impl_SlacksOf.mono_l k
  unfold impl_SlacksOf.f
  repeat' first
      | (with_reducible exact ih0 ..)
      | (with_reducible exact ih1 ..)
      | (with_reducible exact impl_GapsOf.mono ..)
      | (with_reducible exact impl_cellCode.mono ..)
      | (with_reducible exact impl_stepsAlong.mono ..)
      | (with_reducible exact LeO.refl ..)
      | (with_reducible exact LeO.none ..)
      | (with_reducible refine LeO.ite ?_ ?_)
      | (with_reducible refine LeO.bind ?_ (fun _ => ?_))
def impl_SlacksOf.T15 : Bool × List (List Nat × List Nat) := (true, [([], []), ([], []), ([0, 1], [0, 1]), ([2], [2]), ([], []), ([], []), ([4, 5], [4, 5]), ([6], [6]), ([3, 7], [3, 7]), ([0, 1, 0, 1, 2, 3, 4, 5, 6, 7, 8], [0, 1]), ([9, 8, 0, 1, 2, 3, 4, 5, 6, 7, 8], [8, 9])])
def impl_SlacksOf.B15 : List Nat := [0, 0, 3, 7, 0, 0, 48, 112, 255, 511, 1023]
theorem impl_SlacksOf.tab15 : rtab .any (opsOf Try.f31 15) = impl_SlacksOf.T15 := by kernel_rfl
theorem impl_SlacksOf.bits15 : waitsOk impl_SlacksOf.T15.2 impl_SlacksOf.B15 = true := by kernel_rfl
set_option maxHeartbeats 8000000 in
set_option maxRecDepth 100000 in
theorem impl_SlacksOf.calls (k : Nat) (a0_0 : Int) (a0_1 : Int) (a0_2 : Int) (a0_3 : Int) (a0_4 : Int) (a0_5 : Int) (a0_6 : Int) (a0_7 : Int) (a0_8 : Int) (a0_9 : Int) (a0_10 : Int) (a0_11 : Int) (a1_0 : Int) (A1_1 : Option Addr) (c1_1 : Nat) (l1_1 : List Int) (A2 : Option Addr) (c2 : Nat) (l2 : List (S65)) (A3 : Option Addr) (c3 : Nat) (l3 : List (S62)) (r1 : List Int) (r2 : Int) (w : World) (hr1_1 : Kd.C (Kd.int .i16) w A1_1 l1_1.length l1_1) (hc1_1 : l1_1.length ≤ c1_1) (hr2 : Kd.C k65 w A2 l2.length l2) (hc2 : l2.length ≤ c2) (hr3 : Kd.C k62 w A3 l3.length l3) (hc3 : l3.length ≤ c3) (h : impl_SlacksOf.f k a0_0 a0_1 a0_2 a0_3 a0_4 a0_5 a0_6 a0_7 a0_8 a0_9 a0_10 a0_11 a1_0 l1_1 l2 l3 = some (r1, r2)) :
    Calls Try.prog 31 #[.agg #[.int .i8 a0_0, .int .i8 a0_1, .int .u16 a0_2, .int .u16 a0_3, .int .u16 a0_4, .int .u16 a0_5, .int .u16 a0_6, .int .u16 a0_7, .int .u16 a0_8, .int .u16 a0_9, .int .u16 a0_10, .int .u16 a0_11], .agg #[.int .i16 a1_0, .slice A1_1 l1_1.length c1_1], .slice A2 l2.length c2, .slice A3 l3.length c3] w fun e w' => ∃ v0_ : Value, e = .returned (.tuple #[v0_, .int .i64 r2]) ∧ Kd.R (Kd.int .i64) 2 w' w.heap.size (fun _ => True) v0_ r1 ∧ Below w.heap.size w w' := by
 have hu35 := Try.underlying35
 have hu32 := Try.underlying32
 have HR1_1 := ak hr1_1
 have HC1_1 := ak hc1_1
 clear hr1_1 hc1_1
 have HR2 := ak hr2
 have HC2 := ak hc2
 clear hr2 hc2
 have HR3 := ak hr3
 have HC3 := ak hc3
 clear hr3 hc3
 have HB := ak (Below.refl w.heap.size w)
 have H := h
 unfold impl_SlacksOf.f at H
 clear h
 replace H := Option.bind_eq_some_iff.mp H
 obtain ⟨⟨t468, t471⟩, A50, H⟩ := H
 have A5 := ak A50
 clear A50
 have HC6 := ak H
 clear H
 go_enter Try.func31, Try.ntmps31
 go_upto_region 2 with (first | ((with_reducible refine gate_dst (N := 4) rfl ?_); refine box_event ?hg (N := 4) ?hd (cs := #[.int .i8 a0_0, .int .i8 a0_1, .int .u16 a0_2, .int .u16 a0_3, .int .u16 a0_4, .int .u16 a0_5, .int .u16 a0_6, .int .u16 a0_7, .int .u16 a0_8, .int .u16 a0_9, .int .u16 a0_10, .int .u16 a0_11]) (t := 35) ?hr ?_; (case hd => rfl); (case hg => rfl); (case hr => first | (go_simp; done) | (go_simp; rfl)); intro gb466 hg w7 hbox hb; have BK466 := ak (hbox); have GW466 := gS HB hg; have GE466 := gS HB hg; replace HB := kB HB hb; clear hb hbox hg) | ((with_reducible refine gate_dst (N := 5) rfl ?_); refine box_event ?hg (N := 5) ?hd (cs := #[.int .i16 a1_0, .slice A1_1 l1_1.length c1_1]) (t := 32) ?hr ?_; (case hd => rfl); (case hg => rfl); (case hr => first | (go_simp; done) | (go_simp; rfl)); intro gb467 hg w8 hbox hb; have BK467 := ak (hbox); have GW467 := gS1 HB GE466 hg; have GE467 := gS1 HB GE466 hg; have NB466_467 := nL BK466 hg; have NB467_466 := nG BK466 hg; replace BK466 := kK BK466 hb; replace HB := kB1 HB GE466 hb; clear hb hbox hg; have hnb9 := NB467_466.out; have hnc9 := NB466_467.out; obtain ⟨hcz10_0, hcz10_1, hfz10_0, hfz10_1⟩ := cz2 w8 BK467) | ((with_reducible refine gate_callee (f := 66) rfl ?_); refine goesL_ (some 18) rfl rfl Try.func66 (by kernel_rfl) rfl #[.agg #[.int .i16 a1_0, .slice A1_1 l1_1.length c1_1], .slice A2 l2.length c2] rfl gl_ ?_; (with_reducible refine (impl_GapsOf.calls k a1_0 _ _ l1_1 _ _ l2 t468 t471 _ ?side1 ?side2 ?side3 ?side4 A5.out).mono ?_); (case side1 => exact sQ (Kd.C_below HR1_1.out HB.out)); (case side2 => exact HC1_1.out); (case side3 => exact sQ (Kd.C_below HR2.out HB.out)); (case side4 => exact HC2.out); rintro e w11 ⟨v469, rfl, ho0, hb⟩; refine ⟨_, rfl, ?_⟩; have HO470 := ak (Kd.R_lower ho0 (below_size (zH2 HB GE466 GE467))); replace BK466 := kK BK466 hb; replace BK467 := kK BK467 hb; replace HB := kB2 HB GE466 GE467 hb; (try clear hb); (try clear ho0)))
 (try simp only [Act.put, zs, zz, zk])
 go_cut [21] (fun v21 wc => ∃ (kq : Nat) (x21_5 : Bool), v21 = .bool x21_5 ∧ Aside0 (impl_SlacksOf.j0 kq l2 l3 t468 x21_5 a0_0 a0_1 a0_2 a0_3 a0_4 a0_5 a0_6 a0_7 a0_8 a0_9 a0_10 a0_11 = some (r1, r2)) ∧ Aside0 (kq ≤ k) ∧ Aside0 (Kd.R (Kd.int .i64) 2 wc w.heap.size (fun _ => True) v469 t468) ∧ Aside0 (wc.heap[gb466]? = some (.cells #[.int .i8 a0_0, .int .i8 a0_1, .int .u16 a0_2, .int .u16 a0_3, .int .u16 a0_4, .int .u16 a0_5, .int .u16 a0_6, .int .u16 a0_7, .int .u16 a0_8, .int .u16 a0_9, .int .u16 a0_10, .int .u16 a0_11] 35 (0, 0))) ∧ Aside0 (wc.heap[gb467]? = some (.cells #[.int .i16 a1_0, (.slice A1_1 l1_1.length c1_1)] 32 (0, 0))) ∧ Aside0 (Below w.heap.size w wc))
 case first => (
 have H := HC6.out
 clear HC6
 by_cases c12 : t471 = 0
 {
 rw [if_pos c12] at H
 have c12b0 : (t471 == 0) = true := beq_iff_eq.mpr c12
 have c12b1 : (t471 != 0) = false := bne_eq_false_iff_eq.mpr c12
 clear c12
 (first | rw [c12b0] | (simp only [i64_w, i32_w]; rw [c12b0]) | skip)
 replace H := Option.bind_eq_some_iff.mp H
 obtain ⟨t472, A130, H⟩ := H
 have A13 := ak A130
 clear A130
 have H' := ak H
 clear H
 have hnb14 := NB466_467.out
 have hnc14 := NB467_466.out
 obtain ⟨hcz15_0, hcz15_1, hcz15_2, hcz15_3, hcz15_4, hcz15_5, hcz15_6, hcz15_7, hcz15_8, hcz15_9, hcz15_10, hcz15_11, hfz15_0, hfz15_1, hfz15_2, hfz15_3, hfz15_4, hfz15_5, hfz15_6, hfz15_7, hfz15_8, hfz15_9, hfz15_10, hfz15_11⟩ := cz12 w11 BK466
 go_wp2_with (first | (go_at_call 45; (with_reducible refine (impl_ValidRoom.calls a0_0 a0_1 a0_2 a0_3 a0_4 a0_5 a0_6 a0_7 a0_8 a0_9 a0_10 a0_11 t472 _ A13.out).mono ?_); rintro e w16 ⟨rfl, hb⟩; replace HO470 := kR HO470 hb; replace BK466 := kK BK466 hb; replace BK467 := kK BK467 hb; replace HB := kB2 HB GE466 GE467 hb; (try clear hb)))
 go_meet
 case rel => exact ⟨_, (!t472), (by first | rfl | (simp; done) | (simp [*]; done)), H', ⟨by first | omega | exact Nat.le_refl _⟩, ⟨(zR HO470.out)⟩, ⟨(zK BK466.out)⟩, ⟨(zK BK467.out)⟩, ⟨zH2 HB GE466 GE467⟩⟩
 }
 {
 rw [if_neg c12] at H
 have c12b0 : (t471 == 0) = false := beq_eq_false_iff_ne.mpr c12
 have c12b1 : (t471 != 0) = true := bne_iff_ne.mpr c12
 (first | rw [c12b0] | (simp only [i64_w, i32_w]; rw [c12b0]) | skip)
 have H' := ak H
 clear H
 go_wp2
 go_meet
 case rel => exact ⟨_, (true), (by first | rfl | (simp; done) | (simp [*]; done)), H', ⟨by first | omega | exact Nat.le_refl _⟩, ⟨(zR HO470.out)⟩, ⟨(zK BK466.out)⟩, ⟨(zK BK467.out)⟩, ⟨zH2 HB GE466 GE467⟩⟩
 }
 )
 case rest => (
 clear HC6
 try clear c2
 try clear c3
 try clear hcz10_0
 try clear hcz10_1
 try clear hfz10_0
 try clear hfz10_1
 obtain ⟨kq, x21_5, rfl, HA, HJ5, HO_10, BK466, BK467, HB⟩ := hcut
 cases kq with
 | zero => exact absurd HA.out (by simp [impl_SlacksOf.j0])
 | succ kj5 => (
 have H := HA.out
 clear HA
 simp only [impl_SlacksOf.j0] at H
 by_cases c17 : x21_5 = true
 {
 subst c17
 rw [if_pos rfl] at H
 simp only [Option.some.injEq, Prod.mk.injEq] at H
 obtain ⟨rfl, rfl⟩ := H
 go_wp2
 go_ret2
 exact ⟨_, by first | rfl | (simp [errW_none, errW_some] <;> rfl) | (simp [*, errW_none, errW_some] <;> rfl), by first | exact Kd.R_nil _ _ _ _ _ | exact Kd.N_nil _ _ _ _ _ | exact Kd.V_nil _ _ _ _ _ | exact Kd.Q_nil _ _ _ _ _ | exact Kd.S_nil _ _ _ _ _, zH2 HB GE466 GE467⟩
 }
 {
 replace c17 := Bool.eq_false_iff.mpr c17
 subst c17
 rw [if_neg (show ¬ (false = true) by decide)] at H
 by_cases c18 : (l3.length : Int) = (l2.length : Int)
 {
 rw [if_pos c18] at H
 have c18b0 : ((l3.length : Int) == (l2.length : Int)) = true := beq_iff_eq.mpr c18
 have c18b1 : ((l3.length : Int) != (l2.length : Int)) = false := bne_eq_false_iff_eq.mpr c18
 have c18b2 : (l3.length == l2.length) = true := by first | simpa using c18 | (simp at c18 ⊢; omega)
 clear c18
 replace H := Option.bind_eq_some_iff.mp H
 obtain ⟨t473, A190, H⟩ := H
 have A19 := ak A190
 clear A190
 by_cases c20 : t473 = 0
 {
 rw [if_pos c20] at H
 have c20b0 : (t473 == 0) = true := beq_iff_eq.mpr c20
 have c20b1 : (t473 != 0) = false := bne_eq_false_iff_eq.mpr c20
 clear c20
 replace H := Option.bind_eq_some_iff.mp H
 obtain ⟨⟨t474, t477⟩, A210, H⟩ := H
 have A21 := ak A210
 clear A210
 by_cases c22 : t477 = 0
 {
 rw [if_pos c22] at H
 have c22b0 : (t477 == 0) = true := beq_iff_eq.mpr c22
 have c22b1 : (t477 != 0) = false := bne_eq_false_iff_eq.mpr c22
 clear c22
 have H' := ak H
 clear H
 have hnb23 := NB466_467.out
 have hnc23 := NB467_466.out
 obtain ⟨hcz24_0, hcz24_1, hcz24_2, hcz24_3, hcz24_4, hcz24_5, hcz24_6, hcz24_7, hcz24_8, hcz24_9, hcz24_10, hcz24_11, hfz24_0, hfz24_1, hfz24_2, hfz24_3, hfz24_4, hfz24_5, hfz24_6, hfz24_7, hfz24_8, hfz24_9, hfz24_10, hfz24_11⟩ := cz12 wc BK466
 go_wp2_with (first | ((with_reducible refine gate_callee (f := 46) rfl ?_); refine goesL_ (some 37) rfl rfl Try.func46 (by kernel_rfl) rfl #[.agg #[.int .i8 a0_0, .int .i8 a0_1, .int .u16 a0_2, .int .u16 a0_3, .int .u16 a0_4, .int .u16 a0_5, .int .u16 a0_6, .int .u16 a0_7, .int .u16 a0_8, .int .u16 a0_9, .int .u16 a0_10, .int .u16 a0_11], .slice A3 l3.length c3] rfl gl_ ?_; (with_reducible refine (impl_cellCode.calls kj5 a0_0 a0_1 a0_2 a0_3 a0_4 a0_5 a0_6 a0_7 a0_8 a0_9 a0_10 a0_11 _ _ l3 t473 _ ?side1 ?side2 A19.out).mono ?_); (case side1 => exact sQ (Kd.C_below HR3.out HB.out)); (case side2 => exact HC3.out); rintro e w25 ⟨rfl, hb⟩; refine ⟨_, rfl, ?_⟩; replace HO_10 := kR HO_10 hb; replace BK466 := kK BK466 hb; replace BK467 := kK BK467 hb; replace HB := kB2 HB GE466 GE467 hb; (try clear hb); obtain ⟨hcz26_0, hcz26_1, hcz26_2, hcz26_3, hcz26_4, hcz26_5, hcz26_6, hcz26_7, hcz26_8, hcz26_9, hcz26_10, hcz26_11, hfz26_0, hfz26_1, hfz26_2, hfz26_3, hfz26_4, hfz26_5, hfz26_6, hfz26_7, hfz26_8, hfz26_9, hfz26_10, hfz26_11⟩ := cz12 w25 BK466) | ((with_reducible refine gate_callee (f := 47) rfl ?_); refine goesL_ (some 44) rfl rfl Try.func47 (by kernel_rfl) rfl #[.agg #[.int .i8 a0_0, .int .i8 a0_1, .int .u16 a0_2, .int .u16 a0_3, .int .u16 a0_4, .int .u16 a0_5, .int .u16 a0_6, .int .u16 a0_7, .int .u16 a0_8, .int .u16 a0_9, .int .u16 a0_10, .int .u16 a0_11], .slice A3 l3.length c3] rfl gl_ ?_; (with_reducible refine (impl_stepsAlong.calls kj5 a0_0 a0_1 a0_2 a0_3 a0_4 a0_5 a0_6 a0_7 a0_8 a0_9 a0_10 a0_11 _ _ l3 t474 t477 _ ?side1 ?side2 A21.out).mono ?_); (case side1 => exact sQ (Kd.C_below HR3.out HB.out)); (case side2 => exact HC3.out); rintro e w27 ⟨v475, rfl, ho0, hb⟩; refine ⟨_, rfl, ?_⟩; have HO476 := ak (Kd.R_lower (Kd.R_new' ho0 (Kd.R_lt (zR HO_10.out))) (below_size (zH2 HB GE466 GE467))); replace HO_10 := kE HO_10 ho0 hb; replace BK466 := kK BK466 hb; replace BK467 := kK BK467 hb; replace HB := kB2 HB GE466 GE467 hb; (try clear hb); (try clear ho0); obtain ⟨Ao28, co28, eo28⟩ := Kd.R_slice HO_10.out; subst eo28))
 go_loopg [52] kj5 (fun kq v52 w' => ∃ (x10_2 : List Int) (x52_2 : Int), v52 = .int .i64 x52_2 ∧ Aside0 (impl_SlacksOf.l0 kq x10_2 t474 (t468.length : Int) x52_2 = some (r1, r2)) ∧ Aside0 (kq ≤ kj5) ∧ Aside0 (Kd.R (Kd.int .i64) 2 w' w.heap.size (fun k_ => some k_ ≠ (v475 : Value).ownBlock) (.slice Ao28 t468.length co28) x10_2) ∧ Aside0 (Kd.R (Kd.int .i64) 2 w' w.heap.size (fun k_ => some k_ ≠ ((.slice Ao28 t468.length co28) : Value).ownBlock) v475 t474) ∧ Aside0 (w'.heap[gb466]? = some (.cells #[.int .i8 a0_0, .int .i8 a0_1, .int .u16 a0_2, .int .u16 a0_3, .int .u16 a0_4, .int .u16 a0_5, .int .u16 a0_6, .int .u16 a0_7, .int .u16 a0_8, .int .u16 a0_9, .int .u16 a0_10, .int .u16 a0_11] 35 (0, 0))) ∧ Aside0 (w'.heap[gb467]? = some (.cells #[.int .i16 a1_0, (.slice A1_1 l1_1.length c1_1)] 32 (0, 0))) ∧ Aside0 (Below w.heap.size w w'))
 case atStart => exact ⟨(t468), (0), (by first | rfl | (simp; done) | (simp [*]; done)), H', ⟨Nat.le_refl _⟩, ⟨by (with_reducible repeat (first | apply Kd.R_alloc | apply Kd.R_drewN | apply Kd.R_drew)); exact Kd.R_mono HO_10.out (fun _ hk => hk.2)⟩, ⟨by (with_reducible repeat (first | apply Kd.R_alloc | apply Kd.R_drewN | apply Kd.R_drew)); exact Kd.R_mono HO476.out (fun _ hk => hk.2)⟩, ⟨(zK BK466.out)⟩, ⟨(zK BK467.out)⟩, ⟨zH2 HB GE466 GE467⟩⟩
 case round => (
 clear H'
 try clear c2
 try clear c3
 try clear c17
 try clear c18
 try clear c18b0
 try clear c18b1
 try clear c18b2
 try clear c20
 try clear c20b0
 try clear c20b1
 try clear c22
 try clear c22b0
 try clear c22b1
 try clear hcz10_0
 try clear hcz10_1
 try clear hcz24_0
 try clear hcz24_1
 try clear hcz24_10
 try clear hcz24_11
 try clear hcz24_2
 try clear hcz24_3
 try clear hcz24_4
 try clear hcz24_5
 try clear hcz24_6
 try clear hcz24_7
 try clear hcz24_8
 try clear hcz24_9
 try clear hcz26_0
 try clear hcz26_1
 try clear hcz26_10
 try clear hcz26_11
 try clear hcz26_2
 try clear hcz26_3
 try clear hcz26_4
 try clear hcz26_5
 try clear hcz26_6
 try clear hcz26_7
 try clear hcz26_8
 try clear hcz26_9
 try clear hfz10_0
 try clear hfz10_1
 try clear hfz24_0
 try clear hfz24_1
 try clear hfz24_10
 try clear hfz24_11
 try clear hfz24_2
 try clear hfz24_3
 try clear hfz24_4
 try clear hfz24_5
 try clear hfz24_6
 try clear hfz24_7
 try clear hfz24_8
 try clear hfz24_9
 try clear hfz26_0
 try clear hfz26_1
 try clear hfz26_10
 try clear hfz26_11
 try clear hfz26_2
 try clear hfz26_3
 try clear hfz26_4
 try clear hfz26_5
 try clear hfz26_6
 try clear hfz26_7
 try clear hfz26_8
 try clear hfz26_9
 obtain ⟨x10_2, x52_2, rfl, HA, HK2, HO_10, HO_13, BK466, BK467, HB⟩ := hrel
 have hl10_2 := (Kd.R_reads' HO_10.out).1
 rw [hl10_2] at HO_10
 (try simp only [hl10_2])
 (try simp only [hl10_2] at BK466)
 (try simp only [hl10_2] at BK467)
 (try simp only [hl10_2] at HO_13)
 cases gk with
 | zero => exact absurd HA.out (by simp [impl_SlacksOf.l0])
 | succ k2 => (
 have H := HA.out
 clear HA
 simp only [impl_SlacksOf.l0] at H
 by_cases c29 : x52_2 < (t468.length : Int)
 {
 rw [if_pos c29] at H
 have c29b0 : decide (x52_2 < (t468.length : Int)) = true := decide_eq_true c29
 clear c29
 by_cases c30 : 0 ≤ x52_2
 {
 rw [if_pos c30] at H
 have c30b0 : decide (0 ≤ x52_2) = true := decide_eq_true c30
 clear c30
 by_cases c31 : x52_2 < (x10_2.length : Int)
 {
 rw [if_pos c31] at H
 have c31b0 : decide (x52_2 < (x10_2.length : Int)) = true := decide_eq_true c31
 clear c31
 by_cases c32 : x52_2 < (t474.length : Int)
 {
 rw [if_pos c32] at H
 have c32b0 : decide (x52_2 < (t474.length : Int)) = true := decide_eq_true c32
 clear c32
 obtain ⟨y480, hy480⟩ : ∃ y_ : List Int, y_ = (x10_2.set (x52_2 : Int).toNat (wrap64 ((rd x10_2 x52_2) - (rd t474 x52_2)))) := ⟨_, rfl⟩
 replace H : (impl_SlacksOf.l0 k2 y480 t474 (t468.length : Int) (wrap64 (x52_2 + 1))) = some (r1, r2) := by first | (rw [hy480]; with_reducible exact H) | (have H2_ := (Option.bind_some _ _).symm.trans H; rw [hy480]; with_reducible exact H2_) | (have H2_ := (Option.bind_some _ _).symm.trans H; with_reducible exact H2_) | with_reducible exact H | (rw [hy480]; exact H) | exact H
 have Ny480 := ak hy480
 clear hy480
 have H' := ak H
 clear H
 try go_wp2
 replace HO_10 := ak (Kd.R_drew HO_10.out)
 replace HO_13 := ak (Kd.R_drew HO_13.out)
 replace BK466 := ak (blk_drew BK466.out)
 replace BK467 := ak (blk_drew BK467.out)
 replace HB := ak (below_drew1 HB.out)
 have p478 : 0 ≤ (x52_2 : Int) := of_decide_eq_true (by first | (with_reducible assumption) | assumption)
 have q478 : x52_2 < (x10_2.length : Int) := of_decide_eq_true (by first | (with_reducible assumption) | assumption)
 obtain ⟨ad478, e478, hx478_0⟩ := Kd.at_int (Kd.R_reads' HO_10.out).2.2 x52_2 p478 q478
 cases e478
 replace p478 := eq_true p478
 replace q478 := eq_true q478
 obtain ⟨Ao35, co35, eo35⟩ := Kd.R_slice HO_13.out
 (first | subst eo35 | (injection eo35 with f1_ f2_ f3_; have f4_ := f1_.symm; have f5_ := f3_.symm; clear f1_ f2_ f3_; subst f4_; subst f5_))
 have p479 : 0 ≤ (x52_2 : Int) := of_decide_eq_true (by first | (with_reducible assumption) | assumption)
 have q479 : x52_2 < (t474.length : Int) := of_decide_eq_true (by first | (with_reducible assumption) | assumption)
 obtain ⟨ad479, e479, hx479_0⟩ := Kd.at_int (Kd.R_reads' HO_13.out).2.2 x52_2 p479 q479
 cases e479
 replace p479 := eq_true p479
 replace q479 := eq_true q479
 have p33 : 0 ≤ (x52_2 : Int) := of_decide_eq_true (by first | (with_reducible assumption) | assumption)
 have q33 : (x52_2 : Int) < ((x10_2.length : Int) : Int) := of_decide_eq_true (by first | (with_reducible assumption) | assumption)
 obtain ⟨go33, co33, eo33, gb33, gl33, cl33, HG33⟩ := Kd.R_form HO_10.out (by omega)
 (first | cases eo33 | (injection eo33 with ea_ en_ ec_; (first | subst ea_ | (injection ea_ with ea_; subst ea_)); subst ec_; clear en_))
 have GB33 := ak gb33
 have GG33 := ak HG33
 clear gb33 gl33 HG33
 (first | simp only [add_plain] at hx478_0 | skip)
 obtain ⟨hx33_0, hf33_0⟩ := Kd.R_celln 0 HO_10.out (x52_2 : Int) p33 q33
 replace p33 := eq_true p33
 replace q33 := eq_true q33
 have HP36 := Kd.R_putn HO_10.out (x52_2 : Int) (wrap64 ((rd x10_2 x52_2) - (rd t474 x52_2)))
 rw [← Ny480.out] at HP36
 have HQ36 := ak HP36
 clear HP36
 refine start_ (n := 11) (S := fun w' => w'.cell? ⟨go33, (x52_2).toNat, none⟩ = some (.int .i64 (rd x10_2 x52_2)) ∧ w'.cell? (ad479.add (x52_2).toNat) = some (.int .i64 (rd t474 x52_2))) (ds := [10]) (bA 11 0) (by kernel_rfl) rfl rfl ⟨hx478_0, hx479_0⟩ (fun hHeld => ?_); refine with_tabW impl_SlacksOf.tab15 impl_SlacksOf.bits15 (fun HT_ HW_ => ?_)
 generalize wr.drew = w34 at HO_10 HO_13 BK466 BK467 HB GG33 HQ36 hf33_0 hx33_0 hx478_0 hx479_0 hHeld ⊢
 refine pU 0 55 (bA 11 1) HT_ ?_
 refine pU 1 56 (bA 11 3) HT_ ?_
 refine pU 2 57 (bA 11 7) HT_ ?_
 refine pU 4 59 (bA 11 23) HT_ ?_
 refine pU 5 60 (bA 11 55) HT_ ?_
 refine pU 6 61 (bA 11 119) HT_ ?_
 refine tK 3 58 (bA 11 127) HT_ HW_ hHeld ?_
 refine tK 7 62 (bA 11 255) HT_ HW_ hHeld ?_
 refine pU 8 63 (bA 11 511) HT_ ?_
 refine pU 9 64 (bA 11 1023) HT_ ?_
 refine last_ (i := 10) (N := none) #[true, true, true, true, true, true, true, true, true, true, true] rfl rfl (one_of HT_.out (by kernel_rfl)) (by decide) (fun K hK => ?_)
 refine skip_ (w1 := ?_) (by rfl) rfl ?_ ?_
 rotate_left
 · go_simp; rfl
 refine hK.out _ _ ?_
 clear hK K
 refine done_ (done_of HT_.out (by kernel_rfl)) ?_
 try go_wp2
 (try simp only [← hl10_2])
 go_roundg k2
 case measure => have := HJ5.out; have := HK2.out; omega
 case rel => exact ⟨(y480), (wrap64 (x52_2 + 1)), (by first | rfl | (simp; done) | (simp [*]; done)), H', ⟨by have := HJ5.out; have := HK2.out; omega⟩, ⟨by (try simp only [hl10_2]); (with_reducible repeat (first | apply Kd.R_alloc | apply Kd.R_drewN | apply Kd.R_drew)); exact HQ36.out⟩, ⟨by (try simp only [hl10_2]); (with_reducible repeat (first | apply Kd.R_alloc | apply Kd.R_drewN | apply Kd.R_drew)); exact Kd.R_mono (Kd.R_far (p := ⟨go33, (x52_2 : Int).toNat, none⟩) (Kd.R_mono HO_13.out (fun k_ hk => (⟨hk, fun e_ => hk (by rw [e_]; rfl)⟩ : _ ∧ k_ ≠ go33))) (fun _ hk => hk.2) (.int .i64 (wrap64 ((rd x10_2 x52_2) - (rd t474 x52_2))))) (fun _ hk => hk.1)⟩, ⟨by (try simp only [hl10_2]); (with_reducible repeat (first | refine blk_drewN ?_ _ | refine blk_drew ?_ | refine blk_alloc ?_ _)); refine blk_far ?_ (by have h_ := Kd.R_ne HO_10.out BK466.out (by decide); intro e_; exact h_ (by rw [e_]; rfl)) _; (with_reducible repeat (first | refine blk_drewN ?_ _ | refine blk_drew ?_ | refine blk_alloc ?_ _)); exact BK466.out⟩, ⟨by (try simp only [hl10_2]); (with_reducible repeat (first | refine blk_drewN ?_ _ | refine blk_drew ?_ | refine blk_alloc ?_ _)); refine blk_far ?_ (by have h_ := Kd.R_ne HO_10.out BK467.out (by decide); intro e_; exact h_ (by rw [e_]; rfl)) _; (with_reducible repeat (first | refine blk_drewN ?_ _ | refine blk_drew ?_ | refine blk_alloc ?_ _)); exact BK467.out⟩, ⟨zH3 HB GB33 GE466 GE467⟩⟩
 }
 · rw [if_neg c32] at H; exact absurd H (by simp)
 }
 · rw [if_neg c31] at H; exact absurd H (by simp)
 }
 · rw [if_neg c30] at H; exact absurd H (by simp)
 }
 {
 rw [if_neg c29] at H
 have c29b0 : decide (x52_2 < (t468.length : Int)) = false := decide_eq_false c29
 have c29q : decide (x52_2 < (x10_2.length : Int)) = false := by rw [← hl10_2]; exact c29b0
 clear c29
 simp only [Option.some.injEq, Prod.mk.injEq] at H
 obtain ⟨rfl, rfl⟩ := H
 go_wp2
 go_ret2
 exact ⟨_, by first | rfl | (simp [errW_none, errW_some] <;> rfl) | (simp [*, errW_none, errW_some] <;> rfl), by (with_reducible repeat (first | apply Kd.R_alloc | apply Kd.R_drewN | apply Kd.R_drew)); exact Kd.R_mono HO_10.out (fun _ hk => trivial), zH2 HB GE466 GE467⟩
 }
 )
 )
 }
 {
 rw [if_neg c22] at H
 have c22b0 : (t477 == 0) = false := beq_eq_false_iff_ne.mpr c22
 have c22b1 : (t477 != 0) = true := bne_iff_ne.mpr c22
 simp only [Option.some.injEq, Prod.mk.injEq] at H
 obtain ⟨rfl, rfl⟩ := H
 have hnb37 := NB466_467.out
 have hnc37 := NB467_466.out
 obtain ⟨hcz38_0, hcz38_1, hcz38_2, hcz38_3, hcz38_4, hcz38_5, hcz38_6, hcz38_7, hcz38_8, hcz38_9, hcz38_10, hcz38_11, hfz38_0, hfz38_1, hfz38_2, hfz38_3, hfz38_4, hfz38_5, hfz38_6, hfz38_7, hfz38_8, hfz38_9, hfz38_10, hfz38_11⟩ := cz12 wc BK466
 go_wp2_with (first | ((with_reducible refine gate_callee (f := 46) rfl ?_); refine goesL_ (some 37) rfl rfl Try.func46 (by kernel_rfl) rfl #[.agg #[.int .i8 a0_0, .int .i8 a0_1, .int .u16 a0_2, .int .u16 a0_3, .int .u16 a0_4, .int .u16 a0_5, .int .u16 a0_6, .int .u16 a0_7, .int .u16 a0_8, .int .u16 a0_9, .int .u16 a0_10, .int .u16 a0_11], .slice A3 l3.length c3] rfl gl_ ?_; (with_reducible refine (impl_cellCode.calls kj5 a0_0 a0_1 a0_2 a0_3 a0_4 a0_5 a0_6 a0_7 a0_8 a0_9 a0_10 a0_11 _ _ l3 t473 _ ?side1 ?side2 A19.out).mono ?_); (case side1 => exact sQ (Kd.C_below HR3.out HB.out)); (case side2 => exact HC3.out); rintro e w39 ⟨rfl, hb⟩; refine ⟨_, rfl, ?_⟩; replace HO_10 := kR HO_10 hb; replace BK466 := kK BK466 hb; replace BK467 := kK BK467 hb; replace HB := kB2 HB GE466 GE467 hb; (try clear hb); obtain ⟨hcz40_0, hcz40_1, hcz40_2, hcz40_3, hcz40_4, hcz40_5, hcz40_6, hcz40_7, hcz40_8, hcz40_9, hcz40_10, hcz40_11, hfz40_0, hfz40_1, hfz40_2, hfz40_3, hfz40_4, hfz40_5, hfz40_6, hfz40_7, hfz40_8, hfz40_9, hfz40_10, hfz40_11⟩ := cz12 w39 BK466) | ((with_reducible refine gate_callee (f := 47) rfl ?_); refine goesL_ (some 44) rfl rfl Try.func47 (by kernel_rfl) rfl #[.agg #[.int .i8 a0_0, .int .i8 a0_1, .int .u16 a0_2, .int .u16 a0_3, .int .u16 a0_4, .int .u16 a0_5, .int .u16 a0_6, .int .u16 a0_7, .int .u16 a0_8, .int .u16 a0_9, .int .u16 a0_10, .int .u16 a0_11], .slice A3 l3.length c3] rfl gl_ ?_; (with_reducible refine (impl_stepsAlong.calls kj5 a0_0 a0_1 a0_2 a0_3 a0_4 a0_5 a0_6 a0_7 a0_8 a0_9 a0_10 a0_11 _ _ l3 t474 t477 _ ?side1 ?side2 A21.out).mono ?_); (case side1 => exact sQ (Kd.C_below HR3.out HB.out)); (case side2 => exact HC3.out); rintro e w41 ⟨v475, rfl, ho0, hb⟩; refine ⟨_, rfl, ?_⟩; have HO476 := ak (Kd.R_lower (Kd.R_new' ho0 (Kd.R_lt (zR HO_10.out))) (below_size (zH2 HB GE466 GE467))); replace HO_10 := kE HO_10 ho0 hb; replace BK466 := kK BK466 hb; replace BK467 := kK BK467 hb; replace HB := kB2 HB GE466 GE467 hb; (try clear hb); (try clear ho0)))
 go_ret2
 exact ⟨_, by first | rfl | (simp [errW_none, errW_some] <;> rfl) | (simp [*, errW_none, errW_some] <;> rfl), by first | exact Kd.R_nil _ _ _ _ _ | exact Kd.N_nil _ _ _ _ _ | exact Kd.V_nil _ _ _ _ _ | exact Kd.Q_nil _ _ _ _ _ | exact Kd.S_nil _ _ _ _ _, zH2 HB GE466 GE467⟩
 }
 }
 {
 rw [if_neg c20] at H
 have c20b0 : (t473 == 0) = false := beq_eq_false_iff_ne.mpr c20
 have c20b1 : (t473 != 0) = true := bne_iff_ne.mpr c20
 simp only [Option.some.injEq, Prod.mk.injEq] at H
 obtain ⟨rfl, rfl⟩ := H
 have hnb42 := NB466_467.out
 have hnc42 := NB467_466.out
 obtain ⟨hcz43_0, hcz43_1, hcz43_2, hcz43_3, hcz43_4, hcz43_5, hcz43_6, hcz43_7, hcz43_8, hcz43_9, hcz43_10, hcz43_11, hfz43_0, hfz43_1, hfz43_2, hfz43_3, hfz43_4, hfz43_5, hfz43_6, hfz43_7, hfz43_8, hfz43_9, hfz43_10, hfz43_11⟩ := cz12 wc BK466
 go_wp2_with (first | ((with_reducible refine gate_callee (f := 46) rfl ?_); refine goesL_ (some 37) rfl rfl Try.func46 (by kernel_rfl) rfl #[.agg #[.int .i8 a0_0, .int .i8 a0_1, .int .u16 a0_2, .int .u16 a0_3, .int .u16 a0_4, .int .u16 a0_5, .int .u16 a0_6, .int .u16 a0_7, .int .u16 a0_8, .int .u16 a0_9, .int .u16 a0_10, .int .u16 a0_11], .slice A3 l3.length c3] rfl gl_ ?_; (with_reducible refine (impl_cellCode.calls kj5 a0_0 a0_1 a0_2 a0_3 a0_4 a0_5 a0_6 a0_7 a0_8 a0_9 a0_10 a0_11 _ _ l3 t473 _ ?side1 ?side2 A19.out).mono ?_); (case side1 => exact sQ (Kd.C_below HR3.out HB.out)); (case side2 => exact HC3.out); rintro e w44 ⟨rfl, hb⟩; refine ⟨_, rfl, ?_⟩; replace HO_10 := kR HO_10 hb; replace BK466 := kK BK466 hb; replace BK467 := kK BK467 hb; replace HB := kB2 HB GE466 GE467 hb; (try clear hb)))
 go_ret2
 exact ⟨_, by first | rfl | (simp [errW_none, errW_some] <;> rfl) | (simp [*, errW_none, errW_some] <;> rfl), by first | exact Kd.R_nil _ _ _ _ _ | exact Kd.N_nil _ _ _ _ _ | exact Kd.V_nil _ _ _ _ _ | exact Kd.Q_nil _ _ _ _ _ | exact Kd.S_nil _ _ _ _ _, zH2 HB GE466 GE467⟩
 }
 }
 {
 rw [if_neg c18] at H
 have c18b0 : ((l3.length : Int) == (l2.length : Int)) = false := beq_eq_false_iff_ne.mpr c18
 have c18b1 : ((l3.length : Int) != (l2.length : Int)) = true := bne_iff_ne.mpr c18
 have c18b2 : (l3.length == l2.length) = false := by first | simpa using c18 | (simp at c18 ⊢; omega)
 simp only [Option.some.injEq, Prod.mk.injEq] at H
 obtain ⟨rfl, rfl⟩ := H
 go_wp2
 go_ret2
 exact ⟨_, by first | rfl | (simp [errW_none, errW_some] <;> rfl) | (simp [*, errW_none, errW_some] <;> rfl), by first | exact Kd.R_nil _ _ _ _ _ | exact Kd.N_nil _ _ _ _ _ | exact Kd.V_nil _ _ _ _ _ | exact Kd.Q_nil _ _ _ _ _ | exact Kd.S_nil _ _ _ _ _, zH2 HB GE466 GE467⟩
 }
 }
 )
 )
end Go.Proofs.Ytooidjdgfoioiaa.P
