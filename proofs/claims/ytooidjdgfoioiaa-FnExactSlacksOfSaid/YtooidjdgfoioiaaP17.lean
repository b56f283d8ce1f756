-- Printed by wip/print (my turned copy of the kit's print) out of the translation; Lean checks it.
import Derived.Test.YtooidjdgfoioiaaP0
import Derived.Test.YtooidjdgfoioiaaP2
import Derived.Test.YtooidjdgfoioiaaP3
import Derived.Test.YtooidjdgfoioiaaP6
import Derived.Test.YtooidjdgfoioiaaP15
import Derived.Test.YtooidjdgfoioiaaP16
namespace Go.Proofs.Ytooidjdgfoioiaa.P
open Go.RowKit Go.Proofs.YtooidjdgfoioiaaW.PrintWords Go.Proofs.YtooidjdgfoioiaaW.PrintLast Go.Proofs.YtooidjdgfoioiaaW.PrintMore
attribute [local go_sem] max2_int min2_int max_two min_two max_three min_three max_four min_four   -- for this text's walks alone
set_option linter.unusedVariables false
set_option linter.unusedSimpArgs false

/-! ### spec_SlacksOf: function 34 -/
mutual
def spec_SlacksOf.j0 : Nat → List (S65) → List (S62) → List Int → Bool → Int → Int → Int → Int → Int → Int → Int → Int → Int → Int → Int → Int → Int → List Int → Option (List Int × Int)
  | 0, _, _, _, _, _, _, _, _, _, _, _, _, _, _, _, _, _, _ => none
  | k + 1, x2, x3, x10, x22, x393000, x393001, x393002, x393003, x393004, x393005, x393006, x393007, x393008, x393009, x393010, x393011, x394000, x394001 => if x22 = true then (some (x10, 1)) else (if (x3.length : Int) = (x2.length : Int) then ((spec_l03Cells.f k x393000 x393001 x393002 x393003 x393004 x393005 x393006 x393007 x393008 x393009 x393010 x393011 x3).bind fun t399 => (spec_SlacksOf.j1 k x2 x3 x10 (!t399) x393000 x393001 x393002 x393003 x393004 x393005 x393006 x393007 x393008 x393009 x393010 x393011 x394000 x394001)) else (spec_SlacksOf.j1 k x2 x3 x10 true x393000 x393001 x393002 x393003 x393004 x393005 x393006 x393007 x393008 x393009 x393010 x393011 x394000 x394001))
def spec_SlacksOf.j1 : Nat → List (S65) → List (S62) → List Int → Bool → Int → Int → Int → Int → Int → Int → Int → Int → Int → Int → Int → Int → Int → List Int → Option (List Int × Int)
  | 0, _, _, _, _, _, _, _, _, _, _, _, _, _, _, _, _, _, _ => none
  | k + 1, x2, x3, x10, x33, x393000, x393001, x393002, x393003, x393004, x393005, x393006, x393007, x393008, x393009, x393010, x393011, x394000, x394001 => if x33 = true then (some (x10, 2)) else ((spec_l03Gaps.f k x394000 x394001 x2).bind fun t400 => (spec_SlacksOf.l0 k x3 x10 t400 1 x393000 x393001 x393002 x393003 x393004 x393005 x393006 x393007 x393008 x393009 x393010 x393011))
def spec_SlacksOf.l0 : Nat → List (S62) → List Int → List Int → Int → Int → Int → Int → Int → Int → Int → Int → Int → Int → Int → Int → Int → Option (List Int × Int)
  | 0, _, _, _, _, _, _, _, _, _, _, _, _, _, _, _, _ => none
  | k + 1, x3, x10, x11, x12, x393000, x393001, x393002, x393003, x393004, x393005, x393006, x393007, x393008, x393009, x393010, x393011 => if x12 < (x3.length : Int) then (if 0 ≤ (wrap64 (x12 - 1)) then (if (wrap64 (x12 - 1)) < (x3.length : Int) then (if 0 ≤ x12 then ((spec_StepsBetween.f k x393000 x393001 x393002 x393003 x393004 x393005 x393006 x393007 x393008 x393009 x393010 x393011 ((rd_T62 x3 (wrap64 (x12 - 1))).f0) ((rd_T62 x3 (wrap64 (x12 - 1))).f1) ((rd_T62 x3 x12).f0) ((rd_T62 x3 x12).f1)).bind fun bt405 => (if bt405.2 = 0 then (if (wrap64 (x12 - 1)) < (x11.length : Int) then (if x10.length < 17592186044416 then (spec_SlacksOf.l0 k x3 (x10 ++ [wrap64 ((rd x11 (wrap64 (x12 - 1))) - bt405.1)]) x11 (wrap64 (x12 + 1)) x393000 x393001 x393002 x393003 x393004 x393005 x393006 x393007 x393008 x393009 x393010 x393011) else (none)) else (none)) else (some ((([] : List Int)), bt405.2)))) else (none)) else (none)) else (none)) else (some (x10, 0))
end
def spec_SlacksOf.f (k : Nat) (a0_0 : Int) (a0_1 : Int) (a0_2 : Int) (a0_3 : Int) (a0_4 : Int) (a0_5 : Int) (a0_6 : Int) (a0_7 : Int) (a0_8 : Int) (a0_9 : Int) (a0_10 : Int) (a0_11 : Int) (a1_0 : Int) (l1_1 : List Int) (l2 : List (S65)) (l3 : List (S62)) : Option (List Int × Int) := (some (([] : List Int) : List Int)).bind fun y394 => ((spec_l01Ok.f k a0_0 a0_1 a0_2 a0_3 a0_4 a0_5 a0_6 a0_7 a0_8 a0_9 a0_10 a0_11).bind fun t397 => (if t397 = true then ((spec_l03Holds.f k a1_0 l1_1 l2).bind fun t398 => (spec_SlacksOf.j0 k l2 l3 y394 (!t398) a0_0 a0_1 a0_2 a0_3 a0_4 a0_5 a0_6 a0_7 a0_8 a0_9 a0_10 a0_11 a1_0 l1_1)) else (spec_SlacksOf.j0 k l2 l3 y394 true a0_0 a0_1 a0_2 a0_3 a0_4 a0_5 a0_6 a0_7 a0_8 a0_9 a0_10 a0_11 a1_0 l1_1)))
theorem spec_SlacksOf.mono_l : ∀ k, (∀ y0 y1 y2 y3 y4 y5 y6 y7 y8 y9 y10 y11 y12 y13 y14 y15 y16 y17, LeO (spec_SlacksOf.j0 k y0 y1 y2 y3 y4 y5 y6 y7 y8 y9 y10 y11 y12 y13 y14 y15 y16 y17) (spec_SlacksOf.j0 (k + 1) y0 y1 y2 y3 y4 y5 y6 y7 y8 y9 y10 y11 y12 y13 y14 y15 y16 y17)) ∧ (∀ y0 y1 y2 y3 y4 y5 y6 y7 y8 y9 y10 y11 y12 y13 y14 y15 y16 y17, LeO (spec_SlacksOf.j1 k y0 y1 y2 y3 y4 y5 y6 y7 y8 y9 y10 y11 y12 y13 y14 y15 y16 y17) (spec_SlacksOf.j1 (k + 1) y0 y1 y2 y3 y4 y5 y6 y7 y8 y9 y10 y11 y12 y13 y14 y15 y16 y17)) ∧ (∀ y0 y1 y2 y3 y4 y5 y6 y7 y8 y9 y10 y11 y12 y13 y14 y15, LeO (spec_SlacksOf.l0 k y0 y1 y2 y3 y4 y5 y6 y7 y8 y9 y10 y11 y12 y13 y14 y15) (spec_SlacksOf.l0 (k + 1) y0 y1 y2 y3 y4 y5 y6 y7 y8 y9 y10 y11 y12 y13 y14 y15))
  | 0 => ⟨fun _ _ _ _ _ _ _ _ _ _ _ _ _ _ _ _ _ _ r h => by simp [spec_SlacksOf.j0] at h, fun _ _ _ _ _ _ _ _ _ _ _ _ _ _ _ _ _ _ r h => by simp [spec_SlacksOf.j1] at h, fun _ _ _ _ _ _ _ _ _ _ _ _ _ _ _ _ r h => by simp [spec_SlacksOf.l0] at h⟩
  | k + 1 => by
    obtain ⟨ih0, ih1, ih2⟩ := spec_SlacksOf.mono_l k
    refine ⟨?_, ?_, ?_⟩
    · intro y0 y1 y2 y3 y4 y5 y6 y7 y8 y9 y10 y11 y12 y13 y14 y15 y16 y17
      unfold spec_SlacksOf.j0
      repeat' first
      | (with_reducible exact ih0 ..)
      | (with_reducible exact ih1 ..)
      | (with_reducible exact ih2 ..)
      | (with_reducible exact spec_StepsBetween.mono ..)
      | (with_reducible exact spec_l01Ok.mono ..)
      | (with_reducible exact spec_l03Cells.mono ..)
      | (with_reducible exact spec_l03Gaps.mono ..)
      | (with_reducible exact spec_l03Holds.mono ..)
      | (with_reducible exact LeO.refl ..)
      | (with_reducible exact LeO.none ..)
      | (with_reducible refine LeO.ite ?_ ?_)
      | (with_reducible refine LeO.bind ?_ (fun _ => ?_))
    · intro y0 y1 y2 y3 y4 y5 y6 y7 y8 y9 y10 y11 y12 y13 y14 y15 y16 y17
      unfold spec_SlacksOf.j1
      repeat' first
      | (with_reducible exact ih0 ..)
      | (with_reducible exact ih1 ..)
      | (with_reducible exact ih2 ..)
      | (with_reducible exact spec_StepsBetween.mono ..)
      | (with_reducible exact spec_l01Ok.mono ..)
      | (with_reducible exact spec_l03Cells.mono ..)
      | (with_reducible exact spec_l03Gaps.mono ..)
      | (with_reducible exact spec_l03Holds.mono ..)
      | (with_reducible exact LeO.refl ..)
      | (with_reducible exact LeO.none ..)
      | (with_reducible refine LeO.ite ?_ ?_)
      | (with_reducible refine LeO.bind ?_ (fun _ => ?_))
    · intro y0 y1 y2 y3 y4 y5 y6 y7 y8 y9 y10 y11 y12 y13 y14 y15
      unfold spec_SlacksOf.l0
      repeat' first
      | (with_reducible exact ih0 ..)
      | (with_reducible exact ih1 ..)
      | (with_reducible exact ih2 ..)
      | (with_reducible exact spec_StepsBetween.mono ..)
      | (with_reducible exact spec_l01Ok.mono ..)
      | (with_reducible exact spec_l03Cells.mono ..)
      | (with_reducible exact spec_l03Gaps.mono ..)
      | (with_reducible exact spec_l03Holds.mono ..)
      | (with_reducible exact LeO.refl ..)
      | (with_reducible exact LeO.none ..)
      | (with_reducible refine LeO.ite ?_ ?_)
      | (with_reducible refine LeO.bind ?_ (fun _ => ?_))
theorem spec_SlacksOf.mono : ∀ a0 a1 a2 a3 a4 a5 a6 a7 a8 a9 a10 a11 a12 a13 a14 a15 k, LeO (spec_SlacksOf.f k a0 a1 a2 a3 a4 a5 a6 a7 a8 a9 a10 a11 a12 a13 a14 a15) (spec_SlacksOf.f (k + 1) a0 a1 a2 a3 a4 a5 a6 a7 a8 a9 a10 a11 a12 a13 a14 a15) := by
  intro a0 a1 a2 a3 a4 a5 a6 a7 a8 a9 a10 a11 a12 a13 a14 a15 k
  obtain ⟨ih0, ih1, ih2⟩ := spec_SlacksOf.mono_l k
  unfold spec_SlacksOf.f
  repeat' first
      | (with_reducible exact ih0 ..)
      | (with_reducible exact ih1 ..)
      | (with_reducible exact ih2 ..)
      | (with_reducible exact spec_StepsBetween.mono ..)
      | (with_reducible exact spec_l01Ok.mono ..)
      | (with_reducible exact spec_l03Cells.mono ..)
      | (with_reducible exact spec_l03Gaps.mono ..)
      | (with_reducible exact spec_l03Holds.mono ..)
      | (with_reducible exact LeO.refl ..)
      | (with_reducible exact LeO.none ..)
      | (with_reducible refine LeO.ite ?_ ?_)
      | (with_reducible refine LeO.bind ?_ (fun _ => ?_))
def spec_SlacksOf.T10 : Bool × List (List Nat × List Nat) := (true, [([], []), ([], []), ([], []), ([2], [2]), ([1, 3], [1, 3]), ([4], [4]), ([], []), ([], []), ([6, 7], [6, 7]), ([8], [8]), ([0, 5, 9], [0, 5, 9]), ([10], [10]), ([11], [11]), ([11], [11]), ([12, 10, 0, 1, 2, 3, 4, 5, 6, 7, 8, 9, 10, 11, 12], [12]), ([13, 14, 0, 1, 2, 3, 4, 5, 6, 7, 8, 9, 10, 11, 12, 13, 14], [13])])
def spec_SlacksOf.B10 : List Nat := [0, 0, 0, 4, 14, 30, 0, 0, 192, 448, 1023, 2047, 4095, 4095, 8191, 32767]
theorem spec_SlacksOf.tab10 : rtab .any (opsOf Try.f34 10) = spec_SlacksOf.T10 := by kernel_rfl
theorem spec_SlacksOf.bits10 : waitsOk spec_SlacksOf.T10.2 spec_SlacksOf.B10 = true := by kernel_rfl
set_option maxHeartbeats 8000000 in
set_option maxRecDepth 100000 in
theorem spec_SlacksOf.calls (k : Nat) (a0_0 : Int) (a0_1 : Int) (a0_2 : Int) (a0_3 : Int) (a0_4 : Int) (a0_5 : Int) (a0_6 : Int) (a0_7 : Int) (a0_8 : Int) (a0_9 : Int) (a0_10 : Int) (a0_11 : Int) (a1_0 : Int) (A1_1 : Option Addr) (c1_1 : Nat) (l1_1 : List Int) (A2 : Option Addr) (c2 : Nat) (l2 : List (S65)) (A3 : Option Addr) (c3 : Nat) (l3 : List (S62)) (r1 : List Int) (r2 : Int) (w : World) (hr1_1 : Kd.C (Kd.int .i16) w A1_1 l1_1.length l1_1) (hc1_1 : l1_1.length ≤ c1_1) (hr2 : Kd.C k65 w A2 l2.length l2) (hc2 : l2.length ≤ c2) (hr3 : Kd.C k62 w A3 l3.length l3) (hc3 : l3.length ≤ c3) (h : spec_SlacksOf.f k a0_0 a0_1 a0_2 a0_3 a0_4 a0_5 a0_6 a0_7 a0_8 a0_9 a0_10 a0_11 a1_0 l1_1 l2 l3 = some (r1, r2)) :
    Calls Try.prog 34 #[.agg #[.int .i8 a0_0, .int .i8 a0_1, .int .u16 a0_2, .int .u16 a0_3, .int .u16 a0_4, .int .u16 a0_5, .int .u16 a0_6, .int .u16 a0_7, .int .u16 a0_8, .int .u16 a0_9, .int .u16 a0_10, .int .u16 a0_11], .agg #[.int .i16 a1_0, .slice A1_1 l1_1.length c1_1], .slice A2 l2.length c2, .slice A3 l3.length c3] w fun e w' => ∃ v0_ : Value, e = .returned (.tuple #[v0_, .int .i64 r2]) ∧ Kd.R (Kd.int .i64) 2 w' w.heap.size (fun _ => True) v0_ r1 ∧ Below w.heap.size w w' := by
 have hu35 := Try.underlying35
 have hu32 := Try.underlying32
 have hu62 := Try.underlying62
 have HR1_1 := ak hr1_1
 have HC1_1 := ak hc1_1
 clear hr1_1 hc1_1
 have HR2 := ak hr2
 have HC2 := ak hc2
 clear hr2 hc2
 have HR3 := ak hr3
 have HC3 := ak hc3
 clear hr3 hc3
 have HB := ak (Below.refl w.heap.size w)
 have H := h
 unfold spec_SlacksOf.f at H
 clear h
 obtain ⟨y394, hy394⟩ : ∃ y_ : List Int, y_ = (([] : List Int)) := ⟨_, rfl⟩
 replace H : ((spec_l01Ok.f k a0_0 a0_1 a0_2 a0_3 a0_4 a0_5 a0_6 a0_7 a0_8 a0_9 a0_10 a0_11).bind fun t397 => (if t397 = true then ((spec_l03Holds.f k a1_0 l1_1 l2).bind fun t398 => (spec_SlacksOf.j0 k l2 l3 y394 (!t398) a0_0 a0_1 a0_2 a0_3 a0_4 a0_5 a0_6 a0_7 a0_8 a0_9 a0_10 a0_11 a1_0 l1_1)) else (spec_SlacksOf.j0 k l2 l3 y394 true a0_0 a0_1 a0_2 a0_3 a0_4 a0_5 a0_6 a0_7 a0_8 a0_9 a0_10 a0_11 a1_0 l1_1))) = some (r1, r2) := by first | (rw [hy394]; with_reducible exact H) | (have H2_ := (Option.bind_some _ _).symm.trans H; rw [hy394]; with_reducible exact H2_) | (have H2_ := (Option.bind_some _ _).symm.trans H; with_reducible exact H2_) | with_reducible exact H | (rw [hy394]; exact H) | exact H
 have Ny394 := ak hy394
 clear hy394
 have HC5 := ak H
 clear H
 go_enter Try.func34, Try.ntmps34
 go_upto_region 2 with (first | ((with_reducible refine gate_dst (N := 4) rfl ?_); refine box_event ?hg (N := 4) ?hd (cs := #[.int .i8 a0_0, .int .i8 a0_1, .int .u16 a0_2, .int .u16 a0_3, .int .u16 a0_4, .int .u16 a0_5, .int .u16 a0_6, .int .u16 a0_7, .int .u16 a0_8, .int .u16 a0_9, .int .u16 a0_10, .int .u16 a0_11]) (t := 35) ?hr ?_; (case hd => rfl); (case hg => rfl); (case hr => first | (go_simp; done) | (go_simp; rfl)); intro gb392 hg w6 hbox hb; have BK392 := ak (hbox); have GW392 := gS HB hg; have GE392 := gS HB hg; replace HB := kB HB hb; clear hb hbox hg) | ((with_reducible refine gate_dst (N := 5) rfl ?_); refine box_event ?hg (N := 5) ?hd (cs := #[.int .i16 a1_0, .slice A1_1 l1_1.length c1_1]) (t := 32) ?hr ?_; (case hd => rfl); (case hg => rfl); (case hr => first | (go_simp; done) | (go_simp; rfl)); intro gb393 hg w7 hbox hb; have BK393 := ak (hbox); have GW393 := gS1 HB GE392 hg; have GE393 := gS1 HB GE392 hg; have NB392_393 := nL BK392 hg; have NB393_392 := nG BK392 hg; replace BK392 := kK BK392 hb; replace HB := kB1 HB GE392 hb; clear hb hbox hg) | ((with_reducible refine gate_dst (N := 15) rfl ?_); refine Kd.R_lit (Kd.int .i64) _ 2 ?hg (N := 15) ?hd (xs := ([] : List Int)) (inner := []) (ok := fun _ => True) (okp := fun _ => True) ?hr ?hp (fun _ hk => hk) trivial (Below.refl _ _) (Nat.le_refl _) (by simp) ?_; (case hd => rfl); (case hg => rfl); (case hr => first | (go_simp; done) | (go_simp; rfl)); (case hp => exact (Reps.none _ _)); intro v395 w8 ho9 hb hg_ hnew_; clear hg_ hnew_; (first | rw [← Ny394.out] at ho9 | (simp only [Int.reduceToNat] at ho9; rw [← Ny394.out] at ho9)); have HO396 := ak (Kd.R_lower ho9 (below_size (zH2 HB GE392 GE393))); replace BK392 := kK BK392 hb; replace BK393 := kK BK393 hb; replace HB := kB2 HB GE392 GE393 hb; clear hb ho9))
 (try simp only [Act.put, zs, zz, zk])
 go_cut [22] (fun v22 wc => ∃ (kq : Nat) (x22_4 : Bool) (x393000_4 : Int) (x393001_4 : Int) (x393002_4 : Int) (x393003_4 : Int) (x393004_4 : Int) (x393005_4 : Int) (x393006_4 : Int) (x393007_4 : Int) (x393008_4 : Int) (x393009_4 : Int) (x393010_4 : Int) (x393011_4 : Int) (x394000_4 : Int), v22 = .bool x22_4 ∧ Aside0 (spec_SlacksOf.j0 kq l2 l3 y394 x22_4 x393000_4 x393001_4 x393002_4 x393003_4 x393004_4 x393005_4 x393006_4 x393007_4 x393008_4 x393009_4 x393010_4 x393011_4 x394000_4 l1_1 = some (r1, r2)) ∧ Aside0 (kq ≤ k) ∧ Aside0 (Kd.R (Kd.int .i64) 2 wc w.heap.size (fun _ => True) v395 y394) ∧ Aside0 (wc.heap[gb392]? = some (.cells #[.int .i8 x393000_4, .int .i8 x393001_4, .int .u16 x393002_4, .int .u16 x393003_4, .int .u16 x393004_4, .int .u16 x393005_4, .int .u16 x393006_4, .int .u16 x393007_4, .int .u16 x393008_4, .int .u16 x393009_4, .int .u16 x393010_4, .int .u16 x393011_4] 35 (0, 0))) ∧ Aside0 (wc.heap[gb393]? = some (.cells #[.int .i16 x394000_4, (.slice A1_1 l1_1.length c1_1)] 32 (0, 0))) ∧ Aside0 (Below w.heap.size w wc))
 case first => (
 have H := HC5.out
 clear HC5
 replace H := Option.bind_eq_some_iff.mp H
 obtain ⟨t397, A100, H⟩ := H
 have A10 := ak A100
 clear A100
 by_cases c11 : t397 = true
 {
 subst c11
 rw [if_pos rfl] at H
 replace H := Option.bind_eq_some_iff.mp H
 obtain ⟨t398, A120, H⟩ := H
 have A12 := ak A120
 clear A120
 have H' := ak H
 clear H
 go_wp2_with (first | ((with_reducible refine gate_callee (f := 40) rfl ?_); refine goesL_ (some 16) rfl rfl Try.func40 (by kernel_rfl) rfl #[.pointer (some ⟨gb392, 0, none⟩)] rfl gl_ ?_; (with_reducible refine (spec_l01Ok.calls k gb392 a0_0 a0_1 a0_2 a0_3 a0_4 a0_5 a0_6 a0_7 a0_8 a0_9 a0_10 a0_11 true _ ?side1 A10.out).mono ?_); (case side1 => exact (zK BK392.out)); rintro e w' ⟨rfl, ⟨nd, rfl⟩⟩; refine ⟨_, rfl, ?_⟩) | (go_at_call 69; (with_reducible refine (spec_l03Holds.calls k gb393 a1_0 A1_1 c1_1 l1_1 _ _ l2 t398 _ ?side1 ?side2 ?side3 ?side4 ?side5 A12.out).mono ?_); (case side1 => exact sQ (Kd.C_below HR1_1.out (zH2 HB GE392 GE393))); (case side2 => exact HC1_1.out); (case side3 => exact sQ (Kd.C_below HR2.out (zH2 HB GE392 GE393))); (case side4 => exact HC2.out); (case side5 => exact (zK BK393.out)); rintro e w13 ⟨rfl, hb⟩; replace HO396 := kR HO396 hb; replace BK392 := kK BK392 hb; replace BK393 := kK BK393 hb; replace HB := kB2 HB GE392 GE393 hb; (try clear hb)))
 go_meet
 case rel => exact ⟨_, (!t398), (a0_0), (a0_1), (a0_2), (a0_3), (a0_4), (a0_5), (a0_6), (a0_7), (a0_8), (a0_9), (a0_10), (a0_11), (a1_0), (by first | rfl | (simp; done) | (simp [*]; done)), H', ⟨by first | omega | exact Nat.le_refl _⟩, ⟨(zR HO396.out)⟩, ⟨(zK BK392.out)⟩, ⟨(zK BK393.out)⟩, ⟨zH2 HB GE392 GE393⟩⟩
 }
 {
 replace c11 := Bool.eq_false_iff.mpr c11
 subst c11
 rw [if_neg (show ¬ (false = true) by decide)] at H
 have H' := ak H
 clear H
 go_wp2_with (first | ((with_reducible refine gate_callee (f := 40) rfl ?_); refine goesL_ (some 16) rfl rfl Try.func40 (by kernel_rfl) rfl #[.pointer (some ⟨gb392, 0, none⟩)] rfl gl_ ?_; (with_reducible refine (spec_l01Ok.calls k gb392 a0_0 a0_1 a0_2 a0_3 a0_4 a0_5 a0_6 a0_7 a0_8 a0_9 a0_10 a0_11 false _ ?side1 A10.out).mono ?_); (case side1 => exact (zK BK392.out)); rintro e w' ⟨rfl, ⟨nd, rfl⟩⟩; refine ⟨_, rfl, ?_⟩))
 go_meet
 case rel => exact ⟨_, (true), (a0_0), (a0_1), (a0_2), (a0_3), (a0_4), (a0_5), (a0_6), (a0_7), (a0_8), (a0_9), (a0_10), (a0_11), (a1_0), (by first | rfl | (simp; done) | (simp [*]; done)), H', ⟨by first | omega | exact Nat.le_refl _⟩, ⟨(zR HO396.out)⟩, ⟨(zK BK392.out)⟩, ⟨(zK BK393.out)⟩, ⟨zH2 HB GE392 GE393⟩⟩
 }
 )
 case rest => (
 clear HC5
 try clear c2
 try clear c3
 obtain ⟨kq, x22_4, x393000_4, x393001_4, x393002_4, x393003_4, x393004_4, x393005_4, x393006_4, x393007_4, x393008_4, x393009_4, x393010_4, x393011_4, x394000_4, rfl, HA, HJ4, HO_10, BK392, BK393, HB⟩ := hcut
 cases kq with
 | zero => exact absurd HA.out (by simp [spec_SlacksOf.j0])
 | succ kj4 => (
 have H := HA.out
 clear HA
 simp only [spec_SlacksOf.j0] at H
 by_cases c14 : x22_4 = true
 {
 subst c14
 rw [if_pos rfl] at H
 simp only [Option.some.injEq, Prod.mk.injEq] at H
 obtain ⟨rfl, rfl⟩ := H
 go_wp2
 go_ret2
 exact ⟨_, by first | rfl | (simp [errW_none, errW_some] <;> rfl) | (simp [*, errW_none, errW_some] <;> rfl), by (with_reducible repeat (first | apply Kd.R_alloc | apply Kd.R_drewN | apply Kd.R_drew)); exact HO_10.out, zH2 HB GE392 GE393⟩
 }
 {
 replace c14 := Bool.eq_false_iff.mpr c14
 subst c14
 rw [if_neg (show ¬ (false = true) by decide)] at H
 have HC15 := ak H
 clear H
 go_upto_region 4 with (fail)
 go_cut [33] (fun v33 wc => ∃ (kq : Nat) (x33_14 : Bool) (x393000_14 : Int) (x393001_14 : Int) (x393002_14 : Int) (x393003_14 : Int) (x393004_14 : Int) (x393005_14 : Int) (x393006_14 : Int) (x393007_14 : Int) (x393008_14 : Int) (x393009_14 : Int) (x393010_14 : Int) (x393011_14 : Int), v33 = .bool x33_14 ∧ Aside0 (spec_SlacksOf.j1 kq l2 l3 y394 x33_14 x393000_14 x393001_14 x393002_14 x393003_14 x393004_14 x393005_14 x393006_14 x393007_14 x393008_14 x393009_14 x393010_14 x393011_14 x394000_4 l1_1 = some (r1, r2)) ∧ Aside0 (kq ≤ kj4) ∧ Aside0 (Kd.R (Kd.int .i64) 2 wc w.heap.size (fun _ => True) v395 y394) ∧ Aside0 (wc.heap[gb392]? = some (.cells #[.int .i8 x393000_14, .int .i8 x393001_14, .int .u16 x393002_14, .int .u16 x393003_14, .int .u16 x393004_14, .int .u16 x393005_14, .int .u16 x393006_14, .int .u16 x393007_14, .int .u16 x393008_14, .int .u16 x393009_14, .int .u16 x393010_14, .int .u16 x393011_14] 35 (0, 0))) ∧ Aside0 (wc.heap[gb393]? = some (.cells #[.int .i16 x394000_4, (.slice A1_1 l1_1.length c1_1)] 32 (0, 0))) ∧ Aside0 (Below w.heap.size w wc))
 case first => (
 have H := HC15.out
 clear HC15
 by_cases c16 : (l3.length : Int) = (l2.length : Int)
 {
 rw [if_pos c16] at H
 have c16b0 : ((l3.length : Int) == (l2.length : Int)) = true := beq_iff_eq.mpr c16
 have c16b1 : ((l3.length : Int) != (l2.length : Int)) = false := bne_eq_false_iff_eq.mpr c16
 have c16b2 : (l3.length == l2.length) = true := by first | simpa using c16 | (simp at c16 ⊢; omega)
 clear c16
 (first | rw [c16b0] | (simp only [i64_w, i32_w]; rw [c16b0]) | skip)
 replace H := Option.bind_eq_some_iff.mp H
 obtain ⟨t399, A170, H⟩ := H
 have A17 := ak A170
 clear A170
 have H' := ak H
 clear H
 go_wp2_with (first | (go_at_call 41; (with_reducible refine (spec_l03Cells.calls kj4 gb392 x393000_4 x393001_4 x393002_4 x393003_4 x393004_4 x393005_4 x393006_4 x393007_4 x393008_4 x393009_4 x393010_4 x393011_4 _ _ l3 t399 _ ?side1 ?side2 ?side3 A17.out).mono ?_); (case side1 => exact sQ (Kd.C_below HR3.out HB.out)); (case side2 => exact HC3.out); (case side3 => exact (zK BK392.out)); rintro e w18 ⟨rfl, hb⟩; replace HO_10 := kR HO_10 hb; replace BK392 := kK BK392 hb; replace BK393 := kK BK393 hb; replace HB := kB2 HB GE392 GE393 hb; (try clear hb)))
 go_meet
 case rel => exact ⟨_, (!t399), (x393000_4), (x393001_4), (x393002_4), (x393003_4), (x393004_4), (x393005_4), (x393006_4), (x393007_4), (x393008_4), (x393009_4), (x393010_4), (x393011_4), (by first | rfl | (simp; done) | (simp [*]; done)), H', ⟨by have := HJ4.out; first | omega | exact Nat.le_refl _⟩, ⟨(zR HO_10.out)⟩, ⟨(zK BK392.out)⟩, ⟨(zK BK393.out)⟩, ⟨zH2 HB GE392 GE393⟩⟩
 }
 {
 rw [if_neg c16] at H
 have c16b0 : ((l3.length : Int) == (l2.length : Int)) = false := beq_eq_false_iff_ne.mpr c16
 have c16b1 : ((l3.length : Int) != (l2.length : Int)) = true := bne_iff_ne.mpr c16
 have c16b2 : (l3.length == l2.length) = false := by first | simpa using c16 | (simp at c16 ⊢; omega)
 (first | rw [c16b0] | (simp only [i64_w, i32_w]; rw [c16b0]) | skip)
 have H' := ak H
 clear H
 go_wp2
 go_meet
 case rel => exact ⟨_, (true), (x393000_4), (x393001_4), (x393002_4), (x393003_4), (x393004_4), (x393005_4), (x393006_4), (x393007_4), (x393008_4), (x393009_4), (x393010_4), (x393011_4), (by first | rfl | (simp; done) | (simp [*]; done)), H', ⟨by have := HJ4.out; first | omega | exact Nat.le_refl _⟩, ⟨(zR HO_10.out)⟩, ⟨(zK BK392.out)⟩, ⟨(zK BK393.out)⟩, ⟨zH2 HB GE392 GE393⟩⟩
 }
 )
 case rest => (
 clear HC15
 try clear c2
 try clear c3
 try clear c14
 obtain ⟨kq, x33_14, x393000_14, x393001_14, x393002_14, x393003_14, x393004_14, x393005_14, x393006_14, x393007_14, x393008_14, x393009_14, x393010_14, x393011_14, rfl, HA, HJ14, HO_10, BK392, BK393, HB⟩ := hcut
 cases kq with
 | zero => exact absurd HA.out (by simp [spec_SlacksOf.j1])
 | succ kj14 => (
 have H := HA.out
 clear HA
 simp only [spec_SlacksOf.j1] at H
 by_cases c19 : x33_14 = true
 {
 subst c19
 rw [if_pos rfl] at H
 simp only [Option.some.injEq, Prod.mk.injEq] at H
 obtain ⟨rfl, rfl⟩ := H
 go_wp2
 go_ret2
 exact ⟨_, by first | rfl | (simp [errW_none, errW_some] <;> rfl) | (simp [*, errW_none, errW_some] <;> rfl), by (with_reducible repeat (first | apply Kd.R_alloc | apply Kd.R_drewN | apply Kd.R_drew)); exact HO_10.out, zH2 HB GE392 GE393⟩
 }
 {
 replace c19 := Bool.eq_false_iff.mpr c19
 subst c19
 rw [if_neg (show ¬ (false = true) by decide)] at H
 replace H := Option.bind_eq_some_iff.mp H
 obtain ⟨t400, A200, H⟩ := H
 have A20 := ak A200
 clear A200
 have H' := ak H
 clear H
 go_wp2_with (first | ((with_reducible refine gate_callee (f := 70) rfl ?_); refine goesL_ (some 36) rfl rfl Try.func70 (by kernel_rfl) rfl #[.pointer (some ⟨gb393, 0, none⟩), .slice A2 l2.length c2] rfl gl_ ?_; (with_reducible refine (spec_l03Gaps.calls kj14 gb393 x394000_4 A1_1 c1_1 l1_1 _ _ l2 t400 _ ?side1 ?side2 ?side3 ?side4 ?side5 A20.out).mono ?_); (case side1 => exact sQ (Kd.C_below HR1_1.out HB.out)); (case side2 => exact HC1_1.out); (case side3 => exact sQ (Kd.C_below HR2.out HB.out)); (case side4 => exact HC2.out); (case side5 => exact (zK BK393.out)); rintro e w21 ⟨v401, rfl, ho0, hb⟩; refine ⟨_, rfl, ?_⟩; have HO402 := ak (Kd.R_lower (Kd.R_new' ho0 (Kd.R_lt (zR HO_10.out))) (below_size (zH2 HB GE392 GE393))); replace HO_10 := kE HO_10 ho0 hb; replace BK392 := kK BK392 hb; replace BK393 := kK BK393 hb; replace HB := kB2 HB GE392 GE393 hb; (try clear hb); (try clear ho0)))
 go_loopg [10, 12] kj14 (fun kq v10 v12 w' => ∃ (x10_3 : List Int) (x12_3 : Int), v12 = .int .i64 x12_3 ∧ Aside0 (spec_SlacksOf.l0 kq l3 x10_3 t400 x12_3 x393000_14 x393001_14 x393002_14 x393003_14 x393004_14 x393005_14 x393006_14 x393007_14 x393008_14 x393009_14 x393010_14 x393011_14 = some (r1, r2)) ∧ Aside0 (kq ≤ kj14) ∧ Aside0 (Kd.R (Kd.int .i64) 2 w' w.heap.size (fun k_ => some k_ ≠ (v401 : Value).ownBlock) v10 x10_3) ∧ Aside0 (Kd.R (Kd.int .i64) 2 w' w.heap.size (fun k_ => some k_ ≠ (v10 : Value).ownBlock) v401 t400) ∧ Aside0 (w'.heap[gb392]? = some (.cells #[.int .i8 x393000_14, .int .i8 x393001_14, .int .u16 x393002_14, .int .u16 x393003_14, .int .u16 x393004_14, .int .u16 x393005_14, .int .u16 x393006_14, .int .u16 x393007_14, .int .u16 x393008_14, .int .u16 x393009_14, .int .u16 x393010_14, .int .u16 x393011_14] 35 (0, 0))) ∧ Aside0 (w'.heap[gb393]? = some (.cells #[.int .i16 x394000_4, (.slice A1_1 l1_1.length c1_1)] 32 (0, 0))) ∧ Aside0 (Below w.heap.size w w'))
 case atStart => exact ⟨(y394), (1), (by first | rfl | (simp; done) | (simp [*]; done)), H', ⟨Nat.le_refl _⟩, ⟨by (with_reducible repeat (first | apply Kd.R_alloc | apply Kd.R_drewN | apply Kd.R_drew)); exact Kd.R_mono HO_10.out (fun _ hk => hk.2)⟩, ⟨by (with_reducible repeat (first | apply Kd.R_alloc | apply Kd.R_drewN | apply Kd.R_drew)); exact Kd.R_mono HO402.out (fun _ hk => hk.2)⟩, ⟨(zK BK392.out)⟩, ⟨(zK BK393.out)⟩, ⟨zH2 HB GE392 GE393⟩⟩
 case round => (
 clear H'
 try clear c2
 try clear c3
 try clear c14
 try clear c19
 obtain ⟨x10_3, x12_3, rfl, HA, HK3, HO_10, HO_11, BK392, BK393, HB⟩ := hrel
 cases gk with
 | zero => exact absurd HA.out (by simp [spec_SlacksOf.l0])
 | succ k3 => (
 have H := HA.out
 clear HA
 simp only [spec_SlacksOf.l0] at H
 by_cases c22 : x12_3 < (l3.length : Int)
 {
 rw [if_pos c22] at H
 have c22b0 : decide (x12_3 < (l3.length : Int)) = true := decide_eq_true c22
 clear c22
 obtain ⟨ji23, hji23⟩ : ∃ j_ : Int, (wrap64 (x12_3 - 1)) = j_ := ⟨_, rfl⟩
 first | rw [hji23] at H | simp only [hji23] at H
 have hji23w : (IntKind.i64.wrap (x12_3 - 1)) = ji23 := (i64_w _).trans hji23
 by_cases c24 : 0 ≤ (ji23)
 {
 rw [if_pos c24] at H
 have c24b0 : decide (0 ≤ (ji23)) = true := decide_eq_true c24
 clear c24
 by_cases c25 : (ji23) < (l3.length : Int)
 {
 rw [if_pos c25] at H
 have c25b0 : decide ((ji23) < (l3.length : Int)) = true := decide_eq_true c25
 clear c25
 by_cases c26 : 0 ≤ x12_3
 {
 rw [if_pos c26] at H
 have c26b0 : decide (0 ≤ x12_3) = true := decide_eq_true c26
 clear c26
 replace H := Option.bind_eq_some_iff.mp H
 obtain ⟨⟨t405, t406⟩, A270, H⟩ := H
 have A27 := ak A270
 clear A270
 by_cases c28 : t406 = 0
 {
 rw [if_pos c28] at H
 have c28b0 : (t406 == 0) = true := beq_iff_eq.mpr c28
 have c28b1 : (t406 != 0) = false := bne_eq_false_iff_eq.mpr c28
 clear c28
 by_cases c29 : (ji23) < (t400.length : Int)
 {
 rw [if_pos c29] at H
 have c29b0 : decide ((ji23) < (t400.length : Int)) = true := decide_eq_true c29
 clear c29
 by_cases c30 : x10_3.length < 17592186044416
 {
 rw [if_pos c30] at H
 have LMc30 := ak c30
 clear c30
 obtain ⟨y408, hy408⟩ : ∃ y_ : List Int, y_ = (x10_3 ++ [wrap64 ((rd t400 (ji23)) - t405)]) := ⟨_, rfl⟩
 replace H : (spec_SlacksOf.l0 k3 l3 y408 t400 (wrap64 (x12_3 + 1)) x393000_14 x393001_14 x393002_14 x393003_14 x393004_14 x393005_14 x393006_14 x393007_14 x393008_14 x393009_14 x393010_14 x393011_14) = some (r1, r2) := by first | (rw [hy408]; with_reducible exact H) | (have H2_ := (Option.bind_some _ _).symm.trans H; rw [hy408]; with_reducible exact H2_) | (have H2_ := (Option.bind_some _ _).symm.trans H; with_reducible exact H2_) | with_reducible exact H | (rw [hy408]; exact H) | exact H
 have Ny408 := ak hy408
 clear hy408
 have H' := ak H
 clear H
 try go_wp2
 replace HO_10 := ak (Kd.R_drew HO_10.out)
 replace HO_11 := ak (Kd.R_drew HO_11.out)
 replace BK392 := ak (blk_drew BK392.out)
 replace BK393 := ak (blk_drew BK393.out)
 replace HB := ak (below_drew1 HB.out)
 have p403 : 0 ≤ ((ji23) : Int) := of_decide_eq_true (by first | (with_reducible assumption) | assumption)
 have q403 : (ji23) < (l3.length : Int) := of_decide_eq_true (by first | (with_reducible assumption) | assumption)
 obtain ⟨ad403, e403, hx403_0, hx403_1⟩ := at_T62 HR3.out (ji23) p403 q403
 have hw403_1 := hx403_1
 have hw403_0 := hx403_0
 cases e403
 replace hx403_0 := (HB.out.cell (World.block_lt_of_cell? w _ hx403_0)).trans hx403_0
 replace hx403_1 := (HB.out.cell (World.block_lt_of_cell? w _ hx403_1)).trans hx403_1
 replace p403 := eq_true p403
 replace q403 := eq_true q403
 have p404 : 0 ≤ (x12_3 : Int) := of_decide_eq_true (by first | (with_reducible assumption) | assumption)
 have q404 : x12_3 < (l3.length : Int) := of_decide_eq_true (by first | (with_reducible assumption) | assumption)
 obtain ⟨ad404, e404, hx404_0, hx404_1⟩ := at_T62 HR3.out x12_3 p404 q404
 have hw404_1 := hx404_1
 have hw404_0 := hx404_0
 obtain rfl : ad403 = ad404 := (by injection e404)
 replace hx404_0 := (HB.out.cell (World.block_lt_of_cell? w _ hx404_0)).trans hx404_0
 replace hx404_1 := (HB.out.cell (World.block_lt_of_cell? w _ hx404_1)).trans hx404_1
 replace p404 := eq_true p404
 replace q404 := eq_true q404
 refine start_ (n := 16) (S := fun w' => w'.cell? ⟨gb392, 0, none⟩ = some (.int .i8 x393000_14) ∧ w'.cell? ⟨gb392, 1, none⟩ = some (.int .i8 x393001_14) ∧ w'.cell? ⟨gb392, 2, none⟩ = some (.int .u16 x393002_14) ∧ w'.cell? ⟨gb392, 3, none⟩ = some (.int .u16 x393003_14) ∧ w'.cell? ⟨gb392, 4, none⟩ = some (.int .u16 x393004_14) ∧ w'.cell? ⟨gb392, 5, none⟩ = some (.int .u16 x393005_14) ∧ w'.cell? ⟨gb392, 6, none⟩ = some (.int .u16 x393006_14) ∧ w'.cell? ⟨gb392, 7, none⟩ = some (.int .u16 x393007_14) ∧ w'.cell? ⟨gb392, 8, none⟩ = some (.int .u16 x393008_14) ∧ w'.cell? ⟨gb392, 9, none⟩ = some (.int .u16 x393009_14) ∧ w'.cell? ⟨gb392, 10, none⟩ = some (.int .u16 x393010_14) ∧ w'.cell? ⟨gb392, 11, none⟩ = some (.int .u16 x393011_14) ∧ w'.cell? (ad403.add (((ji23)).toNat * 2)) = some (.int .i8 ((rd_T62 l3 (ji23)).f0)) ∧ w'.cell? ⟨(ad403.add (((ji23)).toNat * 2)).block, (ad403.add (((ji23)).toNat * 2)).off + 1, none⟩ = some (.int .i8 ((rd_T62 l3 (ji23)).f1)) ∧ w'.cell? (ad403.add ((x12_3).toNat * 2)) = some (.int .i8 ((rd_T62 l3 x12_3).f0)) ∧ w'.cell? ⟨(ad403.add ((x12_3).toNat * 2)).block, (ad403.add ((x12_3).toNat * 2)).off + 1, none⟩ = some (.int .i8 ((rd_T62 l3 x12_3).f1))) (ds := []) (bA 16 0) (by kernel_rfl) rfl rfl ⟨(blk_cell BK392.out 0).trans rfl, (blk_cell BK392.out 1).trans rfl, (blk_cell BK392.out 2).trans rfl, (blk_cell BK392.out 3).trans rfl, (blk_cell BK392.out 4).trans rfl, (blk_cell BK392.out 5).trans rfl, (blk_cell BK392.out 6).trans rfl, (blk_cell BK392.out 7).trans rfl, (blk_cell BK392.out 8).trans rfl, (blk_cell BK392.out 9).trans rfl, (blk_cell BK392.out 10).trans rfl, (blk_cell BK392.out 11).trans rfl, ((HB.out.cell (World.block_lt_of_cell? w _ hw403_0)).trans hw403_0), ((HB.out.cell (World.block_lt_of_cell? w _ hw403_1)).trans hw403_1), ((HB.out.cell (World.block_lt_of_cell? w _ hw404_0)).trans hw404_0), ((HB.out.cell (World.block_lt_of_cell? w _ hw404_1)).trans hw404_1)⟩ (fun hHeld => ?_); refine with_tabW spec_SlacksOf.tab10 spec_SlacksOf.bits10 (fun HT_ HW_ => ?_)
 generalize wr.drew = w31 at HO_10 HO_11 BK392 BK393 HB hx403_0 hx403_1 hx404_0 hx404_1 hHeld ⊢
 refine pU 1 45 (bA 16 2) HT_ ?_
 refine pU 2 46 (bA 16 6) HT_ ?_
 refine pU 3 47 (bA 16 14) HT_ ?_
 refine pU 4 48 (bA 16 30) HT_ ?_
 refine pU 6 50 (bA 16 94) HT_ ?_
 refine pU 7 51 (bA 16 222) HT_ ?_
 refine pU 8 52 (bA 16 478) HT_ ?_
 refine tK 0 44 (bA 16 479) HT_ HW_ hHeld ?_
 refine tK 5 49 (bA 16 511) HT_ HW_ hHeld ?_
 refine tK 9 53 (bA 16 1023) HT_ HW_ hHeld ?_
 refine one_ (i := 10) (N := some 54) (bA 16 2047) rfl rfl (one_of HT_.out (by kernel_rfl)) (by decide) (fun K hK => ?_)
 refine goes_ Try.func42 (by kernel_rfl) rfl #[.agg #[.int .i8 x393000_14, .int .i8 x393001_14, .int .u16 x393002_14, .int .u16 x393003_14, .int .u16 x393004_14, .int .u16 x393005_14, .int .u16 x393006_14, .int .u16 x393007_14, .int .u16 x393008_14, .int .u16 x393009_14, .int .u16 x393010_14, .int .u16 x393011_14], .agg #[.int .i8 ((rd_T62 l3 (ji23)).f0), .int .i8 ((rd_T62 l3 (ji23)).f1)], .agg #[.int .i8 ((rd_T62 l3 x12_3).f0), .int .i8 ((rd_T62 l3 x12_3).f1)]] (by rfl) rfl rfl (by (try simp only [List.map_toArray, List.map_cons, List.map_nil]); first | done | (simp only [hji23]; rfl) | rfl | (simp only [List.length_drop, List.length_take]; rfl)) ?_
 with_reducible refine (spec_StepsBetween.calls k3 x393000_14 x393001_14 x393002_14 x393003_14 x393004_14 x393005_14 x393006_14 x393007_14 x393008_14 x393009_14 x393010_14 x393011_14 ((rd_T62 l3 (ji23)).f0) ((rd_T62 l3 (ji23)).f1) ((rd_T62 l3 x12_3).f0) ((rd_T62 l3 x12_3).f1) t405 t406 _ A27.out).mono ?_
 rintro e w32 ⟨rfl, hb⟩
 refine ⟨_, rfl, ?_⟩
 replace HO_10 := kR HO_10 hb
 replace HO_11 := kR HO_11 hb
 replace BK392 := kK BK392 hb
 replace BK393 := kK BK393 hb
 replace HB := kB2 HB GE392 GE393 hb
 (try clear hb)
 refine hK.out _ _ ⟨(blk_cell BK392.out 0).trans rfl, (blk_cell BK392.out 1).trans rfl, (blk_cell BK392.out 2).trans rfl, (blk_cell BK392.out 3).trans rfl, (blk_cell BK392.out 4).trans rfl, (blk_cell BK392.out 5).trans rfl, (blk_cell BK392.out 6).trans rfl, (blk_cell BK392.out 7).trans rfl, (blk_cell BK392.out 8).trans rfl, (blk_cell BK392.out 9).trans rfl, (blk_cell BK392.out 10).trans rfl, (blk_cell BK392.out 11).trans rfl, ((HB.out.cell (World.block_lt_of_cell? w _ hw403_0)).trans hw403_0), ((HB.out.cell (World.block_lt_of_cell? w _ hw403_1)).trans hw403_1), ((HB.out.cell (World.block_lt_of_cell? w _ hw404_0)).trans hw404_0), ((HB.out.cell (World.block_lt_of_cell? w _ hw404_1)).trans hw404_1)⟩ (fun hHeld => ?_)
 clear hK K
 refine norm_ (a' := ?_) ?_ ?_
 rotate_left
 {
 show Act.put _ (some 54) _ = _
 simp only [Act.put, zs, zz, zk, i64_w, i32_w]
 rfl
 }
 refine pU 11 43 (bA 16 4095) HT_ ?_
 refine pU 12 55 (bA 16 8191) HT_ ?_
 refine pU 13 56 (bA 16 16383) HT_ ?_
 refine pU 14 13 (bA 16 32767) HT_ ?_
 refine pU 15 14 (bA 16 65535) HT_ ?_
 refine done_ (done_of HT_.out (by kernel_rfl)) ?_
 obtain ⟨Ao33, co33, eo33⟩ := Kd.R_slice HO_11.out
 subst eo33
 have p407 : 0 ≤ ((ji23) : Int) := of_decide_eq_true (by first | (with_reducible assumption) | assumption)
 have q407 : (ji23) < (t400.length : Int) := of_decide_eq_true (by first | (with_reducible assumption) | assumption)
 obtain ⟨ad407, e407, hx407_0⟩ := Kd.at_int (Kd.R_reads' HO_11.out).2.2 (ji23) p407 q407
 cases e407
 replace p407 := eq_true p407
 replace q407 := eq_true q407
 try go_wp2_with (first | ((with_reducible refine gate_builtin (b := .append) (xs := #[.tmp 61, .tmp 69]) rfl ?_); at_builtin; refine Kd.R_append (Kd.int .i64) (w0 := w) w.heap.size rfl (.tmp 61) (.tmp 69) 66 2 (.int .i64 0) 8 rfl Try.underlying66 info2 rfl (by decide) (by omega) u10 x10_3 (wrap64 ((rd t400 (ji23)) - t405)) [.int .i64 (wrap64 ((rd t400 (ji23)) - t405))] (fun k_ => some k_ ≠ (.slice (some ad407) t400.length co33 : Value).ownBlock) (fun _ => False) rfl rfl ?aP (fun _ hk => hk.elim) ?aF ?aO ?aB ?aS ?aL ?_; (case aP => exact rfl); (case aB => exact (zH2 HB GE392 GE393)); (case aF => exact (fun k_ hk => Kd.fresh' (Kd.R_lt (zR HO_11.out)) k_ hk)); (case aO => exact (zR HO_10.out)); (case aS => exact (below_size (zH2 HB GE392 GE393))); (case aL => have := LMc30.out; omega); intro v409 w34 ho hb hg hat; rw [← Ny408.out] at ho; have n0_ := ak (Kd.R_after (ok := (fun _ => True)) (by (with_reducible repeat (first | apply Kd.R_alloc | apply Kd.R_drewN | apply Kd.R_drew)); exact Kd.R_mono HO_11.out (fun _ hk => ⟨trivial, by first | exact hk | exact own_len_ hk⟩)) hg hat); have n1_ := ak (blk_grown (g := gb392) (o := .cells #[.int .i8 x393000_14, .int .i8 x393001_14, .int .u16 x393002_14, .int .u16 x393003_14, .int .u16 x393004_14, .int .u16 x393005_14, .int .u16 x393006_14, .int .u16 x393007_14, .int .u16 x393008_14, .int .u16 x393009_14, .int .u16 x393010_14, .int .u16 x393011_14] 35 (0, 0)) (zK BK392.out) hg (Kd.R_ne HO_10.out BK392.out (by decide))); have n2_ := ak (blk_grown (g := gb393) (o := .cells #[.int .i16 x394000_4, .slice A1_1 l1_1.length c1_1] 32 (0, 0)) (zK BK393.out) hg (Kd.R_ne HO_10.out BK393.out (by decide))); have n3_ := ak (hb); have n4_ := ak (ho); clear HO_11 BK392 BK393 HB HO_10; have HO_11 := n0_; have BK392 := n1_; have BK393 := n2_; have HB := n3_; have HO410 := n4_; clear n0_ n1_ n2_ n3_ n4_; clear ho hb hg hat))
 go_roundg k3
 case measure => have := HJ4.out; have := HJ14.out; have := HK3.out; omega
 case rel => exact ⟨(y408), (wrap64 (x12_3 + 1)), (by first | rfl | (simp; done) | (simp [*]; done)), H', ⟨by have := HJ4.out; have := HJ14.out; have := HK3.out; omega⟩, ⟨(zR HO410.out)⟩, ⟨by (with_reducible repeat (first | apply Kd.R_alloc | apply Kd.R_drewN | apply Kd.R_drew)); exact Kd.R_mono HO_11.out (fun _ hk => hk.2)⟩, ⟨(zK BK392.out)⟩, ⟨(zK BK393.out)⟩, ⟨zH2 HB GE392 GE393⟩⟩
 }
 · rw [if_neg c30] at H; exact absurd H (by simp)
 }
 · rw [if_neg c29] at H; exact absurd H (by simp)
 }
 {
 rw [if_neg c28] at H
 have c28b0 : (t406 == 0) = false := beq_eq_false_iff_ne.mpr c28
 have c28b1 : (t406 != 0) = true := bne_iff_ne.mpr c28
 obtain ⟨y411, hy411⟩ : ∃ y_ : List Int, y_ = (([] : List Int)) := ⟨_, rfl⟩
 replace H : (some (y411, t406)) = some (r1, r2) := by first | (rw [hy411]; with_reducible exact H) | (have H2_ := (Option.bind_some _ _).symm.trans H; rw [hy411]; with_reducible exact H2_) | (have H2_ := (Option.bind_some _ _).symm.trans H; with_reducible exact H2_) | with_reducible exact H | (rw [hy411]; exact H) | exact H
 have Ny411 := ak hy411
 clear hy411
 simp only [Option.some.injEq, Prod.mk.injEq] at H
 obtain ⟨rfl, rfl⟩ := H
 try go_wp2
 replace HO_10 := ak (Kd.R_drew HO_10.out)
 replace HO_11 := ak (Kd.R_drew HO_11.out)
 replace BK392 := ak (blk_drew BK392.out)
 replace BK393 := ak (blk_drew BK393.out)
 replace HB := ak (below_drew1 HB.out)
 have p403 : 0 ≤ ((ji23) : Int) := of_decide_eq_true (by first | (with_reducible assumption) | assumption)
 have q403 : (ji23) < (l3.length : Int) := of_decide_eq_true (by first | (with_reducible assumption) | assumption)
 obtain ⟨ad403, e403, hx403_0, hx403_1⟩ := at_T62 HR3.out (ji23) p403 q403
 have hw403_1 := hx403_1
 have hw403_0 := hx403_0
 cases e403
 replace hx403_0 := (HB.out.cell (World.block_lt_of_cell? w _ hx403_0)).trans hx403_0
 replace hx403_1 := (HB.out.cell (World.block_lt_of_cell? w _ hx403_1)).trans hx403_1
 replace p403 := eq_true p403
 replace q403 := eq_true q403
 have p404 : 0 ≤ (x12_3 : Int) := of_decide_eq_true (by first | (with_reducible assumption) | assumption)
 have q404 : x12_3 < (l3.length : Int) := of_decide_eq_true (by first | (with_reducible assumption) | assumption)
 obtain ⟨ad404, e404, hx404_0, hx404_1⟩ := at_T62 HR3.out x12_3 p404 q404
 have hw404_1 := hx404_1
 have hw404_0 := hx404_0
 obtain rfl : ad403 = ad404 := (by injection e404)
 replace hx404_0 := (HB.out.cell (World.block_lt_of_cell? w _ hx404_0)).trans hx404_0
 replace hx404_1 := (HB.out.cell (World.block_lt_of_cell? w _ hx404_1)).trans hx404_1
 replace p404 := eq_true p404
 replace q404 := eq_true q404
 refine start_ (n := 16) (S := fun w' => w'.cell? ⟨gb392, 0, none⟩ = some (.int .i8 x393000_14) ∧ w'.cell? ⟨gb392, 1, none⟩ = some (.int .i8 x393001_14) ∧ w'.cell? ⟨gb392, 2, none⟩ = some (.int .u16 x393002_14) ∧ w'.cell? ⟨gb392, 3, none⟩ = some (.int .u16 x393003_14) ∧ w'.cell? ⟨gb392, 4, none⟩ = some (.int .u16 x393004_14) ∧ w'.cell? ⟨gb392, 5, none⟩ = some (.int .u16 x393005_14) ∧ w'.cell? ⟨gb392, 6, none⟩ = some (.int .u16 x393006_14) ∧ w'.cell? ⟨gb392, 7, none⟩ = some (.int .u16 x393007_14) ∧ w'.cell? ⟨gb392, 8, none⟩ = some (.int .u16 x393008_14) ∧ w'.cell? ⟨gb392, 9, none⟩ = some (.int .u16 x393009_14) ∧ w'.cell? ⟨gb392, 10, none⟩ = some (.int .u16 x393010_14) ∧ w'.cell? ⟨gb392, 11, none⟩ = some (.int .u16 x393011_14) ∧ w'.cell? (ad403.add (((ji23)).toNat * 2)) = some (.int .i8 ((rd_T62 l3 (ji23)).f0)) ∧ w'.cell? ⟨(ad403.add (((ji23)).toNat * 2)).block, (ad403.add (((ji23)).toNat * 2)).off + 1, none⟩ = some (.int .i8 ((rd_T62 l3 (ji23)).f1)) ∧ w'.cell? (ad403.add ((x12_3).toNat * 2)) = some (.int .i8 ((rd_T62 l3 x12_3).f0)) ∧ w'.cell? ⟨(ad403.add ((x12_3).toNat * 2)).block, (ad403.add ((x12_3).toNat * 2)).off + 1, none⟩ = some (.int .i8 ((rd_T62 l3 x12_3).f1))) (ds := []) (bA 16 0) (by kernel_rfl) rfl rfl ⟨(blk_cell BK392.out 0).trans rfl, (blk_cell BK392.out 1).trans rfl, (blk_cell BK392.out 2).trans rfl, (blk_cell BK392.out 3).trans rfl, (blk_cell BK392.out 4).trans rfl, (blk_cell BK392.out 5).trans rfl, (blk_cell BK392.out 6).trans rfl, (blk_cell BK392.out 7).trans rfl, (blk_cell BK392.out 8).trans rfl, (blk_cell BK392.out 9).trans rfl, (blk_cell BK392.out 10).trans rfl, (blk_cell BK392.out 11).trans rfl, ((HB.out.cell (World.block_lt_of_cell? w _ hw403_0)).trans hw403_0), ((HB.out.cell (World.block_lt_of_cell? w _ hw403_1)).trans hw403_1), ((HB.out.cell (World.block_lt_of_cell? w _ hw404_0)).trans hw404_0), ((HB.out.cell (World.block_lt_of_cell? w _ hw404_1)).trans hw404_1)⟩ (fun hHeld => ?_); refine with_tabW spec_SlacksOf.tab10 spec_SlacksOf.bits10 (fun HT_ HW_ => ?_)
 generalize wr.drew = w35 at HO_10 HO_11 BK392 BK393 HB hx403_0 hx403_1 hx404_0 hx404_1 hHeld ⊢
 refine pU 1 45 (bA 16 2) HT_ ?_
 refine pU 2 46 (bA 16 6) HT_ ?_
 refine pU 3 47 (bA 16 14) HT_ ?_
 refine pU 4 48 (bA 16 30) HT_ ?_
 refine pU 6 50 (bA 16 94) HT_ ?_
 refine pU 7 51 (bA 16 222) HT_ ?_
 refine pU 8 52 (bA 16 478) HT_ ?_
 refine tK 0 44 (bA 16 479) HT_ HW_ hHeld ?_
 refine tK 5 49 (bA 16 511) HT_ HW_ hHeld ?_
 refine tK 9 53 (bA 16 1023) HT_ HW_ hHeld ?_
 refine one_ (i := 10) (N := some 54) (bA 16 2047) rfl rfl (one_of HT_.out (by kernel_rfl)) (by decide) (fun K hK => ?_)
 refine goes_ Try.func42 (by kernel_rfl) rfl #[.agg #[.int .i8 x393000_14, .int .i8 x393001_14, .int .u16 x393002_14, .int .u16 x393003_14, .int .u16 x393004_14, .int .u16 x393005_14, .int .u16 x393006_14, .int .u16 x393007_14, .int .u16 x393008_14, .int .u16 x393009_14, .int .u16 x393010_14, .int .u16 x393011_14], .agg #[.int .i8 ((rd_T62 l3 (ji23)).f0), .int .i8 ((rd_T62 l3 (ji23)).f1)], .agg #[.int .i8 ((rd_T62 l3 x12_3).f0), .int .i8 ((rd_T62 l3 x12_3).f1)]] (by rfl) rfl rfl (by (try simp only [List.map_toArray, List.map_cons, List.map_nil]); first | done | (simp only [hji23]; rfl) | rfl | (simp only [List.length_drop, List.length_take]; rfl)) ?_
 with_reducible refine (spec_StepsBetween.calls k3 x393000_14 x393001_14 x393002_14 x393003_14 x393004_14 x393005_14 x393006_14 x393007_14 x393008_14 x393009_14 x393010_14 x393011_14 ((rd_T62 l3 (ji23)).f0) ((rd_T62 l3 (ji23)).f1) ((rd_T62 l3 x12_3).f0) ((rd_T62 l3 x12_3).f1) t405 t406 _ A27.out).mono ?_
 rintro e w36 ⟨rfl, hb⟩
 refine ⟨_, rfl, ?_⟩
 replace HO_10 := kR HO_10 hb
 replace HO_11 := kR HO_11 hb
 replace BK392 := kK BK392 hb
 replace BK393 := kK BK393 hb
 replace HB := kB2 HB GE392 GE393 hb
 (try clear hb)
 refine hK.out _ _ ⟨(blk_cell BK392.out 0).trans rfl, (blk_cell BK392.out 1).trans rfl, (blk_cell BK392.out 2).trans rfl, (blk_cell BK392.out 3).trans rfl, (blk_cell BK392.out 4).trans rfl, (blk_cell BK392.out 5).trans rfl, (blk_cell BK392.out 6).trans rfl, (blk_cell BK392.out 7).trans rfl, (blk_cell BK392.out 8).trans rfl, (blk_cell BK392.out 9).trans rfl, (blk_cell BK392.out 10).trans rfl, (blk_cell BK392.out 11).trans rfl, ((HB.out.cell (World.block_lt_of_cell? w _ hw403_0)).trans hw403_0), ((HB.out.cell (World.block_lt_of_cell? w _ hw403_1)).trans hw403_1), ((HB.out.cell (World.block_lt_of_cell? w _ hw404_0)).trans hw404_0), ((HB.out.cell (World.block_lt_of_cell? w _ hw404_1)).trans hw404_1)⟩ (fun hHeld => ?_)
 clear hK K
 refine norm_ (a' := ?_) ?_ ?_
 rotate_left
 {
 show Act.put _ (some 54) _ = _
 simp only [Act.put, zs, zz, zk, i64_w, i32_w]
 rfl
 }
 refine pU 11 43 (bA 16 4095) HT_ ?_
 refine pU 12 55 (bA 16 8191) HT_ ?_
 refine pU 13 56 (bA 16 16383) HT_ ?_
 refine pU 14 13 (bA 16 32767) HT_ ?_
 refine pU 15 14 (bA 16 65535) HT_ ?_
 refine done_ (done_of HT_.out (by kernel_rfl)) ?_
 try go_wp2_with (first | ((with_reducible refine gate_dst (N := 59) rfl ?_); refine Kd.R_lit (Kd.int .i64) _ 2 ?hg (N := 59) ?hd (xs := ([] : List Int)) (inner := []) (ok := fun _ => True) (okp := fun _ => True) ?hr ?hp (fun _ hk => hk) trivial (Below.refl _ _) (Nat.le_refl _) (by simp) ?_; (case hd => rfl); (case hg => rfl); (case hr => first | (go_simp; done) | (go_simp; rfl)); (case hp => exact (Reps.none _ _)); intro v412 w37 ho38 hb hg_ hnew_; clear hg_ hnew_; (first | rw [← Ny411.out] at ho38 | (simp only [Int.reduceToNat] at ho38; rw [← Ny411.out] at ho38)); have n0_ := ak (Kd.R_elder' (zR HO_10.out) (Kd.R_base ho38) hb); have n1_ := ak (Kd.R_elder' (zR HO_11.out) (Kd.R_base ho38) hb); have n2_ := ak (Kd.R_lower (Kd.R_new' (Kd.R_new' ho38 (Kd.R_lt (zR HO_10.out))) (Kd.R_lt (zR HO_11.out))) (below_size (zH2 HB GE392 GE393))); have n3_ := ak (blk_below (g := gb392) (o := .cells #[.int .i8 x393000_14, .int .i8 x393001_14, .int .u16 x393002_14, .int .u16 x393003_14, .int .u16 x393004_14, .int .u16 x393005_14, .int .u16 x393006_14, .int .u16 x393007_14, .int .u16 x393008_14, .int .u16 x393009_14, .int .u16 x393010_14, .int .u16 x393011_14] 35 (0, 0)) (zK BK392.out) hb); have n4_ := ak (blk_below (g := gb393) (o := .cells #[.int .i16 x394000_4, .slice A1_1 l1_1.length c1_1] 32 (0, 0)) (zK BK393.out) hb); have n5_ := ak (below_step (zH2 HB GE392 GE393) hb); clear HO_10 HO_11 BK392 BK393 HB; have HO_10 := n0_; have HO_11 := n1_; have HO413 := n2_; have BK392 := n3_; have BK393 := n4_; have HB := n5_; clear n0_ n1_ n2_ n3_ n4_ n5_; clear hb ho38))
 go_ret2
 exact ⟨_, by first | rfl | (simp [errW_none, errW_some] <;> rfl) | (simp only [← hji23]; first | rfl | (simp [errW_none, errW_some] <;> rfl)) | (simp [*, errW_none, errW_some] <;> rfl), by (with_reducible repeat (first | apply Kd.R_alloc | apply Kd.R_drewN | apply Kd.R_drew)); exact Kd.R_mono HO413.out (fun _ hk => trivial), zH2 HB GE392 GE393⟩
 }
 }
 · rw [if_neg c26] at H; exact absurd H (by simp)
 }
 · rw [if_neg c25] at H; exact absurd H (by simp)
 }
 · rw [if_neg c24] at H; exact absurd H (by simp)
 }
 {
 rw [if_neg c22] at H
 have c22b0 : decide (x12_3 < (l3.length : Int)) = false := decide_eq_false c22
 clear c22
 simp only [Option.some.injEq, Prod.mk.injEq] at H
 obtain ⟨rfl, rfl⟩ := H
 go_wp2
 go_ret2
 exact ⟨_, by first | rfl | (simp [errW_none, errW_some] <;> rfl) | (simp [*, errW_none, errW_some] <;> rfl), by (with_reducible repeat (first | apply Kd.R_alloc | apply Kd.R_drewN | apply Kd.R_drew)); exact Kd.R_mono HO_10.out (fun _ hk => trivial), zH2 HB GE392 GE393⟩
 }
 )
 )
 }
 )
 )
 }
 )
 )
/-! ### impl_size_int16: function 65 -/
def impl_size_int16.f (l0 : List Int) : Option (Int) := some (l0.length : Int)
set_option maxHeartbeats 8000000 in
set_option maxRecDepth 100000 in
theorem impl_size_int16.calls (A0 : Option Addr) (c0 : Nat) (l0 : List Int) (r : Int) (w : World) (hr0 : Kd.C (Kd.int .i16) w A0 l0.length l0) (hc0 : l0.length ≤ c0) (h : impl_size_int16.f l0 = some r) :
    Calls Try.prog 65 #[.slice A0 l0.length c0] w fun e w' => e = .returned (.int .i64 r) ∧ Drawn0 w w' := by
 have HR0 := ak hr0
 have HC0 := ak hc0
 clear hr0 hc0
 have H := h
 unfold impl_size_int16.f at H
 clear h
 obtain rfl := Option.some.inj H
 go_enter Try.func65, Try.ntmps65
 go_wp2
 go_ret
 exact ⟨by first | rfl | (simp; done) | (simp [*]; done), by repeat (first | exact Drawn0.refl _ | apply Drawn0.step)⟩
/-! ### impl_Rope_isHold: function 95 -/
def impl_Rope_isHold.f (a0_0 : Int) (l0_1 : List Int) (a1_0 : Int) (a1_1 : Int) : Option (Bool) := (impl_within.f (wrap64 (a1_0)) 0 999).bind fun t423 => (if t423 = true then ((impl_size_int16.f l0_1).bind fun t424 => ((impl_within.f (wrap64 (a1_1)) 0 (wrap64 (t424 - 1))).bind fun t425 => (some t425))) else (some false))
set_option maxHeartbeats 8000000 in
set_option maxRecDepth 100000 in
theorem impl_Rope_isHold.calls (a0_0 : Int) (A0_1 : Option Addr) (c0_1 : Nat) (l0_1 : List Int) (a1_0 : Int) (a1_1 : Int) (r : Bool) (w : World) (hr0_1 : Kd.C (Kd.int .i16) w A0_1 l0_1.length l0_1) (hc0_1 : l0_1.length ≤ c0_1) (h : impl_Rope_isHold.f a0_0 l0_1 a1_0 a1_1 = some r) :
    Calls Try.prog 95 #[.agg #[.int .i16 a0_0, .slice A0_1 l0_1.length c0_1], .agg #[.int .i16 a1_0, .int .i8 a1_1]] w fun e w' => e = .returned (.bool r) ∧ Below w.heap.size w w' := by
 have hu32 := Try.underlying32
 have hu65 := Try.underlying65
 have HR0_1 := ak hr0_1
 have HC0_1 := ak hc0_1
 clear hr0_1 hc0_1
 have HB := ak (Below.refl w.heap.size w)
 have H := h
 unfold impl_Rope_isHold.f at H
 clear h
 replace H := Option.bind_eq_some_iff.mp H
 obtain ⟨t423, A30, H⟩ := H
 have A3 := ak A30
 clear A30
 by_cases c4 : t423 = true
 {
 subst c4
 rw [if_pos rfl] at H
 replace H := Option.bind_eq_some_iff.mp H
 obtain ⟨t424, A50, H⟩ := H
 have A5 := ak A50
 clear A50
 replace H := Option.bind_eq_some_iff.mp H
 obtain ⟨t425, A60, H⟩ := H
 have A6 := ak A60
 clear A60
 obtain rfl := Option.some.inj H
 go_enter Try.func95, Try.ntmps95
 go_wp2_with (first | ((with_reducible refine gate_dst (N := 2) rfl ?_); refine box_event ?hg (N := 2) ?hd (cs := #[.int .i16 a0_0, .slice A0_1 l0_1.length c0_1]) (t := 32) ?hr ?_; (case hd => rfl); (case hg => rfl); (case hr => first | (go_simp; done) | (go_simp; rfl)); intro gb421 hg w7 hbox hb; have BK421 := ak (hbox); have GW421 := gS HB hg; have GE421 := gS HB hg; replace HB := kB HB hb; clear hb hbox hg) | ((with_reducible refine gate_dst (N := 3) rfl ?_); refine box_event ?hg (N := 3) ?hd (cs := #[.int .i16 a1_0, .int .i8 a1_1]) (t := 65) ?hr ?_; (case hd => rfl); (case hg => rfl); (case hr => first | (go_simp; done) | (go_simp; rfl)); intro gb422 hg w8 hbox hb; have BK422 := ak (hbox); have GW422 := gS1 HB GE421 hg; have GE422 := gS1 HB GE421 hg; have NB421_422 := nL BK421 hg; have NB422_421 := nG BK421 hg; replace BK421 := kK BK421 hb; replace HB := kB1 HB GE421 hb; clear hb hbox hg; have hnb9 := NB422_421.out; have hnc9 := NB421_422.out; obtain ⟨hcz10_0, hcz10_1, hfz10_0, hfz10_1⟩ := cz2 w8 BK422) | (go_at_call 64; (with_reducible refine (impl_within.calls (wrap64 (a1_0)) 0 999 true _ A3.out).mono ?_); rintro e w' ⟨rfl, ⟨nd, rfl⟩⟩; obtain ⟨hcz11_0, hcz11_1, hfz11_0, hfz11_1⟩ := cz2 w8 BK421) | (go_at_call 65; (with_reducible refine (impl_size_int16.calls _ _ l0_1 t424 _ ?side1 ?side2 A5.out).mono ?_); (case side1 => exact sQ (Kd.C_below HR0_1.out (zH2 HB GE421 GE422))); (case side2 => exact HC0_1.out); rintro e w' ⟨rfl, ⟨nd, rfl⟩⟩) | (go_at_call 64; (with_reducible refine (impl_within.calls (wrap64 (a1_1)) 0 (wrap64 (t424 - 1)) t425 _ A6.out).mono ?_); rintro e w' ⟨rfl, ⟨nd, rfl⟩⟩))
 try (have hcz11_0 : w8.cell? ⟨gb421, 0, none⟩ = some (.int .i16 a0_0) := (blk_cell BK421.out 0).trans rfl; have hcz11_1 : w8.cell? ⟨gb421, 1, none⟩ = some (.slice A0_1 l0_1.length c0_1) := (blk_cell BK421.out 1).trans rfl; have hfz11_0 := blk_frozen BK421.out 0; have hfz11_1 := blk_frozen BK421.out 1)
 repeat (go_quiet (first | ((with_reducible refine gate_dst (N := 2) rfl ?_); refine box_event ?hg (N := 2) ?hd (cs := #[.int .i16 a0_0, .slice A0_1 l0_1.length c0_1]) (t := 32) ?hr ?_; (case hd => rfl); (case hg => rfl); (case hr => first | (go_simp; done) | (go_simp; rfl)); intro gb421 hg w7 hbox hb; have BK421 := ak (hbox); have GW421 := gS HB hg; have GE421 := gS HB hg; replace HB := kB HB hb; clear hb hbox hg) | ((with_reducible refine gate_dst (N := 3) rfl ?_); refine box_event ?hg (N := 3) ?hd (cs := #[.int .i16 a1_0, .int .i8 a1_1]) (t := 65) ?hr ?_; (case hd => rfl); (case hg => rfl); (case hr => first | (go_simp; done) | (go_simp; rfl)); intro gb422 hg w8 hbox hb; have BK422 := ak (hbox); have GW422 := gS1 HB GE421 hg; have GE422 := gS1 HB GE421 hg; have NB421_422 := nL BK421 hg; have NB422_421 := nG BK421 hg; replace BK421 := kK BK421 hb; replace HB := kB1 HB GE421 hb; clear hb hbox hg; have hnb9 := NB422_421.out; have hnc9 := NB421_422.out; obtain ⟨hcz10_0, hcz10_1, hfz10_0, hfz10_1⟩ := cz2 w8 BK422) | (go_at_call 64; (with_reducible refine (impl_within.calls (wrap64 (a1_0)) 0 999 true _ A3.out).mono ?_); rintro e w' ⟨rfl, ⟨nd, rfl⟩⟩; (try first | exact ⟨rfl, _, World.drewN_drewN _ _ _⟩ | exact ⟨rfl, _, Eq.trans (World.drewN_drewN _ _ _) (congrArg (World.drewN _) (Nat.add_assoc _ _ _))⟩); try (have hcz11_0 : w8.cell? ⟨gb421, 0, none⟩ = some (.int .i16 a0_0) := (blk_cell BK421.out 0).trans rfl; have hcz11_1 : w8.cell? ⟨gb421, 1, none⟩ = some (.slice A0_1 l0_1.length c0_1) := (blk_cell BK421.out 1).trans rfl; have hfz11_0 := blk_frozen BK421.out 0; have hfz11_1 := blk_frozen BK421.out 1)) | (go_at_call 65; (with_reducible refine (impl_size_int16.calls _ _ l0_1 t424 _ ?side1 ?side2 A5.out).mono ?_); (case side1 => exact sQ (Kd.C_below HR0_1.out (zH2 HB GE421 GE422))); (case side2 => exact HC0_1.out); rintro e w' ⟨rfl, ⟨nd, rfl⟩⟩; (try first | exact ⟨rfl, _, World.drewN_drewN _ _ _⟩ | exact ⟨rfl, _, Eq.trans (World.drewN_drewN _ _ _) (congrArg (World.drewN _) (Nat.add_assoc _ _ _))⟩)) | (go_at_call 64; (with_reducible refine (impl_within.calls (wrap64 (a1_1)) 0 (wrap64 (t424 - 1)) t425 _ A6.out).mono ?_); rintro e w' ⟨rfl, ⟨nd, rfl⟩⟩; (try first | exact ⟨rfl, _, World.drewN_drewN _ _ _⟩ | exact ⟨rfl, _, Eq.trans (World.drewN_drewN _ _ _) (congrArg (World.drewN _) (Nat.add_assoc _ _ _))⟩))); try go_wp2_with (first | ((with_reducible refine gate_dst (N := 2) rfl ?_); refine box_event ?hg (N := 2) ?hd (cs := #[.int .i16 a0_0, .slice A0_1 l0_1.length c0_1]) (t := 32) ?hr ?_; (case hd => rfl); (case hg => rfl); (case hr => first | (go_simp; done) | (go_simp; rfl)); intro gb421 hg w7 hbox hb; have BK421 := ak (hbox); have GW421 := gS HB hg; have GE421 := gS HB hg; replace HB := kB HB hb; clear hb hbox hg) | ((with_reducible refine gate_dst (N := 3) rfl ?_); refine box_event ?hg (N := 3) ?hd (cs := #[.int .i16 a1_0, .int .i8 a1_1]) (t := 65) ?hr ?_; (case hd => rfl); (case hg => rfl); (case hr => first | (go_simp; done) | (go_simp; rfl)); intro gb422 hg w8 hbox hb; have BK422 := ak (hbox); have GW422 := gS1 HB GE421 hg; have GE422 := gS1 HB GE421 hg; have NB421_422 := nL BK421 hg; have NB422_421 := nG BK421 hg; replace BK421 := kK BK421 hb; replace HB := kB1 HB GE421 hb; clear hb hbox hg; have hnb9 := NB422_421.out; have hnc9 := NB421_422.out; obtain ⟨hcz10_0, hcz10_1, hfz10_0, hfz10_1⟩ := cz2 w8 BK422) | (go_at_call 64; (with_reducible refine (impl_within.calls (wrap64 (a1_0)) 0 999 true _ A3.out).mono ?_); rintro e w' ⟨rfl, ⟨nd, rfl⟩⟩; (try first | exact ⟨rfl, _, World.drewN_drewN _ _ _⟩ | exact ⟨rfl, _, Eq.trans (World.drewN_drewN _ _ _) (congrArg (World.drewN _) (Nat.add_assoc _ _ _))⟩); try (have hcz11_0 : w8.cell? ⟨gb421, 0, none⟩ = some (.int .i16 a0_0) := (blk_cell BK421.out 0).trans rfl; have hcz11_1 : w8.cell? ⟨gb421, 1, none⟩ = some (.slice A0_1 l0_1.length c0_1) := (blk_cell BK421.out 1).trans rfl; have hfz11_0 := blk_frozen BK421.out 0; have hfz11_1 := blk_frozen BK421.out 1)) | (go_at_call 65; (with_reducible refine (impl_size_int16.calls _ _ l0_1 t424 _ ?side1 ?side2 A5.out).mono ?_); (case side1 => exact sQ (Kd.C_below HR0_1.out (zH2 HB GE421 GE422))); (case side2 => exact HC0_1.out); rintro e w' ⟨rfl, ⟨nd, rfl⟩⟩; (try first | exact ⟨rfl, _, World.drewN_drewN _ _ _⟩ | exact ⟨rfl, _, Eq.trans (World.drewN_drewN _ _ _) (congrArg (World.drewN _) (Nat.add_assoc _ _ _))⟩)) | (go_at_call 64; (with_reducible refine (impl_within.calls (wrap64 (a1_1)) 0 (wrap64 (t424 - 1)) t425 _ A6.out).mono ?_); rintro e w' ⟨rfl, ⟨nd, rfl⟩⟩; (try first | exact ⟨rfl, _, World.drewN_drewN _ _ _⟩ | exact ⟨rfl, _, Eq.trans (World.drewN_drewN _ _ _) (congrArg (World.drewN _) (Nat.add_assoc _ _ _))⟩))))
 go_ret
 exact ⟨by first | rfl | (simp [errW_none, errW_some] <;> rfl) | (simp [*, errW_none, errW_some] <;> rfl), zH2 HB GE421 GE422⟩
 }
 {
 replace c4 := Bool.eq_false_iff.mpr c4
 subst c4
 rw [if_neg (show ¬ (false = true) by decide)] at H
 obtain rfl := Option.some.inj H
 go_enter Try.func95, Try.ntmps95
 go_wp2_with (first | ((with_reducible refine gate_dst (N := 2) rfl ?_); refine box_event ?hg (N := 2) ?hd (cs := #[.int .i16 a0_0, .slice A0_1 l0_1.length c0_1]) (t := 32) ?hr ?_; (case hd => rfl); (case hg => rfl); (case hr => first | (go_simp; done) | (go_simp; rfl)); intro gb421 hg w12 hbox hb; have BK421 := ak (hbox); have GW421 := gS HB hg; have GE421 := gS HB hg; replace HB := kB HB hb; clear hb hbox hg) | ((with_reducible refine gate_dst (N := 3) rfl ?_); refine box_event ?hg (N := 3) ?hd (cs := #[.int .i16 a1_0, .int .i8 a1_1]) (t := 65) ?hr ?_; (case hd => rfl); (case hg => rfl); (case hr => first | (go_simp; done) | (go_simp; rfl)); intro gb422 hg w13 hbox hb; have BK422 := ak (hbox); have GW422 := gS1 HB GE421 hg; have GE422 := gS1 HB GE421 hg; have NB421_422 := nL BK421 hg; have NB422_421 := nG BK421 hg; replace BK421 := kK BK421 hb; replace HB := kB1 HB GE421 hb; clear hb hbox hg; have hnb14 := NB422_421.out; have hnc14 := NB421_422.out; obtain ⟨hcz15_0, hcz15_1, hfz15_0, hfz15_1⟩ := cz2 w13 BK422) | (go_at_call 64; (with_reducible refine (impl_within.calls (wrap64 (a1_0)) 0 999 false _ A3.out).mono ?_); rintro e w' ⟨rfl, ⟨nd, rfl⟩⟩))
 repeat (go_quiet (first | ((with_reducible refine gate_dst (N := 2) rfl ?_); refine box_event ?hg (N := 2) ?hd (cs := #[.int .i16 a0_0, .slice A0_1 l0_1.length c0_1]) (t := 32) ?hr ?_; (case hd => rfl); (case hg => rfl); (case hr => first | (go_simp; done) | (go_simp; rfl)); intro gb421 hg w12 hbox hb; have BK421 := ak (hbox); have GW421 := gS HB hg; have GE421 := gS HB hg; replace HB := kB HB hb; clear hb hbox hg) | ((with_reducible refine gate_dst (N := 3) rfl ?_); refine box_event ?hg (N := 3) ?hd (cs := #[.int .i16 a1_0, .int .i8 a1_1]) (t := 65) ?hr ?_; (case hd => rfl); (case hg => rfl); (case hr => first | (go_simp; done) | (go_simp; rfl)); intro gb422 hg w13 hbox hb; have BK422 := ak (hbox); have GW422 := gS1 HB GE421 hg; have GE422 := gS1 HB GE421 hg; have NB421_422 := nL BK421 hg; have NB422_421 := nG BK421 hg; replace BK421 := kK BK421 hb; replace HB := kB1 HB GE421 hb; clear hb hbox hg; have hnb14 := NB422_421.out; have hnc14 := NB421_422.out; obtain ⟨hcz15_0, hcz15_1, hfz15_0, hfz15_1⟩ := cz2 w13 BK422) | (go_at_call 64; (with_reducible refine (impl_within.calls (wrap64 (a1_0)) 0 999 false _ A3.out).mono ?_); rintro e w' ⟨rfl, ⟨nd, rfl⟩⟩; (try first | exact ⟨rfl, _, World.drewN_drewN _ _ _⟩ | exact ⟨rfl, _, Eq.trans (World.drewN_drewN _ _ _) (congrArg (World.drewN _) (Nat.add_assoc _ _ _))⟩))); try go_wp2_with (first | ((with_reducible refine gate_dst (N := 2) rfl ?_); refine box_event ?hg (N := 2) ?hd (cs := #[.int .i16 a0_0, .slice A0_1 l0_1.length c0_1]) (t := 32) ?hr ?_; (case hd => rfl); (case hg => rfl); (case hr => first | (go_simp; done) | (go_simp; rfl)); intro gb421 hg w12 hbox hb; have BK421 := ak (hbox); have GW421 := gS HB hg; have GE421 := gS HB hg; replace HB := kB HB hb; clear hb hbox hg) | ((with_reducible refine gate_dst (N := 3) rfl ?_); refine box_event ?hg (N := 3) ?hd (cs := #[.int .i16 a1_0, .int .i8 a1_1]) (t := 65) ?hr ?_; (case hd => rfl); (case hg => rfl); (case hr => first | (go_simp; done) | (go_simp; rfl)); intro gb422 hg w13 hbox hb; have BK422 := ak (hbox); have GW422 := gS1 HB GE421 hg; have GE422 := gS1 HB GE421 hg; have NB421_422 := nL BK421 hg; have NB422_421 := nG BK421 hg; replace BK421 := kK BK421 hb; replace HB := kB1 HB GE421 hb; clear hb hbox hg; have hnb14 := NB422_421.out; have hnc14 := NB421_422.out; obtain ⟨hcz15_0, hcz15_1, hfz15_0, hfz15_1⟩ := cz2 w13 BK422) | (go_at_call 64; (with_reducible refine (impl_within.calls (wrap64 (a1_0)) 0 999 false _ A3.out).mono ?_); rintro e w' ⟨rfl, ⟨nd, rfl⟩⟩; (try first | exact ⟨rfl, _, World.drewN_drewN _ _ _⟩ | exact ⟨rfl, _, Eq.trans (World.drewN_drewN _ _ _) (congrArg (World.drewN _) (Nat.add_assoc _ _ _))⟩))))
 go_ret
 exact ⟨by first | rfl | (simp [errW_none, errW_some] <;> rfl) | (simp [*, errW_none, errW_some] <;> rfl), zH2 HB GE421 GE422⟩
 }
/-! ### impl_ValidHolds_1: function 97 -/
def impl_ValidHolds_1.f (a0_0 : Int) (a0_1 : Int) (a1_0 : Int) (a1_1 : Int) : Option (Bool) := some (a0_0 == a1_0)
set_option maxHeartbeats 8000000 in
set_option maxRecDepth 100000 in
theorem impl_ValidHolds_1.calls (a0_0 : Int) (a0_1 : Int) (b1 : Nat) (a1_0 : Int) (a1_1 : Int) (r : Bool) (w : World) (hx1 : w.heap[b1]? = some (.cells #[.int .i16 a1_0, .int .i8 a1_1] 65 (0, 0))) (h : impl_ValidHolds_1.f a0_0 a0_1 a1_0 a1_1 = some r) :
    Calls Try.prog 97 #[.agg #[.int .i16 a0_0, .int .i8 a0_1], .pointer (some ⟨b1, 0, none⟩)] w fun e w' => e = .returned (.bool r) ∧ Below w.heap.size w w' := by
 have hu65 := Try.underlying65
 have BK1 := ak hx1
 clear hx1
 have HB := ak (Below.refl w.heap.size w)
 have H := h
 unfold impl_ValidHolds_1.f at H
 clear h
 obtain rfl := Option.some.inj H
 go_enter Try.func97, Try.ntmps97
 go_wp2_with (first | ((with_reducible refine gate_dst (N := 2) rfl ?_); refine box_event ?hg (N := 2) ?hd (cs := #[.int .i16 a0_0, .int .i8 a0_1]) (t := 65) ?hr ?_; (case hd => rfl); (case hg => rfl); (case hr => first | (go_simp; done) | (go_simp; rfl)); intro gb426 hg w3 hbox hb; have BK426 := ak (hbox); have GW426 := gS HB hg; have GE426 := gS HB hg; have NB1_426 := nL BK1 hg; have NB426_1 := nG BK1 hg; replace BK1 := kK BK1 hb; replace HB := kB HB hb; clear hb hbox hg; have hnb4 := NB426_1.out; have hnc4 := NB1_426.out; obtain ⟨hcz5_0, hcz5_1, hfz5_0, hfz5_1⟩ := cz2 w3 BK426; obtain ⟨hcz6_0, hcz6_1, hfz6_0, hfz6_1⟩ := cz2 w3 BK1))
 go_ret
 exact ⟨by first | rfl | (simp [errW_none, errW_some] <;> rfl) | (simp [*, errW_none, errW_some] <;> rfl), zBG HB.out GE426.out⟩
end Go.Proofs.Ytooidjdgfoioiaa.P
