-- Printed by wip/print (my turned copy of the kit's print) out of the translation; Lean checks it.
import Derived.Test.YtcgbnbblojkglaaP0
import Derived.Test.YtcgbnbblojkglaaP8
import Derived.Test.YtcgbnbblojkglaaP11
namespace Go.Proofs.Ytcgbnbblojkglaa.P
open Go.RowKit Go.Proofs.YtcgbnbblojkglaaW.PrintWords Go.Proofs.YtcgbnbblojkglaaW.PrintLast Go.Proofs.YtcgbnbblojkglaaW.PrintMore
attribute [local go_sem] max2_int min2_int max_two min_two max_three min_three max_four min_four   -- for this text's walks alone
set_option linter.unusedVariables false
set_option linter.unusedSimpArgs false

/-! ### spec_MissingBy: function 14 -/
def spec_MissingBy.l0 : Nat → List (S47) → List Int → Int → Int → Int → Option (List Int × Int)
  | 0, _, _, _, _, _ => none
  | k + 1, x1, x8, x9, x307000, x307001 => if x9 < (x1.length : Int) then ((some (([] : List (S47)) : List (S47))).bind fun y311 => (if 0 ≤ x9 then (if x9 ≤ (x1.length : Int) then ((some (x1.take (x9 : Int).toNat : List (S47))).bind fun y314 => (if y311.length + y314.length < 35184372088832 then ((some (y311 ++ y314 : List (S47))).bind fun y318 => (if 0 ≤ (wrap64 (x9 + 1)) then (if (wrap64 (x9 + 1)) ≤ (x1.length : Int) then ((some (x1.drop ((wrap64 (x9 + 1)) : Int).toNat : List (S47))).bind fun y321 => (if y318.length + y321.length < 35184372088832 then ((spec_l03Last.f k (y318 ++ y321) x307000 x307001).bind fun t328 => (if t328 = true then (if x8.length < 17592186044416 then (spec_MissingBy.l0 k x1 (x8 ++ [x9]) (wrap64 (x9 + 1)) x307000 x307001) else (none)) else (spec_MissingBy.l0 k x1 x8 (wrap64 (x9 + 1)) x307000 x307001))) else (none))) else (none)) else (none))) else (none))) else (none)) else (none))) else (some (x8, 0))
def spec_MissingBy.f (k : Nat) (a0_0 : Int) (l0_1 : List Int) (l1 : List (S47)) (a2_0 : Int) (a2_1 : Int) : Option (List Int × Int) := (some (([] : List Int) : List Int)).bind fun y307 => ((spec_l03Holds.f k a0_0 l0_1 l1).bind fun t310 => (if t310 = true then (spec_MissingBy.l0 k l1 y307 0 a2_0 a2_1) else (some (y307, 1))))
theorem spec_MissingBy.mono_l : ∀ k, (∀ y0 y1 y2 y3 y4, LeO (spec_MissingBy.l0 k y0 y1 y2 y3 y4) (spec_MissingBy.l0 (k + 1) y0 y1 y2 y3 y4))
  | 0 => fun _ _ _ _ _ r h => by simp [spec_MissingBy.l0] at h
  | k + 1 => by
    have ih0 := spec_MissingBy.mono_l k
    · intro y0 y1 y2 y3 y4
      unfold spec_MissingBy.l0
      repeat' first
      | (with_reducible exact ih0 _ _ _ _ _)
      | (with_reducible exact spec_l03Holds.mono _ _ _ _)
      | (with_reducible exact spec_l03Last.mono _ _ _ _)
      | (with_reducible exact LeO.refl _)
      | (with_reducible exact LeO.none _)
      | (with_reducible refine LeO.ite ?_ ?_)
      | (with_reducible refine LeO.bind ?_ (fun _ => ?_))
      | exact ih0 _ _ _ _ _
      | exact spec_l03Holds.mono _ _ _ _
      | exact spec_l03Last.mono _ _ _ _
      | exact LeO.none _
      | refine LeO.ite ?_ ?_
      | refine LeO.bind ?_ (fun _ => ?_)
theorem spec_MissingBy.mono : ∀ a0 a1 a2 a3 a4 k, LeO (spec_MissingBy.f k a0 a1 a2 a3 a4) (spec_MissingBy.f (k + 1) a0 a1 a2 a3 a4) := by
  intro a0 a1 a2 a3 a4 k
  have ih0 := spec_MissingBy.mono_l k
  unfold spec_MissingBy.f
  repeat' first
      | (with_reducible exact ih0 _ _ _ _ _)
      | (with_reducible exact spec_l03Holds.mono _ _ _ _)
      | (with_reducible exact spec_l03Last.mono _ _ _ _)
      | (with_reducible exact LeO.refl _)
      | (with_reducible exact LeO.none _)
      | (with_reducible refine LeO.ite ?_ ?_)
      | (with_reducible refine LeO.bind ?_ (fun _ => ?_))
      | exact ih0 _ _ _ _ _
      | exact spec_l03Holds.mono _ _ _ _
      | exact spec_l03Last.mono _ _ _ _
      | exact LeO.none _
      | refine LeO.ite ?_ ?_
      | refine LeO.bind ?_ (fun _ => ?_)
def spec_MissingBy.T7 : Bool × List (List Nat × List Nat) := (true, [([], []), ([], []), ([], []), ([1, 2], [1, 2]), ([0, 3], [0, 3]), ([], []), ([], []), ([6], [6]), ([5, 7], [5, 7]), ([4, 8, 4], [4, 8]), ([], []), ([9, 10, 9], [9, 10])])
def spec_MissingBy.B7 : List Nat := [0, 0, 0, 6, 15, 0, 0, 64, 224, 511, 0, 2047]
theorem spec_MissingBy.tab7 : rtab .any (opsOf Try.f14 7) = spec_MissingBy.T7 := by kernel_rfl
theorem spec_MissingBy.bits7 : waitsOk spec_MissingBy.T7.2 spec_MissingBy.B7 = true := by kernel_rfl
set_option maxHeartbeats 8000000 in
set_option maxRecDepth 100000 in
theorem spec_MissingBy.calls (k : Nat) (a0_0 : Int) (A0_1 : Option Addr) (c0_1 : Nat) (l0_1 : List Int) (A1 : Option Addr) (c1 : Nat) (l1 : List (S47)) (a2_0 : Int) (a2_1 : Int) (r1 : List Int) (r2 : Int) (w : World) (hr0_1 : Kd.C (Kd.int .i16) w A0_1 l0_1.length l0_1) (hc0_1 : l0_1.length ≤ c0_1) (hr1 : Kd.C k47 w A1 l1.length l1) (hc1 : l1.length ≤ c1) (h : spec_MissingBy.f k a0_0 l0_1 l1 a2_0 a2_1 = some (r1, r2)) :
    Calls Try.prog 14 #[.agg #[.int .i16 a0_0, .slice A0_1 l0_1.length c0_1], .slice A1 l1.length c1, .agg #[.int .i64 a2_0, .int .i64 a2_1]] w fun e w' => ∃ v0_ : Value, e = .returned (.tuple #[v0_, .int .i64 r2]) ∧ Kd.R (Kd.int .i64) 2 w' w.heap.size (fun _ => True) v0_ r1 ∧ Below w.heap.size w w' := by
 have hu27 := Try.underlying27
 have hu40 := Try.underlying40
 have HR0_1 := ak hr0_1
 have HC0_1 := ak hc0_1
 clear hr0_1 hc0_1
 have HR1 := ak hr1
 have HC1 := ak hc1
 clear hr1 hc1
 have HB := ak (Below.refl w.heap.size w)
 have H : ((some (([] : List Int) : List Int)).bind fun y307 => ((spec_l03Holds.f k a0_0 l0_1 l1).bind fun t310 => (if t310 = true then (spec_MissingBy.l0 k l1 y307 0 a2_0 a2_1) else (some (y307, 1))))) = some (r1, r2) := h
 clear h
 obtain ⟨y307, hy307⟩ : ∃ y_ : List Int, y_ = (([] : List Int)) := ⟨_, rfl⟩
 replace H : ((spec_l03Holds.f k a0_0 l0_1 l1).bind fun t310 => (if t310 = true then (spec_MissingBy.l0 k l1 y307 0 a2_0 a2_1) else (some (y307, 1)))) = some (r1, r2) := by first | (rw [hy307]; with_reducible exact H) | (have H2_ := (Option.bind_some _ _).symm.trans H; rw [hy307]; with_reducible exact H2_) | (have H2_ := (Option.bind_some _ _).symm.trans H; with_reducible exact H2_) | with_reducible exact H | (rw [hy307]; exact H) | exact H
 have Ny307 := ak hy307
 clear hy307
 replace H := Option.bind_eq_some_iff.mp H
 obtain ⟨t310, A40, H⟩ := H
 replace H : (if t310 = true then (spec_MissingBy.l0 k l1 y307 0 a2_0 a2_1) else (some (y307, 1))) = some (r1, r2) := H
 have A4 := ak A40
 clear A40
 by_cases c5 : t310 = true
 {
 subst c5
 have H1 : (spec_MissingBy.l0 k l1 y307 0 a2_0 a2_1) = some (r1, r2) := by rw [if_pos rfl] at H; exact H
 clear H
 have H := H1
 clear H1
 have H' := ak H
 clear H
 go_enter Try.func14, Try.ntmps14
 go_wp2_with (first | ((with_reducible refine gate_dst (N := 3) rfl ?_); refine box_event ?hg (N := 3) ?hd (cs := #[.int .i16 a0_0, .slice A0_1 l0_1.length c0_1]) (t := 27) ?hr ?_; (case hd => rfl); (case hg => rfl); (case hr => first | (go_simp; done) | (go_simp; rfl)); intro gb305 hg w6 hbox hb; have n0_ := ak (below_step (zB HB.out) hb); have n1_ := ak (hbox); have n2_ := ak ((by rw [hg]; exact (below_size (zB HB.out)) : w.heap.size ≤ gb305)); have n3_ := ak ((by rw [hg]; exact (below_size (zB HB.out)) : w.heap.size ≤ gb305)); clear HB; have HB := n0_; have BK305 := n1_; have GW305 := n2_; have GE305 := n3_; clear n0_ n1_ n2_ n3_; clear hb hbox hg) | ((with_reducible refine gate_dst (N := 5) rfl ?_); refine box_event ?hg (N := 5) ?hd (cs := #[.int .i64 a2_0, .int .i64 a2_1]) (t := 40) ?hr ?_; (case hd => rfl); (case hg => rfl); (case hr => first | (go_simp; done) | (go_simp; rfl)); intro gb306 hg w7 hbox hb; have n0_ := ak (blk_below (g := gb305) (o := .cells #[.int .i16 a0_0, .slice A0_1 l0_1.length c0_1] 27 (0, 0)) (zK BK305.out) hb); have n1_ := ak (below_step (zBG HB.out GE305.out) hb); have n2_ := ak (hbox); have n3_ := ak ((by rw [hg]; exact (below_size (zBG HB.out GE305.out)) : w.heap.size ≤ gb306)); have n4_ := ak ((by rw [hg]; exact (below_size (zBG HB.out GE305.out)) : w.heap.size ≤ gb306)); have n5_ := ak ((by rw [hg]; exact Nat.ne_of_lt (blk_lt (g := gb305) (o := .cells #[.int .i16 a0_0, .slice A0_1 l0_1.length c0_1] 27 (0, 0)) (zK BK305.out)) : gb305 ≠ gb306)); have n6_ := ak ((by rw [hg]; exact Nat.ne_of_gt (blk_lt (g := gb305) (o := .cells #[.int .i16 a0_0, .slice A0_1 l0_1.length c0_1] 27 (0, 0)) (zK BK305.out)) : gb306 ≠ gb305)); clear BK305 HB; have BK305 := n0_; have HB := n1_; have BK306 := n2_; have GW306 := n3_; have GE306 := n4_; have NB305_306 := n5_; have NB306_305 := n6_; clear n0_ n1_ n2_ n3_ n4_ n5_ n6_; clear hb hbox hg) | ((with_reducible refine gate_dst (N := 10) rfl ?_); refine Kd.R_lit (Kd.int .i64) _ 2 ?hg (N := 10) ?hd (xs := ([] : List Int)) (inner := []) (ok := fun _ => True) (okp := fun _ => True) ?hr ?hp (fun _ hk => hk) trivial (Below.refl _ _) (Nat.le_refl _) (by simp) ?_; (case hd => rfl); (case hg => rfl); (case hr => first | (go_simp; done) | (go_simp; rfl)); (case hp => exact (Reps.none _ _)); intro v308 w8 ho9 hb hg_ hnew_; clear hg_ hnew_; (first | rw [← Ny307.out] at ho9 | (simp only [Int.reduceToNat] at ho9; rw [← Ny307.out] at ho9)); have n0_ := ak (Kd.R_lower ho9 (below_size (by repeat (first | (with_reducible first | exact HB.out | apply below_alloc | apply pw_below_drewN | apply below_drew1 | refine below_set ?_ GE305.out | refine below_set ?_ GE306.out) | exact HB.out)))); have n1_ := ak (blk_below (g := gb305) (o := .cells #[.int .i16 a0_0, .slice A0_1 l0_1.length c0_1] 27 (0, 0)) (zK BK305.out) hb); have n2_ := ak (blk_below (g := gb306) (o := .cells #[.int .i64 a2_0, .int .i64 a2_1] 40 (0, 0)) (zK BK306.out) hb); have n3_ := ak (below_step (by repeat (first | (with_reducible first | exact HB.out | apply below_alloc | apply pw_below_drewN | apply below_drew1 | refine below_set ?_ GE305.out | refine below_set ?_ GE306.out) | exact HB.out)) hb); clear BK305 BK306 HB; have HO309 := n0_; have BK305 := n1_; have BK306 := n2_; have HB := n3_; clear n0_ n1_ n2_ n3_; clear hb ho9) | ((with_reducible refine gate_callee (f := 26) rfl ?_); refine goesL_ (some 12) rfl rfl Try.func26 (by kernel_rfl) rfl #[.pointer (some ⟨gb305, 0, none⟩), .slice A1 l1.length c1] rfl gl_ ?_; (with_reducible refine (spec_l03Holds.calls k gb305 a0_0 A0_1 c0_1 l0_1 _ _ l1 true _ ?side1 ?side2 ?side3 ?side4 ?side5 A4.out).mono ?_); (case side1 => repeat (first | exact (Kd.C_below HR0_1.out HB.out) | (with_reducible refine Kd.C_alloc ?_ _) | (with_reducible refine Kd.C_drewN ?_ _) | (with_reducible refine Kd.C_drew ?_))); (case side2 => exact HC0_1.out); (case side3 => repeat (first | exact (Kd.C_below HR1.out HB.out) | (with_reducible refine Kd.C_alloc ?_ _) | (with_reducible refine Kd.C_drewN ?_ _) | (with_reducible refine Kd.C_drew ?_))); (case side4 => exact HC1.out); (case side5 => exact (by first | exact BK305.out | ((with_reducible repeat (first | refine blk_drewN ?_ _ | refine blk_drew ?_ | refine blk_alloc ?_ _)); exact BK305.out))); rintro e w10 ⟨rfl, hb⟩; refine ⟨_, rfl, ?_⟩; have n0_ := ak (Kd.R_below (zR HO309.out) hb); have n1_ := ak (blk_below (g := gb305) (o := .cells #[.int .i16 a0_0, .slice A0_1 l0_1.length c0_1] 27 (0, 0)) (zK BK305.out) hb); have n2_ := ak (blk_below (g := gb306) (o := .cells #[.int .i64 a2_0, .int .i64 a2_1] 40 (0, 0)) (zK BK306.out) hb); have n3_ := ak (below_step (by repeat (first | (with_reducible first | exact HB.out | apply below_alloc | apply pw_below_drewN | apply below_drew1 | refine below_set ?_ GE305.out | refine below_set ?_ GE306.out) | exact HB.out)) hb); clear HO309 BK305 BK306 HB; have HO309 := n0_; have BK305 := n1_; have BK306 := n2_; have HB := n3_; clear n0_ n1_ n2_ n3_; (try clear hb); (try clear hb2); (try clear hk); (try clear hi)))
 go_loopg [8, 9] k (fun kq v8 v9 w' => ∃ (x8_1 : List Int) (x9_1 : Int), v9 = .int .i64 x9_1 ∧ Aside0 (spec_MissingBy.l0 kq l1 x8_1 x9_1 a2_0 a2_1 = some (r1, r2)) ∧ Aside0 (kq ≤ k) ∧ Aside0 (Kd.R (Kd.int .i64) 2 w' w.heap.size (fun _ => True) v8 x8_1) ∧ Aside0 (w'.heap[gb305]? = some (.cells #[.int .i16 a0_0, (.slice A0_1 l0_1.length c0_1)] 27 (0, 0))) ∧ Aside0 (w'.heap[gb306]? = some (.cells #[.int .i64 a2_0, .int .i64 a2_1] 40 (0, 0))) ∧ Aside0 (Below w.heap.size w w'))
 case atStart => exact ⟨(y307), (0), (by first | rfl | (simp; done) | (simp [*]; done)), H', ⟨Nat.le_refl _⟩, ⟨(zR HO309.out)⟩, ⟨(zK BK305.out)⟩, ⟨(zK BK306.out)⟩, ⟨by repeat (first | (with_reducible first | exact HB.out | apply below_alloc | apply pw_below_drewN | apply below_drew1 | refine below_set ?_ GE305.out | refine below_set ?_ GE306.out) | exact HB.out)⟩⟩
 case round => (
 clear H'
 try clear c1
 try clear c5
 obtain ⟨x8_1, x9_1, rfl, HA, HK1, HO_8, BK305, BK306, HB⟩ := hrel
 cases gk with
 | zero => exact absurd HA.out (by simp [spec_MissingBy.l0])
 | succ k1 => (
 have H := HA.out
 clear HA
 simp only [spec_MissingBy.l0] at H
 by_cases c11 : x9_1 < (l1.length : Int)
 {
 rw [if_pos c11] at H
 have c11b0 : decide (x9_1 < (l1.length : Int)) = true := decide_eq_true c11
 clear c11
 obtain ⟨y311, hy311⟩ : ∃ y_ : List (S47), y_ = (([] : List (S47))) := ⟨_, rfl⟩
 replace H : (if 0 ≤ x9_1 then (if x9_1 ≤ (l1.length : Int) then ((some (l1.take (x9_1 : Int).toNat : List (S47))).bind fun y314 => (if y311.length + y314.length < 35184372088832 then ((some (y311 ++ y314 : List (S47))).bind fun y318 => (if 0 ≤ (wrap64 (x9_1 + 1)) then (if (wrap64 (x9_1 + 1)) ≤ (l1.length : Int) then ((some (l1.drop ((wrap64 (x9_1 + 1)) : Int).toNat : List (S47))).bind fun y321 => (if y318.length + y321.length < 35184372088832 then ((spec_l03Last.f k1 (y318 ++ y321) a2_0 a2_1).bind fun t328 => (if t328 = true then (if x8_1.length < 17592186044416 then (spec_MissingBy.l0 k1 l1 (x8_1 ++ [x9_1]) (wrap64 (x9_1 + 1)) a2_0 a2_1) else (none)) else (spec_MissingBy.l0 k1 l1 x8_1 (wrap64 (x9_1 + 1)) a2_0 a2_1))) else (none))) else (none)) else (none))) else (none))) else (none)) else (none)) = some (r1, r2) := by first | (rw [hy311]; with_reducible exact H) | (have H2_ := (Option.bind_some _ _).symm.trans H; rw [hy311]; with_reducible exact H2_) | (have H2_ := (Option.bind_some _ _).symm.trans H; with_reducible exact H2_) | with_reducible exact H | (rw [hy311]; exact H) | exact H
 have Ny311 := ak hy311
 clear hy311
 by_cases c12 : 0 ≤ x9_1
 {
 rw [if_pos c12] at H
 have c12b0 := eq_true c12
 have c12b1 : decide (0 ≤ x9_1) = true := decide_eq_true c12
 clear c12
 by_cases c13 : x9_1 ≤ (l1.length : Int)
 {
 rw [if_pos c13] at H
 have c13b0 := eq_true c13
 have c13b1 : decide (x9_1 ≤ (l1.length : Int)) = true := decide_eq_true c13
 clear c13
 obtain ⟨y314, hy314⟩ : ∃ y_ : List (S47), y_ = (l1.take (x9_1 : Int).toNat) := ⟨_, rfl⟩
 replace H : (if y311.length + y314.length < 35184372088832 then ((some (y311 ++ y314 : List (S47))).bind fun y318 => (if 0 ≤ (wrap64 (x9_1 + 1)) then (if (wrap64 (x9_1 + 1)) ≤ (l1.length : Int) then ((some (l1.drop ((wrap64 (x9_1 + 1)) : Int).toNat : List (S47))).bind fun y321 => (if y318.length + y321.length < 35184372088832 then ((spec_l03Last.f k1 (y318 ++ y321) a2_0 a2_1).bind fun t328 => (if t328 = true then (if x8_1.length < 17592186044416 then (spec_MissingBy.l0 k1 l1 (x8_1 ++ [x9_1]) (wrap64 (x9_1 + 1)) a2_0 a2_1) else (none)) else (spec_MissingBy.l0 k1 l1 x8_1 (wrap64 (x9_1 + 1)) a2_0 a2_1))) else (none))) else (none)) else (none))) else (none)) = some (r1, r2) := by first | (rw [hy314]; with_reducible exact H) | (have H2_ := (Option.bind_some _ _).symm.trans H; rw [hy314]; with_reducible exact H2_) | (have H2_ := (Option.bind_some _ _).symm.trans H; with_reducible exact H2_) | with_reducible exact H | (rw [hy314]; exact H) | exact H
 have Ny314 := ak hy314
 clear hy314
 by_cases c14 : y311.length + y314.length < 35184372088832
 {
 rw [if_pos c14] at H
 have LMc14 := ak c14
 clear c14
 obtain ⟨y318, hy318⟩ : ∃ y_ : List (S47), y_ = (y311 ++ y314) := ⟨_, rfl⟩
 replace H : (if 0 ≤ (wrap64 (x9_1 + 1)) then (if (wrap64 (x9_1 + 1)) ≤ (l1.length : Int) then ((some (l1.drop ((wrap64 (x9_1 + 1)) : Int).toNat : List (S47))).bind fun y321 => (if y318.length + y321.length < 35184372088832 then ((spec_l03Last.f k1 (y318 ++ y321) a2_0 a2_1).bind fun t328 => (if t328 = true then (if x8_1.length < 17592186044416 then (spec_MissingBy.l0 k1 l1 (x8_1 ++ [x9_1]) (wrap64 (x9_1 + 1)) a2_0 a2_1) else (none)) else (spec_MissingBy.l0 k1 l1 x8_1 (wrap64 (x9_1 + 1)) a2_0 a2_1))) else (none))) else (none)) else (none)) = some (r1, r2) := by first | (rw [hy318]; with_reducible exact H) | (have H2_ := (Option.bind_some _ _).symm.trans H; rw [hy318]; with_reducible exact H2_) | (have H2_ := (Option.bind_some _ _).symm.trans H; with_reducible exact H2_) | with_reducible exact H | (rw [hy318]; exact H) | exact H
 have Ny318 := ak hy318
 clear hy318
 obtain ⟨ji15, hji15⟩ : ∃ j_ : Int, (wrap64 (x9_1 + 1)) = j_ := ⟨_, rfl⟩
 replace H : (if 0 ≤ (ji15) then (if (ji15) ≤ (l1.length : Int) then ((some (l1.drop ((ji15) : Int).toNat : List (S47))).bind fun y321 => (if y318.length + y321.length < 35184372088832 then ((spec_l03Last.f k1 (y318 ++ y321) a2_0 a2_1).bind fun t328 => (if t328 = true then (if x8_1.length < 17592186044416 then (spec_MissingBy.l0 k1 l1 (x8_1 ++ [x9_1]) ji15 a2_0 a2_1) else (none)) else (spec_MissingBy.l0 k1 l1 x8_1 ji15 a2_0 a2_1))) else (none))) else (none)) else (none)) = some (r1, r2) := by first | (rw [hji15] at H; exact H) | (simp only [hji15] at H ⊢; exact H)
 have hji15w : (IntKind.i64.wrap (x9_1 + 1)) = ji15 := (i64_w _).trans hji15
 by_cases c16 : 0 ≤ (ji15)
 {
 rw [if_pos c16] at H
 have c16b0 := eq_true c16
 have c16b1 : decide (0 ≤ (ji15)) = true := decide_eq_true c16
 clear c16
 by_cases c17 : (ji15) ≤ (l1.length : Int)
 {
 rw [if_pos c17] at H
 have c17b0 := eq_true c17
 have c17b1 : decide ((ji15) ≤ (l1.length : Int)) = true := decide_eq_true c17
 clear c17
 obtain ⟨y321, hy321⟩ : ∃ y_ : List (S47), y_ = (l1.drop ((ji15) : Int).toNat) := ⟨_, rfl⟩
 replace H : (if y318.length + y321.length < 35184372088832 then ((spec_l03Last.f k1 (y318 ++ y321) a2_0 a2_1).bind fun t328 => (if t328 = true then (if x8_1.length < 17592186044416 then (spec_MissingBy.l0 k1 l1 (x8_1 ++ [x9_1]) ji15 a2_0 a2_1) else (none)) else (spec_MissingBy.l0 k1 l1 x8_1 ji15 a2_0 a2_1))) else (none)) = some (r1, r2) := by first | (rw [hy321]; with_reducible exact H) | (have H2_ := (Option.bind_some _ _).symm.trans H; rw [hy321]; with_reducible exact H2_) | (have H2_ := (Option.bind_some _ _).symm.trans H; with_reducible exact H2_) | with_reducible exact H | (rw [hy321]; exact H) | exact H
 have Ny321 := ak hy321
 clear hy321
 by_cases c18 : y318.length + y321.length < 35184372088832
 {
 rw [if_pos c18] at H
 have LMc18 := ak c18
 clear c18
 obtain ⟨y325, hy325⟩ : ∃ y_ : List (S47), y_ = (y318 ++ y321) := ⟨_, rfl⟩
 replace H : ((spec_l03Last.f k1 y325 a2_0 a2_1).bind fun t328 => (if t328 = true then (if x8_1.length < 17592186044416 then (spec_MissingBy.l0 k1 l1 (x8_1 ++ [x9_1]) ji15 a2_0 a2_1) else (none)) else (spec_MissingBy.l0 k1 l1 x8_1 ji15 a2_0 a2_1))) = some (r1, r2) := by first | (rw [hy325]; with_reducible exact H) | (have H2_ := (Option.bind_some _ _).symm.trans H; rw [hy325]; with_reducible exact H2_) | (have H2_ := (Option.bind_some _ _).symm.trans H; with_reducible exact H2_) | with_reducible exact H | (rw [hy325]; exact H) | exact H
 have Ny325 := ak hy325
 clear hy325
 replace H := Option.bind_eq_some_iff.mp H
 obtain ⟨t328, A190, H⟩ := H
 replace H : (if t328 = true then (if x8_1.length < 17592186044416 then (spec_MissingBy.l0 k1 l1 (x8_1 ++ [x9_1]) ji15 a2_0 a2_1) else (none)) else (spec_MissingBy.l0 k1 l1 x8_1 ji15 a2_0 a2_1)) = some (r1, r2) := H
 have A19 := ak A190
 clear A190
 by_cases c20 : t328 = true
 {
 subst c20
 have H1 : (if x8_1.length < 17592186044416 then (spec_MissingBy.l0 k1 l1 (x8_1 ++ [x9_1]) ji15 a2_0 a2_1) else (none)) = some (r1, r2) := by rw [if_pos rfl] at H; exact H
 clear H
 have H := H1
 clear H1
 by_cases c21 : x8_1.length < 17592186044416
 {
 rw [if_pos c21] at H
 have LMc21 := ak c21
 clear c21
 obtain ⟨y329, hy329⟩ : ∃ y_ : List Int, y_ = (x8_1 ++ [x9_1]) := ⟨_, rfl⟩
 replace H : (spec_MissingBy.l0 k1 l1 y329 ji15 a2_0 a2_1) = some (r1, r2) := by first | (rw [hy329]; with_reducible exact H) | (have H2_ := (Option.bind_some _ _).symm.trans H; rw [hy329]; with_reducible exact H2_) | (have H2_ := (Option.bind_some _ _).symm.trans H; with_reducible exact H2_) | with_reducible exact H | (rw [hy329]; exact H) | exact H
 have Ny329 := ak hy329
 clear hy329
 as_aux_lemma => (
 have H' := ak H
 clear H
 try go_wp2
 have n0_ := ak (Kd.R_drew HO_8.out)
 have n1_ := ak (blk_drew BK305.out)
 have n2_ := ak (blk_drew BK306.out)
 have n3_ := ak (below_drew1 HB.out)
 clear HO_8 BK305 BK306 HB
 have HO_8 := n0_
 have BK305 := n1_
 have BK306 := n2_
 have HB := n3_
 clear n0_ n1_ n2_ n3_
 have q23 : (x9_1 : Int) ≤ ((l1.length : Int) : Int) := of_decide_eq_true (by first | (with_reducible assumption) | assumption)
 obtain ⟨i023, hi023, _, hsz23, _⟩ := info_parts info47
 have hroom23 : l1.length ≤ c1 := HC1.out
 have hC23 : Kd.C k47 _ A1 l1.length l1 := HR1.out
 have hcut23 := cut_to (P := Try.prog) 29 47 .i64 Try.underlying29 hi023 A1 l1.length c1 x9_1 (of_decide_eq_true (by first | (with_reducible assumption) | assumption)) q23 hroom23
 have hr23 := Kd.C_take (m := (x9_1 : Int).toNat) hC23 (by omega)
 have hy23 : y314.length = (x9_1 : Int).toNat := (by rw [Ny314.out, List.length_take]; omega)
 rw [← Ny314.out] at hr23
 rw [← hy23] at hcut23
 have HR317 := ak hr23
 have HC317 := ak (show y314.length ≤ c1 from by omega)
 clear hr23 hC23 hroom23 hi023 hsz23
 have KY23 := ak hy23
 clear hy23
 replace q23 := eq_true q23
 have q24 : ((ji15) : Int) ≤ ((l1.length : Int) : Int) := of_decide_eq_true (by first | (with_reducible assumption) | assumption)
 obtain ⟨i024, hi024, _, hsz24, _⟩ := info_parts info47
 have hroom24 : l1.length ≤ c1 := HC1.out
 have hC24 : Kd.C k47 _ A1 l1.length l1 := HR1.out
 have q024 : (0 : Int) ≤ ((ji15) : Int) := of_decide_eq_true (by first | (with_reducible assumption) | assumption)
 have hcut24 := cut_from (P := Try.prog) 29 47 .i64 Try.underlying29 hi024 2 hsz24 A1 l1.length c1 (ji15) q024 q24
 have hr24 := Kd.C_drop (m := ((ji15) : Int).toNat) (c := c1) hC24 (by omega) hroom24
 obtain ⟨A24, hA24⟩ : ∃ Aq_, Aq_ = (if c1 = ((ji15) : Int).toNat then A1 else (A1 : Option Addr).map (·.add (((ji15) : Int).toNat * 2))) := ⟨_, rfl⟩
 obtain ⟨c24, hc24⟩ : ∃ cq_, cq_ = c1 - ((ji15) : Int).toNat := ⟨_, rfl⟩
 have hy24 : y321.length = l1.length - ((ji15) : Int).toNat := (by rw [Ny321.out, List.length_drop] <;> omega)
 rw [show (l1).drop ((ji15) : Int).toNat = y321 from Ny321.out.symm] at hr24
 replace hr24 : Kd.C k47 _ A24 y321.length y321 := (by rw [hA24]; exact hr24)
 rw [← hy24, ← hA24, ← hc24] at hcut24
 have HR324 := ak hr24
 have HC324 := ak (show y321.length ≤ c24 from by rw [hy24, hc24]; exact Nat.sub_le_sub_right hroom24 _)
 clear hr24 hC24 hroom24 hi024 hsz24 hc24
 have KY24 := ak hy24
 have KA24 := ak hA24
 clear hy24 hA24
 replace q24 := eq_true q24
 refine start_ (n := 12) (S := fun w' => w'.cell? ⟨gb306, 0, none⟩ = some (.int .i64 a2_0) ∧ w'.cell? ⟨gb306, 1, none⟩ = some (.int .i64 a2_1)) (ds := []) (bA 12 0) (by kernel_rfl) rfl rfl ⟨(blk_cell BK306.out 0).trans rfl, (blk_cell BK306.out 1).trans rfl⟩ (fun hHeld => ?_); refine with_tabW spec_MissingBy.tab7 spec_MissingBy.bits7 (fun HT_ HW_ => ?_)
 generalize wr.drew = w22 at HO_8 BK305 BK306 HB HR317 HR324 hHeld ⊢
 refine pure_ (i := 1) (N := some 22) (v := ?_) (a' := ?_) (bA 12 2) rfl rfl (any_of HT_.out (by kernel_rfl)) (fun _ _ _ h => h) (Or.inl ⟨by rfl, ?_⟩) ?_ ?_
 rotate_left
 {
 intro w'
 go_simp
 with_reducible rfl
 }
 rotate_left
 · exact pt_
 refine pure_ (i := 2) (N := some 23) (v := ?_) (a' := ?_) (bA 12 6) rfl rfl (any_of HT_.out (by kernel_rfl)) (fun _ _ _ h => h) (Or.inl ⟨by rfl, ?_⟩) ?_ ?_
 rotate_left
 {
 intro w'
 go_simp
 with_reducible rfl
 }
 rotate_left
 · exact pt_
 refine pure_ (i := 3) (N := some 24) (v := ?_) (a' := ?_) (bA 12 14) rfl rfl (any_of HT_.out (by kernel_rfl)) (fun _ _ _ h => h) (Or.inl ⟨by rfl, ?_⟩) ?_ ?_
 rotate_left
 {
 intro w'
 go_simp
 with_reducible rfl
 }
 rotate_left
 · exact pt_
 refine pure_ (i := 5) (N := some 26) (v := ?_) (a' := ?_) (bA 12 46) rfl rfl (any_of HT_.out (by kernel_rfl)) (fun _ _ _ h => h) (Or.inl ⟨by rfl, ?_⟩) ?_ ?_
 rotate_left
 {
 intro w'
 go_simp
 with_reducible rfl
 }
 rotate_left
 · exact pt_
 refine pure_ (i := 6) (N := some 27) (v := ?_) (a' := ?_) (bA 12 110) rfl rfl (any_of HT_.out (by kernel_rfl)) (fun _ _ _ h => h) (Or.inl ⟨by rfl, ?_⟩) ?_ ?_
 rotate_left
 {
 intro w'
 go_simp
 with_reducible rfl
 }
 rotate_left
 · exact pt_
 refine pure_ (i := 7) (N := some 28) (v := ?_) (a' := ?_) (bA 12 238) rfl rfl (any_of HT_.out (by kernel_rfl)) (fun _ _ _ h => h) (Or.inl ⟨by rfl, ?_⟩) ?_ ?_
 rotate_left
 {
 intro w'
 go_simp
 with_reducible rfl
 }
 rotate_left
 · exact pt_
 refine pure_ (i := 8) (N := some 29) (v := ?_) (a' := ?_) (bA 12 494) rfl rfl (any_of HT_.out (by kernel_rfl)) (fun _ _ _ h => h) (Or.inl ⟨by rfl, ?_⟩) ?_ ?_
 rotate_left
 {
 intro w'
 go_simp
 with_reducible rfl
 }
 rotate_left
 · exact pt_
 refine take_ (i := 10) (N := some 31) (v := ?_) (a' := ?_) (bA 12 1518) rfl rfl (take_ofW HT_.out HW_.out (by kernel_rfl)) (fun _ _ _ h => h) (Or.inl ⟨by rfl, ?_⟩) hHeld ?_ ?_
 rotate_left
 {
 rintro w' ⟨s0, s1⟩
 go_simp
 with_reducible rfl
 }
 rotate_left
 · exact pt_
 refine one_ (i := 0) (N := some 21) (bA 12 1519) rfl rfl (one_of HT_.out (by kernel_rfl)) (by decide) (fun K hK => ?_)
 refine Kd.R_lit_step k47 _ 47 ?hg (N := 21) ?hd (xs := ([] : List (S47))) (inner := []) (ok := fun _ => True) (okp := fun _ => True) ?hr ?hp (fun _ hk => hk) trivial (Below.refl _ _) (Nat.le_refl _) (by simp) ?_; (case hd => rfl); (case hg => rfl); (case hr => first | (go_simp; done) | (go_simp; rfl)); (case hp => exact (Reps.none _ _))
 intro v312 w25 ho26 hb hg_ hnew_
 clear hg_ hnew_
 (first | rw [← Ny311.out] at ho26 | (simp only [Int.reduceToNat] at ho26; rw [← Ny311.out] at ho26))
 have n0_ := ak (Kd.R_below (zR HO_8.out) hb)
 have n1_ := ak (Kd.R_lower ho26 (below_size (by repeat (first | (with_reducible first | exact HB.out | apply below_alloc | apply pw_below_drewN | apply below_drew1 | refine below_set ?_ GE305.out | refine below_set ?_ GE306.out) | exact HB.out))))
 have n2_ := ak (blk_below (g := gb305) (o := .cells #[.int .i16 a0_0, .slice A0_1 l0_1.length c0_1] 27 (0, 0)) (zK BK305.out) hb)
 have n3_ := ak (blk_below (g := gb306) (o := .cells #[.int .i64 a2_0, .int .i64 a2_1] 40 (0, 0)) (zK BK306.out) hb)
 have n4_ := ak (below_step (by repeat (first | (with_reducible first | exact HB.out | apply below_alloc | apply pw_below_drewN | apply below_drew1 | refine below_set ?_ GE305.out | refine below_set ?_ GE306.out) | exact HB.out)) hb)
 clear HO_8 BK305 BK306 HB
 have HO_8 := n0_
 have HO313 := n1_
 have BK305 := n2_
 have BK306 := n3_
 have HB := n4_
 clear n0_ n1_ n2_ n3_ n4_ hb ho26
 refine hK.out _ _ ⟨(blk_cell BK306.out 0).trans rfl, (blk_cell BK306.out 1).trans rfl⟩ (fun hHeld => ?_)
 clear hK K
 refine norm_ (a' := ?_) ?_ ?_
 rotate_left
 {
 show Act.put _ (some 21) _ = _
 simp only [Act.put, zs, zz, zk, i64_w, i32_w]
 rfl
 }
 refine one_ (i := 4) (N := some 25) (bA 12 1535) rfl rfl (one_of HT_.out (by kernel_rfl)) (by decide) (fun K hK => ?_)
 refine Kd.R_append_rows_step k47 (w0 := w) w.heap.size (by rfl) (.tmp 21) (.tmp 24) 29 47 (.agg #[(.int .i16 0), (.int .i8 0)]) 4 rfl Try.underlying29 info47 rfl (by decide) (by omega) v312 y311 y314 _ _ _ (fun _ => True) (fun _ => False) rfl rfl ?aO ?aR (fun _ _ h => h) (fun _ h => h.elim) ?aF ?aB ?aS ?aL ?_
 (case aR => repeat (first | exact (Kd.C_below HR317.out HB.out) | (with_reducible refine Kd.C_alloc ?_ _) | (with_reducible refine Kd.C_drewN ?_ _) | (with_reducible refine Kd.C_drew ?_)))
 (case aB => exact (by repeat (first | (with_reducible first | exact HB.out | apply below_alloc | apply pw_below_drewN | apply below_drew1 | refine below_set ?_ GE305.out | refine below_set ?_ GE306.out) | exact HB.out)))
 (case aF => exact (fun _ _ => trivial))
 (case aO => exact (zR HO313.out))
 (case aS => exact (below_size (by repeat (first | (with_reducible first | exact HB.out | apply below_alloc | apply pw_below_drewN | apply below_drew1 | refine below_set ?_ GE305.out | refine below_set ?_ GE306.out) | exact HB.out))))
 (case aL => have := LMc14.out; omega)
 intro v319 w27 ho hb hg hat
 rw [← Ny318.out] at ho
 have n0_ := ak (Kd.R_over' (zR HO_8.out) (Kd.R_typed (zR HO313.out)) (by decide) hg)
 have n1_ := ak (blk_grown (g := gb305) (o := .cells #[.int .i16 a0_0, .slice A0_1 l0_1.length c0_1] 27 (0, 0)) (zK BK305.out) hg (Kd.R_ne HO313.out BK305.out (by decide)))
 have n2_ := ak (blk_grown (g := gb306) (o := .cells #[.int .i64 a2_0, .int .i64 a2_1] 40 (0, 0)) (zK BK306.out) hg (Kd.R_ne HO313.out BK306.out (by decide)))
 have n3_ := ak (hb)
 have n4_ := ak (ho)
 clear HO_8 BK305 BK306 HB HO313
 have HO_8 := n0_
 have BK305 := n1_
 have BK306 := n2_
 have HB := n3_
 have HO320 := n4_
 clear n0_ n1_ n2_ n3_ n4_ ho hb hg hat
 refine hK.out _ _ ⟨(blk_cell BK306.out 0).trans rfl, (blk_cell BK306.out 1).trans rfl⟩ (fun hHeld => ?_)
 clear hK K
 refine norm_ (a' := ?_) ?_ ?_
 rotate_left
 {
 show Act.put _ (some 25) _ = _
 simp only [Act.put, zs, zz, zk, i64_w, i32_w]
 rfl
 }
 refine one_ (i := 9) (N := some 30) (bA 12 2047) rfl rfl (one_of HT_.out (by kernel_rfl)) (by decide) (fun K hK => ?_)
 refine Kd.R_append_rows_step k47 (w0 := w) w.heap.size (by rfl) (.tmp 25) (.tmp 29) 29 47 (.agg #[(.int .i16 0), (.int .i8 0)]) 4 rfl Try.underlying29 info47 rfl (by decide) (by omega) v319 y318 y321 _ _ _ (fun _ => True) (fun _ => False) rfl rfl ?aO ?aR (fun _ _ h => h) (fun _ h => h.elim) ?aF ?aB ?aS ?aL ?_
 (case aR => repeat (first | exact (Kd.C_below HR324.out HB.out) | (with_reducible refine Kd.C_alloc ?_ _) | (with_reducible refine Kd.C_drewN ?_ _) | (with_reducible refine Kd.C_drew ?_)))
 (case aB => exact (by repeat (first | (with_reducible first | exact HB.out | apply below_alloc | apply pw_below_drewN | apply below_drew1 | refine below_set ?_ GE305.out | refine below_set ?_ GE306.out) | exact HB.out)))
 (case aF => exact (fun _ _ => trivial))
 (case aO => exact (zR HO320.out))
 (case aS => exact (below_size (by repeat (first | (with_reducible first | exact HB.out | apply below_alloc | apply pw_below_drewN | apply below_drew1 | refine below_set ?_ GE305.out | refine below_set ?_ GE306.out) | exact HB.out))))
 (case aL => have := LMc18.out; omega)
 intro v326 w28 ho hb hg hat
 rw [← Ny325.out] at ho
 have n0_ := ak (Kd.R_over' (zR HO_8.out) (Kd.R_typed (zR HO320.out)) (by decide) hg)
 have n1_ := ak (blk_grown (g := gb305) (o := .cells #[.int .i16 a0_0, .slice A0_1 l0_1.length c0_1] 27 (0, 0)) (zK BK305.out) hg (Kd.R_ne HO320.out BK305.out (by decide)))
 have n2_ := ak (blk_grown (g := gb306) (o := .cells #[.int .i64 a2_0, .int .i64 a2_1] 40 (0, 0)) (zK BK306.out) hg (Kd.R_ne HO320.out BK306.out (by decide)))
 have n3_ := ak (hb)
 have n4_ := ak (ho)
 clear HO_8 BK305 BK306 HB HO320
 have HO_8 := n0_
 have BK305 := n1_
 have BK306 := n2_
 have HB := n3_
 have HO327 := n4_
 clear n0_ n1_ n2_ n3_ n4_ ho hb hg hat
 obtain ⟨Ao29, co29, eo29⟩ := Kd.R_slice HO327.out
 (first | subst eo29 | (injection eo29 with f1_ f2_ f3_; have f4_ := f1_.symm; have f5_ := f3_.symm; clear f1_ f2_ f3_; subst f4_; subst f5_))
 refine hK.out _ _ ⟨(blk_cell BK306.out 0).trans rfl, (blk_cell BK306.out 1).trans rfl⟩ (fun hHeld => ?_)
 clear hK K
 refine norm_ (a' := ?_) ?_ ?_
 rotate_left
 {
 show Act.put _ (some 30) _ = _
 simp only [Act.put, zs, zz, zk, i64_w, i32_w]
 rfl
 }
 refine one_ (i := 11) (N := some 32) (bA 12 4095) rfl rfl (one_of HT_.out (by kernel_rfl)) (by decide) (fun K hK => ?_)
 refine goes_ Try.func34 (by kernel_rfl) rfl #[.slice Ao29 y325.length co29, .agg #[.int .i64 a2_0, .int .i64 a2_1]] (by rfl) rfl rfl gl_ ?_
 with_reducible refine (spec_l03Last.calls k1 _ _ y325 a2_0 a2_1 true _ ?side1 ?side2 A19.out).mono ?_
 (case side1 => exact zC (Kd.R_reads' HO327.out).2.2)
 (case side2 => exact (Kd.R_reads' HO327.out).2.1)
 rintro e w30 ⟨rfl, hb⟩
 refine ⟨_, rfl, ?_⟩
 have n0_ := ak (Kd.R_below (zR HO_8.out) hb)
 have n1_ := ak (Kd.R_below (zR HO327.out) hb)
 have n2_ := ak (blk_below (g := gb305) (o := .cells #[.int .i16 a0_0, .slice A0_1 l0_1.length c0_1] 27 (0, 0)) (zK BK305.out) hb)
 have n3_ := ak (blk_below (g := gb306) (o := .cells #[.int .i64 a2_0, .int .i64 a2_1] 40 (0, 0)) (zK BK306.out) hb)
 have n4_ := ak (below_step (by repeat (first | (with_reducible first | exact HB.out | apply below_alloc | apply pw_below_drewN | apply below_drew1 | refine below_set ?_ GE305.out | refine below_set ?_ GE306.out) | exact HB.out)) hb)
 clear HO_8 HO327 BK305 BK306 HB
 have HO_8 := n0_
 have HO327 := n1_
 have BK305 := n2_
 have BK306 := n3_
 have HB := n4_
 clear n0_ n1_ n2_ n3_ n4_
 (try clear hb)
 (try clear hb2)
 (try clear hk)
 (try clear hi)
 refine hK.out _ _ ⟨(blk_cell BK306.out 0).trans rfl, (blk_cell BK306.out 1).trans rfl⟩ (fun hHeld => ?_)
 clear hK K
 refine norm_ (a' := ?_) ?_ ?_
 rotate_left
 {
 show Act.put _ (some 32) _ = _
 simp only [Act.put, zs, zz, zk, i64_w, i32_w]
 rfl
 }
 refine done_ (done_of HT_.out (by kernel_rfl)) ?_
 try go_wp2_with (first | ((with_reducible refine gate_builtin (b := .append) (xs := #[.tmp 33, .tmp 35]) rfl ?_); at_builtin; refine Kd.R_append (Kd.int .i64) (w0 := w) w.heap.size rfl (.tmp 33) (.tmp 35) 41 2 (.int .i64 0) 8 rfl Try.underlying41 info2 rfl (by decide) (by omega) u8 x8_1 x9_1 [.int .i64 x9_1] (fun _ => True) (fun _ => False) rfl rfl ?aP (fun _ hk => hk.elim) ?aF ?aO ?aB ?aS ?aL ?_; (case aP => exact rfl); (case aB => exact (by repeat (first | (with_reducible first | exact HB.out | apply below_alloc | apply pw_below_drewN | apply below_drew1 | refine below_set ?_ GE305.out | refine below_set ?_ GE306.out) | exact HB.out))); (case aF => exact (fun _ _ => trivial)); (case aO => exact (zR HO_8.out)); (case aS => exact (below_size (by repeat (first | (with_reducible first | exact HB.out | apply below_alloc | apply pw_below_drewN | apply below_drew1 | refine below_set ?_ GE305.out | refine below_set ?_ GE306.out) | exact HB.out)))); (case aL => have := LMc21.out; omega); intro v330 w31 ho hb hg hat; rw [← Ny329.out] at ho; have n0_ := ak (blk_grown (g := gb305) (o := .cells #[.int .i16 a0_0, .slice A0_1 l0_1.length c0_1] 27 (0, 0)) (zK BK305.out) hg (Kd.R_ne HO_8.out BK305.out (by decide))); have n1_ := ak (blk_grown (g := gb306) (o := .cells #[.int .i64 a2_0, .int .i64 a2_1] 40 (0, 0)) (zK BK306.out) hg (Kd.R_ne HO_8.out BK306.out (by decide))); have n2_ := ak (Kd.R_over' (zR HO327.out) (Kd.R_typed (zR HO_8.out)) (by decide) hg); have n3_ := ak (hb); have n4_ := ak (ho); clear BK305 BK306 HO327 HB HO_8; have BK305 := n0_; have BK306 := n1_; have HO327 := n2_; have HB := n3_; have HO331 := n4_; clear n0_ n1_ n2_ n3_ n4_; clear ho hb hg hat))
 go_roundg k1
 case measure => have := HK1.out; omega
 case rel => exact ⟨(y329), (ji15), (by first | rfl | (simp; done) | (simp only [← hji15] <;> (first | rfl | simp)) | (simp [*]; done)), H', ⟨by have := HK1.out; omega⟩, ⟨(zR HO331.out)⟩, ⟨(zK BK305.out)⟩, ⟨(zK BK306.out)⟩, ⟨by repeat (first | (with_reducible first | exact HB.out | apply below_alloc | apply pw_below_drewN | apply below_drew1 | refine below_set ?_ GE305.out | refine below_set ?_ GE306.out) | exact HB.out)⟩⟩
 )
 }
 · rw [if_neg c21] at H; exact absurd H (by simp)
 }
 {
 replace c20 := Bool.eq_false_iff.mpr c20
 subst c20
 have H1 : (spec_MissingBy.l0 k1 l1 x8_1 ji15 a2_0 a2_1) = some (r1, r2) := by rw [if_neg (show ¬ (false = true) by decide)] at H; exact H
 clear H
 have H := H1
 clear H1
 as_aux_lemma => (
 have H' := ak H
 clear H
 try go_wp2
 have n0_ := ak (Kd.R_drew HO_8.out)
 have n1_ := ak (blk_drew BK305.out)
 have n2_ := ak (blk_drew BK306.out)
 have n3_ := ak (below_drew1 HB.out)
 clear HO_8 BK305 BK306 HB
 have HO_8 := n0_
 have BK305 := n1_
 have BK306 := n2_
 have HB := n3_
 clear n0_ n1_ n2_ n3_
 have q33 : (x9_1 : Int) ≤ ((l1.length : Int) : Int) := of_decide_eq_true (by first | (with_reducible assumption) | assumption)
 obtain ⟨i033, hi033, _, hsz33, _⟩ := info_parts info47
 have hroom33 : l1.length ≤ c1 := HC1.out
 have hC33 : Kd.C k47 _ A1 l1.length l1 := HR1.out
 have hcut33 := cut_to (P := Try.prog) 29 47 .i64 Try.underlying29 hi033 A1 l1.length c1 x9_1 (of_decide_eq_true (by first | (with_reducible assumption) | assumption)) q33 hroom33
 have hr33 := Kd.C_take (m := (x9_1 : Int).toNat) hC33 (by omega)
 have hy33 : y314.length = (x9_1 : Int).toNat := (by rw [Ny314.out, List.length_take]; omega)
 rw [← Ny314.out] at hr33
 rw [← hy33] at hcut33
 have HR317 := ak hr33
 have HC317 := ak (show y314.length ≤ c1 from by omega)
 clear hr33 hC33 hroom33 hi033 hsz33
 have KY33 := ak hy33
 clear hy33
 replace q33 := eq_true q33
 have q34 : ((ji15) : Int) ≤ ((l1.length : Int) : Int) := of_decide_eq_true (by first | (with_reducible assumption) | assumption)
 obtain ⟨i034, hi034, _, hsz34, _⟩ := info_parts info47
 have hroom34 : l1.length ≤ c1 := HC1.out
 have hC34 : Kd.C k47 _ A1 l1.length l1 := HR1.out
 have q034 : (0 : Int) ≤ ((ji15) : Int) := of_decide_eq_true (by first | (with_reducible assumption) | assumption)
 have hcut34 := cut_from (P := Try.prog) 29 47 .i64 Try.underlying29 hi034 2 hsz34 A1 l1.length c1 (ji15) q034 q34
 have hr34 := Kd.C_drop (m := ((ji15) : Int).toNat) (c := c1) hC34 (by omega) hroom34
 obtain ⟨A34, hA34⟩ : ∃ Aq_, Aq_ = (if c1 = ((ji15) : Int).toNat then A1 else (A1 : Option Addr).map (·.add (((ji15) : Int).toNat * 2))) := ⟨_, rfl⟩
 obtain ⟨c34, hc34⟩ : ∃ cq_, cq_ = c1 - ((ji15) : Int).toNat := ⟨_, rfl⟩
 have hy34 : y321.length = l1.length - ((ji15) : Int).toNat := (by rw [Ny321.out, List.length_drop] <;> omega)
 rw [show (l1).drop ((ji15) : Int).toNat = y321 from Ny321.out.symm] at hr34
 replace hr34 : Kd.C k47 _ A34 y321.length y321 := (by rw [hA34]; exact hr34)
 rw [← hy34, ← hA34, ← hc34] at hcut34
 have HR324 := ak hr34
 have HC324 := ak (show y321.length ≤ c34 from by rw [hy34, hc34]; exact Nat.sub_le_sub_right hroom34 _)
 clear hr34 hC34 hroom34 hi034 hsz34 hc34
 have KY34 := ak hy34
 have KA34 := ak hA34
 clear hy34 hA34
 replace q34 := eq_true q34
 refine start_ (n := 12) (S := fun w' => w'.cell? ⟨gb306, 0, none⟩ = some (.int .i64 a2_0) ∧ w'.cell? ⟨gb306, 1, none⟩ = some (.int .i64 a2_1)) (ds := []) (bA 12 0) (by kernel_rfl) rfl rfl ⟨(blk_cell BK306.out 0).trans rfl, (blk_cell BK306.out 1).trans rfl⟩ (fun hHeld => ?_); refine with_tabW spec_MissingBy.tab7 spec_MissingBy.bits7 (fun HT_ HW_ => ?_)
 generalize wr.drew = w32 at HO_8 BK305 BK306 HB HR317 HR324 hHeld ⊢
 refine pure_ (i := 1) (N := some 22) (v := ?_) (a' := ?_) (bA 12 2) rfl rfl (any_of HT_.out (by kernel_rfl)) (fun _ _ _ h => h) (Or.inl ⟨by rfl, ?_⟩) ?_ ?_
 rotate_left
 {
 intro w'
 go_simp
 with_reducible rfl
 }
 rotate_left
 · exact pt_
 refine pure_ (i := 2) (N := some 23) (v := ?_) (a' := ?_) (bA 12 6) rfl rfl (any_of HT_.out (by kernel_rfl)) (fun _ _ _ h => h) (Or.inl ⟨by rfl, ?_⟩) ?_ ?_
 rotate_left
 {
 intro w'
 go_simp
 with_reducible rfl
 }
 rotate_left
 · exact pt_
 refine pure_ (i := 3) (N := some 24) (v := ?_) (a' := ?_) (bA 12 14) rfl rfl (any_of HT_.out (by kernel_rfl)) (fun _ _ _ h => h) (Or.inl ⟨by rfl, ?_⟩) ?_ ?_
 rotate_left
 {
 intro w'
 go_simp
 with_reducible rfl
 }
 rotate_left
 · exact pt_
 refine pure_ (i := 5) (N := some 26) (v := ?_) (a' := ?_) (bA 12 46) rfl rfl (any_of HT_.out (by kernel_rfl)) (fun _ _ _ h => h) (Or.inl ⟨by rfl, ?_⟩) ?_ ?_
 rotate_left
 {
 intro w'
 go_simp
 with_reducible rfl
 }
 rotate_left
 · exact pt_
 refine pure_ (i := 6) (N := some 27) (v := ?_) (a' := ?_) (bA 12 110) rfl rfl (any_of HT_.out (by kernel_rfl)) (fun _ _ _ h => h) (Or.inl ⟨by rfl, ?_⟩) ?_ ?_
 rotate_left
 {
 intro w'
 go_simp
 with_reducible rfl
 }
 rotate_left
 · exact pt_
 refine pure_ (i := 7) (N := some 28) (v := ?_) (a' := ?_) (bA 12 238) rfl rfl (any_of HT_.out (by kernel_rfl)) (fun _ _ _ h => h) (Or.inl ⟨by rfl, ?_⟩) ?_ ?_
 rotate_left
 {
 intro w'
 go_simp
 with_reducible rfl
 }
 rotate_left
 · exact pt_
 refine pure_ (i := 8) (N := some 29) (v := ?_) (a' := ?_) (bA 12 494) rfl rfl (any_of HT_.out (by kernel_rfl)) (fun _ _ _ h => h) (Or.inl ⟨by rfl, ?_⟩) ?_ ?_
 rotate_left
 {
 intro w'
 go_simp
 with_reducible rfl
 }
 rotate_left
 · exact pt_
 refine take_ (i := 10) (N := some 31) (v := ?_) (a' := ?_) (bA 12 1518) rfl rfl (take_ofW HT_.out HW_.out (by kernel_rfl)) (fun _ _ _ h => h) (Or.inl ⟨by rfl, ?_⟩) hHeld ?_ ?_
 rotate_left
 {
 rintro w' ⟨s0, s1⟩
 go_simp
 with_reducible rfl
 }
 rotate_left
 · exact pt_
 refine one_ (i := 0) (N := some 21) (bA 12 1519) rfl rfl (one_of HT_.out (by kernel_rfl)) (by decide) (fun K hK => ?_)
 refine Kd.R_lit_step k47 _ 47 ?hg (N := 21) ?hd (xs := ([] : List (S47))) (inner := []) (ok := fun _ => True) (okp := fun _ => True) ?hr ?hp (fun _ hk => hk) trivial (Below.refl _ _) (Nat.le_refl _) (by simp) ?_; (case hd => rfl); (case hg => rfl); (case hr => first | (go_simp; done) | (go_simp; rfl)); (case hp => exact (Reps.none _ _))
 intro v312 w35 ho36 hb hg_ hnew_
 clear hg_ hnew_
 (first | rw [← Ny311.out] at ho36 | (simp only [Int.reduceToNat] at ho36; rw [← Ny311.out] at ho36))
 have n0_ := ak (Kd.R_below (zR HO_8.out) hb)
 have n1_ := ak (Kd.R_lower ho36 (below_size (by repeat (first | (with_reducible first | exact HB.out | apply below_alloc | apply pw_below_drewN | apply below_drew1 | refine below_set ?_ GE305.out | refine below_set ?_ GE306.out) | exact HB.out))))
 have n2_ := ak (blk_below (g := gb305) (o := .cells #[.int .i16 a0_0, .slice A0_1 l0_1.length c0_1] 27 (0, 0)) (zK BK305.out) hb)
 have n3_ := ak (blk_below (g := gb306) (o := .cells #[.int .i64 a2_0, .int .i64 a2_1] 40 (0, 0)) (zK BK306.out) hb)
 have n4_ := ak (below_step (by repeat (first | (with_reducible first | exact HB.out | apply below_alloc | apply pw_below_drewN | apply below_drew1 | refine below_set ?_ GE305.out | refine below_set ?_ GE306.out) | exact HB.out)) hb)
 clear HO_8 BK305 BK306 HB
 have HO_8 := n0_
 have HO313 := n1_
 have BK305 := n2_
 have BK306 := n3_
 have HB := n4_
 clear n0_ n1_ n2_ n3_ n4_ hb ho36
 refine hK.out _ _ ⟨(blk_cell BK306.out 0).trans rfl, (blk_cell BK306.out 1).trans rfl⟩ (fun hHeld => ?_)
 clear hK K
 refine norm_ (a' := ?_) ?_ ?_
 rotate_left
 {
 show Act.put _ (some 21) _ = _
 simp only [Act.put, zs, zz, zk, i64_w, i32_w]
 rfl
 }
 refine one_ (i := 4) (N := some 25) (bA 12 1535) rfl rfl (one_of HT_.out (by kernel_rfl)) (by decide) (fun K hK => ?_)
 refine Kd.R_append_rows_step k47 (w0 := w) w.heap.size (by rfl) (.tmp 21) (.tmp 24) 29 47 (.agg #[(.int .i16 0), (.int .i8 0)]) 4 rfl Try.underlying29 info47 rfl (by decide) (by omega) v312 y311 y314 _ _ _ (fun _ => True) (fun _ => False) rfl rfl ?aO ?aR (fun _ _ h => h) (fun _ h => h.elim) ?aF ?aB ?aS ?aL ?_
 (case aR => repeat (first | exact (Kd.C_below HR317.out HB.out) | (with_reducible refine Kd.C_alloc ?_ _) | (with_reducible refine Kd.C_drewN ?_ _) | (with_reducible refine Kd.C_drew ?_)))
 (case aB => exact (by repeat (first | (with_reducible first | exact HB.out | apply below_alloc | apply pw_below_drewN | apply below_drew1 | refine below_set ?_ GE305.out | refine below_set ?_ GE306.out) | exact HB.out)))
 (case aF => exact (fun _ _ => trivial))
 (case aO => exact (zR HO313.out))
 (case aS => exact (below_size (by repeat (first | (with_reducible first | exact HB.out | apply below_alloc | apply pw_below_drewN | apply below_drew1 | refine below_set ?_ GE305.out | refine below_set ?_ GE306.out) | exact HB.out))))
 (case aL => have := LMc14.out; omega)
 intro v319 w37 ho hb hg hat
 rw [← Ny318.out] at ho
 have n0_ := ak (Kd.R_over' (zR HO_8.out) (Kd.R_typed (zR HO313.out)) (by decide) hg)
 have n1_ := ak (blk_grown (g := gb305) (o := .cells #[.int .i16 a0_0, .slice A0_1 l0_1.length c0_1] 27 (0, 0)) (zK BK305.out) hg (Kd.R_ne HO313.out BK305.out (by decide)))
 have n2_ := ak (blk_grown (g := gb306) (o := .cells #[.int .i64 a2_0, .int .i64 a2_1] 40 (0, 0)) (zK BK306.out) hg (Kd.R_ne HO313.out BK306.out (by decide)))
 have n3_ := ak (hb)
 have n4_ := ak (ho)
 clear HO_8 BK305 BK306 HB HO313
 have HO_8 := n0_
 have BK305 := n1_
 have BK306 := n2_
 have HB := n3_
 have HO320 := n4_
 clear n0_ n1_ n2_ n3_ n4_ ho hb hg hat
 refine hK.out _ _ ⟨(blk_cell BK306.out 0).trans rfl, (blk_cell BK306.out 1).trans rfl⟩ (fun hHeld => ?_)
 clear hK K
 refine norm_ (a' := ?_) ?_ ?_
 rotate_left
 {
 show Act.put _ (some 25) _ = _
 simp only [Act.put, zs, zz, zk, i64_w, i32_w]
 rfl
 }
 refine one_ (i := 9) (N := some 30) (bA 12 2047) rfl rfl (one_of HT_.out (by kernel_rfl)) (by decide) (fun K hK => ?_)
 refine Kd.R_append_rows_step k47 (w0 := w) w.heap.size (by rfl) (.tmp 25) (.tmp 29) 29 47 (.agg #[(.int .i16 0), (.int .i8 0)]) 4 rfl Try.underlying29 info47 rfl (by decide) (by omega) v319 y318 y321 _ _ _ (fun _ => True) (fun _ => False) rfl rfl ?aO ?aR (fun _ _ h => h) (fun _ h => h.elim) ?aF ?aB ?aS ?aL ?_
 (case aR => repeat (first | exact (Kd.C_below HR324.out HB.out) | (with_reducible refine Kd.C_alloc ?_ _) | (with_reducible refine Kd.C_drewN ?_ _) | (with_reducible refine Kd.C_drew ?_)))
 (case aB => exact (by repeat (first | (with_reducible first | exact HB.out | apply below_alloc | apply pw_below_drewN | apply below_drew1 | refine below_set ?_ GE305.out | refine below_set ?_ GE306.out) | exact HB.out)))
 (case aF => exact (fun _ _ => trivial))
 (case aO => exact (zR HO320.out))
 (case aS => exact (below_size (by repeat (first | (with_reducible first | exact HB.out | apply below_alloc | apply pw_below_drewN | apply below_drew1 | refine below_set ?_ GE305.out | refine below_set ?_ GE306.out) | exact HB.out))))
 (case aL => have := LMc18.out; omega)
 intro v326 w38 ho hb hg hat
 rw [← Ny325.out] at ho
 have n0_ := ak (Kd.R_over' (zR HO_8.out) (Kd.R_typed (zR HO320.out)) (by decide) hg)
 have n1_ := ak (blk_grown (g := gb305) (o := .cells #[.int .i16 a0_0, .slice A0_1 l0_1.length c0_1] 27 (0, 0)) (zK BK305.out) hg (Kd.R_ne HO320.out BK305.out (by decide)))
 have n2_ := ak (blk_grown (g := gb306) (o := .cells #[.int .i64 a2_0, .int .i64 a2_1] 40 (0, 0)) (zK BK306.out) hg (Kd.R_ne HO320.out BK306.out (by decide)))
 have n3_ := ak (hb)
 have n4_ := ak (ho)
 clear HO_8 BK305 BK306 HB HO320
 have HO_8 := n0_
 have BK305 := n1_
 have BK306 := n2_
 have HB := n3_
 have HO327 := n4_
 clear n0_ n1_ n2_ n3_ n4_ ho hb hg hat
 obtain ⟨Ao39, co39, eo39⟩ := Kd.R_slice HO327.out
 (first | subst eo39 | (injection eo39 with f1_ f2_ f3_; have f4_ := f1_.symm; have f5_ := f3_.symm; clear f1_ f2_ f3_; subst f4_; subst f5_))
 refine hK.out _ _ ⟨(blk_cell BK306.out 0).trans rfl, (blk_cell BK306.out 1).trans rfl⟩ (fun hHeld => ?_)
 clear hK K
 refine norm_ (a' := ?_) ?_ ?_
 rotate_left
 {
 show Act.put _ (some 30) _ = _
 simp only [Act.put, zs, zz, zk, i64_w, i32_w]
 rfl
 }
 refine one_ (i := 11) (N := some 32) (bA 12 4095) rfl rfl (one_of HT_.out (by kernel_rfl)) (by decide) (fun K hK => ?_)
 refine goes_ Try.func34 (by kernel_rfl) rfl #[.slice Ao39 y325.length co39, .agg #[.int .i64 a2_0, .int .i64 a2_1]] (by rfl) rfl rfl gl_ ?_
 with_reducible refine (spec_l03Last.calls k1 _ _ y325 a2_0 a2_1 false _ ?side1 ?side2 A19.out).mono ?_
 (case side1 => exact zC (Kd.R_reads' HO327.out).2.2)
 (case side2 => exact (Kd.R_reads' HO327.out).2.1)
 rintro e w40 ⟨rfl, hb⟩
 refine ⟨_, rfl, ?_⟩
 have n0_ := ak (Kd.R_below (zR HO_8.out) hb)
 have n1_ := ak (Kd.R_below (zR HO327.out) hb)
 have n2_ := ak (blk_below (g := gb305) (o := .cells #[.int .i16 a0_0, .slice A0_1 l0_1.length c0_1] 27 (0, 0)) (zK BK305.out) hb)
 have n3_ := ak (blk_below (g := gb306) (o := .cells #[.int .i64 a2_0, .int .i64 a2_1] 40 (0, 0)) (zK BK306.out) hb)
 have n4_ := ak (below_step (by repeat (first | (with_reducible first | exact HB.out | apply below_alloc | apply pw_below_drewN | apply below_drew1 | refine below_set ?_ GE305.out | refine below_set ?_ GE306.out) | exact HB.out)) hb)
 clear HO_8 HO327 BK305 BK306 HB
 have HO_8 := n0_
 have HO327 := n1_
 have BK305 := n2_
 have BK306 := n3_
 have HB := n4_
 clear n0_ n1_ n2_ n3_ n4_
 (try clear hb)
 (try clear hb2)
 (try clear hk)
 (try clear hi)
 refine hK.out _ _ ⟨(blk_cell BK306.out 0).trans rfl, (blk_cell BK306.out 1).trans rfl⟩ (fun hHeld => ?_)
 clear hK K
 refine norm_ (a' := ?_) ?_ ?_
 rotate_left
 {
 show Act.put _ (some 32) _ = _
 simp only [Act.put, zs, zz, zk, i64_w, i32_w]
 rfl
 }
 refine done_ (done_of HT_.out (by kernel_rfl)) ?_
 try go_wp2
 go_roundg k1
 case measure => have := HK1.out; omega
 case rel => exact ⟨(x8_1), (ji15), (by first | rfl | (simp; done) | (simp only [← hji15] <;> (first | rfl | simp)) | (simp [*]; done)), H', ⟨by have := HK1.out; omega⟩, ⟨(zR HO_8.out)⟩, ⟨(zK BK305.out)⟩, ⟨(zK BK306.out)⟩, ⟨by repeat (first | (with_reducible first | exact HB.out | apply below_alloc | apply pw_below_drewN | apply below_drew1 | refine below_set ?_ GE305.out | refine below_set ?_ GE306.out) | exact HB.out)⟩⟩
 )
 }
 }
 · rw [if_neg c18] at H; exact absurd H (by simp)
 }
 · rw [if_neg c17] at H; exact absurd H (by simp)
 }
 · rw [if_neg c16] at H; exact absurd H (by simp)
 }
 · rw [if_neg c14] at H; exact absurd H (by simp)
 }
 · rw [if_neg c13] at H; exact absurd H (by simp)
 }
 · rw [if_neg c12] at H; exact absurd H (by simp)
 }
 {
 rw [if_neg c11] at H
 have c11b0 : decide (x9_1 < (l1.length : Int)) = false := decide_eq_false c11
 clear c11
 as_aux_lemma => (
 simp only [Option.some.injEq, Prod.mk.injEq] at H
 obtain ⟨rfl, rfl⟩ := H
 go_wp2
 go_ret2
 exact ⟨_, by first | rfl | (simp [errW_none, errW_some] <;> rfl) | (simp [*, errW_none, errW_some] <;> rfl), by (with_reducible repeat (first | apply Kd.R_alloc | apply Kd.R_drewN | apply Kd.R_drew)); exact HO_8.out, by repeat (first | (with_reducible first | exact HB.out | apply below_alloc | apply pw_below_drewN | apply below_drew1 | refine below_set ?_ GE305.out | refine below_set ?_ GE306.out) | exact HB.out)⟩
 )
 }
 )
 )
 }
 {
 replace c5 := Bool.eq_false_iff.mpr c5
 subst c5
 have H1 : (some (y307, 1)) = some (r1, r2) := by rw [if_neg (show ¬ (false = true) by decide)] at H; exact H
 clear H
 have H := H1
 clear H1
 as_aux_lemma => (
 simp only [Option.some.injEq, Prod.mk.injEq] at H
 obtain ⟨rfl, rfl⟩ := H
 go_enter Try.func14, Try.ntmps14
 go_wp2_with (first | ((with_reducible refine gate_dst (N := 3) rfl ?_); refine box_event ?hg (N := 3) ?hd (cs := #[.int .i16 a0_0, .slice A0_1 l0_1.length c0_1]) (t := 27) ?hr ?_; (case hd => rfl); (case hg => rfl); (case hr => first | (go_simp; done) | (go_simp; rfl)); intro gb305 hg w41 hbox hb; have n0_ := ak (below_step (zB HB.out) hb); have n1_ := ak (hbox); have n2_ := ak ((by rw [hg]; exact (below_size (zB HB.out)) : w.heap.size ≤ gb305)); have n3_ := ak ((by rw [hg]; exact (below_size (zB HB.out)) : w.heap.size ≤ gb305)); clear HB; have HB := n0_; have BK305 := n1_; have GW305 := n2_; have GE305 := n3_; clear n0_ n1_ n2_ n3_; clear hb hbox hg) | ((with_reducible refine gate_dst (N := 5) rfl ?_); refine box_event ?hg (N := 5) ?hd (cs := #[.int .i64 a2_0, .int .i64 a2_1]) (t := 40) ?hr ?_; (case hd => rfl); (case hg => rfl); (case hr => first | (go_simp; done) | (go_simp; rfl)); intro gb306 hg w42 hbox hb; have n0_ := ak (blk_below (g := gb305) (o := .cells #[.int .i16 a0_0, .slice A0_1 l0_1.length c0_1] 27 (0, 0)) (zK BK305.out) hb); have n1_ := ak (below_step (zBG HB.out GE305.out) hb); have n2_ := ak (hbox); have n3_ := ak ((by rw [hg]; exact (below_size (zBG HB.out GE305.out)) : w.heap.size ≤ gb306)); have n4_ := ak ((by rw [hg]; exact (below_size (zBG HB.out GE305.out)) : w.heap.size ≤ gb306)); have n5_ := ak ((by rw [hg]; exact Nat.ne_of_lt (blk_lt (g := gb305) (o := .cells #[.int .i16 a0_0, .slice A0_1 l0_1.length c0_1] 27 (0, 0)) (zK BK305.out)) : gb305 ≠ gb306)); have n6_ := ak ((by rw [hg]; exact Nat.ne_of_gt (blk_lt (g := gb305) (o := .cells #[.int .i16 a0_0, .slice A0_1 l0_1.length c0_1] 27 (0, 0)) (zK BK305.out)) : gb306 ≠ gb305)); clear BK305 HB; have BK305 := n0_; have HB := n1_; have BK306 := n2_; have GW306 := n3_; have GE306 := n4_; have NB305_306 := n5_; have NB306_305 := n6_; clear n0_ n1_ n2_ n3_ n4_ n5_ n6_; clear hb hbox hg) | ((with_reducible refine gate_dst (N := 10) rfl ?_); refine Kd.R_lit (Kd.int .i64) _ 2 ?hg (N := 10) ?hd (xs := ([] : List Int)) (inner := []) (ok := fun _ => True) (okp := fun _ => True) ?hr ?hp (fun _ hk => hk) trivial (Below.refl _ _) (Nat.le_refl _) (by simp) ?_; (case hd => rfl); (case hg => rfl); (case hr => first | (go_simp; done) | (go_simp; rfl)); (case hp => exact (Reps.none _ _)); intro v308 w43 ho44 hb hg_ hnew_; clear hg_ hnew_; (first | rw [← Ny307.out] at ho44 | (simp only [Int.reduceToNat] at ho44; rw [← Ny307.out] at ho44)); have n0_ := ak (Kd.R_lower ho44 (below_size (by repeat (first | (with_reducible first | exact HB.out | apply below_alloc | apply pw_below_drewN | apply below_drew1 | refine below_set ?_ GE305.out | refine below_set ?_ GE306.out) | exact HB.out)))); have n1_ := ak (blk_below (g := gb305) (o := .cells #[.int .i16 a0_0, .slice A0_1 l0_1.length c0_1] 27 (0, 0)) (zK BK305.out) hb); have n2_ := ak (blk_below (g := gb306) (o := .cells #[.int .i64 a2_0, .int .i64 a2_1] 40 (0, 0)) (zK BK306.out) hb); have n3_ := ak (below_step (by repeat (first | (with_reducible first | exact HB.out | apply below_alloc | apply pw_below_drewN | apply below_drew1 | refine below_set ?_ GE305.out | refine below_set ?_ GE306.out) | exact HB.out)) hb); clear BK305 BK306 HB; have HO309 := n0_; have BK305 := n1_; have BK306 := n2_; have HB := n3_; clear n0_ n1_ n2_ n3_; clear hb ho44) | ((with_reducible refine gate_callee (f := 26) rfl ?_); refine goesL_ (some 12) rfl rfl Try.func26 (by kernel_rfl) rfl #[.pointer (some ⟨gb305, 0, none⟩), .slice A1 l1.length c1] rfl gl_ ?_; (with_reducible refine (spec_l03Holds.calls k gb305 a0_0 A0_1 c0_1 l0_1 _ _ l1 false _ ?side1 ?side2 ?side3 ?side4 ?side5 A4.out).mono ?_); (case side1 => repeat (first | exact (Kd.C_below HR0_1.out HB.out) | (with_reducible refine Kd.C_alloc ?_ _) | (with_reducible refine Kd.C_drewN ?_ _) | (with_reducible refine Kd.C_drew ?_))); (case side2 => exact HC0_1.out); (case side3 => repeat (first | exact (Kd.C_below HR1.out HB.out) | (with_reducible refine Kd.C_alloc ?_ _) | (with_reducible refine Kd.C_drewN ?_ _) | (with_reducible refine Kd.C_drew ?_))); (case side4 => exact HC1.out); (case side5 => exact (by first | exact BK305.out | ((with_reducible repeat (first | refine blk_drewN ?_ _ | refine blk_drew ?_ | refine blk_alloc ?_ _)); exact BK305.out))); rintro e w45 ⟨rfl, hb⟩; refine ⟨_, rfl, ?_⟩; have n0_ := ak (Kd.R_below (zR HO309.out) hb); have n1_ := ak (blk_below (g := gb305) (o := .cells #[.int .i16 a0_0, .slice A0_1 l0_1.length c0_1] 27 (0, 0)) (zK BK305.out) hb); have n2_ := ak (blk_below (g := gb306) (o := .cells #[.int .i64 a2_0, .int .i64 a2_1] 40 (0, 0)) (zK BK306.out) hb); have n3_ := ak (below_step (by repeat (first | (with_reducible first | exact HB.out | apply below_alloc | apply pw_below_drewN | apply below_drew1 | refine below_set ?_ GE305.out | refine below_set ?_ GE306.out) | exact HB.out)) hb); clear HO309 BK305 BK306 HB; have HO309 := n0_; have BK305 := n1_; have BK306 := n2_; have HB := n3_; clear n0_ n1_ n2_ n3_; (try clear hb); (try clear hb2); (try clear hk); (try clear hi)))
 go_ret2
 exact ⟨_, by first | rfl | (simp [errW_none, errW_some] <;> rfl) | (simp [*, errW_none, errW_some] <;> rfl), by (with_reducible repeat (first | apply Kd.R_alloc | apply Kd.R_drewN | apply Kd.R_drew)); exact HO309.out, by repeat (first | (with_reducible first | exact HB.out | apply below_alloc | apply pw_below_drewN | apply below_drew1 | refine below_set ?_ GE305.out | refine below_set ?_ GE306.out) | exact HB.out)⟩
 )
 }
/-! ### spec_l00Same: function 35 -/
def spec_l00Same.l0 : Nat → List Int → List Int → Int → Option (Bool)
  | 0, _, _, _ => none
  | k + 1, x0, x1, x5 => if x5 < (x0.length : Int) then (if 0 ≤ x5 then (if x5 < (x1.length : Int) then (if (rd x0 x5) = (rd x1 x5) then (spec_l00Same.l0 k x0 x1 (wrap64 (x5 + 1))) else (some false)) else (none)) else (none)) else (some true)
def spec_l00Same.f (k : Nat) (l0 : List Int) (l1 : List Int) : Option (Bool) := if (l0.length : Int) = (l1.length : Int) then (spec_l00Same.l0 k l0 l1 0) else (some false)
theorem spec_l00Same.mono_l : ∀ k, (∀ y0 y1 y2, LeO (spec_l00Same.l0 k y0 y1 y2) (spec_l00Same.l0 (k + 1) y0 y1 y2))
  | 0 => fun _ _ _ r h => by simp [spec_l00Same.l0] at h
  | k + 1 => by
    have ih0 := spec_l00Same.mono_l k
    · intro y0 y1 y2
      unfold spec_l00Same.l0
      repeat' first
      | (with_reducible exact ih0 _ _ _)
      | (with_reducible exact LeO.refl _)
      | (with_reducible exact LeO.none _)
      | (with_reducible refine LeO.ite ?_ ?_)
      | (with_reducible refine LeO.bind ?_ (fun _ => ?_))
      | exact ih0 _ _ _
      | exact LeO.none _
      | refine LeO.ite ?_ ?_
      | refine LeO.bind ?_ (fun _ => ?_)
theorem spec_l00Same.mono : ∀ a0 a1 k, LeO (spec_l00Same.f k a0 a1) (spec_l00Same.f (k + 1) a0 a1) := by
  intro a0 a1 k
  have ih0 := spec_l00Same.mono_l k
  unfold spec_l00Same.f
  repeat' first
      | (with_reducible exact ih0 _ _ _)
      | (with_reducible exact LeO.refl _)
      | (with_reducible exact LeO.none _)
      | (with_reducible refine LeO.ite ?_ ?_)
      | (with_reducible refine LeO.bind ?_ (fun _ => ?_))
      | exact ih0 _ _ _
      | exact LeO.none _
      | refine LeO.ite ?_ ?_
      | refine LeO.bind ?_ (fun _ => ?_)
set_option maxHeartbeats 8000000 in
set_option maxRecDepth 100000 in
theorem spec_l00Same.calls (k : Nat) (A0 : Option Addr) (c0 : Nat) (l0 : List Int) (A1 : Option Addr) (c1 : Nat) (l1 : List Int) (r : Bool) (w : World) (hr0 : Kd.C (Kd.int .i64) w A0 l0.length l0) (hc0 : l0.length ≤ c0) (hr1 : Kd.C (Kd.int .i64) w A1 l1.length l1) (hc1 : l1.length ≤ c1) (h : spec_l00Same.f k l0 l1 = some r) :
    Calls Try.prog 35 #[.slice A0 l0.length c0, .slice A1 l1.length c1] w fun e w' => e = .returned (.bool r) ∧ Drawn0 w w' := by
 have HR0 := ak hr0
 have HC0 := ak hc0
 clear hr0 hc0
 have HR1 := ak hr1
 have HC1 := ak hc1
 clear hr1 hc1
 have H : (if (l0.length : Int) = (l1.length : Int) then (spec_l00Same.l0 k l0 l1 0) else (some false)) = some r := h
 clear h
 by_cases c3 : (l0.length : Int) = (l1.length : Int)
 {
 rw [if_pos c3] at H
 have c3b0 : ((l0.length : Int) == (l1.length : Int)) = true := beq_iff_eq.mpr c3
 have c3b1 : ((l0.length : Int) != (l1.length : Int)) = false := bne_eq_false_iff_eq.mpr c3
 have c3b2 : (l0.length == l1.length) = true := by first | simpa using c3 | (simp at c3 ⊢; omega)
 clear c3
 have H' := ak H
 clear H
 go_enter Try.func35, Try.ntmps35
 go_wp2
 repeat (go_quiet (fail); try go_wp2)
 go_loopg [5] k (fun kq v5 w' => ∃ (x5_1 : Int), v5 = .int .i64 x5_1 ∧ Aside0 (spec_l00Same.l0 kq l0 l1 x5_1 = some r) ∧ Aside0 (kq ≤ k) ∧ Drawn0 w w')
 case atStart => exact ⟨(0), (by first | rfl | (simp; done) | (simp [*]; done)), H', ⟨Nat.le_refl _⟩, by repeat (first | exact Drawn0.refl _ | apply Drawn0.step)⟩
 case round => (
 clear H'
 try clear c1
 try clear c3
 try clear c3b0
 try clear c3b1
 try clear c3b2
 obtain ⟨x5_1, rfl, HA, HK1, ⟨m1, rfl⟩⟩ := hrel
 cases gk with
 | zero => exact absurd HA.out (by simp [spec_l00Same.l0])
 | succ k1 => (
 have H := HA.out
 clear HA
 simp only [spec_l00Same.l0] at H
 by_cases c4 : x5_1 < (l0.length : Int)
 {
 rw [if_pos c4] at H
 have c4b0 : decide (x5_1 < (l0.length : Int)) = true := decide_eq_true c4
 clear c4
 by_cases c5 : 0 ≤ x5_1
 {
 rw [if_pos c5] at H
 have c5b0 : decide (0 ≤ x5_1) = true := decide_eq_true c5
 clear c5
 by_cases c6 : x5_1 < (l1.length : Int)
 {
 rw [if_pos c6] at H
 have c6b0 : decide (x5_1 < (l1.length : Int)) = true := decide_eq_true c6
 clear c6
 by_cases c7 : (rd l0 x5_1) = (rd l1 x5_1)
 {
 rw [if_pos c7] at H
 have c7b0 : ((rd l0 x5_1) == (rd l1 x5_1)) = true := beq_iff_eq.mpr c7
 have c7b1 : ((rd l0 x5_1) != (rd l1 x5_1)) = false := bne_eq_false_iff_eq.mpr c7
 clear c7
 as_aux_lemma => (
 have H' := ak H
 clear H
 have p332 : 0 ≤ (x5_1 : Int) := of_decide_eq_true (by first | (with_reducible assumption) | assumption)
 have q332 : x5_1 < (l0.length : Int) := of_decide_eq_true (by first | (with_reducible assumption) | assumption)
 obtain ⟨ad332, e332, hx332_0⟩ := Kd.at_int HR0.out x5_1 p332 q332
 cases e332
 replace p332 := eq_true p332
 replace q332 := eq_true q332
 have p333 : 0 ≤ (x5_1 : Int) := of_decide_eq_true (by first | (with_reducible assumption) | assumption)
 have q333 : x5_1 < (l1.length : Int) := of_decide_eq_true (by first | (with_reducible assumption) | assumption)
 obtain ⟨ad333, e333, hx333_0⟩ := Kd.at_int HR1.out x5_1 p333 q333
 cases e333
 replace p333 := eq_true p333
 replace q333 := eq_true q333
 go_wp2
 repeat (go_quiet (fail); try go_wp2)
 go_roundg k1
 case measure => have := HK1.out; omega
 case rel => exact ⟨(wrap64 (x5_1 + 1)), (by first | rfl | (simp; done) | (simp [*]; done)), H', ⟨by have := HK1.out; omega⟩, by repeat (first | exact Drawn0.refl _ | apply Drawn0.step)⟩
 )
 }
 {
 rw [if_neg c7] at H
 have c7b0 : ((rd l0 x5_1) == (rd l1 x5_1)) = false := beq_eq_false_iff_ne.mpr c7
 have c7b1 : ((rd l0 x5_1) != (rd l1 x5_1)) = true := bne_iff_ne.mpr c7
 as_aux_lemma => (
 obtain rfl := Option.some.inj H
 have p332 : 0 ≤ (x5_1 : Int) := of_decide_eq_true (by first | (with_reducible assumption) | assumption)
 have q332 : x5_1 < (l0.length : Int) := of_decide_eq_true (by first | (with_reducible assumption) | assumption)
 obtain ⟨ad332, e332, hx332_0⟩ := Kd.at_int HR0.out x5_1 p332 q332
 cases e332
 replace p332 := eq_true p332
 replace q332 := eq_true q332
 have p333 : 0 ≤ (x5_1 : Int) := of_decide_eq_true (by first | (with_reducible assumption) | assumption)
 have q333 : x5_1 < (l1.length : Int) := of_decide_eq_true (by first | (with_reducible assumption) | assumption)
 obtain ⟨ad333, e333, hx333_0⟩ := Kd.at_int HR1.out x5_1 p333 q333
 cases e333
 replace p333 := eq_true p333
 replace q333 := eq_true q333
 go_wp2
 repeat (go_quiet (fail); try go_wp2)
 go_ret
 exact ⟨by first | rfl | (simp; done) | (simp [*]; done), by repeat (first | exact Drawn0.refl _ | apply Drawn0.step)⟩
 )
 }
 }
 · rw [if_neg c6] at H; exact absurd H (by simp)
 }
 · rw [if_neg c5] at H; exact absurd H (by simp)
 }
 {
 rw [if_neg c4] at H
 have c4b0 : decide (x5_1 < (l0.length : Int)) = false := decide_eq_false c4
 clear c4
 as_aux_lemma => (
 obtain rfl := Option.some.inj H
 go_wp2
 repeat (go_quiet (fail); try go_wp2)
 go_ret
 exact ⟨by first | rfl | (simp; done) | (simp [*]; done), by repeat (first | exact Drawn0.refl _ | apply Drawn0.step)⟩
 )
 }
 )
 )
 }
 {
 rw [if_neg c3] at H
 have c3b0 : ((l0.length : Int) == (l1.length : Int)) = false := beq_eq_false_iff_ne.mpr c3
 have c3b1 : ((l0.length : Int) != (l1.length : Int)) = true := bne_iff_ne.mpr c3
 have c3b2 : (l0.length == l1.length) = false := by first | simpa using c3 | (simp at c3 ⊢; omega)
 as_aux_lemma => (
 obtain rfl := Option.some.inj H
 go_enter Try.func35, Try.ntmps35
 go_wp2
 repeat (go_quiet (fail); try go_wp2)
 go_ret
 exact ⟨by first | rfl | (simp; done) | (simp [*]; done), by repeat (first | exact Drawn0.refl _ | apply Drawn0.step)⟩
 )
 }
end Go.Proofs.Ytcgbnbblojkglaa.P
