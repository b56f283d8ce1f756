-- Printed by wip/print (my turned copy of the kit's print) out of the translation; Lean checks it.
import Derived.Test.YtcgbnbblojkglaaP0
import Derived.Test.YtcgbnbblojkglaaP2
import Derived.Test.YtcgbnbblojkglaaP8
import Derived.Test.YtcgbnbblojkglaaP11
namespace Go.Proofs.Ytcgbnbblojkglaa.P
open Go.RowKit Go.Proofs.YtcgbnbblojkglaaW.PrintWords Go.Proofs.YtcgbnbblojkglaaW.PrintLast Go.Proofs.YtcgbnbblojkglaaW.PrintMore
attribute [local go_sem] max2_int min2_int max_two min_two max_three min_three max_four min_four   -- for this text's walks alone
set_option linter.unusedVariables false
set_option linter.unusedSimpArgs false

attribute [local go_sem high] eqA55
/-! ### spec_SwappedBy: function 18 -/
mutual
def spec_SwappedBy.l0 : Nat → List (S47) → List (S55) → Int → Int → Int → Option ((List (S55)) × Int)
  | 0, _, _, _, _, _ => none
  | k + 1, x1, x8, x9, x356000, x356001 => if x9 < (x1.length : Int) then (spec_SwappedBy.l1 k x1 x8 x9 (wrap64 (x9 + 1)) x356000 x356001) else (some (x8, 0))
def spec_SwappedBy.l1 : Nat → List (S47) → List (S55) → Int → Int → Int → Int → Option ((List (S55)) × Int)
  | 0, _, _, _, _, _, _ => none
  | k + 1, x1, x8, x9, x10, x356000, x356001 => if x10 < (x1.length : Int) then ((some (([] : List (S47)) : List (S47))).bind fun y360 => (if y360.length + x1.length < 35184372088832 then ((some (y360 ++ x1 : List (S47))).bind fun y363 => (if 0 ≤ x10 then (if 0 ≤ x9 then (if x9 < (y363.length : Int) then ((some (y363.set (x9 : Int).toNat (⟨(rd_T47 x1 x10).f0, (rd_T47 y363 x9).f1⟩ : S47) : List (S47))).bind fun y367 => (if x9 < (x1.length : Int) then (if x10 < (y363.length : Int) then ((spec_l03Last.f k (y367.set (x10 : Int).toNat (⟨(rd_T47 x1 x9).f0, (rd_T47 y367 x10).f1⟩ : S47)) x356000 x356001).bind fun t370 => (if t370 = true then (if x8.length < 8796093022208 then (spec_SwappedBy.l1 k x1 (x8 ++ [(⟨x9, x10⟩ : S55)]) x9 (wrap64 (x10 + 1)) x356000 x356001) else (none)) else (spec_SwappedBy.l1 k x1 x8 x9 (wrap64 (x10 + 1)) x356000 x356001))) else (none)) else (none))) else (none)) else (none)) else (none))) else (none))) else (spec_SwappedBy.l0 k x1 x8 (wrap64 (x9 + 1)) x356000 x356001)
end
def spec_SwappedBy.f (k : Nat) (a0_0 : Int) (l0_1 : List Int) (l1 : List (S47)) (a2_0 : Int) (a2_1 : Int) : Option ((List (S55)) × Int) := (some (([] : List (S55)) : List (S55))).bind fun y356 => ((spec_l03Holds.f k a0_0 l0_1 l1).bind fun t359 => (if t359 = true then (spec_SwappedBy.l0 k l1 y356 0 a2_0 a2_1) else (some (y356, 1))))
theorem spec_SwappedBy.mono_l : ∀ k, (∀ y0 y1 y2 y3 y4, LeO (spec_SwappedBy.l0 k y0 y1 y2 y3 y4) (spec_SwappedBy.l0 (k + 1) y0 y1 y2 y3 y4)) ∧ (∀ y0 y1 y2 y3 y4 y5, LeO (spec_SwappedBy.l1 k y0 y1 y2 y3 y4 y5) (spec_SwappedBy.l1 (k + 1) y0 y1 y2 y3 y4 y5))
  | 0 => ⟨fun _ _ _ _ _ r h => by simp [spec_SwappedBy.l0] at h, fun _ _ _ _ _ _ r h => by simp [spec_SwappedBy.l1] at h⟩
  | k + 1 => by
    obtain ⟨ih0, ih1⟩ := spec_SwappedBy.mono_l k
    refine ⟨?_, ?_⟩
    · intro y0 y1 y2 y3 y4
      unfold spec_SwappedBy.l0
      repeat' first
      | (with_reducible exact ih0 _ _ _ _ _)
      | (with_reducible exact ih1 _ _ _ _ _ _)
      | (with_reducible exact spec_l03Holds.mono _ _ _ _)
      | (with_reducible exact spec_l03Last.mono _ _ _ _)
      | (with_reducible exact LeO.refl _)
      | (with_reducible exact LeO.none _)
      | (with_reducible refine LeO.ite ?_ ?_)
      | (with_reducible refine LeO.bind ?_ (fun _ => ?_))
      | exact ih0 _ _ _ _ _
      | exact ih1 _ _ _ _ _ _
      | exact spec_l03Holds.mono _ _ _ _
      | exact spec_l03Last.mono _ _ _ _
      | exact LeO.none _
      | refine LeO.ite ?_ ?_
      | refine LeO.bind ?_ (fun _ => ?_)
    · intro y0 y1 y2 y3 y4 y5
      unfold spec_SwappedBy.l1
      repeat' first
      | (with_reducible exact ih0 _ _ _ _ _)
      | (with_reducible exact ih1 _ _ _ _ _ _)
      | (with_reducible exact spec_l03Holds.mono _ _ _ _)
      | (with_reducible exact spec_l03Last.mono _ _ _ _)
      | (with_reducible exact LeO.refl _)
      | (with_reducible exact LeO.none _)
      | (with_reducible refine LeO.ite ?_ ?_)
      | (with_reducible refine LeO.bind ?_ (fun _ => ?_))
      | exact ih0 _ _ _ _ _
      | exact ih1 _ _ _ _ _ _
      | exact spec_l03Holds.mono _ _ _ _
      | exact spec_l03Last.mono _ _ _ _
      | exact LeO.none _
      | refine LeO.ite ?_ ?_
      | refine LeO.bind ?_ (fun _ => ?_)
theorem spec_SwappedBy.mono : ∀ a0 a1 a2 a3 a4 k, LeO (spec_SwappedBy.f k a0 a1 a2 a3 a4) (spec_SwappedBy.f (k + 1) a0 a1 a2 a3 a4) := by
  intro a0 a1 a2 a3 a4 k
  obtain ⟨ih0, ih1⟩ := spec_SwappedBy.mono_l k
  unfold spec_SwappedBy.f
  repeat' first
      | (with_reducible exact ih0 _ _ _ _ _)
      | (with_reducible exact ih1 _ _ _ _ _ _)
      | (with_reducible exact spec_l03Holds.mono _ _ _ _)
      | (with_reducible exact spec_l03Last.mono _ _ _ _)
      | (with_reducible exact LeO.refl _)
      | (with_reducible exact LeO.none _)
      | (with_reducible refine LeO.ite ?_ ?_)
      | (with_reducible refine LeO.bind ?_ (fun _ => ?_))
      | exact ih0 _ _ _ _ _
      | exact ih1 _ _ _ _ _ _
      | exact spec_l03Holds.mono _ _ _ _
      | exact spec_l03Last.mono _ _ _ _
      | exact LeO.none _
      | refine LeO.ite ?_ ?_
      | refine LeO.bind ?_ (fun _ => ?_)
set_option maxHeartbeats 8000000 in
set_option maxRecDepth 100000 in
theorem spec_SwappedBy.calls (k : Nat) (a0_0 : Int) (A0_1 : Option Addr) (c0_1 : Nat) (l0_1 : List Int) (A1 : Option Addr) (c1 : Nat) (l1 : List (S47)) (a2_0 : Int) (a2_1 : Int) (r1 : List (S55)) (r2 : Int) (w : World) (hr0_1 : Kd.C (Kd.int .i16) w A0_1 l0_1.length l0_1) (hc0_1 : l0_1.length ≤ c0_1) (hr1 : Kd.C k47 w A1 l1.length l1) (hc1 : l1.length ≤ c1) (h : spec_SwappedBy.f k a0_0 l0_1 l1 a2_0 a2_1 = some (r1, r2)) :
    Calls Try.prog 18 #[.agg #[.int .i16 a0_0, .slice A0_1 l0_1.length c0_1], .slice A1 l1.length c1, .agg #[.int .i64 a2_0, .int .i64 a2_1]] w fun e w' => ∃ v0_ : Value, e = .returned (.tuple #[v0_, .int .i64 r2]) ∧ Kd.R k55 55 w' w.heap.size (fun _ => True) v0_ r1 ∧ Below w.heap.size w w' := by
 have hu27 := Try.underlying27
 have hu40 := Try.underlying40
 have hu55 := Try.underlying55
 have HR0_1 := ak hr0_1
 have HC0_1 := ak hc0_1
 clear hr0_1 hc0_1
 have HR1 := ak hr1
 have HC1 := ak hc1
 clear hr1 hc1
 have HB := ak (Below.refl w.heap.size w)
 have H : ((some (([] : List (S55)) : List (S55))).bind fun y356 => ((spec_l03Holds.f k a0_0 l0_1 l1).bind fun t359 => (if t359 = true then (spec_SwappedBy.l0 k l1 y356 0 a2_0 a2_1) else (some (y356, 1))))) = some (r1, r2) := h
 clear h
 obtain ⟨y356, hy356⟩ : ∃ y_ : List (S55), y_ = (([] : List (S55))) := ⟨_, rfl⟩
 replace H : ((spec_l03Holds.f k a0_0 l0_1 l1).bind fun t359 => (if t359 = true then (spec_SwappedBy.l0 k l1 y356 0 a2_0 a2_1) else (some (y356, 1)))) = some (r1, r2) := by first | (rw [hy356]; with_reducible exact H) | (have H2_ := (Option.bind_some _ _).symm.trans H; rw [hy356]; with_reducible exact H2_) | (have H2_ := (Option.bind_some _ _).symm.trans H; with_reducible exact H2_) | with_reducible exact H | (rw [hy356]; exact H) | exact H
 have Ny356 := ak hy356
 clear hy356
 replace H := Option.bind_eq_some_iff.mp H
 obtain ⟨t359, A40, H⟩ := H
 replace H : (if t359 = true then (spec_SwappedBy.l0 k l1 y356 0 a2_0 a2_1) else (some (y356, 1))) = some (r1, r2) := H
 have A4 := ak A40
 clear A40
 by_cases c5 : t359 = true
 {
 subst c5
 have H1 : (spec_SwappedBy.l0 k l1 y356 0 a2_0 a2_1) = some (r1, r2) := by rw [if_pos rfl] at H; exact H
 clear H
 have H := H1
 clear H1
 have H' := ak H
 clear H
 go_enter Try.func18, Try.ntmps18
 go_wp2_with (first | ((with_reducible refine gate_dst (N := 3) rfl ?_); refine box_event ?hg (N := 3) ?hd (cs := #[.int .i16 a0_0, .slice A0_1 l0_1.length c0_1]) (t := 27) ?hr ?_; (case hd => rfl); (case hg => rfl); (case hr => first | (go_simp; done) | (go_simp; rfl)); intro gb354 hg w6 hbox hb; have n0_ := ak (below_step (zB HB.out) hb); have n1_ := ak (hbox); have n2_ := ak ((by rw [hg]; exact (below_size (zB HB.out)) : w.heap.size ≤ gb354)); have n3_ := ak ((by rw [hg]; exact (below_size (zB HB.out)) : w.heap.size ≤ gb354)); clear HB; have HB := n0_; have BK354 := n1_; have GW354 := n2_; have GE354 := n3_; clear n0_ n1_ n2_ n3_; clear hb hbox hg) | ((with_reducible refine gate_dst (N := 5) rfl ?_); refine box_event ?hg (N := 5) ?hd (cs := #[.int .i64 a2_0, .int .i64 a2_1]) (t := 40) ?hr ?_; (case hd => rfl); (case hg => rfl); (case hr => first | (go_simp; done) | (go_simp; rfl)); intro gb355 hg w7 hbox hb; have n0_ := ak (blk_below (g := gb354) (o := .cells #[.int .i16 a0_0, .slice A0_1 l0_1.length c0_1] 27 (0, 0)) (zK BK354.out) hb); have n1_ := ak (below_step (zBG HB.out GE354.out) hb); have n2_ := ak (hbox); have n3_ := ak ((by rw [hg]; exact (below_size (zBG HB.out GE354.out)) : w.heap.size ≤ gb355)); have n4_ := ak ((by rw [hg]; exact (below_size (zBG HB.out GE354.out)) : w.heap.size ≤ gb355)); have n5_ := ak ((by rw [hg]; exact Nat.ne_of_lt (blk_lt (g := gb354) (o := .cells #[.int .i16 a0_0, .slice A0_1 l0_1.length c0_1] 27 (0, 0)) (zK BK354.out)) : gb354 ≠ gb355)); have n6_ := ak ((by rw [hg]; exact Nat.ne_of_gt (blk_lt (g := gb354) (o := .cells #[.int .i16 a0_0, .slice A0_1 l0_1.length c0_1] 27 (0, 0)) (zK BK354.out)) : gb355 ≠ gb354)); clear BK354 HB; have BK354 := n0_; have HB := n1_; have BK355 := n2_; have GW355 := n3_; have GE355 := n4_; have NB354_355 := n5_; have NB355_354 := n6_; clear n0_ n1_ n2_ n3_ n4_ n5_ n6_; clear hb hbox hg) | ((with_reducible refine gate_dst (N := 12) rfl ?_); refine Kd.R_lit k55 _ 55 ?hg (N := 12) ?hd (xs := ([] : List (S55))) (inner := []) (ok := fun _ => True) (okp := fun _ => True) ?hr ?hp (fun _ hk => hk) trivial (Below.refl _ _) (Nat.le_refl _) (by simp) ?_; (case hd => rfl); (case hg => rfl); (case hr => first | (go_simp; done) | (go_simp; rfl)); (case hp => exact (Reps.none _ _)); intro v357 w8 ho9 hb hg_ hnew_; clear hg_ hnew_; (first | rw [← Ny356.out] at ho9 | (simp only [Int.reduceToNat] at ho9; rw [← Ny356.out] at ho9)); have n0_ := ak (Kd.R_lower ho9 (below_size (by repeat (first | (with_reducible first | exact HB.out | apply below_alloc | apply pw_below_drewN | apply below_drew1 | refine below_set ?_ GE354.out | refine below_set ?_ GE355.out) | exact HB.out)))); have n1_ := ak (blk_below (g := gb354) (o := .cells #[.int .i16 a0_0, .slice A0_1 l0_1.length c0_1] 27 (0, 0)) (zK BK354.out) hb); have n2_ := ak (blk_below (g := gb355) (o := .cells #[.int .i64 a2_0, .int .i64 a2_1] 40 (0, 0)) (zK BK355.out) hb); have n3_ := ak (below_step (by repeat (first | (with_reducible first | exact HB.out | apply below_alloc | apply pw_below_drewN | apply below_drew1 | refine below_set ?_ GE354.out | refine below_set ?_ GE355.out) | exact HB.out)) hb); clear BK354 BK355 HB; have HO358 := n0_; have BK354 := n1_; have BK355 := n2_; have HB := n3_; clear n0_ n1_ n2_ n3_; clear hb ho9) | ((with_reducible refine gate_callee (f := 26) rfl ?_); refine goesL_ (some 14) rfl rfl Try.func26 (by kernel_rfl) rfl #[.pointer (some ⟨gb354, 0, none⟩), .slice A1 l1.length c1] rfl gl_ ?_; (with_reducible refine (spec_l03Holds.calls k gb354 a0_0 A0_1 c0_1 l0_1 _ _ l1 true _ ?side1 ?side2 ?side3 ?side4 ?side5 A4.out).mono ?_); (case side1 => repeat (first | exact (Kd.C_below HR0_1.out HB.out) | (with_reducible refine Kd.C_alloc ?_ _) | (with_reducible refine Kd.C_drewN ?_ _) | (with_reducible refine Kd.C_drew ?_))); (case side2 => exact HC0_1.out); (case side3 => repeat (first | exact (Kd.C_below HR1.out HB.out) | (with_reducible refine Kd.C_alloc ?_ _) | (with_reducible refine Kd.C_drewN ?_ _) | (with_reducible refine Kd.C_drew ?_))); (case side4 => exact HC1.out); (case side5 => exact (by first | exact BK354.out | ((with_reducible repeat (first | refine blk_drewN ?_ _ | refine blk_drew ?_ | refine blk_alloc ?_ _)); exact BK354.out))); rintro e w10 ⟨rfl, hb⟩; refine ⟨_, rfl, ?_⟩; have n0_ := ak (Kd.R_below (zR HO358.out) hb); have n1_ := ak (blk_below (g := gb354) (o := .cells #[.int .i16 a0_0, .slice A0_1 l0_1.length c0_1] 27 (0, 0)) (zK BK354.out) hb); have n2_ := ak (blk_below (g := gb355) (o := .cells #[.int .i64 a2_0, .int .i64 a2_1] 40 (0, 0)) (zK BK355.out) hb); have n3_ := ak (below_step (by repeat (first | (with_reducible first | exact HB.out | apply below_alloc | apply pw_below_drewN | apply below_drew1 | refine below_set ?_ GE354.out | refine below_set ?_ GE355.out) | exact HB.out)) hb); clear HO358 BK354 BK355 HB; have HO358 := n0_; have BK354 := n1_; have BK355 := n2_; have HB := n3_; clear n0_ n1_ n2_ n3_; (try clear hb); (try clear hb2); (try clear hk); (try clear hi)))
 go_loopg [8, 9] k (fun kq v8 v9 w' => ∃ (x8_1 : List (S55)) (x9_1 : Int), v9 = .int .i64 x9_1 ∧ Aside0 (spec_SwappedBy.l0 kq l1 x8_1 x9_1 a2_0 a2_1 = some (r1, r2)) ∧ Aside0 (kq ≤ k) ∧ Aside0 (Kd.R k55 55 w' w.heap.size (fun _ => True) v8 x8_1) ∧ Aside0 (w'.heap[gb354]? = some (.cells #[.int .i16 a0_0, (.slice A0_1 l0_1.length c0_1)] 27 (0, 0))) ∧ Aside0 (w'.heap[gb355]? = some (.cells #[.int .i64 a2_0, .int .i64 a2_1] 40 (0, 0))) ∧ Aside0 (Below w.heap.size w w'))
 case atStart => exact ⟨(y356), (0), (by first | rfl | (simp; done) | (simp [*]; done)), H', ⟨Nat.le_refl _⟩, ⟨(zR HO358.out)⟩, ⟨(zK BK354.out)⟩, ⟨(zK BK355.out)⟩, ⟨by repeat (first | (with_reducible first | exact HB.out | apply below_alloc | apply pw_below_drewN | apply below_drew1 | refine below_set ?_ GE354.out | refine below_set ?_ GE355.out) | exact HB.out)⟩⟩
 case round => (
 clear H'
 try clear c1
 try clear c5
 obtain ⟨x8_1, x9_1, rfl, HA, HK1, HO_8, BK354, BK355, HB⟩ := hrel
 cases gk with
 | zero => exact absurd HA.out (by simp [spec_SwappedBy.l0])
 | succ k1 => (
 have H := HA.out
 clear HA
 simp only [spec_SwappedBy.l0] at H
 by_cases c11 : x9_1 < (l1.length : Int)
 {
 rw [if_pos c11] at H
 have c11b0 : decide (x9_1 < (l1.length : Int)) = true := decide_eq_true c11
 clear c11
 have H' := ak H
 clear H
 go_wp2
 go_loopg [8, 10] k1 (fun kq v8 v10 w' => ∃ (x8_2 : List (S55)) (x10_2 : Int), v10 = .int .i64 x10_2 ∧ Aside0 (spec_SwappedBy.l1 kq l1 x8_2 x9_1 x10_2 a2_0 a2_1 = some (r1, r2)) ∧ Aside0 (kq ≤ k1) ∧ Aside0 (Kd.R k55 55 w' w.heap.size (fun _ => True) v8 x8_2) ∧ Aside0 (w'.heap[gb354]? = some (.cells #[.int .i16 a0_0, (.slice A0_1 l0_1.length c0_1)] 27 (0, 0))) ∧ Aside0 (w'.heap[gb355]? = some (.cells #[.int .i64 a2_0, .int .i64 a2_1] 40 (0, 0))) ∧ Aside0 (Below w.heap.size w w'))
 case atStart => exact ⟨(x8_1), (wrap64 (x9_1 + 1)), (by first | rfl | (simp; done) | (simp [*]; done)), H', ⟨Nat.le_refl _⟩, ⟨(zR HO_8.out)⟩, ⟨(zK BK354.out)⟩, ⟨(zK BK355.out)⟩, ⟨by repeat (first | (with_reducible first | exact HB.out | apply below_alloc | apply pw_below_drewN | apply below_drew1 | refine below_set ?_ GE354.out | refine below_set ?_ GE355.out) | exact HB.out)⟩⟩
 case round => (
 clear H'
 try clear c1
 try clear c5
 try clear c11
 try clear c11b0
 obtain ⟨x8_2, x10_2, rfl, HA, HK2, HO_8, BK354, BK355, HB⟩ := hrel
 cases gk with
 | zero => exact absurd HA.out (by simp [spec_SwappedBy.l1])
 | succ k2 => (
 have H := HA.out
 clear HA
 simp only [spec_SwappedBy.l1] at H
 by_cases c12 : x10_2 < (l1.length : Int)
 {
 rw [if_pos c12] at H
 have c12b0 : decide (x10_2 < (l1.length : Int)) = true := decide_eq_true c12
 clear c12
 obtain ⟨y360, hy360⟩ : ∃ y_ : List (S47), y_ = (([] : List (S47))) := ⟨_, rfl⟩
 replace H : (if y360.length + l1.length < 35184372088832 then ((some (y360 ++ l1 : List (S47))).bind fun y363 => (if 0 ≤ x10_2 then (if 0 ≤ x9_1 then (if x9_1 < (y363.length : Int) then ((some (y363.set (x9_1 : Int).toNat (⟨(rd_T47 l1 x10_2).f0, (rd_T47 y363 x9_1).f1⟩ : S47) : List (S47))).bind fun y367 => (if x9_1 < (l1.length : Int) then (if x10_2 < (y363.length : Int) then ((spec_l03Last.f k2 (y367.set (x10_2 : Int).toNat (⟨(rd_T47 l1 x9_1).f0, (rd_T47 y367 x10_2).f1⟩ : S47)) a2_0 a2_1).bind fun t370 => (if t370 = true then (if x8_2.length < 8796093022208 then (spec_SwappedBy.l1 k2 l1 (x8_2 ++ [(⟨x9_1, x10_2⟩ : S55)]) x9_1 (wrap64 (x10_2 + 1)) a2_0 a2_1) else (none)) else (spec_SwappedBy.l1 k2 l1 x8_2 x9_1 (wrap64 (x10_2 + 1)) a2_0 a2_1))) else (none)) else (none))) else (none)) else (none)) else (none))) else (none)) = some (r1, r2) := by first | (rw [hy360]; with_reducible exact H) | (have H2_ := (Option.bind_some _ _).symm.trans H; rw [hy360]; with_reducible exact H2_) | (have H2_ := (Option.bind_some _ _).symm.trans H; with_reducible exact H2_) | with_reducible exact H | (rw [hy360]; exact H) | exact H
 have Ny360 := ak hy360
 clear hy360
 by_cases c13 : y360.length + l1.length < 35184372088832
 {
 rw [if_pos c13] at H
 have LMc13 := ak c13
 clear c13
 obtain ⟨y363, hy363⟩ : ∃ y_ : List (S47), y_ = (y360 ++ l1) := ⟨_, rfl⟩
 replace H : (if 0 ≤ x10_2 then (if 0 ≤ x9_1 then (if x9_1 < (y363.length : Int) then ((some (y363.set (x9_1 : Int).toNat (⟨(rd_T47 l1 x10_2).f0, (rd_T47 y363 x9_1).f1⟩ : S47) : List (S47))).bind fun y367 => (if x9_1 < (l1.length : Int) then (if x10_2 < (y363.length : Int) then ((spec_l03Last.f k2 (y367.set (x10_2 : Int).toNat (⟨(rd_T47 l1 x9_1).f0, (rd_T47 y367 x10_2).f1⟩ : S47)) a2_0 a2_1).bind fun t370 => (if t370 = true then (if x8_2.length < 8796093022208 then (spec_SwappedBy.l1 k2 l1 (x8_2 ++ [(⟨x9_1, x10_2⟩ : S55)]) x9_1 (wrap64 (x10_2 + 1)) a2_0 a2_1) else (none)) else (spec_SwappedBy.l1 k2 l1 x8_2 x9_1 (wrap64 (x10_2 + 1)) a2_0 a2_1))) else (none)) else (none))) else (none)) else (none)) else (none)) = some (r1, r2) := by first | (rw [hy363]; with_reducible exact H) | (have H2_ := (Option.bind_some _ _).symm.trans H; rw [hy363]; with_reducible exact H2_) | (have H2_ := (Option.bind_some _ _).symm.trans H; with_reducible exact H2_) | with_reducible exact H | (rw [hy363]; exact H) | exact H
 have Ny363 := ak hy363
 clear hy363
 by_cases c14 : 0 ≤ x10_2
 {
 rw [if_pos c14] at H
 have c14b0 : decide (0 ≤ x10_2) = true := decide_eq_true c14
 clear c14
 by_cases c15 : 0 ≤ x9_1
 {
 rw [if_pos c15] at H
 have c15b0 : decide (0 ≤ x9_1) = true := decide_eq_true c15
 clear c15
 by_cases c16 : x9_1 < (y363.length : Int)
 {
 rw [if_pos c16] at H
 have c16b0 : decide (x9_1 < (y363.length : Int)) = true := decide_eq_true c16
 clear c16
 obtain ⟨y367, hy367⟩ : ∃ y_ : List (S47), y_ = (y363.set (x9_1 : Int).toNat (⟨(rd_T47 l1 x10_2).f0, (rd_T47 y363 x9_1).f1⟩ : S47)) := ⟨_, rfl⟩
 replace H : (if x9_1 < (l1.length : Int) then (if x10_2 < (y363.length : Int) then ((spec_l03Last.f k2 (y367.set (x10_2 : Int).toNat (⟨(rd_T47 l1 x9_1).f0, (rd_T47 y367 x10_2).f1⟩ : S47)) a2_0 a2_1).bind fun t370 => (if t370 = true then (if x8_2.length < 8796093022208 then (spec_SwappedBy.l1 k2 l1 (x8_2 ++ [(⟨x9_1, x10_2⟩ : S55)]) x9_1 (wrap64 (x10_2 + 1)) a2_0 a2_1) else (none)) else (spec_SwappedBy.l1 k2 l1 x8_2 x9_1 (wrap64 (x10_2 + 1)) a2_0 a2_1))) else (none)) else (none)) = some (r1, r2) := by first | (rw [hy367]; with_reducible exact H) | (have H2_ := (Option.bind_some _ _).symm.trans H; rw [hy367]; with_reducible exact H2_) | (have H2_ := (Option.bind_some _ _).symm.trans H; with_reducible exact H2_) | with_reducible exact H | (rw [hy367]; exact H) | exact H
 have Ny367 := ak hy367
 clear hy367
 by_cases c18 : x9_1 < (l1.length : Int)
 {
 rw [if_pos c18] at H
 have c18b0 : decide (x9_1 < (l1.length : Int)) = true := decide_eq_true c18
 clear c18
 by_cases c19 : x10_2 < (y363.length : Int)
 {
 rw [if_pos c19] at H
 have c19b0 : decide (x10_2 < (y363.length : Int)) = true := decide_eq_true c19
 clear c19
 obtain ⟨y369, hy369⟩ : ∃ y_ : List (S47), y_ = (y367.set (x10_2 : Int).toNat (⟨(rd_T47 l1 x9_1).f0, (rd_T47 y367 x10_2).f1⟩ : S47)) := ⟨_, rfl⟩
 replace H : ((spec_l03Last.f k2 y369 a2_0 a2_1).bind fun t370 => (if t370 = true then (if x8_2.length < 8796093022208 then (spec_SwappedBy.l1 k2 l1 (x8_2 ++ [(⟨x9_1, x10_2⟩ : S55)]) x9_1 (wrap64 (x10_2 + 1)) a2_0 a2_1) else (none)) else (spec_SwappedBy.l1 k2 l1 x8_2 x9_1 (wrap64 (x10_2 + 1)) a2_0 a2_1))) = some (r1, r2) := by first | (rw [hy369]; with_reducible exact H) | (have H2_ := (Option.bind_some _ _).symm.trans H; rw [hy369]; with_reducible exact H2_) | (have H2_ := (Option.bind_some _ _).symm.trans H; with_reducible exact H2_) | with_reducible exact H | (rw [hy369]; exact H) | exact H
 have Ny369 := ak hy369
 clear hy369
 replace H := Option.bind_eq_some_iff.mp H
 obtain ⟨t370, A210, H⟩ := H
 replace H : (if t370 = true then (if x8_2.length < 8796093022208 then (spec_SwappedBy.l1 k2 l1 (x8_2 ++ [(⟨x9_1, x10_2⟩ : S55)]) x9_1 (wrap64 (x10_2 + 1)) a2_0 a2_1) else (none)) else (spec_SwappedBy.l1 k2 l1 x8_2 x9_1 (wrap64 (x10_2 + 1)) a2_0 a2_1)) = some (r1, r2) := H
 have A21 := ak A210
 clear A210
 by_cases c22 : t370 = true
 {
 subst c22
 have H1 : (if x8_2.length < 8796093022208 then (spec_SwappedBy.l1 k2 l1 (x8_2 ++ [(⟨x9_1, x10_2⟩ : S55)]) x9_1 (wrap64 (x10_2 + 1)) a2_0 a2_1) else (none)) = some (r1, r2) := by rw [if_pos rfl] at H; exact H
 clear H
 have H := H1
 clear H1
 by_cases c23 : x8_2.length < 8796093022208
 {
 rw [if_pos c23] at H
 have LMc23 := ak c23
 clear c23
 obtain ⟨y371, hy371⟩ : ∃ y_ : List (S55), y_ = (x8_2 ++ [(⟨x9_1, x10_2⟩ : S55)]) := ⟨_, rfl⟩
 replace H : (spec_SwappedBy.l1 k2 l1 y371 x9_1 (wrap64 (x10_2 + 1)) a2_0 a2_1) = some (r1, r2) := by first | (rw [hy371]; with_reducible exact H) | (have H2_ := (Option.bind_some _ _).symm.trans H; rw [hy371]; with_reducible exact H2_) | (have H2_ := (Option.bind_some _ _).symm.trans H; with_reducible exact H2_) | with_reducible exact H | (rw [hy371]; exact H) | exact H
 have Ny371 := ak hy371
 clear hy371
 as_aux_lemma => (
 have H' := ak H
 clear H
 go_wp2_with (first | ((with_reducible refine gate_dst (N := 31) rfl ?_); refine Kd.R_lit k47 _ 47 ?hg (N := 31) ?hd (xs := ([] : List (S47))) (inner := []) (ok := fun _ => True) (okp := fun _ => True) ?hr ?hp (fun _ hk => hk) trivial (Below.refl _ _) (Nat.le_refl _) (by simp) ?_; (case hd => rfl); (case hg => rfl); (case hr => first | (go_simp; done) | (go_simp; rfl)); (case hp => exact (Reps.none _ _)); intro v361 w24 ho25 hb hg_ hnew_; clear hg_ hnew_; (first | rw [← Ny360.out] at ho25 | (simp only [Int.reduceToNat] at ho25; rw [← Ny360.out] at ho25)); have n0_ := ak (Kd.R_below (zR HO_8.out) hb); have n1_ := ak (Kd.R_lower ho25 (below_size (by repeat (first | (with_reducible first | exact HB.out | apply below_alloc | apply pw_below_drewN | apply below_drew1 | refine below_set ?_ GE354.out | refine below_set ?_ GE355.out) | exact HB.out)))); have n2_ := ak (blk_below (g := gb354) (o := .cells #[.int .i16 a0_0, .slice A0_1 l0_1.length c0_1] 27 (0, 0)) (zK BK354.out) hb); have n3_ := ak (blk_below (g := gb355) (o := .cells #[.int .i64 a2_0, .int .i64 a2_1] 40 (0, 0)) (zK BK355.out) hb); have n4_ := ak (below_step (by repeat (first | (with_reducible first | exact HB.out | apply below_alloc | apply pw_below_drewN | apply below_drew1 | refine below_set ?_ GE354.out | refine below_set ?_ GE355.out) | exact HB.out)) hb); clear HO_8 BK354 BK355 HB; have HO_8 := n0_; have HO362 := n1_; have BK354 := n2_; have BK355 := n3_; have HB := n4_; clear n0_ n1_ n2_ n3_ n4_; clear hb ho25) | ((with_reducible refine gate_builtin (b := .append) (xs := #[.tmp 31, .tmp 32]) rfl ?_); at_builtin; refine Kd.R_append_rows k47 (w0 := w) w.heap.size rfl (.tmp 31) (.tmp 32) 29 47 (.agg #[(.int .i16 0), (.int .i8 0)]) 4 rfl Try.underlying29 info47 rfl (by decide) (by omega) v361 y360 l1 _ _ _ (fun _ => True) (fun _ => False) rfl rfl ?aO ?aR (fun _ _ h => h) (fun _ h => h.elim) ?aF ?aB ?aS ?aL ?_; (case aR => repeat (first | exact (Kd.C_below HR1.out HB.out) | (with_reducible refine Kd.C_alloc ?_ _) | (with_reducible refine Kd.C_drewN ?_ _) | (with_reducible refine Kd.C_drew ?_))); (case aB => exact (by repeat (first | (with_reducible first | exact HB.out | apply below_alloc | apply pw_below_drewN | apply below_drew1 | refine below_set ?_ GE354.out | refine below_set ?_ GE355.out) | exact HB.out))); (case aF => exact (fun _ _ => trivial)); (case aO => exact (zR HO362.out)); (case aS => exact (below_size (by repeat (first | (with_reducible first | exact HB.out | apply below_alloc | apply pw_below_drewN | apply below_drew1 | refine below_set ?_ GE354.out | refine below_set ?_ GE355.out) | exact HB.out)))); (case aL => have := LMc13.out; omega); intro v364 w26 ho hb hg hat; rw [← Ny363.out] at ho; have n0_ := ak (Kd.R_over' (zR HO_8.out) (Kd.R_typed (zR HO362.out)) (by decide) hg); have n1_ := ak (blk_grown (g := gb354) (o := .cells #[.int .i16 a0_0, .slice A0_1 l0_1.length c0_1] 27 (0, 0)) (zK BK354.out) hg (Kd.R_ne HO362.out BK354.out (by decide))); have n2_ := ak (blk_grown (g := gb355) (o := .cells #[.int .i64 a2_0, .int .i64 a2_1] 40 (0, 0)) (zK BK355.out) hg (Kd.R_ne HO362.out BK355.out (by decide))); have n3_ := ak (hb); have n4_ := ak (ho); clear HO_8 BK354 BK355 HB HO362; have HO_8 := n0_; have BK354 := n1_; have BK355 := n2_; have HB := n3_; have HO365 := n4_; clear n0_ n1_ n2_ n3_ n4_; clear ho hb hg hat; have p366 : 0 ≤ (x10_2 : Int) := of_decide_eq_true (by first | (with_reducible assumption) | assumption); have q366 : x10_2 < (l1.length : Int) := of_decide_eq_true (by first | (with_reducible assumption) | assumption); obtain ⟨ad366, e366, hx366_0, hx366_1⟩ := at_T47 HR1.out x10_2 p366 q366; cases e366; replace hx366_0 := (HB.out.cell (World.block_lt_of_cell? w _ hx366_0)).trans hx366_0; replace hx366_1 := (HB.out.cell (World.block_lt_of_cell? w _ hx366_1)).trans hx366_1; replace p366 := eq_true p366; replace q366 := eq_true q366; have p17 : 0 ≤ (x9_1 : Int) := of_decide_eq_true (by first | (with_reducible assumption) | assumption); have q17 : (x9_1 : Int) < ((y363.length : Int) : Int) := of_decide_eq_true (by first | (with_reducible assumption) | assumption); obtain ⟨go17, co17, eo17, gb17, gl17, cl17, HG17⟩ := Kd.R_form HO365.out (by omega); (first | cases eo17 | (injection eo17 with ea_ en_ ec_; (first | subst ea_ | (injection ea_ with ea_; subst ea_)); subst ec_; clear en_)); have GB17 := ak gb17; have GG17 := ak HG17; clear gb17 gl17 HG17; obtain ⟨ce17, hcl17, hM17, hcc17, hfr17⟩ := Kd.R_elem HO365.out z47 (x9_1 : Int) p17 q17; obtain rfl := k47_openM hM17; have hx17_0 : w26.cell? ⟨go17, (x9_1 : Int).toNat * 2, none⟩ = some (.int .i16 ((rd_T47 y363 x9_1).f0)) := hcc17 0 _ rfl; have hx17_1 : w26.cell? ⟨go17, (x9_1 : Int).toNat * 2 + 1, none⟩ = some (.int .i8 ((rd_T47 y363 x9_1).f1)) := hcc17 1 _ rfl; have hf17_0 : w26.frozen? ⟨go17, (x9_1 : Int).toNat * 2, none⟩ = false := hfr17 0; have hf17_1 : w26.frozen? ⟨go17, (x9_1 : Int).toNat * 2 + 1, none⟩ = false := hfr17 1; clear hcl17 hcc17 hfr17 hM17; replace p17 := eq_true p17; replace q17 := eq_true q17; have HX27 := ak (show Kd.R k47 47 w26 w.heap.size (fun _ => True) (.slice (some ⟨go17, 0, none⟩) y363.length co17) y363 from (zR HO365.out)); obtain ⟨ce27, hcl27, hM27, hcc27, hfr27⟩ := Kd.R_elem HX27.out z47 (x9_1 : Int) (of_decide_eq_true (by first | (with_reducible assumption) | assumption)) (by have h_ : (x9_1 : Int) < ((y363.length : Int) : Int) := of_decide_eq_true (by first | (with_reducible assumption) | assumption); first | exact h_ | (have e_ := (Kd.R_reads' HO365.out).1; omega) | simpa using h_); obtain rfl := k47_openM hM27; have HP27 := Kd.R_seg HX27.out (x9_1 : Int) (of_decide_eq_true (by first | (with_reducible assumption) | assumption)) (by have h_ : (x9_1 : Int) < ((y363.length : Int) : Int) := of_decide_eq_true (by first | (with_reducible assumption) | assumption); first | exact h_ | (have e_ := (Kd.R_reads' HO365.out).1; omega) | simpa using h_) (seg := [.int .i16 ((rd_T47 l1 x10_2).f0)]) (j := 0) hcl27 hcc27 (show 1 ≤ 2 from by decide) (x' := (⟨(rd_T47 l1 x10_2).f0, (rd_T47 y363 x9_1).f1⟩ : S47)) (k47_mkM _ _ _ (⟨(rd_T47 l1 x10_2).f0, (rd_T47 y363 x9_1).f1⟩ : S47) ) (fun _ hk => hk); have hx27_0 := hcc27 0 _ rfl; (try simp only [show (k47).sz = 2 from rfl, Nat.mul_one, Nat.add_zero] at hx27_0); have hf27_0 := hfr27 0; (try simp only [show (k47).sz = 2 from rfl, Nat.mul_one, Nat.add_zero] at hf27_0); clear hcl27 hcc27 hfr27 hM27) | ((with_reducible refine gate_store (t := 24) (p := 42) rfl ?_); refine store_event (t := 24) (p := 42) (v := ?vo_w28) (w1 := (w26.setCell ⟨go17, (x9_1 : Int).toNat * 2, none⟩ (.int .i16 ((rd_T47 l1 x10_2).f0)))) ?hg ?ho ?hn ?hr ?_; (case ho => rfl); (case hg => rfl); (case hn => rfl); (case hr => first | (go_simp; done) | (go_simp; rfl)); intro w28 hw; have hg : w26.grownBy w28 (some go17) := (by rw [hw]; exact HP27.2); have hp_ : Kd.R k47 47 w28 w.heap.size (fun _ => True) (.slice (some ⟨go17, 0, none⟩) y363.length co17) y367 := (by rw [hw, Ny367.out]; exact HP27.1); clear HP27; have n0_ := ak (Kd.R_over' (v := (.slice (some ⟨go17, 0, none⟩) y363.length co17)) (zR HO_8.out) (Kd.R_typed HO365.out) (by decide) hg); have n1_ := ak (blk_grown (g := gb354) (o := .cells #[.int .i16 a0_0, .slice A0_1 l0_1.length c0_1] 27 (0, 0)) (zK BK354.out) hg (Kd.R_ne HO365.out BK354.out (by decide))); have n2_ := ak (blk_grown (g := gb355) (o := .cells #[.int .i64 a2_0, .int .i64 a2_1] 40 (0, 0)) (zK BK355.out) hg (Kd.R_ne HO365.out BK355.out (by decide))); have n3_ := ak (hp_); have n4_ := ak ((by rw [hw]; exact below_set (HB.out) GB17.out : Below w.heap.size w w28)); clear HO_8 BK354 BK355 HO365 HB; have HO_8 := n0_; have BK354 := n1_; have BK355 := n2_; have HO365 := n3_; have HB := n4_; clear n0_ n1_ n2_ n3_ n4_; clear hg hw hp_; have p368 : 0 ≤ (x9_1 : Int) := of_decide_eq_true (by first | (with_reducible assumption) | assumption); have q368 : x9_1 < (l1.length : Int) := of_decide_eq_true (by first | (with_reducible assumption) | assumption); obtain ⟨ad368, e368, hx368_0, hx368_1⟩ := at_T47 HR1.out x9_1 p368 q368; obtain rfl : ad366 = ad368 := (by injection e368); replace hx368_0 := (HB.out.cell (World.block_lt_of_cell? w _ hx368_0)).trans hx368_0; replace hx368_1 := (HB.out.cell (World.block_lt_of_cell? w _ hx368_1)).trans hx368_1; replace p368 := eq_true p368; replace q368 := eq_true q368; have p20 : 0 ≤ (x10_2 : Int) := of_decide_eq_true (by first | (with_reducible assumption) | assumption); have q20 : (x10_2 : Int) < ((y363.length : Int) : Int) := of_decide_eq_true (by first | (with_reducible assumption) | assumption); obtain ⟨ce20, hcl20, hM20, hcc20, hfr20⟩ := Kd.R_elem HO365.out z47 (x10_2 : Int) p20 q20; obtain rfl := k47_openM hM20; have hx20_0 : w28.cell? ⟨go17, (x10_2 : Int).toNat * 2, none⟩ = some (.int .i16 ((rd_T47 y367 x10_2).f0)) := hcc20 0 _ rfl; have hx20_1 : w28.cell? ⟨go17, (x10_2 : Int).toNat * 2 + 1, none⟩ = some (.int .i8 ((rd_T47 y367 x10_2).f1)) := hcc20 1 _ rfl; have hf20_0 : w28.frozen? ⟨go17, (x10_2 : Int).toNat * 2, none⟩ = false := hfr20 0; have hf20_1 : w28.frozen? ⟨go17, (x10_2 : Int).toNat * 2 + 1, none⟩ = false := hfr20 1; clear hcl20 hcc20 hfr20 hM20; replace p20 := eq_true p20; replace q20 := eq_true q20; have HX29 := ak (show Kd.R k47 47 w28 w.heap.size (fun _ => True) (.slice (some ⟨go17, 0, none⟩) y363.length co17) y367 from (zR HO365.out)); obtain ⟨ce29, hcl29, hM29, hcc29, hfr29⟩ := Kd.R_elem HX29.out z47 (x10_2 : Int) (of_decide_eq_true (by first | (with_reducible assumption) | assumption)) (by have h_ : (x10_2 : Int) < ((y363.length : Int) : Int) := of_decide_eq_true (by first | (with_reducible assumption) | assumption); first | exact h_ | (have e_ := (Kd.R_reads' HO365.out).1; omega) | simpa using h_); obtain rfl := k47_openM hM29; have HP29 := Kd.R_seg HX29.out (x10_2 : Int) (of_decide_eq_true (by first | (with_reducible assumption) | assumption)) (by have h_ : (x10_2 : Int) < ((y363.length : Int) : Int) := of_decide_eq_true (by first | (with_reducible assumption) | assumption); first | exact h_ | (have e_ := (Kd.R_reads' HO365.out).1; omega) | simpa using h_) (seg := [.int .i16 ((rd_T47 l1 x9_1).f0)]) (j := 0) hcl29 hcc29 (show 1 ≤ 2 from by decide) (x' := (⟨(rd_T47 l1 x9_1).f0, (rd_T47 y367 x10_2).f1⟩ : S47)) (k47_mkM _ _ _ (⟨(rd_T47 l1 x9_1).f0, (rd_T47 y367 x10_2).f1⟩ : S47) ) (fun _ hk => hk); have hx29_0 := hcc29 0 _ rfl; (try simp only [show (k47).sz = 2 from rfl, Nat.mul_one, Nat.add_zero] at hx29_0); have hf29_0 := hfr29 0; (try simp only [show (k47).sz = 2 from rfl, Nat.mul_one, Nat.add_zero] at hf29_0); clear hcl29 hcc29 hfr29 hM29) | ((with_reducible refine gate_store (t := 24) (p := 51) rfl ?_); refine store_event (t := 24) (p := 51) (v := ?vo_w30) (w1 := (w28.setCell ⟨go17, (x10_2 : Int).toNat * 2, none⟩ (.int .i16 ((rd_T47 l1 x9_1).f0)))) ?hg ?ho ?hn ?hr ?_; (case ho => rfl); (case hg => rfl); (case hn => rfl); (case hr => first | (go_simp; done) | (go_simp; rfl)); intro w30 hw; have hg : w28.grownBy w30 (some go17) := (by rw [hw]; exact HP29.2); have hp_ : Kd.R k47 47 w30 w.heap.size (fun _ => True) (.slice (some ⟨go17, 0, none⟩) y363.length co17) y369 := (by rw [hw, Ny369.out]; exact HP29.1); clear HP29; have n0_ := ak (Kd.R_over' (v := (.slice (some ⟨go17, 0, none⟩) y363.length co17)) (zR HO_8.out) (Kd.R_typed HO365.out) (by decide) hg); have n1_ := ak (blk_grown (g := gb354) (o := .cells #[.int .i16 a0_0, .slice A0_1 l0_1.length c0_1] 27 (0, 0)) (zK BK354.out) hg (Kd.R_ne HO365.out BK354.out (by decide))); have n2_ := ak (blk_grown (g := gb355) (o := .cells #[.int .i64 a2_0, .int .i64 a2_1] 40 (0, 0)) (zK BK355.out) hg (Kd.R_ne HO365.out BK355.out (by decide))); have n3_ := ak (hp_); have n4_ := ak ((by rw [hw]; exact below_set (HB.out) GB17.out : Below w.heap.size w w30)); clear HO_8 BK354 BK355 HO365 HB; have HO_8 := n0_; have BK354 := n1_; have BK355 := n2_; have HO365 := n3_; have HB := n4_; clear n0_ n1_ n2_ n3_ n4_; clear hg hw hp_; have hnb31 := NB355_354.out; have hnc31 := NB354_355.out; have hcz32_0 : w30.cell? ⟨gb355, 0, none⟩ = some (.int .i64 a2_0) := (blk_cell BK355.out 0).trans rfl; have hcz32_1 : w30.cell? ⟨gb355, 1, none⟩ = some (.int .i64 a2_1) := (blk_cell BK355.out 1).trans rfl; have hfz32_0 := blk_frozen BK355.out 0; have hfz32_1 := blk_frozen BK355.out 1) | ((with_reducible refine gate_callee (f := 34) rfl ?_); refine goesL_ (some 54) rfl rfl Try.func34 (by kernel_rfl) rfl #[.slice (some ⟨go17, 0, none⟩) y369.length co17, .agg #[.int .i64 a2_0, .int .i64 a2_1]] rfl (by (try simp only [List.map_toArray, List.map_cons, List.map_nil]); first | done | (rw [show y369.length = y363.length from (Kd.R_reads' HO365.out).1.symm] <;> rfl) | rfl | (simp only [List.length_drop, List.length_take]; rfl)) ?_; (with_reducible refine (spec_l03Last.calls k2 _ _ y369 a2_0 a2_1 true _ ?side1 ?side2 A21.out).mono ?_); (case side1 => exact zC (Kd.R_reads' HO365.out).2.2); (case side2 => rw [show y369.length = y363.length from (Kd.R_reads' HO365.out).1.symm]; exact (Kd.R_reads' HO365.out).2.1); rintro e w33 ⟨rfl, hb⟩; refine ⟨_, rfl, ?_⟩; have n0_ := ak (Kd.R_below (zR HO_8.out) hb); have n1_ := ak (Kd.R_below (zR HO365.out) hb); have n2_ := ak (blk_below (g := gb354) (o := .cells #[.int .i16 a0_0, .slice A0_1 l0_1.length c0_1] 27 (0, 0)) (zK BK354.out) hb); have n3_ := ak (blk_below (g := gb355) (o := .cells #[.int .i64 a2_0, .int .i64 a2_1] 40 (0, 0)) (zK BK355.out) hb); have n4_ := ak (below_step (by repeat (first | (with_reducible first | exact HB.out | apply below_alloc | apply pw_below_drewN | apply below_drew1 | refine below_set ?_ GE354.out | refine below_set ?_ GE355.out) | exact HB.out)) hb); clear HO_8 HO365 BK354 BK355 HB; have HO_8 := n0_; have HO365 := n1_; have BK354 := n2_; have BK355 := n3_; have HB := n4_; clear n0_ n1_ n2_ n3_ n4_; (try clear hb); (try clear hb2); (try clear hk); (try clear hi)) | ((with_reducible refine gate_builtin (b := .append) (xs := #[.tmp 55, .tmp 59]) rfl ?_); at_builtin; refine Kd.R_append k55 (w0 := w) w.heap.size rfl (.tmp 55) (.tmp 59) 50 55 (.agg #[(.int .i64 0), (.int .i64 0)]) 16 rfl Try.underlying50 info55 rfl (by decide) (by omega) u8 x8_2 (⟨x9_1, x10_2⟩ : S55) [.int .i64 x9_1, .int .i64 x10_2] (fun _ => True) (fun _ => False) rfl rfl ?aP (fun _ hk => hk.elim) ?aF ?aO ?aB ?aS ?aL ?_; (case aP => exact k55_mkM _ _ _ (⟨x9_1, x10_2⟩ : S55)); (case aB => exact (by repeat (first | (with_reducible first | exact HB.out | apply below_alloc | apply pw_below_drewN | apply below_drew1 | refine below_set ?_ GE354.out | refine below_set ?_ GE355.out) | exact HB.out))); (case aF => exact (fun _ _ => trivial)); (case aO => exact (zR HO_8.out)); (case aS => exact (below_size (by repeat (first | (with_reducible first | exact HB.out | apply below_alloc | apply pw_below_drewN | apply below_drew1 | refine below_set ?_ GE354.out | refine below_set ?_ GE355.out) | exact HB.out)))); (case aL => have := LMc23.out; omega); intro v372 w34 ho hb hg hat; rw [← Ny371.out] at ho; have n0_ := ak (blk_grown (g := gb354) (o := .cells #[.int .i16 a0_0, .slice A0_1 l0_1.length c0_1] 27 (0, 0)) (zK BK354.out) hg (Kd.R_ne HO_8.out BK354.out (by decide))); have n1_ := ak (blk_grown (g := gb355) (o := .cells #[.int .i64 a2_0, .int .i64 a2_1] 40 (0, 0)) (zK BK355.out) hg (Kd.R_ne HO_8.out BK355.out (by decide))); have n2_ := ak (Kd.R_over' (zR HO365.out) (Kd.R_typed (zR HO_8.out)) (by decide) hg); have n3_ := ak (hb); have n4_ := ak (ho); clear BK354 BK355 HO365 HB HO_8; have BK354 := n0_; have BK355 := n1_; have HO365 := n2_; have HB := n3_; have HO373 := n4_; clear n0_ n1_ n2_ n3_ n4_; clear ho hb hg hat))
 go_roundg k2
 case measure => have := HK1.out; have := HK2.out; omega
 case rel => exact ⟨(y371), (wrap64 (x10_2 + 1)), (by first | rfl | (simp; done) | (simp [*]; done)), H', ⟨by have := HK1.out; have := HK2.out; omega⟩, ⟨(zR HO373.out)⟩, ⟨(zK BK354.out)⟩, ⟨(zK BK355.out)⟩, ⟨by repeat (first | (with_reducible first | exact HB.out | apply below_alloc | apply pw_below_drewN | apply below_drew1 | refine below_set ?_ GE354.out | refine below_set ?_ GE355.out) | exact HB.out)⟩⟩
 )
 }
 · rw [if_neg c23] at H; exact absurd H (by simp)
 }
 {
 replace c22 := Bool.eq_false_iff.mpr c22
 subst c22
 have H1 : (spec_SwappedBy.l1 k2 l1 x8_2 x9_1 (wrap64 (x10_2 + 1)) a2_0 a2_1) = some (r1, r2) := by rw [if_neg (show ¬ (false = true) by decide)] at H; exact H
 clear H
 have H := H1
 clear H1
 as_aux_lemma => (
 have H' := ak H
 clear H
 go_wp2_with (first | ((with_reducible refine gate_dst (N := 31) rfl ?_); refine Kd.R_lit k47 _ 47 ?hg (N := 31) ?hd (xs := ([] : List (S47))) (inner := []) (ok := fun _ => True) (okp := fun _ => True) ?hr ?hp (fun _ hk => hk) trivial (Below.refl _ _) (Nat.le_refl _) (by simp) ?_; (case hd => rfl); (case hg => rfl); (case hr => first | (go_simp; done) | (go_simp; rfl)); (case hp => exact (Reps.none _ _)); intro v361 w35 ho36 hb hg_ hnew_; clear hg_ hnew_; (first | rw [← Ny360.out] at ho36 | (simp only [Int.reduceToNat] at ho36; rw [← Ny360.out] at ho36)); have n0_ := ak (Kd.R_below (zR HO_8.out) hb); have n1_ := ak (Kd.R_lower ho36 (below_size (by repeat (first | (with_reducible first | exact HB.out | apply below_alloc | apply pw_below_drewN | apply below_drew1 | refine below_set ?_ GE354.out | refine below_set ?_ GE355.out) | exact HB.out)))); have n2_ := ak (blk_below (g := gb354) (o := .cells #[.int .i16 a0_0, .slice A0_1 l0_1.length c0_1] 27 (0, 0)) (zK BK354.out) hb); have n3_ := ak (blk_below (g := gb355) (o := .cells #[.int .i64 a2_0, .int .i64 a2_1] 40 (0, 0)) (zK BK355.out) hb); have n4_ := ak (below_step (by repeat (first | (with_reducible first | exact HB.out | apply below_alloc | apply pw_below_drewN | apply below_drew1 | refine below_set ?_ GE354.out | refine below_set ?_ GE355.out) | exact HB.out)) hb); clear HO_8 BK354 BK355 HB; have HO_8 := n0_; have HO362 := n1_; have BK354 := n2_; have BK355 := n3_; have HB := n4_; clear n0_ n1_ n2_ n3_ n4_; clear hb ho36) | ((with_reducible refine gate_builtin (b := .append) (xs := #[.tmp 31, .tmp 32]) rfl ?_); at_builtin; refine Kd.R_append_rows k47 (w0 := w) w.heap.size rfl (.tmp 31) (.tmp 32) 29 47 (.agg #[(.int .i16 0), (.int .i8 0)]) 4 rfl Try.underlying29 info47 rfl (by decide) (by omega) v361 y360 l1 _ _ _ (fun _ => True) (fun _ => False) rfl rfl ?aO ?aR (fun _ _ h => h) (fun _ h => h.elim) ?aF ?aB ?aS ?aL ?_; (case aR => repeat (first | exact (Kd.C_below HR1.out HB.out) | (with_reducible refine Kd.C_alloc ?_ _) | (with_reducible refine Kd.C_drewN ?_ _) | (with_reducible refine Kd.C_drew ?_))); (case aB => exact (by repeat (first | (with_reducible first | exact HB.out | apply below_alloc | apply pw_below_drewN | apply below_drew1 | refine below_set ?_ GE354.out | refine below_set ?_ GE355.out) | exact HB.out))); (case aF => exact (fun _ _ => trivial)); (case aO => exact (zR HO362.out)); (case aS => exact (below_size (by repeat (first | (with_reducible first | exact HB.out | apply below_alloc | apply pw_below_drewN | apply below_drew1 | refine below_set ?_ GE354.out | refine below_set ?_ GE355.out) | exact HB.out)))); (case aL => have := LMc13.out; omega); intro v364 w37 ho hb hg hat; rw [← Ny363.out] at ho; have n0_ := ak (Kd.R_over' (zR HO_8.out) (Kd.R_typed (zR HO362.out)) (by decide) hg); have n1_ := ak (blk_grown (g := gb354) (o := .cells #[.int .i16 a0_0, .slice A0_1 l0_1.length c0_1] 27 (0, 0)) (zK BK354.out) hg (Kd.R_ne HO362.out BK354.out (by decide))); have n2_ := ak (blk_grown (g := gb355) (o := .cells #[.int .i64 a2_0, .int .i64 a2_1] 40 (0, 0)) (zK BK355.out) hg (Kd.R_ne HO362.out BK355.out (by decide))); have n3_ := ak (hb); have n4_ := ak (ho); clear HO_8 BK354 BK355 HB HO362; have HO_8 := n0_; have BK354 := n1_; have BK355 := n2_; have HB := n3_; have HO365 := n4_; clear n0_ n1_ n2_ n3_ n4_; clear ho hb hg hat; have p366 : 0 ≤ (x10_2 : Int) := of_decide_eq_true (by first | (with_reducible assumption) | assumption); have q366 : x10_2 < (l1.length : Int) := of_decide_eq_true (by first | (with_reducible assumption) | assumption); obtain ⟨ad366, e366, hx366_0, hx366_1⟩ := at_T47 HR1.out x10_2 p366 q366; cases e366; replace hx366_0 := (HB.out.cell (World.block_lt_of_cell? w _ hx366_0)).trans hx366_0; replace hx366_1 := (HB.out.cell (World.block_lt_of_cell? w _ hx366_1)).trans hx366_1; replace p366 := eq_true p366; replace q366 := eq_true q366; have p17 : 0 ≤ (x9_1 : Int) := of_decide_eq_true (by first | (with_reducible assumption) | assumption); have q17 : (x9_1 : Int) < ((y363.length : Int) : Int) := of_decide_eq_true (by first | (with_reducible assumption) | assumption); obtain ⟨go17, co17, eo17, gb17, gl17, cl17, HG17⟩ := Kd.R_form HO365.out (by omega); (first | cases eo17 | (injection eo17 with ea_ en_ ec_; (first | subst ea_ | (injection ea_ with ea_; subst ea_)); subst ec_; clear en_)); have GB17 := ak gb17; have GG17 := ak HG17; clear gb17 gl17 HG17; obtain ⟨ce17, hcl17, hM17, hcc17, hfr17⟩ := Kd.R_elem HO365.out z47 (x9_1 : Int) p17 q17; obtain rfl := k47_openM hM17; have hx17_0 : w37.cell? ⟨go17, (x9_1 : Int).toNat * 2, none⟩ = some (.int .i16 ((rd_T47 y363 x9_1).f0)) := hcc17 0 _ rfl; have hx17_1 : w37.cell? ⟨go17, (x9_1 : Int).toNat * 2 + 1, none⟩ = some (.int .i8 ((rd_T47 y363 x9_1).f1)) := hcc17 1 _ rfl; have hf17_0 : w37.frozen? ⟨go17, (x9_1 : Int).toNat * 2, none⟩ = false := hfr17 0; have hf17_1 : w37.frozen? ⟨go17, (x9_1 : Int).toNat * 2 + 1, none⟩ = false := hfr17 1; clear hcl17 hcc17 hfr17 hM17; replace p17 := eq_true p17; replace q17 := eq_true q17; have HX38 := ak (show Kd.R k47 47 w37 w.heap.size (fun _ => True) (.slice (some ⟨go17, 0, none⟩) y363.length co17) y363 from (zR HO365.out)); obtain ⟨ce38, hcl38, hM38, hcc38, hfr38⟩ := Kd.R_elem HX38.out z47 (x9_1 : Int) (of_decide_eq_true (by first | (with_reducible assumption) | assumption)) (by have h_ : (x9_1 : Int) < ((y363.length : Int) : Int) := of_decide_eq_true (by first | (with_reducible assumption) | assumption); first | exact h_ | (have e_ := (Kd.R_reads' HO365.out).1; omega) | simpa using h_); obtain rfl := k47_openM hM38; have HP38 := Kd.R_seg HX38.out (x9_1 : Int) (of_decide_eq_true (by first | (with_reducible assumption) | assumption)) (by have h_ : (x9_1 : Int) < ((y363.length : Int) : Int) := of_decide_eq_true (by first | (with_reducible assumption) | assumption); first | exact h_ | (have e_ := (Kd.R_reads' HO365.out).1; omega) | simpa using h_) (seg := [.int .i16 ((rd_T47 l1 x10_2).f0)]) (j := 0) hcl38 hcc38 (show 1 ≤ 2 from by decide) (x' := (⟨(rd_T47 l1 x10_2).f0, (rd_T47 y363 x9_1).f1⟩ : S47)) (k47_mkM _ _ _ (⟨(rd_T47 l1 x10_2).f0, (rd_T47 y363 x9_1).f1⟩ : S47) ) (fun _ hk => hk); have hx38_0 := hcc38 0 _ rfl; (try simp only [show (k47).sz = 2 from rfl, Nat.mul_one, Nat.add_zero] at hx38_0); have hf38_0 := hfr38 0; (try simp only [show (k47).sz = 2 from rfl, Nat.mul_one, Nat.add_zero] at hf38_0); clear hcl38 hcc38 hfr38 hM38) | ((with_reducible refine gate_store (t := 24) (p := 42) rfl ?_); refine store_event (t := 24) (p := 42) (v := ?vo_w39) (w1 := (w37.setCell ⟨go17, (x9_1 : Int).toNat * 2, none⟩ (.int .i16 ((rd_T47 l1 x10_2).f0)))) ?hg ?ho ?hn ?hr ?_; (case ho => rfl); (case hg => rfl); (case hn => rfl); (case hr => first | (go_simp; done) | (go_simp; rfl)); intro w39 hw; have hg : w37.grownBy w39 (some go17) := (by rw [hw]; exact HP38.2); have hp_ : Kd.R k47 47 w39 w.heap.size (fun _ => True) (.slice (some ⟨go17, 0, none⟩) y363.length co17) y367 := (by rw [hw, Ny367.out]; exact HP38.1); clear HP38; have n0_ := ak (Kd.R_over' (v := (.slice (some ⟨go17, 0, none⟩) y363.length co17)) (zR HO_8.out) (Kd.R_typed HO365.out) (by decide) hg); have n1_ := ak (blk_grown (g := gb354) (o := .cells #[.int .i16 a0_0, .slice A0_1 l0_1.length c0_1] 27 (0, 0)) (zK BK354.out) hg (Kd.R_ne HO365.out BK354.out (by decide))); have n2_ := ak (blk_grown (g := gb355) (o := .cells #[.int .i64 a2_0, .int .i64 a2_1] 40 (0, 0)) (zK BK355.out) hg (Kd.R_ne HO365.out BK355.out (by decide))); have n3_ := ak (hp_); have n4_ := ak ((by rw [hw]; exact below_set (HB.out) GB17.out : Below w.heap.size w w39)); clear HO_8 BK354 BK355 HO365 HB; have HO_8 := n0_; have BK354 := n1_; have BK355 := n2_; have HO365 := n3_; have HB := n4_; clear n0_ n1_ n2_ n3_ n4_; clear hg hw hp_; have p368 : 0 ≤ (x9_1 : Int) := of_decide_eq_true (by first | (with_reducible assumption) | assumption); have q368 : x9_1 < (l1.length : Int) := of_decide_eq_true (by first | (with_reducible assumption) | assumption); obtain ⟨ad368, e368, hx368_0, hx368_1⟩ := at_T47 HR1.out x9_1 p368 q368; obtain rfl : ad366 = ad368 := (by injection e368); replace hx368_0 := (HB.out.cell (World.block_lt_of_cell? w _ hx368_0)).trans hx368_0; replace hx368_1 := (HB.out.cell (World.block_lt_of_cell? w _ hx368_1)).trans hx368_1; replace p368 := eq_true p368; replace q368 := eq_true q368; have p20 : 0 ≤ (x10_2 : Int) := of_decide_eq_true (by first | (with_reducible assumption) | assumption); have q20 : (x10_2 : Int) < ((y363.length : Int) : Int) := of_decide_eq_true (by first | (with_reducible assumption) | assumption); obtain ⟨ce20, hcl20, hM20, hcc20, hfr20⟩ := Kd.R_elem HO365.out z47 (x10_2 : Int) p20 q20; obtain rfl := k47_openM hM20; have hx20_0 : w39.cell? ⟨go17, (x10_2 : Int).toNat * 2, none⟩ = some (.int .i16 ((rd_T47 y367 x10_2).f0)) := hcc20 0 _ rfl; have hx20_1 : w39.cell? ⟨go17, (x10_2 : Int).toNat * 2 + 1, none⟩ = some (.int .i8 ((rd_T47 y367 x10_2).f1)) := hcc20 1 _ rfl; have hf20_0 : w39.frozen? ⟨go17, (x10_2 : Int).toNat * 2, none⟩ = false := hfr20 0; have hf20_1 : w39.frozen? ⟨go17, (x10_2 : Int).toNat * 2 + 1, none⟩ = false := hfr20 1; clear hcl20 hcc20 hfr20 hM20; replace p20 := eq_true p20; replace q20 := eq_true q20; have HX40 := ak (show Kd.R k47 47 w39 w.heap.size (fun _ => True) (.slice (some ⟨go17, 0, none⟩) y363.length co17) y367 from (zR HO365.out)); obtain ⟨ce40, hcl40, hM40, hcc40, hfr40⟩ := Kd.R_elem HX40.out z47 (x10_2 : Int) (of_decide_eq_true (by first | (with_reducible assumption) | assumption)) (by have h_ : (x10_2 : Int) < ((y363.length : Int) : Int) := of_decide_eq_true (by first | (with_reducible assumption) | assumption); first | exact h_ | (have e_ := (Kd.R_reads' HO365.out).1; omega) | simpa using h_); obtain rfl := k47_openM hM40; have HP40 := Kd.R_seg HX40.out (x10_2 : Int) (of_decide_eq_true (by first | (with_reducible assumption) | assumption)) (by have h_ : (x10_2 : Int) < ((y363.length : Int) : Int) := of_decide_eq_true (by first | (with_reducible assumption) | assumption); first | exact h_ | (have e_ := (Kd.R_reads' HO365.out).1; omega) | simpa using h_) (seg := [.int .i16 ((rd_T47 l1 x9_1).f0)]) (j := 0) hcl40 hcc40 (show 1 ≤ 2 from by decide) (x' := (⟨(rd_T47 l1 x9_1).f0, (rd_T47 y367 x10_2).f1⟩ : S47)) (k47_mkM _ _ _ (⟨(rd_T47 l1 x9_1).f0, (rd_T47 y367 x10_2).f1⟩ : S47) ) (fun _ hk => hk); have hx40_0 := hcc40 0 _ rfl; (try simp only [show (k47).sz = 2 from rfl, Nat.mul_one, Nat.add_zero] at hx40_0); have hf40_0 := hfr40 0; (try simp only [show (k47).sz = 2 from rfl, Nat.mul_one, Nat.add_zero] at hf40_0); clear hcl40 hcc40 hfr40 hM40) | ((with_reducible refine gate_store (t := 24) (p := 51) rfl ?_); refine store_event (t := 24) (p := 51) (v := ?vo_w41) (w1 := (w39.setCell ⟨go17, (x10_2 : Int).toNat * 2, none⟩ (.int .i16 ((rd_T47 l1 x9_1).f0)))) ?hg ?ho ?hn ?hr ?_; (case ho => rfl); (case hg => rfl); (case hn => rfl); (case hr => first | (go_simp; done) | (go_simp; rfl)); intro w41 hw; have hg : w39.grownBy w41 (some go17) := (by rw [hw]; exact HP40.2); have hp_ : Kd.R k47 47 w41 w.heap.size (fun _ => True) (.slice (some ⟨go17, 0, none⟩) y363.length co17) y369 := (by rw [hw, Ny369.out]; exact HP40.1); clear HP40; have n0_ := ak (Kd.R_over' (v := (.slice (some ⟨go17, 0, none⟩) y363.length co17)) (zR HO_8.out) (Kd.R_typed HO365.out) (by decide) hg); have n1_ := ak (blk_grown (g := gb354) (o := .cells #[.int .i16 a0_0, .slice A0_1 l0_1.length c0_1] 27 (0, 0)) (zK BK354.out) hg (Kd.R_ne HO365.out BK354.out (by decide))); have n2_ := ak (blk_grown (g := gb355) (o := .cells #[.int .i64 a2_0, .int .i64 a2_1] 40 (0, 0)) (zK BK355.out) hg (Kd.R_ne HO365.out BK355.out (by decide))); have n3_ := ak (hp_); have n4_ := ak ((by rw [hw]; exact below_set (HB.out) GB17.out : Below w.heap.size w w41)); clear HO_8 BK354 BK355 HO365 HB; have HO_8 := n0_; have BK354 := n1_; have BK355 := n2_; have HO365 := n3_; have HB := n4_; clear n0_ n1_ n2_ n3_ n4_; clear hg hw hp_; have hnb42 := NB355_354.out; have hnc42 := NB354_355.out; have hcz43_0 : w41.cell? ⟨gb355, 0, none⟩ = some (.int .i64 a2_0) := (blk_cell BK355.out 0).trans rfl; have hcz43_1 : w41.cell? ⟨gb355, 1, none⟩ = some (.int .i64 a2_1) := (blk_cell BK355.out 1).trans rfl; have hfz43_0 := blk_frozen BK355.out 0; have hfz43_1 := blk_frozen BK355.out 1) | ((with_reducible refine gate_callee (f := 34) rfl ?_); refine goesL_ (some 54) rfl rfl Try.func34 (by kernel_rfl) rfl #[.slice (some ⟨go17, 0, none⟩) y369.length co17, .agg #[.int .i64 a2_0, .int .i64 a2_1]] rfl (by (try simp only [List.map_toArray, List.map_cons, List.map_nil]); first | done | (rw [show y369.length = y363.length from (Kd.R_reads' HO365.out).1.symm] <;> rfl) | rfl | (simp only [List.length_drop, List.length_take]; rfl)) ?_; (with_reducible refine (spec_l03Last.calls k2 _ _ y369 a2_0 a2_1 false _ ?side1 ?side2 A21.out).mono ?_); (case side1 => exact zC (Kd.R_reads' HO365.out).2.2); (case side2 => rw [show y369.length = y363.length from (Kd.R_reads' HO365.out).1.symm]; exact (Kd.R_reads' HO365.out).2.1); rintro e w44 ⟨rfl, hb⟩; refine ⟨_, rfl, ?_⟩; have n0_ := ak (Kd.R_below (zR HO_8.out) hb); have n1_ := ak (Kd.R_below (zR HO365.out) hb); have n2_ := ak (blk_below (g := gb354) (o := .cells #[.int .i16 a0_0, .slice A0_1 l0_1.length c0_1] 27 (0, 0)) (zK BK354.out) hb); have n3_ := ak (blk_below (g := gb355) (o := .cells #[.int .i64 a2_0, .int .i64 a2_1] 40 (0, 0)) (zK BK355.out) hb); have n4_ := ak (below_step (by repeat (first | (with_reducible first | exact HB.out | apply below_alloc | apply pw_below_drewN | apply below_drew1 | refine below_set ?_ GE354.out | refine below_set ?_ GE355.out) | exact HB.out)) hb); clear HO_8 HO365 BK354 BK355 HB; have HO_8 := n0_; have HO365 := n1_; have BK354 := n2_; have BK355 := n3_; have HB := n4_; clear n0_ n1_ n2_ n3_ n4_; (try clear hb); (try clear hb2); (try clear hk); (try clear hi)))
 go_roundg k2
 case measure => have := HK1.out; have := HK2.out; omega
 case rel => exact ⟨(x8_2), (wrap64 (x10_2 + 1)), (by first | rfl | (simp; done) | (simp [*]; done)), H', ⟨by have := HK1.out; have := HK2.out; omega⟩, ⟨(zR HO_8.out)⟩, ⟨(zK BK354.out)⟩, ⟨(zK BK355.out)⟩, ⟨by repeat (first | (with_reducible first | exact HB.out | apply below_alloc | apply pw_below_drewN | apply below_drew1 | refine below_set ?_ GE354.out | refine below_set ?_ GE355.out) | exact HB.out)⟩⟩
 )
 }
 }
 · rw [if_neg c19] at H; exact absurd H (by simp)
 }
 · rw [if_neg c18] at H; exact absurd H (by simp)
 }
 · rw [if_neg c16] at H; exact absurd H (by simp)
 }
 · rw [if_neg c15] at H; exact absurd H (by simp)
 }
 · rw [if_neg c14] at H; exact absurd H (by simp)
 }
 · rw [if_neg c13] at H; exact absurd H (by simp)
 }
 {
 rw [if_neg c12] at H
 have c12b0 : decide (x10_2 < (l1.length : Int)) = false := decide_eq_false c12
 clear c12
 as_aux_lemma => (
 have H' := ak H
 clear H
 go_wp2
 go_roundg k2
 case measure => have := HK1.out; have := HK2.out; omega
 case rel => exact ⟨(x8_2), (wrap64 (x9_1 + 1)), (by first | rfl | (simp; done) | (simp [*]; done)), H', ⟨by have := HK1.out; have := HK2.out; omega⟩, ⟨(zR HO_8.out)⟩, ⟨(zK BK354.out)⟩, ⟨(zK BK355.out)⟩, ⟨by repeat (first | (with_reducible first | exact HB.out | apply below_alloc | apply pw_below_drewN | apply below_drew1 | refine below_set ?_ GE354.out | refine below_set ?_ GE355.out) | exact HB.out)⟩⟩
 )
 }
 )
 )
 }
 {
 rw [if_neg c11] at H
 have c11b0 : decide (x9_1 < (l1.length : Int)) = false := decide_eq_false c11
 clear c11
 as_aux_lemma => (
 simp only [Option.some.injEq, Prod.mk.injEq] at H
 obtain ⟨rfl, rfl⟩ := H
 go_wp2
 go_ret2
 exact ⟨_, by first | rfl | (simp [errW_none, errW_some] <;> rfl) | (simp [*, errW_none, errW_some] <;> rfl), by (with_reducible repeat (first | apply Kd.R_alloc | apply Kd.R_drewN | apply Kd.R_drew)); exact HO_8.out, by repeat (first | (with_reducible first | exact HB.out | apply below_alloc | apply pw_below_drewN | apply below_drew1 | refine below_set ?_ GE354.out | refine below_set ?_ GE355.out) | exact HB.out)⟩
 )
 }
 )
 )
 }
 {
 replace c5 := Bool.eq_false_iff.mpr c5
 subst c5
 have H1 : (some (y356, 1)) = some (r1, r2) := by rw [if_neg (show ¬ (false = true) by decide)] at H; exact H
 clear H
 have H := H1
 clear H1
 as_aux_lemma => (
 simp only [Option.some.injEq, Prod.mk.injEq] at H
 obtain ⟨rfl, rfl⟩ := H
 go_enter Try.func18, Try.ntmps18
 go_wp2_with (first | ((with_reducible refine gate_dst (N := 3) rfl ?_); refine box_event ?hg (N := 3) ?hd (cs := #[.int .i16 a0_0, .slice A0_1 l0_1.length c0_1]) (t := 27) ?hr ?_; (case hd => rfl); (case hg => rfl); (case hr => first | (go_simp; done) | (go_simp; rfl)); intro gb354 hg w45 hbox hb; have n0_ := ak (below_step (zB HB.out) hb); have n1_ := ak (hbox); have n2_ := ak ((by rw [hg]; exact (below_size (zB HB.out)) : w.heap.size ≤ gb354)); have n3_ := ak ((by rw [hg]; exact (below_size (zB HB.out)) : w.heap.size ≤ gb354)); clear HB; have HB := n0_; have BK354 := n1_; have GW354 := n2_; have GE354 := n3_; clear n0_ n1_ n2_ n3_; clear hb hbox hg) | ((with_reducible refine gate_dst (N := 5) rfl ?_); refine box_event ?hg (N := 5) ?hd (cs := #[.int .i64 a2_0, .int .i64 a2_1]) (t := 40) ?hr ?_; (case hd => rfl); (case hg => rfl); (case hr => first | (go_simp; done) | (go_simp; rfl)); intro gb355 hg w46 hbox hb; have n0_ := ak (blk_below (g := gb354) (o := .cells #[.int .i16 a0_0, .slice A0_1 l0_1.length c0_1] 27 (0, 0)) (zK BK354.out) hb); have n1_ := ak (below_step (zBG HB.out GE354.out) hb); have n2_ := ak (hbox); have n3_ := ak ((by rw [hg]; exact (below_size (zBG HB.out GE354.out)) : w.heap.size ≤ gb355)); have n4_ := ak ((by rw [hg]; exact (below_size (zBG HB.out GE354.out)) : w.heap.size ≤ gb355)); have n5_ := ak ((by rw [hg]; exact Nat.ne_of_lt (blk_lt (g := gb354) (o := .cells #[.int .i16 a0_0, .slice A0_1 l0_1.length c0_1] 27 (0, 0)) (zK BK354.out)) : gb354 ≠ gb355)); have n6_ := ak ((by rw [hg]; exact Nat.ne_of_gt (blk_lt (g := gb354) (o := .cells #[.int .i16 a0_0, .slice A0_1 l0_1.length c0_1] 27 (0, 0)) (zK BK354.out)) : gb355 ≠ gb354)); clear BK354 HB; have BK354 := n0_; have HB := n1_; have BK355 := n2_; have GW355 := n3_; have GE355 := n4_; have NB354_355 := n5_; have NB355_354 := n6_; clear n0_ n1_ n2_ n3_ n4_ n5_ n6_; clear hb hbox hg) | ((with_reducible refine gate_dst (N := 12) rfl ?_); refine Kd.R_lit k55 _ 55 ?hg (N := 12) ?hd (xs := ([] : List (S55))) (inner := []) (ok := fun _ => True) (okp := fun _ => True) ?hr ?hp (fun _ hk => hk) trivial (Below.refl _ _) (Nat.le_refl _) (by simp) ?_; (case hd => rfl); (case hg => rfl); (case hr => first | (go_simp; done) | (go_simp; rfl)); (case hp => exact (Reps.none _ _)); intro v357 w47 ho48 hb hg_ hnew_; clear hg_ hnew_; (first | rw [← Ny356.out] at ho48 | (simp only [Int.reduceToNat] at ho48; rw [← Ny356.out] at ho48)); have n0_ := ak (Kd.R_lower ho48 (below_size (by repeat (first | (with_reducible first | exact HB.out | apply below_alloc | apply pw_below_drewN | apply below_drew1 | refine below_set ?_ GE354.out | refine below_set ?_ GE355.out) | exact HB.out)))); have n1_ := ak (blk_below (g := gb354) (o := .cells #[.int .i16 a0_0, .slice A0_1 l0_1.length c0_1] 27 (0, 0)) (zK BK354.out) hb); have n2_ := ak (blk_below (g := gb355) (o := .cells #[.int .i64 a2_0, .int .i64 a2_1] 40 (0, 0)) (zK BK355.out) hb); have n3_ := ak (below_step (by repeat (first | (with_reducible first | exact HB.out | apply below_alloc | apply pw_below_drewN | apply below_drew1 | refine below_set ?_ GE354.out | refine below_set ?_ GE355.out) | exact HB.out)) hb); clear BK354 BK355 HB; have HO358 := n0_; have BK354 := n1_; have BK355 := n2_; have HB := n3_; clear n0_ n1_ n2_ n3_; clear hb ho48) | ((with_reducible refine gate_callee (f := 26) rfl ?_); refine goesL_ (some 14) rfl rfl Try.func26 (by kernel_rfl) rfl #[.pointer (some ⟨gb354, 0, none⟩), .slice A1 l1.length c1] rfl gl_ ?_; (with_reducible refine (spec_l03Holds.calls k gb354 a0_0 A0_1 c0_1 l0_1 _ _ l1 false _ ?side1 ?side2 ?side3 ?side4 ?side5 A4.out).mono ?_); (case side1 => repeat (first | exact (Kd.C_below HR0_1.out HB.out) | (with_reducible refine Kd.C_alloc ?_ _) | (with_reducible refine Kd.C_drewN ?_ _) | (with_reducible refine Kd.C_drew ?_))); (case side2 => exact HC0_1.out); (case side3 => repeat (first | exact (Kd.C_below HR1.out HB.out) | (with_reducible refine Kd.C_alloc ?_ _) | (with_reducible refine Kd.C_drewN ?_ _) | (with_reducible refine Kd.C_drew ?_))); (case side4 => exact HC1.out); (case side5 => exact (by first | exact BK354.out | ((with_reducible repeat (first | refine blk_drewN ?_ _ | refine blk_drew ?_ | refine blk_alloc ?_ _)); exact BK354.out))); rintro e w49 ⟨rfl, hb⟩; refine ⟨_, rfl, ?_⟩; have n0_ := ak (Kd.R_below (zR HO358.out) hb); have n1_ := ak (blk_below (g := gb354) (o := .cells #[.int .i16 a0_0, .slice A0_1 l0_1.length c0_1] 27 (0, 0)) (zK BK354.out) hb); have n2_ := ak (blk_below (g := gb355) (o := .cells #[.int .i64 a2_0, .int .i64 a2_1] 40 (0, 0)) (zK BK355.out) hb); have n3_ := ak (below_step (by repeat (first | (with_reducible first | exact HB.out | apply below_alloc | apply pw_below_drewN | apply below_drew1 | refine below_set ?_ GE354.out | refine below_set ?_ GE355.out) | exact HB.out)) hb); clear HO358 BK354 BK355 HB; have HO358 := n0_; have BK354 := n1_; have BK355 := n2_; have HB := n3_; clear n0_ n1_ n2_ n3_; (try clear hb); (try clear hb2); (try clear hk); (try clear hi)))
 go_ret2
 exact ⟨_, by first | rfl | (simp [errW_none, errW_some] <;> rfl) | (simp [*, errW_none, errW_some] <;> rfl), by (with_reducible repeat (first | apply Kd.R_alloc | apply Kd.R_drewN | apply Kd.R_drew)); exact HO358.out, by repeat (first | (with_reducible first | exact HB.out | apply below_alloc | apply pw_below_drewN | apply below_drew1 | refine below_set ?_ GE354.out | refine below_set ?_ GE355.out) | exact HB.out)⟩
 )
 }
/-! ### spec_SamePairs: function 19 -/
def spec_SamePairs.l0 : Nat → List (S55) → List (S55) → Int → Option (Bool)
  | 0, _, _, _ => none
  | k + 1, x0, x1, x5 => if x5 < (x0.length : Int) then (if 0 ≤ x5 then (if x5 < (x1.length : Int) then (if (!(((rd_T55 x0 x5).f0) == ((rd_T55 x1 x5).f0)) || (!(((rd_T55 x0 x5).f1) == ((rd_T55 x1 x5).f1)))) = true then (some false) else (spec_SamePairs.l0 k x0 x1 (wrap64 (x5 + 1)))) else (none)) else (none)) else (some true)
def spec_SamePairs.f (k : Nat) (l0 : List (S55)) (l1 : List (S55)) : Option (Bool) := if (l0.length : Int) = (l1.length : Int) then (spec_SamePairs.l0 k l0 l1 0) else (some false)
theorem spec_SamePairs.mono_l : ∀ k, (∀ y0 y1 y2, LeO (spec_SamePairs.l0 k y0 y1 y2) (spec_SamePairs.l0 (k + 1) y0 y1 y2))
  | 0 => fun _ _ _ r h => by simp [spec_SamePairs.l0] at h
  | k + 1 => by
    have ih0 := spec_SamePairs.mono_l k
    · intro y0 y1 y2
      unfold spec_SamePairs.l0
      repeat' first
      | (with_reducible exact ih0 _ _ _)
      | (with_reducible exact LeO.refl _)
      | (with_reducible exact LeO.none _)
      | (with_reducible refine LeO.ite ?_ ?_)
      | (with_reducible refine LeO.bind ?_ (fun _ => ?_))
      | exact ih0 _ _ _
      | exact LeO.none _
      | refine LeO.ite ?_ ?_
      | refine LeO.bind ?_ (fun _ => ?_)
theorem spec_SamePairs.mono : ∀ a0 a1 k, LeO (spec_SamePairs.f k a0 a1) (spec_SamePairs.f (k + 1) a0 a1) := by
  intro a0 a1 k
  have ih0 := spec_SamePairs.mono_l k
  unfold spec_SamePairs.f
  repeat' first
      | (with_reducible exact ih0 _ _ _)
      | (with_reducible exact LeO.refl _)
      | (with_reducible exact LeO.none _)
      | (with_reducible refine LeO.ite ?_ ?_)
      | (with_reducible refine LeO.bind ?_ (fun _ => ?_))
      | exact ih0 _ _ _
      | exact LeO.none _
      | refine LeO.ite ?_ ?_
      | refine LeO.bind ?_ (fun _ => ?_)
set_option maxHeartbeats 8000000 in
set_option maxRecDepth 100000 in
theorem spec_SamePairs.calls (k : Nat) (A0 : Option Addr) (c0 : Nat) (l0 : List (S55)) (A1 : Option Addr) (c1 : Nat) (l1 : List (S55)) (r : Bool) (w : World) (hr0 : Kd.C k55 w A0 l0.length l0) (hc0 : l0.length ≤ c0) (hr1 : Kd.C k55 w A1 l1.length l1) (hc1 : l1.length ≤ c1) (h : spec_SamePairs.f k l0 l1 = some r) :
    Calls Try.prog 19 #[.slice A0 l0.length c0, .slice A1 l1.length c1] w fun e w' => e = .returned (.bool r) ∧ Drawn0 w w' := by
 have hu55 := Try.underlying55
 have HR0 := ak hr0
 have HC0 := ak hc0
 clear hr0 hc0
 have HR1 := ak hr1
 have HC1 := ak hc1
 clear hr1 hc1
 have H : (if (l0.length : Int) = (l1.length : Int) then (spec_SamePairs.l0 k l0 l1 0) else (some false)) = some r := h
 clear h
 by_cases c3 : (l0.length : Int) = (l1.length : Int)
 {
 rw [if_pos c3] at H
 have c3b0 : ((l0.length : Int) == (l1.length : Int)) = true := beq_iff_eq.mpr c3
 have c3b1 : ((l0.length : Int) != (l1.length : Int)) = false := bne_eq_false_iff_eq.mpr c3
 have c3b2 : (l0.length == l1.length) = true := by first | simpa using c3 | (simp at c3 ⊢; omega)
 clear c3
 have H' := ak H
 clear H
 go_enter Try.func19, Try.ntmps19
 go_wp2
 repeat (go_quiet (fail); try go_wp2)
 go_loopg [5] k (fun kq v5 w' => ∃ (x5_1 : Int), v5 = .int .i64 x5_1 ∧ Aside0 (spec_SamePairs.l0 kq l0 l1 x5_1 = some r) ∧ Aside0 (kq ≤ k) ∧ Drawn0 w w')
 case atStart => exact ⟨(0), (by first | rfl | (simp; done) | (simp [*]; done)), H', ⟨Nat.le_refl _⟩, by repeat (first | exact Drawn0.refl _ | apply Drawn0.step)⟩
 case round => (
 clear H'
 try clear c1
 try clear c3
 try clear c3b0
 try clear c3b1
 try clear c3b2
 obtain ⟨x5_1, rfl, HA, HK1, ⟨m1, rfl⟩⟩ := hrel
 cases gk with
 | zero => exact absurd HA.out (by simp [spec_SamePairs.l0])
 | succ k1 => (
 have H := HA.out
 clear HA
 simp only [spec_SamePairs.l0] at H
 by_cases c4 : x5_1 < (l0.length : Int)
 {
 rw [if_pos c4] at H
 have c4b0 : decide (x5_1 < (l0.length : Int)) = true := decide_eq_true c4
 clear c4
 by_cases c5 : 0 ≤ x5_1
 {
 rw [if_pos c5] at H
 have c5b0 : decide (0 ≤ x5_1) = true := decide_eq_true c5
 clear c5
 by_cases c6 : x5_1 < (l1.length : Int)
 {
 rw [if_pos c6] at H
 have c6b0 : decide (x5_1 < (l1.length : Int)) = true := decide_eq_true c6
 clear c6
 by_cases c7 : (!(((rd_T55 l0 x5_1).f0) == ((rd_T55 l1 x5_1).f0)) || (!(((rd_T55 l0 x5_1).f1) == ((rd_T55 l1 x5_1).f1)))) = true
 {
 rw [if_pos c7] at H
 have c7b0 : (!(((rd_T55 l0 x5_1).f0) == ((rd_T55 l1 x5_1).f0)) || (!(((rd_T55 l0 x5_1).f1) == ((rd_T55 l1 x5_1).f1)))) = true := c7
 clear c7
 as_aux_lemma => (
 obtain rfl := Option.some.inj H
 have p374 : 0 ≤ (x5_1 : Int) := of_decide_eq_true (by first | (with_reducible assumption) | assumption)
 have q374 : x5_1 < (l0.length : Int) := of_decide_eq_true (by first | (with_reducible assumption) | assumption)
 obtain ⟨ad374, e374, hx374_0, hx374_1⟩ := at_T55 HR0.out x5_1 p374 q374
 cases e374
 replace p374 := eq_true p374
 replace q374 := eq_true q374
 have p375 : 0 ≤ (x5_1 : Int) := of_decide_eq_true (by first | (with_reducible assumption) | assumption)
 have q375 : x5_1 < (l1.length : Int) := of_decide_eq_true (by first | (with_reducible assumption) | assumption)
 obtain ⟨ad375, e375, hx375_0, hx375_1⟩ := at_T55 HR1.out x5_1 p375 q375
 cases e375
 replace p375 := eq_true p375
 replace q375 := eq_true q375
 go_wp2
 repeat (go_quiet (fail); try go_wp2)
 go_ret
 exact ⟨by first | rfl | (simp; done) | (simp [*]; done), by repeat (first | exact Drawn0.refl _ | apply Drawn0.step)⟩
 )
 }
 {
 rw [if_neg c7] at H
 have c7b0 : (!(((rd_T55 l0 x5_1).f0) == ((rd_T55 l1 x5_1).f0)) || (!(((rd_T55 l0 x5_1).f1) == ((rd_T55 l1 x5_1).f1)))) = false := by simpa using c7
 clear c7
 as_aux_lemma => (
 have H' := ak H
 clear H
 have p374 : 0 ≤ (x5_1 : Int) := of_decide_eq_true (by first | (with_reducible assumption) | assumption)
 have q374 : x5_1 < (l0.length : Int) := of_decide_eq_true (by first | (with_reducible assumption) | assumption)
 obtain ⟨ad374, e374, hx374_0, hx374_1⟩ := at_T55 HR0.out x5_1 p374 q374
 cases e374
 replace p374 := eq_true p374
 replace q374 := eq_true q374
 have p375 : 0 ≤ (x5_1 : Int) := of_decide_eq_true (by first | (with_reducible assumption) | assumption)
 have q375 : x5_1 < (l1.length : Int) := of_decide_eq_true (by first | (with_reducible assumption) | assumption)
 obtain ⟨ad375, e375, hx375_0, hx375_1⟩ := at_T55 HR1.out x5_1 p375 q375
 cases e375
 replace p375 := eq_true p375
 replace q375 := eq_true q375
 go_wp2
 repeat (go_quiet (fail); try go_wp2)
 go_roundg k1
 case measure => have := HK1.out; omega
 case rel => exact ⟨(wrap64 (x5_1 + 1)), (by first | rfl | (simp; done) | (simp [*]; done)), H', ⟨by have := HK1.out; omega⟩, by repeat (first | exact Drawn0.refl _ | apply Drawn0.step)⟩
 )
 }
 }
 · rw [if_neg c6] at H; exact absurd H (by simp)
 }
 · rw [if_neg c5] at H; exact absurd H (by simp)
 }
 {
 rw [if_neg c4] at H
 have c4b0 : decide (x5_1 < (l0.length : Int)) = false := decide_eq_false c4
 clear c4
 as_aux_lemma => (
 obtain rfl := Option.some.inj H
 go_wp2
 repeat (go_quiet (fail); try go_wp2)
 go_ret
 exact ⟨by first | rfl | (simp; done) | (simp [*]; done), by repeat (first | exact Drawn0.refl _ | apply Drawn0.step)⟩
 )
 }
 )
 )
 }
 {
 rw [if_neg c3] at H
 have c3b0 : ((l0.length : Int) == (l1.length : Int)) = false := beq_eq_false_iff_ne.mpr c3
 have c3b1 : ((l0.length : Int) != (l1.length : Int)) = true := bne_iff_ne.mpr c3
 have c3b2 : (l0.length == l1.length) = false := by first | simpa using c3 | (simp at c3 ⊢; omega)
 as_aux_lemma => (
 obtain rfl := Option.some.inj H
 go_enter Try.func19, Try.ntmps19
 go_wp2
 repeat (go_quiet (fail); try go_wp2)
 go_ret
 exact ⟨by first | rfl | (simp; done) | (simp [*]; done), by repeat (first | exact Drawn0.refl _ | apply Drawn0.step)⟩
 )
 }
/-! ### spec_HasPair: function 20 -/
def spec_HasPair.l0 : Nat → List (S55) → Int → Int → Int → Option (Bool)
  | 0, _, _, _, _ => none
  | k + 1, x0, x5, x377000, x377001 => if x5 < (x0.length : Int) then (if 0 ≤ x5 then (if (((rd_T55 x0 x5).f0) == x377000 && (((rd_T55 x0 x5).f1) == x377001)) = true then (some true) else (spec_HasPair.l0 k x0 (wrap64 (x5 + 1)) x377000 x377001)) else (none)) else (some false)
def spec_HasPair.f (k : Nat) (l0 : List (S55)) (a1_0 : Int) (a1_1 : Int) : Option (Bool) := spec_HasPair.l0 k l0 0 a1_0 a1_1
theorem spec_HasPair.mono_l : ∀ k, (∀ y0 y1 y2 y3, LeO (spec_HasPair.l0 k y0 y1 y2 y3) (spec_HasPair.l0 (k + 1) y0 y1 y2 y3))
  | 0 => fun _ _ _ _ r h => by simp [spec_HasPair.l0] at h
  | k + 1 => by
    have ih0 := spec_HasPair.mono_l k
    · intro y0 y1 y2 y3
      unfold spec_HasPair.l0
      repeat' first
      | (with_reducible exact ih0 _ _ _ _)
      | (with_reducible exact LeO.refl _)
      | (with_reducible exact LeO.none _)
      | (with_reducible refine LeO.ite ?_ ?_)
      | (with_reducible refine LeO.bind ?_ (fun _ => ?_))
      | exact ih0 _ _ _ _
      | exact LeO.none _
      | refine LeO.ite ?_ ?_
      | refine LeO.bind ?_ (fun _ => ?_)
theorem spec_HasPair.mono : ∀ a0 a1 a2 k, LeO (spec_HasPair.f k a0 a1 a2) (spec_HasPair.f (k + 1) a0 a1 a2) := by
  intro a0 a1 a2 k
  have ih0 := spec_HasPair.mono_l k
  unfold spec_HasPair.f
  repeat' first
      | (with_reducible exact ih0 _ _ _ _)
      | (with_reducible exact LeO.refl _)
      | (with_reducible exact LeO.none _)
      | (with_reducible refine LeO.ite ?_ ?_)
      | (with_reducible refine LeO.bind ?_ (fun _ => ?_))
      | exact ih0 _ _ _ _
      | exact LeO.none _
      | refine LeO.ite ?_ ?_
      | refine LeO.bind ?_ (fun _ => ?_)
set_option maxHeartbeats 8000000 in
set_option maxRecDepth 100000 in
theorem spec_HasPair.calls (k : Nat) (A0 : Option Addr) (c0 : Nat) (l0 : List (S55)) (a1_0 : Int) (a1_1 : Int) (r : Bool) (w : World) (hr0 : Kd.C k55 w A0 l0.length l0) (hc0 : l0.length ≤ c0) (h : spec_HasPair.f k l0 a1_0 a1_1 = some r) :
    Calls Try.prog 20 #[.slice A0 l0.length c0, .agg #[.int .i64 a1_0, .int .i64 a1_1]] w fun e w' => e = .returned (.bool r) ∧ Below w.heap.size w w' := by
 have hu55 := Try.underlying55
 have HR0 := ak hr0
 have HC0 := ak hc0
 clear hr0 hc0
 have HB := ak (Below.refl w.heap.size w)
 have H : (spec_HasPair.l0 k l0 0 a1_0 a1_1) = some r := h
 clear h
 have H' := ak H
 clear H
 go_enter Try.func20, Try.ntmps20
 go_wp2_with (first | ((with_reducible refine gate_dst (N := 3) rfl ?_); refine box_event ?hg (N := 3) ?hd (cs := #[.int .i64 a1_0, .int .i64 a1_1]) (t := 55) ?hr ?_; (case hd => rfl); (case hg => rfl); (case hr => first | (go_simp; done) | (go_simp; rfl)); intro gb376 hg w3 hbox hb; have n0_ := ak (below_step (zB HB.out) hb); have n1_ := ak (hbox); have n2_ := ak ((by rw [hg]; exact (below_size (zB HB.out)) : w.heap.size ≤ gb376)); have n3_ := ak ((by rw [hg]; exact (below_size (zB HB.out)) : w.heap.size ≤ gb376)); clear HB; have HB := n0_; have BK376 := n1_; have GW376 := n2_; have GE376 := n3_; clear n0_ n1_ n2_ n3_; clear hb hbox hg))
 repeat (go_quiet (first | ((with_reducible refine gate_dst (N := 3) rfl ?_); refine box_event ?hg (N := 3) ?hd (cs := #[.int .i64 a1_0, .int .i64 a1_1]) (t := 55) ?hr ?_; (case hd => rfl); (case hg => rfl); (case hr => first | (go_simp; done) | (go_simp; rfl)); intro gb376 hg w3 hbox hb; have n0_ := ak (below_step (zB HB.out) hb); have n1_ := ak (hbox); have n2_ := ak ((by rw [hg]; exact (below_size (zB HB.out)) : w.heap.size ≤ gb376)); have n3_ := ak ((by rw [hg]; exact (below_size (zB HB.out)) : w.heap.size ≤ gb376)); clear HB; have HB := n0_; have BK376 := n1_; have GW376 := n2_; have GE376 := n3_; clear n0_ n1_ n2_ n3_; clear hb hbox hg)); try go_wp2_with (first | ((with_reducible refine gate_dst (N := 3) rfl ?_); refine box_event ?hg (N := 3) ?hd (cs := #[.int .i64 a1_0, .int .i64 a1_1]) (t := 55) ?hr ?_; (case hd => rfl); (case hg => rfl); (case hr => first | (go_simp; done) | (go_simp; rfl)); intro gb376 hg w3 hbox hb; have n0_ := ak (below_step (zB HB.out) hb); have n1_ := ak (hbox); have n2_ := ak ((by rw [hg]; exact (below_size (zB HB.out)) : w.heap.size ≤ gb376)); have n3_ := ak ((by rw [hg]; exact (below_size (zB HB.out)) : w.heap.size ≤ gb376)); clear HB; have HB := n0_; have BK376 := n1_; have GW376 := n2_; have GE376 := n3_; clear n0_ n1_ n2_ n3_; clear hb hbox hg)))
 go_loopg [5] k (fun kq v5 w' => ∃ (x5_1 : Int), v5 = .int .i64 x5_1 ∧ Aside0 (spec_HasPair.l0 kq l0 x5_1 a1_0 a1_1 = some r) ∧ Aside0 (kq ≤ k) ∧ Aside0 (w'.heap[gb376]? = some (.cells #[.int .i64 a1_0, .int .i64 a1_1] 55 (0, 0))) ∧ Aside0 (Below w.heap.size w w'))
 case atStart => exact ⟨(0), (by first | rfl | (simp; done) | (simp [*]; done)), H', ⟨Nat.le_refl _⟩, ⟨(zK BK376.out)⟩, ⟨(zBG HB.out GE376.out)⟩⟩
 case round => (
 clear H'
 obtain ⟨x5_1, rfl, HA, HK1, BK376, HB⟩ := hrel
 cases gk with
 | zero => exact absurd HA.out (by simp [spec_HasPair.l0])
 | succ k1 => (
 have H := HA.out
 clear HA
 simp only [spec_HasPair.l0] at H
 by_cases c4 : x5_1 < (l0.length : Int)
 {
 rw [if_pos c4] at H
 have c4b0 : decide (x5_1 < (l0.length : Int)) = true := decide_eq_true c4
 clear c4
 by_cases c5 : 0 ≤ x5_1
 {
 rw [if_pos c5] at H
 have c5b0 : decide (0 ≤ x5_1) = true := decide_eq_true c5
 clear c5
 by_cases c6 : (((rd_T55 l0 x5_1).f0) == a1_0 && (((rd_T55 l0 x5_1).f1) == a1_1)) = true
 {
 rw [if_pos c6] at H
 have c6b0 : (((rd_T55 l0 x5_1).f0) == a1_0 && (((rd_T55 l0 x5_1).f1) == a1_1)) = true := c6
 (try (have c6b1 : decide (((rd_T55 l0 x5_1).f0) = a1_0 && (((rd_T55 l0 x5_1).f1) == a1_1)) = true := by simpa using c6))
 (try (have c6b2 : (((rd_T55 l0 x5_1).f0) == a1_0 && (((rd_T55 l0 x5_1).f1) == a1_1)) = true := by simpa using c6))
 clear c6
 as_aux_lemma => (
 obtain rfl := Option.some.inj H
 have p377 : 0 ≤ (x5_1 : Int) := of_decide_eq_true (by first | (with_reducible assumption) | assumption)
 have q377 : x5_1 < (l0.length : Int) := of_decide_eq_true (by first | (with_reducible assumption) | assumption)
 obtain ⟨ad377, e377, hx377_0, hx377_1⟩ := at_T55 HR0.out x5_1 p377 q377
 cases e377
 replace hx377_0 := (HB.out.cell (World.block_lt_of_cell? w _ hx377_0)).trans hx377_0
 replace hx377_1 := (HB.out.cell (World.block_lt_of_cell? w _ hx377_1)).trans hx377_1
 replace p377 := eq_true p377
 replace q377 := eq_true q377
 have hcz7_0 : wr.cell? ⟨gb376, 0, none⟩ = some (.int .i64 a1_0) := (blk_cell BK376.out 0).trans rfl
 have hcz7_1 : wr.cell? ⟨gb376, 1, none⟩ = some (.int .i64 a1_1) := (blk_cell BK376.out 1).trans rfl
 have hfz7_0 := blk_frozen BK376.out 0
 have hfz7_1 := blk_frozen BK376.out 1
 go_wp2
 repeat (go_quiet (fail); try go_wp2)
 go_ret
 exact ⟨by first | rfl | (simp [errW_none, errW_some] <;> rfl) | (simp [*, errW_none, errW_some] <;> rfl), zBG HB.out GE376.out⟩
 )
 }
 {
 rw [if_neg c6] at H
 have c6b0 : (((rd_T55 l0 x5_1).f0) == a1_0 && (((rd_T55 l0 x5_1).f1) == a1_1)) = false := by simpa using c6
 (try (have c6b1 : decide (((rd_T55 l0 x5_1).f0) = a1_0 && (((rd_T55 l0 x5_1).f1) == a1_1)) = false := by simpa using c6))
 (try (have c6b2 : (((rd_T55 l0 x5_1).f0) == a1_0 && (((rd_T55 l0 x5_1).f1) == a1_1)) = false := by simpa using c6))
 (try (have c6b3 : ¬ (((rd_T55 l0 x5_1).f0) = a1_0 && (((rd_T55 l0 x5_1).f1) == a1_1)) := by simpa using c6))
 clear c6
 as_aux_lemma => (
 have H' := ak H
 clear H
 have p377 : 0 ≤ (x5_1 : Int) := of_decide_eq_true (by first | (with_reducible assumption) | assumption)
 have q377 : x5_1 < (l0.length : Int) := of_decide_eq_true (by first | (with_reducible assumption) | assumption)
 obtain ⟨ad377, e377, hx377_0, hx377_1⟩ := at_T55 HR0.out x5_1 p377 q377
 cases e377
 replace hx377_0 := (HB.out.cell (World.block_lt_of_cell? w _ hx377_0)).trans hx377_0
 replace hx377_1 := (HB.out.cell (World.block_lt_of_cell? w _ hx377_1)).trans hx377_1
 replace p377 := eq_true p377
 replace q377 := eq_true q377
 have hcz8_0 : wr.cell? ⟨gb376, 0, none⟩ = some (.int .i64 a1_0) := (blk_cell BK376.out 0).trans rfl
 have hcz8_1 : wr.cell? ⟨gb376, 1, none⟩ = some (.int .i64 a1_1) := (blk_cell BK376.out 1).trans rfl
 have hfz8_0 := blk_frozen BK376.out 0
 have hfz8_1 := blk_frozen BK376.out 1
 go_wp2
 repeat (go_quiet (fail); try go_wp2)
 go_roundg k1
 case measure => have := HK1.out; omega
 case rel => exact ⟨(wrap64 (x5_1 + 1)), (by first | rfl | (simp; done) | (simp [*]; done)), H', ⟨by have := HK1.out; omega⟩, ⟨(zK BK376.out)⟩, ⟨(zBG HB.out GE376.out)⟩⟩
 )
 }
 }
 · rw [if_neg c5] at H; exact absurd H (by simp)
 }
 {
 rw [if_neg c4] at H
 have c4b0 : decide (x5_1 < (l0.length : Int)) = false := decide_eq_false c4
 clear c4
 as_aux_lemma => (
 obtain rfl := Option.some.inj H
 go_wp2
 repeat (go_quiet (fail); try go_wp2)
 go_ret
 exact ⟨by first | rfl | (simp [errW_none, errW_some] <;> rfl) | (simp [*, errW_none, errW_some] <;> rfl), zBG HB.out GE376.out⟩
 )
 }
 )
 )
end Go.Proofs.Ytcgbnbblojkglaa.P
