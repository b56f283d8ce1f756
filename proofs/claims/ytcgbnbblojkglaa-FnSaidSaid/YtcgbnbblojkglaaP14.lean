-- Printed by wip/print (my turned copy of the kit's print) out of the translation; Lean checks it.
import Derived.Test.YtcgbnbblojkglaaP0
import Derived.Test.YtcgbnbblojkglaaP5
import Derived.Test.YtcgbnbblojkglaaP10
import Derived.Test.YtcgbnbblojkglaaP11
namespace Go.Proofs.Ytcgbnbblojkglaa.P
open Go.RowKit Go.Proofs.YtcgbnbblojkglaaW.PrintWords Go.Proofs.YtcgbnbblojkglaaW.PrintLast Go.Proofs.YtcgbnbblojkglaaW.PrintMore
attribute [local go_sem] max2_int min2_int max_two min_two max_three min_three max_four min_four   -- for this text's walks alone
set_option linter.unusedVariables false
set_option linter.unusedSimpArgs false

/-! ### impl_SwappedBy: function 17 -/
mutual
def impl_SwappedBy.l0 : Nat → List (S47) → List (S55) → Int → Int → Int → Int → Option ((List (S55)) × Int)
  | 0, _, _, _, _, _, _ => none
  | k + 1, x1, x8, x18, x19, x339000, x339001 => if x19 < x18 then (impl_SwappedBy.l1 k x1 x8 x19 (wrap64 (x19 + 1)) x18 x19 x339000 x339001) else (some (x8, 0))
def impl_SwappedBy.l1 : Nat → List (S47) → List (S55) → Int → Int → Int → Int → Int → Int → Option ((List (S55)) × Int)
  | 0, _, _, _, _, _, _, _, _ => none
  | k + 1, x1, x8, x9, x10, x18, x19, x339000, x339001 => if x10 < (x1.length : Int) then ((slices_Clone_Hold.f x1).bind fun t343 => (if 0 ≤ x10 then (if x10 < (t343.length : Int) then (if 0 ≤ x9 then (if x9 < (t343.length : Int) then ((some (t343.set (x9 : Int).toNat (⟨(rd_T47 t343 x10).f0, (rd_T47 t343 x9).f1⟩ : S47) : List (S47))).bind fun y348 => ((impl_endsWith.f k (y348.set (x10 : Int).toNat (⟨(rd_T47 t343 x9).f0, (rd_T47 y348 x10).f1⟩ : S47)) x339000 x339001).bind fun t350 => (if t350 = true then (if x8.length < 8796093022208 then (impl_SwappedBy.l1 k x1 (x8 ++ [(⟨x9, x10⟩ : S55)]) x9 (wrap64 (x10 + 1)) x18 x19 x339000 x339001) else (none)) else (impl_SwappedBy.l1 k x1 x8 x9 (wrap64 (x10 + 1)) x18 x19 x339000 x339001)))) else (none)) else (none)) else (none)) else (none))) else (impl_SwappedBy.l0 k x1 x8 x18 (wrap64 (x19 + 1)) x339000 x339001)
end
def impl_SwappedBy.f (k : Nat) (a0_0 : Int) (l0_1 : List Int) (l1 : List (S47)) (a2_0 : Int) (a2_1 : Int) : Option ((List (S55)) × Int) := (impl_ValidHolds.f k a0_0 l0_1 l1).bind fun t339 => (if t339 = true then (impl_SwappedBy.l0 k l1 (([] : List (S55))) (l1.length : Int) 0 a2_0 a2_1) else (some (([] : List (S55)), 1)))
theorem impl_SwappedBy.mono_l : ∀ k, (∀ y0 y1 y2 y3 y4 y5, LeO (impl_SwappedBy.l0 k y0 y1 y2 y3 y4 y5) (impl_SwappedBy.l0 (k + 1) y0 y1 y2 y3 y4 y5)) ∧ (∀ y0 y1 y2 y3 y4 y5 y6 y7, LeO (impl_SwappedBy.l1 k y0 y1 y2 y3 y4 y5 y6 y7) (impl_SwappedBy.l1 (k + 1) y0 y1 y2 y3 y4 y5 y6 y7))
  | 0 => ⟨fun _ _ _ _ _ _ r h => by simp [impl_SwappedBy.l0] at h, fun _ _ _ _ _ _ _ _ r h => by simp [impl_SwappedBy.l1] at h⟩
  | k + 1 => by
    obtain ⟨ih0, ih1⟩ := impl_SwappedBy.mono_l k
    refine ⟨?_, ?_⟩
    · intro y0 y1 y2 y3 y4 y5
      unfold impl_SwappedBy.l0
      repeat' first
      | (with_reducible exact ih0 _ _ _ _ _ _)
      | (with_reducible exact ih1 _ _ _ _ _ _ _ _)
      | (with_reducible exact impl_ValidHolds.mono _ _ _ _)
      | (with_reducible exact impl_endsWith.mono _ _ _ _)
      | (with_reducible exact LeO.refl _)
      | (with_reducible exact LeO.none _)
      | (with_reducible refine LeO.ite ?_ ?_)
      | (with_reducible refine LeO.bind ?_ (fun _ => ?_))
      | exact ih0 _ _ _ _ _ _
      | exact ih1 _ _ _ _ _ _ _ _
      | exact impl_ValidHolds.mono _ _ _ _
      | exact impl_endsWith.mono _ _ _ _
      | exact LeO.none _
      | refine LeO.ite ?_ ?_
      | refine LeO.bind ?_ (fun _ => ?_)
    · intro y0 y1 y2 y3 y4 y5 y6 y7
      unfold impl_SwappedBy.l1
      repeat' first
      | (with_reducible exact ih0 _ _ _ _ _ _)
      | (with_reducible exact ih1 _ _ _ _ _ _ _ _)
      | (with_reducible exact impl_ValidHolds.mono _ _ _ _)
      | (with_reducible exact impl_endsWith.mono _ _ _ _)
      | (with_reducible exact LeO.refl _)
      | (with_reducible exact LeO.none _)
      | (with_reducible refine LeO.ite ?_ ?_)
      | (with_reducible refine LeO.bind ?_ (fun _ => ?_))
      | exact ih0 _ _ _ _ _ _
      | exact ih1 _ _ _ _ _ _ _ _
      | exact impl_ValidHolds.mono _ _ _ _
      | exact impl_endsWith.mono _ _ _ _
      | exact LeO.none _
      | refine LeO.ite ?_ ?_
      | refine LeO.bind ?_ (fun _ => ?_)
theorem impl_SwappedBy.mono : ∀ a0 a1 a2 a3 a4 k, LeO (impl_SwappedBy.f k a0 a1 a2 a3 a4) (impl_SwappedBy.f (k + 1) a0 a1 a2 a3 a4) := by
  intro a0 a1 a2 a3 a4 k
  obtain ⟨ih0, ih1⟩ := impl_SwappedBy.mono_l k
  unfold impl_SwappedBy.f
  repeat' first
      | (with_reducible exact ih0 _ _ _ _ _ _)
      | (with_reducible exact ih1 _ _ _ _ _ _ _ _)
      | (with_reducible exact impl_ValidHolds.mono _ _ _ _)
      | (with_reducible exact impl_endsWith.mono _ _ _ _)
      | (with_reducible exact LeO.refl _)
      | (with_reducible exact LeO.none _)
      | (with_reducible refine LeO.ite ?_ ?_)
      | (with_reducible refine LeO.bind ?_ (fun _ => ?_))
      | exact ih0 _ _ _ _ _ _
      | exact ih1 _ _ _ _ _ _ _ _
      | exact impl_ValidHolds.mono _ _ _ _
      | exact impl_endsWith.mono _ _ _ _
      | exact LeO.none _
      | refine LeO.ite ?_ ?_
      | refine LeO.bind ?_ (fun _ => ?_)
def impl_SwappedBy.T11 : Bool × List (List Nat × List Nat) := (true, [([], []), ([], []), ([], []), ([], []), ([], []), ([], []), ([4, 5], [4, 5]), ([6], [6]), ([7], [7]), ([], []), ([], []), ([9, 10], [9, 10]), ([11], [11]), ([12], [12]), ([0, 1, 0, 1, 4, 5, 6, 7, 8, 13], [0, 1]), ([14, 0, 1, 4, 5, 6, 7, 8, 13], [14]), ([15, 8, 0, 1, 4, 5, 6, 7, 8, 13], [8, 15]), ([2, 3, 0, 1, 2, 3, 4, 5, 6, 7, 8, 9, 10, 11, 12, 13, 14, 15, 16], [2, 3]), ([17, 0, 1, 2, 3, 4, 5, 6, 7, 8, 9, 10, 11, 12, 13, 14, 15, 16], [17]), ([18, 13, 16, 0, 1, 2, 3, 4, 5, 6, 7, 8, 9, 10, 11, 12, 13, 14, 15, 16], [13, 18])])
def impl_SwappedBy.B11 : List Nat := [0, 0, 0, 0, 0, 0, 48, 112, 240, 0, 0, 1536, 3584, 7680, 16371, 32755, 65523, 131071, 262143, 524287]
theorem impl_SwappedBy.tab11 : rtab .any (opsOf Try.f17 11) = impl_SwappedBy.T11 := by kernel_rfl
theorem impl_SwappedBy.bits11 : waitsOk impl_SwappedBy.T11.2 impl_SwappedBy.B11 = true := by kernel_rfl
set_option maxHeartbeats 8000000 in
set_option maxRecDepth 100000 in
theorem impl_SwappedBy.calls (k : Nat) (a0_0 : Int) (A0_1 : Option Addr) (c0_1 : Nat) (l0_1 : List Int) (A1 : Option Addr) (c1 : Nat) (l1 : List (S47)) (a2_0 : Int) (a2_1 : Int) (r1 : List (S55)) (r2 : Int) (w : World) (hr0_1 : Kd.C (Kd.int .i16) w A0_1 l0_1.length l0_1) (hc0_1 : l0_1.length ≤ c0_1) (hr1 : Kd.C k47 w A1 l1.length l1) (hc1 : l1.length ≤ c1) (h : impl_SwappedBy.f k a0_0 l0_1 l1 a2_0 a2_1 = some (r1, r2)) :
    Calls Try.prog 17 #[.agg #[.int .i16 a0_0, .slice A0_1 l0_1.length c0_1], .slice A1 l1.length c1, .agg #[.int .i64 a2_0, .int .i64 a2_1]] w fun e w' => ∃ v0_ : Value, e = .returned (.tuple #[v0_, .int .i64 r2]) ∧ Kd.R k55 55 w' w.heap.size (fun _ => True) v0_ r1 ∧ Below w.heap.size w w' := by
 have hu27 := Try.underlying27
 have hu40 := Try.underlying40
 have hu55 := Try.underlying55
 have HR0_1 := ak hr0_1
 have HC0_1 := ak hc0_1
 clear hr0_1 hc0_1
 have HR1 := ak hr1
 have HC1 := ak hc1
 clear hr1 hc1
 have HB := ak (Below.refl w.heap.size w)
 have H : ((impl_ValidHolds.f k a0_0 l0_1 l1).bind fun t339 => (if t339 = true then (impl_SwappedBy.l0 k l1 (([] : List (S55))) (l1.length : Int) 0 a2_0 a2_1) else (some (([] : List (S55)), 1)))) = some (r1, r2) := h
 clear h
 replace H := Option.bind_eq_some_iff.mp H
 obtain ⟨t339, A40, H⟩ := H
 replace H : (if t339 = true then (impl_SwappedBy.l0 k l1 (([] : List (S55))) (l1.length : Int) 0 a2_0 a2_1) else (some (([] : List (S55)), 1))) = some (r1, r2) := H
 have A4 := ak A40
 clear A40
 by_cases c5 : t339 = true
 {
 subst c5
 have H1 : (impl_SwappedBy.l0 k l1 (([] : List (S55))) (l1.length : Int) 0 a2_0 a2_1) = some (r1, r2) := by rw [if_pos rfl] at H; exact H
 clear H
 have H := H1
 clear H1
 obtain ⟨y340, hy340⟩ : ∃ y_ : List (S55), y_ = (([] : List (S55))) := ⟨_, rfl⟩
 replace H : (impl_SwappedBy.l0 k l1 y340 (l1.length : Int) 0 a2_0 a2_1) = some (r1, r2) := by first | (rw [hy340]; with_reducible exact H) | (have H2_ := (Option.bind_some _ _).symm.trans H; rw [hy340]; with_reducible exact H2_) | (have H2_ := (Option.bind_some _ _).symm.trans H; with_reducible exact H2_) | with_reducible exact H | (rw [hy340]; exact H) | exact H
 have Ny340 := ak hy340
 clear hy340
 have H' := ak H
 clear H
 go_enter Try.func17, Try.ntmps17
 go_wp2_with (first | ((with_reducible refine gate_dst (N := 3) rfl ?_); refine box_event ?hg (N := 3) ?hd (cs := #[.int .i16 a0_0, .slice A0_1 l0_1.length c0_1]) (t := 27) ?hr ?_; (case hd => rfl); (case hg => rfl); (case hr => first | (go_simp; done) | (go_simp; rfl)); intro gb337 hg w6 hbox hb; have n0_ := ak (below_step (zB HB.out) hb); have n1_ := ak (hbox); have n2_ := ak ((by rw [hg]; exact (below_size (zB HB.out)) : w.heap.size ≤ gb337)); have n3_ := ak ((by rw [hg]; exact (below_size (zB HB.out)) : w.heap.size ≤ gb337)); clear HB; have HB := n0_; have BK337 := n1_; have GW337 := n2_; have GE337 := n3_; clear n0_ n1_ n2_ n3_; clear hb hbox hg) | ((with_reducible refine gate_dst (N := 5) rfl ?_); refine box_event ?hg (N := 5) ?hd (cs := #[.int .i64 a2_0, .int .i64 a2_1]) (t := 40) ?hr ?_; (case hd => rfl); (case hg => rfl); (case hr => first | (go_simp; done) | (go_simp; rfl)); intro gb338 hg w7 hbox hb; have n0_ := ak (blk_below (g := gb337) (o := .cells #[.int .i16 a0_0, .slice A0_1 l0_1.length c0_1] 27 (0, 0)) (zK BK337.out) hb); have n1_ := ak (below_step (zBG HB.out GE337.out) hb); have n2_ := ak (hbox); have n3_ := ak ((by rw [hg]; exact (below_size (zBG HB.out GE337.out)) : w.heap.size ≤ gb338)); have n4_ := ak ((by rw [hg]; exact (below_size (zBG HB.out GE337.out)) : w.heap.size ≤ gb338)); have n5_ := ak ((by rw [hg]; exact Nat.ne_of_lt (blk_lt (g := gb337) (o := .cells #[.int .i16 a0_0, .slice A0_1 l0_1.length c0_1] 27 (0, 0)) (zK BK337.out)) : gb337 ≠ gb338)); have n6_ := ak ((by rw [hg]; exact Nat.ne_of_gt (blk_lt (g := gb337) (o := .cells #[.int .i16 a0_0, .slice A0_1 l0_1.length c0_1] 27 (0, 0)) (zK BK337.out)) : gb338 ≠ gb337)); clear BK337 HB; have BK337 := n0_; have HB := n1_; have BK338 := n2_; have GW338 := n3_; have GE338 := n4_; have NB337_338 := n5_; have NB338_337 := n6_; clear n0_ n1_ n2_ n3_ n4_ n5_ n6_; clear hb hbox hg; have hnb8 := NB337_338.out; have hnc8 := NB338_337.out; have hcz9_0 : w7.cell? ⟨gb337, 0, none⟩ = some (.int .i16 a0_0) := (blk_cell BK337.out 0).trans rfl; have hcz9_1 : w7.cell? ⟨gb337, 1, none⟩ = some (.slice A0_1 l0_1.length c0_1) := (blk_cell BK337.out 1).trans rfl; have hfz9_0 := blk_frozen BK337.out 0; have hfz9_1 := blk_frozen BK337.out 1) | ((with_reducible refine gate_callee (f := 24) rfl ?_); refine goesL_ (some 14) rfl rfl Try.func24 (by kernel_rfl) rfl #[.agg #[.int .i16 a0_0, .slice A0_1 l0_1.length c0_1], .slice A1 l1.length c1] rfl gl_ ?_; (with_reducible refine (impl_ValidHolds.calls k a0_0 _ _ l0_1 _ _ l1 true _ ?side1 ?side2 ?side3 ?side4 A4.out).mono ?_); (case side1 => repeat (first | exact (Kd.C_below HR0_1.out HB.out) | (with_reducible refine Kd.C_alloc ?_ _) | (with_reducible refine Kd.C_drewN ?_ _) | (with_reducible refine Kd.C_drew ?_))); (case side2 => exact HC0_1.out); (case side3 => repeat (first | exact (Kd.C_below HR1.out HB.out) | (with_reducible refine Kd.C_alloc ?_ _) | (with_reducible refine Kd.C_drewN ?_ _) | (with_reducible refine Kd.C_drew ?_))); (case side4 => exact HC1.out); rintro e w10 ⟨rfl, hb⟩; refine ⟨_, rfl, ?_⟩; have n0_ := ak (blk_below (g := gb337) (o := .cells #[.int .i16 a0_0, .slice A0_1 l0_1.length c0_1] 27 (0, 0)) (zK BK337.out) hb); have n1_ := ak (blk_below (g := gb338) (o := .cells #[.int .i64 a2_0, .int .i64 a2_1] 40 (0, 0)) (zK BK338.out) hb); have n2_ := ak (below_step (by repeat (first | (with_reducible first | exact HB.out | apply below_alloc | apply pw_below_drewN | apply below_drew1 | refine below_set ?_ GE337.out | refine below_set ?_ GE338.out) | exact HB.out)) hb); clear BK337 BK338 HB; have BK337 := n0_; have BK338 := n1_; have HB := n2_; clear n0_ n1_ n2_; (try clear hb); (try clear hb2); (try clear hk); (try clear hi)) | ((with_reducible refine gate_dst (N := 16) rfl ?_); refine Kd.R_lit k55 _ 55 ?hg (N := 16) ?hd (xs := ([] : List (S55))) (inner := []) (ok := fun _ => True) (okp := fun _ => True) ?hr ?hp (fun _ hk => hk) trivial (Below.refl _ _) (Nat.le_refl _) (by simp) ?_; (case hd => rfl); (case hg => rfl); (case hr => first | (go_simp; done) | (go_simp; rfl)); (case hp => exact (Reps.none _ _)); intro v341 w11 ho12 hb hg_ hnew_; clear hg_ hnew_; (first | rw [← Ny340.out] at ho12 | (simp only [Int.reduceToNat] at ho12; rw [← Ny340.out] at ho12)); have n0_ := ak (Kd.R_lower ho12 (below_size (by repeat (first | (with_reducible first | exact HB.out | apply below_alloc | apply pw_below_drewN | apply below_drew1 | refine below_set ?_ GE337.out | refine below_set ?_ GE338.out) | exact HB.out)))); have n1_ := ak (blk_below (g := gb337) (o := .cells #[.int .i16 a0_0, .slice A0_1 l0_1.length c0_1] 27 (0, 0)) (zK BK337.out) hb); have n2_ := ak (blk_below (g := gb338) (o := .cells #[.int .i64 a2_0, .int .i64 a2_1] 40 (0, 0)) (zK BK338.out) hb); have n3_ := ak (below_step (by repeat (first | (with_reducible first | exact HB.out | apply below_alloc | apply pw_below_drewN | apply below_drew1 | refine below_set ?_ GE337.out | refine below_set ?_ GE338.out) | exact HB.out)) hb); clear BK337 BK338 HB; have HO342 := n0_; have BK337 := n1_; have BK338 := n2_; have HB := n3_; clear n0_ n1_ n2_ n3_; clear hb ho12))
 go_loopg [8, 19] k (fun kq v8 v19 w' => ∃ (x8_1 : List (S55)) (x19_1 : Int), v19 = .int .i64 x19_1 ∧ Aside0 (impl_SwappedBy.l0 kq l1 x8_1 (l1.length : Int) x19_1 a2_0 a2_1 = some (r1, r2)) ∧ Aside0 (kq ≤ k) ∧ Aside0 (Kd.R k55 55 w' w.heap.size (fun _ => True) v8 x8_1) ∧ Aside0 (w'.heap[gb337]? = some (.cells #[.int .i16 a0_0, (.slice A0_1 l0_1.length c0_1)] 27 (0, 0))) ∧ Aside0 (w'.heap[gb338]? = some (.cells #[.int .i64 a2_0, .int .i64 a2_1] 40 (0, 0))) ∧ Aside0 (Below w.heap.size w w'))
 case atStart => exact ⟨(y340), (0), (by first | rfl | (simp; done) | (simp [*]; done)), H', ⟨Nat.le_refl _⟩, ⟨(zR HO342.out)⟩, ⟨(zK BK337.out)⟩, ⟨(zK BK338.out)⟩, ⟨by repeat (first | (with_reducible first | exact HB.out | apply below_alloc | apply pw_below_drewN | apply below_drew1 | refine below_set ?_ GE337.out | refine below_set ?_ GE338.out) | exact HB.out)⟩⟩
 case round => (
 clear H'
 try clear c1
 try clear c5
 try clear hcz9_0
 try clear hcz9_1
 try clear hfz9_0
 try clear hfz9_1
 obtain ⟨x8_1, x19_1, rfl, HA, HK1, HO_8, BK337, BK338, HB⟩ := hrel
 cases gk with
 | zero => exact absurd HA.out (by simp [impl_SwappedBy.l0])
 | succ k1 => (
 have H := HA.out
 clear HA
 simp only [impl_SwappedBy.l0] at H
 by_cases c13 : x19_1 < (l1.length : Int)
 {
 rw [if_pos c13] at H
 have c13b0 : decide (x19_1 < (l1.length : Int)) = true := decide_eq_true c13
 clear c13
 have H' := ak H
 clear H
 go_wp2
 go_loopg [8, 10] k1 (fun kq v8 v10 w' => ∃ (x8_2 : List (S55)) (x10_2 : Int), v10 = .int .i64 x10_2 ∧ Aside0 (impl_SwappedBy.l1 kq l1 x8_2 x19_1 x10_2 (l1.length : Int) x19_1 a2_0 a2_1 = some (r1, r2)) ∧ Aside0 (kq ≤ k1) ∧ Aside0 (Kd.R k55 55 w' w.heap.size (fun _ => True) v8 x8_2) ∧ Aside0 (w'.heap[gb337]? = some (.cells #[.int .i16 a0_0, (.slice A0_1 l0_1.length c0_1)] 27 (0, 0))) ∧ Aside0 (w'.heap[gb338]? = some (.cells #[.int .i64 a2_0, .int .i64 a2_1] 40 (0, 0))) ∧ Aside0 (Below w.heap.size w w'))
 case atStart => exact ⟨(x8_1), (wrap64 (x19_1 + 1)), (by first | rfl | (simp; done) | (simp [*]; done)), H', ⟨Nat.le_refl _⟩, ⟨(zR HO_8.out)⟩, ⟨(zK BK337.out)⟩, ⟨(zK BK338.out)⟩, ⟨by repeat (first | (with_reducible first | exact HB.out | apply below_alloc | apply pw_below_drewN | apply below_drew1 | refine below_set ?_ GE337.out | refine below_set ?_ GE338.out) | exact HB.out)⟩⟩
 case round => (
 clear H'
 try clear c1
 try clear c5
 try clear c13
 try clear c13b0
 try clear hcz9_0
 try clear hcz9_1
 try clear hfz9_0
 try clear hfz9_1
 obtain ⟨x8_2, x10_2, rfl, HA, HK2, HO_8, BK337, BK338, HB⟩ := hrel
 cases gk with
 | zero => exact absurd HA.out (by simp [impl_SwappedBy.l1])
 | succ k2 => (
 have H := HA.out
 clear HA
 simp only [impl_SwappedBy.l1] at H
 by_cases c14 : x10_2 < (l1.length : Int)
 {
 rw [if_pos c14] at H
 have c14b0 : decide (x10_2 < (l1.length : Int)) = true := decide_eq_true c14
 clear c14
 replace H := Option.bind_eq_some_iff.mp H
 obtain ⟨t343, A150, H⟩ := H
 replace H : (if 0 ≤ x10_2 then (if x10_2 < (t343.length : Int) then (if 0 ≤ x19_1 then (if x19_1 < (t343.length : Int) then ((some (t343.set (x19_1 : Int).toNat (⟨(rd_T47 t343 x10_2).f0, (rd_T47 t343 x19_1).f1⟩ : S47) : List (S47))).bind fun y348 => ((impl_endsWith.f k2 (y348.set (x10_2 : Int).toNat (⟨(rd_T47 t343 x19_1).f0, (rd_T47 y348 x10_2).f1⟩ : S47)) a2_0 a2_1).bind fun t350 => (if t350 = true then (if x8_2.length < 8796093022208 then (impl_SwappedBy.l1 k2 l1 (x8_2 ++ [(⟨x19_1, x10_2⟩ : S55)]) x19_1 (wrap64 (x10_2 + 1)) (l1.length : Int) x19_1 a2_0 a2_1) else (none)) else (impl_SwappedBy.l1 k2 l1 x8_2 x19_1 (wrap64 (x10_2 + 1)) (l1.length : Int) x19_1 a2_0 a2_1)))) else (none)) else (none)) else (none)) else (none)) = some (r1, r2) := H
 have A15 := ak A150
 clear A150
 by_cases c16 : 0 ≤ x10_2
 {
 rw [if_pos c16] at H
 have c16b0 : decide (0 ≤ x10_2) = true := decide_eq_true c16
 clear c16
 by_cases c17 : x10_2 < (t343.length : Int)
 {
 rw [if_pos c17] at H
 have c17b0 : decide (x10_2 < (t343.length : Int)) = true := decide_eq_true c17
 clear c17
 by_cases c18 : 0 ≤ x19_1
 {
 rw [if_pos c18] at H
 have c18b0 : decide (0 ≤ x19_1) = true := decide_eq_true c18
 clear c18
 by_cases c19 : x19_1 < (t343.length : Int)
 {
 rw [if_pos c19] at H
 have c19b0 : decide (x19_1 < (t343.length : Int)) = true := decide_eq_true c19
 clear c19
 obtain ⟨y348, hy348⟩ : ∃ y_ : List (S47), y_ = (t343.set (x19_1 : Int).toNat (⟨(rd_T47 t343 x10_2).f0, (rd_T47 t343 x19_1).f1⟩ : S47)) := ⟨_, rfl⟩
 replace H : ((impl_endsWith.f k2 (y348.set (x10_2 : Int).toNat (⟨(rd_T47 t343 x19_1).f0, (rd_T47 y348 x10_2).f1⟩ : S47)) a2_0 a2_1).bind fun t350 => (if t350 = true then (if x8_2.length < 8796093022208 then (impl_SwappedBy.l1 k2 l1 (x8_2 ++ [(⟨x19_1, x10_2⟩ : S55)]) x19_1 (wrap64 (x10_2 + 1)) (l1.length : Int) x19_1 a2_0 a2_1) else (none)) else (impl_SwappedBy.l1 k2 l1 x8_2 x19_1 (wrap64 (x10_2 + 1)) (l1.length : Int) x19_1 a2_0 a2_1))) = some (r1, r2) := by first | (rw [hy348]; with_reducible exact H) | (have H2_ := (Option.bind_some _ _).symm.trans H; rw [hy348]; with_reducible exact H2_) | (have H2_ := (Option.bind_some _ _).symm.trans H; with_reducible exact H2_) | with_reducible exact H | (rw [hy348]; exact H) | exact H
 have Ny348 := ak hy348
 clear hy348
 obtain ⟨y349, hy349⟩ : ∃ y_ : List (S47), y_ = (y348.set (x10_2 : Int).toNat (⟨(rd_T47 t343 x19_1).f0, (rd_T47 y348 x10_2).f1⟩ : S47)) := ⟨_, rfl⟩
 replace H : ((impl_endsWith.f k2 y349 a2_0 a2_1).bind fun t350 => (if t350 = true then (if x8_2.length < 8796093022208 then (impl_SwappedBy.l1 k2 l1 (x8_2 ++ [(⟨x19_1, x10_2⟩ : S55)]) x19_1 (wrap64 (x10_2 + 1)) (l1.length : Int) x19_1 a2_0 a2_1) else (none)) else (impl_SwappedBy.l1 k2 l1 x8_2 x19_1 (wrap64 (x10_2 + 1)) (l1.length : Int) x19_1 a2_0 a2_1))) = some (r1, r2) := by first | (rw [hy349]; with_reducible exact H) | (have H2_ := (Option.bind_some _ _).symm.trans H; rw [hy349]; with_reducible exact H2_) | (have H2_ := (Option.bind_some _ _).symm.trans H; with_reducible exact H2_) | with_reducible exact H | (rw [hy349]; exact H) | exact H
 have Ny349 := ak hy349
 clear hy349
 replace H := Option.bind_eq_some_iff.mp H
 obtain ⟨t350, A220, H⟩ := H
 replace H : (if t350 = true then (if x8_2.length < 8796093022208 then (impl_SwappedBy.l1 k2 l1 (x8_2 ++ [(⟨x19_1, x10_2⟩ : S55)]) x19_1 (wrap64 (x10_2 + 1)) (l1.length : Int) x19_1 a2_0 a2_1) else (none)) else (impl_SwappedBy.l1 k2 l1 x8_2 x19_1 (wrap64 (x10_2 + 1)) (l1.length : Int) x19_1 a2_0 a2_1)) = some (r1, r2) := H
 have A22 := ak A220
 clear A220
 by_cases c23 : t350 = true
 {
 subst c23
 have H1 : (if x8_2.length < 8796093022208 then (impl_SwappedBy.l1 k2 l1 (x8_2 ++ [(⟨x19_1, x10_2⟩ : S55)]) x19_1 (wrap64 (x10_2 + 1)) (l1.length : Int) x19_1 a2_0 a2_1) else (none)) = some (r1, r2) := by rw [if_pos rfl] at H; exact H
 clear H
 have H := H1
 clear H1
 by_cases c24 : x8_2.length < 8796093022208
 {
 rw [if_pos c24] at H
 have LMc24 := ak c24
 clear c24
 obtain ⟨y351, hy351⟩ : ∃ y_ : List (S55), y_ = (x8_2 ++ [(⟨x19_1, x10_2⟩ : S55)]) := ⟨_, rfl⟩
 replace H : (impl_SwappedBy.l1 k2 l1 y351 x19_1 (wrap64 (x10_2 + 1)) (l1.length : Int) x19_1 a2_0 a2_1) = some (r1, r2) := by first | (rw [hy351]; with_reducible exact H) | (have H2_ := (Option.bind_some _ _).symm.trans H; rw [hy351]; with_reducible exact H2_) | (have H2_ := (Option.bind_some _ _).symm.trans H; with_reducible exact H2_) | with_reducible exact H | (rw [hy351]; exact H) | exact H
 have Ny351 := ak hy351
 clear hy351
 as_aux_lemma => (
 have H' := ak H
 clear H
 try go_wp2_with (first | ((with_reducible refine gate_callee (f := 37) rfl ?_); refine goesL_ (some 31) rfl rfl Try.func37 (by kernel_rfl) rfl #[.slice A1 l1.length c1] rfl gl_ ?_; (with_reducible refine (slices_Clone_Hold.calls _ _ l1 t343 _ ?side1 ?side2 A15.out).mono ?_); (case side1 => repeat (first | exact (Kd.C_below HR1.out HB.out) | (with_reducible refine Kd.C_alloc ?_ _) | (with_reducible refine Kd.C_drewN ?_ _) | (with_reducible refine Kd.C_drew ?_))); (case side2 => exact HC1.out); rintro e w25 ⟨v344, rfl, ho0, hb⟩; refine ⟨_, rfl, ?_⟩; have n0_ := ak (Kd.R_below (zR HO_8.out) hb); have n1_ := ak (Kd.R_lower ho0 (below_size (by repeat (first | (with_reducible first | exact HB.out | apply below_alloc | apply pw_below_drewN | apply below_drew1 | refine below_set ?_ GE337.out | refine below_set ?_ GE338.out) | exact HB.out)))); have n2_ := ak (blk_below (g := gb337) (o := .cells #[.int .i16 a0_0, .slice A0_1 l0_1.length c0_1] 27 (0, 0)) (zK BK337.out) hb); have n3_ := ak (blk_below (g := gb338) (o := .cells #[.int .i64 a2_0, .int .i64 a2_1] 40 (0, 0)) (zK BK338.out) hb); have n4_ := ak (below_step (by repeat (first | (with_reducible first | exact HB.out | apply below_alloc | apply pw_below_drewN | apply below_drew1 | refine below_set ?_ GE337.out | refine below_set ?_ GE338.out) | exact HB.out)) hb); clear HO_8 BK337 BK338 HB; have HO_8 := n0_; have HO345 := n1_; have BK337 := n2_; have BK338 := n3_; have HB := n4_; clear n0_ n1_ n2_ n3_ n4_; (try clear hb); (try clear hb2); (try clear hk); (try clear hi); (try clear ho0)))
 have n0_ := ak (Kd.R_drew HO_8.out)
 have n1_ := ak (Kd.R_drew HO345.out)
 have n2_ := ak (blk_drew BK337.out)
 have n3_ := ak (blk_drew BK338.out)
 have n4_ := ak (below_drew1 HB.out)
 clear HO_8 HO345 BK337 BK338 HB
 have HO_8 := n0_
 have HO345 := n1_
 have BK337 := n2_
 have BK338 := n3_
 have HB := n4_
 clear n0_ n1_ n2_ n3_ n4_
 obtain ⟨Ao27, co27, eo27⟩ := Kd.R_slice HO345.out
 (first | subst eo27 | (injection eo27 with f1_ f2_ f3_; have f4_ := f1_.symm; have f5_ := f3_.symm; clear f1_ f2_ f3_; subst f4_; subst f5_))
 have p346 : 0 ≤ (x10_2 : Int) := of_decide_eq_true (by first | (with_reducible assumption) | assumption)
 have q346 : x10_2 < (t343.length : Int) := of_decide_eq_true (by first | (with_reducible assumption) | assumption)
 obtain ⟨ad346, e346, hx346_0, hx346_1⟩ := at_T47 (Kd.R_reads' HO345.out).2.2 x10_2 p346 q346
 cases e346
 replace p346 := eq_true p346
 replace q346 := eq_true q346
 have p347 : 0 ≤ (x19_1 : Int) := of_decide_eq_true (by first | (with_reducible assumption) | assumption)
 have q347 : x19_1 < (t343.length : Int) := of_decide_eq_true (by first | (with_reducible assumption) | assumption)
 obtain ⟨ad347, e347, hx347_0, hx347_1⟩ := at_T47 (Kd.R_reads' HO345.out).2.2 x19_1 p347 q347
 obtain rfl : ad346 = ad347 := (by injection e347)
 replace p347 := eq_true p347
 replace q347 := eq_true q347
 have p20 : 0 ≤ (x19_1 : Int) := of_decide_eq_true (by first | (with_reducible assumption) | assumption)
 have q20 : (x19_1 : Int) < ((t343.length : Int) : Int) := of_decide_eq_true (by first | (with_reducible assumption) | assumption)
 obtain ⟨go20, co20, eo20, gb20, gl20, cl20, HG20⟩ := Kd.R_form HO345.out (by omega)
 (first | cases eo20 | (injection eo20 with ea_ en_ ec_; (first | subst ea_ | (injection ea_ with ea_; subst ea_)); subst ec_; clear en_))
 have GB20 := ak gb20
 have GG20 := ak HG20
 clear gb20 gl20 HG20
 (first | simp only [add_plain] at hx346_0 | skip)
 (first | simp only [add_plain] at hx346_1 | skip)
 (first | simp only [add_plain] at hx347_0 | skip)
 (first | simp only [add_plain] at hx347_1 | skip)
 obtain ⟨ce20, hcl20, hM20, hcc20, hfr20⟩ := Kd.R_elem HO345.out z47 (x19_1 : Int) p20 q20
 obtain rfl := k47_openM hM20
 have hx20_0 : World.cell? _ ⟨go20, (x19_1 : Int).toNat * 2, none⟩ = some (.int .i16 ((rd_T47 t343 x19_1).f0)) := hcc20 0 _ rfl
 have hx20_1 : World.cell? _ ⟨go20, (x19_1 : Int).toNat * 2 + 1, none⟩ = some (.int .i8 ((rd_T47 t343 x19_1).f1)) := hcc20 1 _ rfl
 have hf20_0 : World.frozen? _ ⟨go20, (x19_1 : Int).toNat * 2, none⟩ = false := hfr20 0
 have hf20_1 : World.frozen? _ ⟨go20, (x19_1 : Int).toNat * 2 + 1, none⟩ = false := hfr20 1
 (try simp only [show k47.sz = 2 from rfl, Nat.mul_one, Nat.add_zero, World.setCells] at hx20_0 hf20_0 hx20_1 hf20_1)
 clear hcl20 hcc20 hfr20 hM20
 replace p20 := eq_true p20
 replace q20 := eq_true q20
 obtain ⟨ce28, hcl28, hM28, hcc28, hfr28⟩ := Kd.R_elem HO345.out z47 (x19_1 : Int) (of_decide_eq_true (by first | (with_reducible assumption) | assumption)) (by have h_ : (x19_1 : Int) < ((t343.length : Int) : Int) := of_decide_eq_true (by first | (with_reducible assumption) | assumption); first | exact h_ | (have e_ := (Kd.R_reads' HO345.out).1; omega) | simpa using h_)
 obtain rfl := k47_openM hM28
 have HP28 := (Kd.R_seg HO345.out (x19_1 : Int) (of_decide_eq_true (by first | (with_reducible assumption) | assumption)) (by have h_ : (x19_1 : Int) < ((t343.length : Int) : Int) := of_decide_eq_true (by first | (with_reducible assumption) | assumption); first | exact h_ | (have e_ := (Kd.R_reads' HO345.out).1; omega) | simpa using h_) (seg := [.int .i16 ((rd_T47 t343 x10_2).f0)]) (j := 0) hcl28 hcc28 (show 1 ≤ 2 from by decide) (x' := (⟨(rd_T47 t343 x10_2).f0, (rd_T47 t343 x19_1).f1⟩ : S47)) (k47_mkM _ _ _ (⟨(rd_T47 t343 x10_2).f0, (rd_T47 t343 x19_1).f1⟩ : S47) ) (fun _ hk => hk)).1
 rw [← Ny348.out] at HP28
 have HQ28 := ak HP28
 clear hcl28 hcc28 hfr28 hM28 HP28
 have p21 : 0 ≤ (x10_2 : Int) := of_decide_eq_true (by first | (with_reducible assumption) | assumption)
 have q21 : (x10_2 : Int) < ((t343.length : Int) : Int) := of_decide_eq_true (by first | (with_reducible assumption) | assumption)
 obtain ⟨ce21, hcl21, hM21, hcc21, hfr21⟩ := Kd.R_elem HQ28.out z47 (x10_2 : Int) p21 q21
 obtain rfl := k47_openM hM21
 have hx21_0 : World.cell? _ ⟨go20, (x10_2 : Int).toNat * 2, none⟩ = some (.int .i16 ((rd_T47 y348 x10_2).f0)) := hcc21 0 _ rfl
 have hx21_1 : World.cell? _ ⟨go20, (x10_2 : Int).toNat * 2 + 1, none⟩ = some (.int .i8 ((rd_T47 y348 x10_2).f1)) := hcc21 1 _ rfl
 have hf21_0 : World.frozen? _ ⟨go20, (x10_2 : Int).toNat * 2, none⟩ = false := hfr21 0
 have hf21_1 : World.frozen? _ ⟨go20, (x10_2 : Int).toNat * 2 + 1, none⟩ = false := hfr21 1
 (try simp only [show k47.sz = 2 from rfl, Nat.mul_one, Nat.add_zero, World.setCells] at hx21_0 hf21_0 hx21_1 hf21_1)
 clear hcl21 hcc21 hfr21 hM21
 replace p21 := eq_true p21
 replace q21 := eq_true q21
 obtain ⟨ce29, hcl29, hM29, hcc29, hfr29⟩ := Kd.R_elem HQ28.out z47 (x10_2 : Int) (of_decide_eq_true (by first | (with_reducible assumption) | assumption)) (by have h_ : (x10_2 : Int) < ((t343.length : Int) : Int) := of_decide_eq_true (by first | (with_reducible assumption) | assumption); first | exact h_ | (have e_ := (Kd.R_reads' HO345.out).1; omega) | simpa using h_)
 obtain rfl := k47_openM hM29
 have HP29 := (Kd.R_seg HQ28.out (x10_2 : Int) (of_decide_eq_true (by first | (with_reducible assumption) | assumption)) (by have h_ : (x10_2 : Int) < ((t343.length : Int) : Int) := of_decide_eq_true (by first | (with_reducible assumption) | assumption); first | exact h_ | (have e_ := (Kd.R_reads' HO345.out).1; omega) | simpa using h_) (seg := [.int .i16 ((rd_T47 t343 x19_1).f0)]) (j := 0) hcl29 hcc29 (show 1 ≤ 2 from by decide) (x' := (⟨(rd_T47 t343 x19_1).f0, (rd_T47 y348 x10_2).f1⟩ : S47)) (k47_mkM _ _ _ (⟨(rd_T47 t343 x19_1).f0, (rd_T47 y348 x10_2).f1⟩ : S47) ) (fun _ hk => hk)).1
 rw [← Ny349.out] at HP29
 have HQ29 := ak HP29
 clear hcl29 hcc29 hfr29 hM29 HP29
 refine start_ (n := 20) (S := fun w' => w'.cell? ⟨go20, ((x10_2).toNat * 2), none⟩ = some (.int .i16 ((rd_T47 t343 x10_2).f0)) ∧ w'.cell? ⟨go20, ((x10_2).toNat * 2) + 1, none⟩ = some (.int .i8 ((rd_T47 t343 x10_2).f1)) ∧ w'.cell? ⟨go20, ((x19_1).toNat * 2), none⟩ = some (.int .i16 ((rd_T47 t343 x19_1).f0)) ∧ w'.cell? ⟨go20, ((x19_1).toNat * 2) + 1, none⟩ = some (.int .i8 ((rd_T47 t343 x19_1).f1))) (ds := [16, 19]) (bA 20 0) (by kernel_rfl) rfl rfl ⟨hx346_0, hx346_1, hx347_0, hx347_1⟩ (fun hHeld => ?_); refine with_tabW impl_SwappedBy.tab11 impl_SwappedBy.bits11 (fun HT_ HW_ => ?_)
 generalize w25.drew = w26 at HO_8 HO345 BK337 BK338 HB GG20 HQ28 HQ29 hf20_0 hf20_1 hf21_0 hf21_1 hx20_0 hx20_1 hx21_0 hx21_1 hx346_0 hx346_1 hx347_0 hx347_1 hHeld ⊢
 refine pure_ (i := 0) (N := some 32) (v := ?_) (a' := ?_) (bA 20 1) rfl rfl (any_of HT_.out (by kernel_rfl)) (fun _ _ _ h => h) (Or.inl ⟨by rfl, ?_⟩) ?_ ?_
 rotate_left
 {
 intro w'
 go_simp
 with_reducible rfl
 }
 rotate_left
 · exact pt_
 refine pure_ (i := 1) (N := some 33) (v := ?_) (a' := ?_) (bA 20 3) rfl rfl (any_of HT_.out (by kernel_rfl)) (fun _ _ _ h => h) (Or.inl ⟨by rfl, ?_⟩) ?_ ?_
 rotate_left
 {
 intro w'
 go_simp
 with_reducible rfl
 }
 rotate_left
 · exact pt_
 refine pure_ (i := 2) (N := some 34) (v := ?_) (a' := ?_) (bA 20 7) rfl rfl (any_of HT_.out (by kernel_rfl)) (fun _ _ _ h => h) (Or.inl ⟨by rfl, ?_⟩) ?_ ?_
 rotate_left
 {
 intro w'
 go_simp
 with_reducible rfl
 }
 rotate_left
 · exact pt_
 refine pure_ (i := 3) (N := some 35) (v := ?_) (a' := ?_) (bA 20 15) rfl rfl (any_of HT_.out (by kernel_rfl)) (fun _ _ _ h => h) (Or.inl ⟨by rfl, ?_⟩) ?_ ?_
 rotate_left
 {
 intro w'
 go_simp
 with_reducible rfl
 }
 rotate_left
 · exact pt_
 refine pure_ (i := 4) (N := some 36) (v := ?_) (a' := ?_) (bA 20 31) rfl rfl (any_of HT_.out (by kernel_rfl)) (fun _ _ _ h => h) (Or.inl ⟨by rfl, ?_⟩) ?_ ?_
 rotate_left
 {
 intro w'
 go_simp
 with_reducible rfl
 }
 rotate_left
 · exact pt_
 refine pure_ (i := 5) (N := some 37) (v := ?_) (a' := ?_) (bA 20 63) rfl rfl (any_of HT_.out (by kernel_rfl)) (fun _ _ _ h => h) (Or.inl ⟨by rfl, ?_⟩) ?_ ?_
 rotate_left
 {
 intro w'
 go_simp
 with_reducible rfl
 }
 rotate_left
 · exact pt_
 refine pure_ (i := 6) (N := some 38) (v := ?_) (a' := ?_) (bA 20 127) rfl rfl (any_of HT_.out (by kernel_rfl)) (fun _ _ _ h => h) (Or.inl ⟨by rfl, ?_⟩) ?_ ?_
 rotate_left
 {
 intro w'
 go_simp
 with_reducible rfl
 }
 rotate_left
 · exact pt_
 refine pure_ (i := 7) (N := some 39) (v := ?_) (a' := ?_) (bA 20 255) rfl rfl (any_of HT_.out (by kernel_rfl)) (fun _ _ _ h => h) (Or.inl ⟨by rfl, ?_⟩) ?_ ?_
 rotate_left
 {
 intro w'
 go_simp
 with_reducible rfl
 }
 rotate_left
 · exact pt_
 refine pure_ (i := 9) (N := some 41) (v := ?_) (a' := ?_) (bA 20 767) rfl rfl (any_of HT_.out (by kernel_rfl)) (fun _ _ _ h => h) (Or.inl ⟨by rfl, ?_⟩) ?_ ?_
 rotate_left
 {
 intro w'
 go_simp
 with_reducible rfl
 }
 rotate_left
 · exact pt_
 refine pure_ (i := 10) (N := some 42) (v := ?_) (a' := ?_) (bA 20 1791) rfl rfl (any_of HT_.out (by kernel_rfl)) (fun _ _ _ h => h) (Or.inl ⟨by rfl, ?_⟩) ?_ ?_
 rotate_left
 {
 intro w'
 go_simp
 with_reducible rfl
 }
 rotate_left
 · exact pt_
 refine pure_ (i := 11) (N := some 43) (v := ?_) (a' := ?_) (bA 20 3839) rfl rfl (any_of HT_.out (by kernel_rfl)) (fun _ _ _ h => h) (Or.inl ⟨by rfl, ?_⟩) ?_ ?_
 rotate_left
 {
 intro w'
 go_simp
 with_reducible rfl
 }
 rotate_left
 · exact pt_
 refine pure_ (i := 12) (N := some 44) (v := ?_) (a' := ?_) (bA 20 7935) rfl rfl (any_of HT_.out (by kernel_rfl)) (fun _ _ _ h => h) (Or.inl ⟨by rfl, ?_⟩) ?_ ?_
 rotate_left
 {
 intro w'
 go_simp
 with_reducible rfl
 }
 rotate_left
 · exact pt_
 refine take_ (i := 8) (N := some 40) (v := ?_) (a' := ?_) (bA 20 8191) rfl rfl (take_ofW HT_.out HW_.out (by kernel_rfl)) (fun _ _ _ h => h) (Or.inl ⟨by rfl, ?_⟩) hHeld ?_ ?_
 rotate_left
 {
 rintro w' ⟨s0, s1, s2, s3⟩
 go_simp
 with_reducible rfl
 }
 rotate_left
 · exact pt_
 refine take_ (i := 13) (N := some 45) (v := ?_) (a' := ?_) (bA 20 16383) rfl rfl (take_ofW HT_.out HW_.out (by kernel_rfl)) (fun _ _ _ h => h) (Or.inl ⟨by rfl, ?_⟩) hHeld ?_ ?_
 rotate_left
 {
 rintro w' ⟨s0, s1, s2, s3⟩
 go_simp
 with_reducible rfl
 }
 rotate_left
 · exact pt_
 refine pure_ (i := 14) (N := some 46) (v := ?_) (a' := ?_) (bA 20 32767) rfl rfl (any_of HT_.out (by kernel_rfl)) (fun _ _ _ h => h) (Or.inl ⟨by rfl, ?_⟩) ?_ ?_
 rotate_left
 {
 intro w'
 go_simp
 with_reducible rfl
 }
 rotate_left
 · exact pt_
 refine pure_ (i := 15) (N := some 47) (v := ?_) (a' := ?_) (bA 20 65535) rfl rfl (any_of HT_.out (by kernel_rfl)) (fun _ _ _ h => h) (Or.inl ⟨by rfl, ?_⟩) ?_ ?_
 rotate_left
 {
 intro w'
 go_simp
 with_reducible rfl
 }
 rotate_left
 · exact pt_
 refine last_ (i := 16) (N := none) #[true, true, true, true, true, true, true, true, true, true, true, true, true, true, true, true, true, false, false, false] rfl rfl (one_of HT_.out (by kernel_rfl)) (by decide) (fun K hK => ?_)
 refine skip_ (w1 := ?_) (by rfl) rfl ?_ ?_
 rotate_left
 · go_simp; rfl
 refine hK.out _ _ ?_
 clear hK K
 refine pure_ (i := 17) (N := some 48) (v := ?_) (a' := ?_) (bA 20 262143) rfl rfl (any_of HT_.out (by kernel_rfl)) (fun _ _ _ h => h) (Or.inl ⟨by rfl, ?_⟩) ?_ ?_
 rotate_left
 {
 intro w'
 go_simp
 with_reducible rfl
 }
 rotate_left
 · exact pt_
 refine pure_ (i := 18) (N := some 49) (v := ?_) (a' := ?_) (bA 20 524287) rfl rfl (any_of HT_.out (by kernel_rfl)) (fun _ _ _ h => h) (Or.inl ⟨by rfl, ?_⟩) ?_ ?_
 rotate_left
 {
 intro w'
 go_simp
 with_reducible rfl
 }
 rotate_left
 · exact pt_
 refine last_ (i := 19) (N := none) #[true, true, true, true, true, true, true, true, true, true, true, true, true, true, true, true, true, true, true, true] rfl rfl (one_of HT_.out (by kernel_rfl)) (by decide) (fun K hK => ?_)
 refine skip_ (w1 := ?_) (by rfl) rfl ?_ ?_
 rotate_left
 · go_simp; rfl
 refine hK.out _ _ ?_
 clear hK K
 refine done_ (done_of HT_.out (by kernel_rfl)) ?_
 have hnb30 := NB338_337.out
 have hnc30 := NB337_338.out
 have hcz31_0 : ((w26.setCell ⟨go20, (x19_1).toNat * 2, none⟩ (.int .i16 ((rd_T47 t343 x10_2).f0))).setCell ⟨go20, (x10_2).toNat * 2, none⟩ (.int .i16 ((rd_T47 t343 x19_1).f0))).cell? ⟨gb338, 0, none⟩ = some (.int .i64 a2_0) := (blk_cell (blk_far (blk_far BK338.out (by have h_ := Kd.R_ne HO345.out BK338.out (by decide); intro e_; exact h_ (by rw [e_]; rfl)) _) (by have h_ := Kd.R_ne HO345.out BK338.out (by decide); intro e_; exact h_ (by rw [e_]; rfl)) _) 0).trans rfl
 have hcz31_1 : ((w26.setCell ⟨go20, (x19_1).toNat * 2, none⟩ (.int .i16 ((rd_T47 t343 x10_2).f0))).setCell ⟨go20, (x10_2).toNat * 2, none⟩ (.int .i16 ((rd_T47 t343 x19_1).f0))).cell? ⟨gb338, 1, none⟩ = some (.int .i64 a2_1) := (blk_cell (blk_far (blk_far BK338.out (by have h_ := Kd.R_ne HO345.out BK338.out (by decide); intro e_; exact h_ (by rw [e_]; rfl)) _) (by have h_ := Kd.R_ne HO345.out BK338.out (by decide); intro e_; exact h_ (by rw [e_]; rfl)) _) 1).trans rfl
 have hfz31_0 : ((w26.setCell ⟨go20, (x19_1).toNat * 2, none⟩ (.int .i16 ((rd_T47 t343 x10_2).f0))).setCell ⟨go20, (x10_2).toNat * 2, none⟩ (.int .i16 ((rd_T47 t343 x19_1).f0))).frozen? ⟨gb338, 0, none⟩ = false := blk_frozen (blk_far (blk_far BK338.out (by have h_ := Kd.R_ne HO345.out BK338.out (by decide); intro e_; exact h_ (by rw [e_]; rfl)) _) (by have h_ := Kd.R_ne HO345.out BK338.out (by decide); intro e_; exact h_ (by rw [e_]; rfl)) _) 0
 have hfz31_1 : ((w26.setCell ⟨go20, (x19_1).toNat * 2, none⟩ (.int .i16 ((rd_T47 t343 x10_2).f0))).setCell ⟨go20, (x10_2).toNat * 2, none⟩ (.int .i16 ((rd_T47 t343 x19_1).f0))).frozen? ⟨gb338, 1, none⟩ = false := blk_frozen (blk_far (blk_far BK338.out (by have h_ := Kd.R_ne HO345.out BK338.out (by decide); intro e_; exact h_ (by rw [e_]; rfl)) _) (by have h_ := Kd.R_ne HO345.out BK338.out (by decide); intro e_; exact h_ (by rw [e_]; rfl)) _) 1
 try go_wp2_with (first | ((with_reducible refine gate_callee (f := 31) rfl ?_); refine goesL_ (some 52) rfl rfl Try.func31 (by kernel_rfl) rfl #[.slice (some ⟨go20, 0, none⟩) y349.length co27, .agg #[.int .i64 a2_0, .int .i64 a2_1]] rfl (by (try simp only [List.map_toArray, List.map_cons, List.map_nil]); first | done | (rw [show y349.length = t343.length from (Kd.R_reads' HQ29.out).1.symm] <;> rfl) | rfl | (simp only [List.length_drop, List.length_take]; rfl)) ?_; (with_reducible refine (impl_endsWith.calls k2 _ _ y349 a2_0 a2_1 true _ ?side1 ?side2 A22.out).mono ?_); (case side1 => refine (Kd.R_reads' (e := 47) (base := w.heap.size) (ok := fun k_ => True) (n := t343.length) (c := co27) ?_).2.2; exact (zR HQ29.out)); (case side2 => rw [show y349.length = t343.length from (Kd.R_reads' HQ29.out).1.symm]; exact (Kd.R_reads' HO345.out).2.1); rintro e w32 ⟨rfl, hb⟩; refine ⟨_, rfl, ?_⟩; have n0_ := ak (Kd.R_below (by (with_reducible repeat (first | apply Kd.R_alloc | apply Kd.R_drewN | apply Kd.R_drew)); exact (Kd.R_mono (Kd.R_far (p := ⟨go20, (x10_2 : Int).toNat * 2, none⟩) (Kd.R_far (p := ⟨go20, (x19_1 : Int).toNat * 2, none⟩) (Kd.R_types HO_8.out GG20.out (by decide)) (fun _ hk => hk.2) (.int .i16 ((rd_T47 t343 x10_2).f0))) (fun _ hk => hk.2) (.int .i16 ((rd_T47 t343 x19_1).f0))) (fun _ h_ => h_.1))) hb); have n1_ := ak (Kd.R_below (zR HQ29.out) hb); have n2_ := ak (blk_below (g := gb337) (o := .cells #[.int .i16 a0_0, .slice A0_1 l0_1.length c0_1] 27 (0, 0)) (by (with_reducible repeat (first | refine blk_drewN ?_ _ | refine blk_drew ?_ | refine blk_alloc ?_ _)); refine blk_far ?_ (by have h_ := Kd.R_ne HO345.out BK337.out (by decide); intro e_; exact h_ (by rw [e_]; rfl)) _; (with_reducible repeat (first | refine blk_drewN ?_ _ | refine blk_drew ?_ | refine blk_alloc ?_ _)); refine blk_far ?_ (by have h_ := Kd.R_ne HO345.out BK337.out (by decide); intro e_; exact h_ (by rw [e_]; rfl)) _; (with_reducible repeat (first | refine blk_drewN ?_ _ | refine blk_drew ?_ | refine blk_alloc ?_ _)); exact BK337.out) hb); have n3_ := ak (blk_below (g := gb338) (o := .cells #[.int .i64 a2_0, .int .i64 a2_1] 40 (0, 0)) (by (with_reducible repeat (first | refine blk_drewN ?_ _ | refine blk_drew ?_ | refine blk_alloc ?_ _)); refine blk_far ?_ (by have h_ := Kd.R_ne HO345.out BK338.out (by decide); intro e_; exact h_ (by rw [e_]; rfl)) _; (with_reducible repeat (first | refine blk_drewN ?_ _ | refine blk_drew ?_ | refine blk_alloc ?_ _)); refine blk_far ?_ (by have h_ := Kd.R_ne HO345.out BK338.out (by decide); intro e_; exact h_ (by rw [e_]; rfl)) _; (with_reducible repeat (first | refine blk_drewN ?_ _ | refine blk_drew ?_ | refine blk_alloc ?_ _)); exact BK338.out) hb); have n4_ := ak (below_step (by repeat (first | (with_reducible first | exact HB.out | apply below_alloc | apply pw_below_drewN | apply below_drew1 | refine below_set ?_ GB20.out | refine below_set ?_ GB20.out | refine below_set ?_ GE337.out | refine below_set ?_ GE338.out) | exact HB.out)) hb); clear HO_8 HO345 BK337 BK338 HB; have HO_8 := n0_; have HO345 := n1_; have BK337 := n2_; have BK338 := n3_; have HB := n4_; clear n0_ n1_ n2_ n3_ n4_; (try clear hb); (try clear hb2); (try clear hk); (try clear hi)) | ((with_reducible refine gate_builtin (b := .append) (xs := #[.tmp 53, .tmp 57]) rfl ?_); at_builtin; refine Kd.R_append k55 (w0 := w) w.heap.size rfl (.tmp 53) (.tmp 57) 50 55 (.agg #[(.int .i64 0), (.int .i64 0)]) 16 rfl Try.underlying50 info55 rfl (by decide) (by omega) u8 x8_2 (⟨x19_1, x10_2⟩ : S55) [.int .i64 x19_1, .int .i64 x10_2] (fun _ => True) (fun _ => False) rfl rfl ?aP (fun _ hk => hk.elim) ?aF ?aO ?aB ?aS ?aL ?_; (case aP => exact k55_mkM _ _ _ (⟨x19_1, x10_2⟩ : S55)); (case aB => exact (by repeat (first | (with_reducible first | exact HB.out | apply below_alloc | apply pw_below_drewN | apply below_drew1 | refine below_set ?_ GE337.out | refine below_set ?_ GE338.out) | exact HB.out))); (case aF => exact (fun _ _ => trivial)); (case aO => exact (zR HO_8.out)); (case aS => exact (below_size (by repeat (first | (with_reducible first | exact HB.out | apply below_alloc | apply pw_below_drewN | apply below_drew1 | refine below_set ?_ GE337.out | refine below_set ?_ GE338.out) | exact HB.out)))); (case aL => have := LMc24.out; omega); intro v352 w33 ho hb hg hat; rw [← Ny351.out] at ho; have n0_ := ak (blk_grown (g := gb337) (o := .cells #[.int .i16 a0_0, .slice A0_1 l0_1.length c0_1] 27 (0, 0)) (zK BK337.out) hg (Kd.R_ne HO_8.out BK337.out (by decide))); have n1_ := ak (blk_grown (g := gb338) (o := .cells #[.int .i64 a2_0, .int .i64 a2_1] 40 (0, 0)) (zK BK338.out) hg (Kd.R_ne HO_8.out BK338.out (by decide))); have n2_ := ak (Kd.R_over' (zR HO345.out) (Kd.R_typed (zR HO_8.out)) (by decide) hg); have n3_ := ak (hb); have n4_ := ak (ho); clear BK337 BK338 HO345 HB HO_8; have BK337 := n0_; have BK338 := n1_; have HO345 := n2_; have HB := n3_; have HO353 := n4_; clear n0_ n1_ n2_ n3_ n4_; clear ho hb hg hat))
 go_roundg k2
 case measure => have := HK1.out; have := HK2.out; omega
 case rel => exact ⟨(y351), (wrap64 (x10_2 + 1)), (by first | rfl | (simp; done) | (simp [*]; done)), H', ⟨by have := HK1.out; have := HK2.out; omega⟩, ⟨(zR HO353.out)⟩, ⟨(zK BK337.out)⟩, ⟨(zK BK338.out)⟩, ⟨by repeat (first | (with_reducible first | exact HB.out | apply below_alloc | apply pw_below_drewN | apply below_drew1 | refine below_set ?_ GE337.out | refine below_set ?_ GE338.out) | exact HB.out)⟩⟩
 )
 }
 · rw [if_neg c24] at H; exact absurd H (by simp)
 }
 {
 replace c23 := Bool.eq_false_iff.mpr c23
 subst c23
 have H1 : (impl_SwappedBy.l1 k2 l1 x8_2 x19_1 (wrap64 (x10_2 + 1)) (l1.length : Int) x19_1 a2_0 a2_1) = some (r1, r2) := by rw [if_neg (show ¬ (false = true) by decide)] at H; exact H
 clear H
 have H := H1
 clear H1
 as_aux_lemma => (
 have H' := ak H
 clear H
 try go_wp2_with (first | ((with_reducible refine gate_callee (f := 37) rfl ?_); refine goesL_ (some 31) rfl rfl Try.func37 (by kernel_rfl) rfl #[.slice A1 l1.length c1] rfl gl_ ?_; (with_reducible refine (slices_Clone_Hold.calls _ _ l1 t343 _ ?side1 ?side2 A15.out).mono ?_); (case side1 => repeat (first | exact (Kd.C_below HR1.out HB.out) | (with_reducible refine Kd.C_alloc ?_ _) | (with_reducible refine Kd.C_drewN ?_ _) | (with_reducible refine Kd.C_drew ?_))); (case side2 => exact HC1.out); rintro e w34 ⟨v344, rfl, ho0, hb⟩; refine ⟨_, rfl, ?_⟩; have n0_ := ak (Kd.R_below (zR HO_8.out) hb); have n1_ := ak (Kd.R_lower ho0 (below_size (by repeat (first | (with_reducible first | exact HB.out | apply below_alloc | apply pw_below_drewN | apply below_drew1 | refine below_set ?_ GE337.out | refine below_set ?_ GE338.out) | exact HB.out)))); have n2_ := ak (blk_below (g := gb337) (o := .cells #[.int .i16 a0_0, .slice A0_1 l0_1.length c0_1] 27 (0, 0)) (zK BK337.out) hb); have n3_ := ak (blk_below (g := gb338) (o := .cells #[.int .i64 a2_0, .int .i64 a2_1] 40 (0, 0)) (zK BK338.out) hb); have n4_ := ak (below_step (by repeat (first | (with_reducible first | exact HB.out | apply below_alloc | apply pw_below_drewN | apply below_drew1 | refine below_set ?_ GE337.out | refine below_set ?_ GE338.out) | exact HB.out)) hb); clear HO_8 BK337 BK338 HB; have HO_8 := n0_; have HO345 := n1_; have BK337 := n2_; have BK338 := n3_; have HB := n4_; clear n0_ n1_ n2_ n3_ n4_; (try clear hb); (try clear hb2); (try clear hk); (try clear hi); (try clear ho0)))
 have n0_ := ak (Kd.R_drew HO_8.out)
 have n1_ := ak (Kd.R_drew HO345.out)
 have n2_ := ak (blk_drew BK337.out)
 have n3_ := ak (blk_drew BK338.out)
 have n4_ := ak (below_drew1 HB.out)
 clear HO_8 HO345 BK337 BK338 HB
 have HO_8 := n0_
 have HO345 := n1_
 have BK337 := n2_
 have BK338 := n3_
 have HB := n4_
 clear n0_ n1_ n2_ n3_ n4_
 obtain ⟨Ao36, co36, eo36⟩ := Kd.R_slice HO345.out
 (first | subst eo36 | (injection eo36 with f1_ f2_ f3_; have f4_ := f1_.symm; have f5_ := f3_.symm; clear f1_ f2_ f3_; subst f4_; subst f5_))
 have p346 : 0 ≤ (x10_2 : Int) := of_decide_eq_true (by first | (with_reducible assumption) | assumption)
 have q346 : x10_2 < (t343.length : Int) := of_decide_eq_true (by first | (with_reducible assumption) | assumption)
 obtain ⟨ad346, e346, hx346_0, hx346_1⟩ := at_T47 (Kd.R_reads' HO345.out).2.2 x10_2 p346 q346
 cases e346
 replace p346 := eq_true p346
 replace q346 := eq_true q346
 have p347 : 0 ≤ (x19_1 : Int) := of_decide_eq_true (by first | (with_reducible assumption) | assumption)
 have q347 : x19_1 < (t343.length : Int) := of_decide_eq_true (by first | (with_reducible assumption) | assumption)
 obtain ⟨ad347, e347, hx347_0, hx347_1⟩ := at_T47 (Kd.R_reads' HO345.out).2.2 x19_1 p347 q347
 obtain rfl : ad346 = ad347 := (by injection e347)
 replace p347 := eq_true p347
 replace q347 := eq_true q347
 have p20 : 0 ≤ (x19_1 : Int) := of_decide_eq_true (by first | (with_reducible assumption) | assumption)
 have q20 : (x19_1 : Int) < ((t343.length : Int) : Int) := of_decide_eq_true (by first | (with_reducible assumption) | assumption)
 obtain ⟨go20, co20, eo20, gb20, gl20, cl20, HG20⟩ := Kd.R_form HO345.out (by omega)
 (first | cases eo20 | (injection eo20 with ea_ en_ ec_; (first | subst ea_ | (injection ea_ with ea_; subst ea_)); subst ec_; clear en_))
 have GB20 := ak gb20
 have GG20 := ak HG20
 clear gb20 gl20 HG20
 (first | simp only [add_plain] at hx346_0 | skip)
 (first | simp only [add_plain] at hx346_1 | skip)
 (first | simp only [add_plain] at hx347_0 | skip)
 (first | simp only [add_plain] at hx347_1 | skip)
 obtain ⟨ce20, hcl20, hM20, hcc20, hfr20⟩ := Kd.R_elem HO345.out z47 (x19_1 : Int) p20 q20
 obtain rfl := k47_openM hM20
 have hx20_0 : World.cell? _ ⟨go20, (x19_1 : Int).toNat * 2, none⟩ = some (.int .i16 ((rd_T47 t343 x19_1).f0)) := hcc20 0 _ rfl
 have hx20_1 : World.cell? _ ⟨go20, (x19_1 : Int).toNat * 2 + 1, none⟩ = some (.int .i8 ((rd_T47 t343 x19_1).f1)) := hcc20 1 _ rfl
 have hf20_0 : World.frozen? _ ⟨go20, (x19_1 : Int).toNat * 2, none⟩ = false := hfr20 0
 have hf20_1 : World.frozen? _ ⟨go20, (x19_1 : Int).toNat * 2 + 1, none⟩ = false := hfr20 1
 (try simp only [show k47.sz = 2 from rfl, Nat.mul_one, Nat.add_zero, World.setCells] at hx20_0 hf20_0 hx20_1 hf20_1)
 clear hcl20 hcc20 hfr20 hM20
 replace p20 := eq_true p20
 replace q20 := eq_true q20
 obtain ⟨ce37, hcl37, hM37, hcc37, hfr37⟩ := Kd.R_elem HO345.out z47 (x19_1 : Int) (of_decide_eq_true (by first | (with_reducible assumption) | assumption)) (by have h_ : (x19_1 : Int) < ((t343.length : Int) : Int) := of_decide_eq_true (by first | (with_reducible assumption) | assumption); first | exact h_ | (have e_ := (Kd.R_reads' HO345.out).1; omega) | simpa using h_)
 obtain rfl := k47_openM hM37
 have HP37 := (Kd.R_seg HO345.out (x19_1 : Int) (of_decide_eq_true (by first | (with_reducible assumption) | assumption)) (by have h_ : (x19_1 : Int) < ((t343.length : Int) : Int) := of_decide_eq_true (by first | (with_reducible assumption) | assumption); first | exact h_ | (have e_ := (Kd.R_reads' HO345.out).1; omega) | simpa using h_) (seg := [.int .i16 ((rd_T47 t343 x10_2).f0)]) (j := 0) hcl37 hcc37 (show 1 ≤ 2 from by decide) (x' := (⟨(rd_T47 t343 x10_2).f0, (rd_T47 t343 x19_1).f1⟩ : S47)) (k47_mkM _ _ _ (⟨(rd_T47 t343 x10_2).f0, (rd_T47 t343 x19_1).f1⟩ : S47) ) (fun _ hk => hk)).1
 rw [← Ny348.out] at HP37
 have HQ37 := ak HP37
 clear hcl37 hcc37 hfr37 hM37 HP37
 have p21 : 0 ≤ (x10_2 : Int) := of_decide_eq_true (by first | (with_reducible assumption) | assumption)
 have q21 : (x10_2 : Int) < ((t343.length : Int) : Int) := of_decide_eq_true (by first | (with_reducible assumption) | assumption)
 obtain ⟨ce21, hcl21, hM21, hcc21, hfr21⟩ := Kd.R_elem HQ37.out z47 (x10_2 : Int) p21 q21
 obtain rfl := k47_openM hM21
 have hx21_0 : World.cell? _ ⟨go20, (x10_2 : Int).toNat * 2, none⟩ = some (.int .i16 ((rd_T47 y348 x10_2).f0)) := hcc21 0 _ rfl
 have hx21_1 : World.cell? _ ⟨go20, (x10_2 : Int).toNat * 2 + 1, none⟩ = some (.int .i8 ((rd_T47 y348 x10_2).f1)) := hcc21 1 _ rfl
 have hf21_0 : World.frozen? _ ⟨go20, (x10_2 : Int).toNat * 2, none⟩ = false := hfr21 0
 have hf21_1 : World.frozen? _ ⟨go20, (x10_2 : Int).toNat * 2 + 1, none⟩ = false := hfr21 1
 (try simp only [show k47.sz = 2 from rfl, Nat.mul_one, Nat.add_zero, World.setCells] at hx21_0 hf21_0 hx21_1 hf21_1)
 clear hcl21 hcc21 hfr21 hM21
 replace p21 := eq_true p21
 replace q21 := eq_true q21
 obtain ⟨ce38, hcl38, hM38, hcc38, hfr38⟩ := Kd.R_elem HQ37.out z47 (x10_2 : Int) (of_decide_eq_true (by first | (with_reducible assumption) | assumption)) (by have h_ : (x10_2 : Int) < ((t343.length : Int) : Int) := of_decide_eq_true (by first | (with_reducible assumption) | assumption); first | exact h_ | (have e_ := (Kd.R_reads' HO345.out).1; omega) | simpa using h_)
 obtain rfl := k47_openM hM38
 have HP38 := (Kd.R_seg HQ37.out (x10_2 : Int) (of_decide_eq_true (by first | (with_reducible assumption) | assumption)) (by have h_ : (x10_2 : Int) < ((t343.length : Int) : Int) := of_decide_eq_true (by first | (with_reducible assumption) | assumption); first | exact h_ | (have e_ := (Kd.R_reads' HO345.out).1; omega) | simpa using h_) (seg := [.int .i16 ((rd_T47 t343 x19_1).f0)]) (j := 0) hcl38 hcc38 (show 1 ≤ 2 from by decide) (x' := (⟨(rd_T47 t343 x19_1).f0, (rd_T47 y348 x10_2).f1⟩ : S47)) (k47_mkM _ _ _ (⟨(rd_T47 t343 x19_1).f0, (rd_T47 y348 x10_2).f1⟩ : S47) ) (fun _ hk => hk)).1
 rw [← Ny349.out] at HP38
 have HQ38 := ak HP38
 clear hcl38 hcc38 hfr38 hM38 HP38
 refine start_ (n := 20) (S := fun w' => w'.cell? ⟨go20, ((x10_2).toNat * 2), none⟩ = some (.int .i16 ((rd_T47 t343 x10_2).f0)) ∧ w'.cell? ⟨go20, ((x10_2).toNat * 2) + 1, none⟩ = some (.int .i8 ((rd_T47 t343 x10_2).f1)) ∧ w'.cell? ⟨go20, ((x19_1).toNat * 2), none⟩ = some (.int .i16 ((rd_T47 t343 x19_1).f0)) ∧ w'.cell? ⟨go20, ((x19_1).toNat * 2) + 1, none⟩ = some (.int .i8 ((rd_T47 t343 x19_1).f1))) (ds := [16, 19]) (bA 20 0) (by kernel_rfl) rfl rfl ⟨hx346_0, hx346_1, hx347_0, hx347_1⟩ (fun hHeld => ?_); refine with_tabW impl_SwappedBy.tab11 impl_SwappedBy.bits11 (fun HT_ HW_ => ?_)
 generalize w34.drew = w35 at HO_8 HO345 BK337 BK338 HB GG20 HQ37 HQ38 hf20_0 hf20_1 hf21_0 hf21_1 hx20_0 hx20_1 hx21_0 hx21_1 hx346_0 hx346_1 hx347_0 hx347_1 hHeld ⊢
 refine pure_ (i := 0) (N := some 32) (v := ?_) (a' := ?_) (bA 20 1) rfl rfl (any_of HT_.out (by kernel_rfl)) (fun _ _ _ h => h) (Or.inl ⟨by rfl, ?_⟩) ?_ ?_
 rotate_left
 {
 intro w'
 go_simp
 with_reducible rfl
 }
 rotate_left
 · exact pt_
 refine pure_ (i := 1) (N := some 33) (v := ?_) (a' := ?_) (bA 20 3) rfl rfl (any_of HT_.out (by kernel_rfl)) (fun _ _ _ h => h) (Or.inl ⟨by rfl, ?_⟩) ?_ ?_
 rotate_left
 {
 intro w'
 go_simp
 with_reducible rfl
 }
 rotate_left
 · exact pt_
 refine pure_ (i := 2) (N := some 34) (v := ?_) (a' := ?_) (bA 20 7) rfl rfl (any_of HT_.out (by kernel_rfl)) (fun _ _ _ h => h) (Or.inl ⟨by rfl, ?_⟩) ?_ ?_
 rotate_left
 {
 intro w'
 go_simp
 with_reducible rfl
 }
 rotate_left
 · exact pt_
 refine pure_ (i := 3) (N := some 35) (v := ?_) (a' := ?_) (bA 20 15) rfl rfl (any_of HT_.out (by kernel_rfl)) (fun _ _ _ h => h) (Or.inl ⟨by rfl, ?_⟩) ?_ ?_
 rotate_left
 {
 intro w'
 go_simp
 with_reducible rfl
 }
 rotate_left
 · exact pt_
 refine pure_ (i := 4) (N := some 36) (v := ?_) (a' := ?_) (bA 20 31) rfl rfl (any_of HT_.out (by kernel_rfl)) (fun _ _ _ h => h) (Or.inl ⟨by rfl, ?_⟩) ?_ ?_
 rotate_left
 {
 intro w'
 go_simp
 with_reducible rfl
 }
 rotate_left
 · exact pt_
 refine pure_ (i := 5) (N := some 37) (v := ?_) (a' := ?_) (bA 20 63) rfl rfl (any_of HT_.out (by kernel_rfl)) (fun _ _ _ h => h) (Or.inl ⟨by rfl, ?_⟩) ?_ ?_
 rotate_left
 {
 intro w'
 go_simp
 with_reducible rfl
 }
 rotate_left
 · exact pt_
 refine pure_ (i := 6) (N := some 38) (v := ?_) (a' := ?_) (bA 20 127) rfl rfl (any_of HT_.out (by kernel_rfl)) (fun _ _ _ h => h) (Or.inl ⟨by rfl, ?_⟩) ?_ ?_
 rotate_left
 {
 intro w'
 go_simp
 with_reducible rfl
 }
 rotate_left
 · exact pt_
 refine pure_ (i := 7) (N := some 39) (v := ?_) (a' := ?_) (bA 20 255) rfl rfl (any_of HT_.out (by kernel_rfl)) (fun _ _ _ h => h) (Or.inl ⟨by rfl, ?_⟩) ?_ ?_
 rotate_left
 {
 intro w'
 go_simp
 with_reducible rfl
 }
 rotate_left
 · exact pt_
 refine pure_ (i := 9) (N := some 41) (v := ?_) (a' := ?_) (bA 20 767) rfl rfl (any_of HT_.out (by kernel_rfl)) (fun _ _ _ h => h) (Or.inl ⟨by rfl, ?_⟩) ?_ ?_
 rotate_left
 {
 intro w'
 go_simp
 with_reducible rfl
 }
 rotate_left
 · exact pt_
 refine pure_ (i := 10) (N := some 42) (v := ?_) (a' := ?_) (bA 20 1791) rfl rfl (any_of HT_.out (by kernel_rfl)) (fun _ _ _ h => h) (Or.inl ⟨by rfl, ?_⟩) ?_ ?_
 rotate_left
 {
 intro w'
 go_simp
 with_reducible rfl
 }
 rotate_left
 · exact pt_
 refine pure_ (i := 11) (N := some 43) (v := ?_) (a' := ?_) (bA 20 3839) rfl rfl (any_of HT_.out (by kernel_rfl)) (fun _ _ _ h => h) (Or.inl ⟨by rfl, ?_⟩) ?_ ?_
 rotate_left
 {
 intro w'
 go_simp
 with_reducible rfl
 }
 rotate_left
 · exact pt_
 refine pure_ (i := 12) (N := some 44) (v := ?_) (a' := ?_) (bA 20 7935) rfl rfl (any_of HT_.out (by kernel_rfl)) (fun _ _ _ h => h) (Or.inl ⟨by rfl, ?_⟩) ?_ ?_
 rotate_left
 {
 intro w'
 go_simp
 with_reducible rfl
 }
 rotate_left
 · exact pt_
 refine take_ (i := 8) (N := some 40) (v := ?_) (a' := ?_) (bA 20 8191) rfl rfl (take_ofW HT_.out HW_.out (by kernel_rfl)) (fun _ _ _ h => h) (Or.inl ⟨by rfl, ?_⟩) hHeld ?_ ?_
 rotate_left
 {
 rintro w' ⟨s0, s1, s2, s3⟩
 go_simp
 with_reducible rfl
 }
 rotate_left
 · exact pt_
 refine take_ (i := 13) (N := some 45) (v := ?_) (a' := ?_) (bA 20 16383) rfl rfl (take_ofW HT_.out HW_.out (by kernel_rfl)) (fun _ _ _ h => h) (Or.inl ⟨by rfl, ?_⟩) hHeld ?_ ?_
 rotate_left
 {
 rintro w' ⟨s0, s1, s2, s3⟩
 go_simp
 with_reducible rfl
 }
 rotate_left
 · exact pt_
 refine pure_ (i := 14) (N := some 46) (v := ?_) (a' := ?_) (bA 20 32767) rfl rfl (any_of HT_.out (by kernel_rfl)) (fun _ _ _ h => h) (Or.inl ⟨by rfl, ?_⟩) ?_ ?_
 rotate_left
 {
 intro w'
 go_simp
 with_reducible rfl
 }
 rotate_left
 · exact pt_
 refine pure_ (i := 15) (N := some 47) (v := ?_) (a' := ?_) (bA 20 65535) rfl rfl (any_of HT_.out (by kernel_rfl)) (fun _ _ _ h => h) (Or.inl ⟨by rfl, ?_⟩) ?_ ?_
 rotate_left
 {
 intro w'
 go_simp
 with_reducible rfl
 }
 rotate_left
 · exact pt_
 refine last_ (i := 16) (N := none) #[true, true, true, true, true, true, true, true, true, true, true, true, true, true, true, true, true, false, false, false] rfl rfl (one_of HT_.out (by kernel_rfl)) (by decide) (fun K hK => ?_)
 refine skip_ (w1 := ?_) (by rfl) rfl ?_ ?_
 rotate_left
 · go_simp; rfl
 refine hK.out _ _ ?_
 clear hK K
 refine pure_ (i := 17) (N := some 48) (v := ?_) (a' := ?_) (bA 20 262143) rfl rfl (any_of HT_.out (by kernel_rfl)) (fun _ _ _ h => h) (Or.inl ⟨by rfl, ?_⟩) ?_ ?_
 rotate_left
 {
 intro w'
 go_simp
 with_reducible rfl
 }
 rotate_left
 · exact pt_
 refine pure_ (i := 18) (N := some 49) (v := ?_) (a' := ?_) (bA 20 524287) rfl rfl (any_of HT_.out (by kernel_rfl)) (fun _ _ _ h => h) (Or.inl ⟨by rfl, ?_⟩) ?_ ?_
 rotate_left
 {
 intro w'
 go_simp
 with_reducible rfl
 }
 rotate_left
 · exact pt_
 refine last_ (i := 19) (N := none) #[true, true, true, true, true, true, true, true, true, true, true, true, true, true, true, true, true, true, true, true] rfl rfl (one_of HT_.out (by kernel_rfl)) (by decide) (fun K hK => ?_)
 refine skip_ (w1 := ?_) (by rfl) rfl ?_ ?_
 rotate_left
 · go_simp; rfl
 refine hK.out _ _ ?_
 clear hK K
 refine done_ (done_of HT_.out (by kernel_rfl)) ?_
 have hnb39 := NB338_337.out
 have hnc39 := NB337_338.out
 have hcz40_0 : ((w35.setCell ⟨go20, (x19_1).toNat * 2, none⟩ (.int .i16 ((rd_T47 t343 x10_2).f0))).setCell ⟨go20, (x10_2).toNat * 2, none⟩ (.int .i16 ((rd_T47 t343 x19_1).f0))).cell? ⟨gb338, 0, none⟩ = some (.int .i64 a2_0) := (blk_cell (blk_far (blk_far BK338.out (by have h_ := Kd.R_ne HO345.out BK338.out (by decide); intro e_; exact h_ (by rw [e_]; rfl)) _) (by have h_ := Kd.R_ne HO345.out BK338.out (by decide); intro e_; exact h_ (by rw [e_]; rfl)) _) 0).trans rfl
 have hcz40_1 : ((w35.setCell ⟨go20, (x19_1).toNat * 2, none⟩ (.int .i16 ((rd_T47 t343 x10_2).f0))).setCell ⟨go20, (x10_2).toNat * 2, none⟩ (.int .i16 ((rd_T47 t343 x19_1).f0))).cell? ⟨gb338, 1, none⟩ = some (.int .i64 a2_1) := (blk_cell (blk_far (blk_far BK338.out (by have h_ := Kd.R_ne HO345.out BK338.out (by decide); intro e_; exact h_ (by rw [e_]; rfl)) _) (by have h_ := Kd.R_ne HO345.out BK338.out (by decide); intro e_; exact h_ (by rw [e_]; rfl)) _) 1).trans rfl
 have hfz40_0 : ((w35.setCell ⟨go20, (x19_1).toNat * 2, none⟩ (.int .i16 ((rd_T47 t343 x10_2).f0))).setCell ⟨go20, (x10_2).toNat * 2, none⟩ (.int .i16 ((rd_T47 t343 x19_1).f0))).frozen? ⟨gb338, 0, none⟩ = false := blk_frozen (blk_far (blk_far BK338.out (by have h_ := Kd.R_ne HO345.out BK338.out (by decide); intro e_; exact h_ (by rw [e_]; rfl)) _) (by have h_ := Kd.R_ne HO345.out BK338.out (by decide); intro e_; exact h_ (by rw [e_]; rfl)) _) 0
 have hfz40_1 : ((w35.setCell ⟨go20, (x19_1).toNat * 2, none⟩ (.int .i16 ((rd_T47 t343 x10_2).f0))).setCell ⟨go20, (x10_2).toNat * 2, none⟩ (.int .i16 ((rd_T47 t343 x19_1).f0))).frozen? ⟨gb338, 1, none⟩ = false := blk_frozen (blk_far (blk_far BK338.out (by have h_ := Kd.R_ne HO345.out BK338.out (by decide); intro e_; exact h_ (by rw [e_]; rfl)) _) (by have h_ := Kd.R_ne HO345.out BK338.out (by decide); intro e_; exact h_ (by rw [e_]; rfl)) _) 1
 try go_wp2_with (first | ((with_reducible refine gate_callee (f := 31) rfl ?_); refine goesL_ (some 52) rfl rfl Try.func31 (by kernel_rfl) rfl #[.slice (some ⟨go20, 0, none⟩) y349.length co36, .agg #[.int .i64 a2_0, .int .i64 a2_1]] rfl (by (try simp only [List.map_toArray, List.map_cons, List.map_nil]); first | done | (rw [show y349.length = t343.length from (Kd.R_reads' HQ38.out).1.symm] <;> rfl) | rfl | (simp only [List.length_drop, List.length_take]; rfl)) ?_; (with_reducible refine (impl_endsWith.calls k2 _ _ y349 a2_0 a2_1 false _ ?side1 ?side2 A22.out).mono ?_); (case side1 => refine (Kd.R_reads' (e := 47) (base := w.heap.size) (ok := fun k_ => True) (n := t343.length) (c := co36) ?_).2.2; exact (zR HQ38.out)); (case side2 => rw [show y349.length = t343.length from (Kd.R_reads' HQ38.out).1.symm]; exact (Kd.R_reads' HO345.out).2.1); rintro e w41 ⟨rfl, hb⟩; refine ⟨_, rfl, ?_⟩; have n0_ := ak (Kd.R_below (by (with_reducible repeat (first | apply Kd.R_alloc | apply Kd.R_drewN | apply Kd.R_drew)); exact (Kd.R_mono (Kd.R_far (p := ⟨go20, (x10_2 : Int).toNat * 2, none⟩) (Kd.R_far (p := ⟨go20, (x19_1 : Int).toNat * 2, none⟩) (Kd.R_types HO_8.out GG20.out (by decide)) (fun _ hk => hk.2) (.int .i16 ((rd_T47 t343 x10_2).f0))) (fun _ hk => hk.2) (.int .i16 ((rd_T47 t343 x19_1).f0))) (fun _ h_ => h_.1))) hb); have n1_ := ak (Kd.R_below (zR HQ38.out) hb); have n2_ := ak (blk_below (g := gb337) (o := .cells #[.int .i16 a0_0, .slice A0_1 l0_1.length c0_1] 27 (0, 0)) (by (with_reducible repeat (first | refine blk_drewN ?_ _ | refine blk_drew ?_ | refine blk_alloc ?_ _)); refine blk_far ?_ (by have h_ := Kd.R_ne HO345.out BK337.out (by decide); intro e_; exact h_ (by rw [e_]; rfl)) _; (with_reducible repeat (first | refine blk_drewN ?_ _ | refine blk_drew ?_ | refine blk_alloc ?_ _)); refine blk_far ?_ (by have h_ := Kd.R_ne HO345.out BK337.out (by decide); intro e_; exact h_ (by rw [e_]; rfl)) _; (with_reducible repeat (first | refine blk_drewN ?_ _ | refine blk_drew ?_ | refine blk_alloc ?_ _)); exact BK337.out) hb); have n3_ := ak (blk_below (g := gb338) (o := .cells #[.int .i64 a2_0, .int .i64 a2_1] 40 (0, 0)) (by (with_reducible repeat (first | refine blk_drewN ?_ _ | refine blk_drew ?_ | refine blk_alloc ?_ _)); refine blk_far ?_ (by have h_ := Kd.R_ne HO345.out BK338.out (by decide); intro e_; exact h_ (by rw [e_]; rfl)) _; (with_reducible repeat (first | refine blk_drewN ?_ _ | refine blk_drew ?_ | refine blk_alloc ?_ _)); refine blk_far ?_ (by have h_ := Kd.R_ne HO345.out BK338.out (by decide); intro e_; exact h_ (by rw [e_]; rfl)) _; (with_reducible repeat (first | refine blk_drewN ?_ _ | refine blk_drew ?_ | refine blk_alloc ?_ _)); exact BK338.out) hb); have n4_ := ak (below_step (by repeat (first | (with_reducible first | exact HB.out | apply below_alloc | apply pw_below_drewN | apply below_drew1 | refine below_set ?_ GB20.out | refine below_set ?_ GB20.out | refine below_set ?_ GE337.out | refine below_set ?_ GE338.out) | exact HB.out)) hb); clear HO_8 HO345 BK337 BK338 HB; have HO_8 := n0_; have HO345 := n1_; have BK337 := n2_; have BK338 := n3_; have HB := n4_; clear n0_ n1_ n2_ n3_ n4_; (try clear hb); (try clear hb2); (try clear hk); (try clear hi)))
 go_roundg k2
 case measure => have := HK1.out; have := HK2.out; omega
 case rel => exact ⟨(x8_2), (wrap64 (x10_2 + 1)), (by first | rfl | (simp; done) | (simp [*]; done)), H', ⟨by have := HK1.out; have := HK2.out; omega⟩, ⟨(zR HO_8.out)⟩, ⟨(zK BK337.out)⟩, ⟨(zK BK338.out)⟩, ⟨by repeat (first | (with_reducible first | exact HB.out | apply below_alloc | apply pw_below_drewN | apply below_drew1 | refine below_set ?_ GE337.out | refine below_set ?_ GE338.out) | exact HB.out)⟩⟩
 )
 }
 }
 · rw [if_neg c19] at H; exact absurd H (by simp)
 }
 · rw [if_neg c18] at H; exact absurd H (by simp)
 }
 · rw [if_neg c17] at H; exact absurd H (by simp)
 }
 · rw [if_neg c16] at H; exact absurd H (by simp)
 }
 {
 rw [if_neg c14] at H
 have c14b0 : decide (x10_2 < (l1.length : Int)) = false := decide_eq_false c14
 clear c14
 as_aux_lemma => (
 have H' := ak H
 clear H
 go_wp2
 go_roundg k2
 case measure => have := HK1.out; have := HK2.out; omega
 case rel => exact ⟨(x8_2), (wrap64 (x19_1 + 1)), (by first | rfl | (simp; done) | (simp [*]; done)), H', ⟨by have := HK1.out; have := HK2.out; omega⟩, ⟨(zR HO_8.out)⟩, ⟨(zK BK337.out)⟩, ⟨(zK BK338.out)⟩, ⟨by repeat (first | (with_reducible first | exact HB.out | apply below_alloc | apply pw_below_drewN | apply below_drew1 | refine below_set ?_ GE337.out | refine below_set ?_ GE338.out) | exact HB.out)⟩⟩
 )
 }
 )
 )
 }
 {
 rw [if_neg c13] at H
 have c13b0 : decide (x19_1 < (l1.length : Int)) = false := decide_eq_false c13
 clear c13
 as_aux_lemma => (
 simp only [Option.some.injEq, Prod.mk.injEq] at H
 obtain ⟨rfl, rfl⟩ := H
 go_wp2
 go_ret2
 exact ⟨_, by first | rfl | (simp [errW_none, errW_some] <;> rfl) | (simp [*, errW_none, errW_some] <;> rfl), by (with_reducible repeat (first | apply Kd.R_alloc | apply Kd.R_drewN | apply Kd.R_drew)); exact HO_8.out, by repeat (first | (with_reducible first | exact HB.out | apply below_alloc | apply pw_below_drewN | apply below_drew1 | refine below_set ?_ GE337.out | refine below_set ?_ GE338.out) | exact HB.out)⟩
 )
 }
 )
 )
 }
 {
 replace c5 := Bool.eq_false_iff.mpr c5
 subst c5
 have H1 : (some (([] : List (S55)), 1)) = some (r1, r2) := by rw [if_neg (show ¬ (false = true) by decide)] at H; exact H
 clear H
 have H := H1
 clear H1
 as_aux_lemma => (
 simp only [Option.some.injEq, Prod.mk.injEq] at H
 obtain ⟨rfl, rfl⟩ := H
 go_enter Try.func17, Try.ntmps17
 go_wp2_with (first | ((with_reducible refine gate_dst (N := 3) rfl ?_); refine box_event ?hg (N := 3) ?hd (cs := #[.int .i16 a0_0, .slice A0_1 l0_1.length c0_1]) (t := 27) ?hr ?_; (case hd => rfl); (case hg => rfl); (case hr => first | (go_simp; done) | (go_simp; rfl)); intro gb337 hg w42 hbox hb; have n0_ := ak (below_step (zB HB.out) hb); have n1_ := ak (hbox); have n2_ := ak ((by rw [hg]; exact (below_size (zB HB.out)) : w.heap.size ≤ gb337)); have n3_ := ak ((by rw [hg]; exact (below_size (zB HB.out)) : w.heap.size ≤ gb337)); clear HB; have HB := n0_; have BK337 := n1_; have GW337 := n2_; have GE337 := n3_; clear n0_ n1_ n2_ n3_; clear hb hbox hg) | ((with_reducible refine gate_dst (N := 5) rfl ?_); refine box_event ?hg (N := 5) ?hd (cs := #[.int .i64 a2_0, .int .i64 a2_1]) (t := 40) ?hr ?_; (case hd => rfl); (case hg => rfl); (case hr => first | (go_simp; done) | (go_simp; rfl)); intro gb338 hg w43 hbox hb; have n0_ := ak (blk_below (g := gb337) (o := .cells #[.int .i16 a0_0, .slice A0_1 l0_1.length c0_1] 27 (0, 0)) (zK BK337.out) hb); have n1_ := ak (below_step (zBG HB.out GE337.out) hb); have n2_ := ak (hbox); have n3_ := ak ((by rw [hg]; exact (below_size (zBG HB.out GE337.out)) : w.heap.size ≤ gb338)); have n4_ := ak ((by rw [hg]; exact (below_size (zBG HB.out GE337.out)) : w.heap.size ≤ gb338)); have n5_ := ak ((by rw [hg]; exact Nat.ne_of_lt (blk_lt (g := gb337) (o := .cells #[.int .i16 a0_0, .slice A0_1 l0_1.length c0_1] 27 (0, 0)) (zK BK337.out)) : gb337 ≠ gb338)); have n6_ := ak ((by rw [hg]; exact Nat.ne_of_gt (blk_lt (g := gb337) (o := .cells #[.int .i16 a0_0, .slice A0_1 l0_1.length c0_1] 27 (0, 0)) (zK BK337.out)) : gb338 ≠ gb337)); clear BK337 HB; have BK337 := n0_; have HB := n1_; have BK338 := n2_; have GW338 := n3_; have GE338 := n4_; have NB337_338 := n5_; have NB338_337 := n6_; clear n0_ n1_ n2_ n3_ n4_ n5_ n6_; clear hb hbox hg; have hnb44 := NB337_338.out; have hnc44 := NB338_337.out; have hcz45_0 : w43.cell? ⟨gb337, 0, none⟩ = some (.int .i16 a0_0) := (blk_cell BK337.out 0).trans rfl; have hcz45_1 : w43.cell? ⟨gb337, 1, none⟩ = some (.slice A0_1 l0_1.length c0_1) := (blk_cell BK337.out 1).trans rfl; have hfz45_0 := blk_frozen BK337.out 0; have hfz45_1 := blk_frozen BK337.out 1) | ((with_reducible refine gate_callee (f := 24) rfl ?_); refine goesL_ (some 14) rfl rfl Try.func24 (by kernel_rfl) rfl #[.agg #[.int .i16 a0_0, .slice A0_1 l0_1.length c0_1], .slice A1 l1.length c1] rfl gl_ ?_; (with_reducible refine (impl_ValidHolds.calls k a0_0 _ _ l0_1 _ _ l1 false _ ?side1 ?side2 ?side3 ?side4 A4.out).mono ?_); (case side1 => repeat (first | exact (Kd.C_below HR0_1.out HB.out) | (with_reducible refine Kd.C_alloc ?_ _) | (with_reducible refine Kd.C_drewN ?_ _) | (with_reducible refine Kd.C_drew ?_))); (case side2 => exact HC0_1.out); (case side3 => repeat (first | exact (Kd.C_below HR1.out HB.out) | (with_reducible refine Kd.C_alloc ?_ _) | (with_reducible refine Kd.C_drewN ?_ _) | (with_reducible refine Kd.C_drew ?_))); (case side4 => exact HC1.out); rintro e w46 ⟨rfl, hb⟩; refine ⟨_, rfl, ?_⟩; have n0_ := ak (blk_below (g := gb337) (o := .cells #[.int .i16 a0_0, .slice A0_1 l0_1.length c0_1] 27 (0, 0)) (zK BK337.out) hb); have n1_ := ak (blk_below (g := gb338) (o := .cells #[.int .i64 a2_0, .int .i64 a2_1] 40 (0, 0)) (zK BK338.out) hb); have n2_ := ak (below_step (by repeat (first | (with_reducible first | exact HB.out | apply below_alloc | apply pw_below_drewN | apply below_drew1 | refine below_set ?_ GE337.out | refine below_set ?_ GE338.out) | exact HB.out)) hb); clear BK337 BK338 HB; have BK337 := n0_; have BK338 := n1_; have HB := n2_; clear n0_ n1_ n2_; (try clear hb); (try clear hb2); (try clear hk); (try clear hi)))
 go_ret2
 exact ⟨_, by first | rfl | (simp [errW_none, errW_some] <;> rfl) | (simp [*, errW_none, errW_some] <;> rfl), by first | exact Kd.R_nil _ _ _ _ _ | exact Kd.N_nil _ _ _ _ _ | exact Kd.V_nil _ _ _ _ _ | exact Kd.Q_nil _ _ _ _ _ | exact Kd.S_nil _ _ _ _ _, by repeat (first | (with_reducible first | exact HB.out | apply below_alloc | apply pw_below_drewN | apply below_drew1 | refine below_set ?_ GE337.out | refine below_set ?_ GE338.out) | exact HB.out)⟩
 )
 }
end Go.Proofs.Ytcgbnbblojkglaa.P
