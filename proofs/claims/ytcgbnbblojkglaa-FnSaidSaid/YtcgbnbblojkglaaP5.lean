-- Printed by wip/print (my turned copy of the kit's print) out of the translation; Lean checks it.
import Derived.Test.YtcgbnbblojkglaaP0
import Derived.Test.YtcgbnbblojkglaaP4
namespace Go.Proofs.Ytcgbnbblojkglaa.P
open Go.RowKit Go.Proofs.YtcgbnbblojkglaaW.PrintWords Go.Proofs.YtcgbnbblojkglaaW.PrintLast Go.Proofs.YtcgbnbblojkglaaW.PrintMore
attribute [local go_sem] max2_int min2_int max_two min_two max_three min_three max_four min_four   -- for this text's walks alone
set_option linter.unusedVariables false
set_option linter.unusedSimpArgs false

/-! ### impl_ValidHolds: function 24 -/
def impl_ValidHolds.l0 : Nat → List (S47) → List (S47) → Int → Int → Int → List Int → Option (Bool)
  | 0, _, _, _, _, _, _ => none
  | k + 1, x1, x7, x8, x9, x180000, x180001 => if x9 < x8 then (if 0 ≤ x9 then (if x9 < (x7.length : Int) then ((impl_Rope_isHold.f x180000 x180001 ((rd_T47 x7 x9).f0) ((rd_T47 x7 x9).f1)).bind fun t183 => (if t183 = true then (if x9 > 0 then (if 0 ≤ (wrap64 (x9 - 1)) then (if (wrap64 (x9 - 1)) < (x1.length : Int) then (if ((rd_T47 x7 x9).f1) ≤ ((rd_T47 x1 (wrap64 (x9 - 1))).f1) then (some false) else (if x9 ≤ (x1.length : Int) then ((slices_ContainsFunc_Hold_at_ValidHolds_1.f k (x1.take (x9 : Int).toNat) ((rd_T47 x7 x9).f0) ((rd_T47 x7 x9).f1)).bind fun t189 => (if t189 = true then (some false) else (impl_ValidHolds.l0 k x1 x7 x8 (wrap64 (x9 + 1)) x180000 x180001))) else (none))) else (none)) else (none)) else (if x9 ≤ (x1.length : Int) then ((slices_ContainsFunc_Hold_at_ValidHolds_1.f k (x1.take (x9 : Int).toNat) ((rd_T47 x7 x9).f0) ((rd_T47 x7 x9).f1)).bind fun t194 => (if t194 = true then (some false) else (impl_ValidHolds.l0 k x1 x7 x8 (wrap64 (x9 + 1)) x180000 x180001))) else (none))) else (some false))) else (none)) else (none)) else ((impl_ValidRope.f k x180000 x180001).bind fun t180 => (some t180))
def impl_ValidHolds.f (k : Nat) (a0_0 : Int) (l0_1 : List Int) (l1 : List (S47)) : Option (Bool) := impl_ValidHolds.l0 k l1 l1 (l1.length : Int) 0 a0_0 l0_1
theorem impl_ValidHolds.mono_l : ∀ k, (∀ y0 y1 y2 y3 y4 y5, LeO (impl_ValidHolds.l0 k y0 y1 y2 y3 y4 y5) (impl_ValidHolds.l0 (k + 1) y0 y1 y2 y3 y4 y5))
  | 0 => fun _ _ _ _ _ _ r h => by simp [impl_ValidHolds.l0] at h
  | k + 1 => by
    have ih0 := impl_ValidHolds.mono_l k
    · intro y0 y1 y2 y3 y4 y5
      unfold impl_ValidHolds.l0
      repeat' first
      | (with_reducible exact ih0 _ _ _ _ _ _)
      | (with_reducible exact impl_ValidRope.mono _ _ _)
      | (with_reducible exact slices_ContainsFunc_Hold_at_ValidHolds_1.mono _ _ _ _)
      | (with_reducible exact LeO.refl _)
      | (with_reducible exact LeO.none _)
      | (with_reducible refine LeO.ite ?_ ?_)
      | (with_reducible refine LeO.bind ?_ (fun _ => ?_))
      | exact ih0 _ _ _ _ _ _
      | exact impl_ValidRope.mono _ _ _
      | exact slices_ContainsFunc_Hold_at_ValidHolds_1.mono _ _ _ _
      | exact LeO.none _
      | refine LeO.ite ?_ ?_
      | refine LeO.bind ?_ (fun _ => ?_)
theorem impl_ValidHolds.mono : ∀ a0 a1 a2 k, LeO (impl_ValidHolds.f k a0 a1 a2) (impl_ValidHolds.f (k + 1) a0 a1 a2) := by
  intro a0 a1 a2 k
  have ih0 := impl_ValidHolds.mono_l k
  unfold impl_ValidHolds.f
  repeat' first
      | (with_reducible exact ih0 _ _ _ _ _ _)
      | (with_reducible exact impl_ValidRope.mono _ _ _)
      | (with_reducible exact slices_ContainsFunc_Hold_at_ValidHolds_1.mono _ _ _ _)
      | (with_reducible exact LeO.refl _)
      | (with_reducible exact LeO.none _)
      | (with_reducible refine LeO.ite ?_ ?_)
      | (with_reducible refine LeO.bind ?_ (fun _ => ?_))
      | exact ih0 _ _ _ _ _ _
      | exact impl_ValidRope.mono _ _ _
      | exact slices_ContainsFunc_Hold_at_ValidHolds_1.mono _ _ _ _
      | exact LeO.none _
      | refine LeO.ite ?_ ?_
      | refine LeO.bind ?_ (fun _ => ?_)
def impl_ValidHolds.T4 : Bool × List (List Nat × List Nat) := (true, [([], []), ([], []), ([0, 1], [0, 1]), ([2], [2]), ([3, 2], [3]), ([4], [4]), ([5, 4], [4, 5]), ([6, 4, 4], [4, 6]), ([7], [7]), ([8, 7], [7, 8]), ([7], [7]), ([7], [7]), ([11, 7], [7, 11]), ([10, 12, 7], [7, 10, 12]), ([13, 7], [7, 13]), ([14, 7], [7, 14]), ([9, 15, 7], [7, 9, 15]), ([7, 16, 4], [4, 7, 16]), ([4, 17], [4, 17]), ([18, 7], [18]), ([19], [19]), ([19], [19]), ([20, 21, 19], [19, 20, 21]), ([19], [19]), ([22, 23, 19, 19], [19, 22, 23]), ([19, 24], [19, 24])])
def impl_ValidHolds.B4 : List Nat := [0, 0, 3, 7, 15, 31, 63, 127, 255, 511, 255, 255, 2303, 7423, 15615, 31999, 65535, 131071, 262143, 524287, 1048575, 1048575, 4194303, 1048575, 16777215, 33554431]
theorem impl_ValidHolds.tab4 : rtab .any (opsOf Try.f24 4) = impl_ValidHolds.T4 := by kernel_rfl
theorem impl_ValidHolds.bits4 : waitsOk impl_ValidHolds.T4.2 impl_ValidHolds.B4 = true := by kernel_rfl
set_option maxHeartbeats 8000000 in
set_option maxRecDepth 100000 in
theorem impl_ValidHolds.calls (k : Nat) (a0_0 : Int) (A0_1 : Option Addr) (c0_1 : Nat) (l0_1 : List Int) (A1 : Option Addr) (c1 : Nat) (l1 : List (S47)) (r : Bool) (w : World) (hr0_1 : Kd.C (Kd.int .i16) w A0_1 l0_1.length l0_1) (hc0_1 : l0_1.length ≤ c0_1) (hr1 : Kd.C k47 w A1 l1.length l1) (hc1 : l1.length ≤ c1) (h : impl_ValidHolds.f k a0_0 l0_1 l1 = some r) :
    Calls Try.prog 24 #[.agg #[.int .i16 a0_0, .slice A0_1 l0_1.length c0_1], .slice A1 l1.length c1] w fun e w' => e = .returned (.bool r) ∧ Below w.heap.size w w' := by
 have hu27 := Try.underlying27
 have hu47 := Try.underlying47
 have HR0_1 := ak hr0_1
 have HC0_1 := ak hc0_1
 clear hr0_1 hc0_1
 have HR1 := ak hr1
 have HC1 := ak hc1
 clear hr1 hc1
 have HB := ak (Below.refl w.heap.size w)
 have H : (impl_ValidHolds.l0 k l1 l1 (l1.length : Int) 0 a0_0 l0_1) = some r := h
 clear h
 have H' := ak H
 clear H
 go_enter Try.func24, Try.ntmps24
 go_wp2_with (first | ((with_reducible refine gate_dst (N := 2) rfl ?_); refine box_event ?hg (N := 2) ?hd (cs := #[.int .i16 a0_0, .slice A0_1 l0_1.length c0_1]) (t := 27) ?hr ?_; (case hd => rfl); (case hg => rfl); (case hr => first | (go_simp; done) | (go_simp; rfl)); intro gb179 hg w3 hbox hb; have n0_ := ak (below_step (zB HB.out) hb); have n1_ := ak (hbox); have n2_ := ak ((by rw [hg]; exact (below_size (zB HB.out)) : w.heap.size ≤ gb179)); have n3_ := ak ((by rw [hg]; exact (below_size (zB HB.out)) : w.heap.size ≤ gb179)); clear HB; have HB := n0_; have BK179 := n1_; have GW179 := n2_; have GE179 := n3_; clear n0_ n1_ n2_ n3_; clear hb hbox hg))
 go_loopg [9] k (fun kq v9 w' => ∃ (x9_1 : Int), v9 = .int .i64 x9_1 ∧ Aside0 (impl_ValidHolds.l0 kq l1 l1 (l1.length : Int) x9_1 a0_0 l0_1 = some r) ∧ Aside0 (kq ≤ k) ∧ Aside0 (w'.heap[gb179]? = some (.cells #[.int .i16 a0_0, (.slice A0_1 l0_1.length c0_1)] 27 (0, 0))) ∧ Aside0 (Below w.heap.size w w'))
 case atStart => exact ⟨(0), (by first | rfl | (simp; done) | (simp [*]; done)), H', ⟨Nat.le_refl _⟩, ⟨(zK BK179.out)⟩, ⟨(zBG HB.out GE179.out)⟩⟩
 case round => (
 clear H'
 try clear c1
 obtain ⟨x9_1, rfl, HA, HK1, BK179, HB⟩ := hrel
 cases gk with
 | zero => exact absurd HA.out (by simp [impl_ValidHolds.l0])
 | succ k1 => (
 have H := HA.out
 clear HA
 simp only [impl_ValidHolds.l0] at H
 by_cases c4 : x9_1 < (l1.length : Int)
 {
 rw [if_pos c4] at H
 have c4b0 : decide (x9_1 < (l1.length : Int)) = true := decide_eq_true c4
 clear c4
 by_cases c5 : 0 ≤ x9_1
 {
 rw [if_pos c5] at H
 have c5b0 : decide (0 ≤ x9_1) = true := decide_eq_true c5
 clear c5
 by_cases c6 : x9_1 < (l1.length : Int)
 {
 rw [if_pos c6] at H
 have c6b0 : decide (x9_1 < (l1.length : Int)) = true := decide_eq_true c6
 clear c6
 replace H := Option.bind_eq_some_iff.mp H
 obtain ⟨t183, A70, H⟩ := H
 replace H : (if t183 = true then (if x9_1 > 0 then (if 0 ≤ (wrap64 (x9_1 - 1)) then (if (wrap64 (x9_1 - 1)) < (l1.length : Int) then (if ((rd_T47 l1 x9_1).f1) ≤ ((rd_T47 l1 (wrap64 (x9_1 - 1))).f1) then (some false) else (if x9_1 ≤ (l1.length : Int) then ((slices_ContainsFunc_Hold_at_ValidHolds_1.f k1 (l1.take (x9_1 : Int).toNat) ((rd_T47 l1 x9_1).f0) ((rd_T47 l1 x9_1).f1)).bind fun t189 => (if t189 = true then (some false) else (impl_ValidHolds.l0 k1 l1 l1 (l1.length : Int) (wrap64 (x9_1 + 1)) a0_0 l0_1))) else (none))) else (none)) else (none)) else (if x9_1 ≤ (l1.length : Int) then ((slices_ContainsFunc_Hold_at_ValidHolds_1.f k1 (l1.take (x9_1 : Int).toNat) ((rd_T47 l1 x9_1).f0) ((rd_T47 l1 x9_1).f1)).bind fun t194 => (if t194 = true then (some false) else (impl_ValidHolds.l0 k1 l1 l1 (l1.length : Int) (wrap64 (x9_1 + 1)) a0_0 l0_1))) else (none))) else (some false)) = some r := H
 have A7 := ak A70
 clear A70
 by_cases c8 : t183 = true
 {
 subst c8
 have H1 : (if x9_1 > 0 then (if 0 ≤ (wrap64 (x9_1 - 1)) then (if (wrap64 (x9_1 - 1)) < (l1.length : Int) then (if ((rd_T47 l1 x9_1).f1) ≤ ((rd_T47 l1 (wrap64 (x9_1 - 1))).f1) then (some false) else (if x9_1 ≤ (l1.length : Int) then ((slices_ContainsFunc_Hold_at_ValidHolds_1.f k1 (l1.take (x9_1 : Int).toNat) ((rd_T47 l1 x9_1).f0) ((rd_T47 l1 x9_1).f1)).bind fun t189 => (if t189 = true then (some false) else (impl_ValidHolds.l0 k1 l1 l1 (l1.length : Int) (wrap64 (x9_1 + 1)) a0_0 l0_1))) else (none))) else (none)) else (none)) else (if x9_1 ≤ (l1.length : Int) then ((slices_ContainsFunc_Hold_at_ValidHolds_1.f k1 (l1.take (x9_1 : Int).toNat) ((rd_T47 l1 x9_1).f0) ((rd_T47 l1 x9_1).f1)).bind fun t194 => (if t194 = true then (some false) else (impl_ValidHolds.l0 k1 l1 l1 (l1.length : Int) (wrap64 (x9_1 + 1)) a0_0 l0_1))) else (none))) = some r := by rw [if_pos rfl] at H; exact H
 clear H
 have H := H1
 clear H1
 by_cases c9 : x9_1 > 0
 {
 rw [if_pos c9] at H
 have c9b0 : decide (0 < x9_1) = true := decide_eq_true c9
 clear c9
 obtain ⟨ji10, hji10⟩ : ∃ j_ : Int, (wrap64 (x9_1 - 1)) = j_ := ⟨_, rfl⟩
 replace H : (if 0 ≤ (ji10) then (if (ji10) < (l1.length : Int) then (if ((rd_T47 l1 x9_1).f1) ≤ ((rd_T47 l1 (ji10)).f1) then (some false) else (if x9_1 ≤ (l1.length : Int) then ((slices_ContainsFunc_Hold_at_ValidHolds_1.f k1 (l1.take (x9_1 : Int).toNat) ((rd_T47 l1 x9_1).f0) ((rd_T47 l1 x9_1).f1)).bind fun t189 => (if t189 = true then (some false) else (impl_ValidHolds.l0 k1 l1 l1 (l1.length : Int) (wrap64 (x9_1 + 1)) a0_0 l0_1))) else (none))) else (none)) else (none)) = some r := by first | (rw [hji10] at H; exact H) | (simp only [hji10] at H ⊢; exact H)
 (try rw [hji10] at A7)
 have hji10w : (IntKind.i64.wrap (x9_1 - 1)) = ji10 := (i64_w _).trans hji10
 by_cases c11 : 0 ≤ (ji10)
 {
 rw [if_pos c11] at H
 have c11b0 : decide (0 ≤ (ji10)) = true := decide_eq_true c11
 clear c11
 by_cases c12 : (ji10) < (l1.length : Int)
 {
 rw [if_pos c12] at H
 have c12b0 : decide ((ji10) < (l1.length : Int)) = true := decide_eq_true c12
 clear c12
 by_cases c13 : ((rd_T47 l1 x9_1).f1) ≤ ((rd_T47 l1 (ji10)).f1)
 {
 rw [if_pos c13] at H
 have c13b0 : decide (((rd_T47 l1 x9_1).f1) ≤ ((rd_T47 l1 (ji10)).f1)) = true := decide_eq_true c13
 clear c13
 as_aux_lemma => (
 obtain rfl := Option.some.inj H
 have p181 : 0 ≤ (x9_1 : Int) := of_decide_eq_true (by first | (with_reducible assumption) | assumption)
 have q181 : x9_1 < (l1.length : Int) := of_decide_eq_true (by first | (with_reducible assumption) | assumption)
 obtain ⟨ad181, e181, hx181_0, hx181_1⟩ := at_T47 HR1.out x9_1 p181 q181
 cases e181
 replace hx181_0 := (HB.out.cell (World.block_lt_of_cell? w _ hx181_0)).trans hx181_0
 replace hx181_1 := (HB.out.cell (World.block_lt_of_cell? w _ hx181_1)).trans hx181_1
 replace p181 := eq_true p181
 replace q181 := eq_true q181
 try go_wp2_with (first | ((with_reducible refine gate_dst (N := 6) rfl ?_); refine box_event ?hg (N := 6) ?hd (cs := #[.int .i16 0, .int .i8 0]) (t := 47) ?hr ?_; (case hd => rfl); (case hg => rfl); (case hr => first | (go_simp; done) | (go_simp; rfl)); intro gb182 hg w14 hbox hb; have n0_ := ak (blk_below (g := gb179) (o := .cells #[.int .i16 a0_0, .slice A0_1 l0_1.length c0_1] 27 (0, 0)) (zK BK179.out) hb); have n1_ := ak (below_step (zBG HB.out GE179.out) hb); have n2_ := ak (hbox); have n3_ := ak ((by rw [hg]; exact (below_size (zBG HB.out GE179.out)) : w.heap.size ≤ gb182)); have n4_ := ak ((by rw [hg]; exact (below_size (zBG HB.out GE179.out)) : w.heap.size ≤ gb182)); have n5_ := ak ((by rw [hg]; exact Nat.ne_of_lt (blk_lt (g := gb179) (o := .cells #[.int .i16 a0_0, .slice A0_1 l0_1.length c0_1] 27 (0, 0)) (zK BK179.out)) : gb179 ≠ gb182)); have n6_ := ak ((by rw [hg]; exact Nat.ne_of_gt (blk_lt (g := gb179) (o := .cells #[.int .i16 a0_0, .slice A0_1 l0_1.length c0_1] 27 (0, 0)) (zK BK179.out)) : gb182 ≠ gb179)); clear BK179 HB; have BK179 := n0_; have HB := n1_; have BK182 := n2_; have GW182 := n3_; have GE182 := n4_; have NB179_182 := n5_; have NB182_179 := n6_; clear n0_ n1_ n2_ n3_ n4_ n5_ n6_; clear hb hbox hg; have hnb15 := NB182_179.out; have hnc15 := NB179_182.out; have hcz16_0 : w14.cell? ⟨gb182, 0, none⟩ = some (.int .i16 0) := (blk_cell BK182.out 0).trans rfl; have hcz16_1 : w14.cell? ⟨gb182, 1, none⟩ = some (.int .i8 0) := (blk_cell BK182.out 1).trans rfl; have hfz16_0 := blk_frozen BK182.out 0; have hfz16_1 := blk_frozen BK182.out 1))
 have n0_ : Aside0 (((w14.setCell ⟨gb182, 0, none⟩ (.int .i16 ((rd_T47 l1 x9_1).f0))).setCell ⟨gb182, 1, none⟩ (.int .i8 ((rd_T47 l1 x9_1).f1))).heap[gb179]? = some (.cells #[.int .i16 a0_0, .slice A0_1 l0_1.length c0_1] 27 (0, 0))) := ⟨by (with_reducible repeat (first | refine blk_drewN ?_ _ | refine blk_drew ?_ | refine blk_alloc ?_ _)); refine blk_far ?_ NB179_182.out _; (with_reducible repeat (first | refine blk_drewN ?_ _ | refine blk_drew ?_ | refine blk_alloc ?_ _)); refine blk_far ?_ NB179_182.out _; (with_reducible repeat (first | refine blk_drewN ?_ _ | refine blk_drew ?_ | refine blk_alloc ?_ _)); exact BK179.out⟩
 have n1_ : Aside0 (((w14.setCell ⟨gb182, 0, none⟩ (.int .i16 ((rd_T47 l1 x9_1).f0))).setCell ⟨gb182, 1, none⟩ (.int .i8 ((rd_T47 l1 x9_1).f1))).heap[gb182]? = some (.cells #[.int .i16 ((rd_T47 l1 x9_1).f0), .int .i8 ((rd_T47 l1 x9_1).f1)] 47 (0, 0))) := ⟨by (with_reducible repeat (first | refine blk_drewN ?_ _ | refine blk_drew ?_ | refine blk_alloc ?_ _)); refine blk_put (cs := #[.int .i16 ((rd_T47 l1 x9_1).f0), .int .i8 0]) ?_ 1 _ rfl; (with_reducible repeat (first | refine blk_drewN ?_ _ | refine blk_drew ?_ | refine blk_alloc ?_ _)); refine blk_put (cs := #[.int .i16 0, .int .i8 0]) ?_ 0 _ rfl; (with_reducible repeat (first | refine blk_drewN ?_ _ | refine blk_drew ?_ | refine blk_alloc ?_ _)); exact BK182.out⟩
 have n2_ : Aside0 (Below w.heap.size w ((w14.setCell ⟨gb182, 0, none⟩ (.int .i16 ((rd_T47 l1 x9_1).f0))).setCell ⟨gb182, 1, none⟩ (.int .i8 ((rd_T47 l1 x9_1).f1)))) := ⟨by repeat (first | (with_reducible first | exact HB.out | apply below_alloc | apply pw_below_drewN | apply below_drew1 | refine below_set ?_ GE179.out | refine below_set ?_ GE182.out) | exact HB.out)⟩
 (try clear BK179)
 (try clear BK182)
 (try clear HB)
 generalize ((w14.setCell ⟨gb182, 0, none⟩ (.int .i16 ((rd_T47 l1 x9_1).f0))).setCell ⟨gb182, 1, none⟩ (.int .i8 ((rd_T47 l1 x9_1).f1))) = w17 at n0_ n1_ n2_ ⊢
 have BK179 := n0_
 have BK182 := n1_
 have HB := n2_
 clear n0_ n1_ n2_
 have n0_ := ak (blk_drew BK179.out)
 have n1_ := ak (blk_drew BK182.out)
 have n2_ := ak (below_drew1 HB.out)
 clear BK179 BK182 HB
 have BK179 := n0_
 have BK182 := n1_
 have HB := n2_
 clear n0_ n1_ n2_
 have p184 : 0 ≤ ((ji10) : Int) := of_decide_eq_true (by first | (with_reducible assumption) | assumption)
 have q184 : (ji10) < (l1.length : Int) := of_decide_eq_true (by first | (with_reducible assumption) | assumption)
 obtain ⟨ad184, e184, hx184_0, hx184_1⟩ := at_T47 HR1.out (ji10) p184 q184
 have hw184_1 := hx184_1
 have hw184_0 := hx184_0
 obtain rfl : ad181 = ad184 := (by injection e184)
 replace hx184_0 := (HB.out.cell (World.block_lt_of_cell? w _ hx184_0)).trans hx184_0
 replace hx184_1 := (HB.out.cell (World.block_lt_of_cell? w _ hx184_1)).trans hx184_1
 replace p184 := eq_true p184
 replace q184 := eq_true q184
 refine start_ (n := 26) (S := fun w' => w'.cell? ⟨gb179, 0, none⟩ = some (.int .i16 a0_0) ∧ w'.cell? ⟨gb179, 1, none⟩ = some (.slice A0_1 l0_1.length c0_1) ∧ w'.cell? ⟨gb182, 0, none⟩ = some (.int .i16 ((rd_T47 l1 x9_1).f0)) ∧ w'.cell? ⟨gb182, 1, none⟩ = some (.int .i8 ((rd_T47 l1 x9_1).f1)) ∧ w'.cell? (ad181.add (((ji10)).toNat * 2)) = some (.int .i16 ((rd_T47 l1 (ji10)).f0)) ∧ w'.cell? ⟨(ad181.add (((ji10)).toNat * 2)).block, (ad181.add (((ji10)).toNat * 2)).off + 1, none⟩ = some (.int .i8 ((rd_T47 l1 (ji10)).f1))) (ds := []) (bA 26 0) (by kernel_rfl) rfl rfl ⟨(blk_cell BK179.out 0).trans rfl, (blk_cell BK179.out 1).trans rfl, (blk_cell BK182.out 0).trans rfl, (blk_cell BK182.out 1).trans rfl, ((HB.out.cell (World.block_lt_of_cell? w _ hw184_0)).trans hw184_0), ((HB.out.cell (World.block_lt_of_cell? w _ hw184_1)).trans hw184_1)⟩ (fun hHeld => ?_); refine with_tabW impl_ValidHolds.tab4 impl_ValidHolds.bits4 (fun HT_ HW_ => ?_)
 generalize w17.drew = w18 at BK179 BK182 HB hx184_0 hx184_1 hHeld ⊢
 refine take_ (i := 0) (N := some 14) (v := ?_) (a' := ?_) (bA 26 1) rfl rfl (take_ofW HT_.out HW_.out (by kernel_rfl)) (fun _ _ _ h => h) (Or.inl ⟨by rfl, ?_⟩) hHeld ?_ ?_
 rotate_left
 {
 rintro w' ⟨s0, s1, s2, s3, s4, s5⟩
 go_simp
 with_reducible rfl
 }
 rotate_left
 · exact pt_
 refine take_ (i := 1) (N := some 15) (v := ?_) (a' := ?_) (bA 26 3) rfl rfl (take_ofW HT_.out HW_.out (by kernel_rfl)) (fun _ _ _ h => h) (Or.inl ⟨by rfl, ?_⟩) hHeld ?_ ?_
 rotate_left
 {
 rintro w' ⟨s0, s1, s2, s3, s4, s5⟩
 go_simp
 with_reducible rfl
 }
 rotate_left
 · exact pt_
 refine one_ (i := 2) (N := some 16) (bA 26 7) rfl rfl (one_of HT_.out (by kernel_rfl)) (by decide) (fun K hK => ?_)
 refine goes_ Try.func39 (by kernel_rfl) rfl #[.agg #[.int .i16 a0_0, .slice A0_1 l0_1.length c0_1], .agg #[.int .i16 ((rd_T47 l1 x9_1).f0), .int .i8 ((rd_T47 l1 x9_1).f1)]] (by rfl) rfl rfl gl_ ?_
 with_reducible refine (impl_Rope_isHold.calls a0_0 _ _ l0_1 ((rd_T47 l1 x9_1).f0) ((rd_T47 l1 x9_1).f1) true _ ?side1 ?side2 A7.out).mono ?_
 (case side1 => repeat (first | exact (Kd.C_below HR0_1.out HB.out) | (with_reducible refine Kd.C_alloc ?_ _) | (with_reducible refine Kd.C_drewN ?_ _) | (with_reducible refine Kd.C_drew ?_)))
 (case side2 => exact HC0_1.out)
 rintro e w19 ⟨rfl, hb⟩
 refine ⟨_, rfl, ?_⟩
 have n0_ := ak (blk_below (g := gb179) (o := .cells #[.int .i16 a0_0, .slice A0_1 l0_1.length c0_1] 27 (0, 0)) (zK BK179.out) hb)
 have n1_ := ak (blk_below (g := gb182) (o := .cells #[.int .i16 ((rd_T47 l1 x9_1).f0), .int .i8 ((rd_T47 l1 x9_1).f1)] 47 (0, 0)) (zK BK182.out) hb)
 have n2_ := ak (below_step (by repeat (first | (with_reducible first | exact HB.out | apply below_alloc | apply pw_below_drewN | apply below_drew1 | refine below_set ?_ GE179.out | refine below_set ?_ GE182.out) | exact HB.out)) hb)
 clear BK179 BK182 HB
 have BK179 := n0_
 have BK182 := n1_
 have HB := n2_
 clear n0_ n1_ n2_
 (try clear hb)
 (try clear hb2)
 (try clear hk)
 (try clear hi)
 refine hK.out _ _ ⟨(blk_cell BK179.out 0).trans rfl, (blk_cell BK179.out 1).trans rfl, (blk_cell BK182.out 0).trans rfl, (blk_cell BK182.out 1).trans rfl, ((HB.out.cell (World.block_lt_of_cell? w _ hw184_0)).trans hw184_0), ((HB.out.cell (World.block_lt_of_cell? w _ hw184_1)).trans hw184_1)⟩ (fun hHeld => ?_)
 clear hK K
 refine norm_ (a' := ?_) ?_ ?_
 rotate_left
 {
 show Act.put _ (some 16) _ = _
 simp only [Act.put, zs, zz, zk, i64_w, i32_w]
 rfl
 }
 refine pure_ (i := 3) (N := some 17) (v := ?_) (a' := ?_) (bA 26 15) rfl rfl (any_of HT_.out (by kernel_rfl)) (fun _ _ _ h => h) (Or.inl ⟨by rfl, ?_⟩) ?_ ?_
 rotate_left
 {
 intro w'
 go_simp
 with_reducible rfl
 }
 rotate_left
 · exact pt_
 refine pure_ (i := 4) (N := some 18) (v := ?_) (a' := ?_) (bA 26 31) rfl rfl (any_of HT_.out (by kernel_rfl)) (fun _ _ _ h => h) (Or.inl ⟨by rfl, ?_⟩) ?_ ?_
 rotate_left
 {
 intro w'
 go_simp
 with_reducible rfl
 }
 rotate_left
 · exact pt_
 refine pure_ (i := 5) (N := some 19) (v := ?_) (a' := ?_) (bA 26 63) rfl rfl (any_of HT_.out (by kernel_rfl)) (fun _ _ _ h => h) (Or.inl ⟨by rfl, ?_⟩) ?_ ?_
 rotate_left
 {
 intro w'
 go_simp
 with_reducible rfl
 }
 rotate_left
 · exact pt_
 refine pure_ (i := 6) (N := some 20) (v := ?_) (a' := ?_) (bA 26 127) rfl rfl (any_of HT_.out (by kernel_rfl)) (fun _ _ _ h => h) (Or.inl ⟨by rfl, ?_⟩) ?_ ?_
 rotate_left
 {
 intro w'
 go_simp
 with_reducible rfl
 }
 rotate_left
 · exact pt_
 refine pure_ (i := 7) (N := some 21) (v := ?_) (a' := ?_) (bA 26 255) rfl rfl (any_of HT_.out (by kernel_rfl)) (fun _ _ _ h => h) (Or.inl ⟨by rfl, ?_⟩) ?_ ?_
 rotate_left
 {
 intro w'
 go_simp
 with_reducible rfl
 }
 rotate_left
 · exact pt_
 refine pure_ (i := 8) (N := some 22) (v := ?_) (a' := ?_) (bA 26 511) rfl rfl (any_of HT_.out (by kernel_rfl)) (fun _ _ _ h => h) (Or.inl ⟨by rfl, ?_⟩) ?_ ?_
 rotate_left
 {
 intro w'
 go_simp
 with_reducible rfl
 }
 rotate_left
 · exact pt_
 refine pure_ (i := 10) (N := some 24) (v := ?_) (a' := ?_) (bA 26 1535) rfl rfl (any_of HT_.out (by kernel_rfl)) (fun _ _ _ h => h) (Or.inl ⟨by rfl, ?_⟩) ?_ ?_
 rotate_left
 {
 intro w'
 go_simp
 with_reducible rfl
 }
 rotate_left
 · exact pt_
 refine pure_ (i := 11) (N := some 25) (v := ?_) (a' := ?_) (bA 26 3583) rfl rfl (any_of HT_.out (by kernel_rfl)) (fun _ _ _ h => h) (Or.inl ⟨by rfl, ?_⟩) ?_ ?_
 rotate_left
 {
 intro w'
 go_simp
 with_reducible rfl
 }
 rotate_left
 · exact pt_
 refine pure_ (i := 12) (N := some 26) (v := ?_) (a' := ?_) (bA 26 7679) rfl rfl (any_of HT_.out (by kernel_rfl)) (fun _ _ _ h => h) (Or.inl ⟨by rfl, ?_⟩) ?_ ?_
 rotate_left
 {
 intro w'
 go_simp
 with_reducible rfl
 }
 rotate_left
 · exact pt_
 refine pure_ (i := 13) (N := some 27) (v := ?_) (a' := ?_) (bA 26 15871) rfl rfl (any_of HT_.out (by kernel_rfl)) (fun _ _ _ h => h) (Or.inl ⟨by rfl, ?_⟩) ?_ ?_
 rotate_left
 {
 intro w'
 go_simp
 with_reducible rfl
 }
 rotate_left
 · exact pt_
 refine pure_ (i := 14) (N := some 28) (v := ?_) (a' := ?_) (bA 26 32255) rfl rfl (any_of HT_.out (by kernel_rfl)) (fun _ _ _ h => h) (Or.inl ⟨by rfl, ?_⟩) ?_ ?_
 rotate_left
 {
 intro w'
 go_simp
 with_reducible rfl
 }
 rotate_left
 · exact pt_
 refine take_ (i := 9) (N := some 23) (v := ?_) (a' := ?_) (bA 26 32767) rfl rfl (take_ofW HT_.out HW_.out (by kernel_rfl)) (fun _ _ _ h => h) (Or.inl ⟨by rfl, ?_⟩) hHeld ?_ ?_
 rotate_left
 {
 rintro w' ⟨s0, s1, s2, s3, s4, s5⟩
 go_simp
 with_reducible rfl
 }
 rotate_left
 · exact pt_
 refine take_ (i := 15) (N := some 29) (v := ?_) (a' := ?_) (bA 26 65535) rfl rfl (take_ofW HT_.out HW_.out (by kernel_rfl)) (fun _ _ _ h => h) (Or.inl ⟨by rfl, ?_⟩) hHeld ?_ ?_
 rotate_left
 {
 rintro w' ⟨s0, s1, s2, s3, s4, s5⟩
 go_simp
 with_reducible rfl
 }
 rotate_left
 · exact pt_
 refine pure_ (i := 16) (N := some 30) (v := ?_) (a' := ?_) (bA 26 131071) rfl rfl (any_of HT_.out (by kernel_rfl)) (fun _ _ _ h => h) (Or.inl ⟨by rfl, ?_⟩) ?_ ?_
 rotate_left
 {
 intro w'
 go_simp
 with_reducible rfl
 }
 rotate_left
 · exact pt_
 refine pure_ (i := 17) (N := some 31) (v := ?_) (a' := ?_) (bA 26 262143) rfl rfl (any_of HT_.out (by kernel_rfl)) (fun _ _ _ h => h) (Or.inl ⟨by rfl, ?_⟩) ?_ ?_
 rotate_left
 {
 intro w'
 go_simp
 with_reducible rfl
 }
 rotate_left
 · exact pt_
 refine pure_ (i := 18) (N := some 32) (v := ?_) (a' := ?_) (bA 26 524287) rfl rfl (any_of HT_.out (by kernel_rfl)) (fun _ _ _ h => h) (Or.inl ⟨by rfl, ?_⟩) ?_ ?_
 rotate_left
 {
 intro w'
 go_simp
 with_reducible rfl
 }
 rotate_left
 · exact pt_
 refine pure_ (i := 19) (N := some 33) (v := ?_) (a' := ?_) (bA 26 1048575) rfl rfl (any_of HT_.out (by kernel_rfl)) (fun _ _ _ h => h) (Or.inl ⟨by rfl, ?_⟩) ?_ ?_
 rotate_left
 {
 intro w'
 go_simp
 with_reducible rfl
 }
 rotate_left
 · exact pt_
 refine pure_ (i := 20) (N := some 34) (v := undef) (a' := ?_) (bA 26 2097151) rfl rfl (any_of HT_.out (by kernel_rfl)) (fun _ _ _ h => h) (Or.inr ⟨by rfl, rfl⟩) ?_ ?_
 rotate_left
 · exact pt_
 refine pure_ (i := 21) (N := some 35) (v := undef) (a' := ?_) (bA 26 4194303) rfl rfl (any_of HT_.out (by kernel_rfl)) (fun _ _ _ h => h) (Or.inr ⟨by rfl, rfl⟩) ?_ ?_
 rotate_left
 · exact pt_
 refine pure_ (i := 22) (N := some 36) (v := undef) (a' := ?_) (bA 26 8388607) rfl rfl (any_of HT_.out (by kernel_rfl)) (fun _ _ _ h => h) (Or.inr ⟨by rfl, rfl⟩) ?_ ?_
 rotate_left
 · exact pt_
 refine pure_ (i := 23) (N := some 37) (v := undef) (a' := ?_) (bA 26 16777215) rfl rfl (any_of HT_.out (by kernel_rfl)) (fun _ _ _ h => h) (Or.inr ⟨by rfl, rfl⟩) ?_ ?_
 rotate_left
 · exact pt_
 refine pure_ (i := 24) (N := some 38) (v := undef) (a' := ?_) (bA 26 33554431) rfl rfl (any_of HT_.out (by kernel_rfl)) (fun _ _ _ h => h) (Or.inr ⟨by rfl, rfl⟩) ?_ ?_
 rotate_left
 · exact pt_
 refine pure_ (i := 25) (N := some 39) (v := ?_) (a' := ?_) (bA 26 67108863) rfl rfl (any_of HT_.out (by kernel_rfl)) (fun _ _ _ h => h) (Or.inl ⟨by rfl, ?_⟩) ?_ ?_
 rotate_left
 {
 intro w'
 go_simp
 with_reducible rfl
 }
 rotate_left
 · exact pt_
 refine done_ (done_of HT_.out (by kernel_rfl)) ?_
 try go_wp2
 go_ret
 exact ⟨by first | rfl | (simp [errW_none, errW_some] <;> rfl) | (simp only [← hji10]; first | rfl | (simp [errW_none, errW_some] <;> rfl)) | (simp [*, errW_none, errW_some] <;> rfl), by repeat (first | (with_reducible first | exact HB.out | apply below_alloc | apply pw_below_drewN | apply below_drew1 | refine below_set ?_ GE179.out | refine below_set ?_ GE182.out) | exact HB.out)⟩
 )
 }
 {
 rw [if_neg c13] at H
 have c13b0 : decide (((rd_T47 l1 x9_1).f1) ≤ ((rd_T47 l1 (ji10)).f1)) = false := decide_eq_false c13
 clear c13
 have c20b0 := eq_true (of_decide_eq_true (by first | (with_reducible assumption) | assumption) : 0 ≤ x9_1)
 by_cases c21 : x9_1 ≤ (l1.length : Int)
 {
 rw [if_pos c21] at H
 have c21b0 := eq_true c21
 have c21b1 : decide (x9_1 ≤ (l1.length : Int)) = true := decide_eq_true c21
 clear c21
 obtain ⟨y185, hy185⟩ : ∃ y_ : List (S47), y_ = (l1.take (x9_1 : Int).toNat) := ⟨_, rfl⟩
 replace H : ((slices_ContainsFunc_Hold_at_ValidHolds_1.f k1 y185 ((rd_T47 l1 x9_1).f0) ((rd_T47 l1 x9_1).f1)).bind fun t189 => (if t189 = true then (some false) else (impl_ValidHolds.l0 k1 l1 l1 (l1.length : Int) (wrap64 (x9_1 + 1)) a0_0 l0_1))) = some r := by first | (rw [hy185]; with_reducible exact H) | (have H2_ := (Option.bind_some _ _).symm.trans H; rw [hy185]; with_reducible exact H2_) | (have H2_ := (Option.bind_some _ _).symm.trans H; with_reducible exact H2_) | with_reducible exact H | (rw [hy185]; exact H) | exact H
 have Ny185 := ak hy185
 clear hy185
 replace H := Option.bind_eq_some_iff.mp H
 obtain ⟨t189, A220, H⟩ := H
 replace H : (if t189 = true then (some false) else (impl_ValidHolds.l0 k1 l1 l1 (l1.length : Int) (wrap64 (x9_1 + 1)) a0_0 l0_1)) = some r := H
 have A22 := ak A220
 clear A220
 by_cases c23 : t189 = true
 {
 subst c23
 have H1 : (some false) = some r := by rw [if_pos rfl] at H; exact H
 clear H
 have H := H1
 clear H1
 as_aux_lemma => (
 obtain rfl := Option.some.inj H
 have p181 : 0 ≤ (x9_1 : Int) := of_decide_eq_true (by first | (with_reducible assumption) | assumption)
 have q181 : x9_1 < (l1.length : Int) := of_decide_eq_true (by first | (with_reducible assumption) | assumption)
 obtain ⟨ad181, e181, hx181_0, hx181_1⟩ := at_T47 HR1.out x9_1 p181 q181
 cases e181
 replace hx181_0 := (HB.out.cell (World.block_lt_of_cell? w _ hx181_0)).trans hx181_0
 replace hx181_1 := (HB.out.cell (World.block_lt_of_cell? w _ hx181_1)).trans hx181_1
 replace p181 := eq_true p181
 replace q181 := eq_true q181
 try go_wp2_with (first | ((with_reducible refine gate_dst (N := 6) rfl ?_); refine box_event ?hg (N := 6) ?hd (cs := #[.int .i16 0, .int .i8 0]) (t := 47) ?hr ?_; (case hd => rfl); (case hg => rfl); (case hr => first | (go_simp; done) | (go_simp; rfl)); intro gb182 hg w24 hbox hb; have n0_ := ak (blk_below (g := gb179) (o := .cells #[.int .i16 a0_0, .slice A0_1 l0_1.length c0_1] 27 (0, 0)) (zK BK179.out) hb); have n1_ := ak (below_step (zBG HB.out GE179.out) hb); have n2_ := ak (hbox); have n3_ := ak ((by rw [hg]; exact (below_size (zBG HB.out GE179.out)) : w.heap.size ≤ gb182)); have n4_ := ak ((by rw [hg]; exact (below_size (zBG HB.out GE179.out)) : w.heap.size ≤ gb182)); have n5_ := ak ((by rw [hg]; exact Nat.ne_of_lt (blk_lt (g := gb179) (o := .cells #[.int .i16 a0_0, .slice A0_1 l0_1.length c0_1] 27 (0, 0)) (zK BK179.out)) : gb179 ≠ gb182)); have n6_ := ak ((by rw [hg]; exact Nat.ne_of_gt (blk_lt (g := gb179) (o := .cells #[.int .i16 a0_0, .slice A0_1 l0_1.length c0_1] 27 (0, 0)) (zK BK179.out)) : gb182 ≠ gb179)); clear BK179 HB; have BK179 := n0_; have HB := n1_; have BK182 := n2_; have GW182 := n3_; have GE182 := n4_; have NB179_182 := n5_; have NB182_179 := n6_; clear n0_ n1_ n2_ n3_ n4_ n5_ n6_; clear hb hbox hg; have hnb25 := NB182_179.out; have hnc25 := NB179_182.out; have hcz26_0 : w24.cell? ⟨gb182, 0, none⟩ = some (.int .i16 0) := (blk_cell BK182.out 0).trans rfl; have hcz26_1 : w24.cell? ⟨gb182, 1, none⟩ = some (.int .i8 0) := (blk_cell BK182.out 1).trans rfl; have hfz26_0 := blk_frozen BK182.out 0; have hfz26_1 := blk_frozen BK182.out 1))
 have n0_ : Aside0 (((w24.setCell ⟨gb182, 0, none⟩ (.int .i16 ((rd_T47 l1 x9_1).f0))).setCell ⟨gb182, 1, none⟩ (.int .i8 ((rd_T47 l1 x9_1).f1))).heap[gb179]? = some (.cells #[.int .i16 a0_0, .slice A0_1 l0_1.length c0_1] 27 (0, 0))) := ⟨by (with_reducible repeat (first | refine blk_drewN ?_ _ | refine blk_drew ?_ | refine blk_alloc ?_ _)); refine blk_far ?_ NB179_182.out _; (with_reducible repeat (first | refine blk_drewN ?_ _ | refine blk_drew ?_ | refine blk_alloc ?_ _)); refine blk_far ?_ NB179_182.out _; (with_reducible repeat (first | refine blk_drewN ?_ _ | refine blk_drew ?_ | refine blk_alloc ?_ _)); exact BK179.out⟩
 have n1_ : Aside0 (((w24.setCell ⟨gb182, 0, none⟩ (.int .i16 ((rd_T47 l1 x9_1).f0))).setCell ⟨gb182, 1, none⟩ (.int .i8 ((rd_T47 l1 x9_1).f1))).heap[gb182]? = some (.cells #[.int .i16 ((rd_T47 l1 x9_1).f0), .int .i8 ((rd_T47 l1 x9_1).f1)] 47 (0, 0))) := ⟨by (with_reducible repeat (first | refine blk_drewN ?_ _ | refine blk_drew ?_ | refine blk_alloc ?_ _)); refine blk_put (cs := #[.int .i16 ((rd_T47 l1 x9_1).f0), .int .i8 0]) ?_ 1 _ rfl; (with_reducible repeat (first | refine blk_drewN ?_ _ | refine blk_drew ?_ | refine blk_alloc ?_ _)); refine blk_put (cs := #[.int .i16 0, .int .i8 0]) ?_ 0 _ rfl; (with_reducible repeat (first | refine blk_drewN ?_ _ | refine blk_drew ?_ | refine blk_alloc ?_ _)); exact BK182.out⟩
 have n2_ : Aside0 (Below w.heap.size w ((w24.setCell ⟨gb182, 0, none⟩ (.int .i16 ((rd_T47 l1 x9_1).f0))).setCell ⟨gb182, 1, none⟩ (.int .i8 ((rd_T47 l1 x9_1).f1)))) := ⟨by repeat (first | (with_reducible first | exact HB.out | apply below_alloc | apply pw_below_drewN | apply below_drew1 | refine below_set ?_ GE179.out | refine below_set ?_ GE182.out) | exact HB.out)⟩
 (try clear BK179)
 (try clear BK182)
 (try clear HB)
 generalize ((w24.setCell ⟨gb182, 0, none⟩ (.int .i16 ((rd_T47 l1 x9_1).f0))).setCell ⟨gb182, 1, none⟩ (.int .i8 ((rd_T47 l1 x9_1).f1))) = w27 at n0_ n1_ n2_ ⊢
 have BK179 := n0_
 have BK182 := n1_
 have HB := n2_
 clear n0_ n1_ n2_
 have n0_ := ak (blk_drew BK179.out)
 have n1_ := ak (blk_drew BK182.out)
 have n2_ := ak (below_drew1 HB.out)
 clear BK179 BK182 HB
 have BK179 := n0_
 have BK182 := n1_
 have HB := n2_
 clear n0_ n1_ n2_
 have p184 : 0 ≤ ((ji10) : Int) := of_decide_eq_true (by first | (with_reducible assumption) | assumption)
 have q184 : (ji10) < (l1.length : Int) := of_decide_eq_true (by first | (with_reducible assumption) | assumption)
 obtain ⟨ad184, e184, hx184_0, hx184_1⟩ := at_T47 HR1.out (ji10) p184 q184
 have hw184_1 := hx184_1
 have hw184_0 := hx184_0
 obtain rfl : ad181 = ad184 := (by injection e184)
 replace hx184_0 := (HB.out.cell (World.block_lt_of_cell? w _ hx184_0)).trans hx184_0
 replace hx184_1 := (HB.out.cell (World.block_lt_of_cell? w _ hx184_1)).trans hx184_1
 replace p184 := eq_true p184
 replace q184 := eq_true q184
 refine start_ (n := 26) (S := fun w' => w'.cell? ⟨gb179, 0, none⟩ = some (.int .i16 a0_0) ∧ w'.cell? ⟨gb179, 1, none⟩ = some (.slice A0_1 l0_1.length c0_1) ∧ w'.cell? ⟨gb182, 0, none⟩ = some (.int .i16 ((rd_T47 l1 x9_1).f0)) ∧ w'.cell? ⟨gb182, 1, none⟩ = some (.int .i8 ((rd_T47 l1 x9_1).f1)) ∧ w'.cell? (ad181.add (((ji10)).toNat * 2)) = some (.int .i16 ((rd_T47 l1 (ji10)).f0)) ∧ w'.cell? ⟨(ad181.add (((ji10)).toNat * 2)).block, (ad181.add (((ji10)).toNat * 2)).off + 1, none⟩ = some (.int .i8 ((rd_T47 l1 (ji10)).f1))) (ds := []) (bA 26 0) (by kernel_rfl) rfl rfl ⟨(blk_cell BK179.out 0).trans rfl, (blk_cell BK179.out 1).trans rfl, (blk_cell BK182.out 0).trans rfl, (blk_cell BK182.out 1).trans rfl, ((HB.out.cell (World.block_lt_of_cell? w _ hw184_0)).trans hw184_0), ((HB.out.cell (World.block_lt_of_cell? w _ hw184_1)).trans hw184_1)⟩ (fun hHeld => ?_); refine with_tabW impl_ValidHolds.tab4 impl_ValidHolds.bits4 (fun HT_ HW_ => ?_)
 generalize w27.drew = w28 at BK179 BK182 HB hx184_0 hx184_1 hHeld ⊢
 refine take_ (i := 0) (N := some 14) (v := ?_) (a' := ?_) (bA 26 1) rfl rfl (take_ofW HT_.out HW_.out (by kernel_rfl)) (fun _ _ _ h => h) (Or.inl ⟨by rfl, ?_⟩) hHeld ?_ ?_
 rotate_left
 {
 rintro w' ⟨s0, s1, s2, s3, s4, s5⟩
 go_simp
 with_reducible rfl
 }
 rotate_left
 · exact pt_
 refine take_ (i := 1) (N := some 15) (v := ?_) (a' := ?_) (bA 26 3) rfl rfl (take_ofW HT_.out HW_.out (by kernel_rfl)) (fun _ _ _ h => h) (Or.inl ⟨by rfl, ?_⟩) hHeld ?_ ?_
 rotate_left
 {
 rintro w' ⟨s0, s1, s2, s3, s4, s5⟩
 go_simp
 with_reducible rfl
 }
 rotate_left
 · exact pt_
 refine one_ (i := 2) (N := some 16) (bA 26 7) rfl rfl (one_of HT_.out (by kernel_rfl)) (by decide) (fun K hK => ?_)
 refine goes_ Try.func39 (by kernel_rfl) rfl #[.agg #[.int .i16 a0_0, .slice A0_1 l0_1.length c0_1], .agg #[.int .i16 ((rd_T47 l1 x9_1).f0), .int .i8 ((rd_T47 l1 x9_1).f1)]] (by rfl) rfl rfl gl_ ?_
 with_reducible refine (impl_Rope_isHold.calls a0_0 _ _ l0_1 ((rd_T47 l1 x9_1).f0) ((rd_T47 l1 x9_1).f1) true _ ?side1 ?side2 A7.out).mono ?_
 (case side1 => repeat (first | exact (Kd.C_below HR0_1.out HB.out) | (with_reducible refine Kd.C_alloc ?_ _) | (with_reducible refine Kd.C_drewN ?_ _) | (with_reducible refine Kd.C_drew ?_)))
 (case side2 => exact HC0_1.out)
 rintro e w29 ⟨rfl, hb⟩
 refine ⟨_, rfl, ?_⟩
 have n0_ := ak (blk_below (g := gb179) (o := .cells #[.int .i16 a0_0, .slice A0_1 l0_1.length c0_1] 27 (0, 0)) (zK BK179.out) hb)
 have n1_ := ak (blk_below (g := gb182) (o := .cells #[.int .i16 ((rd_T47 l1 x9_1).f0), .int .i8 ((rd_T47 l1 x9_1).f1)] 47 (0, 0)) (zK BK182.out) hb)
 have n2_ := ak (below_step (by repeat (first | (with_reducible first | exact HB.out | apply below_alloc | apply pw_below_drewN | apply below_drew1 | refine below_set ?_ GE179.out | refine below_set ?_ GE182.out) | exact HB.out)) hb)
 clear BK179 BK182 HB
 have BK179 := n0_
 have BK182 := n1_
 have HB := n2_
 clear n0_ n1_ n2_
 (try clear hb)
 (try clear hb2)
 (try clear hk)
 (try clear hi)
 have q30 : (x9_1 : Int) ≤ ((l1.length : Int) : Int) := of_decide_eq_true (by first | (with_reducible assumption) | assumption)
 obtain ⟨i030, hi030, _, hsz30, _⟩ := info_parts info47
 have hroom30 : l1.length ≤ c1 := HC1.out
 have hC30 : Kd.C k47 _ (some ad181) l1.length l1 := HR1.out
 have hcut30 := cut_to (P := Try.prog) 29 47 .i64 Try.underlying29 hi030 (some ad181) l1.length c1 x9_1 (of_decide_eq_true (by first | (with_reducible assumption) | assumption)) q30 hroom30
 have hr30 := Kd.C_take (m := (x9_1 : Int).toNat) hC30 (by omega)
 have hy30 : y185.length = (x9_1 : Int).toNat := (by rw [Ny185.out, List.length_take]; omega)
 rw [← Ny185.out] at hr30
 rw [← hy30] at hcut30
 have HR188 := ak hr30
 have HC188 := ak (show y185.length ≤ c1 from by omega)
 clear hr30 hC30 hroom30 hi030 hsz30
 have KY30 := ak hy30
 clear hy30
 replace q30 := eq_true q30
 refine hK.out _ _ ⟨(blk_cell BK179.out 0).trans rfl, (blk_cell BK179.out 1).trans rfl, (blk_cell BK182.out 0).trans rfl, (blk_cell BK182.out 1).trans rfl, ((HB.out.cell (World.block_lt_of_cell? w _ hw184_0)).trans hw184_0), ((HB.out.cell (World.block_lt_of_cell? w _ hw184_1)).trans hw184_1)⟩ (fun hHeld => ?_)
 clear hK K
 refine norm_ (a' := ?_) ?_ ?_
 rotate_left
 {
 show Act.put _ (some 16) _ = _
 simp only [Act.put, zs, zz, zk, i64_w, i32_w]
 rfl
 }
 refine pure_ (i := 3) (N := some 17) (v := ?_) (a' := ?_) (bA 26 15) rfl rfl (any_of HT_.out (by kernel_rfl)) (fun _ _ _ h => h) (Or.inl ⟨by rfl, ?_⟩) ?_ ?_
 rotate_left
 {
 intro w'
 go_simp
 with_reducible rfl
 }
 rotate_left
 · exact pt_
 refine pure_ (i := 4) (N := some 18) (v := ?_) (a' := ?_) (bA 26 31) rfl rfl (any_of HT_.out (by kernel_rfl)) (fun _ _ _ h => h) (Or.inl ⟨by rfl, ?_⟩) ?_ ?_
 rotate_left
 {
 intro w'
 go_simp
 with_reducible rfl
 }
 rotate_left
 · exact pt_
 refine pure_ (i := 5) (N := some 19) (v := ?_) (a' := ?_) (bA 26 63) rfl rfl (any_of HT_.out (by kernel_rfl)) (fun _ _ _ h => h) (Or.inl ⟨by rfl, ?_⟩) ?_ ?_
 rotate_left
 {
 intro w'
 go_simp
 with_reducible rfl
 }
 rotate_left
 · exact pt_
 refine pure_ (i := 6) (N := some 20) (v := ?_) (a' := ?_) (bA 26 127) rfl rfl (any_of HT_.out (by kernel_rfl)) (fun _ _ _ h => h) (Or.inl ⟨by rfl, ?_⟩) ?_ ?_
 rotate_left
 {
 intro w'
 go_simp
 with_reducible rfl
 }
 rotate_left
 · exact pt_
 refine pure_ (i := 7) (N := some 21) (v := ?_) (a' := ?_) (bA 26 255) rfl rfl (any_of HT_.out (by kernel_rfl)) (fun _ _ _ h => h) (Or.inl ⟨by rfl, ?_⟩) ?_ ?_
 rotate_left
 {
 intro w'
 go_simp
 with_reducible rfl
 }
 rotate_left
 · exact pt_
 refine pure_ (i := 8) (N := some 22) (v := ?_) (a' := ?_) (bA 26 511) rfl rfl (any_of HT_.out (by kernel_rfl)) (fun _ _ _ h => h) (Or.inl ⟨by rfl, ?_⟩) ?_ ?_
 rotate_left
 {
 intro w'
 go_simp
 with_reducible rfl
 }
 rotate_left
 · exact pt_
 refine pure_ (i := 10) (N := some 24) (v := ?_) (a' := ?_) (bA 26 1535) rfl rfl (any_of HT_.out (by kernel_rfl)) (fun _ _ _ h => h) (Or.inl ⟨by rfl, ?_⟩) ?_ ?_
 rotate_left
 {
 intro w'
 go_simp
 with_reducible rfl
 }
 rotate_left
 · exact pt_
 refine pure_ (i := 11) (N := some 25) (v := ?_) (a' := ?_) (bA 26 3583) rfl rfl (any_of HT_.out (by kernel_rfl)) (fun _ _ _ h => h) (Or.inl ⟨by rfl, ?_⟩) ?_ ?_
 rotate_left
 {
 intro w'
 go_simp
 with_reducible rfl
 }
 rotate_left
 · exact pt_
 refine pure_ (i := 12) (N := some 26) (v := ?_) (a' := ?_) (bA 26 7679) rfl rfl (any_of HT_.out (by kernel_rfl)) (fun _ _ _ h => h) (Or.inl ⟨by rfl, ?_⟩) ?_ ?_
 rotate_left
 {
 intro w'
 go_simp
 with_reducible rfl
 }
 rotate_left
 · exact pt_
 refine pure_ (i := 13) (N := some 27) (v := ?_) (a' := ?_) (bA 26 15871) rfl rfl (any_of HT_.out (by kernel_rfl)) (fun _ _ _ h => h) (Or.inl ⟨by rfl, ?_⟩) ?_ ?_
 rotate_left
 {
 intro w'
 go_simp
 with_reducible rfl
 }
 rotate_left
 · exact pt_
 refine pure_ (i := 14) (N := some 28) (v := ?_) (a' := ?_) (bA 26 32255) rfl rfl (any_of HT_.out (by kernel_rfl)) (fun _ _ _ h => h) (Or.inl ⟨by rfl, ?_⟩) ?_ ?_
 rotate_left
 {
 intro w'
 go_simp
 with_reducible rfl
 }
 rotate_left
 · exact pt_
 refine take_ (i := 9) (N := some 23) (v := ?_) (a' := ?_) (bA 26 32767) rfl rfl (take_ofW HT_.out HW_.out (by kernel_rfl)) (fun _ _ _ h => h) (Or.inl ⟨by rfl, ?_⟩) hHeld ?_ ?_
 rotate_left
 {
 rintro w' ⟨s0, s1, s2, s3, s4, s5⟩
 go_simp
 with_reducible rfl
 }
 rotate_left
 · exact pt_
 refine take_ (i := 15) (N := some 29) (v := ?_) (a' := ?_) (bA 26 65535) rfl rfl (take_ofW HT_.out HW_.out (by kernel_rfl)) (fun _ _ _ h => h) (Or.inl ⟨by rfl, ?_⟩) hHeld ?_ ?_
 rotate_left
 {
 rintro w' ⟨s0, s1, s2, s3, s4, s5⟩
 go_simp
 with_reducible rfl
 }
 rotate_left
 · exact pt_
 refine pure_ (i := 16) (N := some 30) (v := ?_) (a' := ?_) (bA 26 131071) rfl rfl (any_of HT_.out (by kernel_rfl)) (fun _ _ _ h => h) (Or.inl ⟨by rfl, ?_⟩) ?_ ?_
 rotate_left
 {
 intro w'
 go_simp
 with_reducible rfl
 }
 rotate_left
 · exact pt_
 refine pure_ (i := 17) (N := some 31) (v := ?_) (a' := ?_) (bA 26 262143) rfl rfl (any_of HT_.out (by kernel_rfl)) (fun _ _ _ h => h) (Or.inl ⟨by rfl, ?_⟩) ?_ ?_
 rotate_left
 {
 intro w'
 go_simp
 with_reducible rfl
 }
 rotate_left
 · exact pt_
 refine pure_ (i := 18) (N := some 32) (v := ?_) (a' := ?_) (bA 26 524287) rfl rfl (any_of HT_.out (by kernel_rfl)) (fun _ _ _ h => h) (Or.inl ⟨by rfl, ?_⟩) ?_ ?_
 rotate_left
 {
 intro w'
 go_simp
 with_reducible rfl
 }
 rotate_left
 · exact pt_
 refine pure_ (i := 19) (N := some 33) (v := ?_) (a' := ?_) (bA 26 1048575) rfl rfl (any_of HT_.out (by kernel_rfl)) (fun _ _ _ h => h) (Or.inl ⟨by rfl, ?_⟩) ?_ ?_
 rotate_left
 {
 intro w'
 go_simp
 with_reducible rfl
 }
 rotate_left
 · exact pt_
 refine pure_ (i := 20) (N := some 34) (v := ?_) (a' := ?_) (bA 26 2097151) rfl rfl (any_of HT_.out (by kernel_rfl)) (fun _ _ _ h => h) (Or.inl ⟨by rfl, ?_⟩) ?_ ?_
 rotate_left
 {
 intro w'
 go_simp
 with_reducible rfl
 }
 rotate_left
 · exact pt_
 refine pure_ (i := 21) (N := some 35) (v := ?_) (a' := ?_) (bA 26 4194303) rfl rfl (any_of HT_.out (by kernel_rfl)) (fun _ _ _ h => h) (Or.inl ⟨by rfl, ?_⟩) ?_ ?_
 rotate_left
 {
 intro w'
 go_simp
 with_reducible rfl
 }
 rotate_left
 · exact pt_
 refine pure_ (i := 22) (N := some 36) (v := ?_) (a' := ?_) (bA 26 8388607) rfl rfl (any_of HT_.out (by kernel_rfl)) (fun _ _ _ h => h) (Or.inl ⟨by rfl, ?_⟩) ?_ ?_
 rotate_left
 {
 intro w'
 go_simp
 with_reducible rfl
 }
 rotate_left
 · exact pt_
 refine pure_ (i := 23) (N := some 37) (v := ?_) (a' := ?_) (bA 26 16777215) rfl rfl (any_of HT_.out (by kernel_rfl)) (fun _ _ _ h => h) (Or.inl ⟨by rfl, ?_⟩) ?_ ?_
 rotate_left
 {
 intro w'
 go_simp
 with_reducible rfl
 }
 rotate_left
 · exact pt_
 refine one_ (i := 24) (N := some 38) (bA 26 33554431) rfl rfl (one_of HT_.out (by kernel_rfl)) (by decide) (fun K hK => ?_)
 refine goes_ Try.func40 (by kernel_rfl) rfl #[.slice (some ad181) y185.length c1, .func (.func 41) #[] #[.pointer (some ⟨gb182, 0, none⟩)]] (by rfl) rfl rfl gl_ ?_
 with_reducible refine (slices_ContainsFunc_Hold_at_ValidHolds_1.calls k1 _ _ y185 gb182 ((rd_T47 l1 x9_1).f0) ((rd_T47 l1 x9_1).f1) true _ ?side1 ?side2 ?side3 A22.out).mono ?_
 (case side1 => repeat (first | exact (Kd.C_below HR188.out HB.out) | (with_reducible refine Kd.C_alloc ?_ _) | (with_reducible refine Kd.C_drewN ?_ _) | (with_reducible refine Kd.C_drew ?_)))
 (case side2 => exact HC188.out)
 (case side3 => exact (by first | exact BK182.out | ((with_reducible repeat (first | refine blk_drewN ?_ _ | refine blk_drew ?_ | refine blk_alloc ?_ _)); exact BK182.out)))
 rintro e w31 ⟨rfl, hb⟩
 refine ⟨_, rfl, ?_⟩
 have n0_ := ak (blk_below (g := gb179) (o := .cells #[.int .i16 a0_0, .slice A0_1 l0_1.length c0_1] 27 (0, 0)) (zK BK179.out) hb)
 have n1_ := ak (blk_below (g := gb182) (o := .cells #[.int .i16 ((rd_T47 l1 x9_1).f0), .int .i8 ((rd_T47 l1 x9_1).f1)] 47 (0, 0)) (zK BK182.out) hb)
 have n2_ := ak (below_step (by repeat (first | (with_reducible first | exact HB.out | apply below_alloc | apply pw_below_drewN | apply below_drew1 | refine below_set ?_ GE179.out | refine below_set ?_ GE182.out) | exact HB.out)) hb)
 clear BK179 BK182 HB
 have BK179 := n0_
 have BK182 := n1_
 have HB := n2_
 clear n0_ n1_ n2_
 (try clear hb)
 (try clear hb2)
 (try clear hk)
 (try clear hi)
 refine hK.out _ _ ⟨(blk_cell BK179.out 0).trans rfl, (blk_cell BK179.out 1).trans rfl, (blk_cell BK182.out 0).trans rfl, (blk_cell BK182.out 1).trans rfl, ((HB.out.cell (World.block_lt_of_cell? w _ hw184_0)).trans hw184_0), ((HB.out.cell (World.block_lt_of_cell? w _ hw184_1)).trans hw184_1)⟩ (fun hHeld => ?_)
 clear hK K
 refine norm_ (a' := ?_) ?_ ?_
 rotate_left
 {
 show Act.put _ (some 38) _ = _
 simp only [Act.put, zs, zz, zk, i64_w, i32_w]
 rfl
 }
 refine pure_ (i := 25) (N := some 39) (v := ?_) (a' := ?_) (bA 26 67108863) rfl rfl (any_of HT_.out (by kernel_rfl)) (fun _ _ _ h => h) (Or.inl ⟨by rfl, ?_⟩) ?_ ?_
 rotate_left
 {
 intro w'
 go_simp
 with_reducible rfl
 }
 rotate_left
 · exact pt_
 refine done_ (done_of HT_.out (by kernel_rfl)) ?_
 try go_wp2
 go_ret
 exact ⟨by first | rfl | (simp [errW_none, errW_some] <;> rfl) | (simp only [← hji10]; first | rfl | (simp [errW_none, errW_some] <;> rfl)) | (simp [*, errW_none, errW_some] <;> rfl), by repeat (first | (with_reducible first | exact HB.out | apply below_alloc | apply pw_below_drewN | apply below_drew1 | refine below_set ?_ GE179.out | refine below_set ?_ GE182.out) | exact HB.out)⟩
 )
 }
 {
 replace c23 := Bool.eq_false_iff.mpr c23
 subst c23
 have H1 : (impl_ValidHolds.l0 k1 l1 l1 (l1.length : Int) (wrap64 (x9_1 + 1)) a0_0 l0_1) = some r := by rw [if_neg (show ¬ (false = true) by decide)] at H; exact H
 clear H
 have H := H1
 clear H1
 as_aux_lemma => (
 have H' := ak H
 clear H
 have p181 : 0 ≤ (x9_1 : Int) := of_decide_eq_true (by first | (with_reducible assumption) | assumption)
 have q181 : x9_1 < (l1.length : Int) := of_decide_eq_true (by first | (with_reducible assumption) | assumption)
 obtain ⟨ad181, e181, hx181_0, hx181_1⟩ := at_T47 HR1.out x9_1 p181 q181
 cases e181
 replace hx181_0 := (HB.out.cell (World.block_lt_of_cell? w _ hx181_0)).trans hx181_0
 replace hx181_1 := (HB.out.cell (World.block_lt_of_cell? w _ hx181_1)).trans hx181_1
 replace p181 := eq_true p181
 replace q181 := eq_true q181
 try go_wp2_with (first | ((with_reducible refine gate_dst (N := 6) rfl ?_); refine box_event ?hg (N := 6) ?hd (cs := #[.int .i16 0, .int .i8 0]) (t := 47) ?hr ?_; (case hd => rfl); (case hg => rfl); (case hr => first | (go_simp; done) | (go_simp; rfl)); intro gb182 hg w32 hbox hb; have n0_ := ak (blk_below (g := gb179) (o := .cells #[.int .i16 a0_0, .slice A0_1 l0_1.length c0_1] 27 (0, 0)) (zK BK179.out) hb); have n1_ := ak (below_step (zBG HB.out GE179.out) hb); have n2_ := ak (hbox); have n3_ := ak ((by rw [hg]; exact (below_size (zBG HB.out GE179.out)) : w.heap.size ≤ gb182)); have n4_ := ak ((by rw [hg]; exact (below_size (zBG HB.out GE179.out)) : w.heap.size ≤ gb182)); have n5_ := ak ((by rw [hg]; exact Nat.ne_of_lt (blk_lt (g := gb179) (o := .cells #[.int .i16 a0_0, .slice A0_1 l0_1.length c0_1] 27 (0, 0)) (zK BK179.out)) : gb179 ≠ gb182)); have n6_ := ak ((by rw [hg]; exact Nat.ne_of_gt (blk_lt (g := gb179) (o := .cells #[.int .i16 a0_0, .slice A0_1 l0_1.length c0_1] 27 (0, 0)) (zK BK179.out)) : gb182 ≠ gb179)); clear BK179 HB; have BK179 := n0_; have HB := n1_; have BK182 := n2_; have GW182 := n3_; have GE182 := n4_; have NB179_182 := n5_; have NB182_179 := n6_; clear n0_ n1_ n2_ n3_ n4_ n5_ n6_; clear hb hbox hg; have hnb33 := NB182_179.out; have hnc33 := NB179_182.out; have hcz34_0 : w32.cell? ⟨gb182, 0, none⟩ = some (.int .i16 0) := (blk_cell BK182.out 0).trans rfl; have hcz34_1 : w32.cell? ⟨gb182, 1, none⟩ = some (.int .i8 0) := (blk_cell BK182.out 1).trans rfl; have hfz34_0 := blk_frozen BK182.out 0; have hfz34_1 := blk_frozen BK182.out 1))
 have n0_ : Aside0 (((w32.setCell ⟨gb182, 0, none⟩ (.int .i16 ((rd_T47 l1 x9_1).f0))).setCell ⟨gb182, 1, none⟩ (.int .i8 ((rd_T47 l1 x9_1).f1))).heap[gb179]? = some (.cells #[.int .i16 a0_0, .slice A0_1 l0_1.length c0_1] 27 (0, 0))) := ⟨by (with_reducible repeat (first | refine blk_drewN ?_ _ | refine blk_drew ?_ | refine blk_alloc ?_ _)); refine blk_far ?_ NB179_182.out _; (with_reducible repeat (first | refine blk_drewN ?_ _ | refine blk_drew ?_ | refine blk_alloc ?_ _)); refine blk_far ?_ NB179_182.out _; (with_reducible repeat (first | refine blk_drewN ?_ _ | refine blk_drew ?_ | refine blk_alloc ?_ _)); exact BK179.out⟩
 have n1_ : Aside0 (((w32.setCell ⟨gb182, 0, none⟩ (.int .i16 ((rd_T47 l1 x9_1).f0))).setCell ⟨gb182, 1, none⟩ (.int .i8 ((rd_T47 l1 x9_1).f1))).heap[gb182]? = some (.cells #[.int .i16 ((rd_T47 l1 x9_1).f0), .int .i8 ((rd_T47 l1 x9_1).f1)] 47 (0, 0))) := ⟨by (with_reducible repeat (first | refine blk_drewN ?_ _ | refine blk_drew ?_ | refine blk_alloc ?_ _)); refine blk_put (cs := #[.int .i16 ((rd_T47 l1 x9_1).f0), .int .i8 0]) ?_ 1 _ rfl; (with_reducible repeat (first | refine blk_drewN ?_ _ | refine blk_drew ?_ | refine blk_alloc ?_ _)); refine blk_put (cs := #[.int .i16 0, .int .i8 0]) ?_ 0 _ rfl; (with_reducible repeat (first | refine blk_drewN ?_ _ | refine blk_drew ?_ | refine blk_alloc ?_ _)); exact BK182.out⟩
 have n2_ : Aside0 (Below w.heap.size w ((w32.setCell ⟨gb182, 0, none⟩ (.int .i16 ((rd_T47 l1 x9_1).f0))).setCell ⟨gb182, 1, none⟩ (.int .i8 ((rd_T47 l1 x9_1).f1)))) := ⟨by repeat (first | (with_reducible first | exact HB.out | apply below_alloc | apply pw_below_drewN | apply below_drew1 | refine below_set ?_ GE179.out | refine below_set ?_ GE182.out) | exact HB.out)⟩
 (try clear BK179)
 (try clear BK182)
 (try clear HB)
 generalize ((w32.setCell ⟨gb182, 0, none⟩ (.int .i16 ((rd_T47 l1 x9_1).f0))).setCell ⟨gb182, 1, none⟩ (.int .i8 ((rd_T47 l1 x9_1).f1))) = w35 at n0_ n1_ n2_ ⊢
 have BK179 := n0_
 have BK182 := n1_
 have HB := n2_
 clear n0_ n1_ n2_
 have n0_ := ak (blk_drew BK179.out)
 have n1_ := ak (blk_drew BK182.out)
 have n2_ := ak (below_drew1 HB.out)
 clear BK179 BK182 HB
 have BK179 := n0_
 have BK182 := n1_
 have HB := n2_
 clear n0_ n1_ n2_
 have p184 : 0 ≤ ((ji10) : Int) := of_decide_eq_true (by first | (with_reducible assumption) | assumption)
 have q184 : (ji10) < (l1.length : Int) := of_decide_eq_true (by first | (with_reducible assumption) | assumption)
 obtain ⟨ad184, e184, hx184_0, hx184_1⟩ := at_T47 HR1.out (ji10) p184 q184
 have hw184_1 := hx184_1
 have hw184_0 := hx184_0
 obtain rfl : ad181 = ad184 := (by injection e184)
 replace hx184_0 := (HB.out.cell (World.block_lt_of_cell? w _ hx184_0)).trans hx184_0
 replace hx184_1 := (HB.out.cell (World.block_lt_of_cell? w _ hx184_1)).trans hx184_1
 replace p184 := eq_true p184
 replace q184 := eq_true q184
 refine start_ (n := 26) (S := fun w' => w'.cell? ⟨gb179, 0, none⟩ = some (.int .i16 a0_0) ∧ w'.cell? ⟨gb179, 1, none⟩ = some (.slice A0_1 l0_1.length c0_1) ∧ w'.cell? ⟨gb182, 0, none⟩ = some (.int .i16 ((rd_T47 l1 x9_1).f0)) ∧ w'.cell? ⟨gb182, 1, none⟩ = some (.int .i8 ((rd_T47 l1 x9_1).f1)) ∧ w'.cell? (ad181.add (((ji10)).toNat * 2)) = some (.int .i16 ((rd_T47 l1 (ji10)).f0)) ∧ w'.cell? ⟨(ad181.add (((ji10)).toNat * 2)).block, (ad181.add (((ji10)).toNat * 2)).off + 1, none⟩ = some (.int .i8 ((rd_T47 l1 (ji10)).f1))) (ds := []) (bA 26 0) (by kernel_rfl) rfl rfl ⟨(blk_cell BK179.out 0).trans rfl, (blk_cell BK179.out 1).trans rfl, (blk_cell BK182.out 0).trans rfl, (blk_cell BK182.out 1).trans rfl, ((HB.out.cell (World.block_lt_of_cell? w _ hw184_0)).trans hw184_0), ((HB.out.cell (World.block_lt_of_cell? w _ hw184_1)).trans hw184_1)⟩ (fun hHeld => ?_); refine with_tabW impl_ValidHolds.tab4 impl_ValidHolds.bits4 (fun HT_ HW_ => ?_)
 generalize w35.drew = w36 at BK179 BK182 HB hx184_0 hx184_1 hHeld ⊢
 refine take_ (i := 0) (N := some 14) (v := ?_) (a' := ?_) (bA 26 1) rfl rfl (take_ofW HT_.out HW_.out (by kernel_rfl)) (fun _ _ _ h => h) (Or.inl ⟨by rfl, ?_⟩) hHeld ?_ ?_
 rotate_left
 {
 rintro w' ⟨s0, s1, s2, s3, s4, s5⟩
 go_simp
 with_reducible rfl
 }
 rotate_left
 · exact pt_
 refine take_ (i := 1) (N := some 15) (v := ?_) (a' := ?_) (bA 26 3) rfl rfl (take_ofW HT_.out HW_.out (by kernel_rfl)) (fun _ _ _ h => h) (Or.inl ⟨by rfl, ?_⟩) hHeld ?_ ?_
 rotate_left
 {
 rintro w' ⟨s0, s1, s2, s3, s4, s5⟩
 go_simp
 with_reducible rfl
 }
 rotate_left
 · exact pt_
 refine one_ (i := 2) (N := some 16) (bA 26 7) rfl rfl (one_of HT_.out (by kernel_rfl)) (by decide) (fun K hK => ?_)
 refine goes_ Try.func39 (by kernel_rfl) rfl #[.agg #[.int .i16 a0_0, .slice A0_1 l0_1.length c0_1], .agg #[.int .i16 ((rd_T47 l1 x9_1).f0), .int .i8 ((rd_T47 l1 x9_1).f1)]] (by rfl) rfl rfl gl_ ?_
 with_reducible refine (impl_Rope_isHold.calls a0_0 _ _ l0_1 ((rd_T47 l1 x9_1).f0) ((rd_T47 l1 x9_1).f1) true _ ?side1 ?side2 A7.out).mono ?_
 (case side1 => repeat (first | exact (Kd.C_below HR0_1.out HB.out) | (with_reducible refine Kd.C_alloc ?_ _) | (with_reducible refine Kd.C_drewN ?_ _) | (with_reducible refine Kd.C_drew ?_)))
 (case side2 => exact HC0_1.out)
 rintro e w37 ⟨rfl, hb⟩
 refine ⟨_, rfl, ?_⟩
 have n0_ := ak (blk_below (g := gb179) (o := .cells #[.int .i16 a0_0, .slice A0_1 l0_1.length c0_1] 27 (0, 0)) (zK BK179.out) hb)
 have n1_ := ak (blk_below (g := gb182) (o := .cells #[.int .i16 ((rd_T47 l1 x9_1).f0), .int .i8 ((rd_T47 l1 x9_1).f1)] 47 (0, 0)) (zK BK182.out) hb)
 have n2_ := ak (below_step (by repeat (first | (with_reducible first | exact HB.out | apply below_alloc | apply pw_below_drewN | apply below_drew1 | refine below_set ?_ GE179.out | refine below_set ?_ GE182.out) | exact HB.out)) hb)
 clear BK179 BK182 HB
 have BK179 := n0_
 have BK182 := n1_
 have HB := n2_
 clear n0_ n1_ n2_
 (try clear hb)
 (try clear hb2)
 (try clear hk)
 (try clear hi)
 have q38 : (x9_1 : Int) ≤ ((l1.length : Int) : Int) := of_decide_eq_true (by first | (with_reducible assumption) | assumption)
 obtain ⟨i038, hi038, _, hsz38, _⟩ := info_parts info47
 have hroom38 : l1.length ≤ c1 := HC1.out
 have hC38 : Kd.C k47 _ (some ad181) l1.length l1 := HR1.out
 have hcut38 := cut_to (P := Try.prog) 29 47 .i64 Try.underlying29 hi038 (some ad181) l1.length c1 x9_1 (of_decide_eq_true (by first | (with_reducible assumption) | assumption)) q38 hroom38
 have hr38 := Kd.C_take (m := (x9_1 : Int).toNat) hC38 (by omega)
 have hy38 : y185.length = (x9_1 : Int).toNat := (by rw [Ny185.out, List.length_take]; omega)
 rw [← Ny185.out] at hr38
 rw [← hy38] at hcut38
 have HR188 := ak hr38
 have HC188 := ak (show y185.length ≤ c1 from by omega)
 clear hr38 hC38 hroom38 hi038 hsz38
 have KY38 := ak hy38
 clear hy38
 replace q38 := eq_true q38
 refine hK.out _ _ ⟨(blk_cell BK179.out 0).trans rfl, (blk_cell BK179.out 1).trans rfl, (blk_cell BK182.out 0).trans rfl, (blk_cell BK182.out 1).trans rfl, ((HB.out.cell (World.block_lt_of_cell? w _ hw184_0)).trans hw184_0), ((HB.out.cell (World.block_lt_of_cell? w _ hw184_1)).trans hw184_1)⟩ (fun hHeld => ?_)
 clear hK K
 refine norm_ (a' := ?_) ?_ ?_
 rotate_left
 {
 show Act.put _ (some 16) _ = _
 simp only [Act.put, zs, zz, zk, i64_w, i32_w]
 rfl
 }
 refine pure_ (i := 3) (N := some 17) (v := ?_) (a' := ?_) (bA 26 15) rfl rfl (any_of HT_.out (by kernel_rfl)) (fun _ _ _ h => h) (Or.inl ⟨by rfl, ?_⟩) ?_ ?_
 rotate_left
 {
 intro w'
 go_simp
 with_reducible rfl
 }
 rotate_left
 · exact pt_
 refine pure_ (i := 4) (N := some 18) (v := ?_) (a' := ?_) (bA 26 31) rfl rfl (any_of HT_.out (by kernel_rfl)) (fun _ _ _ h => h) (Or.inl ⟨by rfl, ?_⟩) ?_ ?_
 rotate_left
 {
 intro w'
 go_simp
 with_reducible rfl
 }
 rotate_left
 · exact pt_
 refine pure_ (i := 5) (N := some 19) (v := ?_) (a' := ?_) (bA 26 63) rfl rfl (any_of HT_.out (by kernel_rfl)) (fun _ _ _ h => h) (Or.inl ⟨by rfl, ?_⟩) ?_ ?_
 rotate_left
 {
 intro w'
 go_simp
 with_reducible rfl
 }
 rotate_left
 · exact pt_
 refine pure_ (i := 6) (N := some 20) (v := ?_) (a' := ?_) (bA 26 127) rfl rfl (any_of HT_.out (by kernel_rfl)) (fun _ _ _ h => h) (Or.inl ⟨by rfl, ?_⟩) ?_ ?_
 rotate_left
 {
 intro w'
 go_simp
 with_reducible rfl
 }
 rotate_left
 · exact pt_
 refine pure_ (i := 7) (N := some 21) (v := ?_) (a' := ?_) (bA 26 255) rfl rfl (any_of HT_.out (by kernel_rfl)) (fun _ _ _ h => h) (Or.inl ⟨by rfl, ?_⟩) ?_ ?_
 rotate_left
 {
 intro w'
 go_simp
 with_reducible rfl
 }
 rotate_left
 · exact pt_
 refine pure_ (i := 8) (N := some 22) (v := ?_) (a' := ?_) (bA 26 511) rfl rfl (any_of HT_.out (by kernel_rfl)) (fun _ _ _ h => h) (Or.inl ⟨by rfl, ?_⟩) ?_ ?_
 rotate_left
 {
 intro w'
 go_simp
 with_reducible rfl
 }
 rotate_left
 · exact pt_
 refine pure_ (i := 10) (N := some 24) (v := ?_) (a' := ?_) (bA 26 1535) rfl rfl (any_of HT_.out (by kernel_rfl)) (fun _ _ _ h => h) (Or.inl ⟨by rfl, ?_⟩) ?_ ?_
 rotate_left
 {
 intro w'
 go_simp
 with_reducible rfl
 }
 rotate_left
 · exact pt_
 refine pure_ (i := 11) (N := some 25) (v := ?_) (a' := ?_) (bA 26 3583) rfl rfl (any_of HT_.out (by kernel_rfl)) (fun _ _ _ h => h) (Or.inl ⟨by rfl, ?_⟩) ?_ ?_
 rotate_left
 {
 intro w'
 go_simp
 with_reducible rfl
 }
 rotate_left
 · exact pt_
 refine pure_ (i := 12) (N := some 26) (v := ?_) (a' := ?_) (bA 26 7679) rfl rfl (any_of HT_.out (by kernel_rfl)) (fun _ _ _ h => h) (Or.inl ⟨by rfl, ?_⟩) ?_ ?_
 rotate_left
 {
 intro w'
 go_simp
 with_reducible rfl
 }
 rotate_left
 · exact pt_
 refine pure_ (i := 13) (N := some 27) (v := ?_) (a' := ?_) (bA 26 15871) rfl rfl (any_of HT_.out (by kernel_rfl)) (fun _ _ _ h => h) (Or.inl ⟨by rfl, ?_⟩) ?_ ?_
 rotate_left
 {
 intro w'
 go_simp
 with_reducible rfl
 }
 rotate_left
 · exact pt_
 refine pure_ (i := 14) (N := some 28) (v := ?_) (a' := ?_) (bA 26 32255) rfl rfl (any_of HT_.out (by kernel_rfl)) (fun _ _ _ h => h) (Or.inl ⟨by rfl, ?_⟩) ?_ ?_
 rotate_left
 {
 intro w'
 go_simp
 with_reducible rfl
 }
 rotate_left
 · exact pt_
 refine take_ (i := 9) (N := some 23) (v := ?_) (a' := ?_) (bA 26 32767) rfl rfl (take_ofW HT_.out HW_.out (by kernel_rfl)) (fun _ _ _ h => h) (Or.inl ⟨by rfl, ?_⟩) hHeld ?_ ?_
 rotate_left
 {
 rintro w' ⟨s0, s1, s2, s3, s4, s5⟩
 go_simp
 with_reducible rfl
 }
 rotate_left
 · exact pt_
 refine take_ (i := 15) (N := some 29) (v := ?_) (a' := ?_) (bA 26 65535) rfl rfl (take_ofW HT_.out HW_.out (by kernel_rfl)) (fun _ _ _ h => h) (Or.inl ⟨by rfl, ?_⟩) hHeld ?_ ?_
 rotate_left
 {
 rintro w' ⟨s0, s1, s2, s3, s4, s5⟩
 go_simp
 with_reducible rfl
 }
 rotate_left
 · exact pt_
 refine pure_ (i := 16) (N := some 30) (v := ?_) (a' := ?_) (bA 26 131071) rfl rfl (any_of HT_.out (by kernel_rfl)) (fun _ _ _ h => h) (Or.inl ⟨by rfl, ?_⟩) ?_ ?_
 rotate_left
 {
 intro w'
 go_simp
 with_reducible rfl
 }
 rotate_left
 · exact pt_
 refine pure_ (i := 17) (N := some 31) (v := ?_) (a' := ?_) (bA 26 262143) rfl rfl (any_of HT_.out (by kernel_rfl)) (fun _ _ _ h => h) (Or.inl ⟨by rfl, ?_⟩) ?_ ?_
 rotate_left
 {
 intro w'
 go_simp
 with_reducible rfl
 }
 rotate_left
 · exact pt_
 refine pure_ (i := 18) (N := some 32) (v := ?_) (a' := ?_) (bA 26 524287) rfl rfl (any_of HT_.out (by kernel_rfl)) (fun _ _ _ h => h) (Or.inl ⟨by rfl, ?_⟩) ?_ ?_
 rotate_left
 {
 intro w'
 go_simp
 with_reducible rfl
 }
 rotate_left
 · exact pt_
 refine pure_ (i := 19) (N := some 33) (v := ?_) (a' := ?_) (bA 26 1048575) rfl rfl (any_of HT_.out (by kernel_rfl)) (fun _ _ _ h => h) (Or.inl ⟨by rfl, ?_⟩) ?_ ?_
 rotate_left
 {
 intro w'
 go_simp
 with_reducible rfl
 }
 rotate_left
 · exact pt_
 refine pure_ (i := 20) (N := some 34) (v := ?_) (a' := ?_) (bA 26 2097151) rfl rfl (any_of HT_.out (by kernel_rfl)) (fun _ _ _ h => h) (Or.inl ⟨by rfl, ?_⟩) ?_ ?_
 rotate_left
 {
 intro w'
 go_simp
 with_reducible rfl
 }
 rotate_left
 · exact pt_
 refine pure_ (i := 21) (N := some 35) (v := ?_) (a' := ?_) (bA 26 4194303) rfl rfl (any_of HT_.out (by kernel_rfl)) (fun _ _ _ h => h) (Or.inl ⟨by rfl, ?_⟩) ?_ ?_
 rotate_left
 {
 intro w'
 go_simp
 with_reducible rfl
 }
 rotate_left
 · exact pt_
 refine pure_ (i := 22) (N := some 36) (v := ?_) (a' := ?_) (bA 26 8388607) rfl rfl (any_of HT_.out (by kernel_rfl)) (fun _ _ _ h => h) (Or.inl ⟨by rfl, ?_⟩) ?_ ?_
 rotate_left
 {
 intro w'
 go_simp
 with_reducible rfl
 }
 rotate_left
 · exact pt_
 refine pure_ (i := 23) (N := some 37) (v := ?_) (a' := ?_) (bA 26 16777215) rfl rfl (any_of HT_.out (by kernel_rfl)) (fun _ _ _ h => h) (Or.inl ⟨by rfl, ?_⟩) ?_ ?_
 rotate_left
 {
 intro w'
 go_simp
 with_reducible rfl
 }
 rotate_left
 · exact pt_
 refine one_ (i := 24) (N := some 38) (bA 26 33554431) rfl rfl (one_of HT_.out (by kernel_rfl)) (by decide) (fun K hK => ?_)
 refine goes_ Try.func40 (by kernel_rfl) rfl #[.slice (some ad181) y185.length c1, .func (.func 41) #[] #[.pointer (some ⟨gb182, 0, none⟩)]] (by rfl) rfl rfl gl_ ?_
 with_reducible refine (slices_ContainsFunc_Hold_at_ValidHolds_1.calls k1 _ _ y185 gb182 ((rd_T47 l1 x9_1).f0) ((rd_T47 l1 x9_1).f1) false _ ?side1 ?side2 ?side3 A22.out).mono ?_
 (case side1 => repeat (first | exact (Kd.C_below HR188.out HB.out) | (with_reducible refine Kd.C_alloc ?_ _) | (with_reducible refine Kd.C_drewN ?_ _) | (with_reducible refine Kd.C_drew ?_)))
 (case side2 => exact HC188.out)
 (case side3 => exact (by first | exact BK182.out | ((with_reducible repeat (first | refine blk_drewN ?_ _ | refine blk_drew ?_ | refine blk_alloc ?_ _)); exact BK182.out)))
 rintro e w39 ⟨rfl, hb⟩
 refine ⟨_, rfl, ?_⟩
 have n0_ := ak (blk_below (g := gb179) (o := .cells #[.int .i16 a0_0, .slice A0_1 l0_1.length c0_1] 27 (0, 0)) (zK BK179.out) hb)
 have n1_ := ak (blk_below (g := gb182) (o := .cells #[.int .i16 ((rd_T47 l1 x9_1).f0), .int .i8 ((rd_T47 l1 x9_1).f1)] 47 (0, 0)) (zK BK182.out) hb)
 have n2_ := ak (below_step (by repeat (first | (with_reducible first | exact HB.out | apply below_alloc | apply pw_below_drewN | apply below_drew1 | refine below_set ?_ GE179.out | refine below_set ?_ GE182.out) | exact HB.out)) hb)
 clear BK179 BK182 HB
 have BK179 := n0_
 have BK182 := n1_
 have HB := n2_
 clear n0_ n1_ n2_
 (try clear hb)
 (try clear hb2)
 (try clear hk)
 (try clear hi)
 refine hK.out _ _ ⟨(blk_cell BK179.out 0).trans rfl, (blk_cell BK179.out 1).trans rfl, (blk_cell BK182.out 0).trans rfl, (blk_cell BK182.out 1).trans rfl, ((HB.out.cell (World.block_lt_of_cell? w _ hw184_0)).trans hw184_0), ((HB.out.cell (World.block_lt_of_cell? w _ hw184_1)).trans hw184_1)⟩ (fun hHeld => ?_)
 clear hK K
 refine norm_ (a' := ?_) ?_ ?_
 rotate_left
 {
 show Act.put _ (some 38) _ = _
 simp only [Act.put, zs, zz, zk, i64_w, i32_w]
 rfl
 }
 refine pure_ (i := 25) (N := some 39) (v := ?_) (a' := ?_) (bA 26 67108863) rfl rfl (any_of HT_.out (by kernel_rfl)) (fun _ _ _ h => h) (Or.inl ⟨by rfl, ?_⟩) ?_ ?_
 rotate_left
 {
 intro w'
 go_simp
 with_reducible rfl
 }
 rotate_left
 · exact pt_
 refine done_ (done_of HT_.out (by kernel_rfl)) ?_
 try go_wp2
 go_roundg k1
 case measure => have := HK1.out; omega
 case rel => exact ⟨(wrap64 (x9_1 + 1)), (by first | rfl | (simp; done) | (simp [*]; done)), H', ⟨by have := HK1.out; omega⟩, ⟨(zK BK179.out)⟩, ⟨by repeat (first | (with_reducible first | exact HB.out | apply below_alloc | apply pw_below_drewN | apply below_drew1 | refine below_set ?_ GE179.out | refine below_set ?_ GE182.out) | exact HB.out)⟩⟩
 )
 }
 }
 · rw [if_neg c21] at H; exact absurd H (by simp)
 }
 }
 · rw [if_neg c12] at H; exact absurd H (by simp)
 }
 · rw [if_neg c11] at H; exact absurd H (by simp)
 }
 {
 rw [if_neg c9] at H
 have c9b0 : decide (0 < x9_1) = false := decide_eq_false c9
 clear c9
 have c40b0 := eq_true (of_decide_eq_true (by first | (with_reducible assumption) | assumption) : 0 ≤ x9_1)
 by_cases c41 : x9_1 ≤ (l1.length : Int)
 {
 rw [if_pos c41] at H
 have c41b0 := eq_true c41
 have c41b1 : decide (x9_1 ≤ (l1.length : Int)) = true := decide_eq_true c41
 clear c41
 obtain ⟨y190, hy190⟩ : ∃ y_ : List (S47), y_ = (l1.take (x9_1 : Int).toNat) := ⟨_, rfl⟩
 replace H : ((slices_ContainsFunc_Hold_at_ValidHolds_1.f k1 y190 ((rd_T47 l1 x9_1).f0) ((rd_T47 l1 x9_1).f1)).bind fun t194 => (if t194 = true then (some false) else (impl_ValidHolds.l0 k1 l1 l1 (l1.length : Int) (wrap64 (x9_1 + 1)) a0_0 l0_1))) = some r := by first | (rw [hy190]; with_reducible exact H) | (have H2_ := (Option.bind_some _ _).symm.trans H; rw [hy190]; with_reducible exact H2_) | (have H2_ := (Option.bind_some _ _).symm.trans H; with_reducible exact H2_) | with_reducible exact H | (rw [hy190]; exact H) | exact H
 have Ny190 := ak hy190
 clear hy190
 replace H := Option.bind_eq_some_iff.mp H
 obtain ⟨t194, A420, H⟩ := H
 replace H : (if t194 = true then (some false) else (impl_ValidHolds.l0 k1 l1 l1 (l1.length : Int) (wrap64 (x9_1 + 1)) a0_0 l0_1)) = some r := H
 have A42 := ak A420
 clear A420
 by_cases c43 : t194 = true
 {
 subst c43
 have H1 : (some false) = some r := by rw [if_pos rfl] at H; exact H
 clear H
 have H := H1
 clear H1
 as_aux_lemma => (
 obtain rfl := Option.some.inj H
 have p181 : 0 ≤ (x9_1 : Int) := of_decide_eq_true (by first | (with_reducible assumption) | assumption)
 have q181 : x9_1 < (l1.length : Int) := of_decide_eq_true (by first | (with_reducible assumption) | assumption)
 obtain ⟨ad181, e181, hx181_0, hx181_1⟩ := at_T47 HR1.out x9_1 p181 q181
 cases e181
 replace hx181_0 := (HB.out.cell (World.block_lt_of_cell? w _ hx181_0)).trans hx181_0
 replace hx181_1 := (HB.out.cell (World.block_lt_of_cell? w _ hx181_1)).trans hx181_1
 replace p181 := eq_true p181
 replace q181 := eq_true q181
 try go_wp2_with (first | ((with_reducible refine gate_dst (N := 6) rfl ?_); refine box_event ?hg (N := 6) ?hd (cs := #[.int .i16 0, .int .i8 0]) (t := 47) ?hr ?_; (case hd => rfl); (case hg => rfl); (case hr => first | (go_simp; done) | (go_simp; rfl)); intro gb182 hg w44 hbox hb; have n0_ := ak (blk_below (g := gb179) (o := .cells #[.int .i16 a0_0, .slice A0_1 l0_1.length c0_1] 27 (0, 0)) (zK BK179.out) hb); have n1_ := ak (below_step (zBG HB.out GE179.out) hb); have n2_ := ak (hbox); have n3_ := ak ((by rw [hg]; exact (below_size (zBG HB.out GE179.out)) : w.heap.size ≤ gb182)); have n4_ := ak ((by rw [hg]; exact (below_size (zBG HB.out GE179.out)) : w.heap.size ≤ gb182)); have n5_ := ak ((by rw [hg]; exact Nat.ne_of_lt (blk_lt (g := gb179) (o := .cells #[.int .i16 a0_0, .slice A0_1 l0_1.length c0_1] 27 (0, 0)) (zK BK179.out)) : gb179 ≠ gb182)); have n6_ := ak ((by rw [hg]; exact Nat.ne_of_gt (blk_lt (g := gb179) (o := .cells #[.int .i16 a0_0, .slice A0_1 l0_1.length c0_1] 27 (0, 0)) (zK BK179.out)) : gb182 ≠ gb179)); clear BK179 HB; have BK179 := n0_; have HB := n1_; have BK182 := n2_; have GW182 := n3_; have GE182 := n4_; have NB179_182 := n5_; have NB182_179 := n6_; clear n0_ n1_ n2_ n3_ n4_ n5_ n6_; clear hb hbox hg; have hnb45 := NB182_179.out; have hnc45 := NB179_182.out; have hcz46_0 : w44.cell? ⟨gb182, 0, none⟩ = some (.int .i16 0) := (blk_cell BK182.out 0).trans rfl; have hcz46_1 : w44.cell? ⟨gb182, 1, none⟩ = some (.int .i8 0) := (blk_cell BK182.out 1).trans rfl; have hfz46_0 := blk_frozen BK182.out 0; have hfz46_1 := blk_frozen BK182.out 1))
 have n0_ : Aside0 (((w44.setCell ⟨gb182, 0, none⟩ (.int .i16 ((rd_T47 l1 x9_1).f0))).setCell ⟨gb182, 1, none⟩ (.int .i8 ((rd_T47 l1 x9_1).f1))).heap[gb179]? = some (.cells #[.int .i16 a0_0, .slice A0_1 l0_1.length c0_1] 27 (0, 0))) := ⟨by (with_reducible repeat (first | refine blk_drewN ?_ _ | refine blk_drew ?_ | refine blk_alloc ?_ _)); refine blk_far ?_ NB179_182.out _; (with_reducible repeat (first | refine blk_drewN ?_ _ | refine blk_drew ?_ | refine blk_alloc ?_ _)); refine blk_far ?_ NB179_182.out _; (with_reducible repeat (first | refine blk_drewN ?_ _ | refine blk_drew ?_ | refine blk_alloc ?_ _)); exact BK179.out⟩
 have n1_ : Aside0 (((w44.setCell ⟨gb182, 0, none⟩ (.int .i16 ((rd_T47 l1 x9_1).f0))).setCell ⟨gb182, 1, none⟩ (.int .i8 ((rd_T47 l1 x9_1).f1))).heap[gb182]? = some (.cells #[.int .i16 ((rd_T47 l1 x9_1).f0), .int .i8 ((rd_T47 l1 x9_1).f1)] 47 (0, 0))) := ⟨by (with_reducible repeat (first | refine blk_drewN ?_ _ | refine blk_drew ?_ | refine blk_alloc ?_ _)); refine blk_put (cs := #[.int .i16 ((rd_T47 l1 x9_1).f0), .int .i8 0]) ?_ 1 _ rfl; (with_reducible repeat (first | refine blk_drewN ?_ _ | refine blk_drew ?_ | refine blk_alloc ?_ _)); refine blk_put (cs := #[.int .i16 0, .int .i8 0]) ?_ 0 _ rfl; (with_reducible repeat (first | refine blk_drewN ?_ _ | refine blk_drew ?_ | refine blk_alloc ?_ _)); exact BK182.out⟩
 have n2_ : Aside0 (Below w.heap.size w ((w44.setCell ⟨gb182, 0, none⟩ (.int .i16 ((rd_T47 l1 x9_1).f0))).setCell ⟨gb182, 1, none⟩ (.int .i8 ((rd_T47 l1 x9_1).f1)))) := ⟨by repeat (first | (with_reducible first | exact HB.out | apply below_alloc | apply pw_below_drewN | apply below_drew1 | refine below_set ?_ GE179.out | refine below_set ?_ GE182.out) | exact HB.out)⟩
 (try clear BK179)
 (try clear BK182)
 (try clear HB)
 generalize ((w44.setCell ⟨gb182, 0, none⟩ (.int .i16 ((rd_T47 l1 x9_1).f0))).setCell ⟨gb182, 1, none⟩ (.int .i8 ((rd_T47 l1 x9_1).f1))) = w47 at n0_ n1_ n2_ ⊢
 have BK179 := n0_
 have BK182 := n1_
 have HB := n2_
 clear n0_ n1_ n2_
 have n0_ := ak (blk_drew BK179.out)
 have n1_ := ak (blk_drew BK182.out)
 have n2_ := ak (below_drew1 HB.out)
 clear BK179 BK182 HB
 have BK179 := n0_
 have BK182 := n1_
 have HB := n2_
 clear n0_ n1_ n2_
 refine start_ (n := 26) (S := fun w' => w'.cell? ⟨gb179, 0, none⟩ = some (.int .i16 a0_0) ∧ w'.cell? ⟨gb179, 1, none⟩ = some (.slice A0_1 l0_1.length c0_1) ∧ w'.cell? ⟨gb182, 0, none⟩ = some (.int .i16 ((rd_T47 l1 x9_1).f0)) ∧ w'.cell? ⟨gb182, 1, none⟩ = some (.int .i8 ((rd_T47 l1 x9_1).f1))) (ds := []) (bA 26 0) (by kernel_rfl) rfl rfl ⟨(blk_cell BK179.out 0).trans rfl, (blk_cell BK179.out 1).trans rfl, (blk_cell BK182.out 0).trans rfl, (blk_cell BK182.out 1).trans rfl⟩ (fun hHeld => ?_); refine with_tabW impl_ValidHolds.tab4 impl_ValidHolds.bits4 (fun HT_ HW_ => ?_)
 generalize w47.drew = w48 at BK179 BK182 HB hHeld ⊢
 refine take_ (i := 0) (N := some 14) (v := ?_) (a' := ?_) (bA 26 1) rfl rfl (take_ofW HT_.out HW_.out (by kernel_rfl)) (fun _ _ _ h => h) (Or.inl ⟨by rfl, ?_⟩) hHeld ?_ ?_
 rotate_left
 {
 rintro w' ⟨s0, s1, s2, s3⟩
 go_simp
 with_reducible rfl
 }
 rotate_left
 · exact pt_
 refine take_ (i := 1) (N := some 15) (v := ?_) (a' := ?_) (bA 26 3) rfl rfl (take_ofW HT_.out HW_.out (by kernel_rfl)) (fun _ _ _ h => h) (Or.inl ⟨by rfl, ?_⟩) hHeld ?_ ?_
 rotate_left
 {
 rintro w' ⟨s0, s1, s2, s3⟩
 go_simp
 with_reducible rfl
 }
 rotate_left
 · exact pt_
 refine one_ (i := 2) (N := some 16) (bA 26 7) rfl rfl (one_of HT_.out (by kernel_rfl)) (by decide) (fun K hK => ?_)
 refine goes_ Try.func39 (by kernel_rfl) rfl #[.agg #[.int .i16 a0_0, .slice A0_1 l0_1.length c0_1], .agg #[.int .i16 ((rd_T47 l1 x9_1).f0), .int .i8 ((rd_T47 l1 x9_1).f1)]] (by rfl) rfl rfl gl_ ?_
 with_reducible refine (impl_Rope_isHold.calls a0_0 _ _ l0_1 ((rd_T47 l1 x9_1).f0) ((rd_T47 l1 x9_1).f1) true _ ?side1 ?side2 A7.out).mono ?_
 (case side1 => repeat (first | exact (Kd.C_below HR0_1.out HB.out) | (with_reducible refine Kd.C_alloc ?_ _) | (with_reducible refine Kd.C_drewN ?_ _) | (with_reducible refine Kd.C_drew ?_)))
 (case side2 => exact HC0_1.out)
 rintro e w49 ⟨rfl, hb⟩
 refine ⟨_, rfl, ?_⟩
 have n0_ := ak (blk_below (g := gb179) (o := .cells #[.int .i16 a0_0, .slice A0_1 l0_1.length c0_1] 27 (0, 0)) (zK BK179.out) hb)
 have n1_ := ak (blk_below (g := gb182) (o := .cells #[.int .i16 ((rd_T47 l1 x9_1).f0), .int .i8 ((rd_T47 l1 x9_1).f1)] 47 (0, 0)) (zK BK182.out) hb)
 have n2_ := ak (below_step (by repeat (first | (with_reducible first | exact HB.out | apply below_alloc | apply pw_below_drewN | apply below_drew1 | refine below_set ?_ GE179.out | refine below_set ?_ GE182.out) | exact HB.out)) hb)
 clear BK179 BK182 HB
 have BK179 := n0_
 have BK182 := n1_
 have HB := n2_
 clear n0_ n1_ n2_
 (try clear hb)
 (try clear hb2)
 (try clear hk)
 (try clear hi)
 have q50 : (x9_1 : Int) ≤ ((l1.length : Int) : Int) := of_decide_eq_true (by first | (with_reducible assumption) | assumption)
 obtain ⟨i050, hi050, _, hsz50, _⟩ := info_parts info47
 have hroom50 : l1.length ≤ c1 := HC1.out
 have hC50 : Kd.C k47 _ (some ad181) l1.length l1 := HR1.out
 have hcut50 := cut_to (P := Try.prog) 29 47 .i64 Try.underlying29 hi050 (some ad181) l1.length c1 x9_1 (of_decide_eq_true (by first | (with_reducible assumption) | assumption)) q50 hroom50
 have hr50 := Kd.C_take (m := (x9_1 : Int).toNat) hC50 (by omega)
 have hy50 : y190.length = (x9_1 : Int).toNat := (by rw [Ny190.out, List.length_take]; omega)
 rw [← Ny190.out] at hr50
 rw [← hy50] at hcut50
 have HR193 := ak hr50
 have HC193 := ak (show y190.length ≤ c1 from by omega)
 clear hr50 hC50 hroom50 hi050 hsz50
 have KY50 := ak hy50
 clear hy50
 replace q50 := eq_true q50
 refine hK.out _ _ ⟨(blk_cell BK179.out 0).trans rfl, (blk_cell BK179.out 1).trans rfl, (blk_cell BK182.out 0).trans rfl, (blk_cell BK182.out 1).trans rfl⟩ (fun hHeld => ?_)
 clear hK K
 refine norm_ (a' := ?_) ?_ ?_
 rotate_left
 {
 show Act.put _ (some 16) _ = _
 simp only [Act.put, zs, zz, zk, i64_w, i32_w]
 rfl
 }
 refine pure_ (i := 3) (N := some 17) (v := ?_) (a' := ?_) (bA 26 15) rfl rfl (any_of HT_.out (by kernel_rfl)) (fun _ _ _ h => h) (Or.inl ⟨by rfl, ?_⟩) ?_ ?_
 rotate_left
 {
 intro w'
 go_simp
 with_reducible rfl
 }
 rotate_left
 · exact pt_
 refine pure_ (i := 4) (N := some 18) (v := ?_) (a' := ?_) (bA 26 31) rfl rfl (any_of HT_.out (by kernel_rfl)) (fun _ _ _ h => h) (Or.inl ⟨by rfl, ?_⟩) ?_ ?_
 rotate_left
 {
 intro w'
 go_simp
 with_reducible rfl
 }
 rotate_left
 · exact pt_
 refine pure_ (i := 5) (N := some 19) (v := ?_) (a' := ?_) (bA 26 63) rfl rfl (any_of HT_.out (by kernel_rfl)) (fun _ _ _ h => h) (Or.inl ⟨by rfl, ?_⟩) ?_ ?_
 rotate_left
 {
 intro w'
 go_simp
 with_reducible rfl
 }
 rotate_left
 · exact pt_
 refine pure_ (i := 6) (N := some 20) (v := ?_) (a' := ?_) (bA 26 127) rfl rfl (any_of HT_.out (by kernel_rfl)) (fun _ _ _ h => h) (Or.inl ⟨by rfl, ?_⟩) ?_ ?_
 rotate_left
 {
 intro w'
 go_simp
 with_reducible rfl
 }
 rotate_left
 · exact pt_
 refine pure_ (i := 7) (N := some 21) (v := ?_) (a' := ?_) (bA 26 255) rfl rfl (any_of HT_.out (by kernel_rfl)) (fun _ _ _ h => h) (Or.inl ⟨by rfl, ?_⟩) ?_ ?_
 rotate_left
 {
 intro w'
 go_simp
 with_reducible rfl
 }
 rotate_left
 · exact pt_
 refine pure_ (i := 8) (N := some 22) (v := undef) (a' := ?_) (bA 26 511) rfl rfl (any_of HT_.out (by kernel_rfl)) (fun _ _ _ h => h) (Or.inr ⟨by rfl, rfl⟩) ?_ ?_
 rotate_left
 · exact pt_
 refine pure_ (i := 9) (N := some 23) (v := undef) (a' := ?_) (bA 26 1023) rfl rfl (any_of HT_.out (by kernel_rfl)) (fun _ _ _ h => h) (Or.inr ⟨by rfl, rfl⟩) ?_ ?_
 rotate_left
 · exact pt_
 refine pure_ (i := 10) (N := some 24) (v := undef) (a' := ?_) (bA 26 2047) rfl rfl (any_of HT_.out (by kernel_rfl)) (fun _ _ _ h => h) (Or.inr ⟨by rfl, rfl⟩) ?_ ?_
 rotate_left
 · exact pt_
 refine pure_ (i := 11) (N := some 25) (v := undef) (a' := ?_) (bA 26 4095) rfl rfl (any_of HT_.out (by kernel_rfl)) (fun _ _ _ h => h) (Or.inr ⟨by rfl, rfl⟩) ?_ ?_
 rotate_left
 · exact pt_
 refine pure_ (i := 12) (N := some 26) (v := undef) (a' := ?_) (bA 26 8191) rfl rfl (any_of HT_.out (by kernel_rfl)) (fun _ _ _ h => h) (Or.inr ⟨by rfl, rfl⟩) ?_ ?_
 rotate_left
 · exact pt_
 refine pure_ (i := 13) (N := some 27) (v := undef) (a' := ?_) (bA 26 16383) rfl rfl (any_of HT_.out (by kernel_rfl)) (fun _ _ _ h => h) (Or.inr ⟨by rfl, rfl⟩) ?_ ?_
 rotate_left
 · exact pt_
 refine pure_ (i := 14) (N := some 28) (v := undef) (a' := ?_) (bA 26 32767) rfl rfl (any_of HT_.out (by kernel_rfl)) (fun _ _ _ h => h) (Or.inr ⟨by rfl, rfl⟩) ?_ ?_
 rotate_left
 · exact pt_
 refine pure_ (i := 15) (N := some 29) (v := undef) (a' := ?_) (bA 26 65535) rfl rfl (any_of HT_.out (by kernel_rfl)) (fun _ _ _ h => h) (Or.inr ⟨by rfl, rfl⟩) ?_ ?_
 rotate_left
 · exact pt_
 refine pure_ (i := 16) (N := some 30) (v := undef) (a' := ?_) (bA 26 131071) rfl rfl (any_of HT_.out (by kernel_rfl)) (fun _ _ _ h => h) (Or.inr ⟨by rfl, rfl⟩) ?_ ?_
 rotate_left
 · exact pt_
 refine pure_ (i := 17) (N := some 31) (v := ?_) (a' := ?_) (bA 26 262143) rfl rfl (any_of HT_.out (by kernel_rfl)) (fun _ _ _ h => h) (Or.inl ⟨by rfl, ?_⟩) ?_ ?_
 rotate_left
 {
 intro w'
 go_simp
 with_reducible rfl
 }
 rotate_left
 · exact pt_
 refine pure_ (i := 18) (N := some 32) (v := ?_) (a' := ?_) (bA 26 524287) rfl rfl (any_of HT_.out (by kernel_rfl)) (fun _ _ _ h => h) (Or.inl ⟨by rfl, ?_⟩) ?_ ?_
 rotate_left
 {
 intro w'
 go_simp
 with_reducible rfl
 }
 rotate_left
 · exact pt_
 refine pure_ (i := 19) (N := some 33) (v := ?_) (a' := ?_) (bA 26 1048575) rfl rfl (any_of HT_.out (by kernel_rfl)) (fun _ _ _ h => h) (Or.inl ⟨by rfl, ?_⟩) ?_ ?_
 rotate_left
 {
 intro w'
 go_simp
 with_reducible rfl
 }
 rotate_left
 · exact pt_
 refine pure_ (i := 20) (N := some 34) (v := ?_) (a' := ?_) (bA 26 2097151) rfl rfl (any_of HT_.out (by kernel_rfl)) (fun _ _ _ h => h) (Or.inl ⟨by rfl, ?_⟩) ?_ ?_
 rotate_left
 {
 intro w'
 go_simp
 with_reducible rfl
 }
 rotate_left
 · exact pt_
 refine pure_ (i := 21) (N := some 35) (v := ?_) (a' := ?_) (bA 26 4194303) rfl rfl (any_of HT_.out (by kernel_rfl)) (fun _ _ _ h => h) (Or.inl ⟨by rfl, ?_⟩) ?_ ?_
 rotate_left
 {
 intro w'
 go_simp
 with_reducible rfl
 }
 rotate_left
 · exact pt_
 refine pure_ (i := 22) (N := some 36) (v := ?_) (a' := ?_) (bA 26 8388607) rfl rfl (any_of HT_.out (by kernel_rfl)) (fun _ _ _ h => h) (Or.inl ⟨by rfl, ?_⟩) ?_ ?_
 rotate_left
 {
 intro w'
 go_simp
 with_reducible rfl
 }
 rotate_left
 · exact pt_
 refine pure_ (i := 23) (N := some 37) (v := ?_) (a' := ?_) (bA 26 16777215) rfl rfl (any_of HT_.out (by kernel_rfl)) (fun _ _ _ h => h) (Or.inl ⟨by rfl, ?_⟩) ?_ ?_
 rotate_left
 {
 intro w'
 go_simp
 with_reducible rfl
 }
 rotate_left
 · exact pt_
 refine one_ (i := 24) (N := some 38) (bA 26 33554431) rfl rfl (one_of HT_.out (by kernel_rfl)) (by decide) (fun K hK => ?_)
 refine goes_ Try.func40 (by kernel_rfl) rfl #[.slice (some ad181) y190.length c1, .func (.func 41) #[] #[.pointer (some ⟨gb182, 0, none⟩)]] (by rfl) rfl rfl gl_ ?_
 with_reducible refine (slices_ContainsFunc_Hold_at_ValidHolds_1.calls k1 _ _ y190 gb182 ((rd_T47 l1 x9_1).f0) ((rd_T47 l1 x9_1).f1) true _ ?side1 ?side2 ?side3 A42.out).mono ?_
 (case side1 => repeat (first | exact (Kd.C_below HR193.out HB.out) | (with_reducible refine Kd.C_alloc ?_ _) | (with_reducible refine Kd.C_drewN ?_ _) | (with_reducible refine Kd.C_drew ?_)))
 (case side2 => exact HC193.out)
 (case side3 => exact (by first | exact BK182.out | ((with_reducible repeat (first | refine blk_drewN ?_ _ | refine blk_drew ?_ | refine blk_alloc ?_ _)); exact BK182.out)))
 rintro e w51 ⟨rfl, hb⟩
 refine ⟨_, rfl, ?_⟩
 have n0_ := ak (blk_below (g := gb179) (o := .cells #[.int .i16 a0_0, .slice A0_1 l0_1.length c0_1] 27 (0, 0)) (zK BK179.out) hb)
 have n1_ := ak (blk_below (g := gb182) (o := .cells #[.int .i16 ((rd_T47 l1 x9_1).f0), .int .i8 ((rd_T47 l1 x9_1).f1)] 47 (0, 0)) (zK BK182.out) hb)
 have n2_ := ak (below_step (by repeat (first | (with_reducible first | exact HB.out | apply below_alloc | apply pw_below_drewN | apply below_drew1 | refine below_set ?_ GE179.out | refine below_set ?_ GE182.out) | exact HB.out)) hb)
 clear BK179 BK182 HB
 have BK179 := n0_
 have BK182 := n1_
 have HB := n2_
 clear n0_ n1_ n2_
 (try clear hb)
 (try clear hb2)
 (try clear hk)
 (try clear hi)
 refine hK.out _ _ ⟨(blk_cell BK179.out 0).trans rfl, (blk_cell BK179.out 1).trans rfl, (blk_cell BK182.out 0).trans rfl, (blk_cell BK182.out 1).trans rfl⟩ (fun hHeld => ?_)
 clear hK K
 refine norm_ (a' := ?_) ?_ ?_
 rotate_left
 {
 show Act.put _ (some 38) _ = _
 simp only [Act.put, zs, zz, zk, i64_w, i32_w]
 rfl
 }
 refine pure_ (i := 25) (N := some 39) (v := ?_) (a' := ?_) (bA 26 67108863) rfl rfl (any_of HT_.out (by kernel_rfl)) (fun _ _ _ h => h) (Or.inl ⟨by rfl, ?_⟩) ?_ ?_
 rotate_left
 {
 intro w'
 go_simp
 with_reducible rfl
 }
 rotate_left
 · exact pt_
 refine done_ (done_of HT_.out (by kernel_rfl)) ?_
 try go_wp2
 go_ret
 exact ⟨by first | rfl | (simp [errW_none, errW_some] <;> rfl) | (simp [*, errW_none, errW_some] <;> rfl), by repeat (first | (with_reducible first | exact HB.out | apply below_alloc | apply pw_below_drewN | apply below_drew1 | refine below_set ?_ GE179.out | refine below_set ?_ GE182.out) | exact HB.out)⟩
 )
 }
 {
 replace c43 := Bool.eq_false_iff.mpr c43
 subst c43
 have H1 : (impl_ValidHolds.l0 k1 l1 l1 (l1.length : Int) (wrap64 (x9_1 + 1)) a0_0 l0_1) = some r := by rw [if_neg (show ¬ (false = true) by decide)] at H; exact H
 clear H
 have H := H1
 clear H1
 as_aux_lemma => (
 have H' := ak H
 clear H
 have p181 : 0 ≤ (x9_1 : Int) := of_decide_eq_true (by first | (with_reducible assumption) | assumption)
 have q181 : x9_1 < (l1.length : Int) := of_decide_eq_true (by first | (with_reducible assumption) | assumption)
 obtain ⟨ad181, e181, hx181_0, hx181_1⟩ := at_T47 HR1.out x9_1 p181 q181
 cases e181
 replace hx181_0 := (HB.out.cell (World.block_lt_of_cell? w _ hx181_0)).trans hx181_0
 replace hx181_1 := (HB.out.cell (World.block_lt_of_cell? w _ hx181_1)).trans hx181_1
 replace p181 := eq_true p181
 replace q181 := eq_true q181
 try go_wp2_with (first | ((with_reducible refine gate_dst (N := 6) rfl ?_); refine box_event ?hg (N := 6) ?hd (cs := #[.int .i16 0, .int .i8 0]) (t := 47) ?hr ?_; (case hd => rfl); (case hg => rfl); (case hr => first | (go_simp; done) | (go_simp; rfl)); intro gb182 hg w52 hbox hb; have n0_ := ak (blk_below (g := gb179) (o := .cells #[.int .i16 a0_0, .slice A0_1 l0_1.length c0_1] 27 (0, 0)) (zK BK179.out) hb); have n1_ := ak (below_step (zBG HB.out GE179.out) hb); have n2_ := ak (hbox); have n3_ := ak ((by rw [hg]; exact (below_size (zBG HB.out GE179.out)) : w.heap.size ≤ gb182)); have n4_ := ak ((by rw [hg]; exact (below_size (zBG HB.out GE179.out)) : w.heap.size ≤ gb182)); have n5_ := ak ((by rw [hg]; exact Nat.ne_of_lt (blk_lt (g := gb179) (o := .cells #[.int .i16 a0_0, .slice A0_1 l0_1.length c0_1] 27 (0, 0)) (zK BK179.out)) : gb179 ≠ gb182)); have n6_ := ak ((by rw [hg]; exact Nat.ne_of_gt (blk_lt (g := gb179) (o := .cells #[.int .i16 a0_0, .slice A0_1 l0_1.length c0_1] 27 (0, 0)) (zK BK179.out)) : gb182 ≠ gb179)); clear BK179 HB; have BK179 := n0_; have HB := n1_; have BK182 := n2_; have GW182 := n3_; have GE182 := n4_; have NB179_182 := n5_; have NB182_179 := n6_; clear n0_ n1_ n2_ n3_ n4_ n5_ n6_; clear hb hbox hg; have hnb53 := NB182_179.out; have hnc53 := NB179_182.out; have hcz54_0 : w52.cell? ⟨gb182, 0, none⟩ = some (.int .i16 0) := (blk_cell BK182.out 0).trans rfl; have hcz54_1 : w52.cell? ⟨gb182, 1, none⟩ = some (.int .i8 0) := (blk_cell BK182.out 1).trans rfl; have hfz54_0 := blk_frozen BK182.out 0; have hfz54_1 := blk_frozen BK182.out 1))
 have n0_ : Aside0 (((w52.setCell ⟨gb182, 0, none⟩ (.int .i16 ((rd_T47 l1 x9_1).f0))).setCell ⟨gb182, 1, none⟩ (.int .i8 ((rd_T47 l1 x9_1).f1))).heap[gb179]? = some (.cells #[.int .i16 a0_0, .slice A0_1 l0_1.length c0_1] 27 (0, 0))) := ⟨by (with_reducible repeat (first | refine blk_drewN ?_ _ | refine blk_drew ?_ | refine blk_alloc ?_ _)); refine blk_far ?_ NB179_182.out _; (with_reducible repeat (first | refine blk_drewN ?_ _ | refine blk_drew ?_ | refine blk_alloc ?_ _)); refine blk_far ?_ NB179_182.out _; (with_reducible repeat (first | refine blk_drewN ?_ _ | refine blk_drew ?_ | refine blk_alloc ?_ _)); exact BK179.out⟩
 have n1_ : Aside0 (((w52.setCell ⟨gb182, 0, none⟩ (.int .i16 ((rd_T47 l1 x9_1).f0))).setCell ⟨gb182, 1, none⟩ (.int .i8 ((rd_T47 l1 x9_1).f1))).heap[gb182]? = some (.cells #[.int .i16 ((rd_T47 l1 x9_1).f0), .int .i8 ((rd_T47 l1 x9_1).f1)] 47 (0, 0))) := ⟨by (with_reducible repeat (first | refine blk_drewN ?_ _ | refine blk_drew ?_ | refine blk_alloc ?_ _)); refine blk_put (cs := #[.int .i16 ((rd_T47 l1 x9_1).f0), .int .i8 0]) ?_ 1 _ rfl; (with_reducible repeat (first | refine blk_drewN ?_ _ | refine blk_drew ?_ | refine blk_alloc ?_ _)); refine blk_put (cs := #[.int .i16 0, .int .i8 0]) ?_ 0 _ rfl; (with_reducible repeat (first | refine blk_drewN ?_ _ | refine blk_drew ?_ | refine blk_alloc ?_ _)); exact BK182.out⟩
 have n2_ : Aside0 (Below w.heap.size w ((w52.setCell ⟨gb182, 0, none⟩ (.int .i16 ((rd_T47 l1 x9_1).f0))).setCell ⟨gb182, 1, none⟩ (.int .i8 ((rd_T47 l1 x9_1).f1)))) := ⟨by repeat (first | (with_reducible first | exact HB.out | apply below_alloc | apply pw_below_drewN | apply below_drew1 | refine below_set ?_ GE179.out | refine below_set ?_ GE182.out) | exact HB.out)⟩
 (try clear BK179)
 (try clear BK182)
 (try clear HB)
 generalize ((w52.setCell ⟨gb182, 0, none⟩ (.int .i16 ((rd_T47 l1 x9_1).f0))).setCell ⟨gb182, 1, none⟩ (.int .i8 ((rd_T47 l1 x9_1).f1))) = w55 at n0_ n1_ n2_ ⊢
 have BK179 := n0_
 have BK182 := n1_
 have HB := n2_
 clear n0_ n1_ n2_
 have n0_ := ak (blk_drew BK179.out)
 have n1_ := ak (blk_drew BK182.out)
 have n2_ := ak (below_drew1 HB.out)
 clear BK179 BK182 HB
 have BK179 := n0_
 have BK182 := n1_
 have HB := n2_
 clear n0_ n1_ n2_
 refine start_ (n := 26) (S := fun w' => w'.cell? ⟨gb179, 0, none⟩ = some (.int .i16 a0_0) ∧ w'.cell? ⟨gb179, 1, none⟩ = some (.slice A0_1 l0_1.length c0_1) ∧ w'.cell? ⟨gb182, 0, none⟩ = some (.int .i16 ((rd_T47 l1 x9_1).f0)) ∧ w'.cell? ⟨gb182, 1, none⟩ = some (.int .i8 ((rd_T47 l1 x9_1).f1))) (ds := []) (bA 26 0) (by kernel_rfl) rfl rfl ⟨(blk_cell BK179.out 0).trans rfl, (blk_cell BK179.out 1).trans rfl, (blk_cell BK182.out 0).trans rfl, (blk_cell BK182.out 1).trans rfl⟩ (fun hHeld => ?_); refine with_tabW impl_ValidHolds.tab4 impl_ValidHolds.bits4 (fun HT_ HW_ => ?_)
 generalize w55.drew = w56 at BK179 BK182 HB hHeld ⊢
 refine take_ (i := 0) (N := some 14) (v := ?_) (a' := ?_) (bA 26 1) rfl rfl (take_ofW HT_.out HW_.out (by kernel_rfl)) (fun _ _ _ h => h) (Or.inl ⟨by rfl, ?_⟩) hHeld ?_ ?_
 rotate_left
 {
 rintro w' ⟨s0, s1, s2, s3⟩
 go_simp
 with_reducible rfl
 }
 rotate_left
 · exact pt_
 refine take_ (i := 1) (N := some 15) (v := ?_) (a' := ?_) (bA 26 3) rfl rfl (take_ofW HT_.out HW_.out (by kernel_rfl)) (fun _ _ _ h => h) (Or.inl ⟨by rfl, ?_⟩) hHeld ?_ ?_
 rotate_left
 {
 rintro w' ⟨s0, s1, s2, s3⟩
 go_simp
 with_reducible rfl
 }
 rotate_left
 · exact pt_
 refine one_ (i := 2) (N := some 16) (bA 26 7) rfl rfl (one_of HT_.out (by kernel_rfl)) (by decide) (fun K hK => ?_)
 refine goes_ Try.func39 (by kernel_rfl) rfl #[.agg #[.int .i16 a0_0, .slice A0_1 l0_1.length c0_1], .agg #[.int .i16 ((rd_T47 l1 x9_1).f0), .int .i8 ((rd_T47 l1 x9_1).f1)]] (by rfl) rfl rfl gl_ ?_
 with_reducible refine (impl_Rope_isHold.calls a0_0 _ _ l0_1 ((rd_T47 l1 x9_1).f0) ((rd_T47 l1 x9_1).f1) true _ ?side1 ?side2 A7.out).mono ?_
 (case side1 => repeat (first | exact (Kd.C_below HR0_1.out HB.out) | (with_reducible refine Kd.C_alloc ?_ _) | (with_reducible refine Kd.C_drewN ?_ _) | (with_reducible refine Kd.C_drew ?_)))
 (case side2 => exact HC0_1.out)
 rintro e w57 ⟨rfl, hb⟩
 refine ⟨_, rfl, ?_⟩
 have n0_ := ak (blk_below (g := gb179) (o := .cells #[.int .i16 a0_0, .slice A0_1 l0_1.length c0_1] 27 (0, 0)) (zK BK179.out) hb)
 have n1_ := ak (blk_below (g := gb182) (o := .cells #[.int .i16 ((rd_T47 l1 x9_1).f0), .int .i8 ((rd_T47 l1 x9_1).f1)] 47 (0, 0)) (zK BK182.out) hb)
 have n2_ := ak (below_step (by repeat (first | (with_reducible first | exact HB.out | apply below_alloc | apply pw_below_drewN | apply below_drew1 | refine below_set ?_ GE179.out | refine below_set ?_ GE182.out) | exact HB.out)) hb)
 clear BK179 BK182 HB
 have BK179 := n0_
 have BK182 := n1_
 have HB := n2_
 clear n0_ n1_ n2_
 (try clear hb)
 (try clear hb2)
 (try clear hk)
 (try clear hi)
 have q58 : (x9_1 : Int) ≤ ((l1.length : Int) : Int) := of_decide_eq_true (by first | (with_reducible assumption) | assumption)
 obtain ⟨i058, hi058, _, hsz58, _⟩ := info_parts info47
 have hroom58 : l1.length ≤ c1 := HC1.out
 have hC58 : Kd.C k47 _ (some ad181) l1.length l1 := HR1.out
 have hcut58 := cut_to (P := Try.prog) 29 47 .i64 Try.underlying29 hi058 (some ad181) l1.length c1 x9_1 (of_decide_eq_true (by first | (with_reducible assumption) | assumption)) q58 hroom58
 have hr58 := Kd.C_take (m := (x9_1 : Int).toNat) hC58 (by omega)
 have hy58 : y190.length = (x9_1 : Int).toNat := (by rw [Ny190.out, List.length_take]; omega)
 rw [← Ny190.out] at hr58
 rw [← hy58] at hcut58
 have HR193 := ak hr58
 have HC193 := ak (show y190.length ≤ c1 from by omega)
 clear hr58 hC58 hroom58 hi058 hsz58
 have KY58 := ak hy58
 clear hy58
 replace q58 := eq_true q58
 refine hK.out _ _ ⟨(blk_cell BK179.out 0).trans rfl, (blk_cell BK179.out 1).trans rfl, (blk_cell BK182.out 0).trans rfl, (blk_cell BK182.out 1).trans rfl⟩ (fun hHeld => ?_)
 clear hK K
 refine norm_ (a' := ?_) ?_ ?_
 rotate_left
 {
 show Act.put _ (some 16) _ = _
 simp only [Act.put, zs, zz, zk, i64_w, i32_w]
 rfl
 }
 refine pure_ (i := 3) (N := some 17) (v := ?_) (a' := ?_) (bA 26 15) rfl rfl (any_of HT_.out (by kernel_rfl)) (fun _ _ _ h => h) (Or.inl ⟨by rfl, ?_⟩) ?_ ?_
 rotate_left
 {
 intro w'
 go_simp
 with_reducible rfl
 }
 rotate_left
 · exact pt_
 refine pure_ (i := 4) (N := some 18) (v := ?_) (a' := ?_) (bA 26 31) rfl rfl (any_of HT_.out (by kernel_rfl)) (fun _ _ _ h => h) (Or.inl ⟨by rfl, ?_⟩) ?_ ?_
 rotate_left
 {
 intro w'
 go_simp
 with_reducible rfl
 }
 rotate_left
 · exact pt_
 refine pure_ (i := 5) (N := some 19) (v := ?_) (a' := ?_) (bA 26 63) rfl rfl (any_of HT_.out (by kernel_rfl)) (fun _ _ _ h => h) (Or.inl ⟨by rfl, ?_⟩) ?_ ?_
 rotate_left
 {
 intro w'
 go_simp
 with_reducible rfl
 }
 rotate_left
 · exact pt_
 refine pure_ (i := 6) (N := some 20) (v := ?_) (a' := ?_) (bA 26 127) rfl rfl (any_of HT_.out (by kernel_rfl)) (fun _ _ _ h => h) (Or.inl ⟨by rfl, ?_⟩) ?_ ?_
 rotate_left
 {
 intro w'
 go_simp
 with_reducible rfl
 }
 rotate_left
 · exact pt_
 refine pure_ (i := 7) (N := some 21) (v := ?_) (a' := ?_) (bA 26 255) rfl rfl (any_of HT_.out (by kernel_rfl)) (fun _ _ _ h => h) (Or.inl ⟨by rfl, ?_⟩) ?_ ?_
 rotate_left
 {
 intro w'
 go_simp
 with_reducible rfl
 }
 rotate_left
 · exact pt_
 refine pure_ (i := 8) (N := some 22) (v := undef) (a' := ?_) (bA 26 511) rfl rfl (any_of HT_.out (by kernel_rfl)) (fun _ _ _ h => h) (Or.inr ⟨by rfl, rfl⟩) ?_ ?_
 rotate_left
 · exact pt_
 refine pure_ (i := 9) (N := some 23) (v := undef) (a' := ?_) (bA 26 1023) rfl rfl (any_of HT_.out (by kernel_rfl)) (fun _ _ _ h => h) (Or.inr ⟨by rfl, rfl⟩) ?_ ?_
 rotate_left
 · exact pt_
 refine pure_ (i := 10) (N := some 24) (v := undef) (a' := ?_) (bA 26 2047) rfl rfl (any_of HT_.out (by kernel_rfl)) (fun _ _ _ h => h) (Or.inr ⟨by rfl, rfl⟩) ?_ ?_
 rotate_left
 · exact pt_
 refine pure_ (i := 11) (N := some 25) (v := undef) (a' := ?_) (bA 26 4095) rfl rfl (any_of HT_.out (by kernel_rfl)) (fun _ _ _ h => h) (Or.inr ⟨by rfl, rfl⟩) ?_ ?_
 rotate_left
 · exact pt_
 refine pure_ (i := 12) (N := some 26) (v := undef) (a' := ?_) (bA 26 8191) rfl rfl (any_of HT_.out (by kernel_rfl)) (fun _ _ _ h => h) (Or.inr ⟨by rfl, rfl⟩) ?_ ?_
 rotate_left
 · exact pt_
 refine pure_ (i := 13) (N := some 27) (v := undef) (a' := ?_) (bA 26 16383) rfl rfl (any_of HT_.out (by kernel_rfl)) (fun _ _ _ h => h) (Or.inr ⟨by rfl, rfl⟩) ?_ ?_
 rotate_left
 · exact pt_
 refine pure_ (i := 14) (N := some 28) (v := undef) (a' := ?_) (bA 26 32767) rfl rfl (any_of HT_.out (by kernel_rfl)) (fun _ _ _ h => h) (Or.inr ⟨by rfl, rfl⟩) ?_ ?_
 rotate_left
 · exact pt_
 refine pure_ (i := 15) (N := some 29) (v := undef) (a' := ?_) (bA 26 65535) rfl rfl (any_of HT_.out (by kernel_rfl)) (fun _ _ _ h => h) (Or.inr ⟨by rfl, rfl⟩) ?_ ?_
 rotate_left
 · exact pt_
 refine pure_ (i := 16) (N := some 30) (v := undef) (a' := ?_) (bA 26 131071) rfl rfl (any_of HT_.out (by kernel_rfl)) (fun _ _ _ h => h) (Or.inr ⟨by rfl, rfl⟩) ?_ ?_
 rotate_left
 · exact pt_
 refine pure_ (i := 17) (N := some 31) (v := ?_) (a' := ?_) (bA 26 262143) rfl rfl (any_of HT_.out (by kernel_rfl)) (fun _ _ _ h => h) (Or.inl ⟨by rfl, ?_⟩) ?_ ?_
 rotate_left
 {
 intro w'
 go_simp
 with_reducible rfl
 }
 rotate_left
 · exact pt_
 refine pure_ (i := 18) (N := some 32) (v := ?_) (a' := ?_) (bA 26 524287) rfl rfl (any_of HT_.out (by kernel_rfl)) (fun _ _ _ h => h) (Or.inl ⟨by rfl, ?_⟩) ?_ ?_
 rotate_left
 {
 intro w'
 go_simp
 with_reducible rfl
 }
 rotate_left
 · exact pt_
 refine pure_ (i := 19) (N := some 33) (v := ?_) (a' := ?_) (bA 26 1048575) rfl rfl (any_of HT_.out (by kernel_rfl)) (fun _ _ _ h => h) (Or.inl ⟨by rfl, ?_⟩) ?_ ?_
 rotate_left
 {
 intro w'
 go_simp
 with_reducible rfl
 }
 rotate_left
 · exact pt_
 refine pure_ (i := 20) (N := some 34) (v := ?_) (a' := ?_) (bA 26 2097151) rfl rfl (any_of HT_.out (by kernel_rfl)) (fun _ _ _ h => h) (Or.inl ⟨by rfl, ?_⟩) ?_ ?_
 rotate_left
 {
 intro w'
 go_simp
 with_reducible rfl
 }
 rotate_left
 · exact pt_
 refine pure_ (i := 21) (N := some 35) (v := ?_) (a' := ?_) (bA 26 4194303) rfl rfl (any_of HT_.out (by kernel_rfl)) (fun _ _ _ h => h) (Or.inl ⟨by rfl, ?_⟩) ?_ ?_
 rotate_left
 {
 intro w'
 go_simp
 with_reducible rfl
 }
 rotate_left
 · exact pt_
 refine pure_ (i := 22) (N := some 36) (v := ?_) (a' := ?_) (bA 26 8388607) rfl rfl (any_of HT_.out (by kernel_rfl)) (fun _ _ _ h => h) (Or.inl ⟨by rfl, ?_⟩) ?_ ?_
 rotate_left
 {
 intro w'
 go_simp
 with_reducible rfl
 }
 rotate_left
 · exact pt_
 refine pure_ (i := 23) (N := some 37) (v := ?_) (a' := ?_) (bA 26 16777215) rfl rfl (any_of HT_.out (by kernel_rfl)) (fun _ _ _ h => h) (Or.inl ⟨by rfl, ?_⟩) ?_ ?_
 rotate_left
 {
 intro w'
 go_simp
 with_reducible rfl
 }
 rotate_left
 · exact pt_
 refine one_ (i := 24) (N := some 38) (bA 26 33554431) rfl rfl (one_of HT_.out (by kernel_rfl)) (by decide) (fun K hK => ?_)
 refine goes_ Try.func40 (by kernel_rfl) rfl #[.slice (some ad181) y190.length c1, .func (.func 41) #[] #[.pointer (some ⟨gb182, 0, none⟩)]] (by rfl) rfl rfl gl_ ?_
 with_reducible refine (slices_ContainsFunc_Hold_at_ValidHolds_1.calls k1 _ _ y190 gb182 ((rd_T47 l1 x9_1).f0) ((rd_T47 l1 x9_1).f1) false _ ?side1 ?side2 ?side3 A42.out).mono ?_
 (case side1 => repeat (first | exact (Kd.C_below HR193.out HB.out) | (with_reducible refine Kd.C_alloc ?_ _) | (with_reducible refine Kd.C_drewN ?_ _) | (with_reducible refine Kd.C_drew ?_)))
 (case side2 => exact HC193.out)
 (case side3 => exact (by first | exact BK182.out | ((with_reducible repeat (first | refine blk_drewN ?_ _ | refine blk_drew ?_ | refine blk_alloc ?_ _)); exact BK182.out)))
 rintro e w59 ⟨rfl, hb⟩
 refine ⟨_, rfl, ?_⟩
 have n0_ := ak (blk_below (g := gb179) (o := .cells #[.int .i16 a0_0, .slice A0_1 l0_1.length c0_1] 27 (0, 0)) (zK BK179.out) hb)
 have n1_ := ak (blk_below (g := gb182) (o := .cells #[.int .i16 ((rd_T47 l1 x9_1).f0), .int .i8 ((rd_T47 l1 x9_1).f1)] 47 (0, 0)) (zK BK182.out) hb)
 have n2_ := ak (below_step (by repeat (first | (with_reducible first | exact HB.out | apply below_alloc | apply pw_below_drewN | apply below_drew1 | refine below_set ?_ GE179.out | refine below_set ?_ GE182.out) | exact HB.out)) hb)
 clear BK179 BK182 HB
 have BK179 := n0_
 have BK182 := n1_
 have HB := n2_
 clear n0_ n1_ n2_
 (try clear hb)
 (try clear hb2)
 (try clear hk)
 (try clear hi)
 refine hK.out _ _ ⟨(blk_cell BK179.out 0).trans rfl, (blk_cell BK179.out 1).trans rfl, (blk_cell BK182.out 0).trans rfl, (blk_cell BK182.out 1).trans rfl⟩ (fun hHeld => ?_)
 clear hK K
 refine norm_ (a' := ?_) ?_ ?_
 rotate_left
 {
 show Act.put _ (some 38) _ = _
 simp only [Act.put, zs, zz, zk, i64_w, i32_w]
 rfl
 }
 refine pure_ (i := 25) (N := some 39) (v := ?_) (a' := ?_) (bA 26 67108863) rfl rfl (any_of HT_.out (by kernel_rfl)) (fun _ _ _ h => h) (Or.inl ⟨by rfl, ?_⟩) ?_ ?_
 rotate_left
 {
 intro w'
 go_simp
 with_reducible rfl
 }
 rotate_left
 · exact pt_
 refine done_ (done_of HT_.out (by kernel_rfl)) ?_
 try go_wp2
 go_roundg k1
 case measure => have := HK1.out; omega
 case rel => exact ⟨(wrap64 (x9_1 + 1)), (by first | rfl | (simp; done) | (simp [*]; done)), H', ⟨by have := HK1.out; omega⟩, ⟨(zK BK179.out)⟩, ⟨by repeat (first | (with_reducible first | exact HB.out | apply below_alloc | apply pw_below_drewN | apply below_drew1 | refine below_set ?_ GE179.out | refine below_set ?_ GE182.out) | exact HB.out)⟩⟩
 )
 }
 }
 · rw [if_neg c41] at H; exact absurd H (by simp)
 }
 }
 {
 replace c8 := Bool.eq_false_iff.mpr c8
 subst c8
 have H1 : (some false) = some r := by rw [if_neg (show ¬ (false = true) by decide)] at H; exact H
 clear H
 have H := H1
 clear H1
 as_aux_lemma => (
 obtain rfl := Option.some.inj H
 have p181 : 0 ≤ (x9_1 : Int) := of_decide_eq_true (by first | (with_reducible assumption) | assumption)
 have q181 : x9_1 < (l1.length : Int) := of_decide_eq_true (by first | (with_reducible assumption) | assumption)
 obtain ⟨ad181, e181, hx181_0, hx181_1⟩ := at_T47 HR1.out x9_1 p181 q181
 cases e181
 replace hx181_0 := (HB.out.cell (World.block_lt_of_cell? w _ hx181_0)).trans hx181_0
 replace hx181_1 := (HB.out.cell (World.block_lt_of_cell? w _ hx181_1)).trans hx181_1
 replace p181 := eq_true p181
 replace q181 := eq_true q181
 try go_wp2_with (first | ((with_reducible refine gate_dst (N := 6) rfl ?_); refine box_event ?hg (N := 6) ?hd (cs := #[.int .i16 0, .int .i8 0]) (t := 47) ?hr ?_; (case hd => rfl); (case hg => rfl); (case hr => first | (go_simp; done) | (go_simp; rfl)); intro gb182 hg w60 hbox hb; have n0_ := ak (blk_below (g := gb179) (o := .cells #[.int .i16 a0_0, .slice A0_1 l0_1.length c0_1] 27 (0, 0)) (zK BK179.out) hb); have n1_ := ak (below_step (zBG HB.out GE179.out) hb); have n2_ := ak (hbox); have n3_ := ak ((by rw [hg]; exact (below_size (zBG HB.out GE179.out)) : w.heap.size ≤ gb182)); have n4_ := ak ((by rw [hg]; exact (below_size (zBG HB.out GE179.out)) : w.heap.size ≤ gb182)); have n5_ := ak ((by rw [hg]; exact Nat.ne_of_lt (blk_lt (g := gb179) (o := .cells #[.int .i16 a0_0, .slice A0_1 l0_1.length c0_1] 27 (0, 0)) (zK BK179.out)) : gb179 ≠ gb182)); have n6_ := ak ((by rw [hg]; exact Nat.ne_of_gt (blk_lt (g := gb179) (o := .cells #[.int .i16 a0_0, .slice A0_1 l0_1.length c0_1] 27 (0, 0)) (zK BK179.out)) : gb182 ≠ gb179)); clear BK179 HB; have BK179 := n0_; have HB := n1_; have BK182 := n2_; have GW182 := n3_; have GE182 := n4_; have NB179_182 := n5_; have NB182_179 := n6_; clear n0_ n1_ n2_ n3_ n4_ n5_ n6_; clear hb hbox hg; have hnb61 := NB182_179.out; have hnc61 := NB179_182.out; have hcz62_0 : w60.cell? ⟨gb182, 0, none⟩ = some (.int .i16 0) := (blk_cell BK182.out 0).trans rfl; have hcz62_1 : w60.cell? ⟨gb182, 1, none⟩ = some (.int .i8 0) := (blk_cell BK182.out 1).trans rfl; have hfz62_0 := blk_frozen BK182.out 0; have hfz62_1 := blk_frozen BK182.out 1))
 have n0_ : Aside0 (((w60.setCell ⟨gb182, 0, none⟩ (.int .i16 ((rd_T47 l1 x9_1).f0))).setCell ⟨gb182, 1, none⟩ (.int .i8 ((rd_T47 l1 x9_1).f1))).heap[gb179]? = some (.cells #[.int .i16 a0_0, .slice A0_1 l0_1.length c0_1] 27 (0, 0))) := ⟨by (with_reducible repeat (first | refine blk_drewN ?_ _ | refine blk_drew ?_ | refine blk_alloc ?_ _)); refine blk_far ?_ NB179_182.out _; (with_reducible repeat (first | refine blk_drewN ?_ _ | refine blk_drew ?_ | refine blk_alloc ?_ _)); refine blk_far ?_ NB179_182.out _; (with_reducible repeat (first | refine blk_drewN ?_ _ | refine blk_drew ?_ | refine blk_alloc ?_ _)); exact BK179.out⟩
 have n1_ : Aside0 (((w60.setCell ⟨gb182, 0, none⟩ (.int .i16 ((rd_T47 l1 x9_1).f0))).setCell ⟨gb182, 1, none⟩ (.int .i8 ((rd_T47 l1 x9_1).f1))).heap[gb182]? = some (.cells #[.int .i16 ((rd_T47 l1 x9_1).f0), .int .i8 ((rd_T47 l1 x9_1).f1)] 47 (0, 0))) := ⟨by (with_reducible repeat (first | refine blk_drewN ?_ _ | refine blk_drew ?_ | refine blk_alloc ?_ _)); refine blk_put (cs := #[.int .i16 ((rd_T47 l1 x9_1).f0), .int .i8 0]) ?_ 1 _ rfl; (with_reducible repeat (first | refine blk_drewN ?_ _ | refine blk_drew ?_ | refine blk_alloc ?_ _)); refine blk_put (cs := #[.int .i16 0, .int .i8 0]) ?_ 0 _ rfl; (with_reducible repeat (first | refine blk_drewN ?_ _ | refine blk_drew ?_ | refine blk_alloc ?_ _)); exact BK182.out⟩
 have n2_ : Aside0 (Below w.heap.size w ((w60.setCell ⟨gb182, 0, none⟩ (.int .i16 ((rd_T47 l1 x9_1).f0))).setCell ⟨gb182, 1, none⟩ (.int .i8 ((rd_T47 l1 x9_1).f1)))) := ⟨by repeat (first | (with_reducible first | exact HB.out | apply below_alloc | apply pw_below_drewN | apply below_drew1 | refine below_set ?_ GE179.out | refine below_set ?_ GE182.out) | exact HB.out)⟩
 (try clear BK179)
 (try clear BK182)
 (try clear HB)
 generalize ((w60.setCell ⟨gb182, 0, none⟩ (.int .i16 ((rd_T47 l1 x9_1).f0))).setCell ⟨gb182, 1, none⟩ (.int .i8 ((rd_T47 l1 x9_1).f1))) = w63 at n0_ n1_ n2_ ⊢
 have BK179 := n0_
 have BK182 := n1_
 have HB := n2_
 clear n0_ n1_ n2_
 have n0_ := ak (blk_drew BK179.out)
 have n1_ := ak (blk_drew BK182.out)
 have n2_ := ak (below_drew1 HB.out)
 clear BK179 BK182 HB
 have BK179 := n0_
 have BK182 := n1_
 have HB := n2_
 clear n0_ n1_ n2_
 refine start_ (n := 26) (S := fun w' => w'.cell? ⟨gb179, 0, none⟩ = some (.int .i16 a0_0) ∧ w'.cell? ⟨gb179, 1, none⟩ = some (.slice A0_1 l0_1.length c0_1) ∧ w'.cell? ⟨gb182, 0, none⟩ = some (.int .i16 ((rd_T47 l1 x9_1).f0)) ∧ w'.cell? ⟨gb182, 1, none⟩ = some (.int .i8 ((rd_T47 l1 x9_1).f1))) (ds := []) (bA 26 0) (by kernel_rfl) rfl rfl ⟨(blk_cell BK179.out 0).trans rfl, (blk_cell BK179.out 1).trans rfl, (blk_cell BK182.out 0).trans rfl, (blk_cell BK182.out 1).trans rfl⟩ (fun hHeld => ?_); refine with_tabW impl_ValidHolds.tab4 impl_ValidHolds.bits4 (fun HT_ HW_ => ?_)
 generalize w63.drew = w64 at BK179 BK182 HB hHeld ⊢
 refine take_ (i := 0) (N := some 14) (v := ?_) (a' := ?_) (bA 26 1) rfl rfl (take_ofW HT_.out HW_.out (by kernel_rfl)) (fun _ _ _ h => h) (Or.inl ⟨by rfl, ?_⟩) hHeld ?_ ?_
 rotate_left
 {
 rintro w' ⟨s0, s1, s2, s3⟩
 go_simp
 with_reducible rfl
 }
 rotate_left
 · exact pt_
 refine take_ (i := 1) (N := some 15) (v := ?_) (a' := ?_) (bA 26 3) rfl rfl (take_ofW HT_.out HW_.out (by kernel_rfl)) (fun _ _ _ h => h) (Or.inl ⟨by rfl, ?_⟩) hHeld ?_ ?_
 rotate_left
 {
 rintro w' ⟨s0, s1, s2, s3⟩
 go_simp
 with_reducible rfl
 }
 rotate_left
 · exact pt_
 refine one_ (i := 2) (N := some 16) (bA 26 7) rfl rfl (one_of HT_.out (by kernel_rfl)) (by decide) (fun K hK => ?_)
 refine goes_ Try.func39 (by kernel_rfl) rfl #[.agg #[.int .i16 a0_0, .slice A0_1 l0_1.length c0_1], .agg #[.int .i16 ((rd_T47 l1 x9_1).f0), .int .i8 ((rd_T47 l1 x9_1).f1)]] (by rfl) rfl rfl gl_ ?_
 with_reducible refine (impl_Rope_isHold.calls a0_0 _ _ l0_1 ((rd_T47 l1 x9_1).f0) ((rd_T47 l1 x9_1).f1) false _ ?side1 ?side2 A7.out).mono ?_
 (case side1 => repeat (first | exact (Kd.C_below HR0_1.out HB.out) | (with_reducible refine Kd.C_alloc ?_ _) | (with_reducible refine Kd.C_drewN ?_ _) | (with_reducible refine Kd.C_drew ?_)))
 (case side2 => exact HC0_1.out)
 rintro e w65 ⟨rfl, hb⟩
 refine ⟨_, rfl, ?_⟩
 have n0_ := ak (blk_below (g := gb179) (o := .cells #[.int .i16 a0_0, .slice A0_1 l0_1.length c0_1] 27 (0, 0)) (zK BK179.out) hb)
 have n1_ := ak (blk_below (g := gb182) (o := .cells #[.int .i16 ((rd_T47 l1 x9_1).f0), .int .i8 ((rd_T47 l1 x9_1).f1)] 47 (0, 0)) (zK BK182.out) hb)
 have n2_ := ak (below_step (by repeat (first | (with_reducible first | exact HB.out | apply below_alloc | apply pw_below_drewN | apply below_drew1 | refine below_set ?_ GE179.out | refine below_set ?_ GE182.out) | exact HB.out)) hb)
 clear BK179 BK182 HB
 have BK179 := n0_
 have BK182 := n1_
 have HB := n2_
 clear n0_ n1_ n2_
 (try clear hb)
 (try clear hb2)
 (try clear hk)
 (try clear hi)
 refine hK.out _ _ ⟨(blk_cell BK179.out 0).trans rfl, (blk_cell BK179.out 1).trans rfl, (blk_cell BK182.out 0).trans rfl, (blk_cell BK182.out 1).trans rfl⟩ (fun hHeld => ?_)
 clear hK K
 refine norm_ (a' := ?_) ?_ ?_
 rotate_left
 {
 show Act.put _ (some 16) _ = _
 simp only [Act.put, zs, zz, zk, i64_w, i32_w]
 rfl
 }
 refine pure_ (i := 3) (N := some 17) (v := ?_) (a' := ?_) (bA 26 15) rfl rfl (any_of HT_.out (by kernel_rfl)) (fun _ _ _ h => h) (Or.inl ⟨by rfl, ?_⟩) ?_ ?_
 rotate_left
 {
 intro w'
 go_simp
 with_reducible rfl
 }
 rotate_left
 · exact pt_
 refine pure_ (i := 4) (N := some 18) (v := ?_) (a' := ?_) (bA 26 31) rfl rfl (any_of HT_.out (by kernel_rfl)) (fun _ _ _ h => h) (Or.inl ⟨by rfl, ?_⟩) ?_ ?_
 rotate_left
 {
 intro w'
 go_simp
 with_reducible rfl
 }
 rotate_left
 · exact pt_
 refine pure_ (i := 5) (N := some 19) (v := undef) (a' := ?_) (bA 26 63) rfl rfl (any_of HT_.out (by kernel_rfl)) (fun _ _ _ h => h) (Or.inr ⟨by rfl, rfl⟩) ?_ ?_
 rotate_left
 · exact pt_
 refine pure_ (i := 6) (N := some 20) (v := undef) (a' := ?_) (bA 26 127) rfl rfl (any_of HT_.out (by kernel_rfl)) (fun _ _ _ h => h) (Or.inr ⟨by rfl, rfl⟩) ?_ ?_
 rotate_left
 · exact pt_
 refine pure_ (i := 7) (N := some 21) (v := undef) (a' := ?_) (bA 26 255) rfl rfl (any_of HT_.out (by kernel_rfl)) (fun _ _ _ h => h) (Or.inr ⟨by rfl, rfl⟩) ?_ ?_
 rotate_left
 · exact pt_
 refine pure_ (i := 8) (N := some 22) (v := undef) (a' := ?_) (bA 26 511) rfl rfl (any_of HT_.out (by kernel_rfl)) (fun _ _ _ h => h) (Or.inr ⟨by rfl, rfl⟩) ?_ ?_
 rotate_left
 · exact pt_
 refine pure_ (i := 9) (N := some 23) (v := undef) (a' := ?_) (bA 26 1023) rfl rfl (any_of HT_.out (by kernel_rfl)) (fun _ _ _ h => h) (Or.inr ⟨by rfl, rfl⟩) ?_ ?_
 rotate_left
 · exact pt_
 refine pure_ (i := 10) (N := some 24) (v := undef) (a' := ?_) (bA 26 2047) rfl rfl (any_of HT_.out (by kernel_rfl)) (fun _ _ _ h => h) (Or.inr ⟨by rfl, rfl⟩) ?_ ?_
 rotate_left
 · exact pt_
 refine pure_ (i := 11) (N := some 25) (v := undef) (a' := ?_) (bA 26 4095) rfl rfl (any_of HT_.out (by kernel_rfl)) (fun _ _ _ h => h) (Or.inr ⟨by rfl, rfl⟩) ?_ ?_
 rotate_left
 · exact pt_
 refine pure_ (i := 12) (N := some 26) (v := undef) (a' := ?_) (bA 26 8191) rfl rfl (any_of HT_.out (by kernel_rfl)) (fun _ _ _ h => h) (Or.inr ⟨by rfl, rfl⟩) ?_ ?_
 rotate_left
 · exact pt_
 refine pure_ (i := 13) (N := some 27) (v := undef) (a' := ?_) (bA 26 16383) rfl rfl (any_of HT_.out (by kernel_rfl)) (fun _ _ _ h => h) (Or.inr ⟨by rfl, rfl⟩) ?_ ?_
 rotate_left
 · exact pt_
 refine pure_ (i := 14) (N := some 28) (v := undef) (a' := ?_) (bA 26 32767) rfl rfl (any_of HT_.out (by kernel_rfl)) (fun _ _ _ h => h) (Or.inr ⟨by rfl, rfl⟩) ?_ ?_
 rotate_left
 · exact pt_
 refine pure_ (i := 15) (N := some 29) (v := undef) (a' := ?_) (bA 26 65535) rfl rfl (any_of HT_.out (by kernel_rfl)) (fun _ _ _ h => h) (Or.inr ⟨by rfl, rfl⟩) ?_ ?_
 rotate_left
 · exact pt_
 refine pure_ (i := 16) (N := some 30) (v := undef) (a' := ?_) (bA 26 131071) rfl rfl (any_of HT_.out (by kernel_rfl)) (fun _ _ _ h => h) (Or.inr ⟨by rfl, rfl⟩) ?_ ?_
 rotate_left
 · exact pt_
 refine pure_ (i := 17) (N := some 31) (v := undef) (a' := ?_) (bA 26 262143) rfl rfl (any_of HT_.out (by kernel_rfl)) (fun _ _ _ h => h) (Or.inr ⟨by rfl, rfl⟩) ?_ ?_
 rotate_left
 · exact pt_
 refine pure_ (i := 18) (N := some 32) (v := ?_) (a' := ?_) (bA 26 524287) rfl rfl (any_of HT_.out (by kernel_rfl)) (fun _ _ _ h => h) (Or.inl ⟨by rfl, ?_⟩) ?_ ?_
 rotate_left
 {
 intro w'
 go_simp
 with_reducible rfl
 }
 rotate_left
 · exact pt_
 refine pure_ (i := 19) (N := some 33) (v := ?_) (a' := ?_) (bA 26 1048575) rfl rfl (any_of HT_.out (by kernel_rfl)) (fun _ _ _ h => h) (Or.inl ⟨by rfl, ?_⟩) ?_ ?_
 rotate_left
 {
 intro w'
 go_simp
 with_reducible rfl
 }
 rotate_left
 · exact pt_
 refine pure_ (i := 20) (N := some 34) (v := undef) (a' := ?_) (bA 26 2097151) rfl rfl (any_of HT_.out (by kernel_rfl)) (fun _ _ _ h => h) (Or.inr ⟨by rfl, rfl⟩) ?_ ?_
 rotate_left
 · exact pt_
 refine pure_ (i := 21) (N := some 35) (v := undef) (a' := ?_) (bA 26 4194303) rfl rfl (any_of HT_.out (by kernel_rfl)) (fun _ _ _ h => h) (Or.inr ⟨by rfl, rfl⟩) ?_ ?_
 rotate_left
 · exact pt_
 refine pure_ (i := 22) (N := some 36) (v := undef) (a' := ?_) (bA 26 8388607) rfl rfl (any_of HT_.out (by kernel_rfl)) (fun _ _ _ h => h) (Or.inr ⟨by rfl, rfl⟩) ?_ ?_
 rotate_left
 · exact pt_
 refine pure_ (i := 23) (N := some 37) (v := undef) (a' := ?_) (bA 26 16777215) rfl rfl (any_of HT_.out (by kernel_rfl)) (fun _ _ _ h => h) (Or.inr ⟨by rfl, rfl⟩) ?_ ?_
 rotate_left
 · exact pt_
 refine pure_ (i := 24) (N := some 38) (v := undef) (a' := ?_) (bA 26 33554431) rfl rfl (any_of HT_.out (by kernel_rfl)) (fun _ _ _ h => h) (Or.inr ⟨by rfl, rfl⟩) ?_ ?_
 rotate_left
 · exact pt_
 refine pure_ (i := 25) (N := some 39) (v := ?_) (a' := ?_) (bA 26 67108863) rfl rfl (any_of HT_.out (by kernel_rfl)) (fun _ _ _ h => h) (Or.inl ⟨by rfl, ?_⟩) ?_ ?_
 rotate_left
 {
 intro w'
 go_simp
 with_reducible rfl
 }
 rotate_left
 · exact pt_
 refine done_ (done_of HT_.out (by kernel_rfl)) ?_
 try go_wp2
 go_ret
 exact ⟨by first | rfl | (simp [errW_none, errW_some] <;> rfl) | (simp [*, errW_none, errW_some] <;> rfl), by repeat (first | (with_reducible first | exact HB.out | apply below_alloc | apply pw_below_drewN | apply below_drew1 | refine below_set ?_ GE179.out | refine below_set ?_ GE182.out) | exact HB.out)⟩
 )
 }
 }
 · rw [if_neg c6] at H; exact absurd H (by simp)
 }
 · rw [if_neg c5] at H; exact absurd H (by simp)
 }
 {
 rw [if_neg c4] at H
 have c4b0 : decide (x9_1 < (l1.length : Int)) = false := decide_eq_false c4
 clear c4
 replace H := Option.bind_eq_some_iff.mp H
 obtain ⟨t180, A660, H⟩ := H
 replace H : (some t180) = some r := H
 have A66 := ak A660
 clear A660
 as_aux_lemma => (
 obtain rfl := Option.some.inj H
 have hcz67_0 : wr.cell? ⟨gb179, 0, none⟩ = some (.int .i16 a0_0) := (blk_cell BK179.out 0).trans rfl
 have hcz67_1 : wr.cell? ⟨gb179, 1, none⟩ = some (.slice A0_1 l0_1.length c0_1) := (blk_cell BK179.out 1).trans rfl
 have hfz67_0 := blk_frozen BK179.out 0
 have hfz67_1 := blk_frozen BK179.out 1
 go_wp2_with (first | ((with_reducible refine gate_callee (f := 42) rfl ?_); refine goesL_ (some 42) rfl rfl Try.func42 (by kernel_rfl) rfl #[.agg #[.int .i16 a0_0, .slice A0_1 l0_1.length c0_1]] rfl gl_ ?_; (with_reducible refine (impl_ValidRope.calls k1 a0_0 _ _ l0_1 t180 _ ?side1 ?side2 A66.out).mono ?_); (case side1 => repeat (first | exact (Kd.C_below HR0_1.out HB.out) | (with_reducible refine Kd.C_alloc ?_ _) | (with_reducible refine Kd.C_drewN ?_ _) | (with_reducible refine Kd.C_drew ?_))); (case side2 => exact HC0_1.out); rintro e w68 ⟨rfl, hb⟩; refine ⟨_, rfl, ?_⟩; have n0_ := ak (blk_below (g := gb179) (o := .cells #[.int .i16 a0_0, .slice A0_1 l0_1.length c0_1] 27 (0, 0)) (zK BK179.out) hb); have n1_ := ak (below_step (zBG HB.out GE179.out) hb); clear BK179 HB; have BK179 := n0_; have HB := n1_; clear n0_ n1_; (try clear hb); (try clear hb2); (try clear hk); (try clear hi)))
 go_ret
 exact ⟨by first | rfl | (simp [errW_none, errW_some] <;> rfl) | (simp [*, errW_none, errW_some] <;> rfl), zBG HB.out GE179.out⟩
 )
 }
 )
 )
end Go.Proofs.Ytcgbnbblojkglaa.P
