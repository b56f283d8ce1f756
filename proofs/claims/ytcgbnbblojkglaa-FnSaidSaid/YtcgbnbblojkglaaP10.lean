-- Printed by wip/print (my turned copy of the kit's print) out of the translation; Lean checks it.
import Derived.Test.YtcgbnbblojkglaaP0
import Derived.Test.YtcgbnbblojkglaaP1
import Derived.Test.YtcgbnbblojkglaaP5
import Derived.Test.YtcgbnbblojkglaaP6
import Derived.Test.YtcgbnbblojkglaaP9
namespace Go.Proofs.Ytcgbnbblojkglaa.P
open Go.RowKit Go.Proofs.YtcgbnbblojkglaaW.PrintWords Go.Proofs.YtcgbnbblojkglaaW.PrintLast Go.Proofs.YtcgbnbblojkglaaW.PrintMore
attribute [local go_sem] max2_int min2_int max_two min_two max_three min_three max_four min_four   -- for this text's walks alone
set_option linter.unusedVariables false
set_option linter.unusedSimpArgs false

attribute [local go_sem high] eqA40
/-! ### impl_FirstFault: function 10 -/
def impl_FirstFault.l0 : Nat → List (S47) → List (S40) → List (S47) → Int → Int → Int → Int → Option (Int × Int)
  | 0, _, _, _, _, _, _, _ => none
  | k + 1, x1, x2, x16, x17, x18, x259000, x259001 => if x18 < x17 then (if 0 ≤ x18 then (if x18 < (x16.length : Int) then (if x18 ≥ (x2.length : Int) then (some (x18, 0)) else (if x18 < (x2.length : Int) then ((impl_Said_follows.f x259000 x259001 ((rd_T47 x16 x18).f0) ((rd_T47 x16 x18).f1)).bind fun bt262 => (if (!(((rd_T40 x2 x18).f0) == bt262.1) || (!(((rd_T40 x2 x18).f1) == bt262.2))) = true then (some (x18, 0)) else (impl_FirstFault.l0 k x1 x2 x16 x17 (wrap64 (x18 + 1)) ((rd_T40 x2 x18).f0) ((rd_T40 x2 x18).f1)))) else (none))) else (none)) else (none)) else (if (x2.length : Int) > (x1.length : Int) then ((impl_size_Hold.f x1).bind fun t265 => (some (t265, 0))) else (some (0, 6)))
def impl_FirstFault.f (k : Nat) (a0_0 : Int) (l0_1 : List Int) (l1 : List (S47)) (l2 : List (S40)) : Option (Int × Int) := (impl_ValidHolds.f k a0_0 l0_1 l1).bind fun t257 => (if t257 = true then (impl_FirstFault.l0 k l1 l2 l1 (l1.length : Int) 0 0 0) else (some (0, 1)))
theorem impl_FirstFault.mono_l : ∀ k, (∀ y0 y1 y2 y3 y4 y5 y6, LeO (impl_FirstFault.l0 k y0 y1 y2 y3 y4 y5 y6) (impl_FirstFault.l0 (k + 1) y0 y1 y2 y3 y4 y5 y6))
  | 0 => fun _ _ _ _ _ _ _ r h => by simp [impl_FirstFault.l0] at h
  | k + 1 => by
    have ih0 := impl_FirstFault.mono_l k
    · intro y0 y1 y2 y3 y4 y5 y6
      unfold impl_FirstFault.l0
      repeat' first
      | (with_reducible exact ih0 _ _ _ _ _ _ _)
      | (with_reducible exact impl_ValidHolds.mono _ _ _ _)
      | (with_reducible exact LeO.refl _)
      | (with_reducible exact LeO.none _)
      | (with_reducible refine LeO.ite ?_ ?_)
      | (with_reducible refine LeO.bind ?_ (fun _ => ?_))
      | exact ih0 _ _ _ _ _ _ _
      | exact impl_ValidHolds.mono _ _ _ _
      | exact LeO.none _
      | refine LeO.ite ?_ ?_
      | refine LeO.bind ?_ (fun _ => ?_)
theorem impl_FirstFault.mono : ∀ a0 a1 a2 a3 k, LeO (impl_FirstFault.f k a0 a1 a2 a3) (impl_FirstFault.f (k + 1) a0 a1 a2 a3) := by
  intro a0 a1 a2 a3 k
  have ih0 := impl_FirstFault.mono_l k
  unfold impl_FirstFault.f
  repeat' first
      | (with_reducible exact ih0 _ _ _ _ _ _ _)
      | (with_reducible exact impl_ValidHolds.mono _ _ _ _)
      | (with_reducible exact LeO.refl _)
      | (with_reducible exact LeO.none _)
      | (with_reducible refine LeO.ite ?_ ?_)
      | (with_reducible refine LeO.bind ?_ (fun _ => ?_))
      | exact ih0 _ _ _ _ _ _ _
      | exact impl_ValidHolds.mono _ _ _ _
      | exact LeO.none _
      | refine LeO.ite ?_ ?_
      | refine LeO.bind ?_ (fun _ => ?_)
def impl_FirstFault.T7 : Bool × List (List Nat × List Nat) := (true, [([], []), ([], []), ([1], [1]), ([0, 2], [0, 2]), ([3], [3]), ([4], [4]), ([4], [4]), ([5, 6, 4], [4, 5, 6]), ([7, 4], [4, 7]), ([4], [4]), ([4], [4]), ([9, 10, 4, 4], [4, 9, 10]), ([8, 11, 4], [4, 8, 11]), ([4, 12], [4, 12])])
def impl_FirstFault.B7 : List Nat := [0, 0, 2, 7, 15, 31, 31, 127, 255, 31, 31, 1567, 4095, 8191]
theorem impl_FirstFault.tab7 : rtab .any (opsOf Try.f10 7) = impl_FirstFault.T7 := by kernel_rfl
theorem impl_FirstFault.bits7 : waitsOk impl_FirstFault.T7.2 impl_FirstFault.B7 = true := by kernel_rfl
set_option maxHeartbeats 8000000 in
set_option maxRecDepth 100000 in
theorem impl_FirstFault.calls (k : Nat) (a0_0 : Int) (A0_1 : Option Addr) (c0_1 : Nat) (l0_1 : List Int) (A1 : Option Addr) (c1 : Nat) (l1 : List (S47)) (A2 : Option Addr) (c2 : Nat) (l2 : List (S40)) (r1 : Int) (r2 : Int) (w : World) (hr0_1 : Kd.C (Kd.int .i16) w A0_1 l0_1.length l0_1) (hc0_1 : l0_1.length ≤ c0_1) (hr1 : Kd.C k47 w A1 l1.length l1) (hc1 : l1.length ≤ c1) (hr2 : Kd.C k40 w A2 l2.length l2) (hc2 : l2.length ≤ c2) (h : impl_FirstFault.f k a0_0 l0_1 l1 l2 = some (r1, r2)) :
    Calls Try.prog 10 #[.agg #[.int .i16 a0_0, .slice A0_1 l0_1.length c0_1], .slice A1 l1.length c1, .slice A2 l2.length c2] w fun e w' => e = .returned (.tuple #[.int .i64 r1, .int .i64 r2]) ∧ Below w.heap.size w w' := by
 have hu27 := Try.underlying27
 have hu40 := Try.underlying40
 have hu47 := Try.underlying47
 have HR0_1 := ak hr0_1
 have HC0_1 := ak hc0_1
 clear hr0_1 hc0_1
 have HR1 := ak hr1
 have HC1 := ak hc1
 clear hr1 hc1
 have HR2 := ak hr2
 have HC2 := ak hc2
 clear hr2 hc2
 have HB := ak (Below.refl w.heap.size w)
 have H : ((impl_ValidHolds.f k a0_0 l0_1 l1).bind fun t257 => (if t257 = true then (impl_FirstFault.l0 k l1 l2 l1 (l1.length : Int) 0 0 0) else (some (0, 1)))) = some (r1, r2) := h
 clear h
 replace H := Option.bind_eq_some_iff.mp H
 obtain ⟨t257, A40, H⟩ := H
 replace H : (if t257 = true then (impl_FirstFault.l0 k l1 l2 l1 (l1.length : Int) 0 0 0) else (some (0, 1))) = some (r1, r2) := H
 have A4 := ak A40
 clear A40
 by_cases c5 : t257 = true
 {
 subst c5
 have H1 : (impl_FirstFault.l0 k l1 l2 l1 (l1.length : Int) 0 0 0) = some (r1, r2) := by rw [if_pos rfl] at H; exact H
 clear H
 have H := H1
 clear H1
 have H' := ak H
 clear H
 go_enter Try.func10, Try.ntmps10
 go_wp2_with (first | ((with_reducible refine gate_dst (N := 3) rfl ?_); refine box_event ?hg (N := 3) ?hd (cs := #[.int .i16 a0_0, .slice A0_1 l0_1.length c0_1]) (t := 27) ?hr ?_; (case hd => rfl); (case hg => rfl); (case hr => first | (go_simp; done) | (go_simp; rfl)); intro gb256 hg w6 hbox hb; have n0_ := ak (below_step (zB HB.out) hb); have n1_ := ak (hbox); have n2_ := ak ((by rw [hg]; exact (below_size (zB HB.out)) : w.heap.size ≤ gb256)); have n3_ := ak ((by rw [hg]; exact (below_size (zB HB.out)) : w.heap.size ≤ gb256)); clear HB; have HB := n0_; have BK256 := n1_; have GW256 := n2_; have GE256 := n3_; clear n0_ n1_ n2_ n3_; clear hb hbox hg; have hcz7_0 : w6.cell? ⟨gb256, 0, none⟩ = some (.int .i16 a0_0) := (blk_cell BK256.out 0).trans rfl; have hcz7_1 : w6.cell? ⟨gb256, 1, none⟩ = some (.slice A0_1 l0_1.length c0_1) := (blk_cell BK256.out 1).trans rfl; have hfz7_0 := blk_frozen BK256.out 0; have hfz7_1 := blk_frozen BK256.out 1) | ((with_reducible refine gate_callee (f := 24) rfl ?_); refine goesL_ (some 13) rfl rfl Try.func24 (by kernel_rfl) rfl #[.agg #[.int .i16 a0_0, .slice A0_1 l0_1.length c0_1], .slice A1 l1.length c1] rfl gl_ ?_; (with_reducible refine (impl_ValidHolds.calls k a0_0 _ _ l0_1 _ _ l1 true _ ?side1 ?side2 ?side3 ?side4 A4.out).mono ?_); (case side1 => repeat (first | exact (Kd.C_below HR0_1.out HB.out) | (with_reducible refine Kd.C_alloc ?_ _) | (with_reducible refine Kd.C_drewN ?_ _) | (with_reducible refine Kd.C_drew ?_))); (case side2 => exact HC0_1.out); (case side3 => repeat (first | exact (Kd.C_below HR1.out HB.out) | (with_reducible refine Kd.C_alloc ?_ _) | (with_reducible refine Kd.C_drewN ?_ _) | (with_reducible refine Kd.C_drew ?_))); (case side4 => exact HC1.out); rintro e w8 ⟨rfl, hb⟩; refine ⟨_, rfl, ?_⟩; have n0_ := ak (blk_below (g := gb256) (o := .cells #[.int .i16 a0_0, .slice A0_1 l0_1.length c0_1] 27 (0, 0)) (zK BK256.out) hb); have n1_ := ak (below_step (zBG HB.out GE256.out) hb); clear BK256 HB; have BK256 := n0_; have HB := n1_; clear n0_ n1_; (try clear hb); (try clear hb2); (try clear hk); (try clear hi)) | ((with_reducible refine gate_dst (N := 8) rfl ?_); refine box_event ?hg (N := 8) ?hd (cs := #[.int .i64 0, .int .i64 0]) (t := 40) ?hr ?_; (case hd => rfl); (case hg => rfl); (case hr => first | (go_simp; done) | (go_simp; rfl)); intro gb258 hg w9 hbox hb; have n0_ := ak (blk_below (g := gb256) (o := .cells #[.int .i16 a0_0, .slice A0_1 l0_1.length c0_1] 27 (0, 0)) (zK BK256.out) hb); have n1_ := ak (below_step (zBG HB.out GE256.out) hb); have n2_ := ak (hbox); have n3_ := ak ((by rw [hg]; exact (below_size (zBG HB.out GE256.out)) : w.heap.size ≤ gb258)); have n4_ := ak ((by rw [hg]; exact (below_size (zBG HB.out GE256.out)) : w.heap.size ≤ gb258)); have n5_ := ak ((by rw [hg]; exact Nat.ne_of_lt (blk_lt (g := gb256) (o := .cells #[.int .i16 a0_0, .slice A0_1 l0_1.length c0_1] 27 (0, 0)) (zK BK256.out)) : gb256 ≠ gb258)); have n6_ := ak ((by rw [hg]; exact Nat.ne_of_gt (blk_lt (g := gb256) (o := .cells #[.int .i16 a0_0, .slice A0_1 l0_1.length c0_1] 27 (0, 0)) (zK BK256.out)) : gb258 ≠ gb256)); clear BK256 HB; have BK256 := n0_; have HB := n1_; have BK258 := n2_; have GW258 := n3_; have GE258 := n4_; have NB256_258 := n5_; have NB258_256 := n6_; clear n0_ n1_ n2_ n3_ n4_ n5_ n6_; clear hb hbox hg; have hnb10 := NB258_256.out; have hnc10 := NB256_258.out; have hcz11_0 : w9.cell? ⟨gb258, 0, none⟩ = some (.int .i64 0) := (blk_cell BK258.out 0).trans rfl; have hcz11_1 : w9.cell? ⟨gb258, 1, none⟩ = some (.int .i64 0) := (blk_cell BK258.out 1).trans rfl; have hfz11_0 := blk_frozen BK258.out 0; have hfz11_1 := blk_frozen BK258.out 1))
 go_loopg [18] k (fun kq v18 w' => ∃ (x18_1 : Int) (x259000_1 : Int) (x259001_1 : Int), v18 = .int .i64 x18_1 ∧ Aside0 (impl_FirstFault.l0 kq l1 l2 l1 (l1.length : Int) x18_1 x259000_1 x259001_1 = some (r1, r2)) ∧ Aside0 (kq ≤ k) ∧ Aside0 (w'.heap[gb256]? = some (.cells #[.int .i16 a0_0, (.slice A0_1 l0_1.length c0_1)] 27 (0, 0))) ∧ Aside0 (w'.heap[gb258]? = some (.cells #[.int .i64 x259000_1, .int .i64 x259001_1] 40 (0, 0))) ∧ Aside0 (Below w.heap.size w w'))
 case atStart => exact ⟨(0), (0), (0), (by first | rfl | (simp; done) | (simp [*]; done)), H', ⟨Nat.le_refl _⟩, ⟨by (with_reducible repeat (first | refine blk_drewN ?_ _ | refine blk_drew ?_ | refine blk_alloc ?_ _)); refine blk_far ?_ NB256_258.out _; (with_reducible repeat (first | refine blk_drewN ?_ _ | refine blk_drew ?_ | refine blk_alloc ?_ _)); refine blk_far ?_ NB256_258.out _; (with_reducible repeat (first | refine blk_drewN ?_ _ | refine blk_drew ?_ | refine blk_alloc ?_ _)); exact BK256.out⟩, ⟨by (with_reducible repeat (first | refine blk_drewN ?_ _ | refine blk_drew ?_ | refine blk_alloc ?_ _)); refine blk_put (cs := #[.int .i64 0, .int .i64 0]) ?_ 1 _ rfl; (with_reducible repeat (first | refine blk_drewN ?_ _ | refine blk_drew ?_ | refine blk_alloc ?_ _)); refine blk_put (cs := #[.int .i64 0, .int .i64 0]) ?_ 0 _ rfl; (with_reducible repeat (first | refine blk_drewN ?_ _ | refine blk_drew ?_ | refine blk_alloc ?_ _)); exact BK258.out⟩, ⟨by repeat (first | (with_reducible first | exact HB.out | apply below_alloc | apply pw_below_drewN | apply below_drew1 | refine below_set ?_ GE256.out | refine below_set ?_ GE258.out) | exact HB.out)⟩⟩
 case round => (
 clear H'
 try clear c1
 try clear c2
 try clear c5
 try clear hcz11_0
 try clear hcz11_1
 try clear hcz7_0
 try clear hcz7_1
 try clear hfz11_0
 try clear hfz11_1
 try clear hfz7_0
 try clear hfz7_1
 obtain ⟨x18_1, x259000_1, x259001_1, rfl, HA, HK1, BK256, BK258, HB⟩ := hrel
 cases gk with
 | zero => exact absurd HA.out (by simp [impl_FirstFault.l0])
 | succ k1 => (
 have H := HA.out
 clear HA
 simp only [impl_FirstFault.l0] at H
 by_cases c12 : x18_1 < (l1.length : Int)
 {
 rw [if_pos c12] at H
 have c12b0 : decide (x18_1 < (l1.length : Int)) = true := decide_eq_true c12
 clear c12
 by_cases c13 : 0 ≤ x18_1
 {
 rw [if_pos c13] at H
 have c13b0 : decide (0 ≤ x18_1) = true := decide_eq_true c13
 clear c13
 by_cases c14 : x18_1 < (l1.length : Int)
 {
 rw [if_pos c14] at H
 have c14b0 : decide (x18_1 < (l1.length : Int)) = true := decide_eq_true c14
 clear c14
 by_cases c15 : x18_1 ≥ (l2.length : Int)
 {
 rw [if_pos c15] at H
 have c15b0 : decide ((l2.length : Int) ≤ x18_1) = true := decide_eq_true c15
 clear c15
 as_aux_lemma => (
 simp only [Option.some.injEq, Prod.mk.injEq] at H
 obtain ⟨rfl, rfl⟩ := H
 have p259 : 0 ≤ (x18_1 : Int) := of_decide_eq_true (by first | (with_reducible assumption) | assumption)
 have q259 : x18_1 < (l1.length : Int) := of_decide_eq_true (by first | (with_reducible assumption) | assumption)
 obtain ⟨ad259, e259, hx259_0, hx259_1⟩ := at_T47 HR1.out x18_1 p259 q259
 cases e259
 replace hx259_0 := (HB.out.cell (World.block_lt_of_cell? w _ hx259_0)).trans hx259_0
 replace hx259_1 := (HB.out.cell (World.block_lt_of_cell? w _ hx259_1)).trans hx259_1
 replace p259 := eq_true p259
 replace q259 := eq_true q259
 try go_wp2_with (first | ((with_reducible refine gate_dst (N := 10) rfl ?_); refine box_event ?hg (N := 10) ?hd (cs := #[.int .i16 0, .int .i8 0]) (t := 47) ?hr ?_; (case hd => rfl); (case hg => rfl); (case hr => first | (go_simp; done) | (go_simp; rfl)); intro gb260 hg w16 hbox hb; have n0_ := ak (blk_below (g := gb256) (o := .cells #[.int .i16 a0_0, .slice A0_1 l0_1.length c0_1] 27 (0, 0)) (zK BK256.out) hb); have n1_ := ak (blk_below (g := gb258) (o := .cells #[.int .i64 x259000_1, .int .i64 x259001_1] 40 (0, 0)) (zK BK258.out) hb); have n2_ := ak (below_step (by repeat (first | (with_reducible first | exact HB.out | apply below_alloc | apply pw_below_drewN | apply below_drew1 | refine below_set ?_ GE256.out | refine below_set ?_ GE258.out) | exact HB.out)) hb); have n3_ := ak (hbox); have n4_ := ak ((by rw [hg]; exact (below_size (by repeat (first | (with_reducible first | exact HB.out | apply below_alloc | apply pw_below_drewN | apply below_drew1 | refine below_set ?_ GE256.out | refine below_set ?_ GE258.out) | exact HB.out))) : w.heap.size ≤ gb260)); have n5_ := ak ((by rw [hg]; exact (below_size (by repeat (first | (with_reducible first | exact HB.out | apply below_alloc | apply pw_below_drewN | apply below_drew1 | refine below_set ?_ GE256.out | refine below_set ?_ GE258.out) | exact HB.out))) : w.heap.size ≤ gb260)); have n6_ := ak ((by rw [hg]; exact Nat.ne_of_lt (blk_lt (g := gb256) (o := .cells #[.int .i16 a0_0, .slice A0_1 l0_1.length c0_1] 27 (0, 0)) (zK BK256.out)) : gb256 ≠ gb260)); have n7_ := ak ((by rw [hg]; exact Nat.ne_of_gt (blk_lt (g := gb256) (o := .cells #[.int .i16 a0_0, .slice A0_1 l0_1.length c0_1] 27 (0, 0)) (zK BK256.out)) : gb260 ≠ gb256)); have n8_ := ak ((by rw [hg]; exact Nat.ne_of_lt (blk_lt (g := gb258) (o := .cells #[.int .i64 x259000_1, .int .i64 x259001_1] 40 (0, 0)) (zK BK258.out)) : gb258 ≠ gb260)); have n9_ := ak ((by rw [hg]; exact Nat.ne_of_gt (blk_lt (g := gb258) (o := .cells #[.int .i64 x259000_1, .int .i64 x259001_1] 40 (0, 0)) (zK BK258.out)) : gb260 ≠ gb258)); clear BK256 BK258 HB; have BK256 := n0_; have BK258 := n1_; have HB := n2_; have BK260 := n3_; have GW260 := n4_; have GE260 := n5_; have NB256_260 := n6_; have NB260_256 := n7_; have NB258_260 := n8_; have NB260_258 := n9_; clear n0_ n1_ n2_ n3_ n4_ n5_ n6_ n7_ n8_ n9_; clear hb hbox hg; have hnb17 := NB260_256.out; have hnc17 := NB256_260.out; have hnb18 := NB260_258.out; have hnc18 := NB258_260.out; have hcz19_0 : w16.cell? ⟨gb260, 0, none⟩ = some (.int .i16 0) := (blk_cell BK260.out 0).trans rfl; have hcz19_1 : w16.cell? ⟨gb260, 1, none⟩ = some (.int .i8 0) := (blk_cell BK260.out 1).trans rfl; have hfz19_0 := blk_frozen BK260.out 0; have hfz19_1 := blk_frozen BK260.out 1))
 have n0_ : Aside0 (((w16.setCell ⟨gb260, 0, none⟩ (.int .i16 ((rd_T47 l1 x18_1).f0))).setCell ⟨gb260, 1, none⟩ (.int .i8 ((rd_T47 l1 x18_1).f1))).heap[gb256]? = some (.cells #[.int .i16 a0_0, .slice A0_1 l0_1.length c0_1] 27 (0, 0))) := ⟨by (with_reducible repeat (first | refine blk_drewN ?_ _ | refine blk_drew ?_ | refine blk_alloc ?_ _)); refine blk_far ?_ NB256_260.out _; (with_reducible repeat (first | refine blk_drewN ?_ _ | refine blk_drew ?_ | refine blk_alloc ?_ _)); refine blk_far ?_ NB256_260.out _; (with_reducible repeat (first | refine blk_drewN ?_ _ | refine blk_drew ?_ | refine blk_alloc ?_ _)); exact BK256.out⟩
 have n1_ : Aside0 (((w16.setCell ⟨gb260, 0, none⟩ (.int .i16 ((rd_T47 l1 x18_1).f0))).setCell ⟨gb260, 1, none⟩ (.int .i8 ((rd_T47 l1 x18_1).f1))).heap[gb258]? = some (.cells #[.int .i64 x259000_1, .int .i64 x259001_1] 40 (0, 0))) := ⟨by (with_reducible repeat (first | refine blk_drewN ?_ _ | refine blk_drew ?_ | refine blk_alloc ?_ _)); refine blk_far ?_ NB258_260.out _; (with_reducible repeat (first | refine blk_drewN ?_ _ | refine blk_drew ?_ | refine blk_alloc ?_ _)); refine blk_far ?_ NB258_260.out _; (with_reducible repeat (first | refine blk_drewN ?_ _ | refine blk_drew ?_ | refine blk_alloc ?_ _)); exact BK258.out⟩
 have n2_ : Aside0 (((w16.setCell ⟨gb260, 0, none⟩ (.int .i16 ((rd_T47 l1 x18_1).f0))).setCell ⟨gb260, 1, none⟩ (.int .i8 ((rd_T47 l1 x18_1).f1))).heap[gb260]? = some (.cells #[.int .i16 ((rd_T47 l1 x18_1).f0), .int .i8 ((rd_T47 l1 x18_1).f1)] 47 (0, 0))) := ⟨by (with_reducible repeat (first | refine blk_drewN ?_ _ | refine blk_drew ?_ | refine blk_alloc ?_ _)); refine blk_put (cs := #[.int .i16 ((rd_T47 l1 x18_1).f0), .int .i8 0]) ?_ 1 _ rfl; (with_reducible repeat (first | refine blk_drewN ?_ _ | refine blk_drew ?_ | refine blk_alloc ?_ _)); refine blk_put (cs := #[.int .i16 0, .int .i8 0]) ?_ 0 _ rfl; (with_reducible repeat (first | refine blk_drewN ?_ _ | refine blk_drew ?_ | refine blk_alloc ?_ _)); exact BK260.out⟩
 have n3_ : Aside0 (Below w.heap.size w ((w16.setCell ⟨gb260, 0, none⟩ (.int .i16 ((rd_T47 l1 x18_1).f0))).setCell ⟨gb260, 1, none⟩ (.int .i8 ((rd_T47 l1 x18_1).f1)))) := ⟨by repeat (first | (with_reducible first | exact HB.out | apply below_alloc | apply pw_below_drewN | apply below_drew1 | refine below_set ?_ GE256.out | refine below_set ?_ GE258.out | refine below_set ?_ GE260.out) | exact HB.out)⟩
 (try clear BK256)
 (try clear BK258)
 (try clear BK260)
 (try clear HB)
 generalize ((w16.setCell ⟨gb260, 0, none⟩ (.int .i16 ((rd_T47 l1 x18_1).f0))).setCell ⟨gb260, 1, none⟩ (.int .i8 ((rd_T47 l1 x18_1).f1))) = w20 at n0_ n1_ n2_ n3_ ⊢
 have BK256 := n0_
 have BK258 := n1_
 have BK260 := n2_
 have HB := n3_
 clear n0_ n1_ n2_ n3_
 have n0_ := ak (blk_drew BK256.out)
 have n1_ := ak (blk_drew BK258.out)
 have n2_ := ak (blk_drew BK260.out)
 have n3_ := ak (below_drew1 HB.out)
 clear BK256 BK258 BK260 HB
 have BK256 := n0_
 have BK258 := n1_
 have BK260 := n2_
 have HB := n3_
 clear n0_ n1_ n2_ n3_
 refine start_ (n := 14) (S := fun w' => True) (ds := []) (bA 14 0) (by kernel_rfl) rfl rfl trivial (fun hHeld => ?_); refine with_tabW impl_FirstFault.tab7 impl_FirstFault.bits7 (fun HT_ HW_ => ?_)
 generalize w20.drew = w21 at BK256 BK258 BK260 HB hHeld ⊢
 refine pure_ (i := 0) (N := some 23) (v := ?_) (a' := ?_) (bA 14 1) rfl rfl (any_of HT_.out (by kernel_rfl)) (fun _ _ _ h => h) (Or.inl ⟨by rfl, ?_⟩) ?_ ?_
 rotate_left
 {
 intro w'
 go_simp
 with_reducible rfl
 }
 rotate_left
 · exact pt_
 refine pure_ (i := 1) (N := some 24) (v := ?_) (a' := ?_) (bA 14 3) rfl rfl (any_of HT_.out (by kernel_rfl)) (fun _ _ _ h => h) (Or.inl ⟨by rfl, ?_⟩) ?_ ?_
 rotate_left
 {
 intro w'
 go_simp
 with_reducible rfl
 }
 rotate_left
 · exact pt_
 refine pure_ (i := 2) (N := some 25) (v := ?_) (a' := ?_) (bA 14 7) rfl rfl (any_of HT_.out (by kernel_rfl)) (fun _ _ _ h => h) (Or.inl ⟨by rfl, ?_⟩) ?_ ?_
 rotate_left
 {
 intro w'
 go_simp
 with_reducible rfl
 }
 rotate_left
 · exact pt_
 refine pure_ (i := 3) (N := some 26) (v := ?_) (a' := ?_) (bA 14 15) rfl rfl (any_of HT_.out (by kernel_rfl)) (fun _ _ _ h => h) (Or.inl ⟨by rfl, ?_⟩) ?_ ?_
 rotate_left
 {
 intro w'
 go_simp
 with_reducible rfl
 }
 rotate_left
 · exact pt_
 refine pure_ (i := 4) (N := some 27) (v := ?_) (a' := ?_) (bA 14 31) rfl rfl (any_of HT_.out (by kernel_rfl)) (fun _ _ _ h => h) (Or.inl ⟨by rfl, ?_⟩) ?_ ?_
 rotate_left
 {
 intro w'
 go_simp
 with_reducible rfl
 }
 rotate_left
 · exact pt_
 refine pure_ (i := 5) (N := some 28) (v := undef) (a' := ?_) (bA 14 63) rfl rfl (any_of HT_.out (by kernel_rfl)) (fun _ _ _ h => h) (Or.inr ⟨by rfl, rfl⟩) ?_ ?_
 rotate_left
 · exact pt_
 refine pure_ (i := 6) (N := some 29) (v := undef) (a' := ?_) (bA 14 127) rfl rfl (any_of HT_.out (by kernel_rfl)) (fun _ _ _ h => h) (Or.inr ⟨by rfl, rfl⟩) ?_ ?_
 rotate_left
 · exact pt_
 refine pure_ (i := 7) (N := some 30) (v := undef) (a' := ?_) (bA 14 255) rfl rfl (any_of HT_.out (by kernel_rfl)) (fun _ _ _ h => h) (Or.inr ⟨by rfl, rfl⟩) ?_ ?_
 rotate_left
 · exact pt_
 refine pure_ (i := 8) (N := some 31) (v := undef) (a' := ?_) (bA 14 511) rfl rfl (any_of HT_.out (by kernel_rfl)) (fun _ _ _ h => h) (Or.inr ⟨by rfl, rfl⟩) ?_ ?_
 rotate_left
 · exact pt_
 refine pure_ (i := 9) (N := some 32) (v := undef) (a' := ?_) (bA 14 1023) rfl rfl (any_of HT_.out (by kernel_rfl)) (fun _ _ _ h => h) (Or.inr ⟨by rfl, rfl⟩) ?_ ?_
 rotate_left
 · exact pt_
 refine pure_ (i := 10) (N := some 33) (v := undef) (a' := ?_) (bA 14 2047) rfl rfl (any_of HT_.out (by kernel_rfl)) (fun _ _ _ h => h) (Or.inr ⟨by rfl, rfl⟩) ?_ ?_
 rotate_left
 · exact pt_
 refine pure_ (i := 11) (N := some 34) (v := undef) (a' := ?_) (bA 14 4095) rfl rfl (any_of HT_.out (by kernel_rfl)) (fun _ _ _ h => h) (Or.inr ⟨by rfl, rfl⟩) ?_ ?_
 rotate_left
 · exact pt_
 refine pure_ (i := 12) (N := some 35) (v := undef) (a' := ?_) (bA 14 8191) rfl rfl (any_of HT_.out (by kernel_rfl)) (fun _ _ _ h => h) (Or.inr ⟨by rfl, rfl⟩) ?_ ?_
 rotate_left
 · exact pt_
 refine pure_ (i := 13) (N := some 36) (v := ?_) (a' := ?_) (bA 14 16383) rfl rfl (any_of HT_.out (by kernel_rfl)) (fun _ _ _ h => h) (Or.inl ⟨by rfl, ?_⟩) ?_ ?_
 rotate_left
 {
 intro w'
 go_simp
 with_reducible rfl
 }
 rotate_left
 · exact pt_
 refine done_ (done_of HT_.out (by kernel_rfl)) ?_
 try go_wp2
 go_ret2
 exact ⟨by first | rfl | (simp [errW_none, errW_some] <;> rfl) | (simp [*, errW_none, errW_some] <;> rfl), by repeat (first | (with_reducible first | exact HB.out | apply below_alloc | apply pw_below_drewN | apply below_drew1 | refine below_set ?_ GE256.out | refine below_set ?_ GE258.out | refine below_set ?_ GE260.out) | exact HB.out)⟩
 )
 }
 {
 rw [if_neg c15] at H
 have c15b0 : decide ((l2.length : Int) ≤ x18_1) = false := decide_eq_false c15
 clear c15
 by_cases c22 : x18_1 < (l2.length : Int)
 {
 rw [if_pos c22] at H
 have c22b0 : decide (x18_1 < (l2.length : Int)) = true := decide_eq_true c22
 clear c22
 replace H := Option.bind_eq_some_iff.mp H
 obtain ⟨⟨t262, t263⟩, A230, H⟩ := H
 replace H : (if (!(((rd_T40 l2 x18_1).f0) == t262) || (!(((rd_T40 l2 x18_1).f1) == t263))) = true then (some (x18_1, 0)) else (impl_FirstFault.l0 k1 l1 l2 l1 (l1.length : Int) (wrap64 (x18_1 + 1)) ((rd_T40 l2 x18_1).f0) ((rd_T40 l2 x18_1).f1))) = some (r1, r2) := H
 have A23 := ak A230
 clear A230
 by_cases c24 : (!(((rd_T40 l2 x18_1).f0) == t262) || (!(((rd_T40 l2 x18_1).f1) == t263))) = true
 {
 rw [if_pos c24] at H
 have c24b0 : (!(((rd_T40 l2 x18_1).f0) == t262) || (!(((rd_T40 l2 x18_1).f1) == t263))) = true := c24
 clear c24
 as_aux_lemma => (
 simp only [Option.some.injEq, Prod.mk.injEq] at H
 obtain ⟨rfl, rfl⟩ := H
 have p259 : 0 ≤ (x18_1 : Int) := of_decide_eq_true (by first | (with_reducible assumption) | assumption)
 have q259 : x18_1 < (l1.length : Int) := of_decide_eq_true (by first | (with_reducible assumption) | assumption)
 obtain ⟨ad259, e259, hx259_0, hx259_1⟩ := at_T47 HR1.out x18_1 p259 q259
 cases e259
 replace hx259_0 := (HB.out.cell (World.block_lt_of_cell? w _ hx259_0)).trans hx259_0
 replace hx259_1 := (HB.out.cell (World.block_lt_of_cell? w _ hx259_1)).trans hx259_1
 replace p259 := eq_true p259
 replace q259 := eq_true q259
 try go_wp2_with (first | ((with_reducible refine gate_dst (N := 10) rfl ?_); refine box_event ?hg (N := 10) ?hd (cs := #[.int .i16 0, .int .i8 0]) (t := 47) ?hr ?_; (case hd => rfl); (case hg => rfl); (case hr => first | (go_simp; done) | (go_simp; rfl)); intro gb260 hg w25 hbox hb; have n0_ := ak (blk_below (g := gb256) (o := .cells #[.int .i16 a0_0, .slice A0_1 l0_1.length c0_1] 27 (0, 0)) (zK BK256.out) hb); have n1_ := ak (blk_below (g := gb258) (o := .cells #[.int .i64 x259000_1, .int .i64 x259001_1] 40 (0, 0)) (zK BK258.out) hb); have n2_ := ak (below_step (by repeat (first | (with_reducible first | exact HB.out | apply below_alloc | apply pw_below_drewN | apply below_drew1 | refine below_set ?_ GE256.out | refine below_set ?_ GE258.out) | exact HB.out)) hb); have n3_ := ak (hbox); have n4_ := ak ((by rw [hg]; exact (below_size (by repeat (first | (with_reducible first | exact HB.out | apply below_alloc | apply pw_below_drewN | apply below_drew1 | refine below_set ?_ GE256.out | refine below_set ?_ GE258.out) | exact HB.out))) : w.heap.size ≤ gb260)); have n5_ := ak ((by rw [hg]; exact (below_size (by repeat (first | (with_reducible first | exact HB.out | apply below_alloc | apply pw_below_drewN | apply below_drew1 | refine below_set ?_ GE256.out | refine below_set ?_ GE258.out) | exact HB.out))) : w.heap.size ≤ gb260)); have n6_ := ak ((by rw [hg]; exact Nat.ne_of_lt (blk_lt (g := gb256) (o := .cells #[.int .i16 a0_0, .slice A0_1 l0_1.length c0_1] 27 (0, 0)) (zK BK256.out)) : gb256 ≠ gb260)); have n7_ := ak ((by rw [hg]; exact Nat.ne_of_gt (blk_lt (g := gb256) (o := .cells #[.int .i16 a0_0, .slice A0_1 l0_1.length c0_1] 27 (0, 0)) (zK BK256.out)) : gb260 ≠ gb256)); have n8_ := ak ((by rw [hg]; exact Nat.ne_of_lt (blk_lt (g := gb258) (o := .cells #[.int .i64 x259000_1, .int .i64 x259001_1] 40 (0, 0)) (zK BK258.out)) : gb258 ≠ gb260)); have n9_ := ak ((by rw [hg]; exact Nat.ne_of_gt (blk_lt (g := gb258) (o := .cells #[.int .i64 x259000_1, .int .i64 x259001_1] 40 (0, 0)) (zK BK258.out)) : gb260 ≠ gb258)); clear BK256 BK258 HB; have BK256 := n0_; have BK258 := n1_; have HB := n2_; have BK260 := n3_; have GW260 := n4_; have GE260 := n5_; have NB256_260 := n6_; have NB260_256 := n7_; have NB258_260 := n8_; have NB260_258 := n9_; clear n0_ n1_ n2_ n3_ n4_ n5_ n6_ n7_ n8_ n9_; clear hb hbox hg; have hnb26 := NB260_256.out; have hnc26 := NB256_260.out; have hnb27 := NB260_258.out; have hnc27 := NB258_260.out; have hcz28_0 : w25.cell? ⟨gb260, 0, none⟩ = some (.int .i16 0) := (blk_cell BK260.out 0).trans rfl; have hcz28_1 : w25.cell? ⟨gb260, 1, none⟩ = some (.int .i8 0) := (blk_cell BK260.out 1).trans rfl; have hfz28_0 := blk_frozen BK260.out 0; have hfz28_1 := blk_frozen BK260.out 1))
 have n0_ : Aside0 (((w25.setCell ⟨gb260, 0, none⟩ (.int .i16 ((rd_T47 l1 x18_1).f0))).setCell ⟨gb260, 1, none⟩ (.int .i8 ((rd_T47 l1 x18_1).f1))).heap[gb256]? = some (.cells #[.int .i16 a0_0, .slice A0_1 l0_1.length c0_1] 27 (0, 0))) := ⟨by (with_reducible repeat (first | refine blk_drewN ?_ _ | refine blk_drew ?_ | refine blk_alloc ?_ _)); refine blk_far ?_ NB256_260.out _; (with_reducible repeat (first | refine blk_drewN ?_ _ | refine blk_drew ?_ | refine blk_alloc ?_ _)); refine blk_far ?_ NB256_260.out _; (with_reducible repeat (first | refine blk_drewN ?_ _ | refine blk_drew ?_ | refine blk_alloc ?_ _)); exact BK256.out⟩
 have n1_ : Aside0 (((w25.setCell ⟨gb260, 0, none⟩ (.int .i16 ((rd_T47 l1 x18_1).f0))).setCell ⟨gb260, 1, none⟩ (.int .i8 ((rd_T47 l1 x18_1).f1))).heap[gb258]? = some (.cells #[.int .i64 x259000_1, .int .i64 x259001_1] 40 (0, 0))) := ⟨by (with_reducible repeat (first | refine blk_drewN ?_ _ | refine blk_drew ?_ | refine blk_alloc ?_ _)); refine blk_far ?_ NB258_260.out _; (with_reducible repeat (first | refine blk_drewN ?_ _ | refine blk_drew ?_ | refine blk_alloc ?_ _)); refine blk_far ?_ NB258_260.out _; (with_reducible repeat (first | refine blk_drewN ?_ _ | refine blk_drew ?_ | refine blk_alloc ?_ _)); exact BK258.out⟩
 have n2_ : Aside0 (((w25.setCell ⟨gb260, 0, none⟩ (.int .i16 ((rd_T47 l1 x18_1).f0))).setCell ⟨gb260, 1, none⟩ (.int .i8 ((rd_T47 l1 x18_1).f1))).heap[gb260]? = some (.cells #[.int .i16 ((rd_T47 l1 x18_1).f0), .int .i8 ((rd_T47 l1 x18_1).f1)] 47 (0, 0))) := ⟨by (with_reducible repeat (first | refine blk_drewN ?_ _ | refine blk_drew ?_ | refine blk_alloc ?_ _)); refine blk_put (cs := #[.int .i16 ((rd_T47 l1 x18_1).f0), .int .i8 0]) ?_ 1 _ rfl; (with_reducible repeat (first | refine blk_drewN ?_ _ | refine blk_drew ?_ | refine blk_alloc ?_ _)); refine blk_put (cs := #[.int .i16 0, .int .i8 0]) ?_ 0 _ rfl; (with_reducible repeat (first | refine blk_drewN ?_ _ | refine blk_drew ?_ | refine blk_alloc ?_ _)); exact BK260.out⟩
 have n3_ : Aside0 (Below w.heap.size w ((w25.setCell ⟨gb260, 0, none⟩ (.int .i16 ((rd_T47 l1 x18_1).f0))).setCell ⟨gb260, 1, none⟩ (.int .i8 ((rd_T47 l1 x18_1).f1)))) := ⟨by repeat (first | (with_reducible first | exact HB.out | apply below_alloc | apply pw_below_drewN | apply below_drew1 | refine below_set ?_ GE256.out | refine below_set ?_ GE258.out | refine below_set ?_ GE260.out) | exact HB.out)⟩
 (try clear BK256)
 (try clear BK258)
 (try clear BK260)
 (try clear HB)
 generalize ((w25.setCell ⟨gb260, 0, none⟩ (.int .i16 ((rd_T47 l1 x18_1).f0))).setCell ⟨gb260, 1, none⟩ (.int .i8 ((rd_T47 l1 x18_1).f1))) = w29 at n0_ n1_ n2_ n3_ ⊢
 have BK256 := n0_
 have BK258 := n1_
 have BK260 := n2_
 have HB := n3_
 clear n0_ n1_ n2_ n3_
 have n0_ := ak (blk_drew BK256.out)
 have n1_ := ak (blk_drew BK258.out)
 have n2_ := ak (blk_drew BK260.out)
 have n3_ := ak (below_drew1 HB.out)
 clear BK256 BK258 BK260 HB
 have BK256 := n0_
 have BK258 := n1_
 have BK260 := n2_
 have HB := n3_
 clear n0_ n1_ n2_ n3_
 have p261 : 0 ≤ (x18_1 : Int) := of_decide_eq_true (by first | (with_reducible assumption) | assumption)
 have q261 : x18_1 < (l2.length : Int) := of_decide_eq_true (by first | (with_reducible assumption) | assumption)
 obtain ⟨ad261, e261, hx261_0, hx261_1⟩ := at_T40 HR2.out x18_1 p261 q261
 have hw261_1 := hx261_1
 have hw261_0 := hx261_0
 cases e261
 replace hx261_0 := (HB.out.cell (World.block_lt_of_cell? w _ hx261_0)).trans hx261_0
 replace hx261_1 := (HB.out.cell (World.block_lt_of_cell? w _ hx261_1)).trans hx261_1
 replace p261 := eq_true p261
 replace q261 := eq_true q261
 refine start_ (n := 14) (S := fun w' => w'.cell? ⟨gb258, 0, none⟩ = some (.int .i64 x259000_1) ∧ w'.cell? ⟨gb258, 1, none⟩ = some (.int .i64 x259001_1) ∧ w'.cell? ⟨gb260, 0, none⟩ = some (.int .i16 ((rd_T47 l1 x18_1).f0)) ∧ w'.cell? ⟨gb260, 1, none⟩ = some (.int .i8 ((rd_T47 l1 x18_1).f1)) ∧ w'.cell? (ad261.add ((x18_1).toNat * 2)) = some (.int .i64 ((rd_T40 l2 x18_1).f0)) ∧ w'.cell? ⟨(ad261.add ((x18_1).toNat * 2)).block, (ad261.add ((x18_1).toNat * 2)).off + 1, none⟩ = some (.int .i64 ((rd_T40 l2 x18_1).f1))) (ds := []) (bA 14 0) (by kernel_rfl) rfl rfl ⟨(blk_cell BK258.out 0).trans rfl, (blk_cell BK258.out 1).trans rfl, (blk_cell BK260.out 0).trans rfl, (blk_cell BK260.out 1).trans rfl, ((HB.out.cell (World.block_lt_of_cell? w _ hw261_0)).trans hw261_0), ((HB.out.cell (World.block_lt_of_cell? w _ hw261_1)).trans hw261_1)⟩ (fun hHeld => ?_); refine with_tabW impl_FirstFault.tab7 impl_FirstFault.bits7 (fun HT_ HW_ => ?_)
 generalize w29.drew = w30 at BK256 BK258 BK260 HB hx261_0 hx261_1 hHeld ⊢
 refine pure_ (i := 0) (N := some 23) (v := ?_) (a' := ?_) (bA 14 1) rfl rfl (any_of HT_.out (by kernel_rfl)) (fun _ _ _ h => h) (Or.inl ⟨by rfl, ?_⟩) ?_ ?_
 rotate_left
 {
 intro w'
 go_simp
 with_reducible rfl
 }
 rotate_left
 · exact pt_
 refine pure_ (i := 1) (N := some 24) (v := ?_) (a' := ?_) (bA 14 3) rfl rfl (any_of HT_.out (by kernel_rfl)) (fun _ _ _ h => h) (Or.inl ⟨by rfl, ?_⟩) ?_ ?_
 rotate_left
 {
 intro w'
 go_simp
 with_reducible rfl
 }
 rotate_left
 · exact pt_
 refine pure_ (i := 2) (N := some 25) (v := ?_) (a' := ?_) (bA 14 7) rfl rfl (any_of HT_.out (by kernel_rfl)) (fun _ _ _ h => h) (Or.inl ⟨by rfl, ?_⟩) ?_ ?_
 rotate_left
 {
 intro w'
 go_simp
 with_reducible rfl
 }
 rotate_left
 · exact pt_
 refine pure_ (i := 3) (N := some 26) (v := ?_) (a' := ?_) (bA 14 15) rfl rfl (any_of HT_.out (by kernel_rfl)) (fun _ _ _ h => h) (Or.inl ⟨by rfl, ?_⟩) ?_ ?_
 rotate_left
 {
 intro w'
 go_simp
 with_reducible rfl
 }
 rotate_left
 · exact pt_
 refine pure_ (i := 4) (N := some 27) (v := ?_) (a' := ?_) (bA 14 31) rfl rfl (any_of HT_.out (by kernel_rfl)) (fun _ _ _ h => h) (Or.inl ⟨by rfl, ?_⟩) ?_ ?_
 rotate_left
 {
 intro w'
 go_simp
 with_reducible rfl
 }
 rotate_left
 · exact pt_
 refine pure_ (i := 5) (N := some 28) (v := ?_) (a' := ?_) (bA 14 63) rfl rfl (any_of HT_.out (by kernel_rfl)) (fun _ _ _ h => h) (Or.inl ⟨by rfl, ?_⟩) ?_ ?_
 rotate_left
 {
 intro w'
 go_simp
 with_reducible rfl
 }
 rotate_left
 · exact pt_
 refine pure_ (i := 6) (N := some 29) (v := ?_) (a' := ?_) (bA 14 127) rfl rfl (any_of HT_.out (by kernel_rfl)) (fun _ _ _ h => h) (Or.inl ⟨by rfl, ?_⟩) ?_ ?_
 rotate_left
 {
 intro w'
 go_simp
 with_reducible rfl
 }
 rotate_left
 · exact pt_
 refine pure_ (i := 7) (N := some 30) (v := ?_) (a' := ?_) (bA 14 255) rfl rfl (any_of HT_.out (by kernel_rfl)) (fun _ _ _ h => h) (Or.inl ⟨by rfl, ?_⟩) ?_ ?_
 rotate_left
 {
 intro w'
 go_simp
 with_reducible rfl
 }
 rotate_left
 · exact pt_
 refine take_ (i := 8) (N := some 31) (v := ?_) (a' := ?_) (bA 14 511) rfl rfl (take_ofW HT_.out HW_.out (by kernel_rfl)) (fun _ _ _ h => h) (Or.inl ⟨by rfl, ?_⟩) hHeld ?_ ?_
 rotate_left
 {
 rintro w' ⟨s0, s1, s2, s3, s4, s5⟩
 go_simp
 with_reducible rfl
 }
 rotate_left
 · exact pt_
 refine take_ (i := 9) (N := some 32) (v := ?_) (a' := ?_) (bA 14 1023) rfl rfl (take_ofW HT_.out HW_.out (by kernel_rfl)) (fun _ _ _ h => h) (Or.inl ⟨by rfl, ?_⟩) hHeld ?_ ?_
 rotate_left
 {
 rintro w' ⟨s0, s1, s2, s3, s4, s5⟩
 go_simp
 with_reducible rfl
 }
 rotate_left
 · exact pt_
 refine take_ (i := 10) (N := some 33) (v := ?_) (a' := ?_) (bA 14 2047) rfl rfl (take_ofW HT_.out HW_.out (by kernel_rfl)) (fun _ _ _ h => h) (Or.inl ⟨by rfl, ?_⟩) hHeld ?_ ?_
 rotate_left
 {
 rintro w' ⟨s0, s1, s2, s3, s4, s5⟩
 go_simp
 with_reducible rfl
 }
 rotate_left
 · exact pt_
 refine one_ (i := 11) (N := some 34) (bA 14 4095) rfl rfl (one_of HT_.out (by kernel_rfl)) (by decide) (fun K hK => ?_)
 refine goes_ Try.func29 (by kernel_rfl) rfl #[.agg #[.int .i64 x259000_1, .int .i64 x259001_1], .agg #[.int .i16 ((rd_T47 l1 x18_1).f0), .int .i8 ((rd_T47 l1 x18_1).f1)]] (by rfl) rfl rfl gl_ ?_
 with_reducible refine (impl_Said_follows.calls x259000_1 x259001_1 ((rd_T47 l1 x18_1).f0) ((rd_T47 l1 x18_1).f1) t262 t263 _ A23.out).mono ?_
 rintro e w31 ⟨rfl, hb⟩
 refine ⟨_, rfl, ?_⟩
 have n0_ := ak (blk_below (g := gb256) (o := .cells #[.int .i16 a0_0, .slice A0_1 l0_1.length c0_1] 27 (0, 0)) (zK BK256.out) hb)
 have n1_ := ak (blk_below (g := gb258) (o := .cells #[.int .i64 x259000_1, .int .i64 x259001_1] 40 (0, 0)) (zK BK258.out) hb)
 have n2_ := ak (blk_below (g := gb260) (o := .cells #[.int .i16 ((rd_T47 l1 x18_1).f0), .int .i8 ((rd_T47 l1 x18_1).f1)] 47 (0, 0)) (zK BK260.out) hb)
 have n3_ := ak (below_step (by repeat (first | (with_reducible first | exact HB.out | apply below_alloc | apply pw_below_drewN | apply below_drew1 | refine below_set ?_ GE256.out | refine below_set ?_ GE258.out | refine below_set ?_ GE260.out) | exact HB.out)) hb)
 clear BK256 BK258 BK260 HB
 have BK256 := n0_
 have BK258 := n1_
 have BK260 := n2_
 have HB := n3_
 clear n0_ n1_ n2_ n3_
 (try clear hb)
 (try clear hb2)
 (try clear hk)
 (try clear hi)
 refine hK.out _ _ ⟨(blk_cell BK258.out 0).trans rfl, (blk_cell BK258.out 1).trans rfl, (blk_cell BK260.out 0).trans rfl, (blk_cell BK260.out 1).trans rfl, ((HB.out.cell (World.block_lt_of_cell? w _ hw261_0)).trans hw261_0), ((HB.out.cell (World.block_lt_of_cell? w _ hw261_1)).trans hw261_1)⟩ (fun hHeld => ?_)
 clear hK K
 refine norm_ (a' := ?_) ?_ ?_
 rotate_left
 {
 show Act.put _ (some 34) _ = _
 simp only [Act.put, zs, zz, zk, i64_w, i32_w]
 rfl
 }
 refine pure_ (i := 12) (N := some 35) (v := ?_) (a' := ?_) (bA 14 8191) rfl rfl (any_of HT_.out (by kernel_rfl)) (fun _ _ _ h => h) (Or.inl ⟨by rfl, ?_⟩) ?_ ?_
 rotate_left
 {
 intro w'
 go_simp
 with_reducible rfl
 }
 rotate_left
 · exact pt_
 refine pure_ (i := 13) (N := some 36) (v := ?_) (a' := ?_) (bA 14 16383) rfl rfl (any_of HT_.out (by kernel_rfl)) (fun _ _ _ h => h) (Or.inl ⟨by rfl, ?_⟩) ?_ ?_
 rotate_left
 {
 intro w'
 go_simp
 with_reducible rfl
 }
 rotate_left
 · exact pt_
 refine done_ (done_of HT_.out (by kernel_rfl)) ?_
 try go_wp2
 go_ret2
 exact ⟨by first | rfl | (simp [errW_none, errW_some] <;> rfl) | (simp [*, errW_none, errW_some] <;> rfl), by repeat (first | (with_reducible first | exact HB.out | apply below_alloc | apply pw_below_drewN | apply below_drew1 | refine below_set ?_ GE256.out | refine below_set ?_ GE258.out | refine below_set ?_ GE260.out) | exact HB.out)⟩
 )
 }
 {
 rw [if_neg c24] at H
 have c24b0 : (!(((rd_T40 l2 x18_1).f0) == t262) || (!(((rd_T40 l2 x18_1).f1) == t263))) = false := by simpa using c24
 clear c24
 as_aux_lemma => (
 have H' := ak H
 clear H
 have p259 : 0 ≤ (x18_1 : Int) := of_decide_eq_true (by first | (with_reducible assumption) | assumption)
 have q259 : x18_1 < (l1.length : Int) := of_decide_eq_true (by first | (with_reducible assumption) | assumption)
 obtain ⟨ad259, e259, hx259_0, hx259_1⟩ := at_T47 HR1.out x18_1 p259 q259
 cases e259
 replace hx259_0 := (HB.out.cell (World.block_lt_of_cell? w _ hx259_0)).trans hx259_0
 replace hx259_1 := (HB.out.cell (World.block_lt_of_cell? w _ hx259_1)).trans hx259_1
 replace p259 := eq_true p259
 replace q259 := eq_true q259
 try go_wp2_with (first | ((with_reducible refine gate_dst (N := 10) rfl ?_); refine box_event ?hg (N := 10) ?hd (cs := #[.int .i16 0, .int .i8 0]) (t := 47) ?hr ?_; (case hd => rfl); (case hg => rfl); (case hr => first | (go_simp; done) | (go_simp; rfl)); intro gb260 hg w32 hbox hb; have n0_ := ak (blk_below (g := gb256) (o := .cells #[.int .i16 a0_0, .slice A0_1 l0_1.length c0_1] 27 (0, 0)) (zK BK256.out) hb); have n1_ := ak (blk_below (g := gb258) (o := .cells #[.int .i64 x259000_1, .int .i64 x259001_1] 40 (0, 0)) (zK BK258.out) hb); have n2_ := ak (below_step (by repeat (first | (with_reducible first | exact HB.out | apply below_alloc | apply pw_below_drewN | apply below_drew1 | refine below_set ?_ GE256.out | refine below_set ?_ GE258.out) | exact HB.out)) hb); have n3_ := ak (hbox); have n4_ := ak ((by rw [hg]; exact (below_size (by repeat (first | (with_reducible first | exact HB.out | apply below_alloc | apply pw_below_drewN | apply below_drew1 | refine below_set ?_ GE256.out | refine below_set ?_ GE258.out) | exact HB.out))) : w.heap.size ≤ gb260)); have n5_ := ak ((by rw [hg]; exact (below_size (by repeat (first | (with_reducible first | exact HB.out | apply below_alloc | apply pw_below_drewN | apply below_drew1 | refine below_set ?_ GE256.out | refine below_set ?_ GE258.out) | exact HB.out))) : w.heap.size ≤ gb260)); have n6_ := ak ((by rw [hg]; exact Nat.ne_of_lt (blk_lt (g := gb256) (o := .cells #[.int .i16 a0_0, .slice A0_1 l0_1.length c0_1] 27 (0, 0)) (zK BK256.out)) : gb256 ≠ gb260)); have n7_ := ak ((by rw [hg]; exact Nat.ne_of_gt (blk_lt (g := gb256) (o := .cells #[.int .i16 a0_0, .slice A0_1 l0_1.length c0_1] 27 (0, 0)) (zK BK256.out)) : gb260 ≠ gb256)); have n8_ := ak ((by rw [hg]; exact Nat.ne_of_lt (blk_lt (g := gb258) (o := .cells #[.int .i64 x259000_1, .int .i64 x259001_1] 40 (0, 0)) (zK BK258.out)) : gb258 ≠ gb260)); have n9_ := ak ((by rw [hg]; exact Nat.ne_of_gt (blk_lt (g := gb258) (o := .cells #[.int .i64 x259000_1, .int .i64 x259001_1] 40 (0, 0)) (zK BK258.out)) : gb260 ≠ gb258)); clear BK256 BK258 HB; have BK256 := n0_; have BK258 := n1_; have HB := n2_; have BK260 := n3_; have GW260 := n4_; have GE260 := n5_; have NB256_260 := n6_; have NB260_256 := n7_; have NB258_260 := n8_; have NB260_258 := n9_; clear n0_ n1_ n2_ n3_ n4_ n5_ n6_ n7_ n8_ n9_; clear hb hbox hg; have hnb33 := NB260_256.out; have hnc33 := NB256_260.out; have hnb34 := NB260_258.out; have hnc34 := NB258_260.out; have hcz35_0 : w32.cell? ⟨gb260, 0, none⟩ = some (.int .i16 0) := (blk_cell BK260.out 0).trans rfl; have hcz35_1 : w32.cell? ⟨gb260, 1, none⟩ = some (.int .i8 0) := (blk_cell BK260.out 1).trans rfl; have hfz35_0 := blk_frozen BK260.out 0; have hfz35_1 := blk_frozen BK260.out 1))
 have n0_ : Aside0 (((w32.setCell ⟨gb260, 0, none⟩ (.int .i16 ((rd_T47 l1 x18_1).f0))).setCell ⟨gb260, 1, none⟩ (.int .i8 ((rd_T47 l1 x18_1).f1))).heap[gb256]? = some (.cells #[.int .i16 a0_0, .slice A0_1 l0_1.length c0_1] 27 (0, 0))) := ⟨by (with_reducible repeat (first | refine blk_drewN ?_ _ | refine blk_drew ?_ | refine blk_alloc ?_ _)); refine blk_far ?_ NB256_260.out _; (with_reducible repeat (first | refine blk_drewN ?_ _ | refine blk_drew ?_ | refine blk_alloc ?_ _)); refine blk_far ?_ NB256_260.out _; (with_reducible repeat (first | refine blk_drewN ?_ _ | refine blk_drew ?_ | refine blk_alloc ?_ _)); exact BK256.out⟩
 have n1_ : Aside0 (((w32.setCell ⟨gb260, 0, none⟩ (.int .i16 ((rd_T47 l1 x18_1).f0))).setCell ⟨gb260, 1, none⟩ (.int .i8 ((rd_T47 l1 x18_1).f1))).heap[gb258]? = some (.cells #[.int .i64 x259000_1, .int .i64 x259001_1] 40 (0, 0))) := ⟨by (with_reducible repeat (first | refine blk_drewN ?_ _ | refine blk_drew ?_ | refine blk_alloc ?_ _)); refine blk_far ?_ NB258_260.out _; (with_reducible repeat (first | refine blk_drewN ?_ _ | refine blk_drew ?_ | refine blk_alloc ?_ _)); refine blk_far ?_ NB258_260.out _; (with_reducible repeat (first | refine blk_drewN ?_ _ | refine blk_drew ?_ | refine blk_alloc ?_ _)); exact BK258.out⟩
 have n2_ : Aside0 (((w32.setCell ⟨gb260, 0, none⟩ (.int .i16 ((rd_T47 l1 x18_1).f0))).setCell ⟨gb260, 1, none⟩ (.int .i8 ((rd_T47 l1 x18_1).f1))).heap[gb260]? = some (.cells #[.int .i16 ((rd_T47 l1 x18_1).f0), .int .i8 ((rd_T47 l1 x18_1).f1)] 47 (0, 0))) := ⟨by (with_reducible repeat (first | refine blk_drewN ?_ _ | refine blk_drew ?_ | refine blk_alloc ?_ _)); refine blk_put (cs := #[.int .i16 ((rd_T47 l1 x18_1).f0), .int .i8 0]) ?_ 1 _ rfl; (with_reducible repeat (first | refine blk_drewN ?_ _ | refine blk_drew ?_ | refine blk_alloc ?_ _)); refine blk_put (cs := #[.int .i16 0, .int .i8 0]) ?_ 0 _ rfl; (with_reducible repeat (first | refine blk_drewN ?_ _ | refine blk_drew ?_ | refine blk_alloc ?_ _)); exact BK260.out⟩
 have n3_ : Aside0 (Below w.heap.size w ((w32.setCell ⟨gb260, 0, none⟩ (.int .i16 ((rd_T47 l1 x18_1).f0))).setCell ⟨gb260, 1, none⟩ (.int .i8 ((rd_T47 l1 x18_1).f1)))) := ⟨by repeat (first | (with_reducible first | exact HB.out | apply below_alloc | apply pw_below_drewN | apply below_drew1 | refine below_set ?_ GE256.out | refine below_set ?_ GE258.out | refine below_set ?_ GE260.out) | exact HB.out)⟩
 (try clear BK256)
 (try clear BK258)
 (try clear BK260)
 (try clear HB)
 generalize ((w32.setCell ⟨gb260, 0, none⟩ (.int .i16 ((rd_T47 l1 x18_1).f0))).setCell ⟨gb260, 1, none⟩ (.int .i8 ((rd_T47 l1 x18_1).f1))) = w36 at n0_ n1_ n2_ n3_ ⊢
 have BK256 := n0_
 have BK258 := n1_
 have BK260 := n2_
 have HB := n3_
 clear n0_ n1_ n2_ n3_
 have n0_ := ak (blk_drew BK256.out)
 have n1_ := ak (blk_drew BK258.out)
 have n2_ := ak (blk_drew BK260.out)
 have n3_ := ak (below_drew1 HB.out)
 clear BK256 BK258 BK260 HB
 have BK256 := n0_
 have BK258 := n1_
 have BK260 := n2_
 have HB := n3_
 clear n0_ n1_ n2_ n3_
 have p261 : 0 ≤ (x18_1 : Int) := of_decide_eq_true (by first | (with_reducible assumption) | assumption)
 have q261 : x18_1 < (l2.length : Int) := of_decide_eq_true (by first | (with_reducible assumption) | assumption)
 obtain ⟨ad261, e261, hx261_0, hx261_1⟩ := at_T40 HR2.out x18_1 p261 q261
 have hw261_1 := hx261_1
 have hw261_0 := hx261_0
 cases e261
 replace hx261_0 := (HB.out.cell (World.block_lt_of_cell? w _ hx261_0)).trans hx261_0
 replace hx261_1 := (HB.out.cell (World.block_lt_of_cell? w _ hx261_1)).trans hx261_1
 replace p261 := eq_true p261
 replace q261 := eq_true q261
 refine start_ (n := 14) (S := fun w' => w'.cell? ⟨gb258, 0, none⟩ = some (.int .i64 x259000_1) ∧ w'.cell? ⟨gb258, 1, none⟩ = some (.int .i64 x259001_1) ∧ w'.cell? ⟨gb260, 0, none⟩ = some (.int .i16 ((rd_T47 l1 x18_1).f0)) ∧ w'.cell? ⟨gb260, 1, none⟩ = some (.int .i8 ((rd_T47 l1 x18_1).f1)) ∧ w'.cell? (ad261.add ((x18_1).toNat * 2)) = some (.int .i64 ((rd_T40 l2 x18_1).f0)) ∧ w'.cell? ⟨(ad261.add ((x18_1).toNat * 2)).block, (ad261.add ((x18_1).toNat * 2)).off + 1, none⟩ = some (.int .i64 ((rd_T40 l2 x18_1).f1))) (ds := []) (bA 14 0) (by kernel_rfl) rfl rfl ⟨(blk_cell BK258.out 0).trans rfl, (blk_cell BK258.out 1).trans rfl, (blk_cell BK260.out 0).trans rfl, (blk_cell BK260.out 1).trans rfl, ((HB.out.cell (World.block_lt_of_cell? w _ hw261_0)).trans hw261_0), ((HB.out.cell (World.block_lt_of_cell? w _ hw261_1)).trans hw261_1)⟩ (fun hHeld => ?_); refine with_tabW impl_FirstFault.tab7 impl_FirstFault.bits7 (fun HT_ HW_ => ?_)
 generalize w36.drew = w37 at BK256 BK258 BK260 HB hx261_0 hx261_1 hHeld ⊢
 refine pure_ (i := 0) (N := some 23) (v := ?_) (a' := ?_) (bA 14 1) rfl rfl (any_of HT_.out (by kernel_rfl)) (fun _ _ _ h => h) (Or.inl ⟨by rfl, ?_⟩) ?_ ?_
 rotate_left
 {
 intro w'
 go_simp
 with_reducible rfl
 }
 rotate_left
 · exact pt_
 refine pure_ (i := 1) (N := some 24) (v := ?_) (a' := ?_) (bA 14 3) rfl rfl (any_of HT_.out (by kernel_rfl)) (fun _ _ _ h => h) (Or.inl ⟨by rfl, ?_⟩) ?_ ?_
 rotate_left
 {
 intro w'
 go_simp
 with_reducible rfl
 }
 rotate_left
 · exact pt_
 refine pure_ (i := 2) (N := some 25) (v := ?_) (a' := ?_) (bA 14 7) rfl rfl (any_of HT_.out (by kernel_rfl)) (fun _ _ _ h => h) (Or.inl ⟨by rfl, ?_⟩) ?_ ?_
 rotate_left
 {
 intro w'
 go_simp
 with_reducible rfl
 }
 rotate_left
 · exact pt_
 refine pure_ (i := 3) (N := some 26) (v := ?_) (a' := ?_) (bA 14 15) rfl rfl (any_of HT_.out (by kernel_rfl)) (fun _ _ _ h => h) (Or.inl ⟨by rfl, ?_⟩) ?_ ?_
 rotate_left
 {
 intro w'
 go_simp
 with_reducible rfl
 }
 rotate_left
 · exact pt_
 refine pure_ (i := 4) (N := some 27) (v := ?_) (a' := ?_) (bA 14 31) rfl rfl (any_of HT_.out (by kernel_rfl)) (fun _ _ _ h => h) (Or.inl ⟨by rfl, ?_⟩) ?_ ?_
 rotate_left
 {
 intro w'
 go_simp
 with_reducible rfl
 }
 rotate_left
 · exact pt_
 refine pure_ (i := 5) (N := some 28) (v := ?_) (a' := ?_) (bA 14 63) rfl rfl (any_of HT_.out (by kernel_rfl)) (fun _ _ _ h => h) (Or.inl ⟨by rfl, ?_⟩) ?_ ?_
 rotate_left
 {
 intro w'
 go_simp
 with_reducible rfl
 }
 rotate_left
 · exact pt_
 refine pure_ (i := 6) (N := some 29) (v := ?_) (a' := ?_) (bA 14 127) rfl rfl (any_of HT_.out (by kernel_rfl)) (fun _ _ _ h => h) (Or.inl ⟨by rfl, ?_⟩) ?_ ?_
 rotate_left
 {
 intro w'
 go_simp
 with_reducible rfl
 }
 rotate_left
 · exact pt_
 refine pure_ (i := 7) (N := some 30) (v := ?_) (a' := ?_) (bA 14 255) rfl rfl (any_of HT_.out (by kernel_rfl)) (fun _ _ _ h => h) (Or.inl ⟨by rfl, ?_⟩) ?_ ?_
 rotate_left
 {
 intro w'
 go_simp
 with_reducible rfl
 }
 rotate_left
 · exact pt_
 refine take_ (i := 8) (N := some 31) (v := ?_) (a' := ?_) (bA 14 511) rfl rfl (take_ofW HT_.out HW_.out (by kernel_rfl)) (fun _ _ _ h => h) (Or.inl ⟨by rfl, ?_⟩) hHeld ?_ ?_
 rotate_left
 {
 rintro w' ⟨s0, s1, s2, s3, s4, s5⟩
 go_simp
 with_reducible rfl
 }
 rotate_left
 · exact pt_
 refine take_ (i := 9) (N := some 32) (v := ?_) (a' := ?_) (bA 14 1023) rfl rfl (take_ofW HT_.out HW_.out (by kernel_rfl)) (fun _ _ _ h => h) (Or.inl ⟨by rfl, ?_⟩) hHeld ?_ ?_
 rotate_left
 {
 rintro w' ⟨s0, s1, s2, s3, s4, s5⟩
 go_simp
 with_reducible rfl
 }
 rotate_left
 · exact pt_
 refine take_ (i := 10) (N := some 33) (v := ?_) (a' := ?_) (bA 14 2047) rfl rfl (take_ofW HT_.out HW_.out (by kernel_rfl)) (fun _ _ _ h => h) (Or.inl ⟨by rfl, ?_⟩) hHeld ?_ ?_
 rotate_left
 {
 rintro w' ⟨s0, s1, s2, s3, s4, s5⟩
 go_simp
 with_reducible rfl
 }
 rotate_left
 · exact pt_
 refine one_ (i := 11) (N := some 34) (bA 14 4095) rfl rfl (one_of HT_.out (by kernel_rfl)) (by decide) (fun K hK => ?_)
 refine goes_ Try.func29 (by kernel_rfl) rfl #[.agg #[.int .i64 x259000_1, .int .i64 x259001_1], .agg #[.int .i16 ((rd_T47 l1 x18_1).f0), .int .i8 ((rd_T47 l1 x18_1).f1)]] (by rfl) rfl rfl gl_ ?_
 with_reducible refine (impl_Said_follows.calls x259000_1 x259001_1 ((rd_T47 l1 x18_1).f0) ((rd_T47 l1 x18_1).f1) t262 t263 _ A23.out).mono ?_
 rintro e w38 ⟨rfl, hb⟩
 refine ⟨_, rfl, ?_⟩
 have n0_ := ak (blk_below (g := gb256) (o := .cells #[.int .i16 a0_0, .slice A0_1 l0_1.length c0_1] 27 (0, 0)) (zK BK256.out) hb)
 have n1_ := ak (blk_below (g := gb258) (o := .cells #[.int .i64 x259000_1, .int .i64 x259001_1] 40 (0, 0)) (zK BK258.out) hb)
 have n2_ := ak (blk_below (g := gb260) (o := .cells #[.int .i16 ((rd_T47 l1 x18_1).f0), .int .i8 ((rd_T47 l1 x18_1).f1)] 47 (0, 0)) (zK BK260.out) hb)
 have n3_ := ak (below_step (by repeat (first | (with_reducible first | exact HB.out | apply below_alloc | apply pw_below_drewN | apply below_drew1 | refine below_set ?_ GE256.out | refine below_set ?_ GE258.out | refine below_set ?_ GE260.out) | exact HB.out)) hb)
 clear BK256 BK258 BK260 HB
 have BK256 := n0_
 have BK258 := n1_
 have BK260 := n2_
 have HB := n3_
 clear n0_ n1_ n2_ n3_
 (try clear hb)
 (try clear hb2)
 (try clear hk)
 (try clear hi)
 refine hK.out _ _ ⟨(blk_cell BK258.out 0).trans rfl, (blk_cell BK258.out 1).trans rfl, (blk_cell BK260.out 0).trans rfl, (blk_cell BK260.out 1).trans rfl, ((HB.out.cell (World.block_lt_of_cell? w _ hw261_0)).trans hw261_0), ((HB.out.cell (World.block_lt_of_cell? w _ hw261_1)).trans hw261_1)⟩ (fun hHeld => ?_)
 clear hK K
 refine norm_ (a' := ?_) ?_ ?_
 rotate_left
 {
 show Act.put _ (some 34) _ = _
 simp only [Act.put, zs, zz, zk, i64_w, i32_w]
 rfl
 }
 refine pure_ (i := 12) (N := some 35) (v := ?_) (a' := ?_) (bA 14 8191) rfl rfl (any_of HT_.out (by kernel_rfl)) (fun _ _ _ h => h) (Or.inl ⟨by rfl, ?_⟩) ?_ ?_
 rotate_left
 {
 intro w'
 go_simp
 with_reducible rfl
 }
 rotate_left
 · exact pt_
 refine pure_ (i := 13) (N := some 36) (v := ?_) (a' := ?_) (bA 14 16383) rfl rfl (any_of HT_.out (by kernel_rfl)) (fun _ _ _ h => h) (Or.inl ⟨by rfl, ?_⟩) ?_ ?_
 rotate_left
 {
 intro w'
 go_simp
 with_reducible rfl
 }
 rotate_left
 · exact pt_
 refine done_ (done_of HT_.out (by kernel_rfl)) ?_
 have p264 : 0 ≤ (x18_1 : Int) := of_decide_eq_true (by first | (with_reducible assumption) | assumption)
 have q264 : x18_1 < (l2.length : Int) := of_decide_eq_true (by first | (with_reducible assumption) | assumption)
 obtain ⟨ad264, e264, hx264_0, hx264_1⟩ := at_T40 HR2.out x18_1 p264 q264
 obtain rfl : ad261 = ad264 := (by injection e264)
 replace hx264_0 := (HB.out.cell (World.block_lt_of_cell? w _ hx264_0)).trans hx264_0
 replace hx264_1 := (HB.out.cell (World.block_lt_of_cell? w _ hx264_1)).trans hx264_1
 replace p264 := eq_true p264
 replace q264 := eq_true q264
 have hnb39 := NB258_256.out
 have hnc39 := NB256_258.out
 have hcz40_0 : w38.cell? ⟨gb258, 0, none⟩ = some (.int .i64 x259000_1) := (blk_cell BK258.out 0).trans rfl
 have hcz40_1 : w38.cell? ⟨gb258, 1, none⟩ = some (.int .i64 x259001_1) := (blk_cell BK258.out 1).trans rfl
 have hfz40_0 := blk_frozen BK258.out 0
 have hfz40_1 := blk_frozen BK258.out 1
 try go_wp2
 go_roundg k1
 case measure => have := HK1.out; omega
 case rel => exact ⟨(wrap64 (x18_1 + 1)), ((rd_T40 l2 x18_1).f0), ((rd_T40 l2 x18_1).f1), (by first | rfl | (simp; done) | (simp [*]; done)), H', ⟨by have := HK1.out; omega⟩, ⟨by (with_reducible repeat (first | refine blk_drewN ?_ _ | refine blk_drew ?_ | refine blk_alloc ?_ _)); refine blk_far ?_ NB256_258.out _; (with_reducible repeat (first | refine blk_drewN ?_ _ | refine blk_drew ?_ | refine blk_alloc ?_ _)); refine blk_far ?_ NB256_258.out _; (with_reducible repeat (first | refine blk_drewN ?_ _ | refine blk_drew ?_ | refine blk_alloc ?_ _)); exact BK256.out⟩, ⟨by (with_reducible repeat (first | refine blk_drewN ?_ _ | refine blk_drew ?_ | refine blk_alloc ?_ _)); refine blk_put (cs := #[.int .i64 ((rd_T40 l2 x18_1).f0), .int .i64 x259001_1]) ?_ 1 _ rfl; (with_reducible repeat (first | refine blk_drewN ?_ _ | refine blk_drew ?_ | refine blk_alloc ?_ _)); refine blk_put (cs := #[.int .i64 x259000_1, .int .i64 x259001_1]) ?_ 0 _ rfl; (with_reducible repeat (first | refine blk_drewN ?_ _ | refine blk_drew ?_ | refine blk_alloc ?_ _)); exact BK258.out⟩, ⟨by repeat (first | (with_reducible first | exact HB.out | apply below_alloc | apply pw_below_drewN | apply below_drew1 | refine below_set ?_ GE256.out | refine below_set ?_ GE258.out | refine below_set ?_ GE260.out) | exact HB.out)⟩⟩
 )
 }
 }
 · rw [if_neg c22] at H; exact absurd H (by simp)
 }
 }
 · rw [if_neg c14] at H; exact absurd H (by simp)
 }
 · rw [if_neg c13] at H; exact absurd H (by simp)
 }
 {
 rw [if_neg c12] at H
 have c12b0 : decide (x18_1 < (l1.length : Int)) = false := decide_eq_false c12
 clear c12
 by_cases c41 : (l2.length : Int) > (l1.length : Int)
 {
 rw [if_pos c41] at H
 have c41b0 : decide ((l1.length : Int) < (l2.length : Int)) = true := decide_eq_true c41
 have c41b1 : decide (l1.length < l2.length) = true := decide_eq_true (Int.ofNat_lt.mp c41)
 clear c41
 replace H := Option.bind_eq_some_iff.mp H
 obtain ⟨t265, A420, H⟩ := H
 replace H : (some (t265, 0)) = some (r1, r2) := H
 have A42 := ak A420
 clear A420
 as_aux_lemma => (
 simp only [Option.some.injEq, Prod.mk.injEq] at H
 obtain ⟨rfl, rfl⟩ := H
 go_wp2_with (first | ((with_reducible refine gate_callee (f := 30) rfl ?_); refine goesL_ (some 49) rfl rfl Try.func30 (by kernel_rfl) rfl #[.slice A1 l1.length c1] rfl gl_ ?_; (with_reducible refine (impl_size_Hold.calls _ _ l1 t265 _ ?side1 ?side2 A42.out).mono ?_); (case side1 => repeat (first | exact (Kd.C_below HR1.out HB.out) | (with_reducible refine Kd.C_alloc ?_ _) | (with_reducible refine Kd.C_drewN ?_ _) | (with_reducible refine Kd.C_drew ?_))); (case side2 => exact HC1.out); rintro e w' ⟨rfl, ⟨nd, rfl⟩⟩; refine ⟨_, rfl, ?_⟩))
 go_ret2
 exact ⟨by first | rfl | (simp [errW_none, errW_some] <;> rfl) | (simp [*, errW_none, errW_some] <;> rfl), by repeat (first | (with_reducible first | exact HB.out | apply below_alloc | apply pw_below_drewN | apply below_drew1 | refine below_set ?_ GE256.out | refine below_set ?_ GE258.out) | exact HB.out)⟩
 )
 }
 {
 rw [if_neg c41] at H
 have c41b0 : decide ((l1.length : Int) < (l2.length : Int)) = false := decide_eq_false c41
 have c41b1 : decide (l1.length < l2.length) = false := decide_eq_false (fun h => c41 (Int.ofNat_lt.mpr h))
 clear c41
 as_aux_lemma => (
 simp only [Option.some.injEq, Prod.mk.injEq] at H
 obtain ⟨rfl, rfl⟩ := H
 go_wp2
 go_ret2
 exact ⟨by first | rfl | (simp [errW_none, errW_some] <;> rfl) | (simp [*, errW_none, errW_some] <;> rfl), by repeat (first | (with_reducible first | exact HB.out | apply below_alloc | apply pw_below_drewN | apply below_drew1 | refine below_set ?_ GE256.out | refine below_set ?_ GE258.out) | exact HB.out)⟩
 )
 }
 }
 )
 )
 }
 {
 replace c5 := Bool.eq_false_iff.mpr c5
 subst c5
 have H1 : (some (0, 1)) = some (r1, r2) := by rw [if_neg (show ¬ (false = true) by decide)] at H; exact H
 clear H
 have H := H1
 clear H1
 as_aux_lemma => (
 simp only [Option.some.injEq, Prod.mk.injEq] at H
 obtain ⟨rfl, rfl⟩ := H
 go_enter Try.func10, Try.ntmps10
 go_wp2_with (first | ((with_reducible refine gate_dst (N := 3) rfl ?_); refine box_event ?hg (N := 3) ?hd (cs := #[.int .i16 a0_0, .slice A0_1 l0_1.length c0_1]) (t := 27) ?hr ?_; (case hd => rfl); (case hg => rfl); (case hr => first | (go_simp; done) | (go_simp; rfl)); intro gb256 hg w43 hbox hb; have n0_ := ak (below_step (zB HB.out) hb); have n1_ := ak (hbox); have n2_ := ak ((by rw [hg]; exact (below_size (zB HB.out)) : w.heap.size ≤ gb256)); have n3_ := ak ((by rw [hg]; exact (below_size (zB HB.out)) : w.heap.size ≤ gb256)); clear HB; have HB := n0_; have BK256 := n1_; have GW256 := n2_; have GE256 := n3_; clear n0_ n1_ n2_ n3_; clear hb hbox hg; have hcz44_0 : w43.cell? ⟨gb256, 0, none⟩ = some (.int .i16 a0_0) := (blk_cell BK256.out 0).trans rfl; have hcz44_1 : w43.cell? ⟨gb256, 1, none⟩ = some (.slice A0_1 l0_1.length c0_1) := (blk_cell BK256.out 1).trans rfl; have hfz44_0 := blk_frozen BK256.out 0; have hfz44_1 := blk_frozen BK256.out 1) | ((with_reducible refine gate_callee (f := 24) rfl ?_); refine goesL_ (some 13) rfl rfl Try.func24 (by kernel_rfl) rfl #[.agg #[.int .i16 a0_0, .slice A0_1 l0_1.length c0_1], .slice A1 l1.length c1] rfl gl_ ?_; (with_reducible refine (impl_ValidHolds.calls k a0_0 _ _ l0_1 _ _ l1 false _ ?side1 ?side2 ?side3 ?side4 A4.out).mono ?_); (case side1 => repeat (first | exact (Kd.C_below HR0_1.out HB.out) | (with_reducible refine Kd.C_alloc ?_ _) | (with_reducible refine Kd.C_drewN ?_ _) | (with_reducible refine Kd.C_drew ?_))); (case side2 => exact HC0_1.out); (case side3 => repeat (first | exact (Kd.C_below HR1.out HB.out) | (with_reducible refine Kd.C_alloc ?_ _) | (with_reducible refine Kd.C_drewN ?_ _) | (with_reducible refine Kd.C_drew ?_))); (case side4 => exact HC1.out); rintro e w45 ⟨rfl, hb⟩; refine ⟨_, rfl, ?_⟩; have n0_ := ak (blk_below (g := gb256) (o := .cells #[.int .i16 a0_0, .slice A0_1 l0_1.length c0_1] 27 (0, 0)) (zK BK256.out) hb); have n1_ := ak (below_step (zBG HB.out GE256.out) hb); clear BK256 HB; have BK256 := n0_; have HB := n1_; clear n0_ n1_; (try clear hb); (try clear hb2); (try clear hk); (try clear hi)))
 go_ret2
 exact ⟨by first | rfl | (simp [errW_none, errW_some] <;> rfl) | (simp [*, errW_none, errW_some] <;> rfl), zBG HB.out GE256.out⟩
 )
 }
/-! ### spec_SameSaid: function 11 -/
def spec_SameSaid.l0 : Nat → List (S40) → List (S40) → Int → Option (Bool)
  | 0, _, _, _ => none
  | k + 1, x0, x1, x5 => if x5 < (x0.length : Int) then (if 0 ≤ x5 then (if x5 < (x1.length : Int) then (if (!(((rd_T40 x0 x5).f0) == ((rd_T40 x1 x5).f0)) || (!(((rd_T40 x0 x5).f1) == ((rd_T40 x1 x5).f1)))) = true then (some false) else (spec_SameSaid.l0 k x0 x1 (wrap64 (x5 + 1)))) else (none)) else (none)) else (some true)
def spec_SameSaid.f (k : Nat) (l0 : List (S40)) (l1 : List (S40)) : Option (Bool) := if (l0.length : Int) = (l1.length : Int) then (spec_SameSaid.l0 k l0 l1 0) else (some false)
theorem spec_SameSaid.mono_l : ∀ k, (∀ y0 y1 y2, LeO (spec_SameSaid.l0 k y0 y1 y2) (spec_SameSaid.l0 (k + 1) y0 y1 y2))
  | 0 => fun _ _ _ r h => by simp [spec_SameSaid.l0] at h
  | k + 1 => by
    have ih0 := spec_SameSaid.mono_l k
    · intro y0 y1 y2
      unfold spec_SameSaid.l0
      repeat' first
      | (with_reducible exact ih0 _ _ _)
      | (with_reducible exact LeO.refl _)
      | (with_reducible exact LeO.none _)
      | (with_reducible refine LeO.ite ?_ ?_)
      | (with_reducible refine LeO.bind ?_ (fun _ => ?_))
      | exact ih0 _ _ _
      | exact LeO.none _
      | refine LeO.ite ?_ ?_
      | refine LeO.bind ?_ (fun _ => ?_)
theorem spec_SameSaid.mono : ∀ a0 a1 k, LeO (spec_SameSaid.f k a0 a1) (spec_SameSaid.f (k + 1) a0 a1) := by
  intro a0 a1 k
  have ih0 := spec_SameSaid.mono_l k
  unfold spec_SameSaid.f
  repeat' first
      | (with_reducible exact ih0 _ _ _)
      | (with_reducible exact LeO.refl _)
      | (with_reducible exact LeO.none _)
      | (with_reducible refine LeO.ite ?_ ?_)
      | (with_reducible refine LeO.bind ?_ (fun _ => ?_))
      | exact ih0 _ _ _
      | exact LeO.none _
      | refine LeO.ite ?_ ?_
      | refine LeO.bind ?_ (fun _ => ?_)
set_option maxHeartbeats 8000000 in
set_option maxRecDepth 100000 in
theorem spec_SameSaid.calls (k : Nat) (A0 : Option Addr) (c0 : Nat) (l0 : List (S40)) (A1 : Option Addr) (c1 : Nat) (l1 : List (S40)) (r : Bool) (w : World) (hr0 : Kd.C k40 w A0 l0.length l0) (hc0 : l0.length ≤ c0) (hr1 : Kd.C k40 w A1 l1.length l1) (hc1 : l1.length ≤ c1) (h : spec_SameSaid.f k l0 l1 = some r) :
    Calls Try.prog 11 #[.slice A0 l0.length c0, .slice A1 l1.length c1] w fun e w' => e = .returned (.bool r) ∧ Drawn0 w w' := by
 have hu40 := Try.underlying40
 have HR0 := ak hr0
 have HC0 := ak hc0
 clear hr0 hc0
 have HR1 := ak hr1
 have HC1 := ak hc1
 clear hr1 hc1
 have H : (if (l0.length : Int) = (l1.length : Int) then (spec_SameSaid.l0 k l0 l1 0) else (some false)) = some r := h
 clear h
 by_cases c3 : (l0.length : Int) = (l1.length : Int)
 {
 rw [if_pos c3] at H
 have c3b0 : ((l0.length : Int) == (l1.length : Int)) = true := beq_iff_eq.mpr c3
 have c3b1 : ((l0.length : Int) != (l1.length : Int)) = false := bne_eq_false_iff_eq.mpr c3
 have c3b2 : (l0.length == l1.length) = true := by first | simpa using c3 | (simp at c3 ⊢; omega)
 clear c3
 have H' := ak H
 clear H
 go_enter Try.func11, Try.ntmps11
 go_wp2
 repeat (go_quiet (fail); try go_wp2)
 go_loopg [5] k (fun kq v5 w' => ∃ (x5_1 : Int), v5 = .int .i64 x5_1 ∧ Aside0 (spec_SameSaid.l0 kq l0 l1 x5_1 = some r) ∧ Aside0 (kq ≤ k) ∧ Drawn0 w w')
 case atStart => exact ⟨(0), (by first | rfl | (simp; done) | (simp [*]; done)), H', ⟨Nat.le_refl _⟩, by repeat (first | exact Drawn0.refl _ | apply Drawn0.step)⟩
 case round => (
 clear H'
 try clear c1
 try clear c3
 try clear c3b0
 try clear c3b1
 try clear c3b2
 obtain ⟨x5_1, rfl, HA, HK1, ⟨m1, rfl⟩⟩ := hrel
 cases gk with
 | zero => exact absurd HA.out (by simp [spec_SameSaid.l0])
 | succ k1 => (
 have H := HA.out
 clear HA
 simp only [spec_SameSaid.l0] at H
 by_cases c4 : x5_1 < (l0.length : Int)
 {
 rw [if_pos c4] at H
 have c4b0 : decide (x5_1 < (l0.length : Int)) = true := decide_eq_true c4
 clear c4
 by_cases c5 : 0 ≤ x5_1
 {
 rw [if_pos c5] at H
 have c5b0 : decide (0 ≤ x5_1) = true := decide_eq_true c5
 clear c5
 by_cases c6 : x5_1 < (l1.length : Int)
 {
 rw [if_pos c6] at H
 have c6b0 : decide (x5_1 < (l1.length : Int)) = true := decide_eq_true c6
 clear c6
 by_cases c7 : (!(((rd_T40 l0 x5_1).f0) == ((rd_T40 l1 x5_1).f0)) || (!(((rd_T40 l0 x5_1).f1) == ((rd_T40 l1 x5_1).f1)))) = true
 {
 rw [if_pos c7] at H
 have c7b0 : (!(((rd_T40 l0 x5_1).f0) == ((rd_T40 l1 x5_1).f0)) || (!(((rd_T40 l0 x5_1).f1) == ((rd_T40 l1 x5_1).f1)))) = true := c7
 clear c7
 as_aux_lemma => (
 obtain rfl := Option.some.inj H
 have p266 : 0 ≤ (x5_1 : Int) := of_decide_eq_true (by first | (with_reducible assumption) | assumption)
 have q266 : x5_1 < (l0.length : Int) := of_decide_eq_true (by first | (with_reducible assumption) | assumption)
 obtain ⟨ad266, e266, hx266_0, hx266_1⟩ := at_T40 HR0.out x5_1 p266 q266
 cases e266
 replace p266 := eq_true p266
 replace q266 := eq_true q266
 have p267 : 0 ≤ (x5_1 : Int) := of_decide_eq_true (by first | (with_reducible assumption) | assumption)
 have q267 : x5_1 < (l1.length : Int) := of_decide_eq_true (by first | (with_reducible assumption) | assumption)
 obtain ⟨ad267, e267, hx267_0, hx267_1⟩ := at_T40 HR1.out x5_1 p267 q267
 cases e267
 replace p267 := eq_true p267
 replace q267 := eq_true q267
 go_wp2
 repeat (go_quiet (fail); try go_wp2)
 go_ret
 exact ⟨by first | rfl | (simp; done) | (simp [*]; done), by repeat (first | exact Drawn0.refl _ | apply Drawn0.step)⟩
 )
 }
 {
 rw [if_neg c7] at H
 have c7b0 : (!(((rd_T40 l0 x5_1).f0) == ((rd_T40 l1 x5_1).f0)) || (!(((rd_T40 l0 x5_1).f1) == ((rd_T40 l1 x5_1).f1)))) = false := by simpa using c7
 clear c7
 as_aux_lemma => (
 have H' := ak H
 clear H
 have p266 : 0 ≤ (x5_1 : Int) := of_decide_eq_true (by first | (with_reducible assumption) | assumption)
 have q266 : x5_1 < (l0.length : Int) := of_decide_eq_true (by first | (with_reducible assumption) | assumption)
 obtain ⟨ad266, e266, hx266_0, hx266_1⟩ := at_T40 HR0.out x5_1 p266 q266
 cases e266
 replace p266 := eq_true p266
 replace q266 := eq_true q266
 have p267 : 0 ≤ (x5_1 : Int) := of_decide_eq_true (by first | (with_reducible assumption) | assumption)
 have q267 : x5_1 < (l1.length : Int) := of_decide_eq_true (by first | (with_reducible assumption) | assumption)
 obtain ⟨ad267, e267, hx267_0, hx267_1⟩ := at_T40 HR1.out x5_1 p267 q267
 cases e267
 replace p267 := eq_true p267
 replace q267 := eq_true q267
 go_wp2
 repeat (go_quiet (fail); try go_wp2)
 go_roundg k1
 case measure => have := HK1.out; omega
 case rel => exact ⟨(wrap64 (x5_1 + 1)), (by first | rfl | (simp; done) | (simp [*]; done)), H', ⟨by have := HK1.out; omega⟩, by repeat (first | exact Drawn0.refl _ | apply Drawn0.step)⟩
 )
 }
 }
 · rw [if_neg c6] at H; exact absurd H (by simp)
 }
 · rw [if_neg c5] at H; exact absurd H (by simp)
 }
 {
 rw [if_neg c4] at H
 have c4b0 : decide (x5_1 < (l0.length : Int)) = false := decide_eq_false c4
 clear c4
 as_aux_lemma => (
 obtain rfl := Option.some.inj H
 go_wp2
 repeat (go_quiet (fail); try go_wp2)
 go_ret
 exact ⟨by first | rfl | (simp; done) | (simp [*]; done), by repeat (first | exact Drawn0.refl _ | apply Drawn0.step)⟩
 )
 }
 )
 )
 }
 {
 rw [if_neg c3] at H
 have c3b0 : ((l0.length : Int) == (l1.length : Int)) = false := beq_eq_false_iff_ne.mpr c3
 have c3b1 : ((l0.length : Int) != (l1.length : Int)) = true := bne_iff_ne.mpr c3
 have c3b2 : (l0.length == l1.length) = false := by first | simpa using c3 | (simp at c3 ⊢; omega)
 as_aux_lemma => (
 obtain rfl := Option.some.inj H
 go_enter Try.func11, Try.ntmps11
 go_wp2
 repeat (go_quiet (fail); try go_wp2)
 go_ret
 exact ⟨by first | rfl | (simp; done) | (simp [*]; done), by repeat (first | exact Drawn0.refl _ | apply Drawn0.step)⟩
 )
 }
/-! ### slices_Clone_Hold: function 37 -/
def slices_Clone_Hold.f (l0 : List (S47)) : Option ((List (S47))) := (some (([] : List (S47)) : List (S47))).bind fun y268 => (if y268.length + l0.length < 35184372088832 then (some (y268 ++ l0)) else (none))
set_option maxHeartbeats 8000000 in
set_option maxRecDepth 100000 in
theorem slices_Clone_Hold.calls (A0 : Option Addr) (c0 : Nat) (l0 : List (S47)) (r : List (S47)) (w : World) (hr0 : Kd.C k47 w A0 l0.length l0) (hc0 : l0.length ≤ c0) (h : slices_Clone_Hold.f l0 = some r) :
    Calls Try.prog 37 #[.slice A0 l0.length c0] w fun e w' => ∃ v0_ : Value, e = .returned (v0_) ∧ Kd.R k47 47 w' w.heap.size (fun _ => True) v0_ r ∧ Below w.heap.size w w' := by
 rcases A0 with _ | A0
 {
 obtain rfl : l0 = [] := by cases l0 with | nil => rfl | cons x_ xs_ => (obtain ⟨ad_, h1_, _⟩ := hr0.2.2 (Nat.succ_pos _); exact absurd h1_ (by simp))
 obtain rfl : r = [] := by first | (simp [slices_Clone_Hold.f] at h; exact h) | (simp [slices_Clone_Hold.f] at h; exact h.symm) | simpa [slices_Clone_Hold.f] using h
 have hnil_ : ∀ (w : World) (n c : Nat), (binOp .eql 29 (.slice none n c) (.slice none 0 0)).run Try.prog w = .ok (.bool true) w := fun w n c => Go.Lib.run_eql_slice_nil w 29 _ none n c 0 0 Try.underlying29
 go_enter Try.func37, Try.ntmps37
 go_wp2
 go_ret
 exact ⟨_, rfl, Kd.R_nil _ _ _ _ _, Below.refl _ _⟩
 }
 have hnil_ : ∀ (w : World) (n c : Nat), (binOp .eql 29 (.slice (some A0) n c) (.slice none 0 0)).run Try.prog w = .ok (.bool false) w := fun w n c => Go.Lib.run_eql_slice_nil w 29 _ (some A0) n c 0 0 Try.underlying29
 have HR0 := ak hr0
 have HC0 := ak hc0
 clear hr0 hc0
 have HB := ak (Below.refl w.heap.size w)
 have H : ((some (([] : List (S47)) : List (S47))).bind fun y268 => (if y268.length + l0.length < 35184372088832 then (some (y268 ++ l0)) else (none))) = some r := h
 clear h
 obtain ⟨y268, hy268⟩ : ∃ y_ : List (S47), y_ = (([] : List (S47))) := ⟨_, rfl⟩
 replace H : (if y268.length + l0.length < 35184372088832 then (some (y268 ++ l0)) else (none)) = some r := by first | (rw [hy268]; with_reducible exact H) | (have H2_ := (Option.bind_some _ _).symm.trans H; rw [hy268]; with_reducible exact H2_) | (have H2_ := (Option.bind_some _ _).symm.trans H; with_reducible exact H2_) | with_reducible exact H | (rw [hy268]; exact H) | exact H
 have Ny268 := ak hy268
 clear hy268
 by_cases c2 : y268.length + l0.length < 35184372088832
 {
 rw [if_pos c2] at H
 have LMc2 := ak c2
 clear c2
 obtain ⟨y271, hy271⟩ : ∃ y_ : List (S47), y_ = (y268 ++ l0) := ⟨_, rfl⟩
 replace H : (some y271) = some r := by first | (rw [hy271]; with_reducible exact H) | (have H2_ := (Option.bind_some _ _).symm.trans H; rw [hy271]; with_reducible exact H2_) | (have H2_ := (Option.bind_some _ _).symm.trans H; with_reducible exact H2_) | with_reducible exact H | (rw [hy271]; exact H) | exact H
 have Ny271 := ak hy271
 clear hy271
 as_aux_lemma => (
 obtain rfl := Option.some.inj H
 go_enter Try.func37, Try.ntmps37
 go_wp2_with (first | ((with_reducible refine gate_dst (N := 5) rfl ?_); refine Kd.R_lit k47 _ 47 ?hg (N := 5) ?hd (xs := ([] : List (S47))) (inner := []) (ok := fun _ => True) (okp := fun _ => True) ?hr ?hp (fun _ hk => hk) trivial (Below.refl _ _) (Nat.le_refl _) (by simp) ?_; (case hd => rfl); (case hg => rfl); (case hr => first | (go_simp; done) | (go_simp; rfl)); (case hp => exact (Reps.none _ _)); intro v269 w3 ho4 hb hg_ hnew_; clear hg_ hnew_; (first | rw [← Ny268.out] at ho4 | (simp only [Int.reduceToNat] at ho4; rw [← Ny268.out] at ho4)); have n0_ := ak (Kd.R_lower ho4 (below_size (zB HB.out))); have n1_ := ak (below_step (zB HB.out) hb); clear HB; have HO270 := n0_; have HB := n1_; clear n0_ n1_; clear hb ho4) | ((with_reducible refine gate_builtin (b := .append) (xs := #[.tmp 5, .tmp 6]) rfl ?_); at_builtin; refine Kd.R_append_rows k47 (w0 := w) w.heap.size rfl (.tmp 5) (.tmp 6) 29 47 (.agg #[(.int .i16 0), (.int .i8 0)]) 4 rfl Try.underlying29 info47 rfl (by decide) (by omega) v269 y268 l0 _ _ _ (fun _ => True) (fun _ => False) rfl rfl ?aO ?aR (fun _ _ h => h) (fun _ h => h.elim) ?aF ?aB ?aS ?aL ?_; (case aR => repeat (first | exact (Kd.C_below HR0.out HB.out) | (with_reducible refine Kd.C_alloc ?_ _) | (with_reducible refine Kd.C_drewN ?_ _) | (with_reducible refine Kd.C_drew ?_))); (case aB => exact (zB HB.out)); (case aF => exact (fun _ _ => trivial)); (case aO => exact (zR HO270.out)); (case aS => exact (below_size (zB HB.out))); (case aL => have := LMc2.out; omega); intro v272 w5 ho hb hg hat; rw [← Ny271.out] at ho; have n0_ := ak (hb); have n1_ := ak (ho); clear HB HO270; have HB := n0_; have HO273 := n1_; clear n0_ n1_; clear ho hb hg hat))
 go_ret
 exact ⟨_, by first | rfl | (simp [errW_none, errW_some] <;> rfl) | (simp [*, errW_none, errW_some] <;> rfl), by (with_reducible repeat (first | apply Kd.R_alloc | apply Kd.R_drewN | apply Kd.R_drew)); exact HO273.out, zB HB.out⟩
 )
 }
 · rw [if_neg c2] at H; exact absurd H (by simp)
end Go.Proofs.Ytcgbnbblojkglaa.P
