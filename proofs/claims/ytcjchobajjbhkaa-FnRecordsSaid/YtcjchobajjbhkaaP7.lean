-- Printed by wip/print (my turned copy of the kit's print) out of the translation; Lean checks it.
import Derived.Test.YtcjchobajjbhkaaP0
import Derived.Test.YtcjchobajjbhkaaP3
import Derived.Test.YtcjchobajjbhkaaP6
namespace Go.Proofs.Ytcjchobajjbhkaa.P
open Go.RowKit Go.Proofs.YtcjchobajjbhkaaW.PrintWords Go.Proofs.YtcjchobajjbhkaaW.PrintLast Go.Proofs.YtcjchobajjbhkaaW.PrintMore
attribute [local go_sem] max2_int min2_int max_two min_two max_three min_three max_four min_four   -- for this text's walks alone
set_option linter.unusedVariables false
set_option linter.unusedSimpArgs false

/-! ### spec_LogFrom: function 9 -/
mutual
def spec_LogFrom.l0 : Nat → Int → List (S44) → Int → Int → List Int → List Int → Option (Int × List Int × List Int × Int)
  | 0, _, _, _, _, _, _ => none
  | k + 1, x1, x2, x9, x263000, x263001, x263002 => if x9 < x1 then (spec_LogFrom.l1 k x1 x2 x9 0 0 x263000 x263001 x263002) else (some (x263000, x263001, x263002, 0))
def spec_LogFrom.l1 : Nat → Int → List (S44) → Int → Int → Int → Int → List Int → List Int → Option (Int × List Int × List Int × Int)
  | 0, _, _, _, _, _, _, _, _ => none
  | k + 1, x1, x2, x9, x10, x11, x263000, x263001, x263002 => if x11 < (x2.length : Int) then (if 0 ≤ x11 then (if (wrap64 ((rd_T44 x2 x11).f1)) ≥ x9 then (if 0 ≤ (IntKind.u64.wrap ((rd_T44 x2 x11).f0)) then (spec_LogFrom.l1 k x1 x2 x9 (Go.bits .or .u16 x10 (shl .u16 1 (IntKind.u64.wrap ((rd_T44 x2 x11).f0)))) (wrap64 (x11 + 1)) x263000 x263001 x263002) else (none)) else (spec_LogFrom.l1 k x1 x2 x9 x10 (wrap64 (x11 + 1)) x263000 x263001 x263002)) else (none)) else (if x263001.length < 70368744177664 then ((spec_CountPeople.f k x10).bind fun t268 => (if x263002.length < 70368744177664 then (spec_LogFrom.l0 k x1 x2 (wrap64 (x9 + 1)) x263000 (x263001 ++ [x10]) (x263002 ++ [IntKind.i16.wrap (t268)])) else (none))) else (none))
end
def spec_LogFrom.f (k : Nat) (a0 : Int) (a1 : Int) (l2 : List (S44)) : Option (Int × List Int × List Int × Int) := (spec_l05Records.f k a0 a1 l2).bind fun t261 => (if t261 = true then (spec_LogFrom.l0 k a1 l2 0 a0 ([] : List Int) ([] : List Int)) else (some (0, ([] : List Int), ([] : List Int), 1)))
theorem spec_LogFrom.mono_l : ∀ k, (∀ y0 y1 y2 y3 y4 y5, LeO (spec_LogFrom.l0 k y0 y1 y2 y3 y4 y5) (spec_LogFrom.l0 (k + 1) y0 y1 y2 y3 y4 y5)) ∧ (∀ y0 y1 y2 y3 y4 y5 y6 y7, LeO (spec_LogFrom.l1 k y0 y1 y2 y3 y4 y5 y6 y7) (spec_LogFrom.l1 (k + 1) y0 y1 y2 y3 y4 y5 y6 y7))
  | 0 => ⟨fun _ _ _ _ _ _ r h => by simp [spec_LogFrom.l0] at h, fun _ _ _ _ _ _ _ _ r h => by simp [spec_LogFrom.l1] at h⟩
  | k + 1 => by
    obtain ⟨ih0, ih1⟩ := spec_LogFrom.mono_l k
    refine ⟨?_, ?_⟩
    · intro y0 y1 y2 y3 y4 y5
      unfold spec_LogFrom.l0
      repeat' first
      | (with_reducible exact ih0 _ _ _ _ _ _)
      | (with_reducible exact ih1 _ _ _ _ _ _ _ _)
      | (with_reducible exact spec_CountPeople.mono _ _)
      | (with_reducible exact spec_l05Records.mono _ _ _ _)
      | (with_reducible exact LeO.refl _)
      | (with_reducible exact LeO.none _)
      | (with_reducible refine LeO.ite ?_ ?_)
      | (with_reducible refine LeO.bind ?_ (fun _ => ?_))
      | exact ih0 _ _ _ _ _ _
      | exact ih1 _ _ _ _ _ _ _ _
      | exact spec_CountPeople.mono _ _
      | exact spec_l05Records.mono _ _ _ _
      | exact LeO.none _
      | refine LeO.ite ?_ ?_
      | refine LeO.bind ?_ (fun _ => ?_)
    · intro y0 y1 y2 y3 y4 y5 y6 y7
      unfold spec_LogFrom.l1
      repeat' first
      | (with_reducible exact ih0 _ _ _ _ _ _)
      | (with_reducible exact ih1 _ _ _ _ _ _ _ _)
      | (with_reducible exact spec_CountPeople.mono _ _)
      | (with_reducible exact spec_l05Records.mono _ _ _ _)
      | (with_reducible exact LeO.refl _)
      | (with_reducible exact LeO.none _)
      | (with_reducible refine LeO.ite ?_ ?_)
      | (with_reducible refine LeO.bind ?_ (fun _ => ?_))
      | exact ih0 _ _ _ _ _ _
      | exact ih1 _ _ _ _ _ _ _ _
      | exact spec_CountPeople.mono _ _
      | exact spec_l05Records.mono _ _ _ _
      | exact LeO.none _
      | refine LeO.ite ?_ ?_
      | refine LeO.bind ?_ (fun _ => ?_)
theorem spec_LogFrom.mono : ∀ a0 a1 a2 k, LeO (spec_LogFrom.f k a0 a1 a2) (spec_LogFrom.f (k + 1) a0 a1 a2) := by
  intro a0 a1 a2 k
  obtain ⟨ih0, ih1⟩ := spec_LogFrom.mono_l k
  unfold spec_LogFrom.f
  repeat' first
      | (with_reducible exact ih0 _ _ _ _ _ _)
      | (with_reducible exact ih1 _ _ _ _ _ _ _ _)
      | (with_reducible exact spec_CountPeople.mono _ _)
      | (with_reducible exact spec_l05Records.mono _ _ _ _)
      | (with_reducible exact LeO.refl _)
      | (with_reducible exact LeO.none _)
      | (with_reducible refine LeO.ite ?_ ?_)
      | (with_reducible refine LeO.bind ?_ (fun _ => ?_))
      | exact ih0 _ _ _ _ _ _
      | exact ih1 _ _ _ _ _ _ _ _
      | exact spec_CountPeople.mono _ _
      | exact spec_l05Records.mono _ _ _ _
      | exact LeO.none _
      | refine LeO.ite ?_ ?_
      | refine LeO.bind ?_ (fun _ => ?_)
def spec_LogFrom.T14 : Bool × List (List Nat × List Nat) := (true, [([], []), ([0], [0]), ([], []), ([2], [2]), ([3], [3]), ([4], [4]), ([1, 5, 3], [1, 5]), ([0, 1, 2, 3, 4, 5, 6], []), ([7, 6, 6, 0, 1, 2, 3, 4, 5, 6], [6, 7])])
def spec_LogFrom.B14 : List Nat := [0, 1, 0, 4, 12, 28, 63, 127, 255]
theorem spec_LogFrom.tab14 : rtab .any (opsOf Try.f9 14) = spec_LogFrom.T14 := by kernel_rfl
theorem spec_LogFrom.bits14 : waitsOk spec_LogFrom.T14.2 spec_LogFrom.B14 = true := by kernel_rfl
set_option maxHeartbeats 8000000 in
set_option maxRecDepth 100000 in
theorem spec_LogFrom.calls (k : Nat) (a0 : Int) (a1 : Int) (A2 : Option Addr) (c2 : Nat) (l2 : List (S44)) (r1 : Int) (r2 : List Int) (r3 : List Int) (r4 : Int) (w : World) (hr2 : Kd.C k44 w A2 l2.length l2) (hc2 : l2.length ≤ c2) (h : spec_LogFrom.f k a0 a1 l2 = some (r1, r2, r3, r4)) :
    Calls Try.prog 9 #[.int .i64 a0, .int .i64 a1, .slice A2 l2.length c2] w fun e w' => ∃ v1_ v2_ : Value, e = .returned (.tuple #[.agg #[.int .i64 r1, v1_, v2_], .int .i64 r4]) ∧ Kd.R (Kd.int .u16) 56 w' w.heap.size (fun _ => True) v1_ r2 ∧ Kd.R (Kd.int .i16) 42 w' w.heap.size (fun _ => True) v2_ r3 ∧ Below w.heap.size w w' := by
 have hu31 := Try.underlying31
 have HR2 := ak hr2
 have HC2 := ak hc2
 clear hr2 hc2
 have HB := ak (Below.refl w.heap.size w)
 have H : ((spec_l05Records.f k a0 a1 l2).bind fun t261 => (if t261 = true then (spec_LogFrom.l0 k a1 l2 0 a0 ([] : List Int) ([] : List Int)) else (some (0, ([] : List Int), ([] : List Int), 1)))) = some (r1, r2, r3, r4) := h
 clear h
 replace H := Option.bind_eq_some_iff.mp H
 obtain ⟨t261, A40, H⟩ := H
 replace H : (if t261 = true then (spec_LogFrom.l0 k a1 l2 0 a0 ([] : List Int) ([] : List Int)) else (some (0, ([] : List Int), ([] : List Int), 1))) = some (r1, r2, r3, r4) := H
 have A4 := ak A40
 clear A40
 by_cases c5 : t261 = true
 {
 subst c5
 have H1 : (spec_LogFrom.l0 k a1 l2 0 a0 ([] : List Int) ([] : List Int)) = some (r1, r2, r3, r4) := by rw [if_pos rfl] at H; exact H
 clear H
 have H := H1
 clear H1
 have H' := ak H
 clear H
 go_enter Try.func9, Try.ntmps9
 go_wp2_with (first | ((with_reducible refine gate_dst (N := 6) rfl ?_); refine box_event ?hg (N := 6) ?hd (cs := #[.int .i64 0, .slice none 0 0, .slice none 0 0]) (t := 31) ?hr ?_; (case hd => rfl); (case hg => rfl); (case hr => first | (go_simp; done) | (go_simp; rfl)); intro gb260 hg w6 hbox hb; have n0_ := ak (below_step (zB HB.out) hb); have n1_ := ak (hbox); have n2_ := ak ((by rw [hg]; exact (below_size (zB HB.out)) : w.heap.size ≤ gb260)); have n3_ := ak ((by rw [hg]; exact (below_size (zB HB.out)) : w.heap.size ≤ gb260)); clear HB; have HB := n0_; have BK260 := n1_; have GW260 := n2_; have GE260 := n3_; clear n0_ n1_ n2_ n3_; clear hb hbox hg) | ((with_reducible refine gate_callee (f := 25) rfl ?_); refine goesL_ (some 15) rfl rfl Try.func25 (by kernel_rfl) rfl #[.int .i64 a0, .int .i64 a1, .slice A2 l2.length c2] rfl (by (try simp only [List.map_toArray, List.map_cons, List.map_nil]); first | done | rfl | (simp only [List.length_drop, List.length_take]; rfl)) ?_; (with_reducible refine (spec_l05Records.calls k a0 a1 _ _ l2 true _ ?side1 ?side2 A4.out).mono ?_); (case side1 => repeat (first | exact (Kd.C_below HR2.out HB.out) | (with_reducible refine Kd.C_alloc ?_ _) | (with_reducible refine Kd.C_drewN ?_ _) | (with_reducible refine Kd.C_drew ?_))); (case side2 => exact HC2.out); rintro e w7 ⟨rfl, hb⟩; refine ⟨_, rfl, ?_⟩; have n0_ := ak (blk_below (g := gb260) (o := .cells #[.int .i64 0, .slice none 0 0, .slice none 0 0] 31 (0, 0)) (zK BK260.out) hb); have n1_ := ak (below_step (zBG HB.out GE260.out) hb); clear BK260 HB; have BK260 := n0_; have HB := n1_; clear n0_ n1_; (try clear hb); (try clear hb2); (try clear hk); (try clear hi)) | ((with_reducible refine gate_dst (N := 8) rfl ?_); refine box_event ?hg (N := 8) ?hd (cs := #[.int .i64 0, .slice none 0 0, .slice none 0 0]) (t := 31) ?hr ?_; (case hd => rfl); (case hg => rfl); (case hr => first | (go_simp; done) | (go_simp; rfl)); intro gb262 hg w8 hbox hb; have n0_ := ak (blk_below (g := gb260) (o := .cells #[.int .i64 0, .slice none 0 0, .slice none 0 0] 31 (0, 0)) (zK BK260.out) hb); have n1_ := ak (below_step (zBG HB.out GE260.out) hb); have n2_ := ak (hbox); have n3_ := ak ((by rw [hg]; exact (below_size (zBG HB.out GE260.out)) : w.heap.size ≤ gb262)); have n4_ := ak ((by rw [hg]; exact (below_size (zBG HB.out GE260.out)) : w.heap.size ≤ gb262)); have n5_ := ak ((by rw [hg]; exact Nat.ne_of_lt (blk_lt (g := gb260) (o := .cells #[.int .i64 0, .slice none 0 0, .slice none 0 0] 31 (0, 0)) (zK BK260.out)) : gb260 ≠ gb262)); have n6_ := ak ((by rw [hg]; exact Nat.ne_of_gt (blk_lt (g := gb260) (o := .cells #[.int .i64 0, .slice none 0 0, .slice none 0 0] 31 (0, 0)) (zK BK260.out)) : gb262 ≠ gb260)); clear BK260 HB; have BK260 := n0_; have HB := n1_; have BK262 := n2_; have GW262 := n3_; have GE262 := n4_; have NB260_262 := n5_; have NB262_260 := n6_; clear n0_ n1_ n2_ n3_ n4_ n5_ n6_; clear hb hbox hg; have hnb9 := NB262_260.out; have hnc9 := NB260_262.out; have hcz10_0 : w8.cell? ⟨gb262, 0, none⟩ = some (.int .i64 0) := (blk_cell BK262.out 0).trans rfl; have hcz10_1 : w8.cell? ⟨gb262, 1, none⟩ = some (.slice none 0 0) := (blk_cell BK262.out 1).trans rfl; have hcz10_2 : w8.cell? ⟨gb262, 2, none⟩ = some (.slice none 0 0) := (blk_cell BK262.out 2).trans rfl; have hfz10_0 := blk_frozen BK262.out 0; have hfz10_1 := blk_frozen BK262.out 1; have hfz10_2 := blk_frozen BK262.out 2))
 go_loopg [9] k (fun kq v9 w' => ∃ (x9_1 : Int) (x263001_1 : List Int) (x263002_1 : List Int) (u263001 : Value) (u263002 : Value), v9 = .int .i64 x9_1 ∧ Aside0 (spec_LogFrom.l0 kq a1 l2 x9_1 a0 x263001_1 x263002_1 = some (r1, r2, r3, r4)) ∧ Aside0 (kq ≤ k) ∧ Aside0 (Kd.R (Kd.int .u16) 56 w' w.heap.size (fun _ => True) u263001 x263001_1) ∧ Aside0 (Kd.R (Kd.int .i16) 42 w' w.heap.size (fun _ => True) u263002 x263002_1) ∧ Aside0 (w'.heap[gb260]? = some (.cells #[.int .i64 0, (.slice none 0 0), (.slice none 0 0)] 31 (0, 0))) ∧ Aside0 (w'.heap[gb262]? = some (.cells #[.int .i64 a0, u263001, u263002] 31 (0, 0))) ∧ Aside0 (Below w.heap.size w w'))
 case atStart => exact ⟨(0), (([] : List Int)), (([] : List Int)), (.slice none 0 0), (.slice none 0 0), (by first | rfl | (simp; done) | (simp [*]; done)), H', ⟨Nat.le_refl _⟩, ⟨by first | exact Kd.R_nil _ _ _ _ _ | exact Kd.N_nil _ _ _ _ _ | exact Kd.V_nil _ _ _ _ _ | exact Kd.Q_nil _ _ _ _ _ | exact Kd.S_nil _ _ _ _ _⟩, ⟨by first | exact Kd.R_nil _ _ _ _ _ | exact Kd.N_nil _ _ _ _ _ | exact Kd.V_nil _ _ _ _ _ | exact Kd.Q_nil _ _ _ _ _ | exact Kd.S_nil _ _ _ _ _⟩, ⟨by (with_reducible repeat (first | refine blk_drewN ?_ _ | refine blk_drew ?_ | refine blk_alloc ?_ _)); refine blk_far ?_ NB260_262.out _; (with_reducible repeat (first | refine blk_drewN ?_ _ | refine blk_drew ?_ | refine blk_alloc ?_ _)); refine blk_far ?_ NB260_262.out _; (with_reducible repeat (first | refine blk_drewN ?_ _ | refine blk_drew ?_ | refine blk_alloc ?_ _)); refine blk_far ?_ NB260_262.out _; (with_reducible repeat (first | refine blk_drewN ?_ _ | refine blk_drew ?_ | refine blk_alloc ?_ _)); exact BK260.out⟩, ⟨by (with_reducible repeat (first | refine blk_drewN ?_ _ | refine blk_drew ?_ | refine blk_alloc ?_ _)); refine blk_put (cs := #[.int .i64 a0, .slice none 0 0, .slice none 0 0]) ?_ 2 _ rfl; (with_reducible repeat (first | refine blk_drewN ?_ _ | refine blk_drew ?_ | refine blk_alloc ?_ _)); refine blk_put (cs := #[.int .i64 a0, .slice none 0 0, .slice none 0 0]) ?_ 1 _ rfl; (with_reducible repeat (first | refine blk_drewN ?_ _ | refine blk_drew ?_ | refine blk_alloc ?_ _)); refine blk_put (cs := #[.int .i64 0, .slice none 0 0, .slice none 0 0]) ?_ 0 _ rfl; (with_reducible repeat (first | refine blk_drewN ?_ _ | refine blk_drew ?_ | refine blk_alloc ?_ _)); exact BK262.out⟩, ⟨by repeat (first | (with_reducible first | exact HB.out | apply below_alloc | apply pw_below_drewN | apply below_drew1 | refine below_set ?_ GE260.out | refine below_set ?_ GE262.out) | exact HB.out)⟩⟩
 case round => (
 clear H'
 try clear c2
 try clear p2
 try clear c5
 try clear c9
 try clear hcz10_0
 try clear hcz10_1
 try clear hcz10_2
 try clear hfz10_0
 try clear hfz10_1
 try clear hfz10_2
 obtain ⟨x9_1, x263001_1, x263002_1, u263001, u263002, rfl, HA, HK1, HO_263001, HO_263002, BK260, BK262, HB⟩ := hrel
 cases gk with
 | zero => exact absurd HA.out (by simp [spec_LogFrom.l0])
 | succ k1 => (
 have H := HA.out
 clear HA
 simp only [spec_LogFrom.l0] at H
 by_cases c11 : x9_1 < a1
 {
 rw [if_pos c11] at H
 have c11b0 : decide (x9_1 < a1) = true := decide_eq_true c11
 clear c11
 have H' := ak H
 clear H
 go_wp2
 go_loopg [10, 11] k1 (fun kq v10 v11 w' => ∃ (x10_2 : Int) (x11_2 : Int), v10 = .int .u16 x10_2 ∧ v11 = .int .i64 x11_2 ∧ Aside0 (spec_LogFrom.l1 kq a1 l2 x9_1 x10_2 x11_2 a0 x263001_1 x263002_1 = some (r1, r2, r3, r4)) ∧ Aside0 (kq ≤ k1) ∧ Aside0 (Kd.R (Kd.int .u16) 56 w' w.heap.size (fun _ => True) u263001 x263001_1) ∧ Aside0 (Kd.R (Kd.int .i16) 42 w' w.heap.size (fun _ => True) u263002 x263002_1) ∧ Aside0 (w'.heap[gb260]? = some (.cells #[.int .i64 0, (.slice none 0 0), (.slice none 0 0)] 31 (0, 0))) ∧ Aside0 (w'.heap[gb262]? = some (.cells #[.int .i64 a0, u263001, u263002] 31 (0, 0))) ∧ Aside0 (Below w.heap.size w w'))
 case atStart => exact ⟨(0), (0), (by first | rfl | (simp; done) | (simp [*]; done)), (by first | rfl | (simp; done) | (simp [*]; done)), H', ⟨Nat.le_refl _⟩, ⟨by (with_reducible repeat (first | apply Kd.R_alloc | apply Kd.R_drewN | apply Kd.R_drew)); exact HO_263001.out⟩, ⟨by (with_reducible repeat (first | apply Kd.R_alloc | apply Kd.R_drewN | apply Kd.R_drew)); exact HO_263002.out⟩, ⟨by (with_reducible repeat (first | refine blk_drewN ?_ _ | refine blk_drew ?_ | refine blk_alloc ?_ _)); exact BK260.out⟩, ⟨by (with_reducible repeat (first | refine blk_drewN ?_ _ | refine blk_drew ?_ | refine blk_alloc ?_ _)); exact BK262.out⟩, ⟨by repeat (first | (with_reducible first | exact HB.out | apply below_alloc | apply pw_below_drewN | apply below_drew1 | refine below_set ?_ GE260.out | refine below_set ?_ GE262.out) | exact HB.out)⟩⟩
 case round => (
 clear H'
 try clear c1
 try clear c2
 try clear p2
 try clear c5
 try clear c9
 try clear c11
 try clear c11b0
 try clear hcz10_0
 try clear hcz10_1
 try clear hcz10_2
 try clear hfz10_0
 try clear hfz10_1
 try clear hfz10_2
 try clear p2
 obtain ⟨x10_2, x11_2, rfl, rfl, HA, HK2, HO_263001, HO_263002, BK260, BK262, HB⟩ := hrel
 cases gk with
 | zero => exact absurd HA.out (by simp [spec_LogFrom.l1])
 | succ k2 => (
 have H := HA.out
 clear HA
 simp only [spec_LogFrom.l1] at H
 by_cases c12 : x11_2 < (l2.length : Int)
 {
 rw [if_pos c12] at H
 have c12b0 : decide (x11_2 < (l2.length : Int)) = true := decide_eq_true c12
 clear c12
 by_cases c13 : 0 ≤ x11_2
 {
 rw [if_pos c13] at H
 have c13b0 : decide (0 ≤ x11_2) = true := decide_eq_true c13
 clear c13
 by_cases c14 : (wrap64 ((rd_T44 l2 x11_2).f1)) ≥ x9_1
 {
 rw [if_pos c14] at H
 have c14b0 : decide (x9_1 ≤ (wrap64 ((rd_T44 l2 x11_2).f1))) = true := decide_eq_true c14
 (try (have c14b1 : decide (x9_1 ≤ (IntKind.i64.wrap ((rd_T44 l2 x11_2).f1))) = true := by first | simpa only [i64_w, i32_w] using (show decide (x9_1 ≤ (wrap64 ((rd_T44 l2 x11_2).f1))) = true from decide_eq_true c14) | simpa only [i64_w] using (show decide (x9_1 ≤ (wrap64 ((rd_T44 l2 x11_2).f1))) = true from decide_eq_true c14)))
 clear c14
 obtain ⟨ji15, hji15⟩ : ∃ j_ : Int, (IntKind.u64.wrap ((rd_T44 l2 x11_2).f0)) = j_ := ⟨_, rfl⟩
 replace H : (if 0 ≤ (ji15) then (spec_LogFrom.l1 k2 a1 l2 x9_1 (Go.bits .or .u16 x10_2 (shl .u16 1 (ji15))) (wrap64 (x11_2 + 1)) a0 x263001_1 x263002_1) else (none)) = some (r1, r2, r3, r4) := by first | (rw [hji15] at H; exact H) | (simp only [hji15] at H ⊢; exact H)
 by_cases c16 : 0 ≤ (ji15)
 {
 rw [if_pos c16] at H
 have c16b0 := eq_true c16
 have c16b1 : decide (0 ≤ (ji15)) = true := decide_eq_true c16
 clear c16
 obtain ⟨ji17, hji17⟩ : ∃ j_ : Int, (shl .u16 1 (ji15)) = j_ := ⟨_, rfl⟩
 replace H : (spec_LogFrom.l1 k2 a1 l2 x9_1 (Go.bits .or .u16 x10_2 (ji17)) (wrap64 (x11_2 + 1)) a0 x263001_1 x263002_1) = some (r1, r2, r3, r4) := by first | (rw [hji17] at H; exact H) | (simp only [hji17] at H ⊢; exact H)
 have hji17_ : (IntKind.u16.wrap (1 * 2 ^ min (ji15).toNat 16)) = ji17 := hji17
 have hji17z : (ji15) ≤ 16 → (IntKind.u16.wrap (1 * 2 ^ (ji15).toNat)) = ji17 := shl_small hji17
 have hji17u : (IntKind.u16.wrap (2 ^ min (ji15).toNat 16)) = ji17 := by have h_ := hji17_; rw [Int.one_mul] at h_; exact h_
 have hji17v : (ji15) ≤ 16 → (IntKind.u16.wrap (2 ^ (ji15).toNat)) = ji17 := fun hle_ => by have h_ := hji17z hle_; rw [Int.one_mul] at h_; exact h_
 have H' := ak H
 clear H
 have p263 : 0 ≤ (x11_2 : Int) := of_decide_eq_true (by first | (with_reducible assumption) | assumption)
 have q263 : x11_2 < (l2.length : Int) := of_decide_eq_true (by first | (with_reducible assumption) | assumption)
 obtain ⟨ad263, e263, hx263_0, hx263_1, hx263_2⟩ := at_T44 HR2.out x11_2 p263 q263
 cases e263
 replace hx263_0 := (HB.out.cell (World.block_lt_of_cell? w _ hx263_0)).trans hx263_0
 replace hx263_1 := (HB.out.cell (World.block_lt_of_cell? w _ hx263_1)).trans hx263_1
 replace hx263_2 := (HB.out.cell (World.block_lt_of_cell? w _ hx263_2)).trans hx263_2
 replace p263 := eq_true p263
 replace q263 := eq_true q263
 have p264 : 0 ≤ (x11_2 : Int) := of_decide_eq_true (by first | (with_reducible assumption) | assumption)
 have q264 : x11_2 < (l2.length : Int) := of_decide_eq_true (by first | (with_reducible assumption) | assumption)
 obtain ⟨ad264, e264, hx264_0, hx264_1, hx264_2⟩ := at_T44 HR2.out x11_2 p264 q264
 obtain rfl : ad263 = ad264 := (by injection e264)
 replace hx264_0 := (HB.out.cell (World.block_lt_of_cell? w _ hx264_0)).trans hx264_0
 replace hx264_1 := (HB.out.cell (World.block_lt_of_cell? w _ hx264_1)).trans hx264_1
 replace hx264_2 := (HB.out.cell (World.block_lt_of_cell? w _ hx264_2)).trans hx264_2
 replace p264 := eq_true p264
 replace q264 := eq_true q264
 go_wp2
 go_roundg k2
 case measure => have := HK1.out; have := HK2.out; omega
 case rel => exact ⟨(Go.bits .or .u16 x10_2 (ji17)), (wrap64 (x11_2 + 1)), (by first | rfl | (simp; done) | (simp only [← hji17] <;> (first | rfl | simp)) | (simp [*]; done)), (by first | rfl | (simp; done) | (simp [*]; done)), H', ⟨by have := HK1.out; have := HK2.out; omega⟩, ⟨by (with_reducible repeat (first | apply Kd.R_alloc | apply Kd.R_drewN | apply Kd.R_drew)); exact HO_263001.out⟩, ⟨by (with_reducible repeat (first | apply Kd.R_alloc | apply Kd.R_drewN | apply Kd.R_drew)); exact HO_263002.out⟩, ⟨by (with_reducible repeat (first | refine blk_drewN ?_ _ | refine blk_drew ?_ | refine blk_alloc ?_ _)); exact BK260.out⟩, ⟨by (with_reducible repeat (first | refine blk_drewN ?_ _ | refine blk_drew ?_ | refine blk_alloc ?_ _)); exact BK262.out⟩, ⟨by repeat (first | (with_reducible first | exact HB.out | apply below_alloc | apply pw_below_drewN | apply below_drew1 | refine below_set ?_ GE260.out | refine below_set ?_ GE262.out) | exact HB.out)⟩⟩
 }
 · rw [if_neg c16] at H; exact absurd H (by simp)
 }
 {
 rw [if_neg c14] at H
 have c14b0 : decide (x9_1 ≤ (wrap64 ((rd_T44 l2 x11_2).f1))) = false := decide_eq_false c14
 (try (have c14b1 : decide (x9_1 ≤ (IntKind.i64.wrap ((rd_T44 l2 x11_2).f1))) = false := by first | simpa only [i64_w, i32_w] using (show decide (x9_1 ≤ (wrap64 ((rd_T44 l2 x11_2).f1))) = false from decide_eq_false c14) | simpa only [i64_w] using (show decide (x9_1 ≤ (wrap64 ((rd_T44 l2 x11_2).f1))) = false from decide_eq_false c14)))
 clear c14
 have H' := ak H
 clear H
 have p263 : 0 ≤ (x11_2 : Int) := of_decide_eq_true (by first | (with_reducible assumption) | assumption)
 have q263 : x11_2 < (l2.length : Int) := of_decide_eq_true (by first | (with_reducible assumption) | assumption)
 obtain ⟨ad263, e263, hx263_0, hx263_1, hx263_2⟩ := at_T44 HR2.out x11_2 p263 q263
 cases e263
 replace hx263_0 := (HB.out.cell (World.block_lt_of_cell? w _ hx263_0)).trans hx263_0
 replace hx263_1 := (HB.out.cell (World.block_lt_of_cell? w _ hx263_1)).trans hx263_1
 replace hx263_2 := (HB.out.cell (World.block_lt_of_cell? w _ hx263_2)).trans hx263_2
 replace p263 := eq_true p263
 replace q263 := eq_true q263
 go_wp2
 go_roundg k2
 case measure => have := HK1.out; have := HK2.out; omega
 case rel => exact ⟨(x10_2), (wrap64 (x11_2 + 1)), (by first | rfl | (simp; done) | (simp [*]; done)), (by first | rfl | (simp; done) | (simp [*]; done)), H', ⟨by have := HK1.out; have := HK2.out; omega⟩, ⟨by (with_reducible repeat (first | apply Kd.R_alloc | apply Kd.R_drewN | apply Kd.R_drew)); exact HO_263001.out⟩, ⟨by (with_reducible repeat (first | apply Kd.R_alloc | apply Kd.R_drewN | apply Kd.R_drew)); exact HO_263002.out⟩, ⟨by (with_reducible repeat (first | refine blk_drewN ?_ _ | refine blk_drew ?_ | refine blk_alloc ?_ _)); exact BK260.out⟩, ⟨by (with_reducible repeat (first | refine blk_drewN ?_ _ | refine blk_drew ?_ | refine blk_alloc ?_ _)); exact BK262.out⟩, ⟨by repeat (first | (with_reducible first | exact HB.out | apply below_alloc | apply pw_below_drewN | apply below_drew1 | refine below_set ?_ GE260.out | refine below_set ?_ GE262.out) | exact HB.out)⟩⟩
 }
 }
 · rw [if_neg c13] at H; exact absurd H (by simp)
 }
 {
 rw [if_neg c12] at H
 have c12b0 : decide (x11_2 < (l2.length : Int)) = false := decide_eq_false c12
 clear c12
 by_cases c18 : x263001_1.length < 70368744177664
 {
 rw [if_pos c18] at H
 have LMc18 := ak c18
 clear c18
 obtain ⟨y265, hy265⟩ : ∃ y_ : List Int, y_ = (x263001_1 ++ [x10_2]) := ⟨_, rfl⟩
 replace H : ((spec_CountPeople.f k2 x10_2).bind fun t268 => (if x263002_1.length < 70368744177664 then (spec_LogFrom.l0 k2 a1 l2 (wrap64 (x9_1 + 1)) a0 y265 (x263002_1 ++ [IntKind.i16.wrap (t268)])) else (none))) = some (r1, r2, r3, r4) := by first | (rw [hy265]; with_reducible exact H) | (have H2_ := (Option.bind_some _ _).symm.trans H; rw [hy265]; with_reducible exact H2_) | (have H2_ := (Option.bind_some _ _).symm.trans H; with_reducible exact H2_) | with_reducible exact H | (rw [hy265]; exact H) | exact H
 have Ny265 := ak hy265
 clear hy265
 replace H := Option.bind_eq_some_iff.mp H
 obtain ⟨t268, A190, H⟩ := H
 replace H : (if x263002_1.length < 70368744177664 then (spec_LogFrom.l0 k2 a1 l2 (wrap64 (x9_1 + 1)) a0 y265 (x263002_1 ++ [IntKind.i16.wrap (t268)])) else (none)) = some (r1, r2, r3, r4) := H
 have A19 := ak A190
 clear A190
 by_cases c20 : x263002_1.length < 70368744177664
 {
 rw [if_pos c20] at H
 have LMc20 := ak c20
 clear c20
 obtain ⟨y269, hy269⟩ : ∃ y_ : List Int, y_ = (x263002_1 ++ [IntKind.i16.wrap (t268)]) := ⟨_, rfl⟩
 replace H : (spec_LogFrom.l0 k2 a1 l2 (wrap64 (x9_1 + 1)) a0 y265 y269) = some (r1, r2, r3, r4) := by first | (rw [hy269]; with_reducible exact H) | (have H2_ := (Option.bind_some _ _).symm.trans H; rw [hy269]; with_reducible exact H2_) | (have H2_ := (Option.bind_some _ _).symm.trans H; with_reducible exact H2_) | with_reducible exact H | (rw [hy269]; exact H) | exact H
 have Ny269 := ak hy269
 clear hy269
 have H' := ak H
 clear H
 have hnb21 := NB262_260.out
 have hnc21 := NB260_262.out
 have hcz22_0 : wr.cell? ⟨gb262, 0, none⟩ = some (.int .i64 a0) := (blk_cell BK262.out 0).trans rfl
 have hcz22_1 : wr.cell? ⟨gb262, 1, none⟩ = some (u263001) := (blk_cell BK262.out 1).trans rfl
 have hcz22_2 : wr.cell? ⟨gb262, 2, none⟩ = some (u263002) := (blk_cell BK262.out 2).trans rfl
 have hfz22_0 := blk_frozen BK262.out 0
 have hfz22_1 := blk_frozen BK262.out 1
 have hfz22_2 := blk_frozen BK262.out 2
 try go_wp2_with (first | ((with_reducible refine gate_builtin (b := .append) (xs := #[.tmp 49, .tmp 51]) rfl ?_); at_builtin; refine Kd.R_append (Kd.int .u16) (w0 := w) w.heap.size rfl (.tmp 49) (.tmp 51) 28 56 (.int .u16 0) 2 rfl Try.underlying28 info56 rfl (by decide) (by omega) u263001 x263001_1 x10_2 [.int .u16 x10_2] (fun _ => True) (fun _ => False) rfl rfl ?aP (fun _ hk => hk.elim) ?aF ?aO ?aB ?aS ?aL ?_; (case aP => exact rfl); (case aB => exact (by repeat (first | (with_reducible first | exact HB.out | apply below_alloc | apply pw_below_drewN | apply below_drew1 | refine below_set ?_ GE260.out | refine below_set ?_ GE262.out) | exact HB.out))); (case aF => exact (fun _ _ => trivial)); (case aO => exact (zR HO_263001.out)); (case aS => exact (below_size (by repeat (first | (with_reducible first | exact HB.out | apply below_alloc | apply pw_below_drewN | apply below_drew1 | refine below_set ?_ GE260.out | refine below_set ?_ GE262.out) | exact HB.out)))); (case aL => have := LMc18.out; omega); intro v266 w23 ho hb hg hat; rw [← Ny265.out] at ho; have n0_ := ak (Kd.R_over' (zR HO_263002.out) (Kd.R_typed (zR HO_263001.out)) (by decide) hg); have n1_ := ak (blk_grown (g := gb260) (o := .cells #[.int .i64 0, .slice none 0 0, .slice none 0 0] 31 (0, 0)) (zK BK260.out) hg (Kd.R_ne HO_263001.out BK260.out (by decide))); have n2_ := ak (blk_grown (g := gb262) (o := .cells #[.int .i64 a0, u263001, u263002] 31 (0, 0)) (zK BK262.out) hg (Kd.R_ne HO_263001.out BK262.out (by decide))); have n3_ := ak (hb); have n4_ := ak (ho); clear HO_263002 BK260 BK262 HB HO_263001; have HO_263002 := n0_; have BK260 := n1_; have BK262 := n2_; have HB := n3_; have HO267 := n4_; clear n0_ n1_ n2_ n3_ n4_; clear ho hb hg hat; obtain ⟨Ao24, co24, eo24⟩ := Kd.R_slice HO267.out; subst eo24; have hcz25_0 : w23.cell? ⟨gb262, 0, none⟩ = some (.int .i64 a0) := (blk_cell BK262.out 0).trans rfl; have hcz25_1 : w23.cell? ⟨gb262, 1, none⟩ = some (u263001) := (blk_cell BK262.out 1).trans rfl; have hcz25_2 : w23.cell? ⟨gb262, 2, none⟩ = some (u263002) := (blk_cell BK262.out 2).trans rfl; have hfz25_0 := blk_frozen BK262.out 0; have hfz25_1 := blk_frozen BK262.out 1; have hfz25_2 := blk_frozen BK262.out 2))
 have n0_ : Aside0 (Kd.R (Kd.int .i16) 42 (w23.setCell ⟨gb262, 1, none⟩ (.slice Ao24 y265.length co24)) w.heap.size (fun _ => True) u263002 x263002_1) := ⟨by (with_reducible repeat (first | apply Kd.R_alloc | apply Kd.R_drewN | apply Kd.R_drew)); exact Kd.R_mono (Kd.R_far (p := ⟨gb262, 1, none⟩) (Kd.R_types HO_263002.out BK262.out (by decide)) (fun _ hk => hk.2) (.slice Ao24 y265.length co24)) (fun _ hk => trivial)⟩
 have n1_ : Aside0 (Kd.R (Kd.int .u16) 56 (w23.setCell ⟨gb262, 1, none⟩ (.slice Ao24 y265.length co24)) w.heap.size (fun _ => True) (.slice Ao24 y265.length co24) y265) := ⟨by (with_reducible repeat (first | apply Kd.R_alloc | apply Kd.R_drewN | apply Kd.R_drew)); exact Kd.R_mono (Kd.R_far (p := ⟨gb262, 1, none⟩) (Kd.R_types HO267.out BK262.out (by decide)) (fun _ hk => hk.2) (.slice Ao24 y265.length co24)) (fun _ hk => trivial)⟩
 have n2_ : Aside0 ((w23.setCell ⟨gb262, 1, none⟩ (.slice Ao24 y265.length co24)).heap[gb260]? = some (.cells #[.int .i64 0, .slice none 0 0, .slice none 0 0] 31 (0, 0))) := ⟨by (with_reducible repeat (first | refine blk_drewN ?_ _ | refine blk_drew ?_ | refine blk_alloc ?_ _)); refine blk_far ?_ NB260_262.out _; (with_reducible repeat (first | refine blk_drewN ?_ _ | refine blk_drew ?_ | refine blk_alloc ?_ _)); exact BK260.out⟩
 have n3_ : Aside0 ((w23.setCell ⟨gb262, 1, none⟩ (.slice Ao24 y265.length co24)).heap[gb262]? = some (.cells #[.int .i64 a0, .slice Ao24 y265.length co24, u263002] 31 (0, 0))) := ⟨by (with_reducible repeat (first | refine blk_drewN ?_ _ | refine blk_drew ?_ | refine blk_alloc ?_ _)); refine blk_put (cs := #[.int .i64 a0, u263001, u263002]) ?_ 1 _ rfl; (with_reducible repeat (first | refine blk_drewN ?_ _ | refine blk_drew ?_ | refine blk_alloc ?_ _)); exact BK262.out⟩
 have n4_ : Aside0 (Below w.heap.size w (w23.setCell ⟨gb262, 1, none⟩ (.slice Ao24 y265.length co24))) := ⟨by repeat (first | (with_reducible first | exact HB.out | apply below_alloc | apply pw_below_drewN | apply below_drew1 | refine below_set ?_ GE260.out | refine below_set ?_ GE262.out) | exact HB.out)⟩
 (try clear HO_263002)
 (try clear HO267)
 (try clear BK260)
 (try clear BK262)
 (try clear HB)
 generalize (w23.setCell ⟨gb262, 1, none⟩ (.slice Ao24 y265.length co24)) = w26 at n0_ n1_ n2_ n3_ n4_ ⊢
 have HO_263002 := n0_
 have HO267 := n1_
 have BK260 := n2_
 have BK262 := n3_
 have HB := n4_
 clear n0_ n1_ n2_ n3_ n4_
 have n0_ := ak (Kd.R_drew HO_263002.out)
 have n1_ := ak (Kd.R_drew HO267.out)
 have n2_ := ak (blk_drew BK260.out)
 have n3_ := ak (blk_drew BK262.out)
 have n4_ := ak (below_drew1 HB.out)
 clear HO_263002 HO267 BK260 BK262 HB
 have HO_263002 := n0_
 have HO267 := n1_
 have BK260 := n2_
 have BK262 := n3_
 have HB := n4_
 clear n0_ n1_ n2_ n3_ n4_
 refine start_ (n := 9) (S := fun w' => w'.cell? ⟨gb262, 0, none⟩ = some (.int .i64 a0) ∧ w'.cell? ⟨gb262, 1, none⟩ = some (.slice Ao24 y265.length co24) ∧ w'.cell? ⟨gb262, 2, none⟩ = some (u263002)) (ds := [8]) #[false, false, false, false, false, false, false, false, false] (by kernel_rfl) rfl rfl ⟨(blk_cell BK262.out 0).trans rfl, (blk_cell BK262.out 1).trans rfl, (blk_cell BK262.out 2).trans rfl⟩ (fun hHeld => ?_); refine with_tabW spec_LogFrom.tab14 spec_LogFrom.bits14 (fun HT_ HW_ => ?_)
 generalize w26.drew = w27 at HO_263002 HO267 BK260 BK262 HB hHeld ⊢
 refine pure_ (i := 0) (N := some 54) (v := ?_) (a' := ?_) #[true, false, false, false, false, false, false, false, false] rfl rfl (any_of HT_.out (by kernel_rfl)) (fun _ _ _ h => h) (Or.inl ⟨by rfl, ?_⟩) ?_ ?_
 rotate_left
 {
 intro w'
 go_simp
 with_reducible rfl
 }
 rotate_left
 · simp only [Act.put, zs, zz, zk, i64_w, i32_w]; rfl
 refine pure_ (i := 2) (N := some 56) (v := ?_) (a' := ?_) #[true, false, true, false, false, false, false, false, false] rfl rfl (any_of HT_.out (by kernel_rfl)) (fun _ _ _ h => h) (Or.inl ⟨by rfl, ?_⟩) ?_ ?_
 rotate_left
 {
 intro w'
 go_simp
 with_reducible rfl
 }
 rotate_left
 · simp only [Act.put, zs, zz, zk, i64_w, i32_w]; rfl
 refine take_ (i := 1) (N := some 55) (v := ?_) (a' := ?_) #[true, true, true, false, false, false, false, false, false] rfl rfl (take_ofW HT_.out HW_.out (by kernel_rfl)) (fun _ _ _ h => h) (Or.inl ⟨by rfl, ?_⟩) hHeld ?_ ?_
 rotate_left
 {
 rintro w' ⟨s0, s1, s2⟩
 go_simp
 with_reducible rfl
 }
 rotate_left
 · simp only [Act.put, zs, zz, zk, i64_w, i32_w]; rfl
 refine one_ (i := 3) (N := some 57) #[true, true, true, true, false, false, false, false, false] rfl rfl (one_of HT_.out (by kernel_rfl)) (by decide) (fun K hK => ?_)
 refine goes_ Try.func28 (by kernel_rfl) rfl #[.int .u16 x10_2] (by rfl) rfl rfl (by (try simp only [List.map_toArray, List.map_cons, List.map_nil]); first | done | rfl | (simp only [List.length_drop, List.length_take]; rfl)) ?_
 with_reducible refine (spec_CountPeople.calls k2 x10_2 t268 _ A19.out).mono ?_
 rintro e w28 ⟨rfl, hb⟩
 refine ⟨_, rfl, ?_⟩
 have n0_ := ak (Kd.R_below (zR HO_263002.out) hb)
 have n1_ := ak (Kd.R_below (zR HO267.out) hb)
 have n2_ := ak (blk_below (g := gb260) (o := .cells #[.int .i64 0, .slice none 0 0, .slice none 0 0] 31 (0, 0)) (zK BK260.out) hb)
 have n3_ := ak (blk_below (g := gb262) (o := .cells #[.int .i64 a0, .slice Ao24 y265.length co24, u263002] 31 (0, 0)) (zK BK262.out) hb)
 have n4_ := ak (below_step (by repeat (first | (with_reducible first | exact HB.out | apply below_alloc | apply pw_below_drewN | apply below_drew1 | refine below_set ?_ GE260.out | refine below_set ?_ GE262.out) | exact HB.out)) hb)
 clear HO_263002 HO267 BK260 BK262 HB
 have HO_263002 := n0_
 have HO267 := n1_
 have BK260 := n2_
 have BK262 := n3_
 have HB := n4_
 clear n0_ n1_ n2_ n3_ n4_
 (try clear hb)
 (try clear hb2)
 (try clear hk)
 (try clear hi)
 refine hK.out _ _ ⟨(blk_cell BK262.out 0).trans rfl, (blk_cell BK262.out 1).trans rfl, (blk_cell BK262.out 2).trans rfl⟩ (fun hHeld => ?_)
 clear hK K
 refine norm_ (a' := ?_) ?_ ?_
 rotate_left
 {
 show Act.put _ (some 57) _ = _
 simp only [Act.put, zs, zz, zk, i64_w, i32_w]
 rfl
 }
 refine pure_ (i := 4) (N := some 58) (v := ?_) (a' := ?_) #[true, true, true, true, true, false, false, false, false] rfl rfl (any_of HT_.out (by kernel_rfl)) (fun _ _ _ h => h) (Or.inl ⟨by rfl, ?_⟩) ?_ ?_
 rotate_left
 {
 intro w'
 go_simp
 with_reducible rfl
 }
 rotate_left
 · simp only [Act.put, zs, zz, zk, i64_w, i32_w]; rfl
 refine one_ (i := 5) (N := some 59) #[true, true, true, true, true, true, false, false, false] rfl rfl (one_of HT_.out (by kernel_rfl)) (by decide) (fun K hK => ?_)
 refine value_ (w1 := ?_) (v := ?_) (by rfl) rfl ?_ ?_
 rotate_left 2
 {
 go_simp
 constructor
 · rfl
 · rfl
 }
 refine hK.out _ _ ⟨(blk_cell (blk_alloc BK262.out _) 0).trans rfl, (blk_cell (blk_alloc BK262.out _) 1).trans rfl, (blk_cell (blk_alloc BK262.out _) 2).trans rfl⟩ (fun hHeld => ?_)
 clear hK K
 refine norm_ (a' := ?_) ?_ ?_
 rotate_left
 {
 show Act.put _ (some 59) _ = _
 simp only [Act.put, zs, zz, zk, i64_w, i32_w]
 rfl
 }
 refine one_ (i := 6) (N := some 60) #[true, true, true, true, true, true, true, false, false] rfl rfl (one_of HT_.out (by kernel_rfl)) (by decide) (fun K hK => ?_)
 refine Kd.R_append_step (Kd.int .i16) (w0 := w) w.heap.size (by rfl) (.tmp 55) (.tmp 59) 29 42 (.int .i16 0) 2 rfl Try.underlying29 info42 rfl (by decide) (by omega) u263002 x263002_1 (IntKind.i16.wrap (t268)) [.int .i16 (IntKind.i16.wrap (t268))] (fun _ => True) (fun _ => False) rfl rfl ?aP (fun _ hk => hk.elim) ?aF ?aO ?aB ?aS ?aL ?_
 (case aP => exact rfl)
 (case aB => exact (by repeat (first | (with_reducible first | exact HB.out | apply below_alloc | apply pw_below_drewN | apply below_drew1 | refine below_set ?_ GE260.out | refine below_set ?_ GE262.out) | exact HB.out)))
 (case aF => exact (fun _ _ => trivial))
 (case aO => exact (zR HO_263002.out))
 (case aS => exact (below_size (by repeat (first | (with_reducible first | exact HB.out | apply below_alloc | apply pw_below_drewN | apply below_drew1 | refine below_set ?_ GE260.out | refine below_set ?_ GE262.out) | exact HB.out))))
 (case aL => have := LMc20.out; omega)
 intro v270 w29 ho hb hg hat
 rw [← Ny269.out] at ho
 have n0_ := ak (blk_grown (g := gb260) (o := .cells #[.int .i64 0, .slice none 0 0, .slice none 0 0] 31 (0, 0)) (zK BK260.out) hg (Kd.R_ne HO_263002.out BK260.out (by decide)))
 have n1_ := ak (blk_grown (g := gb262) (o := .cells #[.int .i64 a0, .slice Ao24 y265.length co24, u263002] 31 (0, 0)) (zK BK262.out) hg (Kd.R_ne HO_263002.out BK262.out (by decide)))
 have n2_ := ak (Kd.R_over' (zR HO267.out) (Kd.R_typed (zR HO_263002.out)) (by decide) hg)
 have n3_ := ak (hb)
 have n4_ := ak (ho)
 clear BK260 BK262 HO267 HB HO_263002
 have BK260 := n0_
 have BK262 := n1_
 have HO267 := n2_
 have HB := n3_
 have HO271 := n4_
 clear n0_ n1_ n2_ n3_ n4_ ho hb hg hat
 obtain ⟨Ao30, co30, eo30⟩ := Kd.R_slice HO271.out
 (first | subst eo30 | (injection eo30 with f1_ f2_ f3_; have f4_ := f1_.symm; have f5_ := f3_.symm; clear f1_ f2_ f3_; subst f4_; subst f5_))
 refine hK.out _ _ ⟨(blk_cell BK262.out 0).trans rfl, (blk_cell BK262.out 1).trans rfl, (blk_cell BK262.out 2).trans rfl⟩ (fun hHeld => ?_)
 clear hK K
 refine norm_ (a' := ?_) ?_ ?_
 rotate_left
 {
 show Act.put _ (some 60) _ = _
 simp only [Act.put, zs, zz, zk, i64_w, i32_w]
 rfl
 }
 refine pure_ (i := 7) (N := some 61) (v := ?_) (a' := ?_) #[true, true, true, true, true, true, true, true, false] rfl rfl (any_of HT_.out (by kernel_rfl)) (fun _ _ _ h => h) (Or.inl ⟨by rfl, ?_⟩) ?_ ?_
 rotate_left
 {
 intro w'
 go_simp
 with_reducible rfl
 }
 rotate_left
 · simp only [Act.put, zs, zz, zk, i64_w, i32_w]; rfl
 refine last_ (i := 8) (N := none) #[true, true, true, true, true, true, true, true, true] rfl rfl (one_of HT_.out (by kernel_rfl)) (by decide) (fun K hK => ?_)
 have hs31 : w29.cell? ⟨gb262, 2, none⟩ = some (u263002) := (blk_cell BK262.out 2).trans rfl
 have hfs31 := blk_frozen BK262.out 2
 have hns31_0 := NB260_262.out
 have hms31_0 := NB262_260.out
 refine skip_ (w1 := ?_) (by rfl) rfl ?_ ?_
 rotate_left
 · go_simp; rfl
 refine hK.out _ _ ?_
 clear hK K
 refine done_ (done_of HT_.out (by kernel_rfl)) ?_
 try go_wp2
 go_roundg k2
 case measure => have := HK1.out; have := HK2.out; omega
 case rel => exact ⟨(wrap64 (x9_1 + 1)), (y265), (y269), (.slice Ao24 y265.length co24), (.slice Ao30 y269.length co30), (by first | rfl | (simp; done) | (simp [*]; done)), H', ⟨by have := HK1.out; have := HK2.out; omega⟩, ⟨by (with_reducible repeat (first | apply Kd.R_alloc | apply Kd.R_drewN | apply Kd.R_drew)); exact Kd.R_mono (Kd.R_far (p := ⟨gb262, 2, none⟩) (Kd.R_types HO267.out BK262.out (by decide)) (fun _ hk => hk.2) (.slice Ao30 y269.length co30)) (fun _ hk => trivial)⟩, ⟨by (with_reducible repeat (first | apply Kd.R_alloc | apply Kd.R_drewN | apply Kd.R_drew)); exact Kd.R_mono (Kd.R_far (p := ⟨gb262, 2, none⟩) (Kd.R_types HO271.out BK262.out (by decide)) (fun _ hk => hk.2) (.slice Ao30 y269.length co30)) (fun _ hk => trivial)⟩, ⟨by (with_reducible repeat (first | refine blk_drewN ?_ _ | refine blk_drew ?_ | refine blk_alloc ?_ _)); refine blk_far ?_ NB260_262.out _; (with_reducible repeat (first | refine blk_drewN ?_ _ | refine blk_drew ?_ | refine blk_alloc ?_ _)); exact BK260.out⟩, ⟨by (with_reducible repeat (first | refine blk_drewN ?_ _ | refine blk_drew ?_ | refine blk_alloc ?_ _)); refine blk_put (cs := #[.int .i64 a0, .slice Ao24 y265.length co24, u263002]) ?_ 2 _ rfl; (with_reducible repeat (first | refine blk_drewN ?_ _ | refine blk_drew ?_ | refine blk_alloc ?_ _)); exact BK262.out⟩, ⟨by repeat (first | (with_reducible first | exact HB.out | apply below_alloc | apply pw_below_drewN | apply below_drew1 | refine below_set ?_ GE260.out | refine below_set ?_ GE262.out) | exact HB.out)⟩⟩
 }
 · rw [if_neg c20] at H; exact absurd H (by simp)
 }
 · rw [if_neg c18] at H; exact absurd H (by simp)
 }
 )
 )
 }
 {
 rw [if_neg c11] at H
 have c11b0 : decide (x9_1 < a1) = false := decide_eq_false c11
 clear c11
 simp only [Option.some.injEq, Prod.mk.injEq] at H
 obtain ⟨rfl, rfl, rfl, rfl⟩ := H
 have hnb32 := NB262_260.out
 have hnc32 := NB260_262.out
 have hcz33_0 : wr.cell? ⟨gb262, 0, none⟩ = some (.int .i64 a0) := (blk_cell BK262.out 0).trans rfl
 have hcz33_1 : wr.cell? ⟨gb262, 1, none⟩ = some (u263001) := (blk_cell BK262.out 1).trans rfl
 have hcz33_2 : wr.cell? ⟨gb262, 2, none⟩ = some (u263002) := (blk_cell BK262.out 2).trans rfl
 have hfz33_0 := blk_frozen BK262.out 0
 have hfz33_1 := blk_frozen BK262.out 1
 have hfz33_2 := blk_frozen BK262.out 2
 have hcz34_0 : wr.cell? ⟨gb260, 0, none⟩ = some (.int .i64 0) := (blk_cell BK260.out 0).trans rfl
 have hcz34_1 : wr.cell? ⟨gb260, 1, none⟩ = some (.slice none 0 0) := (blk_cell BK260.out 1).trans rfl
 have hcz34_2 : wr.cell? ⟨gb260, 2, none⟩ = some (.slice none 0 0) := (blk_cell BK260.out 2).trans rfl
 have hfz34_0 := blk_frozen BK260.out 0
 have hfz34_1 := blk_frozen BK260.out 1
 have hfz34_2 := blk_frozen BK260.out 2
 obtain ⟨Ao35, co35, eo35⟩ := Kd.R_slice HO_263001.out
 subst eo35
 obtain ⟨Ao36, co36, eo36⟩ := Kd.R_slice HO_263002.out
 subst eo36
 go_wp2
 refine bodyPost_ret (results_ct rfl _ _ gb260 31 #[.int .i64 a0, .slice Ao35 x263001_1.length co35, .slice Ao36 x263002_1.length co36] (0, 0) _ rfl (by (with_reducible repeat (first | refine blk_drewN ?_ _ | refine blk_drew ?_ | refine blk_alloc ?_ _)); refine blk_put (cs := #[.int .i64 a0, .slice Ao35 x263001_1.length co35, .slice none 0 0]) ?_ 2 _ rfl; (with_reducible repeat (first | refine blk_drewN ?_ _ | refine blk_drew ?_ | refine blk_alloc ?_ _)); refine blk_put (cs := #[.int .i64 a0, .slice none 0 0, .slice none 0 0]) ?_ 1 _ rfl; (with_reducible repeat (first | refine blk_drewN ?_ _ | refine blk_drew ?_ | refine blk_alloc ?_ _)); refine blk_put (cs := #[.int .i64 0, .slice none 0 0, .slice none 0 0]) ?_ 0 _ rfl; (with_reducible repeat (first | refine blk_drewN ?_ _ | refine blk_drew ?_ | refine blk_alloc ?_ _)); exact BK260.out) Try.underlying31 rfl (by kernel_rfl)) rfl ?_
 exact ⟨_, _, by first | rfl | (simp [errW_none, errW_some] <;> rfl) | (simp [*, errW_none, errW_some] <;> rfl), by (with_reducible repeat (first | apply Kd.R_alloc | apply Kd.R_drewN | apply Kd.R_drew)); exact Kd.R_mono (Kd.R_far (p := ⟨gb260, 2, none⟩) (Kd.R_far (p := ⟨gb260, 1, none⟩) (Kd.R_far (p := ⟨gb260, 0, none⟩) (Kd.R_types HO_263001.out BK260.out (by decide)) (fun _ hk => hk.2) (.int .i64 a0)) (fun _ hk => hk.2) (.slice Ao35 x263001_1.length co35)) (fun _ hk => hk.2) (.slice Ao36 x263002_1.length co36)) (fun _ hk => trivial), by (with_reducible repeat (first | apply Kd.R_alloc | apply Kd.R_drewN | apply Kd.R_drew)); exact Kd.R_mono (Kd.R_far (p := ⟨gb260, 2, none⟩) (Kd.R_far (p := ⟨gb260, 1, none⟩) (Kd.R_far (p := ⟨gb260, 0, none⟩) (Kd.R_types HO_263002.out BK260.out (by decide)) (fun _ hk => hk.2) (.int .i64 a0)) (fun _ hk => hk.2) (.slice Ao35 x263001_1.length co35)) (fun _ hk => hk.2) (.slice Ao36 x263002_1.length co36)) (fun _ hk => trivial), by repeat (first | (with_reducible first | exact HB.out | apply below_alloc | apply pw_below_drewN | apply below_drew1 | refine below_set ?_ GE260.out | refine below_set ?_ GE262.out) | exact HB.out)⟩
 }
 )
 )
 }
 {
 replace c5 := Bool.eq_false_iff.mpr c5
 subst c5
 have H1 : (some (0, ([] : List Int), ([] : List Int), 1)) = some (r1, r2, r3, r4) := by rw [if_neg (show ¬ (false = true) by decide)] at H; exact H
 clear H
 have H := H1
 clear H1
 simp only [Option.some.injEq, Prod.mk.injEq] at H
 obtain ⟨rfl, rfl, rfl, rfl⟩ := H
 go_enter Try.func9, Try.ntmps9
 go_wp2_with (first | ((with_reducible refine gate_dst (N := 6) rfl ?_); refine box_event ?hg (N := 6) ?hd (cs := #[.int .i64 0, .slice none 0 0, .slice none 0 0]) (t := 31) ?hr ?_; (case hd => rfl); (case hg => rfl); (case hr => first | (go_simp; done) | (go_simp; rfl)); intro gb260 hg w37 hbox hb; have n0_ := ak (below_step (zB HB.out) hb); have n1_ := ak (hbox); have n2_ := ak ((by rw [hg]; exact (below_size (zB HB.out)) : w.heap.size ≤ gb260)); have n3_ := ak ((by rw [hg]; exact (below_size (zB HB.out)) : w.heap.size ≤ gb260)); clear HB; have HB := n0_; have BK260 := n1_; have GW260 := n2_; have GE260 := n3_; clear n0_ n1_ n2_ n3_; clear hb hbox hg) | ((with_reducible refine gate_callee (f := 25) rfl ?_); refine goesL_ (some 15) rfl rfl Try.func25 (by kernel_rfl) rfl #[.int .i64 a0, .int .i64 a1, .slice A2 l2.length c2] rfl (by (try simp only [List.map_toArray, List.map_cons, List.map_nil]); first | done | rfl | (simp only [List.length_drop, List.length_take]; rfl)) ?_; (with_reducible refine (spec_l05Records.calls k a0 a1 _ _ l2 false _ ?side1 ?side2 A4.out).mono ?_); (case side1 => repeat (first | exact (Kd.C_below HR2.out HB.out) | (with_reducible refine Kd.C_alloc ?_ _) | (with_reducible refine Kd.C_drewN ?_ _) | (with_reducible refine Kd.C_drew ?_))); (case side2 => exact HC2.out); rintro e w38 ⟨rfl, hb⟩; refine ⟨_, rfl, ?_⟩; have n0_ := ak (blk_below (g := gb260) (o := .cells #[.int .i64 0, .slice none 0 0, .slice none 0 0] 31 (0, 0)) (zK BK260.out) hb); have n1_ := ak (below_step (zBG HB.out GE260.out) hb); clear BK260 HB; have BK260 := n0_; have HB := n1_; clear n0_ n1_; (try clear hb); (try clear hb2); (try clear hk); (try clear hi); have hcz39_0 : w38.cell? ⟨gb260, 0, none⟩ = some (.int .i64 0) := (blk_cell BK260.out 0).trans rfl; have hcz39_1 : w38.cell? ⟨gb260, 1, none⟩ = some (.slice none 0 0) := (blk_cell BK260.out 1).trans rfl; have hcz39_2 : w38.cell? ⟨gb260, 2, none⟩ = some (.slice none 0 0) := (blk_cell BK260.out 2).trans rfl; have hfz39_0 := blk_frozen BK260.out 0; have hfz39_1 := blk_frozen BK260.out 1; have hfz39_2 := blk_frozen BK260.out 2))
 refine bodyPost_ret (results_ct rfl _ _ gb260 31 #[.int .i64 0, .slice none 0 0, .slice none 0 0] (0, 0) _ rfl (by (with_reducible repeat (first | refine blk_drewN ?_ _ | refine blk_drew ?_ | refine blk_alloc ?_ _)); refine blk_put (cs := #[.int .i64 0, .slice none 0 0, .slice none 0 0]) ?_ 2 _ rfl; (with_reducible repeat (first | refine blk_drewN ?_ _ | refine blk_drew ?_ | refine blk_alloc ?_ _)); refine blk_put (cs := #[.int .i64 0, .slice none 0 0, .slice none 0 0]) ?_ 1 _ rfl; (with_reducible repeat (first | refine blk_drewN ?_ _ | refine blk_drew ?_ | refine blk_alloc ?_ _)); refine blk_put (cs := #[.int .i64 0, .slice none 0 0, .slice none 0 0]) ?_ 0 _ rfl; (with_reducible repeat (first | refine blk_drewN ?_ _ | refine blk_drew ?_ | refine blk_alloc ?_ _)); exact BK260.out) Try.underlying31 rfl (by kernel_rfl)) rfl ?_
 exact ⟨_, _, by first | rfl | (simp [errW_none, errW_some] <;> rfl) | (simp [*, errW_none, errW_some] <;> rfl), by first | exact Kd.R_nil _ _ _ _ _ | exact Kd.N_nil _ _ _ _ _ | exact Kd.V_nil _ _ _ _ _ | exact Kd.Q_nil _ _ _ _ _ | exact Kd.S_nil _ _ _ _ _, by first | exact Kd.R_nil _ _ _ _ _ | exact Kd.N_nil _ _ _ _ _ | exact Kd.V_nil _ _ _ _ _ | exact Kd.Q_nil _ _ _ _ _ | exact Kd.S_nil _ _ _ _ _, by repeat (first | (with_reducible first | exact HB.out | apply below_alloc | apply pw_below_drewN | apply below_drew1 | refine below_set ?_ GE260.out) | exact HB.out)⟩
 }
/-! ### impl_FirstBackward: function 10 -/
def impl_FirstBackward.bk : (Nat → Int) → List S44 → Nat → Int × Int
  | _, [], _ => (0, 6)
  | far, x :: r, i => if x.f1 < far x.f0.toNat then ((i : Int), 0) else impl_FirstBackward.bk (fun p => if p = x.f0.toNat then x.f1 else far p) r (i + 1)
def impl_FirstBackward.f (k : Nat) (a0 a1 : Int) (l2 : List S44) : Option (Int × Int) := (impl_ValidRecords.f k a0 a1 l2).bind fun vb => (if vb = true then (impl_sorted.f l2).bind fun sl => (if sl.length ≤ 1000 ∧ ∀ x ∈ sl, 0 ≤ x.f0 ∧ x.f0 < 14 then some (impl_FirstBackward.bk (fun _ => 0) sl 0) else none) else some ((0 : Int), (1 : Int)))
theorem impl_FirstBackward.mono : ∀ a0 a1 a2 k, LeO (impl_FirstBackward.f k a0 a1 a2) (impl_FirstBackward.f (k + 1) a0 a1 a2) := by
  intro a0 a1 a2 k
  unfold impl_FirstBackward.f
  repeat' first
      | (with_reducible exact impl_ValidRecords.mono _ _ _ _)
      | (with_reducible exact LeO.refl _)
      | (with_reducible exact LeO.none _)
      | (with_reducible refine LeO.ite ?_ ?_)
      | (with_reducible refine LeO.bind ?_ (fun _ => ?_))
      | exact impl_ValidRecords.mono _ _ _ _
      | exact LeO.none _
      | refine LeO.ite ?_ ?_
      | refine LeO.bind ?_ (fun _ => ?_)
theorem impl_FirstBackward.rd_eq (l : List S44) (i : Nat) (h : i < l.length) : rd_T44 l (i : Int) = l[i] := by
  simp [rd_T44, List.getD_eq_getElem?_getD, List.getElem?_eq_getElem h]
set_option maxHeartbeats 8000000 in
set_option maxRecDepth 1000000 in
theorem impl_FirstBackward.calls (k : Nat) (a0 a1 : Int) (A2 : Option Addr) (c2 : Nat) (l2 : List S44) (r1 r2 : Int) (w : World) (hr2 : Kd.C k44 w A2 l2.length l2) (hc2 : l2.length ≤ c2) (h : impl_FirstBackward.f k a0 a1 l2 = some (r1, r2)) :
    Calls Try.prog 10 #[.int .i64 a0, .int .i64 a1, .slice A2 l2.length c2] w fun e w' => e = .returned (.tuple #[.int .i64 r1, .int .i64 r2]) ∧ Below w.heap.size w w' := by
  unfold impl_FirstBackward.f at h
  obtain ⟨vb, hvb, h⟩ := Option.bind_eq_some_iff.mp h
  have hv := impl_ValidRecords.calls k a0 a1 A2 c2 l2 vb w hr2 hc2 hvb
  cases vb with
  | false =>
    rw [if_neg (by decide)] at h
    obtain ⟨rfl, rfl⟩ := Prod.mk.inj (Option.some.inj h)
    clear hr2
    go_enter Try.func10, Try.ntmps10
    go_wp2_with (go_at_call 15; refine hv.mono ?_; rintro e w1 ⟨rfl, hB1⟩)
    go_ret2
    exact ⟨rfl, hB1⟩
  | true =>
    rw [if_pos rfl] at h
    obtain ⟨sl, hsl, h⟩ := Option.bind_eq_some_iff.mp h
    by_cases c : sl.length ≤ 1000 ∧ ∀ x ∈ sl, 0 ≤ x.f0 ∧ x.f0 < 14
    · rw [if_pos c] at h
      have hbk : Hid (impl_FirstBackward.bk (fun _ => 0) sl 0 = (r1, r2)) := Option.some.inj h
      clear h
      have hsort : ∀ W, Below w.heap.size w W → Calls Try.prog 24 #[.slice A2 l2.length c2] W fun e w' => ∃ (Ao : Option Addr) (co : Nat), e = .returned (.slice Ao sl.length co) ∧ Kd.R k44 44 w' W.heap.size (fun _ => True) (.slice Ao sl.length co) sl ∧ Below W.heap.size W w' := fun W q =>
        (impl_sorted.calls A2 c2 l2 sl W (Kd.C_below hr2 q) hc2 hsl).mono fun e w' ⟨v, h1, h2, h3⟩ => by
          obtain ⟨Ao, co, rfl⟩ := Kd.R_slice h2
          exact ⟨Ao, co, h1, h2, h3⟩
      clear hr2
      go_enter Try.func10, Try.ntmps10
      go_wp2_with (first | (go_at_call 15; refine hv.mono ?_; rintro e w1 ⟨rfl, hB1⟩) | (go_at_call 24; refine (hsort _ (Below.alloc hB1 hB1.size _)).mono ?_; rintro e w2 ⟨Ao, co, rfl, hR, hB2⟩))
      obtain ⟨g, hg⟩ : ∃ g, g = w1.heap.size := ⟨_, rfl⟩
      have hgw : w.heap.size ≤ g := by rw [hg]; exact hB1.size
      have hsz : (w1.alloc (.cells (Go.Proofs.Ytcjchobajjbhkaa.H.farA (fun _ => 0)) 60)).heap.size = w1.heap.size + 1 := by rw [World.alloc]; simp only [Array.size_push]
      have hB3 : Below w.heap.size w w2 := (Below.alloc hB1 hB1.size _).trans (hB2.mono (by show _ ≤ (w1.alloc (.cells (Go.Proofs.Ytcjchobajjbhkaa.H.farA (fun _ => 0)) 60)).heap.size; rw [hsz]; have := hB1.size; omega))
      have hF : w2.heap[g]? = some (.cells (Go.Proofs.Ytcjchobajjbhkaa.H.farA (fun _ => 0)) 60 (0, 0)) := (hB2.block g (by show _ < (w1.alloc (.cells (Go.Proofs.Ytcjchobajjbhkaa.H.farA (fun _ => 0)) 60)).heap.size; rw [hsz]; omega)).trans (by rw [hg]; exact heap_alloc_new w1 _)
      have hR3 : Kd.R k44 44 w2 w.heap.size (fun _ => True) (.slice Ao sl.length co) sl := Kd.R_lower hR (by show _ ≤ (w1.alloc (.cells (Go.Proofs.Ytcjchobajjbhkaa.H.farA (fun _ => 0)) 60)).heap.size; rw [hsz]; have := hB1.size; omega)
      clear hR hB2 hsz hv hsort hB1 hsl hvb hc2
      rw [← hg]
      clear hg
      go_loopg [20] sl.length (fun m s20 wr => ∃ (i : Nat) (far : Nat → Int), s20 = .int .i64 (i : Int) ∧ i ≤ sl.length ∧ sl.length - i ≤ m ∧ Hid (impl_FirstBackward.bk far (sl.drop i) i = (r1, r2)) ∧ Kd.R k44 44 wr w.heap.size (fun _ => True) (.slice Ao sl.length co) sl ∧ wr.heap[g]? = some (.cells (Go.Proofs.Ytcjchobajjbhkaa.H.farA far) 60 (0, 0)) ∧ Below w.heap.size w wr)
      case atStart => exact ⟨0, _, rfl, Nat.zero_le _, Nat.le_refl _, hbk, hR3, hF, hB3⟩
      case round =>
        clear hR3 hF hB3 hbk
        obtain ⟨i, far, rfl, hi, hm, hV, hR, hF, hB⟩ := hrel
        by_cases hlt : i < sl.length
        · have f1 : ((i : Int) < (sl.length : Int)) = True := eq_true (by omega)
          obtain ⟨ad, e_, hx0, hx1, hx2⟩ := at_T44 (Kd.R_reads' hR).2.2 (i : Int) (by omega) (by omega)
          subst e_
          rw [Int.toNat_natCast] at hx0 hx1 hx2
          have hxe : sl.drop i = rd_T44 sl (i : Int) :: sl.drop (i + 1) := by rw [impl_FirstBackward.rd_eq sl i hlt, List.drop_eq_getElem_cons hlt]
          have hxr : 0 ≤ (rd_T44 sl (i : Int)).f0 ∧ (rd_T44 sl (i : Int)).f0 < 14 := c.2 _ (by rw [impl_FirstBackward.rd_eq sl i hlt]; exact List.getElem_mem hlt)
          rw [hxe] at hV
          clear hxe
          generalize rd_T44 sl (i : Int) = x at hx0 hx1 hx2 hxr hV
          obtain ⟨x0, x1, x2⟩ := x
          dsimp only at hx0 hx1 hx2 hxr
          obtain ⟨p, rfl⟩ := Int.eq_ofNat_of_zero_le hxr.1
          have hp : p < 14 := by omega
          go_wp2
          have hb4 : (wr.alloc (.cells #[.int .i8 (p : Int), .int .i8 x1, .int .i16 x2] 44)).heap[wr.heap.size]? = some (.cells #[.int .i8 (p : Int), .int .i8 x1, .int .i16 x2] 44 (0, 0)) := heap_alloc_new wr _
          have hF4 : (wr.alloc (.cells #[.int .i8 (p : Int), .int .i8 x1, .int .i16 x2] 44)).heap[g]? = some (.cells (Go.Proofs.Ytcjchobajjbhkaa.H.farA far) 60 (0, 0)) := (Below.heap_alloc wr _ g (Array.getElem?_eq_some_iff.1 hF).1).trans hF
          have hR4 := Kd.R_alloc hR (.cells #[.int .i8 (p : Int), .int .i8 x1, .int .i16 x2] 44)
          have hB4 : Below w.heap.size w (wr.alloc (.cells #[.int .i8 (p : Int), .int .i8 x1, .int .i16 x2] 44)) := Below.alloc hB hB.size _
          generalize wr.alloc (.cells #[.int .i8 (p : Int), .int .i8 x1, .int .i16 x2] 44) = W4 at hb4 hF4 hR4 hB4 ⊢
          generalize wr.heap.size = b4 at hb4 ⊢
          obtain ⟨c0, c1, c2⟩ := Go.Proofs.Ytcjchobajjbhkaa.H.blk3_ hb4
          have cF : W4.cell? ⟨g, p, none⟩ = some (.int .i8 (far p)) := by simp only [World.cell?, hF4]; exact Go.Proofs.Ytcjchobajjbhkaa.H.farA_get far p hp
          have fF : W4.frozen? ⟨g, p, none⟩ = false := by simp [World.frozen?, hF4]
          clear hx0 hx1 hx2 hF hR hB
          have hv1 : impl_FirstBackward.bk far (⟨(p : Int), x1, x2⟩ :: sl.drop (i + 1)) i = if x1 < far p then ((i : Int), 0) else impl_FirstBackward.bk (fun q => if q = p then x1 else far q) (sl.drop (i + 1)) (i + 1) := by simp only [impl_FirstBackward.bk, Int.toNat_natCast]
          have hV2 := hV.out
          rw [hv1] at hV2
          clear hv1 hV
          have p1 : (0 ≤ (p : Int)) = True := eq_true (by omega)
          have p2 : ((p : Int) < 14) = True := eq_true (by omega)
          by_cases hc : x1 < far p
          · rw [if_pos hc] at hV2
            obtain ⟨rfl, rfl⟩ := Prod.mk.inj hV2
            have hd : decide (x1 < far p) = true := decide_eq_true hc
            go_quiet (fail)
            go_wp2
            go_ret2
            exact ⟨rfl, pw_below_drewN hB4 _⟩
          · rw [if_neg hc] at hV2
            have hd : decide (x1 < far p) = false := decide_eq_false hc
            have hVh : Hid (impl_FirstBackward.bk (fun q => if q = p then x1 else far q) (sl.drop (i + 1)) (i + 1) = (r1, r2)) := hV2
            clear hV2 hc
            have hwi : IntKind.i64.wrap ((i : Int) + 1) = ((i + 1 : Nat) : Int) := by simp [IntKind.wrap, IntKind.bits, IntKind.signed]; omega
            go_quiet (fail)
            go_wp2
            go_roundg (sl.length - (i + 1))
            case measure => omega
            case rel =>
              have hF5 : (W4.drewN nq).heap[g]? = some (.cells (Go.Proofs.Ytcjchobajjbhkaa.H.farA far) 60 (0, 0)) := hF4
              refine ⟨i + 1, _, by simp, by omega, Nat.le_refl _, hVh, Kd.R_mono (Kd.R_far (p := ⟨g, p, none⟩) (Kd.R_types (Kd.R_drewN hR4 nq) hF5 (by decide)) (fun _ hk => hk.2) (.int .i8 x1)) (fun _ _ => trivial), ?_, (pw_below_drewN hB4 nq).setCell (p := ⟨g, p, none⟩) hgw _⟩
              rw [← Go.Proofs.Ytcjchobajjbhkaa.H.farA_set far p hp x1]
              exact Go.Proofs.Ytcjchobajjbhkaa.H.rec_setCell_at _ g p _ _ _ hF5
        · obtain rfl : i = sl.length := by omega
          have f1 : ((sl.length : Int) < (sl.length : Int)) = False := eq_false (by omega)
          have hV2 := hV.out
          rw [List.drop_length] at hV2
          obtain ⟨rfl, rfl⟩ := Prod.mk.inj hV2
          clear hV
          go_wp2
          go_ret2
          exact ⟨rfl, hB⟩
    · rw [if_neg c] at h
      exact absurd h (by simp)

end Go.Proofs.Ytcjchobajjbhkaa.P
