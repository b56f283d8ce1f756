-- Printed by wip/print (my turned copy of the kit's print) out of the translation; Lean checks it.
import Derived.Test.YtcgbnbblojkglaaP0
import Derived.Test.YtcgbnbblojkglaaP6
import Derived.Test.YtcgbnbblojkglaaP7
namespace Go.Proofs.Ytcgbnbblojkglaa.P
open Go.RowKit Go.Proofs.YtcgbnbblojkglaaW.PrintWords Go.Proofs.YtcgbnbblojkglaaW.PrintLast Go.Proofs.YtcgbnbblojkglaaW.PrintMore
attribute [local go_sem] max2_int min2_int max_two min_two max_three min_three max_four min_four   -- for this text's walks alone
set_option linter.unusedVariables false
set_option linter.unusedSimpArgs false

/-! ### spec_l03Holds: function 26 -/
mutual
def spec_l03Holds.l0 : Nat → List (S47) → Int → Int → List Int → Option (Bool)
  | 0, _, _, _, _ => none
  | k + 1, x1, x5, x1000, x1001 => if x5 < (x1.length : Int) then (if 0 ≤ x5 then ((spec_l00In.f (wrap64 ((rd_T47 x1 x5).f0)) 0 999).bind fun t221 => (if t221 = true then ((spec_l00In.f (wrap64 ((rd_T47 x1 x5).f1)) 0 (wrap64 ((x1001.length : Int) - 1))).bind fun t223 => (spec_l03Holds.j1 k x1 x5 (!t223) x1000 x1001)) else (spec_l03Holds.j1 k x1 x5 true x1000 x1001))) else (none)) else (some true)
def spec_l03Holds.j1 : Nat → List (S47) → Int → Bool → Int → List Int → Option (Bool)
  | 0, _, _, _, _, _ => none
  | k + 1, x1, x5, x39, x1000, x1001 => if x39 = true then (some false) else (if x5 > 0 then (if 0 ≤ x5 then (if x5 < (x1.length : Int) then (if 0 ≤ (wrap64 (x5 - 1)) then (if (wrap64 (x5 - 1)) < (x1.length : Int) then (spec_l03Holds.j2 k x1 x5 (decide (((rd_T47 x1 x5).f1) ≤ ((rd_T47 x1 (wrap64 (x5 - 1))).f1))) x1000 x1001) else (none)) else (none)) else (none)) else (none)) else (spec_l03Holds.j2 k x1 x5 false x1000 x1001))
def spec_l03Holds.j2 : Nat → List (S47) → Int → Bool → Int → List Int → Option (Bool)
  | 0, _, _, _, _, _ => none
  | k + 1, x1, x5, x55, x1000, x1001 => if x55 = true then (some false) else (spec_l03Holds.l1 k x1 x5 0 x1000 x1001)
def spec_l03Holds.l1 : Nat → List (S47) → Int → Int → Int → List Int → Option (Bool)
  | 0, _, _, _, _, _ => none
  | k + 1, x1, x5, x6, x1000, x1001 => if x6 < x5 then (if 0 ≤ x6 then (if x6 < (x1.length : Int) then (if 0 ≤ x5 then (if x5 < (x1.length : Int) then (if ((rd_T47 x1 x6).f0) = ((rd_T47 x1 x5).f0) then (some false) else (spec_l03Holds.l1 k x1 x5 (wrap64 (x6 + 1)) x1000 x1001)) else (none)) else (none)) else (none)) else (none)) else (spec_l03Holds.l0 k x1 (wrap64 (x5 + 1)) x1000 x1001)
end
def spec_l03Holds.f (k : Nat) (a0_0 : Int) (l0_1 : List Int) (l1 : List (S47)) : Option (Bool) := (spec_l03Ok.f k a0_0 l0_1).bind fun t219 => (if t219 = true then (spec_l03Holds.l0 k l1 0 a0_0 l0_1) else (some false))
theorem spec_l03Holds.mono_l : ∀ k, (∀ y0 y1 y2 y3, LeO (spec_l03Holds.l0 k y0 y1 y2 y3) (spec_l03Holds.l0 (k + 1) y0 y1 y2 y3)) ∧ (∀ y0 y1 y2 y3 y4, LeO (spec_l03Holds.j1 k y0 y1 y2 y3 y4) (spec_l03Holds.j1 (k + 1) y0 y1 y2 y3 y4)) ∧ (∀ y0 y1 y2 y3 y4, LeO (spec_l03Holds.j2 k y0 y1 y2 y3 y4) (spec_l03Holds.j2 (k + 1) y0 y1 y2 y3 y4)) ∧ (∀ y0 y1 y2 y3 y4, LeO (spec_l03Holds.l1 k y0 y1 y2 y3 y4) (spec_l03Holds.l1 (k + 1) y0 y1 y2 y3 y4))
  | 0 => ⟨fun _ _ _ _ r h => by simp [spec_l03Holds.l0] at h, fun _ _ _ _ _ r h => by simp [spec_l03Holds.j1] at h, fun _ _ _ _ _ r h => by simp [spec_l03Holds.j2] at h, fun _ _ _ _ _ r h => by simp [spec_l03Holds.l1] at h⟩
  | k + 1 => by
    obtain ⟨ih0, ih1, ih2, ih3⟩ := spec_l03Holds.mono_l k
    refine ⟨?_, ?_, ?_, ?_⟩
    · intro y0 y1 y2 y3
      unfold spec_l03Holds.l0
      repeat' first
      | (with_reducible exact ih0 _ _ _ _)
      | (with_reducible exact ih1 _ _ _ _ _)
      | (with_reducible exact ih2 _ _ _ _ _)
      | (with_reducible exact ih3 _ _ _ _ _)
      | (with_reducible exact spec_l03Ok.mono _ _ _)
      | (with_reducible exact LeO.refl _)
      | (with_reducible exact LeO.none _)
      | (with_reducible refine LeO.ite ?_ ?_)
      | (with_reducible refine LeO.bind ?_ (fun _ => ?_))
      | exact ih0 _ _ _ _
      | exact ih1 _ _ _ _ _
      | exact ih2 _ _ _ _ _
      | exact ih3 _ _ _ _ _
      | exact spec_l03Ok.mono _ _ _
      | exact LeO.none _
      | refine LeO.ite ?_ ?_
      | refine LeO.bind ?_ (fun _ => ?_)
    · intro y0 y1 y2 y3 y4
      unfold spec_l03Holds.j1
      repeat' first
      | (with_reducible exact ih0 _ _ _ _)
      | (with_reducible exact ih1 _ _ _ _ _)
      | (with_reducible exact ih2 _ _ _ _ _)
      | (with_reducible exact ih3 _ _ _ _ _)
      | (with_reducible exact spec_l03Ok.mono _ _ _)
      | (with_reducible exact LeO.refl _)
      | (with_reducible exact LeO.none _)
      | (with_reducible refine LeO.ite ?_ ?_)
      | (with_reducible refine LeO.bind ?_ (fun _ => ?_))
      | exact ih0 _ _ _ _
      | exact ih1 _ _ _ _ _
      | exact ih2 _ _ _ _ _
      | exact ih3 _ _ _ _ _
      | exact spec_l03Ok.mono _ _ _
      | exact LeO.none _
      | refine LeO.ite ?_ ?_
      | refine LeO.bind ?_ (fun _ => ?_)
    · intro y0 y1 y2 y3 y4
      unfold spec_l03Holds.j2
      repeat' first
      | (with_reducible exact ih0 _ _ _ _)
      | (with_reducible exact ih1 _ _ _ _ _)
      | (with_reducible exact ih2 _ _ _ _ _)
      | (with_reducible exact ih3 _ _ _ _ _)
      | (with_reducible exact spec_l03Ok.mono _ _ _)
      | (with_reducible exact LeO.refl _)
      | (with_reducible exact LeO.none _)
      | (with_reducible refine LeO.ite ?_ ?_)
      | (with_reducible refine LeO.bind ?_ (fun _ => ?_))
      | exact ih0 _ _ _ _
      | exact ih1 _ _ _ _ _
      | exact ih2 _ _ _ _ _
      | exact ih3 _ _ _ _ _
      | exact spec_l03Ok.mono _ _ _
      | exact LeO.none _
      | refine LeO.ite ?_ ?_
      | refine LeO.bind ?_ (fun _ => ?_)
    · intro y0 y1 y2 y3 y4
      unfold spec_l03Holds.l1
      repeat' first
      | (with_reducible exact ih0 _ _ _ _)
      | (with_reducible exact ih1 _ _ _ _ _)
      | (with_reducible exact ih2 _ _ _ _ _)
      | (with_reducible exact ih3 _ _ _ _ _)
      | (with_reducible exact spec_l03Ok.mono _ _ _)
      | (with_reducible exact LeO.refl _)
      | (with_reducible exact LeO.none _)
      | (with_reducible refine LeO.ite ?_ ?_)
      | (with_reducible refine LeO.bind ?_ (fun _ => ?_))
      | exact ih0 _ _ _ _
      | exact ih1 _ _ _ _ _
      | exact ih2 _ _ _ _ _
      | exact ih3 _ _ _ _ _
      | exact spec_l03Ok.mono _ _ _
      | exact LeO.none _
      | refine LeO.ite ?_ ?_
      | refine LeO.bind ?_ (fun _ => ?_)
theorem spec_l03Holds.mono : ∀ a0 a1 a2 k, LeO (spec_l03Holds.f k a0 a1 a2) (spec_l03Holds.f (k + 1) a0 a1 a2) := by
  intro a0 a1 a2 k
  obtain ⟨ih0, ih1, ih2, ih3⟩ := spec_l03Holds.mono_l k
  unfold spec_l03Holds.f
  repeat' first
      | (with_reducible exact ih0 _ _ _ _)
      | (with_reducible exact ih1 _ _ _ _ _)
      | (with_reducible exact ih2 _ _ _ _ _)
      | (with_reducible exact ih3 _ _ _ _ _)
      | (with_reducible exact spec_l03Ok.mono _ _ _)
      | (with_reducible exact LeO.refl _)
      | (with_reducible exact LeO.none _)
      | (with_reducible refine LeO.ite ?_ ?_)
      | (with_reducible refine LeO.bind ?_ (fun _ => ?_))
      | exact ih0 _ _ _ _
      | exact ih1 _ _ _ _ _
      | exact ih2 _ _ _ _ _
      | exact ih3 _ _ _ _ _
      | exact spec_l03Ok.mono _ _ _
      | exact LeO.none _
      | refine LeO.ite ?_ ?_
      | refine LeO.bind ?_ (fun _ => ?_)
set_option maxHeartbeats 8000000 in
set_option maxRecDepth 100000 in
theorem spec_l03Holds.calls (k : Nat) (b0 : Nat) (a0_0 : Int) (A0_1 : Option Addr) (c0_1 : Nat) (l0_1 : List Int) (A1 : Option Addr) (c1 : Nat) (l1 : List (S47)) (r : Bool) (w : World) (hr0_1 : Kd.C (Kd.int .i16) w A0_1 l0_1.length l0_1) (hc0_1 : l0_1.length ≤ c0_1) (hr1 : Kd.C k47 w A1 l1.length l1) (hc1 : l1.length ≤ c1) (hx0 : w.heap[b0]? = some (.cells #[.int .i16 a0_0, .slice A0_1 l0_1.length c0_1] 27 (0, 0))) (h : spec_l03Holds.f k a0_0 l0_1 l1 = some r) :
    Calls Try.prog 26 #[.pointer (some ⟨b0, 0, none⟩), .slice A1 l1.length c1] w fun e w' => e = .returned (.bool r) ∧ Below w.heap.size w w' := by
 have HR0_1 := ak hr0_1
 have HC0_1 := ak hc0_1
 clear hr0_1 hc0_1
 have HR1 := ak hr1
 have HC1 := ak hc1
 clear hr1 hc1
 have BK0 := ak hx0
 clear hx0
 have HB := ak (Below.refl w.heap.size w)
 have H : ((spec_l03Ok.f k a0_0 l0_1).bind fun t219 => (if t219 = true then (spec_l03Holds.l0 k l1 0 a0_0 l0_1) else (some false))) = some r := h
 clear h
 replace H := Option.bind_eq_some_iff.mp H
 obtain ⟨t219, A30, H⟩ := H
 replace H : (if t219 = true then (spec_l03Holds.l0 k l1 0 a0_0 l0_1) else (some false)) = some r := H
 have A3 := ak A30
 clear A30
 by_cases c4 : t219 = true
 {
 subst c4
 have H1 : (spec_l03Holds.l0 k l1 0 a0_0 l0_1) = some r := by rw [if_pos rfl] at H; exact H
 clear H
 have H := H1
 clear H1
 have H' := ak H
 clear H
 go_enter Try.func26, Try.ntmps26
 go_wp2_with (first | (go_at_call 43; (with_reducible refine (spec_l03Ok.calls k b0 a0_0 A0_1 c0_1 l0_1 true _ ?side1 ?side2 ?side3 A3.out).mono ?_); (case side1 => repeat (first | exact HR0_1.out | (with_reducible refine Kd.C_alloc ?_ _) | (with_reducible refine Kd.C_drewN ?_ _) | (with_reducible refine Kd.C_drew ?_))); (case side2 => exact HC0_1.out); (case side3 => exact (by first | exact BK0.out | ((with_reducible repeat (first | refine blk_drewN ?_ _ | refine blk_drew ?_ | refine blk_alloc ?_ _)); exact BK0.out))); rintro e w5 ⟨rfl, hb⟩; have n0_ := ak (blk_below (g := b0) (o := .cells #[.int .i16 a0_0, .slice A0_1 l0_1.length c0_1] 27 (0, 0)) (zK BK0.out) hb); have n1_ := ak (below_step (zB HB.out) hb); clear BK0 HB; have BK0 := n0_; have HB := n1_; clear n0_ n1_; (try clear hb); (try clear hb2); (try clear hk); (try clear hi)))
 repeat (go_quiet (first | (go_at_call 43; (with_reducible refine (spec_l03Ok.calls k b0 a0_0 A0_1 c0_1 l0_1 true _ ?side1 ?side2 ?side3 A3.out).mono ?_); (case side1 => repeat (first | exact HR0_1.out | (with_reducible refine Kd.C_alloc ?_ _) | (with_reducible refine Kd.C_drewN ?_ _) | (with_reducible refine Kd.C_drew ?_))); (case side2 => exact HC0_1.out); (case side3 => exact (by first | exact BK0.out | ((with_reducible repeat (first | refine blk_drewN ?_ _ | refine blk_drew ?_ | refine blk_alloc ?_ _)); exact BK0.out))); rintro e w5 ⟨rfl, hb⟩; have n0_ := ak (blk_below (g := b0) (o := .cells #[.int .i16 a0_0, .slice A0_1 l0_1.length c0_1] 27 (0, 0)) (zK BK0.out) hb); have n1_ := ak (below_step (zB HB.out) hb); clear BK0 HB; have BK0 := n0_; have HB := n1_; clear n0_ n1_; (try clear hb); (try clear hb2); (try clear hk); (try clear hi))); try go_wp2_with (first | (go_at_call 43; (with_reducible refine (spec_l03Ok.calls k b0 a0_0 A0_1 c0_1 l0_1 true _ ?side1 ?side2 ?side3 A3.out).mono ?_); (case side1 => repeat (first | exact HR0_1.out | (with_reducible refine Kd.C_alloc ?_ _) | (with_reducible refine Kd.C_drewN ?_ _) | (with_reducible refine Kd.C_drew ?_))); (case side2 => exact HC0_1.out); (case side3 => exact (by first | exact BK0.out | ((with_reducible repeat (first | refine blk_drewN ?_ _ | refine blk_drew ?_ | refine blk_alloc ?_ _)); exact BK0.out))); rintro e w5 ⟨rfl, hb⟩; have n0_ := ak (blk_below (g := b0) (o := .cells #[.int .i16 a0_0, .slice A0_1 l0_1.length c0_1] 27 (0, 0)) (zK BK0.out) hb); have n1_ := ak (below_step (zB HB.out) hb); clear BK0 HB; have BK0 := n0_; have HB := n1_; clear n0_ n1_; (try clear hb); (try clear hb2); (try clear hk); (try clear hi))))
 go_loopg [5] k (fun kq v5 w' => ∃ (x5_1 : Int), v5 = .int .i64 x5_1 ∧ Aside0 (spec_l03Holds.l0 kq l1 x5_1 a0_0 l0_1 = some r) ∧ Aside0 (kq ≤ k) ∧ Aside0 (w'.heap[b0]? = some (.cells #[.int .i16 a0_0, (.slice A0_1 l0_1.length c0_1)] 27 (0, 0))) ∧ Aside0 (Below w.heap.size w w'))
 case atStart => exact ⟨(0), (by first | rfl | (simp; done) | (simp [*]; done)), H', ⟨Nat.le_refl _⟩, ⟨(zK BK0.out)⟩, ⟨(zB HB.out)⟩⟩
 case round => (
 clear H'
 try clear c1
 try clear c4
 obtain ⟨x5_1, rfl, HA, HK1, BK0, HB⟩ := hrel
 cases gk with
 | zero => exact absurd HA.out (by simp [spec_l03Holds.l0])
 | succ k1 => (
 have H := HA.out
 clear HA
 simp only [spec_l03Holds.l0] at H
 by_cases c6 : x5_1 < (l1.length : Int)
 {
 rw [if_pos c6] at H
 have c6b0 : decide (x5_1 < (l1.length : Int)) = true := decide_eq_true c6
 clear c6
 have HC7 := ak H
 clear H
 go_upto_region 6 with (fail)
 repeat (go_quiet (fail); go_upto_region 6 with (fail))
 go_cut [39] (fun v39 wc => ∃ (kq : Nat) (x39_6 : Bool), v39 = .bool x39_6 ∧ Aside0 (spec_l03Holds.j1 kq l1 x5_1 x39_6 a0_0 l0_1 = some r) ∧ Aside0 (kq ≤ k1) ∧ Aside0 (wc.heap[b0]? = some (.cells #[.int .i16 a0_0, (.slice A0_1 l0_1.length c0_1)] 27 (0, 0))) ∧ Aside0 (Below w.heap.size w wc))
 case first => (
 have H := HC7.out
 clear HC7
 by_cases c8 : 0 ≤ x5_1
 {
 rw [if_pos c8] at H
 have c8b0 : decide (0 ≤ x5_1) = true := decide_eq_true c8
 clear c8
 (first | rw [c8b0] | (simp only [i64_w, i32_w]; rw [c8b0]) | skip)
 replace H := Option.bind_eq_some_iff.mp H
 obtain ⟨t221, A90, H⟩ := H
 replace H : (if t221 = true then ((spec_l00In.f (wrap64 ((rd_T47 l1 x5_1).f1)) 0 (wrap64 ((l0_1.length : Int) - 1))).bind fun t223 => (spec_l03Holds.j1 k1 l1 x5_1 (!t223) a0_0 l0_1)) else (spec_l03Holds.j1 k1 l1 x5_1 true a0_0 l0_1)) = some r := H
 have A9 := ak A90
 clear A90
 by_cases c10 : t221 = true
 {
 subst c10
 have H1 : ((spec_l00In.f (wrap64 ((rd_T47 l1 x5_1).f1)) 0 (wrap64 ((l0_1.length : Int) - 1))).bind fun t223 => (spec_l03Holds.j1 k1 l1 x5_1 (!t223) a0_0 l0_1)) = some r := by rw [if_pos rfl] at H; exact H
 clear H
 have H := H1
 clear H1
 replace H := Option.bind_eq_some_iff.mp H
 obtain ⟨t223, A110, H⟩ := H
 replace H : (spec_l03Holds.j1 k1 l1 x5_1 (!t223) a0_0 l0_1) = some r := H
 have A11 := ak A110
 clear A110
 as_aux_lemma => (
 have H' := ak H
 clear H
 have p220 : 0 ≤ (x5_1 : Int) := of_decide_eq_true (by first | (with_reducible assumption) | assumption)
 have q220 : x5_1 < (l1.length : Int) := of_decide_eq_true (by first | (with_reducible assumption) | assumption)
 obtain ⟨ad220, e220, hx220_0, hx220_1⟩ := at_T47 HR1.out x5_1 p220 q220
 cases e220
 replace hx220_0 := (HB.out.cell (World.block_lt_of_cell? w _ hx220_0)).trans hx220_0
 replace hx220_1 := (HB.out.cell (World.block_lt_of_cell? w _ hx220_1)).trans hx220_1
 replace p220 := eq_true p220
 replace q220 := eq_true q220
 go_wp2_with (first | (go_at_call 44; (with_reducible refine (spec_l00In.calls (wrap64 ((rd_T47 l1 x5_1).f0)) 0 999 true _ A9.out).mono ?_); rintro e w' ⟨rfl, ⟨nd, rfl⟩⟩; (try first | exact ⟨rfl, _, World.drewN_drewN _ _ _⟩ | exact ⟨rfl, _, Eq.trans (World.drewN_drewN _ _ _) (congrArg (World.drewN _) (Nat.add_assoc _ _ _))⟩); have p222 : 0 ≤ (x5_1 : Int) := of_decide_eq_true (by first | (with_reducible assumption) | assumption); have q222 : x5_1 < (l1.length : Int) := of_decide_eq_true (by first | (with_reducible assumption) | assumption); obtain ⟨ad222, e222, hx222_0, hx222_1⟩ := at_T47 HR1.out x5_1 p222 q222; obtain rfl : ad220 = ad222 := (by injection e222); replace hx222_0 := (HB.out.cell (World.block_lt_of_cell? w _ hx222_0)).trans hx222_0; replace hx222_1 := (HB.out.cell (World.block_lt_of_cell? w _ hx222_1)).trans hx222_1; replace p222 := eq_true p222; replace q222 := eq_true q222; have hcz12_0 : wr.cell? ⟨b0, 0, none⟩ = some (.int .i16 a0_0) := (blk_cell BK0.out 0).trans rfl; have hcz12_1 : wr.cell? ⟨b0, 1, none⟩ = some (.slice A0_1 l0_1.length c0_1) := (blk_cell BK0.out 1).trans rfl; have hfz12_0 := blk_frozen BK0.out 0; have hfz12_1 := blk_frozen BK0.out 1) | (go_at_call 44; (with_reducible refine (spec_l00In.calls (wrap64 ((rd_T47 l1 x5_1).f1)) 0 (wrap64 ((l0_1.length : Int) - 1)) t223 _ A11.out).mono ?_); rintro e w' ⟨rfl, ⟨nd, rfl⟩⟩; (try first | exact ⟨rfl, _, World.drewN_drewN _ _ _⟩ | exact ⟨rfl, _, Eq.trans (World.drewN_drewN _ _ _) (congrArg (World.drewN _) (Nat.add_assoc _ _ _))⟩)))
 try (have p222 : 0 ≤ (x5_1 : Int) := of_decide_eq_true (by first | (with_reducible assumption) | assumption); have q222 : x5_1 < (l1.length : Int) := of_decide_eq_true (by first | (with_reducible assumption) | assumption); obtain ⟨ad222, e222, hx222_0, hx222_1⟩ := at_T47 HR1.out x5_1 p222 q222; obtain rfl : ad220 = ad222 := (by injection e222); replace hx222_0 := (HB.out.cell (World.block_lt_of_cell? w _ hx222_0)).trans hx222_0; replace hx222_1 := (HB.out.cell (World.block_lt_of_cell? w _ hx222_1)).trans hx222_1; replace p222 := eq_true p222; replace q222 := eq_true q222; have hcz12_0 : wr.cell? ⟨b0, 0, none⟩ = some (.int .i16 a0_0) := (blk_cell BK0.out 0).trans rfl; have hcz12_1 : wr.cell? ⟨b0, 1, none⟩ = some (.slice A0_1 l0_1.length c0_1) := (blk_cell BK0.out 1).trans rfl; have hfz12_0 := blk_frozen BK0.out 0; have hfz12_1 := blk_frozen BK0.out 1)
 repeat (go_quiet (first | (go_at_call 44; (with_reducible refine (spec_l00In.calls (wrap64 ((rd_T47 l1 x5_1).f0)) 0 999 true _ A9.out).mono ?_); rintro e w' ⟨rfl, ⟨nd, rfl⟩⟩; (try first | exact ⟨rfl, _, World.drewN_drewN _ _ _⟩ | exact ⟨rfl, _, Eq.trans (World.drewN_drewN _ _ _) (congrArg (World.drewN _) (Nat.add_assoc _ _ _))⟩); try (have p222 : 0 ≤ (x5_1 : Int) := of_decide_eq_true (by first | (with_reducible assumption) | assumption); have q222 : x5_1 < (l1.length : Int) := of_decide_eq_true (by first | (with_reducible assumption) | assumption); obtain ⟨ad222, e222, hx222_0, hx222_1⟩ := at_T47 HR1.out x5_1 p222 q222; obtain rfl : ad220 = ad222 := (by injection e222); replace hx222_0 := (HB.out.cell (World.block_lt_of_cell? w _ hx222_0)).trans hx222_0; replace hx222_1 := (HB.out.cell (World.block_lt_of_cell? w _ hx222_1)).trans hx222_1; replace p222 := eq_true p222; replace q222 := eq_true q222; have hcz12_0 : wr.cell? ⟨b0, 0, none⟩ = some (.int .i16 a0_0) := (blk_cell BK0.out 0).trans rfl; have hcz12_1 : wr.cell? ⟨b0, 1, none⟩ = some (.slice A0_1 l0_1.length c0_1) := (blk_cell BK0.out 1).trans rfl; have hfz12_0 := blk_frozen BK0.out 0; have hfz12_1 := blk_frozen BK0.out 1)) | (go_at_call 44; (with_reducible refine (spec_l00In.calls (wrap64 ((rd_T47 l1 x5_1).f1)) 0 (wrap64 ((l0_1.length : Int) - 1)) t223 _ A11.out).mono ?_); rintro e w' ⟨rfl, ⟨nd, rfl⟩⟩; (try first | exact ⟨rfl, _, World.drewN_drewN _ _ _⟩ | exact ⟨rfl, _, Eq.trans (World.drewN_drewN _ _ _) (congrArg (World.drewN _) (Nat.add_assoc _ _ _))⟩))); try go_wp2_with (first | (go_at_call 44; (with_reducible refine (spec_l00In.calls (wrap64 ((rd_T47 l1 x5_1).f0)) 0 999 true _ A9.out).mono ?_); rintro e w' ⟨rfl, ⟨nd, rfl⟩⟩; (try first | exact ⟨rfl, _, World.drewN_drewN _ _ _⟩ | exact ⟨rfl, _, Eq.trans (World.drewN_drewN _ _ _) (congrArg (World.drewN _) (Nat.add_assoc _ _ _))⟩); try (have p222 : 0 ≤ (x5_1 : Int) := of_decide_eq_true (by first | (with_reducible assumption) | assumption); have q222 : x5_1 < (l1.length : Int) := of_decide_eq_true (by first | (with_reducible assumption) | assumption); obtain ⟨ad222, e222, hx222_0, hx222_1⟩ := at_T47 HR1.out x5_1 p222 q222; obtain rfl : ad220 = ad222 := (by injection e222); replace hx222_0 := (HB.out.cell (World.block_lt_of_cell? w _ hx222_0)).trans hx222_0; replace hx222_1 := (HB.out.cell (World.block_lt_of_cell? w _ hx222_1)).trans hx222_1; replace p222 := eq_true p222; replace q222 := eq_true q222; have hcz12_0 : wr.cell? ⟨b0, 0, none⟩ = some (.int .i16 a0_0) := (blk_cell BK0.out 0).trans rfl; have hcz12_1 : wr.cell? ⟨b0, 1, none⟩ = some (.slice A0_1 l0_1.length c0_1) := (blk_cell BK0.out 1).trans rfl; have hfz12_0 := blk_frozen BK0.out 0; have hfz12_1 := blk_frozen BK0.out 1)) | (go_at_call 44; (with_reducible refine (spec_l00In.calls (wrap64 ((rd_T47 l1 x5_1).f1)) 0 (wrap64 ((l0_1.length : Int) - 1)) t223 _ A11.out).mono ?_); rintro e w' ⟨rfl, ⟨nd, rfl⟩⟩; (try first | exact ⟨rfl, _, World.drewN_drewN _ _ _⟩ | exact ⟨rfl, _, Eq.trans (World.drewN_drewN _ _ _) (congrArg (World.drewN _) (Nat.add_assoc _ _ _))⟩))))
 go_meet
 case rel => exact ⟨_, (!t223), (by first | rfl | (simp; done) | (simp [*]; done)), H', ⟨by have := HK1.out; first | omega | exact Nat.le_refl _⟩, ⟨(zK BK0.out)⟩, ⟨(zB HB.out)⟩⟩
 )
 }
 {
 replace c10 := Bool.eq_false_iff.mpr c10
 subst c10
 have H1 : (spec_l03Holds.j1 k1 l1 x5_1 true a0_0 l0_1) = some r := by rw [if_neg (show ¬ (false = true) by decide)] at H; exact H
 clear H
 have H := H1
 clear H1
 as_aux_lemma => (
 have H' := ak H
 clear H
 have p220 : 0 ≤ (x5_1 : Int) := of_decide_eq_true (by first | (with_reducible assumption) | assumption)
 have q220 : x5_1 < (l1.length : Int) := of_decide_eq_true (by first | (with_reducible assumption) | assumption)
 obtain ⟨ad220, e220, hx220_0, hx220_1⟩ := at_T47 HR1.out x5_1 p220 q220
 cases e220
 replace hx220_0 := (HB.out.cell (World.block_lt_of_cell? w _ hx220_0)).trans hx220_0
 replace hx220_1 := (HB.out.cell (World.block_lt_of_cell? w _ hx220_1)).trans hx220_1
 replace p220 := eq_true p220
 replace q220 := eq_true q220
 go_wp2_with (first | (go_at_call 44; (with_reducible refine (spec_l00In.calls (wrap64 ((rd_T47 l1 x5_1).f0)) 0 999 false _ A9.out).mono ?_); rintro e w' ⟨rfl, ⟨nd, rfl⟩⟩; (try first | exact ⟨rfl, _, World.drewN_drewN _ _ _⟩ | exact ⟨rfl, _, Eq.trans (World.drewN_drewN _ _ _) (congrArg (World.drewN _) (Nat.add_assoc _ _ _))⟩)))
 repeat (go_quiet (first | (go_at_call 44; (with_reducible refine (spec_l00In.calls (wrap64 ((rd_T47 l1 x5_1).f0)) 0 999 false _ A9.out).mono ?_); rintro e w' ⟨rfl, ⟨nd, rfl⟩⟩; (try first | exact ⟨rfl, _, World.drewN_drewN _ _ _⟩ | exact ⟨rfl, _, Eq.trans (World.drewN_drewN _ _ _) (congrArg (World.drewN _) (Nat.add_assoc _ _ _))⟩))); try go_wp2_with (first | (go_at_call 44; (with_reducible refine (spec_l00In.calls (wrap64 ((rd_T47 l1 x5_1).f0)) 0 999 false _ A9.out).mono ?_); rintro e w' ⟨rfl, ⟨nd, rfl⟩⟩; (try first | exact ⟨rfl, _, World.drewN_drewN _ _ _⟩ | exact ⟨rfl, _, Eq.trans (World.drewN_drewN _ _ _) (congrArg (World.drewN _) (Nat.add_assoc _ _ _))⟩))))
 go_meet
 case rel => exact ⟨_, (true), (by first | rfl | (simp; done) | (simp [*]; done)), H', ⟨by have := HK1.out; first | omega | exact Nat.le_refl _⟩, ⟨(zK BK0.out)⟩, ⟨(zB HB.out)⟩⟩
 )
 }
 }
 · rw [if_neg c8] at H; exact absurd H (by simp)
 )
 case rest => (
 clear HC7
 try clear c1
 try clear c4
 try clear c6
 try clear c6b0
 obtain ⟨kq, x39_6, rfl, HA, HJ6, BK0, HB⟩ := hcut
 cases kq with
 | zero => exact absurd HA.out (by simp [spec_l03Holds.j1])
 | succ kj6 => (
 have H := HA.out
 clear HA
 simp only [spec_l03Holds.j1] at H
 by_cases c13 : x39_6 = true
 {
 subst c13
 have H1 : (some false) = some r := by rw [if_pos rfl] at H; exact H
 clear H
 have H := H1
 clear H1
 as_aux_lemma => (
 obtain rfl := Option.some.inj H
 go_wp2
 repeat (go_quiet (fail); try go_wp2)
 go_ret
 exact ⟨by first | rfl | (simp [errW_none, errW_some] <;> rfl) | (simp [*, errW_none, errW_some] <;> rfl), zB HB.out⟩
 )
 }
 {
 replace c13 := Bool.eq_false_iff.mpr c13
 subst c13
 have H1 : (if x5_1 > 0 then (if 0 ≤ x5_1 then (if x5_1 < (l1.length : Int) then (if 0 ≤ (wrap64 (x5_1 - 1)) then (if (wrap64 (x5_1 - 1)) < (l1.length : Int) then (spec_l03Holds.j2 kj6 l1 x5_1 (decide (((rd_T47 l1 x5_1).f1) ≤ ((rd_T47 l1 (wrap64 (x5_1 - 1))).f1))) a0_0 l0_1) else (none)) else (none)) else (none)) else (none)) else (spec_l03Holds.j2 kj6 l1 x5_1 false a0_0 l0_1)) = some r := by rw [if_neg (show ¬ (false = true) by decide)] at H; exact H
 clear H
 have H := H1
 clear H1
 have HC14 := ak H
 clear H
 go_upto_region 8 with (fail)
 repeat (go_quiet (fail); go_upto_region 8 with (fail))
 go_cut [55] (fun v55 wc => ∃ (kq : Nat) (x55_13 : Bool), v55 = .bool x55_13 ∧ Aside0 (spec_l03Holds.j2 kq l1 x5_1 x55_13 a0_0 l0_1 = some r) ∧ Aside0 (kq ≤ kj6) ∧ Aside0 (wc.heap[b0]? = some (.cells #[.int .i16 a0_0, (.slice A0_1 l0_1.length c0_1)] 27 (0, 0))) ∧ Aside0 (Below w.heap.size w wc))
 case first => (
 have H := HC14.out
 clear HC14
 by_cases c15 : x5_1 > 0
 {
 rw [if_pos c15] at H
 have c15b0 : decide (0 < x5_1) = true := decide_eq_true c15
 clear c15
 (first | rw [c15b0] | (simp only [i64_w, i32_w]; rw [c15b0]) | skip)
 by_cases c16 : 0 ≤ x5_1
 {
 rw [if_pos c16] at H
 have c16b0 : decide (0 ≤ x5_1) = true := decide_eq_true c16
 clear c16
 by_cases c17 : x5_1 < (l1.length : Int)
 {
 rw [if_pos c17] at H
 have c17b0 : decide (x5_1 < (l1.length : Int)) = true := decide_eq_true c17
 clear c17
 obtain ⟨ji18, hji18⟩ : ∃ j_ : Int, (wrap64 (x5_1 - 1)) = j_ := ⟨_, rfl⟩
 replace H : (if 0 ≤ (ji18) then (if (ji18) < (l1.length : Int) then (spec_l03Holds.j2 kj6 l1 x5_1 (decide (((rd_T47 l1 x5_1).f1) ≤ ((rd_T47 l1 (ji18)).f1))) a0_0 l0_1) else (none)) else (none)) = some r := by first | (rw [hji18] at H; exact H) | (simp only [hji18] at H ⊢; exact H)
 have hji18w : (IntKind.i64.wrap (x5_1 - 1)) = ji18 := (i64_w _).trans hji18
 by_cases c19 : 0 ≤ (ji18)
 {
 rw [if_pos c19] at H
 have c19b0 : decide (0 ≤ (ji18)) = true := decide_eq_true c19
 clear c19
 by_cases c20 : (ji18) < (l1.length : Int)
 {
 rw [if_pos c20] at H
 have c20b0 : decide ((ji18) < (l1.length : Int)) = true := decide_eq_true c20
 clear c20
 as_aux_lemma => (
 have H' := ak H
 clear H
 have p224 : 0 ≤ (x5_1 : Int) := of_decide_eq_true (by first | (with_reducible assumption) | assumption)
 have q224 : x5_1 < (l1.length : Int) := of_decide_eq_true (by first | (with_reducible assumption) | assumption)
 obtain ⟨ad224, e224, hx224_0, hx224_1⟩ := at_T47 HR1.out x5_1 p224 q224
 cases e224
 replace hx224_0 := (HB.out.cell (World.block_lt_of_cell? w _ hx224_0)).trans hx224_0
 replace hx224_1 := (HB.out.cell (World.block_lt_of_cell? w _ hx224_1)).trans hx224_1
 replace p224 := eq_true p224
 replace q224 := eq_true q224
 have p225 : 0 ≤ ((ji18) : Int) := of_decide_eq_true (by first | (with_reducible assumption) | assumption)
 have q225 : (ji18) < (l1.length : Int) := of_decide_eq_true (by first | (with_reducible assumption) | assumption)
 obtain ⟨ad225, e225, hx225_0, hx225_1⟩ := at_T47 HR1.out (ji18) p225 q225
 obtain rfl : ad224 = ad225 := (by injection e225)
 replace hx225_0 := (HB.out.cell (World.block_lt_of_cell? w _ hx225_0)).trans hx225_0
 replace hx225_1 := (HB.out.cell (World.block_lt_of_cell? w _ hx225_1)).trans hx225_1
 replace p225 := eq_true p225
 replace q225 := eq_true q225
 go_wp2
 repeat (go_quiet (fail); try go_wp2)
 go_meet
 case rel => exact ⟨_, (decide (((rd_T47 l1 x5_1).f1) ≤ ((rd_T47 l1 (ji18)).f1))), (by first | rfl | (simp; done) | (simp only [← hji18] <;> (first | rfl | simp)) | (simp [*]; done)), H', ⟨by have := HK1.out; have := HJ6.out; first | omega | exact Nat.le_refl _⟩, ⟨(zK BK0.out)⟩, ⟨(zB HB.out)⟩⟩
 )
 }
 · rw [if_neg c20] at H; exact absurd H (by simp)
 }
 · rw [if_neg c19] at H; exact absurd H (by simp)
 }
 · rw [if_neg c17] at H; exact absurd H (by simp)
 }
 · rw [if_neg c16] at H; exact absurd H (by simp)
 }
 {
 rw [if_neg c15] at H
 have c15b0 : decide (0 < x5_1) = false := decide_eq_false c15
 clear c15
 (first | rw [c15b0] | (simp only [i64_w, i32_w]; rw [c15b0]) | skip)
 as_aux_lemma => (
 have H' := ak H
 clear H
 go_wp2
 repeat (go_quiet (fail); try go_wp2)
 go_meet
 case rel => exact ⟨_, (false), (by first | rfl | (simp; done) | (simp [*]; done)), H', ⟨by have := HK1.out; have := HJ6.out; first | omega | exact Nat.le_refl _⟩, ⟨(zK BK0.out)⟩, ⟨(zB HB.out)⟩⟩
 )
 }
 )
 case rest => (
 clear HC14
 try clear c1
 try clear c4
 try clear c6
 try clear c6b0
 try clear c13
 obtain ⟨kq, x55_13, rfl, HA, HJ13, BK0, HB⟩ := hcut
 cases kq with
 | zero => exact absurd HA.out (by simp [spec_l03Holds.j2])
 | succ kj13 => (
 have H := HA.out
 clear HA
 simp only [spec_l03Holds.j2] at H
 by_cases c21 : x55_13 = true
 {
 subst c21
 have H1 : (some false) = some r := by rw [if_pos rfl] at H; exact H
 clear H
 have H := H1
 clear H1
 as_aux_lemma => (
 obtain rfl := Option.some.inj H
 go_wp2
 repeat (go_quiet (fail); try go_wp2)
 go_ret
 exact ⟨by first | rfl | (simp [errW_none, errW_some] <;> rfl) | (simp [*, errW_none, errW_some] <;> rfl), zB HB.out⟩
 )
 }
 {
 replace c21 := Bool.eq_false_iff.mpr c21
 subst c21
 have H1 : (spec_l03Holds.l1 kj13 l1 x5_1 0 a0_0 l0_1) = some r := by rw [if_neg (show ¬ (false = true) by decide)] at H; exact H
 clear H
 have H := H1
 clear H1
 have H' := ak H
 clear H
 go_wp2
 repeat (go_quiet (fail); try go_wp2)
 go_loopg [6] kj13 (fun kq v6 w' => ∃ (x6_4 : Int), v6 = .int .i64 x6_4 ∧ Aside0 (spec_l03Holds.l1 kq l1 x5_1 x6_4 a0_0 l0_1 = some r) ∧ Aside0 (kq ≤ kj13) ∧ Aside0 (w'.heap[b0]? = some (.cells #[.int .i16 a0_0, (.slice A0_1 l0_1.length c0_1)] 27 (0, 0))) ∧ Aside0 (Below w.heap.size w w'))
 case atStart => exact ⟨(0), (by first | rfl | (simp; done) | (simp [*]; done)), H', ⟨Nat.le_refl _⟩, ⟨(zK BK0.out)⟩, ⟨(zB HB.out)⟩⟩
 case round => (
 clear H'
 try clear c1
 try clear c4
 try clear c6
 try clear c6b0
 try clear c13
 try clear c21
 obtain ⟨x6_4, rfl, HA, HK4, BK0, HB⟩ := hrel
 cases gk with
 | zero => exact absurd HA.out (by simp [spec_l03Holds.l1])
 | succ k4 => (
 have H := HA.out
 clear HA
 simp only [spec_l03Holds.l1] at H
 by_cases c22 : x6_4 < x5_1
 {
 rw [if_pos c22] at H
 have c22b0 : decide (x6_4 < x5_1) = true := decide_eq_true c22
 clear c22
 by_cases c23 : 0 ≤ x6_4
 {
 rw [if_pos c23] at H
 have c23b0 : decide (0 ≤ x6_4) = true := decide_eq_true c23
 clear c23
 by_cases c24 : x6_4 < (l1.length : Int)
 {
 rw [if_pos c24] at H
 have c24b0 : decide (x6_4 < (l1.length : Int)) = true := decide_eq_true c24
 clear c24
 by_cases c25 : 0 ≤ x5_1
 {
 rw [if_pos c25] at H
 have c25b0 : decide (0 ≤ x5_1) = true := decide_eq_true c25
 clear c25
 by_cases c26 : x5_1 < (l1.length : Int)
 {
 rw [if_pos c26] at H
 have c26b0 : decide (x5_1 < (l1.length : Int)) = true := decide_eq_true c26
 clear c26
 by_cases c27 : ((rd_T47 l1 x6_4).f0) = ((rd_T47 l1 x5_1).f0)
 {
 rw [if_pos c27] at H
 have c27b0 : (((rd_T47 l1 x6_4).f0) == ((rd_T47 l1 x5_1).f0)) = true := beq_iff_eq.mpr c27
 have c27b1 : (((rd_T47 l1 x6_4).f0) != ((rd_T47 l1 x5_1).f0)) = false := bne_eq_false_iff_eq.mpr c27
 clear c27
 as_aux_lemma => (
 obtain rfl := Option.some.inj H
 have p226 : 0 ≤ (x6_4 : Int) := of_decide_eq_true (by first | (with_reducible assumption) | assumption)
 have q226 : x6_4 < (l1.length : Int) := of_decide_eq_true (by first | (with_reducible assumption) | assumption)
 obtain ⟨ad226, e226, hx226_0, hx226_1⟩ := at_T47 HR1.out x6_4 p226 q226
 cases e226
 replace hx226_0 := (HB.out.cell (World.block_lt_of_cell? w _ hx226_0)).trans hx226_0
 replace hx226_1 := (HB.out.cell (World.block_lt_of_cell? w _ hx226_1)).trans hx226_1
 replace p226 := eq_true p226
 replace q226 := eq_true q226
 have p227 : 0 ≤ (x5_1 : Int) := of_decide_eq_true (by first | (with_reducible assumption) | assumption)
 have q227 : x5_1 < (l1.length : Int) := of_decide_eq_true (by first | (with_reducible assumption) | assumption)
 obtain ⟨ad227, e227, hx227_0, hx227_1⟩ := at_T47 HR1.out x5_1 p227 q227
 obtain rfl : ad226 = ad227 := (by injection e227)
 replace hx227_0 := (HB.out.cell (World.block_lt_of_cell? w _ hx227_0)).trans hx227_0
 replace hx227_1 := (HB.out.cell (World.block_lt_of_cell? w _ hx227_1)).trans hx227_1
 replace p227 := eq_true p227
 replace q227 := eq_true q227
 go_wp2
 repeat (go_quiet (fail); try go_wp2)
 go_ret
 exact ⟨by first | rfl | (simp [errW_none, errW_some] <;> rfl) | (simp [*, errW_none, errW_some] <;> rfl), zB HB.out⟩
 )
 }
 {
 rw [if_neg c27] at H
 have c27b0 : (((rd_T47 l1 x6_4).f0) == ((rd_T47 l1 x5_1).f0)) = false := beq_eq_false_iff_ne.mpr c27
 have c27b1 : (((rd_T47 l1 x6_4).f0) != ((rd_T47 l1 x5_1).f0)) = true := bne_iff_ne.mpr c27
 as_aux_lemma => (
 have H' := ak H
 clear H
 have p226 : 0 ≤ (x6_4 : Int) := of_decide_eq_true (by first | (with_reducible assumption) | assumption)
 have q226 : x6_4 < (l1.length : Int) := of_decide_eq_true (by first | (with_reducible assumption) | assumption)
 obtain ⟨ad226, e226, hx226_0, hx226_1⟩ := at_T47 HR1.out x6_4 p226 q226
 cases e226
 replace hx226_0 := (HB.out.cell (World.block_lt_of_cell? w _ hx226_0)).trans hx226_0
 replace hx226_1 := (HB.out.cell (World.block_lt_of_cell? w _ hx226_1)).trans hx226_1
 replace p226 := eq_true p226
 replace q226 := eq_true q226
 have p227 : 0 ≤ (x5_1 : Int) := of_decide_eq_true (by first | (with_reducible assumption) | assumption)
 have q227 : x5_1 < (l1.length : Int) := of_decide_eq_true (by first | (with_reducible assumption) | assumption)
 obtain ⟨ad227, e227, hx227_0, hx227_1⟩ := at_T47 HR1.out x5_1 p227 q227
 obtain rfl : ad226 = ad227 := (by injection e227)
 replace hx227_0 := (HB.out.cell (World.block_lt_of_cell? w _ hx227_0)).trans hx227_0
 replace hx227_1 := (HB.out.cell (World.block_lt_of_cell? w _ hx227_1)).trans hx227_1
 replace p227 := eq_true p227
 replace q227 := eq_true q227
 go_wp2
 repeat (go_quiet (fail); try go_wp2)
 go_roundg k4
 case measure => have := HK1.out; have := HJ6.out; have := HJ13.out; have := HK4.out; omega
 case rel => exact ⟨(wrap64 (x6_4 + 1)), (by first | rfl | (simp; done) | (simp [*]; done)), H', ⟨by have := HK1.out; have := HJ6.out; have := HJ13.out; have := HK4.out; omega⟩, ⟨(zK BK0.out)⟩, ⟨(zB HB.out)⟩⟩
 )
 }
 }
 · rw [if_neg c26] at H; exact absurd H (by simp)
 }
 · rw [if_neg c25] at H; exact absurd H (by simp)
 }
 · rw [if_neg c24] at H; exact absurd H (by simp)
 }
 · rw [if_neg c23] at H; exact absurd H (by simp)
 }
 {
 rw [if_neg c22] at H
 have c22b0 : decide (x6_4 < x5_1) = false := decide_eq_false c22
 clear c22
 as_aux_lemma => (
 have H' := ak H
 clear H
 go_wp2
 repeat (go_quiet (fail); try go_wp2)
 go_roundg k4
 case measure => have := HK1.out; have := HJ6.out; have := HJ13.out; have := HK4.out; omega
 case rel => exact ⟨(wrap64 (x5_1 + 1)), (by first | rfl | (simp; done) | (simp [*]; done)), H', ⟨by have := HK1.out; have := HJ6.out; have := HJ13.out; have := HK4.out; omega⟩, ⟨(zK BK0.out)⟩, ⟨(zB HB.out)⟩⟩
 )
 }
 )
 )
 }
 )
 )
 }
 )
 )
 }
 {
 rw [if_neg c6] at H
 have c6b0 : decide (x5_1 < (l1.length : Int)) = false := decide_eq_false c6
 clear c6
 as_aux_lemma => (
 obtain rfl := Option.some.inj H
 go_wp2
 repeat (go_quiet (fail); try go_wp2)
 go_ret
 exact ⟨by first | rfl | (simp [errW_none, errW_some] <;> rfl) | (simp [*, errW_none, errW_some] <;> rfl), zB HB.out⟩
 )
 }
 )
 )
 }
 {
 replace c4 := Bool.eq_false_iff.mpr c4
 subst c4
 have H1 : (some false) = some r := by rw [if_neg (show ¬ (false = true) by decide)] at H; exact H
 clear H
 have H := H1
 clear H1
 as_aux_lemma => (
 obtain rfl := Option.some.inj H
 go_enter Try.func26, Try.ntmps26
 go_wp2_with (first | (go_at_call 43; (with_reducible refine (spec_l03Ok.calls k b0 a0_0 A0_1 c0_1 l0_1 false _ ?side1 ?side2 ?side3 A3.out).mono ?_); (case side1 => repeat (first | exact HR0_1.out | (with_reducible refine Kd.C_alloc ?_ _) | (with_reducible refine Kd.C_drewN ?_ _) | (with_reducible refine Kd.C_drew ?_))); (case side2 => exact HC0_1.out); (case side3 => exact (by first | exact BK0.out | ((with_reducible repeat (first | refine blk_drewN ?_ _ | refine blk_drew ?_ | refine blk_alloc ?_ _)); exact BK0.out))); rintro e w28 ⟨rfl, hb⟩; have n0_ := ak (blk_below (g := b0) (o := .cells #[.int .i16 a0_0, .slice A0_1 l0_1.length c0_1] 27 (0, 0)) (zK BK0.out) hb); have n1_ := ak (below_step (zB HB.out) hb); clear BK0 HB; have BK0 := n0_; have HB := n1_; clear n0_ n1_; (try clear hb); (try clear hb2); (try clear hk); (try clear hi)))
 repeat (go_quiet (first | (go_at_call 43; (with_reducible refine (spec_l03Ok.calls k b0 a0_0 A0_1 c0_1 l0_1 false _ ?side1 ?side2 ?side3 A3.out).mono ?_); (case side1 => repeat (first | exact HR0_1.out | (with_reducible refine Kd.C_alloc ?_ _) | (with_reducible refine Kd.C_drewN ?_ _) | (with_reducible refine Kd.C_drew ?_))); (case side2 => exact HC0_1.out); (case side3 => exact (by first | exact BK0.out | ((with_reducible repeat (first | refine blk_drewN ?_ _ | refine blk_drew ?_ | refine blk_alloc ?_ _)); exact BK0.out))); rintro e w28 ⟨rfl, hb⟩; have n0_ := ak (blk_below (g := b0) (o := .cells #[.int .i16 a0_0, .slice A0_1 l0_1.length c0_1] 27 (0, 0)) (zK BK0.out) hb); have n1_ := ak (below_step (zB HB.out) hb); clear BK0 HB; have BK0 := n0_; have HB := n1_; clear n0_ n1_; (try clear hb); (try clear hb2); (try clear hk); (try clear hi))); try go_wp2_with (first | (go_at_call 43; (with_reducible refine (spec_l03Ok.calls k b0 a0_0 A0_1 c0_1 l0_1 false _ ?side1 ?side2 ?side3 A3.out).mono ?_); (case side1 => repeat (first | exact HR0_1.out | (with_reducible refine Kd.C_alloc ?_ _) | (with_reducible refine Kd.C_drewN ?_ _) | (with_reducible refine Kd.C_drew ?_))); (case side2 => exact HC0_1.out); (case side3 => exact (by first | exact BK0.out | ((with_reducible repeat (first | refine blk_drewN ?_ _ | refine blk_drew ?_ | refine blk_alloc ?_ _)); exact BK0.out))); rintro e w28 ⟨rfl, hb⟩; have n0_ := ak (blk_below (g := b0) (o := .cells #[.int .i16 a0_0, .slice A0_1 l0_1.length c0_1] 27 (0, 0)) (zK BK0.out) hb); have n1_ := ak (below_step (zB HB.out) hb); clear BK0 HB; have BK0 := n0_; have HB := n1_; clear n0_ n1_; (try clear hb); (try clear hb2); (try clear hk); (try clear hi))))
 go_ret
 exact ⟨by first | rfl | (simp [errW_none, errW_some] <;> rfl) | (simp [*, errW_none, errW_some] <;> rfl), zB HB.out⟩
 )
 }
/-! ### spec_l03Next: function 45 -/
def spec_l03Next.f (a0_0 : Int) (a0_1 : Int) (a1 : Int) : Option (Int × Int) := some (wrap64 (a0_0 + 1), Int.tmod (wrap64 ((wrap64 ((wrap64 (7 * a0_1)) + (wrap64 (a1)))) + 1)) 97)
set_option maxHeartbeats 8000000 in
set_option maxRecDepth 100000 in
theorem spec_l03Next.calls (a0_0 : Int) (a0_1 : Int) (a1 : Int) (r1 : Int) (r2 : Int) (w : World) (h : spec_l03Next.f a0_0 a0_1 a1 = some (r1, r2)) :
    Calls Try.prog 45 #[.agg #[.int .i64 a0_0, .int .i64 a0_1], .int .i16 a1] w fun e w' => e = .returned (.agg #[.int .i64 r1, .int .i64 r2]) ∧ Below w.heap.size w w' := by
 have hu40 := Try.underlying40
 have HB := ak (Below.refl w.heap.size w)
 have H : (some (wrap64 (a0_0 + 1), Int.tmod (wrap64 ((wrap64 ((wrap64 (7 * a0_1)) + (wrap64 (a1)))) + 1)) 97)) = some (r1, r2) := h
 clear h
 as_aux_lemma => (
 simp only [Option.some.injEq, Prod.mk.injEq] at H
 obtain ⟨rfl, rfl⟩ := H
 go_enter Try.func45, Try.ntmps45
 go_wp2_with (first | ((with_reducible refine gate_dst (N := 2) rfl ?_); refine box_event ?hg (N := 2) ?hd (cs := #[.int .i64 a0_0, .int .i64 a0_1]) (t := 40) ?hr ?_; (case hd => rfl); (case hg => rfl); (case hr => first | (go_simp; done) | (go_simp; rfl)); intro gb228 hg w3 hbox hb; have n0_ := ak (below_step (zB HB.out) hb); have n1_ := ak (hbox); have n2_ := ak ((by rw [hg]; exact (below_size (zB HB.out)) : w.heap.size ≤ gb228)); have n3_ := ak ((by rw [hg]; exact (below_size (zB HB.out)) : w.heap.size ≤ gb228)); clear HB; have HB := n0_; have BK228 := n1_; have GW228 := n2_; have GE228 := n3_; clear n0_ n1_ n2_ n3_; clear hb hbox hg) | ((with_reducible refine gate_dst (N := 4) rfl ?_); refine box_event ?hg (N := 4) ?hd (cs := #[.int .i64 0, .int .i64 0]) (t := 40) ?hr ?_; (case hd => rfl); (case hg => rfl); (case hr => first | (go_simp; done) | (go_simp; rfl)); intro gb229 hg w4 hbox hb; have n0_ := ak (blk_below (g := gb228) (o := .cells #[.int .i64 a0_0, .int .i64 a0_1] 40 (0, 0)) (zK BK228.out) hb); have n1_ := ak (below_step (zBG HB.out GE228.out) hb); have n2_ := ak (hbox); have n3_ := ak ((by rw [hg]; exact (below_size (zBG HB.out GE228.out)) : w.heap.size ≤ gb229)); have n4_ := ak ((by rw [hg]; exact (below_size (zBG HB.out GE228.out)) : w.heap.size ≤ gb229)); have n5_ := ak ((by rw [hg]; exact Nat.ne_of_lt (blk_lt (g := gb228) (o := .cells #[.int .i64 a0_0, .int .i64 a0_1] 40 (0, 0)) (zK BK228.out)) : gb228 ≠ gb229)); have n6_ := ak ((by rw [hg]; exact Nat.ne_of_gt (blk_lt (g := gb228) (o := .cells #[.int .i64 a0_0, .int .i64 a0_1] 40 (0, 0)) (zK BK228.out)) : gb229 ≠ gb228)); clear BK228 HB; have BK228 := n0_; have HB := n1_; have BK229 := n2_; have GW229 := n3_; have GE229 := n4_; have NB228_229 := n5_; have NB229_228 := n6_; clear n0_ n1_ n2_ n3_ n4_ n5_ n6_; clear hb hbox hg; have hnb5 := NB228_229.out; have hnc5 := NB229_228.out; have hcz6_0 : w4.cell? ⟨gb228, 0, none⟩ = some (.int .i64 a0_0) := (blk_cell BK228.out 0).trans rfl; have hcz6_1 : w4.cell? ⟨gb228, 1, none⟩ = some (.int .i64 a0_1) := (blk_cell BK228.out 1).trans rfl; have hfz6_0 := blk_frozen BK228.out 0; have hfz6_1 := blk_frozen BK228.out 1; have hcz7_0 : w4.cell? ⟨gb229, 0, none⟩ = some (.int .i64 0) := (blk_cell BK229.out 0).trans rfl; have hcz7_1 : w4.cell? ⟨gb229, 1, none⟩ = some (.int .i64 0) := (blk_cell BK229.out 1).trans rfl; have hfz7_0 := blk_frozen BK229.out 0; have hfz7_1 := blk_frozen BK229.out 1))
 refine bodyPost_ret (results_cell_row rfl _ _ gb229 40 #[.int .i64 (wrap64 (a0_0 + 1)), .int .i64 (Int.tmod (wrap64 ((wrap64 ((wrap64 (7 * a0_1)) + (wrap64 (a1)))) + 1)) 97)] (0, 0) _ rfl (by (with_reducible repeat (first | refine blk_drewN ?_ _ | refine blk_drew ?_ | refine blk_alloc ?_ _)); refine blk_put (cs := #[.int .i64 (wrap64 (a0_0 + 1)), .int .i64 0]) ?_ 1 _ rfl; (with_reducible repeat (first | refine blk_drewN ?_ _ | refine blk_drew ?_ | refine blk_alloc ?_ _)); refine blk_put (cs := #[.int .i64 0, .int .i64 0]) ?_ 0 _ rfl; (with_reducible repeat (first | refine blk_drewN ?_ _ | refine blk_drew ?_ | refine blk_alloc ?_ _)); exact BK229.out) Try.underlying40 rfl (by kernel_rfl)) rfl ?_
 exact ⟨by first | rfl | (simp [errW_none, errW_some] <;> rfl) | (simp [*, errW_none, errW_some] <;> rfl), by repeat (first | (with_reducible first | exact HB.out | apply below_alloc | apply pw_below_drewN | apply below_drew1 | refine below_set ?_ GE228.out | refine below_set ?_ GE229.out) | exact HB.out)⟩
 )
/-! ### spec_l03Count: function 27 -/
def spec_l03Count.l0 : Nat → List (S47) → List (S40) → Int → Int → Int → Option ((List (S40)))
  | 0, _, _, _, _, _ => none
  | k + 1, x0, x3, x5, x234000, x234001 => if x5 < (x0.length : Int) then (if 0 ≤ x5 then ((spec_l03Next.f x234000 x234001 ((rd_T47 x0 x5).f0)).bind fun bt235 => (if x3.length < 8796093022208 then (spec_l03Count.l0 k x0 (x3 ++ [(⟨bt235.1, bt235.2⟩ : S40)]) (wrap64 (x5 + 1)) bt235.1 bt235.2) else (none))) else (none)) else (some x3)
def spec_l03Count.f (k : Nat) (l0 : List (S47)) : Option ((List (S40))) := spec_l03Count.l0 k l0 (([] : List (S40))) 0 0 0
theorem spec_l03Count.mono_l : ∀ k, (∀ y0 y1 y2 y3 y4, LeO (spec_l03Count.l0 k y0 y1 y2 y3 y4) (spec_l03Count.l0 (k + 1) y0 y1 y2 y3 y4))
  | 0 => fun _ _ _ _ _ r h => by simp [spec_l03Count.l0] at h
  | k + 1 => by
    have ih0 := spec_l03Count.mono_l k
    · intro y0 y1 y2 y3 y4
      unfold spec_l03Count.l0
      repeat' first
      | (with_reducible exact ih0 _ _ _ _ _)
      | (with_reducible exact LeO.refl _)
      | (with_reducible exact LeO.none _)
      | (with_reducible refine LeO.ite ?_ ?_)
      | (with_reducible refine LeO.bind ?_ (fun _ => ?_))
      | exact ih0 _ _ _ _ _
      | exact LeO.none _
      | refine LeO.ite ?_ ?_
      | refine LeO.bind ?_ (fun _ => ?_)
theorem spec_l03Count.mono : ∀ a0 k, LeO (spec_l03Count.f k a0) (spec_l03Count.f (k + 1) a0) := by
  intro a0 k
  have ih0 := spec_l03Count.mono_l k
  unfold spec_l03Count.f
  repeat' first
      | (with_reducible exact ih0 _ _ _ _ _)
      | (with_reducible exact LeO.refl _)
      | (with_reducible exact LeO.none _)
      | (with_reducible refine LeO.ite ?_ ?_)
      | (with_reducible refine LeO.bind ?_ (fun _ => ?_))
      | exact ih0 _ _ _ _ _
      | exact LeO.none _
      | refine LeO.ite ?_ ?_
      | refine LeO.bind ?_ (fun _ => ?_)
def spec_l03Count.T6 : Bool × List (List Nat × List Nat) := (true, [([], []), ([], []), ([], []), ([1, 2], [1, 2]), ([3], [3]), ([4], [4]), ([0, 5], [0, 5]), ([6, 6, 0, 1, 2, 3, 4, 5, 6], [6])])
def spec_l03Count.B6 : List Nat := [0, 0, 0, 6, 14, 30, 63, 127]
theorem spec_l03Count.tab6 : rtab .any (opsOf Try.f27 6) = spec_l03Count.T6 := by kernel_rfl
theorem spec_l03Count.bits6 : waitsOk spec_l03Count.T6.2 spec_l03Count.B6 = true := by kernel_rfl
set_option maxHeartbeats 8000000 in
set_option maxRecDepth 100000 in
theorem spec_l03Count.calls (k : Nat) (A0 : Option Addr) (c0 : Nat) (l0 : List (S47)) (r : List (S40)) (w : World) (hr0 : Kd.C k47 w A0 l0.length l0) (hc0 : l0.length ≤ c0) (h : spec_l03Count.f k l0 = some r) :
    Calls Try.prog 27 #[.slice A0 l0.length c0] w fun e w' => ∃ v0_ : Value, e = .returned (v0_) ∧ Kd.R k40 40 w' w.heap.size (fun _ => True) v0_ r ∧ Below w.heap.size w w' := by
 have hu40 := Try.underlying40
 have HR0 := ak hr0
 have HC0 := ak hc0
 clear hr0 hc0
 have HB := ak (Below.refl w.heap.size w)
 have H : (spec_l03Count.l0 k l0 (([] : List (S40))) 0 0 0) = some r := h
 clear h
 obtain ⟨y230, hy230⟩ : ∃ y_ : List (S40), y_ = (([] : List (S40))) := ⟨_, rfl⟩
 replace H : (spec_l03Count.l0 k l0 y230 0 0 0) = some r := by first | (rw [hy230]; with_reducible exact H) | (have H2_ := (Option.bind_some _ _).symm.trans H; rw [hy230]; with_reducible exact H2_) | (have H2_ := (Option.bind_some _ _).symm.trans H; with_reducible exact H2_) | with_reducible exact H | (rw [hy230]; exact H) | exact H
 have Ny230 := ak hy230
 clear hy230
 have H' := ak H
 clear H
 go_enter Try.func27, Try.ntmps27
 go_wp2_with (first | ((with_reducible refine gate_dst (N := 6) rfl ?_); refine Kd.R_lit k40 _ 40 ?hg (N := 6) ?hd (xs := ([] : List (S40))) (inner := []) (ok := fun _ => True) (okp := fun _ => True) ?hr ?hp (fun _ hk => hk) trivial (Below.refl _ _) (Nat.le_refl _) (by simp) ?_; (case hd => rfl); (case hg => rfl); (case hr => first | (go_simp; done) | (go_simp; rfl)); (case hp => exact (Reps.none _ _)); intro v231 w2 ho3 hb hg_ hnew_; clear hg_ hnew_; (first | rw [← Ny230.out] at ho3 | (simp only [Int.reduceToNat] at ho3; rw [← Ny230.out] at ho3)); have n0_ := ak (Kd.R_lower ho3 (below_size (zB HB.out))); have n1_ := ak (below_step (zB HB.out) hb); clear HB; have HO232 := n0_; have HB := n1_; clear n0_ n1_; clear hb ho3) | ((with_reducible refine gate_dst (N := 4) rfl ?_); refine box_event ?hg (N := 4) ?hd (cs := #[.int .i64 0, .int .i64 0]) (t := 40) ?hr ?_; (case hd => rfl); (case hg => rfl); (case hr => first | (go_simp; done) | (go_simp; rfl)); intro gb233 hg w4 hbox hb; have n0_ := ak (Kd.R_below (Kd.R_elderB (zR HO232.out) gb233 (Nat.le_of_eq hg.symm)) hb); have n1_ := ak (below_step (zB HB.out) hb); have n2_ := ak (hbox); have n3_ := ak ((by rw [hg]; exact (below_size (zB HB.out)) : w.heap.size ≤ gb233)); have n4_ := ak ((by rw [hg]; exact (below_size (zB HB.out)) : w.heap.size ≤ gb233)); clear HO232 HB; have HO232 := n0_; have HB := n1_; have BK233 := n2_; have GW233 := n3_; have GE233 := n4_; clear n0_ n1_ n2_ n3_ n4_; clear hb hbox hg; have hcz5_0 : w4.cell? ⟨gb233, 0, none⟩ = some (.int .i64 0) := (blk_cell BK233.out 0).trans rfl; have hcz5_1 : w4.cell? ⟨gb233, 1, none⟩ = some (.int .i64 0) := (blk_cell BK233.out 1).trans rfl; have hfz5_0 := blk_frozen BK233.out 0; have hfz5_1 := blk_frozen BK233.out 1))
 go_loopg [3, 5] k (fun kq v3 v5 w' => ∃ (x3_1 : List (S40)) (x5_1 : Int) (x234000_1 : Int) (x234001_1 : Int), v5 = .int .i64 x5_1 ∧ Aside0 (spec_l03Count.l0 kq l0 x3_1 x5_1 x234000_1 x234001_1 = some r) ∧ Aside0 (kq ≤ k) ∧ Aside0 (Kd.R k40 40 w' w.heap.size (fun k_ => k_ ≠ gb233) v3 x3_1) ∧ Aside0 (w'.heap[gb233]? = some (.cells #[.int .i64 x234000_1, .int .i64 x234001_1] 40 (0, 0))) ∧ Aside0 (Below w.heap.size w w'))
 case atStart => exact ⟨(y230), (0), (0), (0), (by first | rfl | (simp; done) | (simp [*]; done)), H', ⟨Nat.le_refl _⟩, ⟨by (with_reducible repeat (first | apply Kd.R_alloc | apply Kd.R_drewN | apply Kd.R_drew)); exact Kd.R_mono (Kd.R_far (p := ⟨gb233, 1, none⟩) (Kd.R_far (p := ⟨gb233, 0, none⟩) (Kd.R_mono HO232.out (fun k_ hk => (⟨hk, hk.2⟩ : _ ∧ k_ ≠ gb233))) (fun _ hk => hk.2) (.int .i64 0)) (fun _ hk => hk.2) (.int .i64 0)) (fun _ hk => hk.1.2)⟩, ⟨by (with_reducible repeat (first | refine blk_drewN ?_ _ | refine blk_drew ?_ | refine blk_alloc ?_ _)); refine blk_put (cs := #[.int .i64 0, .int .i64 0]) ?_ 1 _ rfl; (with_reducible repeat (first | refine blk_drewN ?_ _ | refine blk_drew ?_ | refine blk_alloc ?_ _)); refine blk_put (cs := #[.int .i64 0, .int .i64 0]) ?_ 0 _ rfl; (with_reducible repeat (first | refine blk_drewN ?_ _ | refine blk_drew ?_ | refine blk_alloc ?_ _)); exact BK233.out⟩, ⟨(zBG HB.out GE233.out)⟩⟩
 case round => (
 clear H'
 try clear hcz5_0
 try clear hcz5_1
 try clear hfz5_0
 try clear hfz5_1
 obtain ⟨x3_1, x5_1, x234000_1, x234001_1, rfl, HA, HK1, HO_3, BK233, HB⟩ := hrel
 cases gk with
 | zero => exact absurd HA.out (by simp [spec_l03Count.l0])
 | succ k1 => (
 have H := HA.out
 clear HA
 simp only [spec_l03Count.l0] at H
 by_cases c6 : x5_1 < (l0.length : Int)
 {
 rw [if_pos c6] at H
 have c6b0 : decide (x5_1 < (l0.length : Int)) = true := decide_eq_true c6
 clear c6
 by_cases c7 : 0 ≤ x5_1
 {
 rw [if_pos c7] at H
 have c7b0 : decide (0 ≤ x5_1) = true := decide_eq_true c7
 clear c7
 replace H := Option.bind_eq_some_iff.mp H
 obtain ⟨⟨t235, t236⟩, A80, H⟩ := H
 replace H : (if x3_1.length < 8796093022208 then (spec_l03Count.l0 k1 l0 (x3_1 ++ [(⟨t235, t236⟩ : S40)]) (wrap64 (x5_1 + 1)) t235 t236) else (none)) = some r := H
 have A8 := ak A80
 clear A80
 by_cases c9 : x3_1.length < 8796093022208
 {
 rw [if_pos c9] at H
 have LMc9 := ak c9
 clear c9
 obtain ⟨y237, hy237⟩ : ∃ y_ : List (S40), y_ = (x3_1 ++ [(⟨t235, t236⟩ : S40)]) := ⟨_, rfl⟩
 replace H : (spec_l03Count.l0 k1 l0 y237 (wrap64 (x5_1 + 1)) t235 t236) = some r := by first | (rw [hy237]; with_reducible exact H) | (have H2_ := (Option.bind_some _ _).symm.trans H; rw [hy237]; with_reducible exact H2_) | (have H2_ := (Option.bind_some _ _).symm.trans H; with_reducible exact H2_) | with_reducible exact H | (rw [hy237]; exact H) | exact H
 have Ny237 := ak hy237
 clear hy237
 as_aux_lemma => (
 have H' := ak H
 clear H
 try go_wp2
 have n0_ := ak (Kd.R_drew HO_3.out)
 have n1_ := ak (blk_drew BK233.out)
 have n2_ := ak (below_drew1 HB.out)
 clear HO_3 BK233 HB
 have HO_3 := n0_
 have BK233 := n1_
 have HB := n2_
 clear n0_ n1_ n2_
 have p234 : 0 ≤ (x5_1 : Int) := of_decide_eq_true (by first | (with_reducible assumption) | assumption)
 have q234 : x5_1 < (l0.length : Int) := of_decide_eq_true (by first | (with_reducible assumption) | assumption)
 obtain ⟨ad234, e234, hx234_0, hx234_1⟩ := at_T47 HR0.out x5_1 p234 q234
 have hw234_1 := hx234_1
 have hw234_0 := hx234_0
 cases e234
 replace hx234_0 := (HB.out.cell (World.block_lt_of_cell? w _ hx234_0)).trans hx234_0
 replace hx234_1 := (HB.out.cell (World.block_lt_of_cell? w _ hx234_1)).trans hx234_1
 replace p234 := eq_true p234
 replace q234 := eq_true q234
 refine start_ (n := 8) (S := fun w' => w'.cell? ⟨gb233, 0, none⟩ = some (.int .i64 x234000_1) ∧ w'.cell? ⟨gb233, 1, none⟩ = some (.int .i64 x234001_1) ∧ w'.cell? (ad234.add ((x5_1).toNat * 2)) = some (.int .i16 ((rd_T47 l0 x5_1).f0)) ∧ w'.cell? ⟨(ad234.add ((x5_1).toNat * 2)).block, (ad234.add ((x5_1).toNat * 2)).off + 1, none⟩ = some (.int .i8 ((rd_T47 l0 x5_1).f1))) (ds := [7]) (bA 8 0) (by kernel_rfl) rfl rfl ⟨(blk_cell BK233.out 0).trans rfl, (blk_cell BK233.out 1).trans rfl, ((HB.out.cell (World.block_lt_of_cell? w _ hw234_0)).trans hw234_0), ((HB.out.cell (World.block_lt_of_cell? w _ hw234_1)).trans hw234_1)⟩ (fun hHeld => ?_); refine with_tabW spec_l03Count.tab6 spec_l03Count.bits6 (fun HT_ HW_ => ?_)
 generalize wr.drew = w10 at HO_3 BK233 HB hx234_0 hx234_1 hHeld ⊢
 refine pure_ (i := 1) (N := some 15) (v := ?_) (a' := ?_) (bA 8 2) rfl rfl (any_of HT_.out (by kernel_rfl)) (fun _ _ _ h => h) (Or.inl ⟨by rfl, ?_⟩) ?_ ?_
 rotate_left
 {
 intro w'
 go_simp
 with_reducible rfl
 }
 rotate_left
 · exact pt_
 refine pure_ (i := 2) (N := some 16) (v := ?_) (a' := ?_) (bA 8 6) rfl rfl (any_of HT_.out (by kernel_rfl)) (fun _ _ _ h => h) (Or.inl ⟨by rfl, ?_⟩) ?_ ?_
 rotate_left
 {
 intro w'
 go_simp
 with_reducible rfl
 }
 rotate_left
 · exact pt_
 refine pure_ (i := 3) (N := some 17) (v := ?_) (a' := ?_) (bA 8 14) rfl rfl (any_of HT_.out (by kernel_rfl)) (fun _ _ _ h => h) (Or.inl ⟨by rfl, ?_⟩) ?_ ?_
 rotate_left
 {
 intro w'
 go_simp
 with_reducible rfl
 }
 rotate_left
 · exact pt_
 refine pure_ (i := 4) (N := some 18) (v := ?_) (a' := ?_) (bA 8 30) rfl rfl (any_of HT_.out (by kernel_rfl)) (fun _ _ _ h => h) (Or.inl ⟨by rfl, ?_⟩) ?_ ?_
 rotate_left
 {
 intro w'
 go_simp
 with_reducible rfl
 }
 rotate_left
 · exact pt_
 refine take_ (i := 0) (N := some 14) (v := ?_) (a' := ?_) (bA 8 31) rfl rfl (take_ofW HT_.out HW_.out (by kernel_rfl)) (fun _ _ _ h => h) (Or.inl ⟨by rfl, ?_⟩) hHeld ?_ ?_
 rotate_left
 {
 rintro w' ⟨s0, s1, s2, s3⟩
 go_simp
 with_reducible rfl
 }
 rotate_left
 · exact pt_
 refine take_ (i := 5) (N := some 19) (v := ?_) (a' := ?_) (bA 8 63) rfl rfl (take_ofW HT_.out HW_.out (by kernel_rfl)) (fun _ _ _ h => h) (Or.inl ⟨by rfl, ?_⟩) hHeld ?_ ?_
 rotate_left
 {
 rintro w' ⟨s0, s1, s2, s3⟩
 go_simp
 with_reducible rfl
 }
 rotate_left
 · exact pt_
 refine one_ (i := 6) (N := some 20) (bA 8 127) rfl rfl (one_of HT_.out (by kernel_rfl)) (by decide) (fun K hK => ?_)
 refine goes_ Try.func45 (by kernel_rfl) rfl #[.agg #[.int .i64 x234000_1, .int .i64 x234001_1], .int .i16 ((rd_T47 l0 x5_1).f0)] (by rfl) rfl rfl gl_ ?_
 with_reducible refine (spec_l03Next.calls x234000_1 x234001_1 ((rd_T47 l0 x5_1).f0) t235 t236 _ A8.out).mono ?_
 rintro e w11 ⟨rfl, hb⟩
 refine ⟨_, rfl, ?_⟩
 have n0_ := ak (Kd.R_below (zR HO_3.out) hb)
 have n1_ := ak (blk_below (g := gb233) (o := .cells #[.int .i64 x234000_1, .int .i64 x234001_1] 40 (0, 0)) (zK BK233.out) hb)
 have n2_ := ak (below_step (zBG HB.out GE233.out) hb)
 clear HO_3 BK233 HB
 have HO_3 := n0_
 have BK233 := n1_
 have HB := n2_
 clear n0_ n1_ n2_
 (try clear hb)
 (try clear hb2)
 (try clear hk)
 (try clear hi)
 refine hK.out _ _ ⟨(blk_cell BK233.out 0).trans rfl, (blk_cell BK233.out 1).trans rfl, ((HB.out.cell (World.block_lt_of_cell? w _ hw234_0)).trans hw234_0), ((HB.out.cell (World.block_lt_of_cell? w _ hw234_1)).trans hw234_1)⟩ (fun hHeld => ?_)
 clear hK K
 refine norm_ (a' := ?_) ?_ ?_
 rotate_left
 {
 show Act.put _ (some 20) _ = _
 simp only [Act.put, zs, zz, zk, i64_w, i32_w]
 rfl
 }
 refine last_ (i := 7) (N := none) #[true, true, true, true, true, true, true, true] rfl rfl (one_of HT_.out (by kernel_rfl)) (by decide) (fun K hK => ?_)
 have hs12 : w11.cell? ⟨gb233, 0, none⟩ = some (.int .i64 x234000_1) := (blk_cell BK233.out 0).trans rfl
 have hfs12 := blk_frozen BK233.out 0
 have hs13 : w11.cell? ⟨gb233, 1, none⟩ = some (.int .i64 x234001_1) := (blk_cell BK233.out 1).trans rfl
 have hfs13 := blk_frozen BK233.out 1
 refine skip_ (w1 := ?_) (by rfl) rfl ?_ ?_
 rotate_left
 · go_simp; rfl
 refine hK.out _ _ ?_
 clear hK K
 refine done_ (done_of HT_.out (by kernel_rfl)) ?_
 have hcz14_0 : w11.cell? ⟨gb233, 0, none⟩ = some (.int .i64 x234000_1) := (blk_cell BK233.out 0).trans rfl
 have hcz14_1 : w11.cell? ⟨gb233, 1, none⟩ = some (.int .i64 x234001_1) := (blk_cell BK233.out 1).trans rfl
 have hfz14_0 := blk_frozen BK233.out 0
 have hfz14_1 := blk_frozen BK233.out 1
 try go_wp2_with (first | ((with_reducible refine gate_builtin (b := .append) (xs := #[.tmp 21, .tmp 23]) rfl ?_); at_builtin; refine Kd.R_append k40 (w0 := w) w.heap.size rfl (.tmp 21) (.tmp 23) 31 40 (.agg #[(.int .i64 0), (.int .i64 0)]) 16 rfl Try.underlying31 info40 rfl (by decide) (by omega) u3 x3_1 (⟨t235, t236⟩ : S40) [.int .i64 t235, .int .i64 t236] (fun k_ => k_ ≠ gb233) (fun _ => False) rfl (by first | (go_simp; done) | (go_simp; rfl)) ?aP (fun _ hk => hk.elim) ?aF ?aO ?aB ?aS ?aL ?_; (case aP => exact k40_mkM _ _ _ (⟨t235, t236⟩ : S40)); (case aB => exact (zBG HB.out GE233.out)); (case aF => exact (fun k_ hk => Kd.freshB (g := gb233) (o := .cells #[.int .i64 t235, .int .i64 t236] 40 (0, 0)) (by (with_reducible repeat (first | refine blk_drewN ?_ _ | refine blk_drew ?_ | refine blk_alloc ?_ _)); refine blk_put (cs := #[.int .i64 t235, .int .i64 x234001_1]) ?_ 1 _ rfl; (with_reducible repeat (first | refine blk_drewN ?_ _ | refine blk_drew ?_ | refine blk_alloc ?_ _)); refine blk_put (cs := #[.int .i64 x234000_1, .int .i64 x234001_1]) ?_ 0 _ rfl; (with_reducible repeat (first | refine blk_drewN ?_ _ | refine blk_drew ?_ | refine blk_alloc ?_ _)); exact BK233.out) k_ hk)); (case aO => exact (by (with_reducible repeat (first | apply Kd.R_alloc | apply Kd.R_drewN | apply Kd.R_drew)); exact Kd.R_mono (Kd.R_far (p := ⟨gb233, 1, none⟩) (Kd.R_far (p := ⟨gb233, 0, none⟩) (Kd.R_mono HO_3.out (fun k_ hk => (⟨hk, hk⟩ : _ ∧ k_ ≠ gb233))) (fun _ hk => hk.2) (.int .i64 t235)) (fun _ hk => hk.2) (.int .i64 t236)) (fun _ hk => hk.1))); (case aS => exact (below_size (zBG HB.out GE233.out))); (case aL => have := LMc9.out; omega); intro v238 w15 ho hb hg hat; rw [← Ny237.out] at ho; have n0_ := ak (blk_grown (g := gb233) (o := .cells #[.int .i64 t235, .int .i64 t236] 40 (0, 0)) (by (with_reducible repeat (first | refine blk_drewN ?_ _ | refine blk_drew ?_ | refine blk_alloc ?_ _)); refine blk_put (cs := #[.int .i64 t235, .int .i64 x234001_1]) ?_ 1 _ rfl; (with_reducible repeat (first | refine blk_drewN ?_ _ | refine blk_drew ?_ | refine blk_alloc ?_ _)); refine blk_put (cs := #[.int .i64 x234000_1, .int .i64 x234001_1]) ?_ 0 _ rfl; (with_reducible repeat (first | refine blk_drewN ?_ _ | refine blk_drew ?_ | refine blk_alloc ?_ _)); exact BK233.out) hg (Kd.R_away HO_3.out (fun _ hk => hk))); have n1_ := ak (hb); have n2_ := ak (ho); clear BK233 HB HO_3; have BK233 := n0_; have HB := n1_; have HO239 := n2_; clear n0_ n1_ n2_; clear ho hb hg hat))
 go_roundg k1
 case measure => have := HK1.out; omega
 case rel => exact ⟨(y237), (wrap64 (x5_1 + 1)), (t235), (t236), (by first | rfl | (simp; done) | (simp [*]; done)), H', ⟨by have := HK1.out; omega⟩, ⟨(zR HO239.out)⟩, ⟨(zK BK233.out)⟩, ⟨(zBG HB.out GE233.out)⟩⟩
 )
 }
 · rw [if_neg c9] at H; exact absurd H (by simp)
 }
 · rw [if_neg c7] at H; exact absurd H (by simp)
 }
 {
 rw [if_neg c6] at H
 have c6b0 : decide (x5_1 < (l0.length : Int)) = false := decide_eq_false c6
 clear c6
 as_aux_lemma => (
 obtain rfl := Option.some.inj H
 go_wp2
 go_ret
 exact ⟨_, by first | rfl | (simp [errW_none, errW_some] <;> rfl) | (simp [*, errW_none, errW_some] <;> rfl), by (with_reducible repeat (first | apply Kd.R_alloc | apply Kd.R_drewN | apply Kd.R_drew)); exact Kd.R_mono HO_3.out (fun _ hk => trivial), zBG HB.out GE233.out⟩
 )
 }
 )
 )
end Go.Proofs.Ytcgbnbblojkglaa.P
