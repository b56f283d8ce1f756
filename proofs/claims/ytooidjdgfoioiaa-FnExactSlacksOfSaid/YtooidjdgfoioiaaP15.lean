-- Printed by wip/print (my turned copy of the kit's print) out of the translation; Lean checks it.
import Derived.Test.YtooidjdgfoioiaaP0
import Derived.Test.YtooidjdgfoioiaaP1
import Derived.Test.YtooidjdgfoioiaaP14
namespace Go.Proofs.Ytooidjdgfoioiaa.P
open Go.RowKit Go.Proofs.YtooidjdgfoioiaaW.PrintWords Go.Proofs.YtooidjdgfoioiaaW.PrintLast Go.Proofs.YtooidjdgfoioiaaW.PrintMore
attribute [local go_sem] max2_int min2_int max_two min_two max_three min_three max_four min_four   -- for this text's walks alone
set_option linter.unusedVariables false
set_option linter.unusedSimpArgs false

/-! ### spec_l03Holds: function 69 -/
mutual
def spec_l03Holds.l0 : Nat → List (S65) → Int → Int → List Int → Option (Bool)
  | 0, _, _, _, _ => none
  | k + 1, x1, x5, x1000, x1001 => if x5 < (x1.length : Int) then (if 0 ≤ x5 then ((spec_l00In.f (wrap64 ((rd_T65 x1 x5).f0)) 0 999).bind fun t375 => (if t375 = true then ((spec_l00In.f (wrap64 ((rd_T65 x1 x5).f1)) 0 (wrap64 ((x1001.length : Int) - 1))).bind fun t377 => (spec_l03Holds.j1 k x1 x5 (!t377) x1000 x1001)) else (spec_l03Holds.j1 k x1 x5 true x1000 x1001))) else (none)) else (some true)
def spec_l03Holds.j1 : Nat → List (S65) → Int → Bool → Int → List Int → Option (Bool)
  | 0, _, _, _, _, _ => none
  | k + 1, x1, x5, x39, x1000, x1001 => if x39 = true then (some false) else (if x5 > 0 then (if 0 ≤ x5 then (if x5 < (x1.length : Int) then (if 0 ≤ (wrap64 (x5 - 1)) then (if (wrap64 (x5 - 1)) < (x1.length : Int) then (spec_l03Holds.j2 k x1 x5 (decide (((rd_T65 x1 x5).f1) ≤ ((rd_T65 x1 (wrap64 (x5 - 1))).f1))) x1000 x1001) else (none)) else (none)) else (none)) else (none)) else (spec_l03Holds.j2 k x1 x5 false x1000 x1001))
def spec_l03Holds.j2 : Nat → List (S65) → Int → Bool → Int → List Int → Option (Bool)
  | 0, _, _, _, _, _ => none
  | k + 1, x1, x5, x55, x1000, x1001 => if x55 = true then (some false) else (spec_l03Holds.l1 k x1 x5 0 x1000 x1001)
def spec_l03Holds.l1 : Nat → List (S65) → Int → Int → Int → List Int → Option (Bool)
  | 0, _, _, _, _, _ => none
  | k + 1, x1, x5, x6, x1000, x1001 => if x6 < x5 then (if 0 ≤ x6 then (if x6 < (x1.length : Int) then (if 0 ≤ x5 then (if x5 < (x1.length : Int) then (if ((rd_T65 x1 x6).f0) = ((rd_T65 x1 x5).f0) then (some false) else (spec_l03Holds.l1 k x1 x5 (wrap64 (x6 + 1)) x1000 x1001)) else (none)) else (none)) else (none)) else (none)) else (spec_l03Holds.l0 k x1 (wrap64 (x5 + 1)) x1000 x1001)
end
def spec_l03Holds.f (k : Nat) (a0_0 : Int) (l0_1 : List Int) (l1 : List (S65)) : Option (Bool) := (spec_l03Ok.f k a0_0 l0_1).bind fun t373 => (if t373 = true then (spec_l03Holds.l0 k l1 0 a0_0 l0_1) else (some false))
theorem spec_l03Holds.mono_l : ∀ k, (∀ y0 y1 y2 y3, LeO (spec_l03Holds.l0 k y0 y1 y2 y3) (spec_l03Holds.l0 (k + 1) y0 y1 y2 y3)) ∧ (∀ y0 y1 y2 y3 y4, LeO (spec_l03Holds.j1 k y0 y1 y2 y3 y4) (spec_l03Holds.j1 (k + 1) y0 y1 y2 y3 y4)) ∧ (∀ y0 y1 y2 y3 y4, LeO (spec_l03Holds.j2 k y0 y1 y2 y3 y4) (spec_l03Holds.j2 (k + 1) y0 y1 y2 y3 y4)) ∧ (∀ y0 y1 y2 y3 y4, LeO (spec_l03Holds.l1 k y0 y1 y2 y3 y4) (spec_l03Holds.l1 (k + 1) y0 y1 y2 y3 y4))
  | 0 => ⟨fun _ _ _ _ r h => by simp [spec_l03Holds.l0] at h, fun _ _ _ _ _ r h => by simp [spec_l03Holds.j1] at h, fun _ _ _ _ _ r h => by simp [spec_l03Holds.j2] at h, fun _ _ _ _ _ r h => by simp [spec_l03Holds.l1] at h⟩
  | k + 1 => by
    obtain ⟨ih0, ih1, ih2, ih3⟩ := spec_l03Holds.mono_l k
    refine ⟨?_, ?_, ?_, ?_⟩
    · intro y0 y1 y2 y3
      unfold spec_l03Holds.l0
      repeat' first
      | (with_reducible exact ih0 ..)
      | (with_reducible exact ih1 ..)
      | (with_reducible exact ih2 ..)
      | (with_reducible exact ih3 ..)
      | (with_reducible exact spec_l03Ok.mono ..)
      | (with_reducible exact LeO.refl ..)
      | (with_reducible exact LeO.none ..)
      | (with_reducible refine LeO.ite ?_ ?_)
      | (with_reducible refine LeO.bind ?_ (fun _ => ?_))
    · intro y0 y1 y2 y3 y4
      unfold spec_l03Holds.j1
      repeat' first
      | (with_reducible exact ih0 ..)
      | (with_reducible exact ih1 ..)
      | (with_reducible exact ih2 ..)
      | (with_reducible exact ih3 ..)
      | (with_reducible exact spec_l03Ok.mono ..)
      | (with_reducible exact LeO.refl ..)
      | (with_reducible exact LeO.none ..)
      | (with_reducible refine LeO.ite ?_ ?_)
      | (with_reducible refine LeO.bind ?_ (fun _ => ?_))
    · intro y0 y1 y2 y3 y4
      unfold spec_l03Holds.j2
      repeat' first
      | (with_reducible exact ih0 ..)
      | (with_reducible exact ih1 ..)
      | (with_reducible exact ih2 ..)
      | (with_reducible exact ih3 ..)
      | (with_reducible exact spec_l03Ok.mono ..)
      | (with_reducible exact LeO.refl ..)
      | (with_reducible exact LeO.none ..)
      | (with_reducible refine LeO.ite ?_ ?_)
      | (with_reducible refine LeO.bind ?_ (fun _ => ?_))
    · intro y0 y1 y2 y3 y4
      unfold spec_l03Holds.l1
      repeat' first
      | (with_reducible exact ih0 ..)
      | (with_reducible exact ih1 ..)
      | (with_reducible exact ih2 ..)
      | (with_reducible exact ih3 ..)
      | (with_reducible exact spec_l03Ok.mono ..)
      | (with_reducible exact LeO.refl ..)
      | (with_reducible exact LeO.none ..)
      | (with_reducible refine LeO.ite ?_ ?_)
      | (with_reducible refine LeO.bind ?_ (fun _ => ?_))
theorem spec_l03Holds.mono : ∀ a0 a1 a2 k, LeO (spec_l03Holds.f k a0 a1 a2) (spec_l03Holds.f (k + 1) a0 a1 a2) := by
  intro a0 a1 a2 k
  obtain ⟨ih0, ih1, ih2, ih3⟩ := spec_l03Holds.mono_l k
  unfold spec_l03Holds.f
  repeat' first
      | (with_reducible exact ih0 ..)
      | (with_reducible exact ih1 ..)
      | (with_reducible exact ih2 ..)
      | (with_reducible exact ih3 ..)
      | (with_reducible exact spec_l03Ok.mono ..)
      | (with_reducible exact LeO.refl ..)
      | (with_reducible exact LeO.none ..)
      | (with_reducible refine LeO.ite ?_ ?_)
      | (with_reducible refine LeO.bind ?_ (fun _ => ?_))
set_option maxHeartbeats 8000000 in
set_option maxRecDepth 100000 in
theorem spec_l03Holds.calls (k : Nat) (b0 : Nat) (a0_0 : Int) (A0_1 : Option Addr) (c0_1 : Nat) (l0_1 : List Int) (A1 : Option Addr) (c1 : Nat) (l1 : List (S65)) (r : Bool) (w : World) (hr0_1 : Kd.C (Kd.int .i16) w A0_1 l0_1.length l0_1) (hc0_1 : l0_1.length ≤ c0_1) (hr1 : Kd.C k65 w A1 l1.length l1) (hc1 : l1.length ≤ c1) (hx0 : w.heap[b0]? = some (.cells #[.int .i16 a0_0, .slice A0_1 l0_1.length c0_1] 32 (0, 0))) (h : spec_l03Holds.f k a0_0 l0_1 l1 = some r) :
    Calls Try.prog 69 #[.pointer (some ⟨b0, 0, none⟩), .slice A1 l1.length c1] w fun e w' => e = .returned (.bool r) ∧ Below w.heap.size w w' := by
 have HR0_1 := ak hr0_1
 have HC0_1 := ak hc0_1
 clear hr0_1 hc0_1
 have HR1 := ak hr1
 have HC1 := ak hc1
 clear hr1 hc1
 have BK0 := ak hx0
 clear hx0
 have HB := ak (Below.refl w.heap.size w)
 have H := h
 unfold spec_l03Holds.f at H
 clear h
 replace H := Option.bind_eq_some_iff.mp H
 obtain ⟨t373, A30, H⟩ := H
 have A3 := ak A30
 clear A30
 by_cases c4 : t373 = true
 {
 subst c4
 rw [if_pos rfl] at H
 have H' := ak H
 clear H
 go_enter Try.func69, Try.ntmps69
 go_wp2_with (first | (go_at_call 88; (with_reducible refine (spec_l03Ok.calls k b0 a0_0 A0_1 c0_1 l0_1 true _ ?side1 ?side2 ?side3 A3.out).mono ?_); (case side1 => exact sD HR0_1); (case side2 => exact HC0_1.out); (case side3 => exact (zK BK0.out)); rintro e w5 ⟨rfl, hb⟩; replace BK0 := kK BK0 hb; replace HB := kB HB hb; (try clear hb)))
 repeat (go_quiet (first | (go_at_call 88; (with_reducible refine (spec_l03Ok.calls k b0 a0_0 A0_1 c0_1 l0_1 true _ ?side1 ?side2 ?side3 A3.out).mono ?_); (case side1 => exact sQ HR0_1.out); (case side2 => exact HC0_1.out); (case side3 => exact (zK BK0.out)); rintro e w5 ⟨rfl, hb⟩; have n0_ := ak (blk_below (g := b0) (o := .cells #[.int .i16 a0_0, .slice A0_1 l0_1.length c0_1] 32 (0, 0)) (zK BK0.out) hb); have n1_ := ak (below_step (zB HB.out) hb); clear BK0 HB; have BK0 := n0_; have HB := n1_; clear n0_ n1_; (try clear hb); (try clear hb2); (try clear hk); (try clear hi))); try go_wp2_with (first | (go_at_call 88; (with_reducible refine (spec_l03Ok.calls k b0 a0_0 A0_1 c0_1 l0_1 true _ ?side1 ?side2 ?side3 A3.out).mono ?_); (case side1 => exact sD HR0_1); (case side2 => exact HC0_1.out); (case side3 => exact (zK BK0.out)); rintro e w5 ⟨rfl, hb⟩; replace BK0 := kK BK0 hb; replace HB := kB HB hb; (try clear hb))))
 go_loopg [5] k (fun kq v5 w' => ∃ (x5_1 : Int), v5 = .int .i64 x5_1 ∧ Aside0 (spec_l03Holds.l0 kq l1 x5_1 a0_0 l0_1 = some r) ∧ Aside0 (kq ≤ k) ∧ Aside0 (w'.heap[b0]? = some (.cells #[.int .i16 a0_0, (.slice A0_1 l0_1.length c0_1)] 32 (0, 0))) ∧ Aside0 (Below w.heap.size w w'))
 case atStart => exact ⟨(0), (by first | rfl | (simp; done) | (simp [*]; done)), H', ⟨Nat.le_refl _⟩, ⟨(zK BK0.out)⟩, ⟨zB HB.out⟩⟩
 case round => (
 clear H'
 try clear c1
 try clear c4
 obtain ⟨x5_1, rfl, HA, HK1, BK0, HB⟩ := hrel
 cases gk with
 | zero => exact absurd HA.out (by simp [spec_l03Holds.l0])
 | succ k1 => (
 have H := HA.out
 clear HA
 simp only [spec_l03Holds.l0] at H
 by_cases c6 : x5_1 < (l1.length : Int)
 {
 rw [if_pos c6] at H
 have c6b0 : decide (x5_1 < (l1.length : Int)) = true := decide_eq_true c6
 clear c6
 have HC7 := ak H
 clear H
 go_upto_region 6 with (fail)
 repeat (go_quiet (fail); go_upto_region 6 with (fail))
 go_cut [39] (fun v39 wc => ∃ (kq : Nat) (x39_6 : Bool), v39 = .bool x39_6 ∧ Aside0 (spec_l03Holds.j1 kq l1 x5_1 x39_6 a0_0 l0_1 = some r) ∧ Aside0 (kq ≤ k1) ∧ Aside0 (wc.heap[b0]? = some (.cells #[.int .i16 a0_0, (.slice A0_1 l0_1.length c0_1)] 32 (0, 0))) ∧ Aside0 (Below w.heap.size w wc))
 case first => (
 have H := HC7.out
 clear HC7
 by_cases c8 : 0 ≤ x5_1
 {
 rw [if_pos c8] at H
 have c8b0 : decide (0 ≤ x5_1) = true := decide_eq_true c8
 clear c8
 (first | rw [c8b0] | (simp only [i64_w, i32_w]; rw [c8b0]) | skip)
 replace H := Option.bind_eq_some_iff.mp H
 obtain ⟨t375, A90, H⟩ := H
 have A9 := ak A90
 clear A90
 by_cases c10 : t375 = true
 {
 subst c10
 rw [if_pos rfl] at H
 replace H := Option.bind_eq_some_iff.mp H
 obtain ⟨t377, A110, H⟩ := H
 have A11 := ak A110
 clear A110
 have H' := ak H
 clear H
 have p374 : 0 ≤ (x5_1 : Int) := of_decide_eq_true (by first | (with_reducible assumption) | assumption)
 have q374 : x5_1 < (l1.length : Int) := of_decide_eq_true (by first | (with_reducible assumption) | assumption)
 obtain ⟨ad374, e374, hx374_0, hx374_1⟩ := at_T65 HR1.out x5_1 p374 q374
 cases e374
 replace hx374_0 := (HB.out.cell (World.block_lt_of_cell? w _ hx374_0)).trans hx374_0
 replace hx374_1 := (HB.out.cell (World.block_lt_of_cell? w _ hx374_1)).trans hx374_1
 replace p374 := eq_true p374
 replace q374 := eq_true q374
 go_wp2_with (first | (go_at_call 72; (with_reducible refine (spec_l00In.calls (wrap64 ((rd_T65 l1 x5_1).f0)) 0 999 true _ A9.out).mono ?_); rintro e w' ⟨rfl, ⟨nd, rfl⟩⟩; have p376 : 0 ≤ (x5_1 : Int) := of_decide_eq_true (by first | (with_reducible assumption) | assumption); have q376 : x5_1 < (l1.length : Int) := of_decide_eq_true (by first | (with_reducible assumption) | assumption); obtain ⟨ad376, e376, hx376_0, hx376_1⟩ := at_T65 HR1.out x5_1 p376 q376; obtain rfl : ad374 = ad376 := (by injection e376); replace hx376_0 := (HB.out.cell (World.block_lt_of_cell? w _ hx376_0)).trans hx376_0; replace hx376_1 := (HB.out.cell (World.block_lt_of_cell? w _ hx376_1)).trans hx376_1; replace p376 := eq_true p376; replace q376 := eq_true q376; obtain ⟨hcz12_0, hcz12_1, hfz12_0, hfz12_1⟩ := cz2 wr BK0) | (go_at_call 72; (with_reducible refine (spec_l00In.calls (wrap64 ((rd_T65 l1 x5_1).f1)) 0 (wrap64 ((l0_1.length : Int) - 1)) t377 _ A11.out).mono ?_); rintro e w' ⟨rfl, ⟨nd, rfl⟩⟩))
 try (have p376 : 0 ≤ (x5_1 : Int) := of_decide_eq_true (by first | (with_reducible assumption) | assumption); have q376 : x5_1 < (l1.length : Int) := of_decide_eq_true (by first | (with_reducible assumption) | assumption); obtain ⟨ad376, e376, hx376_0, hx376_1⟩ := at_T65 HR1.out x5_1 p376 q376; obtain rfl : ad374 = ad376 := (by injection e376); replace hx376_0 := (HB.out.cell (World.block_lt_of_cell? w _ hx376_0)).trans hx376_0; replace hx376_1 := (HB.out.cell (World.block_lt_of_cell? w _ hx376_1)).trans hx376_1; replace p376 := eq_true p376; replace q376 := eq_true q376; have hcz12_0 : wr.cell? ⟨b0, 0, none⟩ = some (.int .i16 a0_0) := (blk_cell BK0.out 0).trans rfl; have hcz12_1 : wr.cell? ⟨b0, 1, none⟩ = some (.slice A0_1 l0_1.length c0_1) := (blk_cell BK0.out 1).trans rfl; have hfz12_0 := blk_frozen BK0.out 0; have hfz12_1 := blk_frozen BK0.out 1)
 repeat (go_quiet (first | (go_at_call 72; (with_reducible refine (spec_l00In.calls (wrap64 ((rd_T65 l1 x5_1).f0)) 0 999 true _ A9.out).mono ?_); rintro e w' ⟨rfl, ⟨nd, rfl⟩⟩; (try first | exact ⟨rfl, _, World.drewN_drewN _ _ _⟩ | exact ⟨rfl, _, Eq.trans (World.drewN_drewN _ _ _) (congrArg (World.drewN _) (Nat.add_assoc _ _ _))⟩); try (have p376 : 0 ≤ (x5_1 : Int) := of_decide_eq_true (by first | (with_reducible assumption) | assumption); have q376 : x5_1 < (l1.length : Int) := of_decide_eq_true (by first | (with_reducible assumption) | assumption); obtain ⟨ad376, e376, hx376_0, hx376_1⟩ := at_T65 HR1.out x5_1 p376 q376; obtain rfl : ad374 = ad376 := (by injection e376); replace hx376_0 := (HB.out.cell (World.block_lt_of_cell? w _ hx376_0)).trans hx376_0; replace hx376_1 := (HB.out.cell (World.block_lt_of_cell? w _ hx376_1)).trans hx376_1; replace p376 := eq_true p376; replace q376 := eq_true q376; have hcz12_0 : wr.cell? ⟨b0, 0, none⟩ = some (.int .i16 a0_0) := (blk_cell BK0.out 0).trans rfl; have hcz12_1 : wr.cell? ⟨b0, 1, none⟩ = some (.slice A0_1 l0_1.length c0_1) := (blk_cell BK0.out 1).trans rfl; have hfz12_0 := blk_frozen BK0.out 0; have hfz12_1 := blk_frozen BK0.out 1)) | (go_at_call 72; (with_reducible refine (spec_l00In.calls (wrap64 ((rd_T65 l1 x5_1).f1)) 0 (wrap64 ((l0_1.length : Int) - 1)) t377 _ A11.out).mono ?_); rintro e w' ⟨rfl, ⟨nd, rfl⟩⟩; (try first | exact ⟨rfl, _, World.drewN_drewN _ _ _⟩ | exact ⟨rfl, _, Eq.trans (World.drewN_drewN _ _ _) (congrArg (World.drewN _) (Nat.add_assoc _ _ _))⟩))); try go_wp2_with (first | (go_at_call 72; (with_reducible refine (spec_l00In.calls (wrap64 ((rd_T65 l1 x5_1).f0)) 0 999 true _ A9.out).mono ?_); rintro e w' ⟨rfl, ⟨nd, rfl⟩⟩; (try first | exact ⟨rfl, _, World.drewN_drewN _ _ _⟩ | exact ⟨rfl, _, Eq.trans (World.drewN_drewN _ _ _) (congrArg (World.drewN _) (Nat.add_assoc _ _ _))⟩); try (have p376 : 0 ≤ (x5_1 : Int) := of_decide_eq_true (by first | (with_reducible assumption) | assumption); have q376 : x5_1 < (l1.length : Int) := of_decide_eq_true (by first | (with_reducible assumption) | assumption); obtain ⟨ad376, e376, hx376_0, hx376_1⟩ := at_T65 HR1.out x5_1 p376 q376; obtain rfl : ad374 = ad376 := (by injection e376); replace hx376_0 := (HB.out.cell (World.block_lt_of_cell? w _ hx376_0)).trans hx376_0; replace hx376_1 := (HB.out.cell (World.block_lt_of_cell? w _ hx376_1)).trans hx376_1; replace p376 := eq_true p376; replace q376 := eq_true q376; have hcz12_0 : wr.cell? ⟨b0, 0, none⟩ = some (.int .i16 a0_0) := (blk_cell BK0.out 0).trans rfl; have hcz12_1 : wr.cell? ⟨b0, 1, none⟩ = some (.slice A0_1 l0_1.length c0_1) := (blk_cell BK0.out 1).trans rfl; have hfz12_0 := blk_frozen BK0.out 0; have hfz12_1 := blk_frozen BK0.out 1)) | (go_at_call 72; (with_reducible refine (spec_l00In.calls (wrap64 ((rd_T65 l1 x5_1).f1)) 0 (wrap64 ((l0_1.length : Int) - 1)) t377 _ A11.out).mono ?_); rintro e w' ⟨rfl, ⟨nd, rfl⟩⟩; (try first | exact ⟨rfl, _, World.drewN_drewN _ _ _⟩ | exact ⟨rfl, _, Eq.trans (World.drewN_drewN _ _ _) (congrArg (World.drewN _) (Nat.add_assoc _ _ _))⟩))))
 go_meet
 case rel => exact ⟨_, (!t377), (by first | rfl | (simp; done) | (simp [*]; done)), H', ⟨by have := HK1.out; first | omega | exact Nat.le_refl _⟩, ⟨(zK BK0.out)⟩, ⟨zB HB.out⟩⟩
 }
 {
 replace c10 := Bool.eq_false_iff.mpr c10
 subst c10
 rw [if_neg (show ¬ (false = true) by decide)] at H
 have H' := ak H
 clear H
 have p374 : 0 ≤ (x5_1 : Int) := of_decide_eq_true (by first | (with_reducible assumption) | assumption)
 have q374 : x5_1 < (l1.length : Int) := of_decide_eq_true (by first | (with_reducible assumption) | assumption)
 obtain ⟨ad374, e374, hx374_0, hx374_1⟩ := at_T65 HR1.out x5_1 p374 q374
 cases e374
 replace hx374_0 := (HB.out.cell (World.block_lt_of_cell? w _ hx374_0)).trans hx374_0
 replace hx374_1 := (HB.out.cell (World.block_lt_of_cell? w _ hx374_1)).trans hx374_1
 replace p374 := eq_true p374
 replace q374 := eq_true q374
 go_wp2_with (first | (go_at_call 72; (with_reducible refine (spec_l00In.calls (wrap64 ((rd_T65 l1 x5_1).f0)) 0 999 false _ A9.out).mono ?_); rintro e w' ⟨rfl, ⟨nd, rfl⟩⟩))
 repeat (go_quiet (first | (go_at_call 72; (with_reducible refine (spec_l00In.calls (wrap64 ((rd_T65 l1 x5_1).f0)) 0 999 false _ A9.out).mono ?_); rintro e w' ⟨rfl, ⟨nd, rfl⟩⟩; (try first | exact ⟨rfl, _, World.drewN_drewN _ _ _⟩ | exact ⟨rfl, _, Eq.trans (World.drewN_drewN _ _ _) (congrArg (World.drewN _) (Nat.add_assoc _ _ _))⟩))); try go_wp2_with (first | (go_at_call 72; (with_reducible refine (spec_l00In.calls (wrap64 ((rd_T65 l1 x5_1).f0)) 0 999 false _ A9.out).mono ?_); rintro e w' ⟨rfl, ⟨nd, rfl⟩⟩; (try first | exact ⟨rfl, _, World.drewN_drewN _ _ _⟩ | exact ⟨rfl, _, Eq.trans (World.drewN_drewN _ _ _) (congrArg (World.drewN _) (Nat.add_assoc _ _ _))⟩))))
 go_meet
 case rel => exact ⟨_, (true), (by first | rfl | (simp; done) | (simp [*]; done)), H', ⟨by have := HK1.out; first | omega | exact Nat.le_refl _⟩, ⟨(zK BK0.out)⟩, ⟨zB HB.out⟩⟩
 }
 }
 · rw [if_neg c8] at H; exact absurd H (by simp)
 )
 case rest => (
 clear HC7
 try clear c1
 try clear c4
 try clear c6
 try clear c6b0
 obtain ⟨kq, x39_6, rfl, HA, HJ6, BK0, HB⟩ := hcut
 cases kq with
 | zero => exact absurd HA.out (by simp [spec_l03Holds.j1])
 | succ kj6 => (
 have H := HA.out
 clear HA
 simp only [spec_l03Holds.j1] at H
 by_cases c13 : x39_6 = true
 {
 subst c13
 rw [if_pos rfl] at H
 obtain rfl := Option.some.inj H
 go_wp2
 repeat (go_quiet (fail); try go_wp2)
 go_ret
 exact ⟨by first | rfl | (simp [errW_none, errW_some] <;> rfl) | (simp [*, errW_none, errW_some] <;> rfl), zB HB.out⟩
 }
 {
 replace c13 := Bool.eq_false_iff.mpr c13
 subst c13
 rw [if_neg (show ¬ (false = true) by decide)] at H
 have HC14 := ak H
 clear H
 go_upto_region 8 with (fail)
 repeat (go_quiet (fail); go_upto_region 8 with (fail))
 go_cut [55] (fun v55 wc => ∃ (kq : Nat) (x55_13 : Bool), v55 = .bool x55_13 ∧ Aside0 (spec_l03Holds.j2 kq l1 x5_1 x55_13 a0_0 l0_1 = some r) ∧ Aside0 (kq ≤ kj6) ∧ Aside0 (wc.heap[b0]? = some (.cells #[.int .i16 a0_0, (.slice A0_1 l0_1.length c0_1)] 32 (0, 0))) ∧ Aside0 (Below w.heap.size w wc))
 case first => (
 have H := HC14.out
 clear HC14
 by_cases c15 : x5_1 > 0
 {
 rw [if_pos c15] at H
 have c15b0 : decide (0 < x5_1) = true := decide_eq_true c15
 clear c15
 (first | rw [c15b0] | (simp only [i64_w, i32_w]; rw [c15b0]) | skip)
 by_cases c16 : 0 ≤ x5_1
 {
 rw [if_pos c16] at H
 have c16b0 : decide (0 ≤ x5_1) = true := decide_eq_true c16
 clear c16
 by_cases c17 : x5_1 < (l1.length : Int)
 {
 rw [if_pos c17] at H
 have c17b0 : decide (x5_1 < (l1.length : Int)) = true := decide_eq_true c17
 clear c17
 obtain ⟨ji18, hji18⟩ : ∃ j_ : Int, (wrap64 (x5_1 - 1)) = j_ := ⟨_, rfl⟩
 first | rw [hji18] at H | simp only [hji18] at H
 have hji18w : (IntKind.i64.wrap (x5_1 - 1)) = ji18 := (i64_w _).trans hji18
 by_cases c19 : 0 ≤ (ji18)
 {
 rw [if_pos c19] at H
 have c19b0 : decide (0 ≤ (ji18)) = true := decide_eq_true c19
 clear c19
 by_cases c20 : (ji18) < (l1.length : Int)
 {
 rw [if_pos c20] at H
 have c20b0 : decide ((ji18) < (l1.length : Int)) = true := decide_eq_true c20
 clear c20
 have H' := ak H
 clear H
 have p378 : 0 ≤ (x5_1 : Int) := of_decide_eq_true (by first | (with_reducible assumption) | assumption)
 have q378 : x5_1 < (l1.length : Int) := of_decide_eq_true (by first | (with_reducible assumption) | assumption)
 obtain ⟨ad378, e378, hx378_0, hx378_1⟩ := at_T65 HR1.out x5_1 p378 q378
 cases e378
 replace hx378_0 := (HB.out.cell (World.block_lt_of_cell? w _ hx378_0)).trans hx378_0
 replace hx378_1 := (HB.out.cell (World.block_lt_of_cell? w _ hx378_1)).trans hx378_1
 replace p378 := eq_true p378
 replace q378 := eq_true q378
 have p379 : 0 ≤ ((ji18) : Int) := of_decide_eq_true (by first | (with_reducible assumption) | assumption)
 have q379 : (ji18) < (l1.length : Int) := of_decide_eq_true (by first | (with_reducible assumption) | assumption)
 obtain ⟨ad379, e379, hx379_0, hx379_1⟩ := at_T65 HR1.out (ji18) p379 q379
 obtain rfl : ad378 = ad379 := (by injection e379)
 replace hx379_0 := (HB.out.cell (World.block_lt_of_cell? w _ hx379_0)).trans hx379_0
 replace hx379_1 := (HB.out.cell (World.block_lt_of_cell? w _ hx379_1)).trans hx379_1
 replace p379 := eq_true p379
 replace q379 := eq_true q379
 go_wp2
 repeat (go_quiet (fail); try go_wp2)
 go_meet
 case rel => exact ⟨_, (decide (((rd_T65 l1 x5_1).f1) ≤ ((rd_T65 l1 (ji18)).f1))), (by first | rfl | (simp; done) | (simp only [← hji18] <;> (first | rfl | simp)) | (simp [*]; done)), H', ⟨by have := HK1.out; have := HJ6.out; first | omega | exact Nat.le_refl _⟩, ⟨(zK BK0.out)⟩, ⟨zB HB.out⟩⟩
 }
 · rw [if_neg c20] at H; exact absurd H (by simp)
 }
 · rw [if_neg c19] at H; exact absurd H (by simp)
 }
 · rw [if_neg c17] at H; exact absurd H (by simp)
 }
 · rw [if_neg c16] at H; exact absurd H (by simp)
 }
 {
 rw [if_neg c15] at H
 have c15b0 : decide (0 < x5_1) = false := decide_eq_false c15
 clear c15
 (first | rw [c15b0] | (simp only [i64_w, i32_w]; rw [c15b0]) | skip)
 have H' := ak H
 clear H
 go_wp2
 repeat (go_quiet (fail); try go_wp2)
 go_meet
 case rel => exact ⟨_, (false), (by first | rfl | (simp; done) | (simp [*]; done)), H', ⟨by have := HK1.out; have := HJ6.out; first | omega | exact Nat.le_refl _⟩, ⟨(zK BK0.out)⟩, ⟨zB HB.out⟩⟩
 }
 )
 case rest => (
 clear HC14
 try clear c1
 try clear c4
 try clear c6
 try clear c6b0
 try clear c13
 obtain ⟨kq, x55_13, rfl, HA, HJ13, BK0, HB⟩ := hcut
 cases kq with
 | zero => exact absurd HA.out (by simp [spec_l03Holds.j2])
 | succ kj13 => (
 have H := HA.out
 clear HA
 simp only [spec_l03Holds.j2] at H
 by_cases c21 : x55_13 = true
 {
 subst c21
 rw [if_pos rfl] at H
 obtain rfl := Option.some.inj H
 go_wp2
 repeat (go_quiet (fail); try go_wp2)
 go_ret
 exact ⟨by first | rfl | (simp [errW_none, errW_some] <;> rfl) | (simp [*, errW_none, errW_some] <;> rfl), zB HB.out⟩
 }
 {
 replace c21 := Bool.eq_false_iff.mpr c21
 subst c21
 rw [if_neg (show ¬ (false = true) by decide)] at H
 have H' := ak H
 clear H
 go_wp2
 repeat (go_quiet (fail); try go_wp2)
 go_loopg [6] kj13 (fun kq v6 w' => ∃ (x6_4 : Int), v6 = .int .i64 x6_4 ∧ Aside0 (spec_l03Holds.l1 kq l1 x5_1 x6_4 a0_0 l0_1 = some r) ∧ Aside0 (kq ≤ kj13) ∧ Aside0 (w'.heap[b0]? = some (.cells #[.int .i16 a0_0, (.slice A0_1 l0_1.length c0_1)] 32 (0, 0))) ∧ Aside0 (Below w.heap.size w w'))
 case atStart => exact ⟨(0), (by first | rfl | (simp; done) | (simp [*]; done)), H', ⟨Nat.le_refl _⟩, ⟨(zK BK0.out)⟩, ⟨zB HB.out⟩⟩
 case round => (
 clear H'
 try clear c1
 try clear c4
 try clear c6
 try clear c6b0
 try clear c13
 try clear c21
 obtain ⟨x6_4, rfl, HA, HK4, BK0, HB⟩ := hrel
 cases gk with
 | zero => exact absurd HA.out (by simp [spec_l03Holds.l1])
 | succ k4 => (
 have H := HA.out
 clear HA
 simp only [spec_l03Holds.l1] at H
 by_cases c22 : x6_4 < x5_1
 {
 rw [if_pos c22] at H
 have c22b0 : decide (x6_4 < x5_1) = true := decide_eq_true c22
 clear c22
 by_cases c23 : 0 ≤ x6_4
 {
 rw [if_pos c23] at H
 have c23b0 : decide (0 ≤ x6_4) = true := decide_eq_true c23
 clear c23
 by_cases c24 : x6_4 < (l1.length : Int)
 {
 rw [if_pos c24] at H
 have c24b0 : decide (x6_4 < (l1.length : Int)) = true := decide_eq_true c24
 clear c24
 by_cases c25 : 0 ≤ x5_1
 {
 rw [if_pos c25] at H
 have c25b0 : decide (0 ≤ x5_1) = true := decide_eq_true c25
 clear c25
 by_cases c26 : x5_1 < (l1.length : Int)
 {
 rw [if_pos c26] at H
 have c26b0 : decide (x5_1 < (l1.length : Int)) = true := decide_eq_true c26
 clear c26
 by_cases c27 : ((rd_T65 l1 x6_4).f0) = ((rd_T65 l1 x5_1).f0)
 {
 rw [if_pos c27] at H
 have c27b0 : (((rd_T65 l1 x6_4).f0) == ((rd_T65 l1 x5_1).f0)) = true := beq_iff_eq.mpr c27
 have c27b1 : (((rd_T65 l1 x6_4).f0) != ((rd_T65 l1 x5_1).f0)) = false := bne_eq_false_iff_eq.mpr c27
 clear c27
 obtain rfl := Option.some.inj H
 have p380 : 0 ≤ (x6_4 : Int) := of_decide_eq_true (by first | (with_reducible assumption) | assumption)
 have q380 : x6_4 < (l1.length : Int) := of_decide_eq_true (by first | (with_reducible assumption) | assumption)
 obtain ⟨ad380, e380, hx380_0, hx380_1⟩ := at_T65 HR1.out x6_4 p380 q380
 cases e380
 replace hx380_0 := (HB.out.cell (World.block_lt_of_cell? w _ hx380_0)).trans hx380_0
 replace hx380_1 := (HB.out.cell (World.block_lt_of_cell? w _ hx380_1)).trans hx380_1
 replace p380 := eq_true p380
 replace q380 := eq_true q380
 have p381 : 0 ≤ (x5_1 : Int) := of_decide_eq_true (by first | (with_reducible assumption) | assumption)
 have q381 : x5_1 < (l1.length : Int) := of_decide_eq_true (by first | (with_reducible assumption) | assumption)
 obtain ⟨ad381, e381, hx381_0, hx381_1⟩ := at_T65 HR1.out x5_1 p381 q381
 obtain rfl : ad380 = ad381 := (by injection e381)
 replace hx381_0 := (HB.out.cell (World.block_lt_of_cell? w _ hx381_0)).trans hx381_0
 replace hx381_1 := (HB.out.cell (World.block_lt_of_cell? w _ hx381_1)).trans hx381_1
 replace p381 := eq_true p381
 replace q381 := eq_true q381
 go_wp2
 repeat (go_quiet (fail); try go_wp2)
 go_ret
 exact ⟨by first | rfl | (simp [errW_none, errW_some] <;> rfl) | (simp [*, errW_none, errW_some] <;> rfl), zB HB.out⟩
 }
 {
 rw [if_neg c27] at H
 have c27b0 : (((rd_T65 l1 x6_4).f0) == ((rd_T65 l1 x5_1).f0)) = false := beq_eq_false_iff_ne.mpr c27
 have c27b1 : (((rd_T65 l1 x6_4).f0) != ((rd_T65 l1 x5_1).f0)) = true := bne_iff_ne.mpr c27
 have H' := ak H
 clear H
 have p380 : 0 ≤ (x6_4 : Int) := of_decide_eq_true (by first | (with_reducible assumption) | assumption)
 have q380 : x6_4 < (l1.length : Int) := of_decide_eq_true (by first | (with_reducible assumption) | assumption)
 obtain ⟨ad380, e380, hx380_0, hx380_1⟩ := at_T65 HR1.out x6_4 p380 q380
 cases e380
 replace hx380_0 := (HB.out.cell (World.block_lt_of_cell? w _ hx380_0)).trans hx380_0
 replace hx380_1 := (HB.out.cell (World.block_lt_of_cell? w _ hx380_1)).trans hx380_1
 replace p380 := eq_true p380
 replace q380 := eq_true q380
 have p381 : 0 ≤ (x5_1 : Int) := of_decide_eq_true (by first | (with_reducible assumption) | assumption)
 have q381 : x5_1 < (l1.length : Int) := of_decide_eq_true (by first | (with_reducible assumption) | assumption)
 obtain ⟨ad381, e381, hx381_0, hx381_1⟩ := at_T65 HR1.out x5_1 p381 q381
 obtain rfl : ad380 = ad381 := (by injection e381)
 replace hx381_0 := (HB.out.cell (World.block_lt_of_cell? w _ hx381_0)).trans hx381_0
 replace hx381_1 := (HB.out.cell (World.block_lt_of_cell? w _ hx381_1)).trans hx381_1
 replace p381 := eq_true p381
 replace q381 := eq_true q381
 go_wp2
 repeat (go_quiet (fail); try go_wp2)
 go_roundg k4
 case measure => have := HK1.out; have := HJ6.out; have := HJ13.out; have := HK4.out; omega
 case rel => exact ⟨(wrap64 (x6_4 + 1)), (by first | rfl | (simp; done) | (simp [*]; done)), H', ⟨by have := HK1.out; have := HJ6.out; have := HJ13.out; have := HK4.out; omega⟩, ⟨(zK BK0.out)⟩, ⟨zB HB.out⟩⟩
 }
 }
 · rw [if_neg c26] at H; exact absurd H (by simp)
 }
 · rw [if_neg c25] at H; exact absurd H (by simp)
 }
 · rw [if_neg c24] at H; exact absurd H (by simp)
 }
 · rw [if_neg c23] at H; exact absurd H (by simp)
 }
 {
 rw [if_neg c22] at H
 have c22b0 : decide (x6_4 < x5_1) = false := decide_eq_false c22
 clear c22
 have H' := ak H
 clear H
 go_wp2
 repeat (go_quiet (fail); try go_wp2)
 go_roundg k4
 case measure => have := HK1.out; have := HJ6.out; have := HJ13.out; have := HK4.out; omega
 case rel => exact ⟨(wrap64 (x5_1 + 1)), (by first | rfl | (simp; done) | (simp [*]; done)), H', ⟨by have := HK1.out; have := HJ6.out; have := HJ13.out; have := HK4.out; omega⟩, ⟨(zK BK0.out)⟩, ⟨zB HB.out⟩⟩
 }
 )
 )
 }
 )
 )
 }
 )
 )
 }
 {
 rw [if_neg c6] at H
 have c6b0 : decide (x5_1 < (l1.length : Int)) = false := decide_eq_false c6
 clear c6
 obtain rfl := Option.some.inj H
 go_wp2
 repeat (go_quiet (fail); try go_wp2)
 go_ret
 exact ⟨by first | rfl | (simp [errW_none, errW_some] <;> rfl) | (simp [*, errW_none, errW_some] <;> rfl), zB HB.out⟩
 }
 )
 )
 }
 {
 replace c4 := Bool.eq_false_iff.mpr c4
 subst c4
 rw [if_neg (show ¬ (false = true) by decide)] at H
 obtain rfl := Option.some.inj H
 go_enter Try.func69, Try.ntmps69
 go_wp2_with (first | (go_at_call 88; (with_reducible refine (spec_l03Ok.calls k b0 a0_0 A0_1 c0_1 l0_1 false _ ?side1 ?side2 ?side3 A3.out).mono ?_); (case side1 => exact sD HR0_1); (case side2 => exact HC0_1.out); (case side3 => exact (zK BK0.out)); rintro e w28 ⟨rfl, hb⟩; replace BK0 := kK BK0 hb; replace HB := kB HB hb; (try clear hb)))
 repeat (go_quiet (first | (go_at_call 88; (with_reducible refine (spec_l03Ok.calls k b0 a0_0 A0_1 c0_1 l0_1 false _ ?side1 ?side2 ?side3 A3.out).mono ?_); (case side1 => exact sQ HR0_1.out); (case side2 => exact HC0_1.out); (case side3 => exact (zK BK0.out)); rintro e w28 ⟨rfl, hb⟩; have n0_ := ak (blk_below (g := b0) (o := .cells #[.int .i16 a0_0, .slice A0_1 l0_1.length c0_1] 32 (0, 0)) (zK BK0.out) hb); have n1_ := ak (below_step (zB HB.out) hb); clear BK0 HB; have BK0 := n0_; have HB := n1_; clear n0_ n1_; (try clear hb); (try clear hb2); (try clear hk); (try clear hi))); try go_wp2_with (first | (go_at_call 88; (with_reducible refine (spec_l03Ok.calls k b0 a0_0 A0_1 c0_1 l0_1 false _ ?side1 ?side2 ?side3 A3.out).mono ?_); (case side1 => exact sD HR0_1); (case side2 => exact HC0_1.out); (case side3 => exact (zK BK0.out)); rintro e w28 ⟨rfl, hb⟩; replace BK0 := kK BK0 hb; replace HB := kB HB hb; (try clear hb))))
 go_ret
 exact ⟨by first | rfl | (simp [errW_none, errW_some] <;> rfl) | (simp [*, errW_none, errW_some] <;> rfl), zB HB.out⟩
 }
end Go.Proofs.Ytooidjdgfoioiaa.P
