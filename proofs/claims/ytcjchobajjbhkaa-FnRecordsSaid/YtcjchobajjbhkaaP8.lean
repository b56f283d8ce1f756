-- Printed by wip/print (my turned copy of the kit's print) out of the translation; Lean checks it.
import Derived.Test.YtcjchobajjbhkaaP0
import Derived.Test.YtcjchobajjbhkaaP1
import Derived.Test.YtcjchobajjbhkaaP3
import Derived.Test.YtcjchobajjbhkaaP4
namespace Go.Proofs.Ytcjchobajjbhkaa.P
open Go.RowKit Go.Proofs.YtcjchobajjbhkaaW.PrintWords Go.Proofs.YtcjchobajjbhkaaW.PrintLast Go.Proofs.YtcjchobajjbhkaaW.PrintMore
attribute [local go_sem] max2_int min2_int max_two min_two max_three min_three max_four min_four   -- for this text's walks alone
set_option linter.unusedVariables false
set_option linter.unusedSimpArgs false

attribute [local go_sem high] eqA44
/-! ### spec_FirstBackward: function 11 -/
mutual
def spec_FirstBackward.l0 : Nat → List (S44) → Int → Option (Int × Int)
  | 0, _, _ => none
  | k + 1, x8, x9 => if x9 < (x8.length : Int) then (spec_FirstBackward.l1 k x8 x9 0) else (some (0, 6))
def spec_FirstBackward.l1 : Nat → List (S44) → Int → Int → Option (Int × Int)
  | 0, _, _, _ => none
  | k + 1, x8, x9, x10 => if x10 < x9 then (if 0 ≤ x10 then (if x10 < (x8.length : Int) then (if 0 ≤ x9 then (if x9 < (x8.length : Int) then (if ((rd_T44 x8 x10).f0) = ((rd_T44 x8 x9).f0) then (if ((rd_T44 x8 x10).f1) > ((rd_T44 x8 x9).f1) then (some (x9, 0)) else (spec_FirstBackward.l1 k x8 x9 (wrap64 (x10 + 1)))) else (spec_FirstBackward.l1 k x8 x9 (wrap64 (x10 + 1)))) else (none)) else (none)) else (none)) else (none)) else (spec_FirstBackward.l0 k x8 (wrap64 (x9 + 1)))
end
def spec_FirstBackward.f (k : Nat) (a0 : Int) (a1 : Int) (l2 : List (S44)) : Option (Int × Int) := (spec_l05Records.f k a0 a1 l2).bind fun t272 => (if t272 = true then ((spec_l05Sorted.f k l2).bind fun t273 => (spec_FirstBackward.l0 k t273 0)) else (some (0, 1)))
theorem spec_FirstBackward.mono_l : ∀ k, (∀ y0 y1, LeO (spec_FirstBackward.l0 k y0 y1) (spec_FirstBackward.l0 (k + 1) y0 y1)) ∧ (∀ y0 y1 y2, LeO (spec_FirstBackward.l1 k y0 y1 y2) (spec_FirstBackward.l1 (k + 1) y0 y1 y2))
  | 0 => ⟨fun _ _ r h => by simp [spec_FirstBackward.l0] at h, fun _ _ _ r h => by simp [spec_FirstBackward.l1] at h⟩
  | k + 1 => by
    obtain ⟨ih0, ih1⟩ := spec_FirstBackward.mono_l k
    refine ⟨?_, ?_⟩
    · intro y0 y1
      unfold spec_FirstBackward.l0
      repeat' first
      | (with_reducible exact ih0 _ _)
      | (with_reducible exact ih1 _ _ _)
      | (with_reducible exact spec_l05Records.mono _ _ _ _)
      | (with_reducible exact spec_l05Sorted.mono _ _)
      | (with_reducible exact LeO.refl _)
      | (with_reducible exact LeO.none _)
      | (with_reducible refine LeO.ite ?_ ?_)
      | (with_reducible refine LeO.bind ?_ (fun _ => ?_))
      | exact ih0 _ _
      | exact ih1 _ _ _
      | exact spec_l05Records.mono _ _ _ _
      | exact spec_l05Sorted.mono _ _
      | exact LeO.none _
      | refine LeO.ite ?_ ?_
      | refine LeO.bind ?_ (fun _ => ?_)
    · intro y0 y1 y2
      unfold spec_FirstBackward.l1
      repeat' first
      | (with_reducible exact ih0 _ _)
      | (with_reducible exact ih1 _ _ _)
      | (with_reducible exact spec_l05Records.mono _ _ _ _)
      | (with_reducible exact spec_l05Sorted.mono _ _)
      | (with_reducible exact LeO.refl _)
      | (with_reducible exact LeO.none _)
      | (with_reducible refine LeO.ite ?_ ?_)
      | (with_reducible refine LeO.bind ?_ (fun _ => ?_))
      | exact ih0 _ _
      | exact ih1 _ _ _
      | exact spec_l05Records.mono _ _ _ _
      | exact spec_l05Sorted.mono _ _
      | exact LeO.none _
      | refine LeO.ite ?_ ?_
      | refine LeO.bind ?_ (fun _ => ?_)
theorem spec_FirstBackward.mono : ∀ a0 a1 a2 k, LeO (spec_FirstBackward.f k a0 a1 a2) (spec_FirstBackward.f (k + 1) a0 a1 a2) := by
  intro a0 a1 a2 k
  obtain ⟨ih0, ih1⟩ := spec_FirstBackward.mono_l k
  unfold spec_FirstBackward.f
  repeat' first
      | (with_reducible exact ih0 _ _)
      | (with_reducible exact ih1 _ _ _)
      | (with_reducible exact spec_l05Records.mono _ _ _ _)
      | (with_reducible exact spec_l05Sorted.mono _ _)
      | (with_reducible exact LeO.refl _)
      | (with_reducible exact LeO.none _)
      | (with_reducible refine LeO.ite ?_ ?_)
      | (with_reducible refine LeO.bind ?_ (fun _ => ?_))
      | exact ih0 _ _
      | exact ih1 _ _ _
      | exact spec_l05Records.mono _ _ _ _
      | exact spec_l05Sorted.mono _ _
      | exact LeO.none _
      | refine LeO.ite ?_ ?_
      | refine LeO.bind ?_ (fun _ => ?_)
set_option maxHeartbeats 8000000 in
set_option maxRecDepth 100000 in
theorem spec_FirstBackward.calls (k : Nat) (a0 : Int) (a1 : Int) (A2 : Option Addr) (c2 : Nat) (l2 : List (S44)) (r1 : Int) (r2 : Int) (w : World) (hr2 : Kd.C k44 w A2 l2.length l2) (hc2 : l2.length ≤ c2) (h : spec_FirstBackward.f k a0 a1 l2 = some (r1, r2)) :
    Calls Try.prog 11 #[.int .i64 a0, .int .i64 a1, .slice A2 l2.length c2] w fun e w' => e = .returned (.tuple #[.int .i64 r1, .int .i64 r2]) ∧ Below w.heap.size w w' := by
 have HR2 := ak hr2
 have HC2 := ak hc2
 clear hr2 hc2
 have HB := ak (Below.refl w.heap.size w)
 have H : ((spec_l05Records.f k a0 a1 l2).bind fun t272 => (if t272 = true then ((spec_l05Sorted.f k l2).bind fun t273 => (spec_FirstBackward.l0 k t273 0)) else (some (0, 1)))) = some (r1, r2) := h
 clear h
 replace H := Option.bind_eq_some_iff.mp H
 obtain ⟨t272, A40, H⟩ := H
 replace H : (if t272 = true then ((spec_l05Sorted.f k l2).bind fun t273 => (spec_FirstBackward.l0 k t273 0)) else (some (0, 1))) = some (r1, r2) := H
 have A4 := ak A40
 clear A40
 by_cases c5 : t272 = true
 {
 subst c5
 have H1 : ((spec_l05Sorted.f k l2).bind fun t273 => (spec_FirstBackward.l0 k t273 0)) = some (r1, r2) := by rw [if_pos rfl] at H; exact H
 clear H
 have H := H1
 clear H1
 replace H := Option.bind_eq_some_iff.mp H
 obtain ⟨t273, A60, H⟩ := H
 replace H : (spec_FirstBackward.l0 k t273 0) = some (r1, r2) := H
 have A6 := ak A60
 clear A60
 have H' := ak H
 clear H
 go_enter Try.func11, Try.ntmps11
 go_wp2_with (first | (go_at_call 25; (with_reducible refine (spec_l05Records.calls k a0 a1 _ _ l2 true _ ?side1 ?side2 A4.out).mono ?_); (case side1 => repeat (first | exact HR2.out | (with_reducible refine Kd.C_alloc ?_ _) | (with_reducible refine Kd.C_drewN ?_ _) | (with_reducible refine Kd.C_drew ?_))); (case side2 => exact HC2.out); rintro e w7 ⟨rfl, hb⟩; have n0_ := ak (below_step (zB HB.out) hb); clear HB; have HB := n0_; clear n0_; (try clear hb); (try clear hb2); (try clear hk); (try clear hi)) | (go_at_call 26; (with_reducible refine (spec_l05Sorted.calls k _ _ l2 t273 _ ?side1 ?side2 A6.out).mono ?_); (case side1 => repeat (first | exact (Kd.C_below HR2.out HB.out) | (with_reducible refine Kd.C_alloc ?_ _) | (with_reducible refine Kd.C_drewN ?_ _) | (with_reducible refine Kd.C_drew ?_))); (case side2 => exact HC2.out); rintro e w8 ⟨v274, rfl, ho0, hb⟩; have n0_ := ak (Kd.R_lower ho0 (below_size (zB HB.out))); have n1_ := ak (below_step (zB HB.out) hb); clear HB; have HO275 := n0_; have HB := n1_; clear n0_ n1_; (try clear hb); (try clear hb2); (try clear hk); (try clear hi); (try clear ho0)))
 repeat (go_quiet (first | (go_at_call 25; (with_reducible refine (spec_l05Records.calls k a0 a1 _ _ l2 true _ ?side1 ?side2 A4.out).mono ?_); (case side1 => repeat (first | exact HR2.out | (with_reducible refine Kd.C_alloc ?_ _) | (with_reducible refine Kd.C_drewN ?_ _) | (with_reducible refine Kd.C_drew ?_))); (case side2 => exact HC2.out); rintro e w7 ⟨rfl, hb⟩; have n0_ := ak (below_step (zB HB.out) hb); clear HB; have HB := n0_; clear n0_; (try clear hb); (try clear hb2); (try clear hk); (try clear hi)) | (go_at_call 26; (with_reducible refine (spec_l05Sorted.calls k _ _ l2 t273 _ ?side1 ?side2 A6.out).mono ?_); (case side1 => repeat (first | exact (Kd.C_below HR2.out HB.out) | (with_reducible refine Kd.C_alloc ?_ _) | (with_reducible refine Kd.C_drewN ?_ _) | (with_reducible refine Kd.C_drew ?_))); (case side2 => exact HC2.out); rintro e w8 ⟨v274, rfl, ho0, hb⟩; have n0_ := ak (Kd.R_lower ho0 (below_size (zB HB.out))); have n1_ := ak (below_step (zB HB.out) hb); clear HB; have HO275 := n0_; have HB := n1_; clear n0_ n1_; (try clear hb); (try clear hb2); (try clear hk); (try clear hi); (try clear ho0))); try go_wp2_with (first | (go_at_call 25; (with_reducible refine (spec_l05Records.calls k a0 a1 _ _ l2 true _ ?side1 ?side2 A4.out).mono ?_); (case side1 => repeat (first | exact HR2.out | (with_reducible refine Kd.C_alloc ?_ _) | (with_reducible refine Kd.C_drewN ?_ _) | (with_reducible refine Kd.C_drew ?_))); (case side2 => exact HC2.out); rintro e w7 ⟨rfl, hb⟩; have n0_ := ak (below_step (zB HB.out) hb); clear HB; have HB := n0_; clear n0_; (try clear hb); (try clear hb2); (try clear hk); (try clear hi)) | (go_at_call 26; (with_reducible refine (spec_l05Sorted.calls k _ _ l2 t273 _ ?side1 ?side2 A6.out).mono ?_); (case side1 => repeat (first | exact (Kd.C_below HR2.out HB.out) | (with_reducible refine Kd.C_alloc ?_ _) | (with_reducible refine Kd.C_drewN ?_ _) | (with_reducible refine Kd.C_drew ?_))); (case side2 => exact HC2.out); rintro e w8 ⟨v274, rfl, ho0, hb⟩; have n0_ := ak (Kd.R_lower ho0 (below_size (zB HB.out))); have n1_ := ak (below_step (zB HB.out) hb); clear HB; have HO275 := n0_; have HB := n1_; clear n0_ n1_; (try clear hb); (try clear hb2); (try clear hk); (try clear hi); (try clear ho0))))
 go_loopg [9] k (fun kq v9 w' => ∃ (x9_1 : Int), v9 = .int .i64 x9_1 ∧ Aside0 (spec_FirstBackward.l0 kq t273 x9_1 = some (r1, r2)) ∧ Aside0 (kq ≤ k) ∧ Aside0 (Kd.R k44 44 w' w.heap.size (fun _ => True) v274 t273) ∧ Aside0 (Below w.heap.size w w'))
 case atStart => exact ⟨(0), (by first | rfl | (simp; done) | (simp [*]; done)), H', ⟨Nat.le_refl _⟩, ⟨by (with_reducible repeat (first | apply Kd.R_alloc | apply Kd.R_drewN | apply Kd.R_drew)); exact HO275.out⟩, ⟨by repeat (first | (with_reducible first | exact HB.out | apply below_alloc | apply pw_below_drewN | apply below_drew1) | exact HB.out)⟩⟩
 case round => (
 clear H'
 try clear c1
 try clear c2
 try clear p2
 try clear c5
 obtain ⟨x9_1, rfl, HA, HK1, HO_8, HB⟩ := hrel
 cases gk with
 | zero => exact absurd HA.out (by simp [spec_FirstBackward.l0])
 | succ k1 => (
 have H := HA.out
 clear HA
 simp only [spec_FirstBackward.l0] at H
 by_cases c9 : x9_1 < (t273.length : Int)
 {
 rw [if_pos c9] at H
 have c9b0 : decide (x9_1 < (t273.length : Int)) = true := decide_eq_true c9
 clear c9
 have H' := ak H
 clear H
 obtain ⟨Ao10, co10, eo10⟩ := Kd.R_slice HO_8.out
 subst eo10
 go_wp2
 repeat (go_quiet (fail); try go_wp2)
 go_loopg [10] k1 (fun kq v10 w' => ∃ (x10_2 : Int), v10 = .int .i64 x10_2 ∧ Aside0 (spec_FirstBackward.l1 kq t273 x9_1 x10_2 = some (r1, r2)) ∧ Aside0 (kq ≤ k1) ∧ Aside0 (Kd.R k44 44 w' w.heap.size (fun _ => True) (.slice Ao10 t273.length co10) t273) ∧ Aside0 (Below w.heap.size w w'))
 case atStart => exact ⟨(0), (by first | rfl | (simp; done) | (simp [*]; done)), H', ⟨Nat.le_refl _⟩, ⟨by (with_reducible repeat (first | apply Kd.R_alloc | apply Kd.R_drewN | apply Kd.R_drew)); exact HO_8.out⟩, ⟨by repeat (first | (with_reducible first | exact HB.out | apply below_alloc | apply pw_below_drewN | apply below_drew1) | exact HB.out)⟩⟩
 case round => (
 clear H'
 try clear c1
 try clear c2
 try clear p2
 try clear c5
 try clear c9
 try clear c9b0
 try clear p2
 obtain ⟨x10_2, rfl, HA, HK2, HO_8, HB⟩ := hrel
 cases gk with
 | zero => exact absurd HA.out (by simp [spec_FirstBackward.l1])
 | succ k2 => (
 have H := HA.out
 clear HA
 simp only [spec_FirstBackward.l1] at H
 by_cases c11 : x10_2 < x9_1
 {
 rw [if_pos c11] at H
 have c11b0 : decide (x10_2 < x9_1) = true := decide_eq_true c11
 clear c11
 by_cases c12 : 0 ≤ x10_2
 {
 rw [if_pos c12] at H
 have c12b0 : decide (0 ≤ x10_2) = true := decide_eq_true c12
 clear c12
 by_cases c13 : x10_2 < (t273.length : Int)
 {
 rw [if_pos c13] at H
 have c13b0 : decide (x10_2 < (t273.length : Int)) = true := decide_eq_true c13
 clear c13
 by_cases c14 : 0 ≤ x9_1
 {
 rw [if_pos c14] at H
 have c14b0 : decide (0 ≤ x9_1) = true := decide_eq_true c14
 clear c14
 by_cases c15 : x9_1 < (t273.length : Int)
 {
 rw [if_pos c15] at H
 have c15b0 : decide (x9_1 < (t273.length : Int)) = true := decide_eq_true c15
 clear c15
 by_cases c16 : ((rd_T44 t273 x10_2).f0) = ((rd_T44 t273 x9_1).f0)
 {
 rw [if_pos c16] at H
 have c16b0 : (((rd_T44 t273 x10_2).f0) == ((rd_T44 t273 x9_1).f0)) = true := beq_iff_eq.mpr c16
 have c16b1 : (((rd_T44 t273 x10_2).f0) != ((rd_T44 t273 x9_1).f0)) = false := bne_eq_false_iff_eq.mpr c16
 clear c16
 by_cases c17 : ((rd_T44 t273 x10_2).f1) > ((rd_T44 t273 x9_1).f1)
 {
 rw [if_pos c17] at H
 have c17b0 : decide (((rd_T44 t273 x9_1).f1) < ((rd_T44 t273 x10_2).f1)) = true := decide_eq_true c17
 clear c17
 simp only [Option.some.injEq, Prod.mk.injEq] at H
 obtain ⟨rfl, rfl⟩ := H
 have p276 : 0 ≤ (x10_2 : Int) := of_decide_eq_true (by first | (with_reducible assumption) | assumption)
 have q276 : x10_2 < (t273.length : Int) := of_decide_eq_true (by first | (with_reducible assumption) | assumption)
 obtain ⟨ad276, e276, hx276_0, hx276_1, hx276_2⟩ := at_T44 (Kd.R_reads' HO_8.out).2.2 x10_2 p276 q276
 cases e276
 replace p276 := eq_true p276
 replace q276 := eq_true q276
 have p277 : 0 ≤ (x9_1 : Int) := of_decide_eq_true (by first | (with_reducible assumption) | assumption)
 have q277 : x9_1 < (t273.length : Int) := of_decide_eq_true (by first | (with_reducible assumption) | assumption)
 obtain ⟨ad277, e277, hx277_0, hx277_1, hx277_2⟩ := at_T44 (Kd.R_reads' HO_8.out).2.2 x9_1 p277 q277
 obtain rfl : ad276 = ad277 := (by injection e277)
 replace p277 := eq_true p277
 replace q277 := eq_true q277
 have p278 : 0 ≤ (x10_2 : Int) := of_decide_eq_true (by first | (with_reducible assumption) | assumption)
 have q278 : x10_2 < (t273.length : Int) := of_decide_eq_true (by first | (with_reducible assumption) | assumption)
 obtain ⟨ad278, e278, hx278_0, hx278_1, hx278_2⟩ := at_T44 (Kd.R_reads' HO_8.out).2.2 x10_2 p278 q278
 obtain rfl : ad276 = ad278 := (by injection e278)
 replace p278 := eq_true p278
 replace q278 := eq_true q278
 have p279 : 0 ≤ (x9_1 : Int) := of_decide_eq_true (by first | (with_reducible assumption) | assumption)
 have q279 : x9_1 < (t273.length : Int) := of_decide_eq_true (by first | (with_reducible assumption) | assumption)
 obtain ⟨ad279, e279, hx279_0, hx279_1, hx279_2⟩ := at_T44 (Kd.R_reads' HO_8.out).2.2 x9_1 p279 q279
 obtain rfl : ad276 = ad279 := (by injection e279)
 replace p279 := eq_true p279
 replace q279 := eq_true q279
 go_wp2
 repeat (go_quiet (fail); try go_wp2)
 go_ret2
 exact ⟨by first | rfl | (simp [errW_none, errW_some] <;> rfl) | (simp [*, errW_none, errW_some] <;> rfl), by repeat (first | (with_reducible first | exact HB.out | apply below_alloc | apply pw_below_drewN | apply below_drew1) | exact HB.out)⟩
 }
 {
 rw [if_neg c17] at H
 have c17b0 : decide (((rd_T44 t273 x9_1).f1) < ((rd_T44 t273 x10_2).f1)) = false := decide_eq_false c17
 clear c17
 have H' := ak H
 clear H
 have p276 : 0 ≤ (x10_2 : Int) := of_decide_eq_true (by first | (with_reducible assumption) | assumption)
 have q276 : x10_2 < (t273.length : Int) := of_decide_eq_true (by first | (with_reducible assumption) | assumption)
 obtain ⟨ad276, e276, hx276_0, hx276_1, hx276_2⟩ := at_T44 (Kd.R_reads' HO_8.out).2.2 x10_2 p276 q276
 cases e276
 replace p276 := eq_true p276
 replace q276 := eq_true q276
 have p277 : 0 ≤ (x9_1 : Int) := of_decide_eq_true (by first | (with_reducible assumption) | assumption)
 have q277 : x9_1 < (t273.length : Int) := of_decide_eq_true (by first | (with_reducible assumption) | assumption)
 obtain ⟨ad277, e277, hx277_0, hx277_1, hx277_2⟩ := at_T44 (Kd.R_reads' HO_8.out).2.2 x9_1 p277 q277
 obtain rfl : ad276 = ad277 := (by injection e277)
 replace p277 := eq_true p277
 replace q277 := eq_true q277
 have p278 : 0 ≤ (x10_2 : Int) := of_decide_eq_true (by first | (with_reducible assumption) | assumption)
 have q278 : x10_2 < (t273.length : Int) := of_decide_eq_true (by first | (with_reducible assumption) | assumption)
 obtain ⟨ad278, e278, hx278_0, hx278_1, hx278_2⟩ := at_T44 (Kd.R_reads' HO_8.out).2.2 x10_2 p278 q278
 obtain rfl : ad276 = ad278 := (by injection e278)
 replace p278 := eq_true p278
 replace q278 := eq_true q278
 have p279 : 0 ≤ (x9_1 : Int) := of_decide_eq_true (by first | (with_reducible assumption) | assumption)
 have q279 : x9_1 < (t273.length : Int) := of_decide_eq_true (by first | (with_reducible assumption) | assumption)
 obtain ⟨ad279, e279, hx279_0, hx279_1, hx279_2⟩ := at_T44 (Kd.R_reads' HO_8.out).2.2 x9_1 p279 q279
 obtain rfl : ad276 = ad279 := (by injection e279)
 replace p279 := eq_true p279
 replace q279 := eq_true q279
 go_wp2
 repeat (go_quiet (fail); try go_wp2)
 go_roundg k2
 case measure => have := HK1.out; have := HK2.out; omega
 case rel => exact ⟨(wrap64 (x10_2 + 1)), (by first | rfl | (simp; done) | (simp [*]; done)), H', ⟨by have := HK1.out; have := HK2.out; omega⟩, ⟨by (with_reducible repeat (first | apply Kd.R_alloc | apply Kd.R_drewN | apply Kd.R_drew)); exact HO_8.out⟩, ⟨by repeat (first | (with_reducible first | exact HB.out | apply below_alloc | apply pw_below_drewN | apply below_drew1) | exact HB.out)⟩⟩
 }
 }
 {
 rw [if_neg c16] at H
 have c16b0 : (((rd_T44 t273 x10_2).f0) == ((rd_T44 t273 x9_1).f0)) = false := beq_eq_false_iff_ne.mpr c16
 have c16b1 : (((rd_T44 t273 x10_2).f0) != ((rd_T44 t273 x9_1).f0)) = true := bne_iff_ne.mpr c16
 have H' := ak H
 clear H
 have p276 : 0 ≤ (x10_2 : Int) := of_decide_eq_true (by first | (with_reducible assumption) | assumption)
 have q276 : x10_2 < (t273.length : Int) := of_decide_eq_true (by first | (with_reducible assumption) | assumption)
 obtain ⟨ad276, e276, hx276_0, hx276_1, hx276_2⟩ := at_T44 (Kd.R_reads' HO_8.out).2.2 x10_2 p276 q276
 cases e276
 replace p276 := eq_true p276
 replace q276 := eq_true q276
 have p277 : 0 ≤ (x9_1 : Int) := of_decide_eq_true (by first | (with_reducible assumption) | assumption)
 have q277 : x9_1 < (t273.length : Int) := of_decide_eq_true (by first | (with_reducible assumption) | assumption)
 obtain ⟨ad277, e277, hx277_0, hx277_1, hx277_2⟩ := at_T44 (Kd.R_reads' HO_8.out).2.2 x9_1 p277 q277
 obtain rfl : ad276 = ad277 := (by injection e277)
 replace p277 := eq_true p277
 replace q277 := eq_true q277
 go_wp2
 repeat (go_quiet (fail); try go_wp2)
 go_roundg k2
 case measure => have := HK1.out; have := HK2.out; omega
 case rel => exact ⟨(wrap64 (x10_2 + 1)), (by first | rfl | (simp; done) | (simp [*]; done)), H', ⟨by have := HK1.out; have := HK2.out; omega⟩, ⟨by (with_reducible repeat (first | apply Kd.R_alloc | apply Kd.R_drewN | apply Kd.R_drew)); exact HO_8.out⟩, ⟨by repeat (first | (with_reducible first | exact HB.out | apply below_alloc | apply pw_below_drewN | apply below_drew1) | exact HB.out)⟩⟩
 }
 }
 · rw [if_neg c15] at H; exact absurd H (by simp)
 }
 · rw [if_neg c14] at H; exact absurd H (by simp)
 }
 · rw [if_neg c13] at H; exact absurd H (by simp)
 }
 · rw [if_neg c12] at H; exact absurd H (by simp)
 }
 {
 rw [if_neg c11] at H
 have c11b0 : decide (x10_2 < x9_1) = false := decide_eq_false c11
 clear c11
 have H' := ak H
 clear H
 go_wp2
 repeat (go_quiet (fail); try go_wp2)
 go_roundg k2
 case measure => have := HK1.out; have := HK2.out; omega
 case rel => exact ⟨(wrap64 (x9_1 + 1)), (by first | rfl | (simp; done) | (simp [*]; done)), H', ⟨by have := HK1.out; have := HK2.out; omega⟩, ⟨by (with_reducible repeat (first | apply Kd.R_alloc | apply Kd.R_drewN | apply Kd.R_drew)); exact HO_8.out⟩, ⟨by repeat (first | (with_reducible first | exact HB.out | apply below_alloc | apply pw_below_drewN | apply below_drew1) | exact HB.out)⟩⟩
 }
 )
 )
 }
 {
 rw [if_neg c9] at H
 have c9b0 : decide (x9_1 < (t273.length : Int)) = false := decide_eq_false c9
 clear c9
 simp only [Option.some.injEq, Prod.mk.injEq] at H
 obtain ⟨rfl, rfl⟩ := H
 obtain ⟨Ao18, co18, eo18⟩ := Kd.R_slice HO_8.out
 subst eo18
 go_wp2
 repeat (go_quiet (fail); try go_wp2)
 go_ret2
 exact ⟨by first | rfl | (simp [errW_none, errW_some] <;> rfl) | (simp [*, errW_none, errW_some] <;> rfl), by repeat (first | (with_reducible first | exact HB.out | apply below_alloc | apply pw_below_drewN | apply below_drew1) | exact HB.out)⟩
 }
 )
 )
 }
 {
 replace c5 := Bool.eq_false_iff.mpr c5
 subst c5
 have H1 : (some (0, 1)) = some (r1, r2) := by rw [if_neg (show ¬ (false = true) by decide)] at H; exact H
 clear H
 have H := H1
 clear H1
 simp only [Option.some.injEq, Prod.mk.injEq] at H
 obtain ⟨rfl, rfl⟩ := H
 go_enter Try.func11, Try.ntmps11
 go_wp2_with (first | (go_at_call 25; (with_reducible refine (spec_l05Records.calls k a0 a1 _ _ l2 false _ ?side1 ?side2 A4.out).mono ?_); (case side1 => repeat (first | exact HR2.out | (with_reducible refine Kd.C_alloc ?_ _) | (with_reducible refine Kd.C_drewN ?_ _) | (with_reducible refine Kd.C_drew ?_))); (case side2 => exact HC2.out); rintro e w19 ⟨rfl, hb⟩; have n0_ := ak (below_step (zB HB.out) hb); clear HB; have HB := n0_; clear n0_; (try clear hb); (try clear hb2); (try clear hk); (try clear hi)))
 repeat (go_quiet (first | (go_at_call 25; (with_reducible refine (spec_l05Records.calls k a0 a1 _ _ l2 false _ ?side1 ?side2 A4.out).mono ?_); (case side1 => repeat (first | exact HR2.out | (with_reducible refine Kd.C_alloc ?_ _) | (with_reducible refine Kd.C_drewN ?_ _) | (with_reducible refine Kd.C_drew ?_))); (case side2 => exact HC2.out); rintro e w19 ⟨rfl, hb⟩; have n0_ := ak (below_step (zB HB.out) hb); clear HB; have HB := n0_; clear n0_; (try clear hb); (try clear hb2); (try clear hk); (try clear hi))); try go_wp2_with (first | (go_at_call 25; (with_reducible refine (spec_l05Records.calls k a0 a1 _ _ l2 false _ ?side1 ?side2 A4.out).mono ?_); (case side1 => repeat (first | exact HR2.out | (with_reducible refine Kd.C_alloc ?_ _) | (with_reducible refine Kd.C_drewN ?_ _) | (with_reducible refine Kd.C_drew ?_))); (case side2 => exact HC2.out); rintro e w19 ⟨rfl, hb⟩; have n0_ := ak (below_step (zB HB.out) hb); clear HB; have HB := n0_; clear n0_; (try clear hb); (try clear hb2); (try clear hk); (try clear hi))))
 go_ret2
 exact ⟨by first | rfl | (simp [errW_none, errW_some] <;> rfl) | (simp [*, errW_none, errW_some] <;> rfl), by repeat (first | (with_reducible first | exact HB.out | apply below_alloc | apply pw_below_drewN | apply below_drew1) | exact HB.out)⟩
 }
/-! ### spec_A2SameRecords: function 12 -/
def spec_A2SameRecords.l0 : Nat → List (S44) → List (S44) → Int → Option (Bool)
  | 0, _, _, _ => none
  | k + 1, x0, x1, x5 => if x5 < (x0.length : Int) then (if 0 ≤ x5 then (if x5 < (x1.length : Int) then (if (!(((rd_T44 x0 x5).f0) == ((rd_T44 x1 x5).f0)) || (!(((rd_T44 x0 x5).f1) == ((rd_T44 x1 x5).f1)) || (!(((rd_T44 x0 x5).f2) == ((rd_T44 x1 x5).f2))))) = true then (some false) else (spec_A2SameRecords.l0 k x0 x1 (wrap64 (x5 + 1)))) else (none)) else (none)) else (some true)
def spec_A2SameRecords.f (k : Nat) (l0 : List (S44)) (l1 : List (S44)) : Option (Bool) := if (l0.length : Int) = (l1.length : Int) then (spec_A2SameRecords.l0 k l0 l1 0) else (some false)
theorem spec_A2SameRecords.mono_l : ∀ k, (∀ y0 y1 y2, LeO (spec_A2SameRecords.l0 k y0 y1 y2) (spec_A2SameRecords.l0 (k + 1) y0 y1 y2))
  | 0 => fun _ _ _ r h => by simp [spec_A2SameRecords.l0] at h
  | k + 1 => by
    have ih0 := spec_A2SameRecords.mono_l k
    · intro y0 y1 y2
      unfold spec_A2SameRecords.l0
      repeat' first
      | (with_reducible exact ih0 _ _ _)
      | (with_reducible exact LeO.refl _)
      | (with_reducible exact LeO.none _)
      | (with_reducible refine LeO.ite ?_ ?_)
      | (with_reducible refine LeO.bind ?_ (fun _ => ?_))
      | exact ih0 _ _ _
      | exact LeO.none _
      | refine LeO.ite ?_ ?_
      | refine LeO.bind ?_ (fun _ => ?_)
theorem spec_A2SameRecords.mono : ∀ a0 a1 k, LeO (spec_A2SameRecords.f k a0 a1) (spec_A2SameRecords.f (k + 1) a0 a1) := by
  intro a0 a1 k
  have ih0 := spec_A2SameRecords.mono_l k
  unfold spec_A2SameRecords.f
  repeat' first
      | (with_reducible exact ih0 _ _ _)
      | (with_reducible exact LeO.refl _)
      | (with_reducible exact LeO.none _)
      | (with_reducible refine LeO.ite ?_ ?_)
      | (with_reducible refine LeO.bind ?_ (fun _ => ?_))
      | exact ih0 _ _ _
      | exact LeO.none _
      | refine LeO.ite ?_ ?_
      | refine LeO.bind ?_ (fun _ => ?_)
set_option maxHeartbeats 8000000 in
set_option maxRecDepth 100000 in
theorem spec_A2SameRecords.calls (k : Nat) (A0 : Option Addr) (c0 : Nat) (l0 : List (S44)) (A1 : Option Addr) (c1 : Nat) (l1 : List (S44)) (r : Bool) (w : World) (hr0 : Kd.C k44 w A0 l0.length l0) (hc0 : l0.length ≤ c0) (hr1 : Kd.C k44 w A1 l1.length l1) (hc1 : l1.length ≤ c1) (h : spec_A2SameRecords.f k l0 l1 = some r) :
    Calls Try.prog 12 #[.slice A0 l0.length c0, .slice A1 l1.length c1] w fun e w' => e = .returned (.bool r) ∧ Drawn0 w w' := by
 have hu44 := Try.underlying44
 have HR0 := ak hr0
 have HC0 := ak hc0
 clear hr0 hc0
 have HR1 := ak hr1
 have HC1 := ak hc1
 clear hr1 hc1
 have H : (if (l0.length : Int) = (l1.length : Int) then (spec_A2SameRecords.l0 k l0 l1 0) else (some false)) = some r := h
 clear h
 by_cases c3 : (l0.length : Int) = (l1.length : Int)
 {
 rw [if_pos c3] at H
 have c3b0 : ((l0.length : Int) == (l1.length : Int)) = true := beq_iff_eq.mpr c3
 have c3b1 : ((l0.length : Int) != (l1.length : Int)) = false := bne_eq_false_iff_eq.mpr c3
 have c3b2 : (l0.length == l1.length) = true := by first | simpa using c3 | (simp at c3 ⊢; omega)
 clear c3
 have H' := ak H
 clear H
 go_enter Try.func12, Try.ntmps12
 go_wp2
 repeat (go_quiet (fail); try go_wp2)
 go_loopg [5] k (fun kq v5 w' => ∃ (x5_1 : Int), v5 = .int .i64 x5_1 ∧ Aside0 (spec_A2SameRecords.l0 kq l0 l1 x5_1 = some r) ∧ Aside0 (kq ≤ k) ∧ Drawn0 w w')
 case atStart => exact ⟨(0), (by first | rfl | (simp; done) | (simp [*]; done)), H', ⟨Nat.le_refl _⟩, by repeat (first | exact Drawn0.refl _ | apply Drawn0.step)⟩
 case round => (
 clear H'
 try clear c1
 try clear p2
 try clear c3
 try clear c3b0
 try clear c3b1
 try clear c3b2
 obtain ⟨x5_1, rfl, HA, HK1, ⟨m1, rfl⟩⟩ := hrel
 cases gk with
 | zero => exact absurd HA.out (by simp [spec_A2SameRecords.l0])
 | succ k1 => (
 have H := HA.out
 clear HA
 simp only [spec_A2SameRecords.l0] at H
 by_cases c4 : x5_1 < (l0.length : Int)
 {
 rw [if_pos c4] at H
 have c4b0 : decide (x5_1 < (l0.length : Int)) = true := decide_eq_true c4
 clear c4
 by_cases c5 : 0 ≤ x5_1
 {
 rw [if_pos c5] at H
 have c5b0 : decide (0 ≤ x5_1) = true := decide_eq_true c5
 clear c5
 by_cases c6 : x5_1 < (l1.length : Int)
 {
 rw [if_pos c6] at H
 have c6b0 : decide (x5_1 < (l1.length : Int)) = true := decide_eq_true c6
 clear c6
 by_cases c7 : (!(((rd_T44 l0 x5_1).f0) == ((rd_T44 l1 x5_1).f0)) || (!(((rd_T44 l0 x5_1).f1) == ((rd_T44 l1 x5_1).f1)) || (!(((rd_T44 l0 x5_1).f2) == ((rd_T44 l1 x5_1).f2))))) = true
 {
 rw [if_pos c7] at H
 have c7b0 : (!(((rd_T44 l0 x5_1).f0) == ((rd_T44 l1 x5_1).f0)) || (!(((rd_T44 l0 x5_1).f1) == ((rd_T44 l1 x5_1).f1)) || (!(((rd_T44 l0 x5_1).f2) == ((rd_T44 l1 x5_1).f2))))) = true := c7
 clear c7
 obtain rfl := Option.some.inj H
 have p280 : 0 ≤ (x5_1 : Int) := of_decide_eq_true (by first | (with_reducible assumption) | assumption)
 have q280 : x5_1 < (l0.length : Int) := of_decide_eq_true (by first | (with_reducible assumption) | assumption)
 obtain ⟨ad280, e280, hx280_0, hx280_1, hx280_2⟩ := at_T44 HR0.out x5_1 p280 q280
 cases e280
 replace p280 := eq_true p280
 replace q280 := eq_true q280
 have p281 : 0 ≤ (x5_1 : Int) := of_decide_eq_true (by first | (with_reducible assumption) | assumption)
 have q281 : x5_1 < (l1.length : Int) := of_decide_eq_true (by first | (with_reducible assumption) | assumption)
 obtain ⟨ad281, e281, hx281_0, hx281_1, hx281_2⟩ := at_T44 HR1.out x5_1 p281 q281
 cases e281
 replace p281 := eq_true p281
 replace q281 := eq_true q281
 go_wp2
 repeat (go_quiet (fail); try go_wp2)
 go_ret
 exact ⟨by first | rfl | (simp; done) | (simp [*]; done), by repeat (first | exact Drawn0.refl _ | apply Drawn0.step)⟩
 }
 {
 rw [if_neg c7] at H
 have c7b0 : (!(((rd_T44 l0 x5_1).f0) == ((rd_T44 l1 x5_1).f0)) || (!(((rd_T44 l0 x5_1).f1) == ((rd_T44 l1 x5_1).f1)) || (!(((rd_T44 l0 x5_1).f2) == ((rd_T44 l1 x5_1).f2))))) = false := by simpa using c7
 clear c7
 have H' := ak H
 clear H
 have p280 : 0 ≤ (x5_1 : Int) := of_decide_eq_true (by first | (with_reducible assumption) | assumption)
 have q280 : x5_1 < (l0.length : Int) := of_decide_eq_true (by first | (with_reducible assumption) | assumption)
 obtain ⟨ad280, e280, hx280_0, hx280_1, hx280_2⟩ := at_T44 HR0.out x5_1 p280 q280
 cases e280
 replace p280 := eq_true p280
 replace q280 := eq_true q280
 have p281 : 0 ≤ (x5_1 : Int) := of_decide_eq_true (by first | (with_reducible assumption) | assumption)
 have q281 : x5_1 < (l1.length : Int) := of_decide_eq_true (by first | (with_reducible assumption) | assumption)
 obtain ⟨ad281, e281, hx281_0, hx281_1, hx281_2⟩ := at_T44 HR1.out x5_1 p281 q281
 cases e281
 replace p281 := eq_true p281
 replace q281 := eq_true q281
 go_wp2
 repeat (go_quiet (fail); try go_wp2)
 go_roundg k1
 case measure => have := HK1.out; omega
 case rel => exact ⟨(wrap64 (x5_1 + 1)), (by first | rfl | (simp; done) | (simp [*]; done)), H', ⟨by have := HK1.out; omega⟩, by repeat (first | exact Drawn0.refl _ | apply Drawn0.step)⟩
 }
 }
 · rw [if_neg c6] at H; exact absurd H (by simp)
 }
 · rw [if_neg c5] at H; exact absurd H (by simp)
 }
 {
 rw [if_neg c4] at H
 have c4b0 : decide (x5_1 < (l0.length : Int)) = false := decide_eq_false c4
 clear c4
 obtain rfl := Option.some.inj H
 go_wp2
 repeat (go_quiet (fail); try go_wp2)
 go_ret
 exact ⟨by first | rfl | (simp; done) | (simp [*]; done), by repeat (first | exact Drawn0.refl _ | apply Drawn0.step)⟩
 }
 )
 )
 }
 {
 rw [if_neg c3] at H
 have c3b0 : ((l0.length : Int) == (l1.length : Int)) = false := beq_eq_false_iff_ne.mpr c3
 have c3b1 : ((l0.length : Int) != (l1.length : Int)) = true := bne_iff_ne.mpr c3
 have c3b2 : (l0.length == l1.length) = false := by first | simpa using c3 | (simp at c3 ⊢; omega)
 obtain rfl := Option.some.inj H
 go_enter Try.func12, Try.ntmps12
 go_wp2
 repeat (go_quiet (fail); try go_wp2)
 go_ret
 exact ⟨by first | rfl | (simp; done) | (simp [*]; done), by repeat (first | exact Drawn0.refl _ | apply Drawn0.step)⟩
 }
end Go.Proofs.Ytcjchobajjbhkaa.P
