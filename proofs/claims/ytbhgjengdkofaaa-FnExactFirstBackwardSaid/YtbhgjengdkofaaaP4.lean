-- Printed by wip/print (my turned copy of the kit's print) out of the translation; Lean checks it.
import Derived.Test.YtbhgjengdkofaaaP0
import Derived.Test.YtbhgjengdkofaaaP1
import Derived.Test.YtbhgjengdkofaaaP2
import Derived.Test.YtbhgjengdkofaaaP3
namespace Go.Proofs.Ytbhgjengdkofaaa.P
open Go.RowKit Go.Proofs.YtbhgjengdkofaaaW.PrintWords Go.Proofs.YtbhgjengdkofaaaW.PrintLast Go.Proofs.YtbhgjengdkofaaaW.PrintMore
attribute [local go_sem] max2_int min2_int max_two min_two max_three min_three max_four min_four   -- for this text's walks alone
set_option linter.unusedVariables false
set_option linter.unusedSimpArgs false

/-! ### spec_FirstBackward: function 12 -/
mutual
def spec_FirstBackward.l0 : Nat → List (S38) → Int → Option (Int × Int)
  | 0, _, _ => none
  | k + 1, x8, x9 => if x9 < (x8.length : Int) then (spec_FirstBackward.l1 k x8 x9 0) else (some (0, 6))
def spec_FirstBackward.l1 : Nat → List (S38) → Int → Int → Option (Int × Int)
  | 0, _, _, _ => none
  | k + 1, x8, x9, x10 => if x10 < x9 then (if 0 ≤ x10 then (if x10 < (x8.length : Int) then (if 0 ≤ x9 then (if x9 < (x8.length : Int) then (if ((rd_T38 x8 x10).f0) = ((rd_T38 x8 x9).f0) then (if ((rd_T38 x8 x10).f1) > ((rd_T38 x8 x9).f1) then (some (x9, 0)) else (spec_FirstBackward.l1 k x8 x9 (wrap64 (x10 + 1)))) else (spec_FirstBackward.l1 k x8 x9 (wrap64 (x10 + 1)))) else (none)) else (none)) else (none)) else (none)) else (spec_FirstBackward.l0 k x8 (wrap64 (x9 + 1)))
end
def spec_FirstBackward.f (k : Nat) (a0 : Int) (a1 : Int) (l2 : List (S38)) : Option (Int × Int) := (spec_l05Records.f k a0 a1 l2).bind fun t240 => (if t240 = true then ((spec_l05Sorted.f k l2).bind fun t241 => (spec_FirstBackward.l0 k t241 0)) else (some (0, 1)))
theorem spec_FirstBackward.mono_l : ∀ k, (∀ y0 y1, LeO (spec_FirstBackward.l0 k y0 y1) (spec_FirstBackward.l0 (k + 1) y0 y1)) ∧ (∀ y0 y1 y2, LeO (spec_FirstBackward.l1 k y0 y1 y2) (spec_FirstBackward.l1 (k + 1) y0 y1 y2))
  | 0 => ⟨fun _ _ r h => by simp [spec_FirstBackward.l0] at h, fun _ _ _ r h => by simp [spec_FirstBackward.l1] at h⟩
  | k + 1 => by
    obtain ⟨ih0, ih1⟩ := spec_FirstBackward.mono_l k
    refine ⟨?_, ?_⟩
    · intro y0 y1
      unfold spec_FirstBackward.l0
      repeat' first
      | (with_reducible exact ih0 _ _)
      | (with_reducible exact ih1 _ _ _)
      | (with_reducible exact spec_l05Records.mono _ _ _ _)
      | (with_reducible exact spec_l05Sorted.mono _ _)
      | (with_reducible exact LeO.refl _)
      | (with_reducible exact LeO.none _)
      | (with_reducible refine LeO.ite ?_ ?_)
      | (with_reducible refine LeO.bind ?_ (fun _ => ?_))
      | exact ih0 _ _
      | exact ih1 _ _ _
      | exact spec_l05Records.mono _ _ _ _
      | exact spec_l05Sorted.mono _ _
      | exact LeO.none _
      | refine LeO.ite ?_ ?_
      | refine LeO.bind ?_ (fun _ => ?_)
    · intro y0 y1 y2
      unfold spec_FirstBackward.l1
      repeat' first
      | (with_reducible exact ih0 _ _)
      | (with_reducible exact ih1 _ _ _)
      | (with_reducible exact spec_l05Records.mono _ _ _ _)
      | (with_reducible exact spec_l05Sorted.mono _ _)
      | (with_reducible exact LeO.refl _)
      | (with_reducible exact LeO.none _)
      | (with_reducible refine LeO.ite ?_ ?_)
      | (with_reducible refine LeO.bind ?_ (fun _ => ?_))
      | exact ih0 _ _
      | exact ih1 _ _ _
      | exact spec_l05Records.mono _ _ _ _
      | exact spec_l05Sorted.mono _ _
      | exact LeO.none _
      | refine LeO.ite ?_ ?_
      | refine LeO.bind ?_ (fun _ => ?_)
theorem spec_FirstBackward.mono : ∀ a0 a1 a2 k, LeO (spec_FirstBackward.f k a0 a1 a2) (spec_FirstBackward.f (k + 1) a0 a1 a2) := by
  intro a0 a1 a2 k
  obtain ⟨ih0, ih1⟩ := spec_FirstBackward.mono_l k
  unfold spec_FirstBackward.f
  repeat' first
      | (with_reducible exact ih0 _ _)
      | (with_reducible exact ih1 _ _ _)
      | (with_reducible exact spec_l05Records.mono _ _ _ _)
      | (with_reducible exact spec_l05Sorted.mono _ _)
      | (with_reducible exact LeO.refl _)
      | (with_reducible exact LeO.none _)
      | (with_reducible refine LeO.ite ?_ ?_)
      | (with_reducible refine LeO.bind ?_ (fun _ => ?_))
      | exact ih0 _ _
      | exact ih1 _ _ _
      | exact spec_l05Records.mono _ _ _ _
      | exact spec_l05Sorted.mono _ _
      | exact LeO.none _
      | refine LeO.ite ?_ ?_
      | refine LeO.bind ?_ (fun _ => ?_)
set_option maxHeartbeats 8000000 in
set_option maxRecDepth 100000 in
theorem spec_FirstBackward.calls (k : Nat) (a0 : Int) (a1 : Int) (A2 : Option Addr) (c2 : Nat) (l2 : List (S38)) (r1 : Int) (r2 : Int) (w : World) (hr2 : Kd.C k38 w A2 l2.length l2) (hc2 : l2.length ≤ c2) (h : spec_FirstBackward.f k a0 a1 l2 = some (r1, r2)) :
    Calls Try.prog 12 #[.int .i64 a0, .int .i64 a1, .slice A2 l2.length c2] w fun e w' => e = .returned (.tuple #[.int .i64 r1, .int .i64 r2]) ∧ Below w.heap.size w w' := by
  have HR2 := Aside0.mk hr2
  have HC2 := Aside0.mk hc2
  clear hr2 hc2
  have HB := Aside0.mk (Below.refl w.heap.size w)
  have H : ((spec_l05Records.f k a0 a1 l2).bind fun t240 => (if t240 = true then ((spec_l05Sorted.f k l2).bind fun t241 => (spec_FirstBackward.l0 k t241 0)) else (some (0, 1)))) = some (r1, r2) := h
  clear h
  replace H := Option.bind_eq_some_iff.mp H
  obtain ⟨t240, A40, H⟩ := H
  replace H : (if t240 = true then ((spec_l05Sorted.f k l2).bind fun t241 => (spec_FirstBackward.l0 k t241 0)) else (some (0, 1))) = some (r1, r2) := H
  have A4 := Aside0.mk A40
  clear A40
  by_cases c5 : t240 = true
  · subst c5
    have H1 : ((spec_l05Sorted.f k l2).bind fun t241 => (spec_FirstBackward.l0 k t241 0)) = some (r1, r2) := by rw [if_pos rfl] at H; exact H
    clear H
    have H := H1
    clear H1
    replace H := Option.bind_eq_some_iff.mp H
    obtain ⟨t241, A60, H⟩ := H
    replace H : (spec_FirstBackward.l0 k t241 0) = some (r1, r2) := H
    have A6 := Aside0.mk A60
    clear A60
    have H' := Aside0.mk H
    clear H
    go_enter Try.func12, Try.ntmps12
    go_wp2_with (first | (go_at_call 14; (with_reducible refine (spec_l05Records.calls k a0 a1 _ _ l2 true _ ?side1 ?side2 A4.out).mono ?_); (case side1 => repeat (first | exact HR2.out | (with_reducible refine Kd.C_alloc ?_ _) | (with_reducible refine Kd.C_drewN ?_ _) | (with_reducible refine Kd.C_drew ?_))); (case side2 => exact HC2.out); rintro e w7 ⟨rfl, hb⟩; have n0_ := Aside0.mk (below_step (by repeat (first | (with_reducible first | exact HB.out | apply below_alloc | apply pw_below_drewN | apply below_drew1) | exact HB.out)) hb); clear HB; have HB := n0_; clear n0_; (try clear hb); (try clear hb2); (try clear hk); (try clear hi)) | (go_at_call 15; (with_reducible refine (spec_l05Sorted.calls k _ _ l2 t241 _ ?side1 ?side2 A6.out).mono ?_); (case side1 => repeat (first | exact (Kd.C_below HR2.out HB.out) | (with_reducible refine Kd.C_alloc ?_ _) | (with_reducible refine Kd.C_drewN ?_ _) | (with_reducible refine Kd.C_drew ?_))); (case side2 => exact HC2.out); rintro e w8 ⟨v242, rfl, ho0, hb⟩; have n0_ := Aside0.mk (Kd.R_lower ho0 (below_size (by repeat (first | (with_reducible first | exact HB.out | apply below_alloc | apply pw_below_drewN | apply below_drew1) | exact HB.out)))); have n1_ := Aside0.mk (below_step (by repeat (first | (with_reducible first | exact HB.out | apply below_alloc | apply pw_below_drewN | apply below_drew1) | exact HB.out)) hb); clear HB; have HO243 := n0_; have HB := n1_; clear n0_ n1_; (try clear hb); (try clear hb2); (try clear hk); (try clear hi); (try clear ho0)))
    repeat (go_quiet (first | (go_at_call 14; (with_reducible refine (spec_l05Records.calls k a0 a1 _ _ l2 true _ ?side1 ?side2 A4.out).mono ?_); (case side1 => repeat (first | exact HR2.out | (with_reducible refine Kd.C_alloc ?_ _) | (with_reducible refine Kd.C_drewN ?_ _) | (with_reducible refine Kd.C_drew ?_))); (case side2 => exact HC2.out); rintro e w7 ⟨rfl, hb⟩; have n0_ := Aside0.mk (below_step (by repeat (first | (with_reducible first | exact HB.out | apply below_alloc | apply pw_below_drewN | apply below_drew1) | exact HB.out)) hb); clear HB; have HB := n0_; clear n0_; (try clear hb); (try clear hb2); (try clear hk); (try clear hi)) | (go_at_call 15; (with_reducible refine (spec_l05Sorted.calls k _ _ l2 t241 _ ?side1 ?side2 A6.out).mono ?_); (case side1 => repeat (first | exact (Kd.C_below HR2.out HB.out) | (with_reducible refine Kd.C_alloc ?_ _) | (with_reducible refine Kd.C_drewN ?_ _) | (with_reducible refine Kd.C_drew ?_))); (case side2 => exact HC2.out); rintro e w8 ⟨v242, rfl, ho0, hb⟩; have n0_ := Aside0.mk (Kd.R_lower ho0 (below_size (by repeat (first | (with_reducible first | exact HB.out | apply below_alloc | apply pw_below_drewN | apply below_drew1) | exact HB.out)))); have n1_ := Aside0.mk (below_step (by repeat (first | (with_reducible first | exact HB.out | apply below_alloc | apply pw_below_drewN | apply below_drew1) | exact HB.out)) hb); clear HB; have HO243 := n0_; have HB := n1_; clear n0_ n1_; (try clear hb); (try clear hb2); (try clear hk); (try clear hi); (try clear ho0))); try go_wp2_with (first | (go_at_call 14; (with_reducible refine (spec_l05Records.calls k a0 a1 _ _ l2 true _ ?side1 ?side2 A4.out).mono ?_); (case side1 => repeat (first | exact HR2.out | (with_reducible refine Kd.C_alloc ?_ _) | (with_reducible refine Kd.C_drewN ?_ _) | (with_reducible refine Kd.C_drew ?_))); (case side2 => exact HC2.out); rintro e w7 ⟨rfl, hb⟩; have n0_ := Aside0.mk (below_step (by repeat (first | (with_reducible first | exact HB.out | apply below_alloc | apply pw_below_drewN | apply below_drew1) | exact HB.out)) hb); clear HB; have HB := n0_; clear n0_; (try clear hb); (try clear hb2); (try clear hk); (try clear hi)) | (go_at_call 15; (with_reducible refine (spec_l05Sorted.calls k _ _ l2 t241 _ ?side1 ?side2 A6.out).mono ?_); (case side1 => repeat (first | exact (Kd.C_below HR2.out HB.out) | (with_reducible refine Kd.C_alloc ?_ _) | (with_reducible refine Kd.C_drewN ?_ _) | (with_reducible refine Kd.C_drew ?_))); (case side2 => exact HC2.out); rintro e w8 ⟨v242, rfl, ho0, hb⟩; have n0_ := Aside0.mk (Kd.R_lower ho0 (below_size (by repeat (first | (with_reducible first | exact HB.out | apply below_alloc | apply pw_below_drewN | apply below_drew1) | exact HB.out)))); have n1_ := Aside0.mk (below_step (by repeat (first | (with_reducible first | exact HB.out | apply below_alloc | apply pw_below_drewN | apply below_drew1) | exact HB.out)) hb); clear HB; have HO243 := n0_; have HB := n1_; clear n0_ n1_; (try clear hb); (try clear hb2); (try clear hk); (try clear hi); (try clear ho0))))
    go_loopg [9] k (fun kq v9 w' => ∃ (x9_1 : Int), v9 = .int .i64 x9_1 ∧ Aside0 (spec_FirstBackward.l0 kq t241 x9_1 = some (r1, r2)) ∧ Aside0 (kq ≤ k) ∧ Aside0 (Kd.R k38 38 w' w.heap.size (fun _ => True) v242 t241) ∧ Aside0 (Below w.heap.size w w'))
    case atStart => exact ⟨(0), (by first | rfl | (simp; done) | (simp [*]; done)), H', ⟨Nat.le_refl _⟩, ⟨by (with_reducible repeat (first | apply Kd.R_alloc | apply Kd.R_drewN | apply Kd.R_drew)); exact HO243.out⟩, ⟨by repeat (first | (with_reducible first | exact HB.out | apply below_alloc | apply pw_below_drewN | apply below_drew1) | exact HB.out)⟩⟩
    case round =>
      clear H'
      try clear c1
      try clear c2
      try clear p2
      try clear c5
      obtain ⟨x9_1, rfl, HA, HK1, HO_8, HB⟩ := hrel
      cases gk with
      | zero => exact absurd HA.out (by simp [spec_FirstBackward.l0])
      | succ k1 =>
        have H := HA.out
        clear HA
        simp only [spec_FirstBackward.l0] at H
        by_cases c9 : x9_1 < (t241.length : Int)
        · rw [if_pos c9] at H
          have c9b0 : decide (x9_1 < (t241.length : Int)) = true := decide_eq_true c9
          clear c9
          have H' := Aside0.mk H
          clear H
          obtain ⟨Ao10, co10, eo10⟩ := Kd.R_slice HO_8.out
          subst eo10
          go_wp2
          repeat (go_quiet (fail); try go_wp2)
          go_loopg [10] k1 (fun kq v10 w' => ∃ (x10_2 : Int), v10 = .int .i64 x10_2 ∧ Aside0 (spec_FirstBackward.l1 kq t241 x9_1 x10_2 = some (r1, r2)) ∧ Aside0 (kq ≤ k1) ∧ Aside0 (Kd.R k38 38 w' w.heap.size (fun _ => True) (.slice Ao10 t241.length co10) t241) ∧ Aside0 (Below w.heap.size w w'))
          case atStart => exact ⟨(0), (by first | rfl | (simp; done) | (simp [*]; done)), H', ⟨Nat.le_refl _⟩, ⟨by (with_reducible repeat (first | apply Kd.R_alloc | apply Kd.R_drewN | apply Kd.R_drew)); exact HO_8.out⟩, ⟨by repeat (first | (with_reducible first | exact HB.out | apply below_alloc | apply pw_below_drewN | apply below_drew1) | exact HB.out)⟩⟩
          case round =>
            clear H'
            try clear c1
            try clear c2
            try clear p2
            try clear c5
            try clear c9
            try clear c9b0
            try clear p2
            obtain ⟨x10_2, rfl, HA, HK2, HO_8, HB⟩ := hrel
            cases gk with
            | zero => exact absurd HA.out (by simp [spec_FirstBackward.l1])
            | succ k2 =>
              have H := HA.out
              clear HA
              simp only [spec_FirstBackward.l1] at H
              by_cases c11 : x10_2 < x9_1
              · rw [if_pos c11] at H
                have c11b0 : decide (x10_2 < x9_1) = true := decide_eq_true c11
                clear c11
                by_cases c12 : 0 ≤ x10_2
                · rw [if_pos c12] at H
                  have c12b0 : decide (0 ≤ x10_2) = true := decide_eq_true c12
                  clear c12
                  by_cases c13 : x10_2 < (t241.length : Int)
                  · rw [if_pos c13] at H
                    have c13b0 : decide (x10_2 < (t241.length : Int)) = true := decide_eq_true c13
                    clear c13
                    by_cases c14 : 0 ≤ x9_1
                    · rw [if_pos c14] at H
                      have c14b0 : decide (0 ≤ x9_1) = true := decide_eq_true c14
                      clear c14
                      by_cases c15 : x9_1 < (t241.length : Int)
                      · rw [if_pos c15] at H
                        have c15b0 : decide (x9_1 < (t241.length : Int)) = true := decide_eq_true c15
                        clear c15
                        by_cases c16 : ((rd_T38 t241 x10_2).f0) = ((rd_T38 t241 x9_1).f0)
                        · rw [if_pos c16] at H
                          have c16b0 : (((rd_T38 t241 x10_2).f0) == ((rd_T38 t241 x9_1).f0)) = true := beq_iff_eq.mpr c16
                          have c16b1 : (((rd_T38 t241 x10_2).f0) != ((rd_T38 t241 x9_1).f0)) = false := bne_eq_false_iff_eq.mpr c16
                          clear c16
                          by_cases c17 : ((rd_T38 t241 x10_2).f1) > ((rd_T38 t241 x9_1).f1)
                          · rw [if_pos c17] at H
                            have c17b0 : decide (((rd_T38 t241 x9_1).f1) < ((rd_T38 t241 x10_2).f1)) = true := decide_eq_true c17
                            clear c17
                            simp only [Option.some.injEq, Prod.mk.injEq] at H
                            obtain ⟨rfl, rfl⟩ := H
                            have p244 : 0 ≤ (x10_2 : Int) := of_decide_eq_true (by first | (with_reducible assumption) | assumption)
                            have q244 : x10_2 < (t241.length : Int) := of_decide_eq_true (by first | (with_reducible assumption) | assumption)
                            obtain ⟨ad244, e244, hx244_0, hx244_1, hx244_2⟩ := at_T38 (Kd.R_reads' HO_8.out).2.2 x10_2 p244 q244
                            cases e244
                            replace p244 := eq_true p244
                            replace q244 := eq_true q244
                            have p245 : 0 ≤ (x9_1 : Int) := of_decide_eq_true (by first | (with_reducible assumption) | assumption)
                            have q245 : x9_1 < (t241.length : Int) := of_decide_eq_true (by first | (with_reducible assumption) | assumption)
                            obtain ⟨ad245, e245, hx245_0, hx245_1, hx245_2⟩ := at_T38 (Kd.R_reads' HO_8.out).2.2 x9_1 p245 q245
                            obtain rfl : ad244 = ad245 := (by injection e245)
                            replace p245 := eq_true p245
                            replace q245 := eq_true q245
                            have p246 : 0 ≤ (x10_2 : Int) := of_decide_eq_true (by first | (with_reducible assumption) | assumption)
                            have q246 : x10_2 < (t241.length : Int) := of_decide_eq_true (by first | (with_reducible assumption) | assumption)
                            obtain ⟨ad246, e246, hx246_0, hx246_1, hx246_2⟩ := at_T38 (Kd.R_reads' HO_8.out).2.2 x10_2 p246 q246
                            obtain rfl : ad244 = ad246 := (by injection e246)
                            replace p246 := eq_true p246
                            replace q246 := eq_true q246
                            have p247 : 0 ≤ (x9_1 : Int) := of_decide_eq_true (by first | (with_reducible assumption) | assumption)
                            have q247 : x9_1 < (t241.length : Int) := of_decide_eq_true (by first | (with_reducible assumption) | assumption)
                            obtain ⟨ad247, e247, hx247_0, hx247_1, hx247_2⟩ := at_T38 (Kd.R_reads' HO_8.out).2.2 x9_1 p247 q247
                            obtain rfl : ad244 = ad247 := (by injection e247)
                            replace p247 := eq_true p247
                            replace q247 := eq_true q247
                            go_wp2
                            repeat (go_quiet (fail); try go_wp2)
                            go_ret2
                            exact ⟨by first | rfl | (simp [errW_none, errW_some] <;> rfl) | (simp [*, errW_none, errW_some] <;> rfl), by repeat (first | (with_reducible first | exact HB.out | apply below_alloc | apply pw_below_drewN | apply below_drew1) | exact HB.out)⟩
                          · rw [if_neg c17] at H
                            have c17b0 : decide (((rd_T38 t241 x9_1).f1) < ((rd_T38 t241 x10_2).f1)) = false := decide_eq_false c17
                            clear c17
                            have H' := Aside0.mk H
                            clear H
                            have p244 : 0 ≤ (x10_2 : Int) := of_decide_eq_true (by first | (with_reducible assumption) | assumption)
                            have q244 : x10_2 < (t241.length : Int) := of_decide_eq_true (by first | (with_reducible assumption) | assumption)
                            obtain ⟨ad244, e244, hx244_0, hx244_1, hx244_2⟩ := at_T38 (Kd.R_reads' HO_8.out).2.2 x10_2 p244 q244
                            cases e244
                            replace p244 := eq_true p244
                            replace q244 := eq_true q244
                            have p245 : 0 ≤ (x9_1 : Int) := of_decide_eq_true (by first | (with_reducible assumption) | assumption)
                            have q245 : x9_1 < (t241.length : Int) := of_decide_eq_true (by first | (with_reducible assumption) | assumption)
                            obtain ⟨ad245, e245, hx245_0, hx245_1, hx245_2⟩ := at_T38 (Kd.R_reads' HO_8.out).2.2 x9_1 p245 q245
                            obtain rfl : ad244 = ad245 := (by injection e245)
                            replace p245 := eq_true p245
                            replace q245 := eq_true q245
                            have p246 : 0 ≤ (x10_2 : Int) := of_decide_eq_true (by first | (with_reducible assumption) | assumption)
                            have q246 : x10_2 < (t241.length : Int) := of_decide_eq_true (by first | (with_reducible assumption) | assumption)
                            obtain ⟨ad246, e246, hx246_0, hx246_1, hx246_2⟩ := at_T38 (Kd.R_reads' HO_8.out).2.2 x10_2 p246 q246
                            obtain rfl : ad244 = ad246 := (by injection e246)
                            replace p246 := eq_true p246
                            replace q246 := eq_true q246
                            have p247 : 0 ≤ (x9_1 : Int) := of_decide_eq_true (by first | (with_reducible assumption) | assumption)
                            have q247 : x9_1 < (t241.length : Int) := of_decide_eq_true (by first | (with_reducible assumption) | assumption)
                            obtain ⟨ad247, e247, hx247_0, hx247_1, hx247_2⟩ := at_T38 (Kd.R_reads' HO_8.out).2.2 x9_1 p247 q247
                            obtain rfl : ad244 = ad247 := (by injection e247)
                            replace p247 := eq_true p247
                            replace q247 := eq_true q247
                            go_wp2
                            repeat (go_quiet (fail); try go_wp2)
                            go_roundg k2
                            case measure => have := HK1.out; have := HK2.out; omega
                            case rel => exact ⟨(wrap64 (x10_2 + 1)), (by first | rfl | (simp; done) | (simp [*]; done)), H', ⟨by have := HK1.out; have := HK2.out; omega⟩, ⟨by (with_reducible repeat (first | apply Kd.R_alloc | apply Kd.R_drewN | apply Kd.R_drew)); exact HO_8.out⟩, ⟨by repeat (first | (with_reducible first | exact HB.out | apply below_alloc | apply pw_below_drewN | apply below_drew1) | exact HB.out)⟩⟩
                        · rw [if_neg c16] at H
                          have c16b0 : (((rd_T38 t241 x10_2).f0) == ((rd_T38 t241 x9_1).f0)) = false := beq_eq_false_iff_ne.mpr c16
                          have c16b1 : (((rd_T38 t241 x10_2).f0) != ((rd_T38 t241 x9_1).f0)) = true := bne_iff_ne.mpr c16
                          have H' := Aside0.mk H
                          clear H
                          have p244 : 0 ≤ (x10_2 : Int) := of_decide_eq_true (by first | (with_reducible assumption) | assumption)
                          have q244 : x10_2 < (t241.length : Int) := of_decide_eq_true (by first | (with_reducible assumption) | assumption)
                          obtain ⟨ad244, e244, hx244_0, hx244_1, hx244_2⟩ := at_T38 (Kd.R_reads' HO_8.out).2.2 x10_2 p244 q244
                          cases e244
                          replace p244 := eq_true p244
                          replace q244 := eq_true q244
                          have p245 : 0 ≤ (x9_1 : Int) := of_decide_eq_true (by first | (with_reducible assumption) | assumption)
                          have q245 : x9_1 < (t241.length : Int) := of_decide_eq_true (by first | (with_reducible assumption) | assumption)
                          obtain ⟨ad245, e245, hx245_0, hx245_1, hx245_2⟩ := at_T38 (Kd.R_reads' HO_8.out).2.2 x9_1 p245 q245
                          obtain rfl : ad244 = ad245 := (by injection e245)
                          replace p245 := eq_true p245
                          replace q245 := eq_true q245
                          go_wp2
                          repeat (go_quiet (fail); try go_wp2)
                          go_roundg k2
                          case measure => have := HK1.out; have := HK2.out; omega
                          case rel => exact ⟨(wrap64 (x10_2 + 1)), (by first | rfl | (simp; done) | (simp [*]; done)), H', ⟨by have := HK1.out; have := HK2.out; omega⟩, ⟨by (with_reducible repeat (first | apply Kd.R_alloc | apply Kd.R_drewN | apply Kd.R_drew)); exact HO_8.out⟩, ⟨by repeat (first | (with_reducible first | exact HB.out | apply below_alloc | apply pw_below_drewN | apply below_drew1) | exact HB.out)⟩⟩
                      · rw [if_neg c15] at H
                        exact absurd H (by simp)
                    · rw [if_neg c14] at H
                      exact absurd H (by simp)
                  · rw [if_neg c13] at H
                    exact absurd H (by simp)
                · rw [if_neg c12] at H
                  exact absurd H (by simp)
              · rw [if_neg c11] at H
                have c11b0 : decide (x10_2 < x9_1) = false := decide_eq_false c11
                clear c11
                have H' := Aside0.mk H
                clear H
                go_wp2
                repeat (go_quiet (fail); try go_wp2)
                go_roundg k2
                case measure => have := HK1.out; have := HK2.out; omega
                case rel => exact ⟨(wrap64 (x9_1 + 1)), (by first | rfl | (simp; done) | (simp [*]; done)), H', ⟨by have := HK1.out; have := HK2.out; omega⟩, ⟨by (with_reducible repeat (first | apply Kd.R_alloc | apply Kd.R_drewN | apply Kd.R_drew)); exact HO_8.out⟩, ⟨by repeat (first | (with_reducible first | exact HB.out | apply below_alloc | apply pw_below_drewN | apply below_drew1) | exact HB.out)⟩⟩
        · rw [if_neg c9] at H
          have c9b0 : decide (x9_1 < (t241.length : Int)) = false := decide_eq_false c9
          clear c9
          simp only [Option.some.injEq, Prod.mk.injEq] at H
          obtain ⟨rfl, rfl⟩ := H
          obtain ⟨Ao18, co18, eo18⟩ := Kd.R_slice HO_8.out
          subst eo18
          go_wp2
          repeat (go_quiet (fail); try go_wp2)
          go_ret2
          exact ⟨by first | rfl | (simp [errW_none, errW_some] <;> rfl) | (simp [*, errW_none, errW_some] <;> rfl), by repeat (first | (with_reducible first | exact HB.out | apply below_alloc | apply pw_below_drewN | apply below_drew1) | exact HB.out)⟩
  · replace c5 := Bool.eq_false_iff.mpr c5
    subst c5
    have H1 : (some (0, 1)) = some (r1, r2) := by rw [if_neg (show ¬ (false = true) by decide)] at H; exact H
    clear H
    have H := H1
    clear H1
    simp only [Option.some.injEq, Prod.mk.injEq] at H
    obtain ⟨rfl, rfl⟩ := H
    go_enter Try.func12, Try.ntmps12
    go_wp2_with (first | (go_at_call 14; (with_reducible refine (spec_l05Records.calls k a0 a1 _ _ l2 false _ ?side1 ?side2 A4.out).mono ?_); (case side1 => repeat (first | exact HR2.out | (with_reducible refine Kd.C_alloc ?_ _) | (with_reducible refine Kd.C_drewN ?_ _) | (with_reducible refine Kd.C_drew ?_))); (case side2 => exact HC2.out); rintro e w19 ⟨rfl, hb⟩; have n0_ := Aside0.mk (below_step (by repeat (first | (with_reducible first | exact HB.out | apply below_alloc | apply pw_below_drewN | apply below_drew1) | exact HB.out)) hb); clear HB; have HB := n0_; clear n0_; (try clear hb); (try clear hb2); (try clear hk); (try clear hi)))
    repeat (go_quiet (first | (go_at_call 14; (with_reducible refine (spec_l05Records.calls k a0 a1 _ _ l2 false _ ?side1 ?side2 A4.out).mono ?_); (case side1 => repeat (first | exact HR2.out | (with_reducible refine Kd.C_alloc ?_ _) | (with_reducible refine Kd.C_drewN ?_ _) | (with_reducible refine Kd.C_drew ?_))); (case side2 => exact HC2.out); rintro e w19 ⟨rfl, hb⟩; have n0_ := Aside0.mk (below_step (by repeat (first | (with_reducible first | exact HB.out | apply below_alloc | apply pw_below_drewN | apply below_drew1) | exact HB.out)) hb); clear HB; have HB := n0_; clear n0_; (try clear hb); (try clear hb2); (try clear hk); (try clear hi))); try go_wp2_with (first | (go_at_call 14; (with_reducible refine (spec_l05Records.calls k a0 a1 _ _ l2 false _ ?side1 ?side2 A4.out).mono ?_); (case side1 => repeat (first | exact HR2.out | (with_reducible refine Kd.C_alloc ?_ _) | (with_reducible refine Kd.C_drewN ?_ _) | (with_reducible refine Kd.C_drew ?_))); (case side2 => exact HC2.out); rintro e w19 ⟨rfl, hb⟩; have n0_ := Aside0.mk (below_step (by repeat (first | (with_reducible first | exact HB.out | apply below_alloc | apply pw_below_drewN | apply below_drew1) | exact HB.out)) hb); clear HB; have HB := n0_; clear n0_; (try clear hb); (try clear hb2); (try clear hk); (try clear hi))))
    go_ret2
    exact ⟨by first | rfl | (simp [errW_none, errW_some] <;> rfl) | (simp [*, errW_none, errW_some] <;> rfl), by repeat (first | (with_reducible first | exact HB.out | apply below_alloc | apply pw_below_drewN | apply below_drew1) | exact HB.out)⟩

/-! ### impl_FirstBackward: function 13 -/
def impl_FirstBackward.bk : (Nat → Int) → List S38 → Nat → Int × Int
  | _, [], _ => (0, 6)
  | far, x :: r, i => if x.f1 < far x.f0.toNat then ((i : Int), 0) else impl_FirstBackward.bk (fun p => if p = x.f0.toNat then x.f1 else far p) r (i + 1)
def impl_FirstBackward.f (k : Nat) (a0 a1 : Int) (l2 : List S38) : Option (Int × Int) := (impl_ValidRecords.f k a0 a1 l2).bind fun vb => (if vb = true then (impl_sorted.f l2).bind fun sl => (if sl.length ≤ 1000 ∧ ∀ x ∈ sl, 0 ≤ x.f0 ∧ x.f0 < 14 then some (impl_FirstBackward.bk (fun _ => 0) sl 0) else none) else some ((0 : Int), (1 : Int)))
theorem impl_FirstBackward.mono : ∀ a0 a1 a2 k, LeO (impl_FirstBackward.f k a0 a1 a2) (impl_FirstBackward.f (k + 1) a0 a1 a2) := by
  intro a0 a1 a2 k
  unfold impl_FirstBackward.f
  repeat' first
      | (with_reducible exact impl_ValidRecords.mono _ _ _ _)
      | (with_reducible exact LeO.refl _)
      | (with_reducible exact LeO.none _)
      | (with_reducible refine LeO.ite ?_ ?_)
      | (with_reducible refine LeO.bind ?_ (fun _ => ?_))
      | exact impl_ValidRecords.mono _ _ _ _
      | exact LeO.none _
      | refine LeO.ite ?_ ?_
      | refine LeO.bind ?_ (fun _ => ?_)
theorem impl_FirstBackward.rd_eq (l : List S38) (i : Nat) (h : i < l.length) : rd_T38 l (i : Int) = l[i] := by
  simp [rd_T38, List.getD_eq_getElem?_getD, List.getElem?_eq_getElem h]
set_option maxHeartbeats 8000000 in
set_option maxRecDepth 1000000 in
theorem impl_FirstBackward.calls (k : Nat) (a0 a1 : Int) (A2 : Option Addr) (c2 : Nat) (l2 : List S38) (r1 r2 : Int) (w : World) (hr2 : Kd.C k38 w A2 l2.length l2) (hc2 : l2.length ≤ c2) (h : impl_FirstBackward.f k a0 a1 l2 = some (r1, r2)) :
    Calls Try.prog 13 #[.int .i64 a0, .int .i64 a1, .slice A2 l2.length c2] w fun e w' => e = .returned (.tuple #[.int .i64 r1, .int .i64 r2]) ∧ Below w.heap.size w w' := by
  unfold impl_FirstBackward.f at h
  obtain ⟨vb, hvb, h⟩ := Option.bind_eq_some_iff.mp h
  have hv := impl_ValidRecords.calls k a0 a1 A2 c2 l2 vb w hr2 hc2 hvb
  cases vb with
  | false =>
    rw [if_neg (by decide)] at h
    obtain ⟨rfl, rfl⟩ := Prod.mk.inj (Option.some.inj h)
    clear hr2
    go_enter Try.func13, Try.ntmps13
    go_wp2_with (go_at_call 17; refine hv.mono ?_; rintro e w1 ⟨rfl, hB1⟩)
    go_ret2
    exact ⟨rfl, hB1⟩
  | true =>
    rw [if_pos rfl] at h
    obtain ⟨sl, hsl, h⟩ := Option.bind_eq_some_iff.mp h
    by_cases c : sl.length ≤ 1000 ∧ ∀ x ∈ sl, 0 ≤ x.f0 ∧ x.f0 < 14
    · rw [if_pos c] at h
      have hbk : Hid (impl_FirstBackward.bk (fun _ => 0) sl 0 = (r1, r2)) := Option.some.inj h
      clear h
      have hsort : ∀ W, Below w.heap.size w W → Calls Try.prog 18 #[.slice A2 l2.length c2] W fun e w' => ∃ (Ao : Option Addr) (co : Nat), e = .returned (.slice Ao sl.length co) ∧ Kd.R k38 38 w' W.heap.size (fun _ => True) (.slice Ao sl.length co) sl ∧ Below W.heap.size W w' := fun W q =>
        (impl_sorted.calls A2 c2 l2 sl W (Kd.C_below hr2 q) hc2 hsl).mono fun e w' ⟨v, h1, h2, h3⟩ => by
          obtain ⟨Ao, co, rfl⟩ := Kd.R_slice h2
          exact ⟨Ao, co, h1, h2, h3⟩
      clear hr2
      go_enter Try.func13, Try.ntmps13
      go_wp2_with (first | (go_at_call 17; refine hv.mono ?_; rintro e w1 ⟨rfl, hB1⟩) | (go_at_call 18; refine (hsort _ (Below.alloc hB1 hB1.size _)).mono ?_; rintro e w2 ⟨Ao, co, rfl, hR, hB2⟩))
      obtain ⟨g, hg⟩ : ∃ g, g = w1.heap.size := ⟨_, rfl⟩
      have hgw : w.heap.size ≤ g := by rw [hg]; exact hB1.size
      have hsz : (w1.alloc (.cells (Go.Proofs.Ytbhgjengdkofaaa.H.farA (fun _ => 0)) 42)).heap.size = w1.heap.size + 1 := by rw [World.alloc]; simp only [Array.size_push]
      have hB3 : Below w.heap.size w w2 := (Below.alloc hB1 hB1.size _).trans (hB2.mono (by show _ ≤ (w1.alloc (.cells (Go.Proofs.Ytbhgjengdkofaaa.H.farA (fun _ => 0)) 42)).heap.size; rw [hsz]; have := hB1.size; omega))
      have hF : w2.heap[g]? = some (.cells (Go.Proofs.Ytbhgjengdkofaaa.H.farA (fun _ => 0)) 42 (0, 0)) := (hB2.block g (by show _ < (w1.alloc (.cells (Go.Proofs.Ytbhgjengdkofaaa.H.farA (fun _ => 0)) 42)).heap.size; rw [hsz]; omega)).trans (by rw [hg]; exact heap_alloc_new w1 _)
      have hR3 : Kd.R k38 38 w2 w.heap.size (fun _ => True) (.slice Ao sl.length co) sl := Kd.R_lower hR (by show _ ≤ (w1.alloc (.cells (Go.Proofs.Ytbhgjengdkofaaa.H.farA (fun _ => 0)) 42)).heap.size; rw [hsz]; have := hB1.size; omega)
      clear hR hB2 hsz hv hsort hB1 hsl hvb hc2
      rw [← hg]
      clear hg
      go_loopg [20] sl.length (fun m s20 wr => ∃ (i : Nat) (far : Nat → Int), s20 = .int .i64 (i : Int) ∧ i ≤ sl.length ∧ sl.length - i ≤ m ∧ Hid (impl_FirstBackward.bk far (sl.drop i) i = (r1, r2)) ∧ Kd.R k38 38 wr w.heap.size (fun _ => True) (.slice Ao sl.length co) sl ∧ wr.heap[g]? = some (.cells (Go.Proofs.Ytbhgjengdkofaaa.H.farA far) 42 (0, 0)) ∧ Below w.heap.size w wr)
      case atStart => exact ⟨0, _, rfl, Nat.zero_le _, Nat.le_refl _, hbk, hR3, hF, hB3⟩
      case round =>
        clear hR3 hF hB3 hbk
        obtain ⟨i, far, rfl, hi, hm, hV, hR, hF, hB⟩ := hrel
        by_cases hlt : i < sl.length
        · have f1 : ((i : Int) < (sl.length : Int)) = True := eq_true (by omega)
          obtain ⟨ad, e_, hx0, hx1, hx2⟩ := at_T38 (Kd.R_reads' hR).2.2 (i : Int) (by omega) (by omega)
          subst e_
          rw [Int.toNat_natCast] at hx0 hx1 hx2
          have hxe : sl.drop i = rd_T38 sl (i : Int) :: sl.drop (i + 1) := by rw [impl_FirstBackward.rd_eq sl i hlt, List.drop_eq_getElem_cons hlt]
          have hxr : 0 ≤ (rd_T38 sl (i : Int)).f0 ∧ (rd_T38 sl (i : Int)).f0 < 14 := c.2 _ (by rw [impl_FirstBackward.rd_eq sl i hlt]; exact List.getElem_mem hlt)
          rw [hxe] at hV
          clear hxe
          generalize rd_T38 sl (i : Int) = x at hx0 hx1 hx2 hxr hV
          obtain ⟨x0, x1, x2⟩ := x
          dsimp only at hx0 hx1 hx2 hxr
          obtain ⟨p, rfl⟩ := Int.eq_ofNat_of_zero_le hxr.1
          have hp : p < 14 := by omega
          go_wp2
          have hb4 : (wr.alloc (.cells #[.int .i8 (p : Int), .int .i8 x1, .int .i16 x2] 38)).heap[wr.heap.size]? = some (.cells #[.int .i8 (p : Int), .int .i8 x1, .int .i16 x2] 38 (0, 0)) := heap_alloc_new wr _
          have hF4 : (wr.alloc (.cells #[.int .i8 (p : Int), .int .i8 x1, .int .i16 x2] 38)).heap[g]? = some (.cells (Go.Proofs.Ytbhgjengdkofaaa.H.farA far) 42 (0, 0)) := (Below.heap_alloc wr _ g (Array.getElem?_eq_some_iff.1 hF).1).trans hF
          have hR4 := Kd.R_alloc hR (.cells #[.int .i8 (p : Int), .int .i8 x1, .int .i16 x2] 38)
          have hB4 : Below w.heap.size w (wr.alloc (.cells #[.int .i8 (p : Int), .int .i8 x1, .int .i16 x2] 38)) := Below.alloc hB hB.size _
          generalize wr.alloc (.cells #[.int .i8 (p : Int), .int .i8 x1, .int .i16 x2] 38) = W4 at hb4 hF4 hR4 hB4 ⊢
          generalize wr.heap.size = b4 at hb4 ⊢
          obtain ⟨c0, c1, c2⟩ := Go.Proofs.Ytbhgjengdkofaaa.H.blk3_ hb4
          have cF : W4.cell? ⟨g, p, none⟩ = some (.int .i8 (far p)) := by simp only [World.cell?, hF4]; exact Go.Proofs.Ytbhgjengdkofaaa.H.farA_get far p hp
          have fF : W4.frozen? ⟨g, p, none⟩ = false := by simp [World.frozen?, hF4]
          clear hx0 hx1 hx2 hF hR hB
          have hv1 : impl_FirstBackward.bk far (⟨(p : Int), x1, x2⟩ :: sl.drop (i + 1)) i = if x1 < far p then ((i : Int), 0) else impl_FirstBackward.bk (fun q => if q = p then x1 else far q) (sl.drop (i + 1)) (i + 1) := by simp only [impl_FirstBackward.bk, Int.toNat_natCast]
          have hV2 := hV.out
          rw [hv1] at hV2
          clear hv1 hV
          have p1 : (0 ≤ (p : Int)) = True := eq_true (by omega)
          have p2 : ((p : Int) < 14) = True := eq_true (by omega)
          by_cases hc : x1 < far p
          · rw [if_pos hc] at hV2
            obtain ⟨rfl, rfl⟩ := Prod.mk.inj hV2
            have hd : decide (x1 < far p) = true := decide_eq_true hc
            go_quiet (fail)
            go_wp2
            go_ret2
            exact ⟨rfl, pw_below_drewN hB4 _⟩
          · rw [if_neg hc] at hV2
            have hd : decide (x1 < far p) = false := decide_eq_false hc
            have hVh : Hid (impl_FirstBackward.bk (fun q => if q = p then x1 else far q) (sl.drop (i + 1)) (i + 1) = (r1, r2)) := hV2
            clear hV2 hc
            have hwi : IntKind.i64.wrap ((i : Int) + 1) = ((i + 1 : Nat) : Int) := by simp [IntKind.wrap, IntKind.bits, IntKind.signed]; omega
            go_quiet (fail)
            go_wp2
            go_roundg (sl.length - (i + 1))
            case measure => omega
            case rel =>
              have hF5 : (W4.drewN nq).heap[g]? = some (.cells (Go.Proofs.Ytbhgjengdkofaaa.H.farA far) 42 (0, 0)) := hF4
              refine ⟨i + 1, _, by simp, by omega, Nat.le_refl _, hVh, Kd.R_mono (Kd.R_far (p := ⟨g, p, none⟩) (Kd.R_types (Kd.R_drewN hR4 nq) hF5 (by decide)) (fun _ hk => hk.2) (.int .i8 x1)) (fun _ _ => trivial), ?_, (pw_below_drewN hB4 nq).setCell (p := ⟨g, p, none⟩) hgw _⟩
              rw [← Go.Proofs.Ytbhgjengdkofaaa.H.farA_set far p hp x1]
              exact Go.Proofs.Ytbhgjengdkofaaa.H.rec_setCell_at _ g p _ _ _ hF5
        · obtain rfl : i = sl.length := by omega
          have f1 : ((sl.length : Int) < (sl.length : Int)) = False := eq_false (by omega)
          have hV2 := hV.out
          rw [List.drop_length] at hV2
          obtain ⟨rfl, rfl⟩ := Prod.mk.inj hV2
          clear hV
          go_wp2
          go_ret2
          exact ⟨rfl, hB⟩
    · rw [if_neg c] at h
      exact absurd h (by simp)

/-! ### laws_FnExactFirstBackward: function 4 -/
def laws_FnExactFirstBackward.j0 : Nat → List (S40) → List (S38) → Bool → Option (Bool)
  | 0, _, _, _ => none
  | k + 1, x2, x10, x42 => if x42 = true then (some false) else ((laws_toRecordS.f k x2).bind fun t259 => ((laws_eqRecordS.f k x10 t259).bind fun t262 => (if t262 = true then (some true) else (some false))))
def laws_FnExactFirstBackward.f (k : Nat) (a0 : Int) (a1 : Int) (l2 : List (S40)) : Option (Bool) := (laws_szRecordS.f l2 1048576).bind fun t248 => (if t248 < 0 then (some true) else ((laws_toRecordS.f k l2).bind fun t249 => ((spec_FirstBackward.f k a0 a1 t249).bind fun bt252 => ((laws_toRecordS.f k l2).bind fun t254 => ((impl_FirstBackward.f k a0 a1 t254).bind fun bt257 => (if bt257.1 = bt252.1 then (laws_FnExactFirstBackward.j0 k l2 t254 (bt257.2 != bt252.2)) else (laws_FnExactFirstBackward.j0 k l2 t254 true)))))))
theorem laws_FnExactFirstBackward.mono_l : ∀ k, (∀ y0 y1 y2, LeO (laws_FnExactFirstBackward.j0 k y0 y1 y2) (laws_FnExactFirstBackward.j0 (k + 1) y0 y1 y2))
  | 0 => fun _ _ _ r h => by simp [laws_FnExactFirstBackward.j0] at h
  | k + 1 => by
    have ih0 := laws_FnExactFirstBackward.mono_l k
    · intro y0 y1 y2
      unfold laws_FnExactFirstBackward.j0
      repeat' first
      | (with_reducible exact ih0 _ _ _)
      | (with_reducible exact impl_FirstBackward.mono _ _ _ _)
      | (with_reducible exact laws_eqRecordS.mono _ _ _)
      | (with_reducible exact laws_toRecordS.mono _ _)
      | (with_reducible exact spec_FirstBackward.mono _ _ _ _)
      | (with_reducible exact LeO.refl _)
      | (with_reducible exact LeO.none _)
      | (with_reducible refine LeO.ite ?_ ?_)
      | (with_reducible refine LeO.bind ?_ (fun _ => ?_))
      | exact ih0 _ _ _
      | exact impl_FirstBackward.mono _ _ _ _
      | exact laws_eqRecordS.mono _ _ _
      | exact laws_toRecordS.mono _ _
      | exact spec_FirstBackward.mono _ _ _ _
      | exact LeO.none _
      | refine LeO.ite ?_ ?_
      | refine LeO.bind ?_ (fun _ => ?_)
theorem laws_FnExactFirstBackward.mono : ∀ a0 a1 a2 k, LeO (laws_FnExactFirstBackward.f k a0 a1 a2) (laws_FnExactFirstBackward.f (k + 1) a0 a1 a2) := by
  intro a0 a1 a2 k
  have ih0 := laws_FnExactFirstBackward.mono_l k
  unfold laws_FnExactFirstBackward.f
  repeat' first
      | (with_reducible exact ih0 _ _ _)
      | (with_reducible exact impl_FirstBackward.mono _ _ _ _)
      | (with_reducible exact laws_eqRecordS.mono _ _ _)
      | (with_reducible exact laws_toRecordS.mono _ _)
      | (with_reducible exact spec_FirstBackward.mono _ _ _ _)
      | (with_reducible exact LeO.refl _)
      | (with_reducible exact LeO.none _)
      | (with_reducible refine LeO.ite ?_ ?_)
      | (with_reducible refine LeO.bind ?_ (fun _ => ?_))
      | exact ih0 _ _ _
      | exact impl_FirstBackward.mono _ _ _ _
      | exact laws_eqRecordS.mono _ _ _
      | exact laws_toRecordS.mono _ _
      | exact spec_FirstBackward.mono _ _ _ _
      | exact LeO.none _
      | refine LeO.ite ?_ ?_
      | refine LeO.bind ?_ (fun _ => ?_)
set_option maxHeartbeats 8000000 in
set_option maxRecDepth 100000 in
theorem laws_FnExactFirstBackward.calls (k : Nat) (a0 : Int) (a1 : Int) (A2 : Option Addr) (c2 : Nat) (l2 : List (S40)) (r : Bool) (w : World) (hr2 : Kd.C k40 w A2 l2.length l2) (hc2 : l2.length ≤ c2) (hT : r = true) (h : laws_FnExactFirstBackward.f k a0 a1 l2 = some r) :
    Calls Try.prog 4 #[.int .i64 a0, .int .i64 a1, .slice A2 l2.length c2] w fun e w' => e = .returned (.bool r) ∧ Below w.heap.size w w' := by
  have HR2 := Aside0.mk hr2
  have HC2 := Aside0.mk hc2
  clear hr2 hc2
  have HT := Aside0.mk hT
  clear hT
  have HB := Aside0.mk (Below.refl w.heap.size w)
  have H : ((laws_szRecordS.f l2 1048576).bind fun t248 => (if t248 < 0 then (some true) else ((laws_toRecordS.f k l2).bind fun t249 => ((spec_FirstBackward.f k a0 a1 t249).bind fun bt252 => ((laws_toRecordS.f k l2).bind fun t254 => ((impl_FirstBackward.f k a0 a1 t254).bind fun bt257 => (if bt257.1 = bt252.1 then (laws_FnExactFirstBackward.j0 k l2 t254 (bt257.2 != bt252.2)) else (laws_FnExactFirstBackward.j0 k l2 t254 true)))))))) = some r := h
  clear h
  replace H := Option.bind_eq_some_iff.mp H
  obtain ⟨t248, A40, H⟩ := H
  replace H : (if t248 < 0 then (some true) else ((laws_toRecordS.f k l2).bind fun t249 => ((spec_FirstBackward.f k a0 a1 t249).bind fun bt252 => ((laws_toRecordS.f k l2).bind fun t254 => ((impl_FirstBackward.f k a0 a1 t254).bind fun bt257 => (if bt257.1 = bt252.1 then (laws_FnExactFirstBackward.j0 k l2 t254 (bt257.2 != bt252.2)) else (laws_FnExactFirstBackward.j0 k l2 t254 true))))))) = some r := H
  have A4 := Aside0.mk A40
  clear A40
  by_cases c5 : t248 < 0
  · rw [if_pos c5] at H
    have c5b0 : decide (t248 < 0) = true := decide_eq_true c5
    clear c5
    obtain rfl := Option.some.inj H
    go_enter Try.func4, Try.ntmps4
    go_wp2_with (first | ((with_reducible refine gate_callee (f := 5) rfl ?_); refine goesL_ (some 15) rfl rfl Try.func5 (by kernel_rfl) rfl #[.slice A2 l2.length c2, .int .i64 1048576] rfl (by (try simp only [List.map_toArray, List.map_cons, List.map_nil]); first | done | rfl | (simp only [List.length_drop, List.length_take]; rfl)) ?_; (with_reducible refine (laws_szRecordS.calls _ _ l2 1048576 t248 _ ?side1 ?side2 A4.out).mono ?_); (case side1 => repeat (first | exact HR2.out | (with_reducible refine Kd.C_alloc ?_ _) | (with_reducible refine Kd.C_drewN ?_ _) | (with_reducible refine Kd.C_drew ?_))); (case side2 => exact HC2.out); rintro e w' ⟨rfl, ⟨nd, rfl⟩⟩; refine ⟨_, rfl, ?_⟩))
    go_ret
    exact ⟨by first | rfl | (simp [errW_none, errW_some] <;> rfl) | (simp [*, errW_none, errW_some] <;> rfl), by repeat (first | (with_reducible first | exact HB.out | apply below_alloc | apply pw_below_drewN | apply below_drew1) | exact HB.out)⟩
  · rw [if_neg c5] at H
    have c5b0 : decide (t248 < 0) = false := decide_eq_false c5
    clear c5
    replace H := Option.bind_eq_some_iff.mp H
    obtain ⟨t249, A60, H⟩ := H
    replace H : ((spec_FirstBackward.f k a0 a1 t249).bind fun bt252 => ((laws_toRecordS.f k l2).bind fun t254 => ((impl_FirstBackward.f k a0 a1 t254).bind fun bt257 => (if bt257.1 = bt252.1 then (laws_FnExactFirstBackward.j0 k l2 t254 (bt257.2 != bt252.2)) else (laws_FnExactFirstBackward.j0 k l2 t254 true))))) = some r := H
    have A6 := Aside0.mk A60
    clear A60
    replace H := Option.bind_eq_some_iff.mp H
    obtain ⟨⟨t252, t253⟩, A70, H⟩ := H
    replace H : ((laws_toRecordS.f k l2).bind fun t254 => ((impl_FirstBackward.f k a0 a1 t254).bind fun bt257 => (if bt257.1 = t252 then (laws_FnExactFirstBackward.j0 k l2 t254 (bt257.2 != t253)) else (laws_FnExactFirstBackward.j0 k l2 t254 true)))) = some r := H
    have A7 := Aside0.mk A70
    clear A70
    replace H := Option.bind_eq_some_iff.mp H
    obtain ⟨t254, A80, H⟩ := H
    replace H : ((impl_FirstBackward.f k a0 a1 t254).bind fun bt257 => (if bt257.1 = t252 then (laws_FnExactFirstBackward.j0 k l2 t254 (bt257.2 != t253)) else (laws_FnExactFirstBackward.j0 k l2 t254 true))) = some r := H
    have A8 := Aside0.mk A80
    clear A80
    replace H := Option.bind_eq_some_iff.mp H
    obtain ⟨⟨t257, t258⟩, A90, H⟩ := H
    replace H : (if t257 = t252 then (laws_FnExactFirstBackward.j0 k l2 t254 (t258 != t253)) else (laws_FnExactFirstBackward.j0 k l2 t254 true)) = some r := H
    have A9 := Aside0.mk A90
    clear A90
    have HC10 := Aside0.mk H
    clear H
    go_enter Try.func4, Try.ntmps4
    go_upto_region 8 with (first | ((with_reducible refine gate_callee (f := 5) rfl ?_); refine goesL_ (some 15) rfl rfl Try.func5 (by kernel_rfl) rfl #[.slice A2 l2.length c2, .int .i64 1048576] rfl (by (try simp only [List.map_toArray, List.map_cons, List.map_nil]); first | done | rfl | (simp only [List.length_drop, List.length_take]; rfl)) ?_; (with_reducible refine (laws_szRecordS.calls _ _ l2 1048576 t248 _ ?side1 ?side2 A4.out).mono ?_); (case side1 => repeat (first | exact HR2.out | (with_reducible refine Kd.C_alloc ?_ _) | (with_reducible refine Kd.C_drewN ?_ _) | (with_reducible refine Kd.C_drew ?_))); (case side2 => exact HC2.out); rintro e w' ⟨rfl, ⟨nd, rfl⟩⟩; refine ⟨_, rfl, ?_⟩) | ((with_reducible refine gate_callee (f := 7) rfl ?_); refine goesL_ (some 22) rfl rfl Try.func7 (by kernel_rfl) rfl #[.slice A2 l2.length c2] rfl (by (try simp only [List.map_toArray, List.map_cons, List.map_nil]); first | done | rfl | (simp only [List.length_drop, List.length_take]; rfl)) ?_; (with_reducible refine (laws_toRecordS.calls k _ _ l2 t249 _ ?side1 ?side2 A6.out).mono ?_); (case side1 => repeat (first | exact HR2.out | (with_reducible refine Kd.C_alloc ?_ _) | (with_reducible refine Kd.C_drewN ?_ _) | (with_reducible refine Kd.C_drew ?_))); (case side2 => exact HC2.out); rintro e w11 ⟨v250, rfl, ho0, hb⟩; refine ⟨_, rfl, ?_⟩; have n0_ := Aside0.mk (Kd.R_lower ho0 (below_size (by repeat (first | (with_reducible first | exact HB.out | apply below_alloc | apply pw_below_drewN | apply below_drew1) | exact HB.out)))); have n1_ := Aside0.mk (below_step (by repeat (first | (with_reducible first | exact HB.out | apply below_alloc | apply pw_below_drewN | apply below_drew1) | exact HB.out)) hb); clear HB; have HO251 := n0_; have HB := n1_; clear n0_ n1_; (try clear hb); (try clear hb2); (try clear hk); (try clear hi); (try clear ho0); obtain ⟨Ao12, co12, eo12⟩ := Kd.R_slice HO251.out; subst eo12) | ((with_reducible refine gate_callee (f := 12) rfl ?_); refine goesL_ (some 23) rfl rfl Try.func12 (by kernel_rfl) rfl #[.int .i64 a0, .int .i64 a1, .slice Ao12 t249.length co12] rfl (by (try simp only [List.map_toArray, List.map_cons, List.map_nil]); first | done | rfl | (simp only [List.length_drop, List.length_take]; rfl)) ?_; (with_reducible refine (spec_FirstBackward.calls k a0 a1 _ _ t249 t252 t253 _ ?side1 ?side2 A7.out).mono ?_); (case side1 => repeat (first | exact (Kd.R_reads' HO251.out).2.2 | (with_reducible refine Kd.C_alloc ?_ _) | (with_reducible refine Kd.C_drewN ?_ _) | (with_reducible refine Kd.C_drew ?_))); (case side2 => exact (Kd.R_reads' HO251.out).2.1); rintro e w13 ⟨rfl, hb⟩; refine ⟨_, rfl, ?_⟩; have n0_ := Aside0.mk (Kd.R_below (by (with_reducible repeat (first | apply Kd.R_alloc | apply Kd.R_drewN | apply Kd.R_drew)); exact HO251.out) hb); have n1_ := Aside0.mk (below_step (by repeat (first | (with_reducible first | exact HB.out | apply below_alloc | apply pw_below_drewN | apply below_drew1) | exact HB.out)) hb); clear HO251; clear HB; have HO251 := n0_; have HB := n1_; clear n0_ n1_; (try clear hb); (try clear hb2); (try clear hk); (try clear hi)) | ((with_reducible refine gate_callee (f := 7) rfl ?_); refine goesL_ (some 27) rfl rfl Try.func7 (by kernel_rfl) rfl #[.slice A2 l2.length c2] rfl (by (try simp only [List.map_toArray, List.map_cons, List.map_nil]); first | done | rfl | (simp only [List.length_drop, List.length_take]; rfl)) ?_; (with_reducible refine (laws_toRecordS.calls k _ _ l2 t254 _ ?side1 ?side2 A8.out).mono ?_); (case side1 => repeat (first | exact (Kd.C_below HR2.out HB.out) | (with_reducible refine Kd.C_alloc ?_ _) | (with_reducible refine Kd.C_drewN ?_ _) | (with_reducible refine Kd.C_drew ?_))); (case side2 => exact HC2.out); rintro e w14 ⟨v255, rfl, ho0, hb⟩; refine ⟨_, rfl, ?_⟩; have n0_ := Aside0.mk (Kd.R_elder' (by (with_reducible repeat (first | apply Kd.R_alloc | apply Kd.R_drewN | apply Kd.R_drew)); exact HO251.out) (Kd.R_base ho0) hb); have n1_ := Aside0.mk (Kd.R_lower (Kd.R_new' ho0 (Kd.R_lt (by (with_reducible repeat (first | apply Kd.R_alloc | apply Kd.R_drewN | apply Kd.R_drew)); exact HO251.out))) (below_size (by repeat (first | (with_reducible first | exact HB.out | apply below_alloc | apply pw_below_drewN | apply below_drew1) | exact HB.out)))); have n2_ := Aside0.mk (below_step (by repeat (first | (with_reducible first | exact HB.out | apply below_alloc | apply pw_below_drewN | apply below_drew1) | exact HB.out)) hb); clear HO251; clear HB; have HO251 := n0_; have HO256 := n1_; have HB := n2_; clear n0_ n1_ n2_; (try clear hb); (try clear hb2); (try clear hk); (try clear hi); (try clear ho0); obtain ⟨Ao15, co15, eo15⟩ := Kd.R_slice HO256.out; subst eo15) | ((with_reducible refine gate_callee (f := 13) rfl ?_); refine goesL_ (some 32) rfl rfl Try.func13 (by kernel_rfl) rfl #[.int .i64 a0, .int .i64 a1, .slice Ao15 t254.length co15] rfl (by (try simp only [List.map_toArray, List.map_cons, List.map_nil]); first | done | rfl | (simp only [List.length_drop, List.length_take]; rfl)) ?_; (with_reducible refine (impl_FirstBackward.calls k a0 a1 _ _ t254 t257 t258 _ ?side1 ?side2 A9.out).mono ?_); (case side1 => repeat (first | exact (Kd.R_reads' HO256.out).2.2 | (with_reducible refine Kd.C_alloc ?_ _) | (with_reducible refine Kd.C_drewN ?_ _) | (with_reducible refine Kd.C_drew ?_))); (case side2 => exact (Kd.R_reads' HO256.out).2.1); rintro e w16 ⟨rfl, hb⟩; refine ⟨_, rfl, ?_⟩; have n0_ := Aside0.mk (Kd.R_below (by (with_reducible repeat (first | apply Kd.R_alloc | apply Kd.R_drewN | apply Kd.R_drew)); exact HO251.out) hb); have n1_ := Aside0.mk (Kd.R_below (by (with_reducible repeat (first | apply Kd.R_alloc | apply Kd.R_drewN | apply Kd.R_drew)); exact HO256.out) hb); have n2_ := Aside0.mk (below_step (by repeat (first | (with_reducible first | exact HB.out | apply below_alloc | apply pw_below_drewN | apply below_drew1) | exact HB.out)) hb); clear HO251; clear HO256; clear HB; have HO251 := n0_; have HO256 := n1_; have HB := n2_; clear n0_ n1_ n2_; (try clear hb); (try clear hb2); (try clear hk); (try clear hi)))
    (try simp only [Act.put, List.setIfInBounds_toArray, List.set_cons_zero, List.set_cons_succ])
    go_cut [42] (fun v42 wc => ∃ (kq : Nat) (x42_9 : Bool), v42 = .bool x42_9 ∧ Aside0 (laws_FnExactFirstBackward.j0 kq l2 t254 x42_9 = some r) ∧ Aside0 (kq ≤ k) ∧ Aside0 (Kd.R k38 38 wc w.heap.size (fun _ => True) (.slice Ao15 t254.length co15) t254) ∧ Aside0 (Below w.heap.size w wc))
    case first =>
      have H := HC10.out
      clear HC10
      by_cases c17 : t257 = t252
      · rw [if_pos c17] at H
        have c17b0 : (t257 == t252) = true := beq_iff_eq.mpr c17
        have c17b1 : (t257 != t252) = false := bne_eq_false_iff_eq.mpr c17
        clear c17
        (first | rw [c17b0] | (simp only [i64_w, i32_w]; rw [c17b0]) | skip)
        have H' := Aside0.mk H
        clear H
        go_wp2
        go_meet
        case rel => exact ⟨_, ((t258 != t253)), (by first | rfl | (simp; done) | (simp [*]; done)), H', ⟨by first | omega | exact Nat.le_refl _⟩, ⟨by (with_reducible repeat (first | apply Kd.R_alloc | apply Kd.R_drewN | apply Kd.R_drew)); exact Kd.R_mono HO256.out (fun _ hk => trivial)⟩, ⟨by repeat (first | (with_reducible first | exact HB.out | apply below_alloc | apply pw_below_drewN | apply below_drew1) | exact HB.out)⟩⟩
      · rw [if_neg c17] at H
        have c17b0 : (t257 == t252) = false := beq_eq_false_iff_ne.mpr c17
        have c17b1 : (t257 != t252) = true := bne_iff_ne.mpr c17
        (first | rw [c17b0] | (simp only [i64_w, i32_w]; rw [c17b0]) | skip)
        have H' := Aside0.mk H
        clear H
        go_wp2
        go_meet
        case rel => exact ⟨_, (true), (by first | rfl | (simp; done) | (simp [*]; done)), H', ⟨by first | omega | exact Nat.le_refl _⟩, ⟨by (with_reducible repeat (first | apply Kd.R_alloc | apply Kd.R_drewN | apply Kd.R_drew)); exact Kd.R_mono HO256.out (fun _ hk => trivial)⟩, ⟨by repeat (first | (with_reducible first | exact HB.out | apply below_alloc | apply pw_below_drewN | apply below_drew1) | exact HB.out)⟩⟩
    case rest =>
      clear HC10
      try clear c1
      try clear c2
      try clear p2
      try clear c4
      try clear c5
      try clear c5b0
      try clear c7
      try clear c12
      try clear c13
      try clear c17
      try clear c17b0
      try clear c17b1
      obtain ⟨kq, x42_9, rfl, HA, HJ9, HO_10, HB⟩ := hcut
      cases kq with
      | zero => exact absurd HA.out (by simp [laws_FnExactFirstBackward.j0])
      | succ kj9 =>
        have H := HA.out
        clear HA
        simp only [laws_FnExactFirstBackward.j0] at H
        by_cases c18 : x42_9 = true
        · subst c18
          have H1 : (some false) = some r := by rw [if_pos rfl] at H; exact H
          clear H
          have H := H1
          clear H1
          exact absurd ((Option.some.inj H).trans HT.out) (by decide)
        · replace c18 := Bool.eq_false_iff.mpr c18
          subst c18
          have H1 : ((laws_toRecordS.f kj9 l2).bind fun t259 => ((laws_eqRecordS.f kj9 t254 t259).bind fun t262 => (if t262 = true then (some true) else (some false)))) = some r := by rw [if_neg (show ¬ (false = true) by decide)] at H; exact H
          clear H
          have H := H1
          clear H1
          replace H := Option.bind_eq_some_iff.mp H
          obtain ⟨t259, A190, H⟩ := H
          replace H : ((laws_eqRecordS.f kj9 t254 t259).bind fun t262 => (if t262 = true then (some true) else (some false))) = some r := H
          have A19 := Aside0.mk A190
          clear A190
          replace H := Option.bind_eq_some_iff.mp H
          obtain ⟨t262, A200, H⟩ := H
          replace H : (if t262 = true then (some true) else (some false)) = some r := H
          have A20 := Aside0.mk A200
          clear A200
          by_cases c21 : t262 = true
          · subst c21
            have H1 : (some true) = some r := by rw [if_pos rfl] at H; exact H
            clear H
            have H := H1
            clear H1
            obtain rfl := Option.some.inj H
            go_wp2_with (first | ((with_reducible refine gate_callee (f := 7) rfl ?_); refine goesL_ (some 45) rfl rfl Try.func7 (by kernel_rfl) rfl #[.slice A2 l2.length c2] rfl (by (try simp only [List.map_toArray, List.map_cons, List.map_nil]); first | done | rfl | (simp only [List.length_drop, List.length_take]; rfl)) ?_; (with_reducible refine (laws_toRecordS.calls kj9 _ _ l2 t259 _ ?side1 ?side2 A19.out).mono ?_); (case side1 => repeat (first | exact (Kd.C_below HR2.out HB.out) | (with_reducible refine Kd.C_alloc ?_ _) | (with_reducible refine Kd.C_drewN ?_ _) | (with_reducible refine Kd.C_drew ?_))); (case side2 => exact HC2.out); rintro e w22 ⟨v260, rfl, ho0, hb⟩; refine ⟨_, rfl, ?_⟩; have n0_ := Aside0.mk (Kd.R_elder' (by (with_reducible repeat (first | apply Kd.R_alloc | apply Kd.R_drewN | apply Kd.R_drew)); exact HO_10.out) (Kd.R_base ho0) hb); have n1_ := Aside0.mk (Kd.R_lower (Kd.R_new' ho0 (Kd.R_lt (by (with_reducible repeat (first | apply Kd.R_alloc | apply Kd.R_drewN | apply Kd.R_drew)); exact HO_10.out))) (below_size (by repeat (first | (with_reducible first | exact HB.out | apply below_alloc | apply pw_below_drewN | apply below_drew1) | exact HB.out)))); have n2_ := Aside0.mk (below_step (by repeat (first | (with_reducible first | exact HB.out | apply below_alloc | apply pw_below_drewN | apply below_drew1) | exact HB.out)) hb); clear HO_10; clear HB; have HO_10 := n0_; have HO261 := n1_; have HB := n2_; clear n0_ n1_ n2_; (try clear hb); (try clear hb2); (try clear hk); (try clear hi); (try clear ho0); obtain ⟨Ao23, co23, eo23⟩ := Kd.R_slice HO261.out; subst eo23) | ((with_reducible refine gate_callee (f := 9) rfl ?_); refine goesL_ (some 46) rfl rfl Try.func9 (by kernel_rfl) rfl #[.slice Ao15 t254.length co15, .slice Ao23 t259.length co23] rfl (by (try simp only [List.map_toArray, List.map_cons, List.map_nil]); first | done | rfl | (simp only [List.length_drop, List.length_take]; rfl)) ?_; (with_reducible refine (laws_eqRecordS.calls kj9 _ _ t254 _ _ t259 true _ ?side1 ?side2 ?side3 ?side4 A20.out).mono ?_); (case side1 => repeat (first | exact (Kd.R_reads' HO_10.out).2.2 | (with_reducible refine Kd.C_alloc ?_ _) | (with_reducible refine Kd.C_drewN ?_ _) | (with_reducible refine Kd.C_drew ?_))); (case side2 => exact (Kd.R_reads' HO_10.out).2.1); (case side3 => repeat (first | exact (Kd.R_reads' HO261.out).2.2 | (with_reducible refine Kd.C_alloc ?_ _) | (with_reducible refine Kd.C_drewN ?_ _) | (with_reducible refine Kd.C_drew ?_))); (case side4 => exact (Kd.R_reads' HO261.out).2.1); rintro e w24 ⟨rfl, hb⟩; refine ⟨_, rfl, ?_⟩; have n0_ := Aside0.mk (Kd.R_below (by (with_reducible repeat (first | apply Kd.R_alloc | apply Kd.R_drewN | apply Kd.R_drew)); exact HO_10.out) hb); have n1_ := Aside0.mk (Kd.R_below (by (with_reducible repeat (first | apply Kd.R_alloc | apply Kd.R_drewN | apply Kd.R_drew)); exact HO261.out) hb); have n2_ := Aside0.mk (below_step (by repeat (first | (with_reducible first | exact HB.out | apply below_alloc | apply pw_below_drewN | apply below_drew1) | exact HB.out)) hb); clear HO_10; clear HO261; clear HB; have HO_10 := n0_; have HO261 := n1_; have HB := n2_; clear n0_ n1_ n2_; (try clear hb); (try clear hb2); (try clear hk); (try clear hi)))
            go_ret
            exact ⟨by first | rfl | (simp [errW_none, errW_some] <;> rfl) | (simp [*, errW_none, errW_some] <;> rfl), by repeat (first | (with_reducible first | exact HB.out | apply below_alloc | apply pw_below_drewN | apply below_drew1) | exact HB.out)⟩
          · replace c21 := Bool.eq_false_iff.mpr c21
            subst c21
            have H1 : (some false) = some r := by rw [if_neg (show ¬ (false = true) by decide)] at H; exact H
            clear H
            have H := H1
            clear H1
            exact absurd ((Option.some.inj H).trans HT.out) (by decide)

/-- THE ONE PURE STATEMENT of laws_FnExactFirstBackward: mine. -/
def laws_FnExactFirstBackward.Pure : Prop := ∀ (a0 : Int) (a1 : Int) (l2 : List (S40)), ((Lit.int .i64 a0).wf = true) → ((Lit.int .i64 a1).wf = true) → (l2.length ≤ 9223372036854775807 ∧ ∀ x_ ∈ l2, (((Lit.int .i8 x_.f0).wf = true) ∧ ((Lit.int .i8 x_.f1).wf = true) ∧ ((Lit.int .i16 x_.f2).wf = true))) → ∃ k, laws_FnExactFirstBackward.f k a0 a1 l2 = some true

end Go.Proofs.Ytbhgjengdkofaaa.P
