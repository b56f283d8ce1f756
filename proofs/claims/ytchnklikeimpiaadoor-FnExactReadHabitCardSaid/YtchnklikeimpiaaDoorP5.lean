-- Printed by wip/print (my turned copy of the kit's print) out of the translation; Lean checks it.
import Derived.Test.YtchnklikeimpiaaDoorP0
namespace Go.Proofs.YtchnklikeimpiaaDoor.P
open Go.RowKit Go.Proofs.YtchnklikeimpiaaDoorW.PrintWords Go.Proofs.YtchnklikeimpiaaDoorW.PrintLast Go.Proofs.YtchnklikeimpiaaDoorW.PrintMore
attribute [local go_sem] max2_int min2_int max_two min_two max_three min_three max_four min_four   -- for this text's walks alone
set_option linter.unusedVariables false
set_option linter.unusedSimpArgs false

/-! ### spec_l04Letter: function 41 -/
def spec_l04Letter.f (a0 : Int) : Option (Bool) := if a0 ≥ 97 then (some (decide (a0 ≤ 122))) else (some false)
set_option maxHeartbeats 8000000 in
set_option maxRecDepth 100000 in
theorem spec_l04Letter.calls (a0 : Int) (r : Bool) (w : World) (h : spec_l04Letter.f a0 = some r) :
    Calls Tryd.prog 41 #[.int .u8 a0] w fun e w' => e = .returned (.bool r) ∧ Drawn0 w w' := by
 have H : (if a0 ≥ 97 then (some (decide (a0 ≤ 122))) else (some false)) = some r := h
 clear h
 by_cases c2 : a0 ≥ 97
 {
 rw [if_pos c2] at H
 have c2b0 : decide (97 ≤ a0) = true := decide_eq_true c2
 clear c2
 obtain rfl := Option.some.inj H
 go_enter Tryd.func41, Tryd.ntmps41
 go_wp2
 go_ret
 exact ⟨by first | rfl | (simp; done) | (simp [*]; done), by repeat (first | exact Drawn0.refl _ | apply Drawn0.step)⟩
 }
 {
 rw [if_neg c2] at H
 have c2b0 : decide (97 ≤ a0) = false := decide_eq_false c2
 clear c2
 obtain rfl := Option.some.inj H
 go_enter Tryd.func41, Tryd.ntmps41
 go_wp2
 go_ret
 exact ⟨by first | rfl | (simp; done) | (simp [*]; done), by repeat (first | exact Drawn0.refl _ | apply Drawn0.step)⟩
 }
/-! ### spec_l04Habit: function 20 -/
def spec_l04Habit.j0 : Nat → Int → Bool → Int → Int → Int → Option (Bool)
  | 0, _, _, _, _, _ => none
  | k + 1, x4, x5, x111000, x111001, x111002 => if x5 = true then (if x111001 = 0 then (some (x111002 == 0)) else (some false)) else (if x4 = 1 then ((spec_l04Letter.f x111001).bind fun t111 => (if t111 = true then ((spec_l04Letter.f x111002).bind fun t112 => (if t112 = true then (some (x111001 != x111002)) else (some false))) else (some false))) else (if x4 = 2 then ((spec_l04Letter.f x111001).bind fun t113 => (if t113 = true then (some (x111002 == 0)) else (some false))) else (if x4 = 4 then ((spec_l04Letter.f x111001).bind fun t114 => (if t114 = true then (some (x111002 == 0)) else (some false))) else (some false))))
def spec_l04Habit.f (k : Nat) (a0_0 : Int) (a0_1 : Int) (a0_2 : Int) : Option (Bool) := if a0_0 = 0 then (spec_l04Habit.j0 k a0_0 (a0_0 == 0) a0_0 a0_1 a0_2) else (spec_l04Habit.j0 k a0_0 (a0_0 == 3) a0_0 a0_1 a0_2)
theorem spec_l04Habit.mono_l : ∀ k, (∀ y0 y1 y2 y3 y4, LeO (spec_l04Habit.j0 k y0 y1 y2 y3 y4) (spec_l04Habit.j0 (k + 1) y0 y1 y2 y3 y4))
  | 0 => fun _ _ _ _ _ r h => by simp [spec_l04Habit.j0] at h
  | k + 1 => by
    have ih0 := spec_l04Habit.mono_l k
    · intro y0 y1 y2 y3 y4
      unfold spec_l04Habit.j0
      repeat' first
      | (with_reducible exact ih0 _ _ _ _ _)
      | (with_reducible exact LeO.refl _)
      | (with_reducible exact LeO.none _)
      | (with_reducible refine LeO.ite ?_ ?_)
      | (with_reducible refine LeO.bind ?_ (fun _ => ?_))
      | exact ih0 _ _ _ _ _
      | exact LeO.none _
      | refine LeO.ite ?_ ?_
      | refine LeO.bind ?_ (fun _ => ?_)
theorem spec_l04Habit.mono : ∀ a0 a1 a2 k, LeO (spec_l04Habit.f k a0 a1 a2) (spec_l04Habit.f (k + 1) a0 a1 a2) := by
  intro a0 a1 a2 k
  have ih0 := spec_l04Habit.mono_l k
  unfold spec_l04Habit.f
  repeat' first
      | (with_reducible exact ih0 _ _ _ _ _)
      | (with_reducible exact LeO.refl _)
      | (with_reducible exact LeO.none _)
      | (with_reducible refine LeO.ite ?_ ?_)
      | (with_reducible refine LeO.bind ?_ (fun _ => ?_))
      | exact ih0 _ _ _ _ _
      | exact LeO.none _
      | refine LeO.ite ?_ ?_
      | refine LeO.bind ?_ (fun _ => ?_)
set_option maxHeartbeats 8000000 in
set_option maxRecDepth 100000 in
theorem spec_l04Habit.calls (k : Nat) (a0_0 : Int) (a0_1 : Int) (a0_2 : Int) (r : Bool) (w : World) (h : spec_l04Habit.f k a0_0 a0_1 a0_2 = some r) :
    Calls Tryd.prog 20 #[.agg #[.int .i8 a0_0, .int .u8 a0_1, .int .u8 a0_2]] w fun e w' => e = .returned (.bool r) ∧ Below w.heap.size w w' := by
 have hu24 := Tryd.underlying24
 have HB := ak (Below.refl w.heap.size w)
 have H : (if a0_0 = 0 then (spec_l04Habit.j0 k a0_0 (a0_0 == 0) a0_0 a0_1 a0_2) else (spec_l04Habit.j0 k a0_0 (a0_0 == 3) a0_0 a0_1 a0_2)) = some r := h
 clear h
 have HC2 := ak H
 clear H
 go_enter Tryd.func20, Tryd.ntmps20
 go_upto_if 5 with (first | ((with_reducible refine gate_dst (N := 1) rfl ?_); refine box_event ?hg (N := 1) ?hd (cs := #[.int .i8 a0_0, .int .u8 a0_1, .int .u8 a0_2]) (t := 24) ?hr ?_; (case hd => rfl); (case hg => rfl); (case hr => first | (go_simp; done) | (go_simp; rfl)); intro gb110 hg w3 hbox hb; have n0_ := ak (below_step (zB HB.out) hb); have n1_ := ak (hbox); have n2_ := ak ((by rw [hg]; exact (below_size (zB HB.out)) : w.heap.size ≤ gb110)); have n3_ := ak ((by rw [hg]; exact (below_size (zB HB.out)) : w.heap.size ≤ gb110)); clear HB; have HB := n0_; have BK110 := n1_; have GW110 := n2_; have GE110 := n3_; clear n0_ n1_ n2_ n3_; clear hb hbox hg; have hcz4_0 : w3.cell? ⟨gb110, 0, none⟩ = some (.int .i8 a0_0) := (blk_cell BK110.out 0).trans rfl; have hcz4_1 : w3.cell? ⟨gb110, 1, none⟩ = some (.int .u8 a0_1) := (blk_cell BK110.out 1).trans rfl; have hcz4_2 : w3.cell? ⟨gb110, 2, none⟩ = some (.int .u8 a0_2) := (blk_cell BK110.out 2).trans rfl; have hfz4_0 := blk_frozen BK110.out 0; have hfz4_1 := blk_frozen BK110.out 1; have hfz4_2 := blk_frozen BK110.out 2))
 (try simp only [Act.put, zs, zz, zk])
 go_cut [5] (fun v5 wc => ∃ (kq : Nat) (x5_1 : Bool), v5 = .bool x5_1 ∧ Aside0 (spec_l04Habit.j0 kq a0_0 x5_1 a0_0 a0_1 a0_2 = some r) ∧ Aside0 (kq ≤ k) ∧ Aside0 (wc.heap[gb110]? = some (.cells #[.int .i8 a0_0, .int .u8 a0_1, .int .u8 a0_2] 24 (0, 0))) ∧ Aside0 (Below w.heap.size w wc))
 case first => (
 have H := HC2.out
 clear HC2
 by_cases c5 : a0_0 = 0
 {
 rw [if_pos c5] at H
 have c5b0 : (a0_0 == 0) = true := beq_iff_eq.mpr c5
 have c5b1 : (a0_0 != 0) = false := bne_eq_false_iff_eq.mpr c5
 clear c5
 (first | rw [c5b0] | (simp only [i64_w, i32_w]; rw [c5b0]) | skip)
 have H' := ak H
 clear H
 go_wp2
 go_meet
 case rel => exact ⟨_, ((a0_0 == 0)), (by first | rfl | (simp; done) | (simp [*]; done)), H', ⟨by first | omega | exact Nat.le_refl _⟩, ⟨by (with_reducible repeat (first | refine blk_drewN ?_ _ | refine blk_drew ?_ | refine blk_alloc ?_ _)); exact BK110.out⟩, ⟨by repeat (first | (with_reducible first | exact HB.out | apply below_alloc | apply pw_below_drewN | apply below_drew1 | refine below_set ?_ GE110.out) | exact HB.out)⟩⟩
 }
 {
 rw [if_neg c5] at H
 have c5b0 : (a0_0 == 0) = false := beq_eq_false_iff_ne.mpr c5
 have c5b1 : (a0_0 != 0) = true := bne_iff_ne.mpr c5
 (first | rw [c5b0] | (simp only [i64_w, i32_w]; rw [c5b0]) | skip)
 have H' := ak H
 clear H
 go_wp2
 go_meet
 case rel => exact ⟨_, ((a0_0 == 3)), (by first | rfl | (simp; done) | (simp [*]; done)), H', ⟨by first | omega | exact Nat.le_refl _⟩, ⟨by (with_reducible repeat (first | refine blk_drewN ?_ _ | refine blk_drew ?_ | refine blk_alloc ?_ _)); exact BK110.out⟩, ⟨by repeat (first | (with_reducible first | exact HB.out | apply below_alloc | apply pw_below_drewN | apply below_drew1 | refine below_set ?_ GE110.out) | exact HB.out)⟩⟩
 }
 )
 case rest => (
 clear HC2
 try clear c2
 try clear p2
 try clear c5
 try clear c5b0
 try clear c5b1
 try clear hcz4_0
 try clear hcz4_1
 try clear hcz4_2
 try clear hfz4_0
 try clear hfz4_1
 try clear hfz4_2
 obtain ⟨kq, x5_1, rfl, HA, HJ1, BK110, HB⟩ := hcut
 cases kq with
 | zero => exact absurd HA.out (by simp [spec_l04Habit.j0])
 | succ kj1 => (
 have H := HA.out
 clear HA
 simp only [spec_l04Habit.j0] at H
 by_cases c6 : x5_1 = true
 {
 subst c6
 have H1 : (if a0_1 = 0 then (some (a0_2 == 0)) else (some false)) = some r := by rw [if_pos rfl] at H; exact H
 clear H
 have H := H1
 clear H1
 by_cases c7 : a0_1 = 0
 {
 rw [if_pos c7] at H
 have c7b0 : (a0_1 == 0) = true := beq_iff_eq.mpr c7
 have c7b1 : (a0_1 != 0) = false := bne_eq_false_iff_eq.mpr c7
 clear c7
 obtain rfl := Option.some.inj H
 have hcz8_0 : wc.cell? ⟨gb110, 0, none⟩ = some (.int .i8 a0_0) := (blk_cell BK110.out 0).trans rfl
 have hcz8_1 : wc.cell? ⟨gb110, 1, none⟩ = some (.int .u8 a0_1) := (blk_cell BK110.out 1).trans rfl
 have hcz8_2 : wc.cell? ⟨gb110, 2, none⟩ = some (.int .u8 a0_2) := (blk_cell BK110.out 2).trans rfl
 have hfz8_0 := blk_frozen BK110.out 0
 have hfz8_1 := blk_frozen BK110.out 1
 have hfz8_2 := blk_frozen BK110.out 2
 go_wp2
 go_ret
 exact ⟨by first | rfl | (simp [errW_none, errW_some] <;> rfl) | (simp [*, errW_none, errW_some] <;> rfl), by repeat (first | (with_reducible first | exact HB.out | apply below_alloc | apply pw_below_drewN | apply below_drew1 | refine below_set ?_ GE110.out) | exact HB.out)⟩
 }
 {
 rw [if_neg c7] at H
 have c7b0 : (a0_1 == 0) = false := beq_eq_false_iff_ne.mpr c7
 have c7b1 : (a0_1 != 0) = true := bne_iff_ne.mpr c7
 obtain rfl := Option.some.inj H
 have hcz9_0 : wc.cell? ⟨gb110, 0, none⟩ = some (.int .i8 a0_0) := (blk_cell BK110.out 0).trans rfl
 have hcz9_1 : wc.cell? ⟨gb110, 1, none⟩ = some (.int .u8 a0_1) := (blk_cell BK110.out 1).trans rfl
 have hcz9_2 : wc.cell? ⟨gb110, 2, none⟩ = some (.int .u8 a0_2) := (blk_cell BK110.out 2).trans rfl
 have hfz9_0 := blk_frozen BK110.out 0
 have hfz9_1 := blk_frozen BK110.out 1
 have hfz9_2 := blk_frozen BK110.out 2
 go_wp2
 go_ret
 exact ⟨by first | rfl | (simp [errW_none, errW_some] <;> rfl) | (simp [*, errW_none, errW_some] <;> rfl), by repeat (first | (with_reducible first | exact HB.out | apply below_alloc | apply pw_below_drewN | apply below_drew1 | refine below_set ?_ GE110.out) | exact HB.out)⟩
 }
 }
 {
 replace c6 := Bool.eq_false_iff.mpr c6
 subst c6
 have H1 : (if a0_0 = 1 then ((spec_l04Letter.f a0_1).bind fun t111 => (if t111 = true then ((spec_l04Letter.f a0_2).bind fun t112 => (if t112 = true then (some (a0_1 != a0_2)) else (some false))) else (some false))) else (if a0_0 = 2 then ((spec_l04Letter.f a0_1).bind fun t113 => (if t113 = true then (some (a0_2 == 0)) else (some false))) else (if a0_0 = 4 then ((spec_l04Letter.f a0_1).bind fun t114 => (if t114 = true then (some (a0_2 == 0)) else (some false))) else (some false)))) = some r := by rw [if_neg (show ¬ (false = true) by decide)] at H; exact H
 clear H
 have H := H1
 clear H1
 by_cases c10 : a0_0 = 1
 {
 rw [if_pos c10] at H
 have c10b0 : (a0_0 == 1) = true := beq_iff_eq.mpr c10
 have c10b1 : (a0_0 != 1) = false := bne_eq_false_iff_eq.mpr c10
 clear c10
 replace H := Option.bind_eq_some_iff.mp H
 obtain ⟨t111, A110, H⟩ := H
 replace H : (if t111 = true then ((spec_l04Letter.f a0_2).bind fun t112 => (if t112 = true then (some (a0_1 != a0_2)) else (some false))) else (some false)) = some r := H
 have A11 := ak A110
 clear A110
 by_cases c12 : t111 = true
 {
 subst c12
 have H1 : ((spec_l04Letter.f a0_2).bind fun t112 => (if t112 = true then (some (a0_1 != a0_2)) else (some false))) = some r := by rw [if_pos rfl] at H; exact H
 clear H
 have H := H1
 clear H1
 replace H := Option.bind_eq_some_iff.mp H
 obtain ⟨t112, A130, H⟩ := H
 replace H : (if t112 = true then (some (a0_1 != a0_2)) else (some false)) = some r := H
 have A13 := ak A130
 clear A130
 by_cases c14 : t112 = true
 {
 subst c14
 have H1 : (some (a0_1 != a0_2)) = some r := by rw [if_pos rfl] at H; exact H
 clear H
 have H := H1
 clear H1
 obtain rfl := Option.some.inj H
 have hcz15_0 : wc.cell? ⟨gb110, 0, none⟩ = some (.int .i8 a0_0) := (blk_cell BK110.out 0).trans rfl
 have hcz15_1 : wc.cell? ⟨gb110, 1, none⟩ = some (.int .u8 a0_1) := (blk_cell BK110.out 1).trans rfl
 have hcz15_2 : wc.cell? ⟨gb110, 2, none⟩ = some (.int .u8 a0_2) := (blk_cell BK110.out 2).trans rfl
 have hfz15_0 := blk_frozen BK110.out 0
 have hfz15_1 := blk_frozen BK110.out 1
 have hfz15_2 := blk_frozen BK110.out 2
 go_wp2_with (first | ((with_reducible refine gate_callee (f := 41) rfl ?_); refine goesL_ (some 20) rfl rfl Tryd.func41 (by kernel_rfl) rfl #[.int .u8 a0_1] rfl (by (try simp only [List.map_toArray, List.map_cons, List.map_nil]); first | done | rfl | (simp only [List.length_drop, List.length_take]; rfl)) ?_; (with_reducible refine (spec_l04Letter.calls a0_1 true _ A11.out).mono ?_); rintro e w' ⟨rfl, ⟨nd, rfl⟩⟩; refine ⟨_, rfl, ?_⟩) | (go_at_call 41; (with_reducible refine (spec_l04Letter.calls a0_2 true _ A13.out).mono ?_); rintro e w' ⟨rfl, ⟨nd, rfl⟩⟩))
 go_ret
 exact ⟨by first | rfl | (simp [errW_none, errW_some] <;> rfl) | (simp [*, errW_none, errW_some] <;> rfl), by repeat (first | (with_reducible first | exact HB.out | apply below_alloc | apply pw_below_drewN | apply below_drew1 | refine below_set ?_ GE110.out) | exact HB.out)⟩
 }
 {
 replace c14 := Bool.eq_false_iff.mpr c14
 subst c14
 have H1 : (some false) = some r := by rw [if_neg (show ¬ (false = true) by decide)] at H; exact H
 clear H
 have H := H1
 clear H1
 obtain rfl := Option.some.inj H
 have hcz16_0 : wc.cell? ⟨gb110, 0, none⟩ = some (.int .i8 a0_0) := (blk_cell BK110.out 0).trans rfl
 have hcz16_1 : wc.cell? ⟨gb110, 1, none⟩ = some (.int .u8 a0_1) := (blk_cell BK110.out 1).trans rfl
 have hcz16_2 : wc.cell? ⟨gb110, 2, none⟩ = some (.int .u8 a0_2) := (blk_cell BK110.out 2).trans rfl
 have hfz16_0 := blk_frozen BK110.out 0
 have hfz16_1 := blk_frozen BK110.out 1
 have hfz16_2 := blk_frozen BK110.out 2
 go_wp2_with (first | ((with_reducible refine gate_callee (f := 41) rfl ?_); refine goesL_ (some 20) rfl rfl Tryd.func41 (by kernel_rfl) rfl #[.int .u8 a0_1] rfl (by (try simp only [List.map_toArray, List.map_cons, List.map_nil]); first | done | rfl | (simp only [List.length_drop, List.length_take]; rfl)) ?_; (with_reducible refine (spec_l04Letter.calls a0_1 true _ A11.out).mono ?_); rintro e w' ⟨rfl, ⟨nd, rfl⟩⟩; refine ⟨_, rfl, ?_⟩) | (go_at_call 41; (with_reducible refine (spec_l04Letter.calls a0_2 false _ A13.out).mono ?_); rintro e w' ⟨rfl, ⟨nd, rfl⟩⟩))
 go_ret
 exact ⟨by first | rfl | (simp [errW_none, errW_some] <;> rfl) | (simp [*, errW_none, errW_some] <;> rfl), by repeat (first | (with_reducible first | exact HB.out | apply below_alloc | apply pw_below_drewN | apply below_drew1 | refine below_set ?_ GE110.out) | exact HB.out)⟩
 }
 }
 {
 replace c12 := Bool.eq_false_iff.mpr c12
 subst c12
 have H1 : (some false) = some r := by rw [if_neg (show ¬ (false = true) by decide)] at H; exact H
 clear H
 have H := H1
 clear H1
 obtain rfl := Option.some.inj H
 have hcz17_0 : wc.cell? ⟨gb110, 0, none⟩ = some (.int .i8 a0_0) := (blk_cell BK110.out 0).trans rfl
 have hcz17_1 : wc.cell? ⟨gb110, 1, none⟩ = some (.int .u8 a0_1) := (blk_cell BK110.out 1).trans rfl
 have hcz17_2 : wc.cell? ⟨gb110, 2, none⟩ = some (.int .u8 a0_2) := (blk_cell BK110.out 2).trans rfl
 have hfz17_0 := blk_frozen BK110.out 0
 have hfz17_1 := blk_frozen BK110.out 1
 have hfz17_2 := blk_frozen BK110.out 2
 go_wp2_with (first | ((with_reducible refine gate_callee (f := 41) rfl ?_); refine goesL_ (some 20) rfl rfl Tryd.func41 (by kernel_rfl) rfl #[.int .u8 a0_1] rfl (by (try simp only [List.map_toArray, List.map_cons, List.map_nil]); first | done | rfl | (simp only [List.length_drop, List.length_take]; rfl)) ?_; (with_reducible refine (spec_l04Letter.calls a0_1 false _ A11.out).mono ?_); rintro e w' ⟨rfl, ⟨nd, rfl⟩⟩; refine ⟨_, rfl, ?_⟩))
 go_ret
 exact ⟨by first | rfl | (simp [errW_none, errW_some] <;> rfl) | (simp [*, errW_none, errW_some] <;> rfl), by repeat (first | (with_reducible first | exact HB.out | apply below_alloc | apply pw_below_drewN | apply below_drew1 | refine below_set ?_ GE110.out) | exact HB.out)⟩
 }
 }
 {
 rw [if_neg c10] at H
 have c10b0 : (a0_0 == 1) = false := beq_eq_false_iff_ne.mpr c10
 have c10b1 : (a0_0 != 1) = true := bne_iff_ne.mpr c10
 by_cases c18 : a0_0 = 2
 {
 rw [if_pos c18] at H
 have c18b0 : (a0_0 == 2) = true := beq_iff_eq.mpr c18
 have c18b1 : (a0_0 != 2) = false := bne_eq_false_iff_eq.mpr c18
 clear c18
 replace H := Option.bind_eq_some_iff.mp H
 obtain ⟨t113, A190, H⟩ := H
 replace H : (if t113 = true then (some (a0_2 == 0)) else (some false)) = some r := H
 have A19 := ak A190
 clear A190
 by_cases c20 : t113 = true
 {
 subst c20
 have H1 : (some (a0_2 == 0)) = some r := by rw [if_pos rfl] at H; exact H
 clear H
 have H := H1
 clear H1
 obtain rfl := Option.some.inj H
 have hcz21_0 : wc.cell? ⟨gb110, 0, none⟩ = some (.int .i8 a0_0) := (blk_cell BK110.out 0).trans rfl
 have hcz21_1 : wc.cell? ⟨gb110, 1, none⟩ = some (.int .u8 a0_1) := (blk_cell BK110.out 1).trans rfl
 have hcz21_2 : wc.cell? ⟨gb110, 2, none⟩ = some (.int .u8 a0_2) := (blk_cell BK110.out 2).trans rfl
 have hfz21_0 := blk_frozen BK110.out 0
 have hfz21_1 := blk_frozen BK110.out 1
 have hfz21_2 := blk_frozen BK110.out 2
 go_wp2_with (first | ((with_reducible refine gate_callee (f := 41) rfl ?_); refine goesL_ (some 38) rfl rfl Tryd.func41 (by kernel_rfl) rfl #[.int .u8 a0_1] rfl (by (try simp only [List.map_toArray, List.map_cons, List.map_nil]); first | done | rfl | (simp only [List.length_drop, List.length_take]; rfl)) ?_; (with_reducible refine (spec_l04Letter.calls a0_1 true _ A19.out).mono ?_); rintro e w' ⟨rfl, ⟨nd, rfl⟩⟩; refine ⟨_, rfl, ?_⟩))
 go_ret
 exact ⟨by first | rfl | (simp [errW_none, errW_some] <;> rfl) | (simp [*, errW_none, errW_some] <;> rfl), by repeat (first | (with_reducible first | exact HB.out | apply below_alloc | apply pw_below_drewN | apply below_drew1 | refine below_set ?_ GE110.out) | exact HB.out)⟩
 }
 {
 replace c20 := Bool.eq_false_iff.mpr c20
 subst c20
 have H1 : (some false) = some r := by rw [if_neg (show ¬ (false = true) by decide)] at H; exact H
 clear H
 have H := H1
 clear H1
 obtain rfl := Option.some.inj H
 have hcz22_0 : wc.cell? ⟨gb110, 0, none⟩ = some (.int .i8 a0_0) := (blk_cell BK110.out 0).trans rfl
 have hcz22_1 : wc.cell? ⟨gb110, 1, none⟩ = some (.int .u8 a0_1) := (blk_cell BK110.out 1).trans rfl
 have hcz22_2 : wc.cell? ⟨gb110, 2, none⟩ = some (.int .u8 a0_2) := (blk_cell BK110.out 2).trans rfl
 have hfz22_0 := blk_frozen BK110.out 0
 have hfz22_1 := blk_frozen BK110.out 1
 have hfz22_2 := blk_frozen BK110.out 2
 go_wp2_with (first | ((with_reducible refine gate_callee (f := 41) rfl ?_); refine goesL_ (some 38) rfl rfl Tryd.func41 (by kernel_rfl) rfl #[.int .u8 a0_1] rfl (by (try simp only [List.map_toArray, List.map_cons, List.map_nil]); first | done | rfl | (simp only [List.length_drop, List.length_take]; rfl)) ?_; (with_reducible refine (spec_l04Letter.calls a0_1 false _ A19.out).mono ?_); rintro e w' ⟨rfl, ⟨nd, rfl⟩⟩; refine ⟨_, rfl, ?_⟩))
 go_ret
 exact ⟨by first | rfl | (simp [errW_none, errW_some] <;> rfl) | (simp [*, errW_none, errW_some] <;> rfl), by repeat (first | (with_reducible first | exact HB.out | apply below_alloc | apply pw_below_drewN | apply below_drew1 | refine below_set ?_ GE110.out) | exact HB.out)⟩
 }
 }
 {
 rw [if_neg c18] at H
 have c18b0 : (a0_0 == 2) = false := beq_eq_false_iff_ne.mpr c18
 have c18b1 : (a0_0 != 2) = true := bne_iff_ne.mpr c18
 by_cases c23 : a0_0 = 4
 {
 rw [if_pos c23] at H
 have c23b0 : (a0_0 == 4) = true := beq_iff_eq.mpr c23
 have c23b1 : (a0_0 != 4) = false := bne_eq_false_iff_eq.mpr c23
 clear c23
 replace H := Option.bind_eq_some_iff.mp H
 obtain ⟨t114, A240, H⟩ := H
 replace H : (if t114 = true then (some (a0_2 == 0)) else (some false)) = some r := H
 have A24 := ak A240
 clear A240
 by_cases c25 : t114 = true
 {
 subst c25
 have H1 : (some (a0_2 == 0)) = some r := by rw [if_pos rfl] at H; exact H
 clear H
 have H := H1
 clear H1
 obtain rfl := Option.some.inj H
 have hcz26_0 : wc.cell? ⟨gb110, 0, none⟩ = some (.int .i8 a0_0) := (blk_cell BK110.out 0).trans rfl
 have hcz26_1 : wc.cell? ⟨gb110, 1, none⟩ = some (.int .u8 a0_1) := (blk_cell BK110.out 1).trans rfl
 have hcz26_2 : wc.cell? ⟨gb110, 2, none⟩ = some (.int .u8 a0_2) := (blk_cell BK110.out 2).trans rfl
 have hfz26_0 := blk_frozen BK110.out 0
 have hfz26_1 := blk_frozen BK110.out 1
 have hfz26_2 := blk_frozen BK110.out 2
 go_wp2_with (first | ((with_reducible refine gate_callee (f := 41) rfl ?_); refine goesL_ (some 38) rfl rfl Tryd.func41 (by kernel_rfl) rfl #[.int .u8 a0_1] rfl (by (try simp only [List.map_toArray, List.map_cons, List.map_nil]); first | done | rfl | (simp only [List.length_drop, List.length_take]; rfl)) ?_; (with_reducible refine (spec_l04Letter.calls a0_1 true _ A24.out).mono ?_); rintro e w' ⟨rfl, ⟨nd, rfl⟩⟩; refine ⟨_, rfl, ?_⟩))
 go_ret
 exact ⟨by first | rfl | (simp [errW_none, errW_some] <;> rfl) | (simp [*, errW_none, errW_some] <;> rfl), by repeat (first | (with_reducible first | exact HB.out | apply below_alloc | apply pw_below_drewN | apply below_drew1 | refine below_set ?_ GE110.out) | exact HB.out)⟩
 }
 {
 replace c25 := Bool.eq_false_iff.mpr c25
 subst c25
 have H1 : (some false) = some r := by rw [if_neg (show ¬ (false = true) by decide)] at H; exact H
 clear H
 have H := H1
 clear H1
 obtain rfl := Option.some.inj H
 have hcz27_0 : wc.cell? ⟨gb110, 0, none⟩ = some (.int .i8 a0_0) := (blk_cell BK110.out 0).trans rfl
 have hcz27_1 : wc.cell? ⟨gb110, 1, none⟩ = some (.int .u8 a0_1) := (blk_cell BK110.out 1).trans rfl
 have hcz27_2 : wc.cell? ⟨gb110, 2, none⟩ = some (.int .u8 a0_2) := (blk_cell BK110.out 2).trans rfl
 have hfz27_0 := blk_frozen BK110.out 0
 have hfz27_1 := blk_frozen BK110.out 1
 have hfz27_2 := blk_frozen BK110.out 2
 go_wp2_with (first | ((with_reducible refine gate_callee (f := 41) rfl ?_); refine goesL_ (some 38) rfl rfl Tryd.func41 (by kernel_rfl) rfl #[.int .u8 a0_1] rfl (by (try simp only [List.map_toArray, List.map_cons, List.map_nil]); first | done | rfl | (simp only [List.length_drop, List.length_take]; rfl)) ?_; (with_reducible refine (spec_l04Letter.calls a0_1 false _ A24.out).mono ?_); rintro e w' ⟨rfl, ⟨nd, rfl⟩⟩; refine ⟨_, rfl, ?_⟩))
 go_ret
 exact ⟨by first | rfl | (simp [errW_none, errW_some] <;> rfl) | (simp [*, errW_none, errW_some] <;> rfl), by repeat (first | (with_reducible first | exact HB.out | apply below_alloc | apply pw_below_drewN | apply below_drew1 | refine below_set ?_ GE110.out) | exact HB.out)⟩
 }
 }
 {
 rw [if_neg c23] at H
 have c23b0 : (a0_0 == 4) = false := beq_eq_false_iff_ne.mpr c23
 have c23b1 : (a0_0 != 4) = true := bne_iff_ne.mpr c23
 obtain rfl := Option.some.inj H
 go_wp2
 go_ret
 exact ⟨by first | rfl | (simp [errW_none, errW_some] <;> rfl) | (simp [*, errW_none, errW_some] <;> rfl), by repeat (first | (with_reducible first | exact HB.out | apply below_alloc | apply pw_below_drewN | apply below_drew1 | refine below_set ?_ GE110.out) | exact HB.out)⟩
 }
 }
 }
 }
 )
 )
/-! ### spec_l04Text: function 21 -/
def spec_l04Text.f (a0_0 : Int) (a0_1 : Int) (a0_2 : Int) : Option (ByteArray) := (some (([a0_1] : List Int) : List Int)).bind fun y116 => (if a0_0 = 1 then (if 5 + (strOfNums y116).size ≤ 9223372036854775807 then (if 5 + (strOfNums y116).size + 1 ≤ 9223372036854775807 then ((some (([a0_2] : List Int) : List Int)).bind fun y119 => (if 5 + (strOfNums y116).size + 1 + (strOfNums y119).size ≤ 9223372036854775807 then (some ((((⟨#[115, 119, 97, 112, 32]⟩ : ByteArray) ++ (strOfNums y116)) ++ (⟨#[32]⟩ : ByteArray)) ++ (strOfNums y119))) else (none))) else (none)) else (none)) else (if a0_0 = 2 then (if 5 + (strOfNums y116).size ≤ 9223372036854775807 then (some ((⟨#[100, 114, 111, 112, 32]⟩ : ByteArray) ++ (strOfNums y116))) else (none)) else (if a0_0 = 3 then (some (⟨#[100, 111, 117, 98, 108, 101]⟩ : ByteArray)) else (if a0_0 = 4 then (if 5 + (strOfNums y116).size ≤ 9223372036854775807 then (some ((⟨#[116, 117, 114, 110, 32]⟩ : ByteArray) ++ (strOfNums y116))) else (none)) else (some (⟨#[110, 111, 110, 101]⟩ : ByteArray))))))
set_option maxHeartbeats 8000000 in
set_option maxRecDepth 100000 in
theorem spec_l04Text.calls (a0_0 : Int) (a0_1 : Int) (a0_2 : Int) (r : ByteArray) (w : World) (h : spec_l04Text.f a0_0 a0_1 a0_2 = some r) :
    Calls Tryd.prog 21 #[.agg #[.int .i8 a0_0, .int .u8 a0_1, .int .u8 a0_2]] w fun e w' => e = .returned (.string r) ∧ Below w.heap.size w w' := by
 have hu24 := Tryd.underlying24
 have HB := ak (Below.refl w.heap.size w)
 have H : ((some (([a0_1] : List Int) : List Int)).bind fun y116 => (if a0_0 = 1 then (if 5 + (strOfNums y116).size ≤ 9223372036854775807 then (if 5 + (strOfNums y116).size + 1 ≤ 9223372036854775807 then ((some (([a0_2] : List Int) : List Int)).bind fun y119 => (if 5 + (strOfNums y116).size + 1 + (strOfNums y119).size ≤ 9223372036854775807 then (some ((((⟨#[115, 119, 97, 112, 32]⟩ : ByteArray) ++ (strOfNums y116)) ++ (⟨#[32]⟩ : ByteArray)) ++ (strOfNums y119))) else (none))) else (none)) else (none)) else (if a0_0 = 2 then (if 5 + (strOfNums y116).size ≤ 9223372036854775807 then (some ((⟨#[100, 114, 111, 112, 32]⟩ : ByteArray) ++ (strOfNums y116))) else (none)) else (if a0_0 = 3 then (some (⟨#[100, 111, 117, 98, 108, 101]⟩ : ByteArray)) else (if a0_0 = 4 then (if 5 + (strOfNums y116).size ≤ 9223372036854775807 then (some ((⟨#[116, 117, 114, 110, 32]⟩ : ByteArray) ++ (strOfNums y116))) else (none)) else (some (⟨#[110, 111, 110, 101]⟩ : ByteArray))))))) = some r := h
 clear h
 obtain ⟨y116, hy116⟩ : ∃ y_ : List Int, y_ = (([a0_1] : List Int)) := ⟨_, rfl⟩
 replace H : (if a0_0 = 1 then (if 5 + (strOfNums y116).size ≤ 9223372036854775807 then (if 5 + (strOfNums y116).size + 1 ≤ 9223372036854775807 then ((some (([a0_2] : List Int) : List Int)).bind fun y119 => (if 5 + (strOfNums y116).size + 1 + (strOfNums y119).size ≤ 9223372036854775807 then (some ((((⟨#[115, 119, 97, 112, 32]⟩ : ByteArray) ++ (strOfNums y116)) ++ (⟨#[32]⟩ : ByteArray)) ++ (strOfNums y119))) else (none))) else (none)) else (none)) else (if a0_0 = 2 then (if 5 + (strOfNums y116).size ≤ 9223372036854775807 then (some ((⟨#[100, 114, 111, 112, 32]⟩ : ByteArray) ++ (strOfNums y116))) else (none)) else (if a0_0 = 3 then (some (⟨#[100, 111, 117, 98, 108, 101]⟩ : ByteArray)) else (if a0_0 = 4 then (if 5 + (strOfNums y116).size ≤ 9223372036854775807 then (some ((⟨#[116, 117, 114, 110, 32]⟩ : ByteArray) ++ (strOfNums y116))) else (none)) else (some (⟨#[110, 111, 110, 101]⟩ : ByteArray)))))) = some r := by first | (rw [hy116]; with_reducible exact H) | (have H2_ := (Option.bind_some _ _).symm.trans H; rw [hy116]; with_reducible exact H2_) | (have H2_ := (Option.bind_some _ _).symm.trans H; with_reducible exact H2_) | with_reducible exact H | (rw [hy116]; exact H) | exact H
 have Ny116 := ak hy116
 clear hy116
 by_cases c2 : a0_0 = 1
 {
 rw [if_pos c2] at H
 have c2b0 : (a0_0 == 1) = true := beq_iff_eq.mpr c2
 have c2b1 : (a0_0 != 1) = false := bne_eq_false_iff_eq.mpr c2
 clear c2
 by_cases c3 : 5 + (strOfNums y116).size ≤ 9223372036854775807
 {
 rw [if_pos c3] at H
 have c3b0 := eq_true c3
 have c3b1 : decide (5 + (strOfNums y116).size ≤ 9223372036854775807) = true := decide_eq_true c3
 try have c3b2 : (9223372036854775807 < 5 + (strOfNums y116).size) = False := eq_false (Nat.not_lt.2 c3)
 by_cases c4 : 5 + (strOfNums y116).size + 1 ≤ 9223372036854775807
 {
 rw [if_pos c4] at H
 have c4b0 := eq_true c4
 have c4b1 : decide (5 + (strOfNums y116).size + 1 ≤ 9223372036854775807) = true := decide_eq_true c4
 try have c4b2 : (9223372036854775807 < 5 + (strOfNums y116).size + 1) = False := eq_false (Nat.not_lt.2 c4)
 obtain ⟨y119, hy119⟩ : ∃ y_ : List Int, y_ = (([a0_2] : List Int)) := ⟨_, rfl⟩
 replace H : (if 5 + (strOfNums y116).size + 1 + (strOfNums y119).size ≤ 9223372036854775807 then (some ((((⟨#[115, 119, 97, 112, 32]⟩ : ByteArray) ++ (strOfNums y116)) ++ (⟨#[32]⟩ : ByteArray)) ++ (strOfNums y119))) else (none)) = some r := by first | (rw [hy119]; with_reducible exact H) | (have H2_ := (Option.bind_some _ _).symm.trans H; rw [hy119]; with_reducible exact H2_) | (have H2_ := (Option.bind_some _ _).symm.trans H; with_reducible exact H2_) | with_reducible exact H | (rw [hy119]; exact H) | exact H
 have Ny119 := ak hy119
 clear hy119
 by_cases c5 : 5 + (strOfNums y116).size + 1 + (strOfNums y119).size ≤ 9223372036854775807
 {
 rw [if_pos c5] at H
 have c5b0 := eq_true c5
 have c5b1 : decide (5 + (strOfNums y116).size + 1 + (strOfNums y119).size ≤ 9223372036854775807) = true := decide_eq_true c5
 try have c5b2 : (9223372036854775807 < 5 + (strOfNums y116).size + 1 + (strOfNums y119).size) = False := eq_false (Nat.not_lt.2 c5)
 obtain rfl := Option.some.inj H
 go_enter Tryd.func21, Tryd.ntmps21
 go_wp2_with (first | ((with_reducible refine gate_dst (N := 1) rfl ?_); refine box_event ?hg (N := 1) ?hd (cs := #[.int .i8 a0_0, .int .u8 a0_1, .int .u8 a0_2]) (t := 24) ?hr ?_; (case hd => rfl); (case hg => rfl); (case hr => first | (go_simp; done) | (go_simp; rfl)); intro gb115 hg w6 hbox hb; have n0_ := ak (below_step (zB HB.out) hb); have n1_ := ak (hbox); have n2_ := ak ((by rw [hg]; exact (below_size (zB HB.out)) : w.heap.size ≤ gb115)); have n3_ := ak ((by rw [hg]; exact (below_size (zB HB.out)) : w.heap.size ≤ gb115)); clear HB; have HB := n0_; have BK115 := n1_; have GW115 := n2_; have GE115 := n3_; clear n0_ n1_ n2_ n3_; clear hb hbox hg; have hcz7_0 : w6.cell? ⟨gb115, 0, none⟩ = some (.int .i8 a0_0) := (blk_cell BK115.out 0).trans rfl; have hcz7_1 : w6.cell? ⟨gb115, 1, none⟩ = some (.int .u8 a0_1) := (blk_cell BK115.out 1).trans rfl; have hcz7_2 : w6.cell? ⟨gb115, 2, none⟩ = some (.int .u8 a0_2) := (blk_cell BK115.out 2).trans rfl; have hfz7_0 := blk_frozen BK115.out 0; have hfz7_1 := blk_frozen BK115.out 1; have hfz7_2 := blk_frozen BK115.out 2) | ((with_reducible refine gate_dst (N := 6) rfl ?_); refine Kd.R_lit (Kd.int .u8) _ 5 ?hg (N := 6) ?hd (xs := ([a0_1] : List Int)) (inner := [.int .u8 a0_1]) (ok := fun _ => True) (okp := fun _ => True) ?hr ?hp (fun _ hk => hk) trivial (Below.refl _ _) (Nat.le_refl _) (by simp) ?_; (case hd => rfl); (case hg => rfl); (case hr => first | (go_simp; done) | (go_simp; rfl)); (case hp => exact (Reps.one (show Kd.M (Kd.int .u8) _ _ _ a0_1 [.int .u8 a0_1] from rfl) (Reps.none _ _))); intro v117 w8 ho9 hb hg_ hnew_; clear hg_ hnew_; (first | rw [← Ny116.out] at ho9 | (simp only [Int.reduceToNat] at ho9; rw [← Ny116.out] at ho9)); have n0_ := ak (Kd.R_lower ho9 (below_size (zBG HB.out GE115.out))); have n1_ := ak (blk_below (g := gb115) (o := .cells #[.int .i8 a0_0, .int .u8 a0_1, .int .u8 a0_2] 24 (0, 0)) (zK BK115.out) hb); have n2_ := ak (below_step (zBG HB.out GE115.out) hb); clear BK115 HB; have HO118 := n0_; have BK115 := n1_; have HB := n2_; clear n0_ n1_ n2_; clear hb ho9; have hcv10 := own_string (P := Tryd.prog) Tryd.underlying74 Tryd.underlying5 Tryd.underlying9 (Kd.own_of_R HO118.out); have hcz11_0 : w8.cell? ⟨gb115, 0, none⟩ = some (.int .i8 a0_0) := (blk_cell BK115.out 0).trans rfl; have hcz11_1 : w8.cell? ⟨gb115, 1, none⟩ = some (.int .u8 a0_1) := (blk_cell BK115.out 1).trans rfl; have hcz11_2 : w8.cell? ⟨gb115, 2, none⟩ = some (.int .u8 a0_2) := (blk_cell BK115.out 2).trans rfl; have hfz11_0 := blk_frozen BK115.out 0; have hfz11_1 := blk_frozen BK115.out 1; have hfz11_2 := blk_frozen BK115.out 2) | ((with_reducible refine gate_dst (N := 17) rfl ?_); refine Kd.R_lit (Kd.int .u8) _ 5 ?hg (N := 17) ?hd (xs := ([a0_2] : List Int)) (inner := [.int .u8 a0_2]) (ok := fun _ => True) (okp := fun _ => True) ?hr ?hp (fun _ hk => hk) trivial (Below.refl _ _) (Nat.le_refl _) (by simp) ?_; (case hd => rfl); (case hg => rfl); (case hr => first | (go_simp; done) | (go_simp; rfl)); (case hp => exact (Reps.one (show Kd.M (Kd.int .u8) _ _ _ a0_2 [.int .u8 a0_2] from rfl) (Reps.none _ _))); intro v120 w12 ho13 hb hg_ hnew_; clear hg_ hnew_; (first | rw [← Ny119.out] at ho13 | (simp only [Int.reduceToNat] at ho13; rw [← Ny119.out] at ho13)); have n0_ := ak (Kd.R_elder' (zR HO118.out) (Kd.R_base ho13) hb); have n1_ := ak (Kd.R_lower (Kd.R_new' ho13 (Kd.R_lt (zR HO118.out))) (below_size (zBG HB.out GE115.out))); have n2_ := ak (blk_below (g := gb115) (o := .cells #[.int .i8 a0_0, .int .u8 a0_1, .int .u8 a0_2] 24 (0, 0)) (zK BK115.out) hb); have n3_ := ak (below_step (zBG HB.out GE115.out) hb); clear HO118 BK115 HB; have HO118 := n0_; have HO121 := n1_; have BK115 := n2_; have HB := n3_; clear n0_ n1_ n2_ n3_; clear hb ho13; have hcv14 := own_string (P := Tryd.prog) Tryd.underlying74 Tryd.underlying5 Tryd.underlying9 (Kd.own_of_R HO121.out)))
 go_ret
 exact ⟨by first | rfl | (simp [errW_none, errW_some] <;> rfl) | (simp [*, errW_none, errW_some] <;> rfl), by repeat (first | (with_reducible first | exact HB.out | apply below_alloc | apply pw_below_drewN | apply below_drew1 | refine below_set ?_ GE115.out) | exact HB.out)⟩
 }
 · rw [if_neg c5] at H; exact absurd H (by simp)
 }
 · rw [if_neg c4] at H; exact absurd H (by simp)
 }
 · rw [if_neg c3] at H; exact absurd H (by simp)
 }
 {
 rw [if_neg c2] at H
 have c2b0 : (a0_0 == 1) = false := beq_eq_false_iff_ne.mpr c2
 have c2b1 : (a0_0 != 1) = true := bne_iff_ne.mpr c2
 by_cases c15 : a0_0 = 2
 {
 rw [if_pos c15] at H
 have c15b0 : (a0_0 == 2) = true := beq_iff_eq.mpr c15
 have c15b1 : (a0_0 != 2) = false := bne_eq_false_iff_eq.mpr c15
 clear c15
 by_cases c16 : 5 + (strOfNums y116).size ≤ 9223372036854775807
 {
 rw [if_pos c16] at H
 have c16b0 := eq_true c16
 have c16b1 : decide (5 + (strOfNums y116).size ≤ 9223372036854775807) = true := decide_eq_true c16
 try have c16b2 : (9223372036854775807 < 5 + (strOfNums y116).size) = False := eq_false (Nat.not_lt.2 c16)
 obtain rfl := Option.some.inj H
 go_enter Tryd.func21, Tryd.ntmps21
 go_wp2_with (first | ((with_reducible refine gate_dst (N := 1) rfl ?_); refine box_event ?hg (N := 1) ?hd (cs := #[.int .i8 a0_0, .int .u8 a0_1, .int .u8 a0_2]) (t := 24) ?hr ?_; (case hd => rfl); (case hg => rfl); (case hr => first | (go_simp; done) | (go_simp; rfl)); intro gb115 hg w17 hbox hb; have n0_ := ak (below_step (zB HB.out) hb); have n1_ := ak (hbox); have n2_ := ak ((by rw [hg]; exact (below_size (zB HB.out)) : w.heap.size ≤ gb115)); have n3_ := ak ((by rw [hg]; exact (below_size (zB HB.out)) : w.heap.size ≤ gb115)); clear HB; have HB := n0_; have BK115 := n1_; have GW115 := n2_; have GE115 := n3_; clear n0_ n1_ n2_ n3_; clear hb hbox hg; have hcz18_0 : w17.cell? ⟨gb115, 0, none⟩ = some (.int .i8 a0_0) := (blk_cell BK115.out 0).trans rfl; have hcz18_1 : w17.cell? ⟨gb115, 1, none⟩ = some (.int .u8 a0_1) := (blk_cell BK115.out 1).trans rfl; have hcz18_2 : w17.cell? ⟨gb115, 2, none⟩ = some (.int .u8 a0_2) := (blk_cell BK115.out 2).trans rfl; have hfz18_0 := blk_frozen BK115.out 0; have hfz18_1 := blk_frozen BK115.out 1; have hfz18_2 := blk_frozen BK115.out 2) | ((with_reducible refine gate_dst (N := 6) rfl ?_); refine Kd.R_lit (Kd.int .u8) _ 5 ?hg (N := 6) ?hd (xs := ([a0_1] : List Int)) (inner := [.int .u8 a0_1]) (ok := fun _ => True) (okp := fun _ => True) ?hr ?hp (fun _ hk => hk) trivial (Below.refl _ _) (Nat.le_refl _) (by simp) ?_; (case hd => rfl); (case hg => rfl); (case hr => first | (go_simp; done) | (go_simp; rfl)); (case hp => exact (Reps.one (show Kd.M (Kd.int .u8) _ _ _ a0_1 [.int .u8 a0_1] from rfl) (Reps.none _ _))); intro v117 w19 ho20 hb hg_ hnew_; clear hg_ hnew_; (first | rw [← Ny116.out] at ho20 | (simp only [Int.reduceToNat] at ho20; rw [← Ny116.out] at ho20)); have n0_ := ak (Kd.R_lower ho20 (below_size (zBG HB.out GE115.out))); have n1_ := ak (blk_below (g := gb115) (o := .cells #[.int .i8 a0_0, .int .u8 a0_1, .int .u8 a0_2] 24 (0, 0)) (zK BK115.out) hb); have n2_ := ak (below_step (zBG HB.out GE115.out) hb); clear BK115 HB; have HO118 := n0_; have BK115 := n1_; have HB := n2_; clear n0_ n1_ n2_; clear hb ho20; have hcv21 := own_string (P := Tryd.prog) Tryd.underlying74 Tryd.underlying5 Tryd.underlying9 (Kd.own_of_R HO118.out); have hcz22_0 : w19.cell? ⟨gb115, 0, none⟩ = some (.int .i8 a0_0) := (blk_cell BK115.out 0).trans rfl; have hcz22_1 : w19.cell? ⟨gb115, 1, none⟩ = some (.int .u8 a0_1) := (blk_cell BK115.out 1).trans rfl; have hcz22_2 : w19.cell? ⟨gb115, 2, none⟩ = some (.int .u8 a0_2) := (blk_cell BK115.out 2).trans rfl; have hfz22_0 := blk_frozen BK115.out 0; have hfz22_1 := blk_frozen BK115.out 1; have hfz22_2 := blk_frozen BK115.out 2))
 go_ret
 exact ⟨by first | rfl | (simp [errW_none, errW_some] <;> rfl) | (simp [*, errW_none, errW_some] <;> rfl), by repeat (first | (with_reducible first | exact HB.out | apply below_alloc | apply pw_below_drewN | apply below_drew1 | refine below_set ?_ GE115.out) | exact HB.out)⟩
 }
 · rw [if_neg c16] at H; exact absurd H (by simp)
 }
 {
 rw [if_neg c15] at H
 have c15b0 : (a0_0 == 2) = false := beq_eq_false_iff_ne.mpr c15
 have c15b1 : (a0_0 != 2) = true := bne_iff_ne.mpr c15
 by_cases c23 : a0_0 = 3
 {
 rw [if_pos c23] at H
 have c23b0 : (a0_0 == 3) = true := beq_iff_eq.mpr c23
 have c23b1 : (a0_0 != 3) = false := bne_eq_false_iff_eq.mpr c23
 clear c23
 obtain rfl := Option.some.inj H
 go_enter Tryd.func21, Tryd.ntmps21
 go_wp2_with (first | ((with_reducible refine gate_dst (N := 1) rfl ?_); refine box_event ?hg (N := 1) ?hd (cs := #[.int .i8 a0_0, .int .u8 a0_1, .int .u8 a0_2]) (t := 24) ?hr ?_; (case hd => rfl); (case hg => rfl); (case hr => first | (go_simp; done) | (go_simp; rfl)); intro gb115 hg w24 hbox hb; have n0_ := ak (below_step (zB HB.out) hb); have n1_ := ak (hbox); have n2_ := ak ((by rw [hg]; exact (below_size (zB HB.out)) : w.heap.size ≤ gb115)); have n3_ := ak ((by rw [hg]; exact (below_size (zB HB.out)) : w.heap.size ≤ gb115)); clear HB; have HB := n0_; have BK115 := n1_; have GW115 := n2_; have GE115 := n3_; clear n0_ n1_ n2_ n3_; clear hb hbox hg; have hcz25_0 : w24.cell? ⟨gb115, 0, none⟩ = some (.int .i8 a0_0) := (blk_cell BK115.out 0).trans rfl; have hcz25_1 : w24.cell? ⟨gb115, 1, none⟩ = some (.int .u8 a0_1) := (blk_cell BK115.out 1).trans rfl; have hcz25_2 : w24.cell? ⟨gb115, 2, none⟩ = some (.int .u8 a0_2) := (blk_cell BK115.out 2).trans rfl; have hfz25_0 := blk_frozen BK115.out 0; have hfz25_1 := blk_frozen BK115.out 1; have hfz25_2 := blk_frozen BK115.out 2) | ((with_reducible refine gate_dst (N := 6) rfl ?_); refine Kd.R_lit (Kd.int .u8) _ 5 ?hg (N := 6) ?hd (xs := ([a0_1] : List Int)) (inner := [.int .u8 a0_1]) (ok := fun _ => True) (okp := fun _ => True) ?hr ?hp (fun _ hk => hk) trivial (Below.refl _ _) (Nat.le_refl _) (by simp) ?_; (case hd => rfl); (case hg => rfl); (case hr => first | (go_simp; done) | (go_simp; rfl)); (case hp => exact (Reps.one (show Kd.M (Kd.int .u8) _ _ _ a0_1 [.int .u8 a0_1] from rfl) (Reps.none _ _))); intro v117 w26 ho27 hb hg_ hnew_; clear hg_ hnew_; (first | rw [← Ny116.out] at ho27 | (simp only [Int.reduceToNat] at ho27; rw [← Ny116.out] at ho27)); have n0_ := ak (Kd.R_lower ho27 (below_size (zBG HB.out GE115.out))); have n1_ := ak (blk_below (g := gb115) (o := .cells #[.int .i8 a0_0, .int .u8 a0_1, .int .u8 a0_2] 24 (0, 0)) (zK BK115.out) hb); have n2_ := ak (below_step (zBG HB.out GE115.out) hb); clear BK115 HB; have HO118 := n0_; have BK115 := n1_; have HB := n2_; clear n0_ n1_ n2_; clear hb ho27; have hcv28 := own_string (P := Tryd.prog) Tryd.underlying74 Tryd.underlying5 Tryd.underlying9 (Kd.own_of_R HO118.out); have hcz29_0 : w26.cell? ⟨gb115, 0, none⟩ = some (.int .i8 a0_0) := (blk_cell BK115.out 0).trans rfl; have hcz29_1 : w26.cell? ⟨gb115, 1, none⟩ = some (.int .u8 a0_1) := (blk_cell BK115.out 1).trans rfl; have hcz29_2 : w26.cell? ⟨gb115, 2, none⟩ = some (.int .u8 a0_2) := (blk_cell BK115.out 2).trans rfl; have hfz29_0 := blk_frozen BK115.out 0; have hfz29_1 := blk_frozen BK115.out 1; have hfz29_2 := blk_frozen BK115.out 2))
 go_ret
 exact ⟨by first | rfl | (simp [errW_none, errW_some] <;> rfl) | (simp [*, errW_none, errW_some] <;> rfl), by repeat (first | (with_reducible first | exact HB.out | apply below_alloc | apply pw_below_drewN | apply below_drew1 | refine below_set ?_ GE115.out) | exact HB.out)⟩
 }
 {
 rw [if_neg c23] at H
 have c23b0 : (a0_0 == 3) = false := beq_eq_false_iff_ne.mpr c23
 have c23b1 : (a0_0 != 3) = true := bne_iff_ne.mpr c23
 by_cases c30 : a0_0 = 4
 {
 rw [if_pos c30] at H
 have c30b0 : (a0_0 == 4) = true := beq_iff_eq.mpr c30
 have c30b1 : (a0_0 != 4) = false := bne_eq_false_iff_eq.mpr c30
 clear c30
 by_cases c31 : 5 + (strOfNums y116).size ≤ 9223372036854775807
 {
 rw [if_pos c31] at H
 have c31b0 := eq_true c31
 have c31b1 : decide (5 + (strOfNums y116).size ≤ 9223372036854775807) = true := decide_eq_true c31
 try have c31b2 : (9223372036854775807 < 5 + (strOfNums y116).size) = False := eq_false (Nat.not_lt.2 c31)
 obtain rfl := Option.some.inj H
 go_enter Tryd.func21, Tryd.ntmps21
 go_wp2_with (first | ((with_reducible refine gate_dst (N := 1) rfl ?_); refine box_event ?hg (N := 1) ?hd (cs := #[.int .i8 a0_0, .int .u8 a0_1, .int .u8 a0_2]) (t := 24) ?hr ?_; (case hd => rfl); (case hg => rfl); (case hr => first | (go_simp; done) | (go_simp; rfl)); intro gb115 hg w32 hbox hb; have n0_ := ak (below_step (zB HB.out) hb); have n1_ := ak (hbox); have n2_ := ak ((by rw [hg]; exact (below_size (zB HB.out)) : w.heap.size ≤ gb115)); have n3_ := ak ((by rw [hg]; exact (below_size (zB HB.out)) : w.heap.size ≤ gb115)); clear HB; have HB := n0_; have BK115 := n1_; have GW115 := n2_; have GE115 := n3_; clear n0_ n1_ n2_ n3_; clear hb hbox hg; have hcz33_0 : w32.cell? ⟨gb115, 0, none⟩ = some (.int .i8 a0_0) := (blk_cell BK115.out 0).trans rfl; have hcz33_1 : w32.cell? ⟨gb115, 1, none⟩ = some (.int .u8 a0_1) := (blk_cell BK115.out 1).trans rfl; have hcz33_2 : w32.cell? ⟨gb115, 2, none⟩ = some (.int .u8 a0_2) := (blk_cell BK115.out 2).trans rfl; have hfz33_0 := blk_frozen BK115.out 0; have hfz33_1 := blk_frozen BK115.out 1; have hfz33_2 := blk_frozen BK115.out 2) | ((with_reducible refine gate_dst (N := 6) rfl ?_); refine Kd.R_lit (Kd.int .u8) _ 5 ?hg (N := 6) ?hd (xs := ([a0_1] : List Int)) (inner := [.int .u8 a0_1]) (ok := fun _ => True) (okp := fun _ => True) ?hr ?hp (fun _ hk => hk) trivial (Below.refl _ _) (Nat.le_refl _) (by simp) ?_; (case hd => rfl); (case hg => rfl); (case hr => first | (go_simp; done) | (go_simp; rfl)); (case hp => exact (Reps.one (show Kd.M (Kd.int .u8) _ _ _ a0_1 [.int .u8 a0_1] from rfl) (Reps.none _ _))); intro v117 w34 ho35 hb hg_ hnew_; clear hg_ hnew_; (first | rw [← Ny116.out] at ho35 | (simp only [Int.reduceToNat] at ho35; rw [← Ny116.out] at ho35)); have n0_ := ak (Kd.R_lower ho35 (below_size (zBG HB.out GE115.out))); have n1_ := ak (blk_below (g := gb115) (o := .cells #[.int .i8 a0_0, .int .u8 a0_1, .int .u8 a0_2] 24 (0, 0)) (zK BK115.out) hb); have n2_ := ak (below_step (zBG HB.out GE115.out) hb); clear BK115 HB; have HO118 := n0_; have BK115 := n1_; have HB := n2_; clear n0_ n1_ n2_; clear hb ho35; have hcv36 := own_string (P := Tryd.prog) Tryd.underlying74 Tryd.underlying5 Tryd.underlying9 (Kd.own_of_R HO118.out); have hcz37_0 : w34.cell? ⟨gb115, 0, none⟩ = some (.int .i8 a0_0) := (blk_cell BK115.out 0).trans rfl; have hcz37_1 : w34.cell? ⟨gb115, 1, none⟩ = some (.int .u8 a0_1) := (blk_cell BK115.out 1).trans rfl; have hcz37_2 : w34.cell? ⟨gb115, 2, none⟩ = some (.int .u8 a0_2) := (blk_cell BK115.out 2).trans rfl; have hfz37_0 := blk_frozen BK115.out 0; have hfz37_1 := blk_frozen BK115.out 1; have hfz37_2 := blk_frozen BK115.out 2))
 go_ret
 exact ⟨by first | rfl | (simp [errW_none, errW_some] <;> rfl) | (simp [*, errW_none, errW_some] <;> rfl), by repeat (first | (with_reducible first | exact HB.out | apply below_alloc | apply pw_below_drewN | apply below_drew1 | refine below_set ?_ GE115.out) | exact HB.out)⟩
 }
 · rw [if_neg c31] at H; exact absurd H (by simp)
 }
 {
 rw [if_neg c30] at H
 have c30b0 : (a0_0 == 4) = false := beq_eq_false_iff_ne.mpr c30
 have c30b1 : (a0_0 != 4) = true := bne_iff_ne.mpr c30
 obtain rfl := Option.some.inj H
 go_enter Tryd.func21, Tryd.ntmps21
 go_wp2_with (first | ((with_reducible refine gate_dst (N := 1) rfl ?_); refine box_event ?hg (N := 1) ?hd (cs := #[.int .i8 a0_0, .int .u8 a0_1, .int .u8 a0_2]) (t := 24) ?hr ?_; (case hd => rfl); (case hg => rfl); (case hr => first | (go_simp; done) | (go_simp; rfl)); intro gb115 hg w38 hbox hb; have n0_ := ak (below_step (zB HB.out) hb); have n1_ := ak (hbox); have n2_ := ak ((by rw [hg]; exact (below_size (zB HB.out)) : w.heap.size ≤ gb115)); have n3_ := ak ((by rw [hg]; exact (below_size (zB HB.out)) : w.heap.size ≤ gb115)); clear HB; have HB := n0_; have BK115 := n1_; have GW115 := n2_; have GE115 := n3_; clear n0_ n1_ n2_ n3_; clear hb hbox hg; have hcz39_0 : w38.cell? ⟨gb115, 0, none⟩ = some (.int .i8 a0_0) := (blk_cell BK115.out 0).trans rfl; have hcz39_1 : w38.cell? ⟨gb115, 1, none⟩ = some (.int .u8 a0_1) := (blk_cell BK115.out 1).trans rfl; have hcz39_2 : w38.cell? ⟨gb115, 2, none⟩ = some (.int .u8 a0_2) := (blk_cell BK115.out 2).trans rfl; have hfz39_0 := blk_frozen BK115.out 0; have hfz39_1 := blk_frozen BK115.out 1; have hfz39_2 := blk_frozen BK115.out 2) | ((with_reducible refine gate_dst (N := 6) rfl ?_); refine Kd.R_lit (Kd.int .u8) _ 5 ?hg (N := 6) ?hd (xs := ([a0_1] : List Int)) (inner := [.int .u8 a0_1]) (ok := fun _ => True) (okp := fun _ => True) ?hr ?hp (fun _ hk => hk) trivial (Below.refl _ _) (Nat.le_refl _) (by simp) ?_; (case hd => rfl); (case hg => rfl); (case hr => first | (go_simp; done) | (go_simp; rfl)); (case hp => exact (Reps.one (show Kd.M (Kd.int .u8) _ _ _ a0_1 [.int .u8 a0_1] from rfl) (Reps.none _ _))); intro v117 w40 ho41 hb hg_ hnew_; clear hg_ hnew_; (first | rw [← Ny116.out] at ho41 | (simp only [Int.reduceToNat] at ho41; rw [← Ny116.out] at ho41)); have n0_ := ak (Kd.R_lower ho41 (below_size (zBG HB.out GE115.out))); have n1_ := ak (blk_below (g := gb115) (o := .cells #[.int .i8 a0_0, .int .u8 a0_1, .int .u8 a0_2] 24 (0, 0)) (zK BK115.out) hb); have n2_ := ak (below_step (zBG HB.out GE115.out) hb); clear BK115 HB; have HO118 := n0_; have BK115 := n1_; have HB := n2_; clear n0_ n1_ n2_; clear hb ho41; have hcv42 := own_string (P := Tryd.prog) Tryd.underlying74 Tryd.underlying5 Tryd.underlying9 (Kd.own_of_R HO118.out); have hcz43_0 : w40.cell? ⟨gb115, 0, none⟩ = some (.int .i8 a0_0) := (blk_cell BK115.out 0).trans rfl; have hcz43_1 : w40.cell? ⟨gb115, 1, none⟩ = some (.int .u8 a0_1) := (blk_cell BK115.out 1).trans rfl; have hcz43_2 : w40.cell? ⟨gb115, 2, none⟩ = some (.int .u8 a0_2) := (blk_cell BK115.out 2).trans rfl; have hfz43_0 := blk_frozen BK115.out 0; have hfz43_1 := blk_frozen BK115.out 1; have hfz43_2 := blk_frozen BK115.out 2))
 go_ret
 exact ⟨by first | rfl | (simp [errW_none, errW_some] <;> rfl) | (simp [*, errW_none, errW_some] <;> rfl), by repeat (first | (with_reducible first | exact HB.out | apply below_alloc | apply pw_below_drewN | apply below_drew1 | refine below_set ?_ GE115.out) | exact HB.out)⟩
 }
 }
 }
 }
end Go.Proofs.YtchnklikeimpiaaDoor.P
