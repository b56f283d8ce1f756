-- Printed by wip/print (my turned copy of the kit's print) out of the translation; Lean checks it.
import Derived.Test.YtobickehjnogjaaGreatDoorP0
import Derived.Test.YtobickehjnogjaaGreatDoorP4
namespace Go.Proofs.YtobickehjnogjaaGreatDoor.P
open Go.RowKit Go.Proofs.YtobickehjnogjaaGreatDoorW.PrintWords Go.Proofs.YtobickehjnogjaaGreatDoorW.PrintLast Go.Proofs.YtobickehjnogjaaGreatDoorW.PrintMore
attribute [local go_sem] max2_int min2_int max_two min_two max_three min_three max_four min_four   -- for this text's walks alone
set_option linter.unusedVariables false
set_option linter.unusedSimpArgs false

/-! ### spec_l04Habit: function 59 -/
def spec_l04Habit.j0 : Nat → Int → Bool → Int → Int → Int → Option (Bool)
  | 0, _, _, _, _, _ => none
  | k + 1, x4, x5, x211000, x211001, x211002 => if x5 = true then (if x211001 = 0 then (some (x211002 == 0)) else (some false)) else (if x4 = 1 then ((spec_l04Letter.f x211001).bind fun t211 => (if t211 = true then ((spec_l04Letter.f x211002).bind fun t212 => (if t212 = true then (some (x211001 != x211002)) else (some false))) else (some false))) else (if x4 = 2 then ((spec_l04Letter.f x211001).bind fun t213 => (if t213 = true then (some (x211002 == 0)) else (some false))) else (if x4 = 4 then ((spec_l04Letter.f x211001).bind fun t214 => (if t214 = true then (some (x211002 == 0)) else (some false))) else (some false))))
def spec_l04Habit.f (k : Nat) (a0_0 : Int) (a0_1 : Int) (a0_2 : Int) : Option (Bool) := if a0_0 = 0 then (spec_l04Habit.j0 k a0_0 (a0_0 == 0) a0_0 a0_1 a0_2) else (spec_l04Habit.j0 k a0_0 (a0_0 == 3) a0_0 a0_1 a0_2)
set_option maxHeartbeats 8000000 in
set_option maxRecDepth 100000 in
theorem spec_l04Habit.calls (k : Nat) (a0_0 : Int) (a0_1 : Int) (a0_2 : Int) (r : Bool) (w : World) (h : spec_l04Habit.f k a0_0 a0_1 a0_2 = some r) :
    Calls Tryz.prog 59 #[.agg #[.int .i8 a0_0, .int .u8 a0_1, .int .u8 a0_2]] w fun e w' => e = .returned (.bool r) ∧ Below w.heap.size w w' := by
 have hu40 := Tryz.underlying40
 have HB := ak (Below.refl w.heap.size w)
 have H := h
 unfold spec_l04Habit.f at H
 clear h
 have HC2 := ak H
 clear H
 go_enter Tryz.func59, Tryz.ntmps59
 go_upto_if 5 with (first | ((with_reducible refine gate_dst (N := 1) rfl ?_); refine box_event ?hg (N := 1) ?hd (cs := #[.int .i8 a0_0, .int .u8 a0_1, .int .u8 a0_2]) (t := 40) ?hr ?_; (case hd => rfl); (case hg => rfl); (case hr => first | (go_simp; done) | (go_simp; rfl)); intro gb210 hg w3 hbox hb; have n0_ := ak (below_step (zB HB.out) hb); have n1_ := ak (hbox); have n2_ := gS HB hg; have n3_ := gS HB hg; clear HB; have HB := n0_; have BK210 := n1_; have GW210 := n2_; have GE210 := n3_; clear n0_ n1_ n2_ n3_; clear hb hbox hg; have hcz4_0 : w3.cell? ⟨gb210, 0, none⟩ = some (.int .i8 a0_0) := (blk_cell BK210.out 0).trans rfl; have hcz4_1 : w3.cell? ⟨gb210, 1, none⟩ = some (.int .u8 a0_1) := (blk_cell BK210.out 1).trans rfl; have hcz4_2 : w3.cell? ⟨gb210, 2, none⟩ = some (.int .u8 a0_2) := (blk_cell BK210.out 2).trans rfl; have hfz4_0 := blk_frozen BK210.out 0; have hfz4_1 := blk_frozen BK210.out 1; have hfz4_2 := blk_frozen BK210.out 2))
 (try simp only [Act.put, zs, zz, zk])
 go_cut [5] (fun v5 wc => ∃ (kq : Nat) (x5_1 : Bool), v5 = .bool x5_1 ∧ Aside0 (spec_l04Habit.j0 kq a0_0 x5_1 a0_0 a0_1 a0_2 = some r) ∧ Aside0 (kq ≤ k) ∧ Aside0 (wc.heap[gb210]? = some (.cells #[.int .i8 a0_0, .int .u8 a0_1, .int .u8 a0_2] 40 (0, 0))) ∧ Aside0 (Below w.heap.size w wc))
 case first => (
 have H := HC2.out
 clear HC2
 by_cases c5 : a0_0 = 0
 {
 rw [if_pos c5] at H
 have c5b0 : (a0_0 == 0) = true := beq_iff_eq.mpr c5
 have c5b1 : (a0_0 != 0) = false := bne_eq_false_iff_eq.mpr c5
 clear c5
 (first | rw [c5b0] | (simp only [i64_w, i32_w]; rw [c5b0]) | skip)
 have H' := ak H
 clear H
 go_wp2
 go_meet
 case rel => exact ⟨_, ((a0_0 == 0)), (by first | rfl | (simp; done) | (simp [*]; done)), H', ⟨by first | omega | exact Nat.le_refl _⟩, ⟨(zK BK210.out)⟩, ⟨zBG HB.out GE210.out⟩⟩
 }
 {
 rw [if_neg c5] at H
 have c5b0 : (a0_0 == 0) = false := beq_eq_false_iff_ne.mpr c5
 have c5b1 : (a0_0 != 0) = true := bne_iff_ne.mpr c5
 (first | rw [c5b0] | (simp only [i64_w, i32_w]; rw [c5b0]) | skip)
 have H' := ak H
 clear H
 go_wp2
 go_meet
 case rel => exact ⟨_, ((a0_0 == 3)), (by first | rfl | (simp; done) | (simp [*]; done)), H', ⟨by first | omega | exact Nat.le_refl _⟩, ⟨(zK BK210.out)⟩, ⟨zBG HB.out GE210.out⟩⟩
 }
 )
 case rest => (
 clear HC2
 try clear hcz4_0
 try clear hcz4_1
 try clear hcz4_2
 try clear hfz4_0
 try clear hfz4_1
 try clear hfz4_2
 obtain ⟨kq, x5_1, rfl, HA, HJ1, BK210, HB⟩ := hcut
 cases kq with
 | zero => exact absurd HA.out (by simp [spec_l04Habit.j0])
 | succ kj1 => (
 have H := HA.out
 clear HA
 simp only [spec_l04Habit.j0] at H
 by_cases c6 : x5_1 = true
 {
 subst c6
 rw [if_pos rfl] at H
 by_cases c7 : a0_1 = 0
 {
 rw [if_pos c7] at H
 have c7b0 : (a0_1 == 0) = true := beq_iff_eq.mpr c7
 have c7b1 : (a0_1 != 0) = false := bne_eq_false_iff_eq.mpr c7
 clear c7
 obtain rfl := Option.some.inj H
 have hcz8_0 : wc.cell? ⟨gb210, 0, none⟩ = some (.int .i8 a0_0) := (blk_cell BK210.out 0).trans rfl
 have hcz8_1 : wc.cell? ⟨gb210, 1, none⟩ = some (.int .u8 a0_1) := (blk_cell BK210.out 1).trans rfl
 have hcz8_2 : wc.cell? ⟨gb210, 2, none⟩ = some (.int .u8 a0_2) := (blk_cell BK210.out 2).trans rfl
 have hfz8_0 := blk_frozen BK210.out 0
 have hfz8_1 := blk_frozen BK210.out 1
 have hfz8_2 := blk_frozen BK210.out 2
 go_wp2
 go_ret
 exact ⟨by first | rfl | (simp [errW_none, errW_some] <;> rfl) | (simp [*, errW_none, errW_some] <;> rfl), zBG HB.out GE210.out⟩
 }
 {
 rw [if_neg c7] at H
 have c7b0 : (a0_1 == 0) = false := beq_eq_false_iff_ne.mpr c7
 have c7b1 : (a0_1 != 0) = true := bne_iff_ne.mpr c7
 obtain rfl := Option.some.inj H
 have hcz9_0 : wc.cell? ⟨gb210, 0, none⟩ = some (.int .i8 a0_0) := (blk_cell BK210.out 0).trans rfl
 have hcz9_1 : wc.cell? ⟨gb210, 1, none⟩ = some (.int .u8 a0_1) := (blk_cell BK210.out 1).trans rfl
 have hcz9_2 : wc.cell? ⟨gb210, 2, none⟩ = some (.int .u8 a0_2) := (blk_cell BK210.out 2).trans rfl
 have hfz9_0 := blk_frozen BK210.out 0
 have hfz9_1 := blk_frozen BK210.out 1
 have hfz9_2 := blk_frozen BK210.out 2
 go_wp2
 go_ret
 exact ⟨by first | rfl | (simp [errW_none, errW_some] <;> rfl) | (simp [*, errW_none, errW_some] <;> rfl), zBG HB.out GE210.out⟩
 }
 }
 {
 replace c6 := Bool.eq_false_iff.mpr c6
 subst c6
 rw [if_neg (show ¬ (false = true) by decide)] at H
 by_cases c10 : a0_0 = 1
 {
 rw [if_pos c10] at H
 have c10b0 : (a0_0 == 1) = true := beq_iff_eq.mpr c10
 have c10b1 : (a0_0 != 1) = false := bne_eq_false_iff_eq.mpr c10
 clear c10
 replace H := Option.bind_eq_some_iff.mp H
 obtain ⟨t211, A110, H⟩ := H
 have A11 := ak A110
 clear A110
 by_cases c12 : t211 = true
 {
 subst c12
 rw [if_pos rfl] at H
 replace H := Option.bind_eq_some_iff.mp H
 obtain ⟨t212, A130, H⟩ := H
 have A13 := ak A130
 clear A130
 by_cases c14 : t212 = true
 {
 subst c14
 rw [if_pos rfl] at H
 obtain rfl := Option.some.inj H
 have hcz15_0 : wc.cell? ⟨gb210, 0, none⟩ = some (.int .i8 a0_0) := (blk_cell BK210.out 0).trans rfl
 have hcz15_1 : wc.cell? ⟨gb210, 1, none⟩ = some (.int .u8 a0_1) := (blk_cell BK210.out 1).trans rfl
 have hcz15_2 : wc.cell? ⟨gb210, 2, none⟩ = some (.int .u8 a0_2) := (blk_cell BK210.out 2).trans rfl
 have hfz15_0 := blk_frozen BK210.out 0
 have hfz15_1 := blk_frozen BK210.out 1
 have hfz15_2 := blk_frozen BK210.out 2
 go_wp2_with (first | ((with_reducible refine gate_callee (f := 76) rfl ?_); refine goesL_ (some 20) rfl rfl Tryz.func76 (by kernel_rfl) rfl #[.int .u8 a0_1] rfl gl_ ?_; (with_reducible refine (spec_l04Letter.calls a0_1 true _ A11.out).mono ?_); rintro e w' ⟨rfl, ⟨nd, rfl⟩⟩; refine ⟨_, rfl, ?_⟩) | (go_at_call 76; (with_reducible refine (spec_l04Letter.calls a0_2 true _ A13.out).mono ?_); rintro e w' ⟨rfl, ⟨nd, rfl⟩⟩))
 go_ret
 exact ⟨by first | rfl | (simp [errW_none, errW_some] <;> rfl) | (simp [*, errW_none, errW_some] <;> rfl), zBG HB.out GE210.out⟩
 }
 {
 replace c14 := Bool.eq_false_iff.mpr c14
 subst c14
 rw [if_neg (show ¬ (false = true) by decide)] at H
 obtain rfl := Option.some.inj H
 have hcz16_0 : wc.cell? ⟨gb210, 0, none⟩ = some (.int .i8 a0_0) := (blk_cell BK210.out 0).trans rfl
 have hcz16_1 : wc.cell? ⟨gb210, 1, none⟩ = some (.int .u8 a0_1) := (blk_cell BK210.out 1).trans rfl
 have hcz16_2 : wc.cell? ⟨gb210, 2, none⟩ = some (.int .u8 a0_2) := (blk_cell BK210.out 2).trans rfl
 have hfz16_0 := blk_frozen BK210.out 0
 have hfz16_1 := blk_frozen BK210.out 1
 have hfz16_2 := blk_frozen BK210.out 2
 go_wp2_with (first | ((with_reducible refine gate_callee (f := 76) rfl ?_); refine goesL_ (some 20) rfl rfl Tryz.func76 (by kernel_rfl) rfl #[.int .u8 a0_1] rfl gl_ ?_; (with_reducible refine (spec_l04Letter.calls a0_1 true _ A11.out).mono ?_); rintro e w' ⟨rfl, ⟨nd, rfl⟩⟩; refine ⟨_, rfl, ?_⟩) | (go_at_call 76; (with_reducible refine (spec_l04Letter.calls a0_2 false _ A13.out).mono ?_); rintro e w' ⟨rfl, ⟨nd, rfl⟩⟩))
 go_ret
 exact ⟨by first | rfl | (simp [errW_none, errW_some] <;> rfl) | (simp [*, errW_none, errW_some] <;> rfl), zBG HB.out GE210.out⟩
 }
 }
 {
 replace c12 := Bool.eq_false_iff.mpr c12
 subst c12
 rw [if_neg (show ¬ (false = true) by decide)] at H
 obtain rfl := Option.some.inj H
 have hcz17_0 : wc.cell? ⟨gb210, 0, none⟩ = some (.int .i8 a0_0) := (blk_cell BK210.out 0).trans rfl
 have hcz17_1 : wc.cell? ⟨gb210, 1, none⟩ = some (.int .u8 a0_1) := (blk_cell BK210.out 1).trans rfl
 have hcz17_2 : wc.cell? ⟨gb210, 2, none⟩ = some (.int .u8 a0_2) := (blk_cell BK210.out 2).trans rfl
 have hfz17_0 := blk_frozen BK210.out 0
 have hfz17_1 := blk_frozen BK210.out 1
 have hfz17_2 := blk_frozen BK210.out 2
 go_wp2_with (first | ((with_reducible refine gate_callee (f := 76) rfl ?_); refine goesL_ (some 20) rfl rfl Tryz.func76 (by kernel_rfl) rfl #[.int .u8 a0_1] rfl gl_ ?_; (with_reducible refine (spec_l04Letter.calls a0_1 false _ A11.out).mono ?_); rintro e w' ⟨rfl, ⟨nd, rfl⟩⟩; refine ⟨_, rfl, ?_⟩))
 go_ret
 exact ⟨by first | rfl | (simp [errW_none, errW_some] <;> rfl) | (simp [*, errW_none, errW_some] <;> rfl), zBG HB.out GE210.out⟩
 }
 }
 {
 rw [if_neg c10] at H
 have c10b0 : (a0_0 == 1) = false := beq_eq_false_iff_ne.mpr c10
 have c10b1 : (a0_0 != 1) = true := bne_iff_ne.mpr c10
 by_cases c18 : a0_0 = 2
 {
 rw [if_pos c18] at H
 have c18b0 : (a0_0 == 2) = true := beq_iff_eq.mpr c18
 have c18b1 : (a0_0 != 2) = false := bne_eq_false_iff_eq.mpr c18
 clear c18
 replace H := Option.bind_eq_some_iff.mp H
 obtain ⟨t213, A190, H⟩ := H
 have A19 := ak A190
 clear A190
 by_cases c20 : t213 = true
 {
 subst c20
 rw [if_pos rfl] at H
 obtain rfl := Option.some.inj H
 have hcz21_0 : wc.cell? ⟨gb210, 0, none⟩ = some (.int .i8 a0_0) := (blk_cell BK210.out 0).trans rfl
 have hcz21_1 : wc.cell? ⟨gb210, 1, none⟩ = some (.int .u8 a0_1) := (blk_cell BK210.out 1).trans rfl
 have hcz21_2 : wc.cell? ⟨gb210, 2, none⟩ = some (.int .u8 a0_2) := (blk_cell BK210.out 2).trans rfl
 have hfz21_0 := blk_frozen BK210.out 0
 have hfz21_1 := blk_frozen BK210.out 1
 have hfz21_2 := blk_frozen BK210.out 2
 go_wp2_with (first | ((with_reducible refine gate_callee (f := 76) rfl ?_); refine goesL_ (some 38) rfl rfl Tryz.func76 (by kernel_rfl) rfl #[.int .u8 a0_1] rfl gl_ ?_; (with_reducible refine (spec_l04Letter.calls a0_1 true _ A19.out).mono ?_); rintro e w' ⟨rfl, ⟨nd, rfl⟩⟩; refine ⟨_, rfl, ?_⟩))
 go_ret
 exact ⟨by first | rfl | (simp [errW_none, errW_some] <;> rfl) | (simp [*, errW_none, errW_some] <;> rfl), zBG HB.out GE210.out⟩
 }
 {
 replace c20 := Bool.eq_false_iff.mpr c20
 subst c20
 rw [if_neg (show ¬ (false = true) by decide)] at H
 obtain rfl := Option.some.inj H
 have hcz22_0 : wc.cell? ⟨gb210, 0, none⟩ = some (.int .i8 a0_0) := (blk_cell BK210.out 0).trans rfl
 have hcz22_1 : wc.cell? ⟨gb210, 1, none⟩ = some (.int .u8 a0_1) := (blk_cell BK210.out 1).trans rfl
 have hcz22_2 : wc.cell? ⟨gb210, 2, none⟩ = some (.int .u8 a0_2) := (blk_cell BK210.out 2).trans rfl
 have hfz22_0 := blk_frozen BK210.out 0
 have hfz22_1 := blk_frozen BK210.out 1
 have hfz22_2 := blk_frozen BK210.out 2
 go_wp2_with (first | ((with_reducible refine gate_callee (f := 76) rfl ?_); refine goesL_ (some 38) rfl rfl Tryz.func76 (by kernel_rfl) rfl #[.int .u8 a0_1] rfl gl_ ?_; (with_reducible refine (spec_l04Letter.calls a0_1 false _ A19.out).mono ?_); rintro e w' ⟨rfl, ⟨nd, rfl⟩⟩; refine ⟨_, rfl, ?_⟩))
 go_ret
 exact ⟨by first | rfl | (simp [errW_none, errW_some] <;> rfl) | (simp [*, errW_none, errW_some] <;> rfl), zBG HB.out GE210.out⟩
 }
 }
 {
 rw [if_neg c18] at H
 have c18b0 : (a0_0 == 2) = false := beq_eq_false_iff_ne.mpr c18
 have c18b1 : (a0_0 != 2) = true := bne_iff_ne.mpr c18
 by_cases c23 : a0_0 = 4
 {
 rw [if_pos c23] at H
 have c23b0 : (a0_0 == 4) = true := beq_iff_eq.mpr c23
 have c23b1 : (a0_0 != 4) = false := bne_eq_false_iff_eq.mpr c23
 clear c23
 replace H := Option.bind_eq_some_iff.mp H
 obtain ⟨t214, A240, H⟩ := H
 have A24 := ak A240
 clear A240
 by_cases c25 : t214 = true
 {
 subst c25
 rw [if_pos rfl] at H
 obtain rfl := Option.some.inj H
 have hcz26_0 : wc.cell? ⟨gb210, 0, none⟩ = some (.int .i8 a0_0) := (blk_cell BK210.out 0).trans rfl
 have hcz26_1 : wc.cell? ⟨gb210, 1, none⟩ = some (.int .u8 a0_1) := (blk_cell BK210.out 1).trans rfl
 have hcz26_2 : wc.cell? ⟨gb210, 2, none⟩ = some (.int .u8 a0_2) := (blk_cell BK210.out 2).trans rfl
 have hfz26_0 := blk_frozen BK210.out 0
 have hfz26_1 := blk_frozen BK210.out 1
 have hfz26_2 := blk_frozen BK210.out 2
 go_wp2_with (first | ((with_reducible refine gate_callee (f := 76) rfl ?_); refine goesL_ (some 38) rfl rfl Tryz.func76 (by kernel_rfl) rfl #[.int .u8 a0_1] rfl gl_ ?_; (with_reducible refine (spec_l04Letter.calls a0_1 true _ A24.out).mono ?_); rintro e w' ⟨rfl, ⟨nd, rfl⟩⟩; refine ⟨_, rfl, ?_⟩))
 go_ret
 exact ⟨by first | rfl | (simp [errW_none, errW_some] <;> rfl) | (simp [*, errW_none, errW_some] <;> rfl), zBG HB.out GE210.out⟩
 }
 {
 replace c25 := Bool.eq_false_iff.mpr c25
 subst c25
 rw [if_neg (show ¬ (false = true) by decide)] at H
 obtain rfl := Option.some.inj H
 have hcz27_0 : wc.cell? ⟨gb210, 0, none⟩ = some (.int .i8 a0_0) := (blk_cell BK210.out 0).trans rfl
 have hcz27_1 : wc.cell? ⟨gb210, 1, none⟩ = some (.int .u8 a0_1) := (blk_cell BK210.out 1).trans rfl
 have hcz27_2 : wc.cell? ⟨gb210, 2, none⟩ = some (.int .u8 a0_2) := (blk_cell BK210.out 2).trans rfl
 have hfz27_0 := blk_frozen BK210.out 0
 have hfz27_1 := blk_frozen BK210.out 1
 have hfz27_2 := blk_frozen BK210.out 2
 go_wp2_with (first | ((with_reducible refine gate_callee (f := 76) rfl ?_); refine goesL_ (some 38) rfl rfl Tryz.func76 (by kernel_rfl) rfl #[.int .u8 a0_1] rfl gl_ ?_; (with_reducible refine (spec_l04Letter.calls a0_1 false _ A24.out).mono ?_); rintro e w' ⟨rfl, ⟨nd, rfl⟩⟩; refine ⟨_, rfl, ?_⟩))
 go_ret
 exact ⟨by first | rfl | (simp [errW_none, errW_some] <;> rfl) | (simp [*, errW_none, errW_some] <;> rfl), zBG HB.out GE210.out⟩
 }
 }
 {
 rw [if_neg c23] at H
 have c23b0 : (a0_0 == 4) = false := beq_eq_false_iff_ne.mpr c23
 have c23b1 : (a0_0 != 4) = true := bne_iff_ne.mpr c23
 obtain rfl := Option.some.inj H
 go_wp2
 go_ret
 exact ⟨by first | rfl | (simp [errW_none, errW_some] <;> rfl) | (simp [*, errW_none, errW_some] <;> rfl), zBG HB.out GE210.out⟩
 }
 }
 }
 }
 )
 )
/-! ### spec_l00In: function 77 -/
def spec_l00In.f (a0 : Int) (a1 : Int) (a2 : Int) : Option (Bool) := if a0 ≥ a1 then (some (decide (a0 ≤ a2))) else (some false)
set_option maxHeartbeats 8000000 in
set_option maxRecDepth 100000 in
theorem spec_l00In.calls (a0 : Int) (a1 : Int) (a2 : Int) (r : Bool) (w : World) (h : spec_l00In.f a0 a1 a2 = some r) :
    Calls Tryz.prog 77 #[.int .i64 a0, .int .i64 a1, .int .i64 a2] w fun e w' => e = .returned (.bool r) ∧ Drawn0 w w' := by
 have H := h
 unfold spec_l00In.f at H
 clear h
 by_cases c4 : a0 ≥ a1
 {
 rw [if_pos c4] at H
 have c4b0 : decide (a1 ≤ a0) = true := decide_eq_true c4
 clear c4
 obtain rfl := Option.some.inj H
 go_enter Tryz.func77, Tryz.ntmps77
 go_wp2
 go_ret
 exact ⟨by first | rfl | (simp; done) | (simp [*]; done), by repeat (first | exact Drawn0.refl _ | apply Drawn0.step)⟩
 }
 {
 rw [if_neg c4] at H
 have c4b0 : decide (a1 ≤ a0) = false := decide_eq_false c4
 clear c4
 obtain rfl := Option.some.inj H
 go_enter Tryz.func77, Tryz.ntmps77
 go_wp2
 go_ret
 exact ⟨by first | rfl | (simp; done) | (simp [*]; done), by repeat (first | exact Drawn0.refl _ | apply Drawn0.step)⟩
 }
/-! ### spec_l04Word: function 60 -/
def spec_l04Word.l0 : Nat → ByteArray → Int → Option (Bool)
  | 0, _, _ => none
  | k + 1, x0, x3 => if x3 < (x0.size : Int) then (if 0 ≤ x3 then ((spec_l04Letter.f (bt x0 x3)).bind fun t215 => (if t215 = true then (spec_l04Word.l0 k x0 (wrap64 (x3 + 1))) else (some false))) else (none)) else ((spec_l00In.f (x0.size : Int) 1 12).bind fun t216 => (some t216))
def spec_l04Word.f (k : Nat) (a0 : ByteArray) : Option (Bool) := spec_l04Word.l0 k a0 0
set_option maxHeartbeats 8000000 in
set_option maxRecDepth 100000 in
theorem spec_l04Word.calls (k : Nat) (a0 : ByteArray) (r : Bool) (w : World) (h : spec_l04Word.f k a0 = some r) :
    Calls Tryz.prog 60 #[.string a0] w fun e w' => e = .returned (.bool r) ∧ Drawn0 w w' := by
 have H := h
 unfold spec_l04Word.f at H
 clear h
 have H' := ak H
 clear H
 go_enter Tryz.func60, Tryz.ntmps60
 go_wp2
 go_loopg [3] k (fun kq v3 w' => ∃ (x3_1 : Int), v3 = .int .i64 x3_1 ∧ Aside0 (spec_l04Word.l0 kq a0 x3_1 = some r) ∧ Aside0 (kq ≤ k) ∧ Drawn0 w w')
 case atStart => exact ⟨(0), (by first | rfl | (simp; done) | (simp [*]; done)), H', ⟨Nat.le_refl _⟩, by repeat (first | exact Drawn0.refl _ | apply Drawn0.step)⟩
 case round => (
 clear H'
 obtain ⟨x3_1, rfl, HA, HK1, ⟨m1, rfl⟩⟩ := hrel
 cases gk with
 | zero => exact absurd HA.out (by simp [spec_l04Word.l0])
 | succ k1 => (
 have H := HA.out
 clear HA
 simp only [spec_l04Word.l0] at H
 by_cases c2 : x3_1 < (a0.size : Int)
 {
 rw [if_pos c2] at H
 have c2b0 : decide (x3_1 < (a0.size : Int)) = true := decide_eq_true c2
 clear c2
 by_cases c3 : 0 ≤ x3_1
 {
 rw [if_pos c3] at H
 have c3b0 : decide (0 ≤ x3_1) = true := decide_eq_true c3
 clear c3
 replace H := Option.bind_eq_some_iff.mp H
 obtain ⟨t215, A50, H⟩ := H
 have A5 := ak A50
 clear A50
 by_cases c6 : t215 = true
 {
 subst c6
 rw [if_pos rfl] at H
 have H' := ak H
 clear H
 have p4 : 0 ≤ (x3_1 : Int) := of_decide_eq_true (by first | (with_reducible assumption) | assumption)
 have q4 : x3_1 < (a0.size : Int) := of_decide_eq_true (by first | (with_reducible assumption) | assumption)
 have hx4 := bt_at a0 x3_1
 replace p4 := eq_true p4
 replace q4 := eq_true q4
 go_wp2_with (first | ((with_reducible refine gate_callee (f := 76) rfl ?_); refine goesL_ (some 13) rfl rfl Tryz.func76 (by kernel_rfl) rfl #[.int .u8 (bt a0 x3_1)] rfl gl_ ?_; (with_reducible refine (spec_l04Letter.calls (bt a0 x3_1) true _ A5.out).mono ?_); rintro e w' ⟨rfl, ⟨nd, rfl⟩⟩; refine ⟨_, rfl, ?_⟩))
 go_roundg k1
 case measure => have := HK1.out; omega
 case rel => exact ⟨(wrap64 (x3_1 + 1)), (by first | rfl | (simp; done) | (simp [*]; done)), H', ⟨by have := HK1.out; omega⟩, by repeat (first | exact Drawn0.refl _ | apply Drawn0.step)⟩
 }
 {
 replace c6 := Bool.eq_false_iff.mpr c6
 subst c6
 rw [if_neg (show ¬ (false = true) by decide)] at H
 obtain rfl := Option.some.inj H
 have p4 : 0 ≤ (x3_1 : Int) := of_decide_eq_true (by first | (with_reducible assumption) | assumption)
 have q4 : x3_1 < (a0.size : Int) := of_decide_eq_true (by first | (with_reducible assumption) | assumption)
 have hx4 := bt_at a0 x3_1
 replace p4 := eq_true p4
 replace q4 := eq_true q4
 go_wp2_with (first | ((with_reducible refine gate_callee (f := 76) rfl ?_); refine goesL_ (some 13) rfl rfl Tryz.func76 (by kernel_rfl) rfl #[.int .u8 (bt a0 x3_1)] rfl gl_ ?_; (with_reducible refine (spec_l04Letter.calls (bt a0 x3_1) false _ A5.out).mono ?_); rintro e w' ⟨rfl, ⟨nd, rfl⟩⟩; refine ⟨_, rfl, ?_⟩))
 go_ret
 exact ⟨by first | rfl | (simp; done) | (simp [*]; done), by repeat (first | exact Drawn0.refl _ | apply Drawn0.step)⟩
 }
 }
 · rw [if_neg c3] at H; exact absurd H (by simp)
 }
 {
 rw [if_neg c2] at H
 have c2b0 : decide (x3_1 < (a0.size : Int)) = false := decide_eq_false c2
 clear c2
 replace H := Option.bind_eq_some_iff.mp H
 obtain ⟨t216, A70, H⟩ := H
 have A7 := ak A70
 clear A70
 obtain rfl := Option.some.inj H
 go_wp2_with (first | ((with_reducible refine gate_callee (f := 77) rfl ?_); refine goesL_ (some 17) rfl rfl Tryz.func77 (by kernel_rfl) rfl #[.int .i64 (a0.size : Int), .int .i64 1, .int .i64 12] rfl gl_ ?_; (with_reducible refine (spec_l00In.calls (a0.size : Int) 1 12 t216 _ A7.out).mono ?_); rintro e w' ⟨rfl, ⟨nd, rfl⟩⟩; refine ⟨_, rfl, ?_⟩))
 go_ret
 exact ⟨by first | rfl | (simp; done) | (simp [*]; done), by repeat (first | exact Drawn0.refl _ | apply Drawn0.step)⟩
 }
 )
 )
/-! ### spec_l04Asked: function 34 -/
mutual
def spec_l04Asked.l0 : Nat → List (S40) → List ByteArray → Int → Option (Int)
  | 0, _, _, _ => none
  | k + 1, x0, x1, x5 => if x5 < (x0.length : Int) then (if 0 ≤ x5 then ((spec_l04Habit.f k ((rd_T40 x0 x5).f0) ((rd_T40 x0 x5).f1) ((rd_T40 x0 x5).f2)).bind fun t218 => (if t218 = true then (spec_l04Asked.l0 k x0 x1 (wrap64 (x5 + 1))) else (some 1))) else (none)) else (spec_l04Asked.l1 k x0 x1 0)
def spec_l04Asked.l1 : Nat → List (S40) → List ByteArray → Int → Option (Int)
  | 0, _, _, _ => none
  | k + 1, x0, x1, x6 => if x6 < (x1.length : Int) then (if 0 ≤ x6 then ((spec_l04Word.f k (rdOf ByteArray.empty x1 x6)).bind fun t220 => (if t220 = true then (spec_l04Asked.l1 k x0 x1 (wrap64 (x6 + 1))) else (some 1))) else (none)) else (if (x0.length : Int) > 30 then (some 3) else (if (x1.length : Int) > 40 then (some 3) else (some 0)))
end
def spec_l04Asked.f (k : Nat) (l0 : List (S40)) (l1 : List ByteArray) : Option (Int) := spec_l04Asked.l0 k l0 l1 0
set_option maxHeartbeats 8000000 in
set_option maxRecDepth 100000 in
theorem spec_l04Asked.calls (k : Nat) (A0 : Option Addr) (c0 : Nat) (l0 : List (S40)) (A1 : Option Addr) (c1 : Nat) (l1 : List ByteArray) (r : Int) (w : World) (hr0 : Kd.C k40 w A0 l0.length l0) (hc0 : l0.length ≤ c0) (hr1 : Kd.C Kd.string w A1 l1.length l1) (hc1 : l1.length ≤ c1) (h : spec_l04Asked.f k l0 l1 = some r) :
    Calls Tryz.prog 34 #[.slice A0 l0.length c0, .slice A1 l1.length c1] w fun e w' => e = .returned (.int .i64 r) ∧ Below w.heap.size w w' := by
 have hu40 := Tryz.underlying40
 have HR0 := ak hr0
 have HC0 := ak hc0
 clear hr0 hc0
 have HR1 := ak hr1
 have HC1 := ak hc1
 clear hr1 hc1
 have HB := ak (Below.refl w.heap.size w)
 have H := h
 unfold spec_l04Asked.f at H
 clear h
 have H' := ak H
 clear H
 go_enter Tryz.func34, Tryz.ntmps34
 go_wp2
 go_loopg [5] k (fun kq v5 w' => ∃ (x5_1 : Int), v5 = .int .i64 x5_1 ∧ Aside0 (spec_l04Asked.l0 kq l0 l1 x5_1 = some r) ∧ Aside0 (kq ≤ k) ∧ Aside0 (Below w.heap.size w w'))
 case atStart => exact ⟨(0), (by first | rfl | (simp; done) | (simp [*]; done)), H', ⟨Nat.le_refl _⟩, ⟨zB HB.out⟩⟩
 case round => (
 clear H'
 try clear c1
 obtain ⟨x5_1, rfl, HA, HK1, HB⟩ := hrel
 cases gk with
 | zero => exact absurd HA.out (by simp [spec_l04Asked.l0])
 | succ k1 => (
 have H := HA.out
 clear HA
 simp only [spec_l04Asked.l0] at H
 by_cases c3 : x5_1 < (l0.length : Int)
 {
 rw [if_pos c3] at H
 have c3b0 : decide (x5_1 < (l0.length : Int)) = true := decide_eq_true c3
 clear c3
 by_cases c4 : 0 ≤ x5_1
 {
 rw [if_pos c4] at H
 have c4b0 : decide (0 ≤ x5_1) = true := decide_eq_true c4
 clear c4
 replace H := Option.bind_eq_some_iff.mp H
 obtain ⟨t218, A50, H⟩ := H
 have A5 := ak A50
 clear A50
 by_cases c6 : t218 = true
 {
 subst c6
 rw [if_pos rfl] at H
 have H' := ak H
 clear H
 have p217 : 0 ≤ (x5_1 : Int) := of_decide_eq_true (by first | (with_reducible assumption) | assumption)
 have q217 : x5_1 < (l0.length : Int) := of_decide_eq_true (by first | (with_reducible assumption) | assumption)
 obtain ⟨ad217, e217, hx217_0, hx217_1, hx217_2⟩ := at_T40 HR0.out x5_1 p217 q217
 cases e217
 replace hx217_0 := (HB.out.cell (World.block_lt_of_cell? w _ hx217_0)).trans hx217_0
 replace hx217_1 := (HB.out.cell (World.block_lt_of_cell? w _ hx217_1)).trans hx217_1
 replace hx217_2 := (HB.out.cell (World.block_lt_of_cell? w _ hx217_2)).trans hx217_2
 replace p217 := eq_true p217
 replace q217 := eq_true q217
 go_wp2_with (first | ((with_reducible refine gate_callee (f := 59) rfl ?_); refine goesL_ (some 17) rfl rfl Tryz.func59 (by kernel_rfl) rfl #[.agg #[.int .i8 ((rd_T40 l0 x5_1).f0), .int .u8 ((rd_T40 l0 x5_1).f1), .int .u8 ((rd_T40 l0 x5_1).f2)]] rfl gl_ ?_; (with_reducible refine (spec_l04Habit.calls k1 ((rd_T40 l0 x5_1).f0) ((rd_T40 l0 x5_1).f1) ((rd_T40 l0 x5_1).f2) true _ A5.out).mono ?_); rintro e w7 ⟨rfl, hb⟩; refine ⟨_, rfl, ?_⟩; replace HB := kB HB hb; (try clear hb)))
 go_roundg k1
 case measure => have := HK1.out; omega
 case rel => exact ⟨(wrap64 (x5_1 + 1)), (by first | rfl | (simp; done) | (simp [*]; done)), H', ⟨by have := HK1.out; omega⟩, ⟨zB HB.out⟩⟩
 }
 {
 replace c6 := Bool.eq_false_iff.mpr c6
 subst c6
 rw [if_neg (show ¬ (false = true) by decide)] at H
 obtain rfl := Option.some.inj H
 have p217 : 0 ≤ (x5_1 : Int) := of_decide_eq_true (by first | (with_reducible assumption) | assumption)
 have q217 : x5_1 < (l0.length : Int) := of_decide_eq_true (by first | (with_reducible assumption) | assumption)
 obtain ⟨ad217, e217, hx217_0, hx217_1, hx217_2⟩ := at_T40 HR0.out x5_1 p217 q217
 cases e217
 replace hx217_0 := (HB.out.cell (World.block_lt_of_cell? w _ hx217_0)).trans hx217_0
 replace hx217_1 := (HB.out.cell (World.block_lt_of_cell? w _ hx217_1)).trans hx217_1
 replace hx217_2 := (HB.out.cell (World.block_lt_of_cell? w _ hx217_2)).trans hx217_2
 replace p217 := eq_true p217
 replace q217 := eq_true q217
 go_wp2_with (first | ((with_reducible refine gate_callee (f := 59) rfl ?_); refine goesL_ (some 17) rfl rfl Tryz.func59 (by kernel_rfl) rfl #[.agg #[.int .i8 ((rd_T40 l0 x5_1).f0), .int .u8 ((rd_T40 l0 x5_1).f1), .int .u8 ((rd_T40 l0 x5_1).f2)]] rfl gl_ ?_; (with_reducible refine (spec_l04Habit.calls k1 ((rd_T40 l0 x5_1).f0) ((rd_T40 l0 x5_1).f1) ((rd_T40 l0 x5_1).f2) false _ A5.out).mono ?_); rintro e w8 ⟨rfl, hb⟩; refine ⟨_, rfl, ?_⟩; replace HB := kB HB hb; (try clear hb)))
 go_ret
 exact ⟨by first | rfl | (simp [errW_none, errW_some] <;> rfl) | (simp [*, errW_none, errW_some] <;> rfl), zB HB.out⟩
 }
 }
 · rw [if_neg c4] at H; exact absurd H (by simp)
 }
 {
 rw [if_neg c3] at H
 have c3b0 : decide (x5_1 < (l0.length : Int)) = false := decide_eq_false c3
 clear c3
 have H' := ak H
 clear H
 go_wp2
 go_loopg [6] k1 (fun kq v6 w' => ∃ (x6_2 : Int), v6 = .int .i64 x6_2 ∧ Aside0 (spec_l04Asked.l1 kq l0 l1 x6_2 = some r) ∧ Aside0 (kq ≤ k1) ∧ Aside0 (Below w.heap.size w w'))
 case atStart => exact ⟨(0), (by first | rfl | (simp; done) | (simp [*]; done)), H', ⟨Nat.le_refl _⟩, ⟨zB HB.out⟩⟩
 case round => (
 clear H'
 try clear c1
 try clear c3
 try clear c3b0
 obtain ⟨x6_2, rfl, HA, HK2, HB⟩ := hrel
 cases gk with
 | zero => exact absurd HA.out (by simp [spec_l04Asked.l1])
 | succ k2 => (
 have H := HA.out
 clear HA
 simp only [spec_l04Asked.l1] at H
 by_cases c9 : x6_2 < (l1.length : Int)
 {
 rw [if_pos c9] at H
 have c9b0 : decide (x6_2 < (l1.length : Int)) = true := decide_eq_true c9
 clear c9
 by_cases c10 : 0 ≤ x6_2
 {
 rw [if_pos c10] at H
 have c10b0 : decide (0 ≤ x6_2) = true := decide_eq_true c10
 clear c10
 replace H := Option.bind_eq_some_iff.mp H
 obtain ⟨t220, A110, H⟩ := H
 have A11 := ak A110
 clear A110
 by_cases c12 : t220 = true
 {
 subst c12
 rw [if_pos rfl] at H
 have H' := ak H
 clear H
 have p219 : 0 ≤ (x6_2 : Int) := of_decide_eq_true (by first | (with_reducible assumption) | assumption)
 have q219 : x6_2 < (l1.length : Int) := of_decide_eq_true (by first | (with_reducible assumption) | assumption)
 obtain ⟨ad219, e219, hx219_0⟩ := Kd.at_string HR1.out x6_2 p219 q219
 cases e219
 replace hx219_0 := (HB.out.cell (World.block_lt_of_cell? w _ hx219_0)).trans hx219_0
 replace p219 := eq_true p219
 replace q219 := eq_true q219
 go_wp2_with (first | ((with_reducible refine gate_callee (f := 60) rfl ?_); refine goesL_ (some 29) rfl rfl Tryz.func60 (by kernel_rfl) rfl #[.string (rdOf ByteArray.empty l1 x6_2)] rfl gl_ ?_; (with_reducible refine (spec_l04Word.calls k2 (rdOf ByteArray.empty l1 x6_2) true _ A11.out).mono ?_); rintro e w' ⟨rfl, ⟨nd, rfl⟩⟩; refine ⟨_, rfl, ?_⟩))
 go_roundg k2
 case measure => have := HK1.out; have := HK2.out; omega
 case rel => exact ⟨(wrap64 (x6_2 + 1)), (by first | rfl | (simp; done) | (simp [*]; done)), H', ⟨by have := HK1.out; have := HK2.out; omega⟩, ⟨zB HB.out⟩⟩
 }
 {
 replace c12 := Bool.eq_false_iff.mpr c12
 subst c12
 rw [if_neg (show ¬ (false = true) by decide)] at H
 obtain rfl := Option.some.inj H
 have p219 : 0 ≤ (x6_2 : Int) := of_decide_eq_true (by first | (with_reducible assumption) | assumption)
 have q219 : x6_2 < (l1.length : Int) := of_decide_eq_true (by first | (with_reducible assumption) | assumption)
 obtain ⟨ad219, e219, hx219_0⟩ := Kd.at_string HR1.out x6_2 p219 q219
 cases e219
 replace hx219_0 := (HB.out.cell (World.block_lt_of_cell? w _ hx219_0)).trans hx219_0
 replace p219 := eq_true p219
 replace q219 := eq_true q219
 go_wp2_with (first | ((with_reducible refine gate_callee (f := 60) rfl ?_); refine goesL_ (some 29) rfl rfl Tryz.func60 (by kernel_rfl) rfl #[.string (rdOf ByteArray.empty l1 x6_2)] rfl gl_ ?_; (with_reducible refine (spec_l04Word.calls k2 (rdOf ByteArray.empty l1 x6_2) false _ A11.out).mono ?_); rintro e w' ⟨rfl, ⟨nd, rfl⟩⟩; refine ⟨_, rfl, ?_⟩))
 go_ret
 exact ⟨by first | rfl | (simp [errW_none, errW_some] <;> rfl) | (simp [*, errW_none, errW_some] <;> rfl), zB HB.out⟩
 }
 }
 · rw [if_neg c10] at H; exact absurd H (by simp)
 }
 {
 rw [if_neg c9] at H
 have c9b0 : decide (x6_2 < (l1.length : Int)) = false := decide_eq_false c9
 clear c9
 by_cases c13 : (l0.length : Int) > 30
 {
 rw [if_pos c13] at H
 have c13b0 : decide (30 < (l0.length : Int)) = true := decide_eq_true c13
 have c13b1 : decide (30 < l0.length) = true := decide_eq_true (by omega)
 clear c13
 obtain rfl := Option.some.inj H
 go_wp2
 go_ret
 exact ⟨by first | rfl | (simp [errW_none, errW_some] <;> rfl) | (simp [*, errW_none, errW_some] <;> rfl), zB HB.out⟩
 }
 {
 rw [if_neg c13] at H
 have c13b0 : decide (30 < (l0.length : Int)) = false := decide_eq_false c13
 have c13b1 : decide (30 < l0.length) = false := decide_eq_false (by omega)
 clear c13
 by_cases c14 : (l1.length : Int) > 40
 {
 rw [if_pos c14] at H
 have c14b0 : decide (40 < (l1.length : Int)) = true := decide_eq_true c14
 have c14b1 : decide (40 < l1.length) = true := decide_eq_true (by omega)
 clear c14
 obtain rfl := Option.some.inj H
 go_wp2
 go_ret
 exact ⟨by first | rfl | (simp [errW_none, errW_some] <;> rfl) | (simp [*, errW_none, errW_some] <;> rfl), zB HB.out⟩
 }
 {
 rw [if_neg c14] at H
 have c14b0 : decide (40 < (l1.length : Int)) = false := decide_eq_false c14
 have c14b1 : decide (40 < l1.length) = false := decide_eq_false (by omega)
 clear c14
 obtain rfl := Option.some.inj H
 go_wp2
 go_ret
 exact ⟨by first | rfl | (simp [errW_none, errW_some] <;> rfl) | (simp [*, errW_none, errW_some] <;> rfl), zB HB.out⟩
 }
 }
 }
 )
 )
 }
 )
 )
/-! ### spec_l04Swap: function 78 -/
def spec_l04Swap.f (a0 : ByteArray) (a1 : Int) (a2 : Int) : Option ByteArray := if a0.size ≤ 4611686018427387900 then some (strOfNums ((bytesOf a0).map (Go.Proofs.YtobickehjnogjaaGreatDoor.H.swap1 a1 a2))) else none
theorem spec_l04Swap.calls (a0 : ByteArray) (a1 : Int) (a2 : Int) (r : ByteArray) (w : World) (h : spec_l04Swap.f a0 a1 a2 = some r) :
    Calls Tryz.prog 78 #[.string a0, .int .u8 a1, .int .u8 a2] w fun e w' => e = .returned (.string r) ∧ Below w.heap.size w w' := by
 unfold spec_l04Swap.f at h
 by_cases c : a0.size ≤ 4611686018427387900
 · rw [if_pos c] at h; obtain rfl := Option.some.inj h; exact Go.Proofs.YtobickehjnogjaaGreatDoor.H.l04Swap_calls a0 a1 a2 w c
 · rw [if_neg c] at h; exact absurd h (by simp)
/-! ### spec_l04Drop: function 79 -/
def spec_l04Drop.l0 : Nat → ByteArray → Int → Int → Option (ByteArray)
  | 0, _, _, _ => none
  | k + 1, x0, x1, x5 => if x5 < (x0.size : Int) then (if 0 ≤ x5 then (if (bt x0 x5) = x1 then (if x5 ≤ (x0.size : Int) then (if 0 ≤ (wrap64 (x5 + 1)) then (if (wrap64 (x5 + 1)) ≤ (x0.size : Int) then (if (x0.extract 0 (x5 : Int).toNat).size + (x0.extract ((wrap64 (x5 + 1)) : Int).toNat x0.size).size ≤ 9223372036854775807 then (some ((x0.extract 0 (x5 : Int).toNat) ++ (x0.extract ((wrap64 (x5 + 1)) : Int).toNat x0.size))) else (none)) else (none)) else (none)) else (none)) else (spec_l04Drop.l0 k x0 x1 (wrap64 (x5 + 1)))) else (none)) else (some x0)
def spec_l04Drop.f (k : Nat) (a0 : ByteArray) (a1 : Int) : Option (ByteArray) := if (a0.size : Int) = 1 then (some a0) else (spec_l04Drop.l0 k a0 a1 0)
set_option maxHeartbeats 8000000 in
set_option maxRecDepth 100000 in
theorem spec_l04Drop.calls (k : Nat) (a0 : ByteArray) (a1 : Int) (r : ByteArray) (w : World) (h : spec_l04Drop.f k a0 a1 = some r) :
    Calls Tryz.prog 79 #[.string a0, .int .u8 a1] w fun e w' => e = .returned (.string r) ∧ Drawn0 w w' := by
 have H := h
 unfold spec_l04Drop.f at H
 clear h
 by_cases c3 : (a0.size : Int) = 1
 {
 rw [if_pos c3] at H
 have c3b0 : ((a0.size : Int) == 1) = true := beq_iff_eq.mpr c3
 have c3b1 : ((a0.size : Int) != 1) = false := bne_eq_false_iff_eq.mpr c3
 clear c3
 obtain rfl := Option.some.inj H
 go_enter Tryz.func79, Tryz.ntmps79
 go_wp2
 repeat (go_quiet (fail); try go_wp2)
 go_ret
 exact ⟨by first | rfl | (simp; done) | (simp [*]; done), by repeat (first | exact Drawn0.refl _ | apply Drawn0.step)⟩
 }
 {
 rw [if_neg c3] at H
 have c3b0 : ((a0.size : Int) == 1) = false := beq_eq_false_iff_ne.mpr c3
 have c3b1 : ((a0.size : Int) != 1) = true := bne_iff_ne.mpr c3
 have H' := ak H
 clear H
 go_enter Tryz.func79, Tryz.ntmps79
 go_wp2
 repeat (go_quiet (fail); try go_wp2)
 go_loopg [5] k (fun kq v5 w' => ∃ (x5_1 : Int), v5 = .int .i64 x5_1 ∧ Aside0 (spec_l04Drop.l0 kq a0 a1 x5_1 = some r) ∧ Aside0 (kq ≤ k) ∧ Drawn0 w w')
 case atStart => exact ⟨(0), (by first | rfl | (simp; done) | (simp [*]; done)), H', ⟨Nat.le_refl _⟩, by repeat (first | exact Drawn0.refl _ | apply Drawn0.step)⟩
 case round => (
 clear H'
 try clear c3
 try clear c3b0
 try clear c3b1
 obtain ⟨x5_1, rfl, HA, HK1, ⟨m1, rfl⟩⟩ := hrel
 cases gk with
 | zero => exact absurd HA.out (by simp [spec_l04Drop.l0])
 | succ k1 => (
 have H := HA.out
 clear HA
 simp only [spec_l04Drop.l0] at H
 by_cases c4 : x5_1 < (a0.size : Int)
 {
 rw [if_pos c4] at H
 have c4b0 : decide (x5_1 < (a0.size : Int)) = true := decide_eq_true c4
 clear c4
 by_cases c5 : 0 ≤ x5_1
 {
 rw [if_pos c5] at H
 have c5b0 : decide (0 ≤ x5_1) = true := decide_eq_true c5
 clear c5
 by_cases c7 : (bt a0 x5_1) = a1
 {
 rw [if_pos c7] at H
 have c7b0 : ((bt a0 x5_1) == a1) = true := beq_iff_eq.mpr c7
 have c7b1 : ((bt a0 x5_1) != a1) = false := bne_eq_false_iff_eq.mpr c7
 clear c7
 have c8b0 := eq_true (of_decide_eq_true (by first | (with_reducible assumption) | assumption) : 0 ≤ x5_1)
 by_cases c9 : x5_1 ≤ (a0.size : Int)
 {
 rw [if_pos c9] at H
 have c9b0 := eq_true c9
 have c9b1 : decide (x5_1 ≤ (a0.size : Int)) = true := decide_eq_true c9
 clear c9
 obtain ⟨ji10, hji10⟩ : ∃ j_ : Int, (wrap64 (x5_1 + 1)) = j_ := ⟨_, rfl⟩
 first | rw [hji10] at H | simp only [hji10] at H
 have hji10w : (IntKind.i64.wrap (x5_1 + 1)) = ji10 := (i64_w _).trans hji10
 by_cases c11 : 0 ≤ (ji10)
 {
 rw [if_pos c11] at H
 have c11b0 := eq_true c11
 have c11b1 : decide (0 ≤ (ji10)) = true := decide_eq_true c11
 clear c11
 by_cases c12 : (ji10) ≤ (a0.size : Int)
 {
 rw [if_pos c12] at H
 have c12b0 := eq_true c12
 have c12b1 : decide ((ji10) ≤ (a0.size : Int)) = true := decide_eq_true c12
 clear c12
 by_cases c13 : (a0.extract 0 (x5_1 : Int).toNat).size + (a0.extract ((ji10) : Int).toNat a0.size).size ≤ 9223372036854775807
 {
 rw [if_pos c13] at H
 have c13b0 := eq_true c13
 have c13b1 : decide ((a0.extract 0 (x5_1 : Int).toNat).size + (a0.extract ((ji10) : Int).toNat a0.size).size ≤ 9223372036854775807) = true := decide_eq_true c13
 try have c13b2 : (9223372036854775807 < (a0.extract 0 (x5_1 : Int).toNat).size + (a0.extract ((ji10) : Int).toNat a0.size).size) = False := eq_false (Nat.not_lt.2 c13)
 obtain rfl := Option.some.inj H
 have p6 : 0 ≤ (x5_1 : Int) := of_decide_eq_true (by first | (with_reducible assumption) | assumption)
 have q6 : x5_1 < (a0.size : Int) := of_decide_eq_true (by first | (with_reducible assumption) | assumption)
 have hx6 := bt_at a0 x5_1
 replace p6 := eq_true p6
 replace q6 := eq_true q6
 go_wp2
 repeat (go_quiet (fail); try go_wp2)
 go_ret
 exact ⟨by first | rfl | (simp; done) | (simp only [← hji10] <;> (first | rfl | simp)) | (simp [*]; done), by repeat (first | exact Drawn0.refl _ | apply Drawn0.step)⟩
 }
 · rw [if_neg c13] at H; exact absurd H (by simp)
 }
 · rw [if_neg c12] at H; exact absurd H (by simp)
 }
 · rw [if_neg c11] at H; exact absurd H (by simp)
 }
 · rw [if_neg c9] at H; exact absurd H (by simp)
 }
 {
 rw [if_neg c7] at H
 have c7b0 : ((bt a0 x5_1) == a1) = false := beq_eq_false_iff_ne.mpr c7
 have c7b1 : ((bt a0 x5_1) != a1) = true := bne_iff_ne.mpr c7
 have H' := ak H
 clear H
 have p6 : 0 ≤ (x5_1 : Int) := of_decide_eq_true (by first | (with_reducible assumption) | assumption)
 have q6 : x5_1 < (a0.size : Int) := of_decide_eq_true (by first | (with_reducible assumption) | assumption)
 have hx6 := bt_at a0 x5_1
 replace p6 := eq_true p6
 replace q6 := eq_true q6
 go_wp2
 repeat (go_quiet (fail); try go_wp2)
 go_roundg k1
 case measure => have := HK1.out; omega
 case rel => exact ⟨(wrap64 (x5_1 + 1)), (by first | rfl | (simp; done) | (simp [*]; done)), H', ⟨by have := HK1.out; omega⟩, by repeat (first | exact Drawn0.refl _ | apply Drawn0.step)⟩
 }
 }
 · rw [if_neg c5] at H; exact absurd H (by simp)
 }
 {
 rw [if_neg c4] at H
 have c4b0 : decide (x5_1 < (a0.size : Int)) = false := decide_eq_false c4
 clear c4
 obtain rfl := Option.some.inj H
 go_wp2
 repeat (go_quiet (fail); try go_wp2)
 go_ret
 exact ⟨by first | rfl | (simp; done) | (simp [*]; done), by repeat (first | exact Drawn0.refl _ | apply Drawn0.step)⟩
 }
 )
 )
 }
end Go.Proofs.YtobickehjnogjaaGreatDoor.P
