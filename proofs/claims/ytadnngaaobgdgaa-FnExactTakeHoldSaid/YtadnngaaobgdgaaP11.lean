-- Printed by wip/print (my turned copy of the kit's print) out of the translation; Lean checks it.
import Derived.Test.YtadnngaaobgdgaaP0
import Derived.Test.YtadnngaaobgdgaaP4
import Derived.Test.YtadnngaaobgdgaaP6
import Derived.Test.YtadnngaaobgdgaaP7
namespace Go.Proofs.Ytadnngaaobgdgaa.P
open Go.RowKit Go.Proofs.YtadnngaaobgdgaaW.PrintWords Go.Proofs.YtadnngaaobgdgaaW.PrintLast Go.Proofs.YtadnngaaobgdgaaW.PrintMore
attribute [local go_sem] max2_int min2_int max_two min_two max_three min_three max_four min_four   -- for this text's walks alone
set_option linter.unusedVariables false
set_option linter.unusedSimpArgs false

/-! ### impl_TakeHold_1: function 29 -/
def impl_TakeHold_1.f (a0_0 : Int) (a0_1 : Int) (a1_0 : Int) (a1_1 : Int) : Option (Bool) := if a0_0 = a1_0 then (some true) else (some (a0_1 == a1_1))
set_option maxHeartbeats 8000000 in
set_option maxRecDepth 100000 in
theorem impl_TakeHold_1.calls (a0_0 : Int) (a0_1 : Int) (b1 : Nat) (a1_0 : Int) (a1_1 : Int) (r : Bool) (w : World) (hx1 : w.heap[b1]? = some (.cells #[.int .i16 a1_0, .int .i8 a1_1] 38 (0, 0))) (h : impl_TakeHold_1.f a0_0 a0_1 a1_0 a1_1 = some r) :
    Calls Try.prog 29 #[.agg #[.int .i16 a0_0, .int .i8 a0_1], .pointer (some ⟨b1, 0, none⟩)] w fun e w' => e = .returned (.bool r) ∧ Below w.heap.size w w' := by
  have hu38 := Try.underlying38
  have BK1 := Aside0.mk hx1
  clear hx1
  have HB := Aside0.mk (Below.refl w.heap.size w)
  have H : (if a0_0 = a1_0 then (some true) else (some (a0_1 == a1_1))) = some r := h
  clear h
  by_cases c3 : a0_0 = a1_0
  · rw [if_pos c3] at H
    have c3b0 : (a0_0 == a1_0) = true := beq_iff_eq.mpr c3
    have c3b1 : (a0_0 != a1_0) = false := bne_eq_false_iff_eq.mpr c3
    clear c3
    obtain rfl := Option.some.inj H
    go_enter Try.func29, Try.ntmps29
    go_wp2_with (first | ((with_reducible refine gate_dst (N := 2) rfl ?_); refine box_event ?hg (N := 2) ?hd (cs := #[.int .i16 a0_0, .int .i8 a0_1]) (t := 38) ?hr ?_; (case hd => rfl); (case hg => rfl); (case hr => first | (go_simp; done) | (go_simp; rfl)); intro gb219 hg w4 hbox hb; have n0_ := Aside0.mk (blk_below (g := b1) (o := .cells #[.int .i16 a1_0, .int .i8 a1_1] 38 (0, 0)) (by (with_reducible repeat (first | refine blk_drewN ?_ _ | refine blk_drew ?_ | refine blk_alloc ?_ _)); exact BK1.out) hb); have n1_ := Aside0.mk (below_step (by repeat (first | (with_reducible first | exact HB.out | apply below_alloc | apply pw_below_drewN | apply below_drew1 | refine below_set ?_ GE1.out) | exact HB.out)) hb); have n2_ := Aside0.mk (hbox); have n3_ := Aside0.mk ((by rw [hg]; exact (below_size (by repeat (first | (with_reducible first | exact HB.out | apply below_alloc | apply pw_below_drewN | apply below_drew1 | refine below_set ?_ GE1.out) | exact HB.out))) : w.heap.size ≤ gb219)); have n4_ := Aside0.mk ((by rw [hg]; exact (below_size (by repeat (first | (with_reducible first | exact HB.out | apply below_alloc | apply pw_below_drewN | apply below_drew1 | refine below_set ?_ GE1.out) | exact HB.out))) : w.heap.size ≤ gb219)); have n5_ := Aside0.mk ((by rw [hg]; exact Nat.ne_of_lt (blk_lt (g := b1) (o := .cells #[.int .i16 a1_0, .int .i8 a1_1] 38 (0, 0)) (by (with_reducible repeat (first | refine blk_drewN ?_ _ | refine blk_drew ?_ | refine blk_alloc ?_ _)); exact BK1.out)) : b1 ≠ gb219)); have n6_ := Aside0.mk ((by rw [hg]; exact Nat.ne_of_gt (blk_lt (g := b1) (o := .cells #[.int .i16 a1_0, .int .i8 a1_1] 38 (0, 0)) (by (with_reducible repeat (first | refine blk_drewN ?_ _ | refine blk_drew ?_ | refine blk_alloc ?_ _)); exact BK1.out)) : gb219 ≠ b1)); clear BK1; clear HB; have BK1 := n0_; have HB := n1_; have BK219 := n2_; have GW219 := n3_; have GE219 := n4_; have NB1_219 := n5_; have NB219_1 := n6_; clear n0_ n1_ n2_ n3_ n4_ n5_ n6_; clear hb hbox hg; have hnb5 := NB219_1.out; have hnc5 := NB1_219.out; have hcz6_0 : w4.cell? ⟨gb219, 0, none⟩ = some (.int .i16 a0_0) := (blk_cell BK219.out 0).trans rfl; have hcz6_1 : w4.cell? ⟨gb219, 1, none⟩ = some (.int .i8 a0_1) := (blk_cell BK219.out 1).trans rfl; have hfz6_0 := blk_frozen BK219.out 0; have hfz6_1 := blk_frozen BK219.out 1; have hcz7_0 : w4.cell? ⟨b1, 0, none⟩ = some (.int .i16 a1_0) := (blk_cell BK1.out 0).trans rfl; have hcz7_1 : w4.cell? ⟨b1, 1, none⟩ = some (.int .i8 a1_1) := (blk_cell BK1.out 1).trans rfl; have hfz7_0 := blk_frozen BK1.out 0; have hfz7_1 := blk_frozen BK1.out 1))
    go_ret
    exact ⟨by first | rfl | (simp [errW_none, errW_some] <;> rfl) | (simp [*, errW_none, errW_some] <;> rfl), by repeat (first | (with_reducible first | exact HB.out | apply below_alloc | apply pw_below_drewN | apply below_drew1 | refine below_set ?_ GE1.out | refine below_set ?_ GE219.out) | exact HB.out)⟩
  · rw [if_neg c3] at H
    have c3b0 : (a0_0 == a1_0) = false := beq_eq_false_iff_ne.mpr c3
    have c3b1 : (a0_0 != a1_0) = true := bne_iff_ne.mpr c3
    obtain rfl := Option.some.inj H
    go_enter Try.func29, Try.ntmps29
    go_wp2_with (first | ((with_reducible refine gate_dst (N := 2) rfl ?_); refine box_event ?hg (N := 2) ?hd (cs := #[.int .i16 a0_0, .int .i8 a0_1]) (t := 38) ?hr ?_; (case hd => rfl); (case hg => rfl); (case hr => first | (go_simp; done) | (go_simp; rfl)); intro gb219 hg w8 hbox hb; have n0_ := Aside0.mk (blk_below (g := b1) (o := .cells #[.int .i16 a1_0, .int .i8 a1_1] 38 (0, 0)) (by (with_reducible repeat (first | refine blk_drewN ?_ _ | refine blk_drew ?_ | refine blk_alloc ?_ _)); exact BK1.out) hb); have n1_ := Aside0.mk (below_step (by repeat (first | (with_reducible first | exact HB.out | apply below_alloc | apply pw_below_drewN | apply below_drew1 | refine below_set ?_ GE1.out) | exact HB.out)) hb); have n2_ := Aside0.mk (hbox); have n3_ := Aside0.mk ((by rw [hg]; exact (below_size (by repeat (first | (with_reducible first | exact HB.out | apply below_alloc | apply pw_below_drewN | apply below_drew1 | refine below_set ?_ GE1.out) | exact HB.out))) : w.heap.size ≤ gb219)); have n4_ := Aside0.mk ((by rw [hg]; exact (below_size (by repeat (first | (with_reducible first | exact HB.out | apply below_alloc | apply pw_below_drewN | apply below_drew1 | refine below_set ?_ GE1.out) | exact HB.out))) : w.heap.size ≤ gb219)); have n5_ := Aside0.mk ((by rw [hg]; exact Nat.ne_of_lt (blk_lt (g := b1) (o := .cells #[.int .i16 a1_0, .int .i8 a1_1] 38 (0, 0)) (by (with_reducible repeat (first | refine blk_drewN ?_ _ | refine blk_drew ?_ | refine blk_alloc ?_ _)); exact BK1.out)) : b1 ≠ gb219)); have n6_ := Aside0.mk ((by rw [hg]; exact Nat.ne_of_gt (blk_lt (g := b1) (o := .cells #[.int .i16 a1_0, .int .i8 a1_1] 38 (0, 0)) (by (with_reducible repeat (first | refine blk_drewN ?_ _ | refine blk_drew ?_ | refine blk_alloc ?_ _)); exact BK1.out)) : gb219 ≠ b1)); clear BK1; clear HB; have BK1 := n0_; have HB := n1_; have BK219 := n2_; have GW219 := n3_; have GE219 := n4_; have NB1_219 := n5_; have NB219_1 := n6_; clear n0_ n1_ n2_ n3_ n4_ n5_ n6_; clear hb hbox hg; have hnb9 := NB219_1.out; have hnc9 := NB1_219.out; have hcz10_0 : w8.cell? ⟨gb219, 0, none⟩ = some (.int .i16 a0_0) := (blk_cell BK219.out 0).trans rfl; have hcz10_1 : w8.cell? ⟨gb219, 1, none⟩ = some (.int .i8 a0_1) := (blk_cell BK219.out 1).trans rfl; have hfz10_0 := blk_frozen BK219.out 0; have hfz10_1 := blk_frozen BK219.out 1; have hcz11_0 : w8.cell? ⟨b1, 0, none⟩ = some (.int .i16 a1_0) := (blk_cell BK1.out 0).trans rfl; have hcz11_1 : w8.cell? ⟨b1, 1, none⟩ = some (.int .i8 a1_1) := (blk_cell BK1.out 1).trans rfl; have hfz11_0 := blk_frozen BK1.out 0; have hfz11_1 := blk_frozen BK1.out 1))
    go_ret
    exact ⟨by first | rfl | (simp [errW_none, errW_some] <;> rfl) | (simp [*, errW_none, errW_some] <;> rfl), by repeat (first | (with_reducible first | exact HB.out | apply below_alloc | apply pw_below_drewN | apply below_drew1 | refine below_set ?_ GE1.out | refine below_set ?_ GE219.out) | exact HB.out)⟩

/-! ### slices_IndexFunc_Hold_at_TakeHold_1: function 45 -/
def slices_IndexFunc_Hold_at_TakeHold_1.l0 : Nat → List (S38) → Int → Int → Int → Int → Option (Int)
  | 0, _, _, _, _, _ => none
  | k + 1, x0, x7, x8, x41000, x41001 => if x8 < x7 then (if 0 ≤ x8 then (if x8 < (x0.length : Int) then ((impl_TakeHold_1.f ((rd_T38 x0 x8).f0) ((rd_T38 x0 x8).f1) x41000 x41001).bind fun t221 => (if t221 = true then (some x8) else (slices_IndexFunc_Hold_at_TakeHold_1.l0 k x0 x7 (wrap64 (x8 + 1)) x41000 x41001))) else (none)) else (none)) else (some (-1))
def slices_IndexFunc_Hold_at_TakeHold_1.f (k : Nat) (l0 : List (S38)) (a40_0 : Int) (a40_1 : Int) : Option (Int) := slices_IndexFunc_Hold_at_TakeHold_1.l0 k l0 (l0.length : Int) 0 a40_0 a40_1
theorem slices_IndexFunc_Hold_at_TakeHold_1.mono_l : ∀ k, (∀ y0 y1 y2 y3 y4, LeO (slices_IndexFunc_Hold_at_TakeHold_1.l0 k y0 y1 y2 y3 y4) (slices_IndexFunc_Hold_at_TakeHold_1.l0 (k + 1) y0 y1 y2 y3 y4))
  | 0 => fun _ _ _ _ _ r h => by simp [slices_IndexFunc_Hold_at_TakeHold_1.l0] at h
  | k + 1 => by
    have ih0 := slices_IndexFunc_Hold_at_TakeHold_1.mono_l k
    · intro y0 y1 y2 y3 y4
      unfold slices_IndexFunc_Hold_at_TakeHold_1.l0
      repeat' first
      | (with_reducible exact ih0 _ _ _ _ _)
      | (with_reducible exact LeO.refl _)
      | (with_reducible exact LeO.none _)
      | (with_reducible refine LeO.ite ?_ ?_)
      | (with_reducible refine LeO.bind ?_ (fun _ => ?_))
      | exact ih0 _ _ _ _ _
      | exact LeO.none _
      | refine LeO.ite ?_ ?_
      | refine LeO.bind ?_ (fun _ => ?_)
theorem slices_IndexFunc_Hold_at_TakeHold_1.mono : ∀ a0 a1 a2 k, LeO (slices_IndexFunc_Hold_at_TakeHold_1.f k a0 a1 a2) (slices_IndexFunc_Hold_at_TakeHold_1.f (k + 1) a0 a1 a2) := by
  intro a0 a1 a2 k
  have ih0 := slices_IndexFunc_Hold_at_TakeHold_1.mono_l k
  unfold slices_IndexFunc_Hold_at_TakeHold_1.f
  repeat' first
      | (with_reducible exact ih0 _ _ _ _ _)
      | (with_reducible exact LeO.refl _)
      | (with_reducible exact LeO.none _)
      | (with_reducible refine LeO.ite ?_ ?_)
      | (with_reducible refine LeO.bind ?_ (fun _ => ?_))
      | exact ih0 _ _ _ _ _
      | exact LeO.none _
      | refine LeO.ite ?_ ?_
      | refine LeO.bind ?_ (fun _ => ?_)
set_option maxHeartbeats 8000000 in
set_option maxRecDepth 100000 in
theorem slices_IndexFunc_Hold_at_TakeHold_1.calls (k : Nat) (A0 : Option Addr) (c0 : Nat) (l0 : List (S38)) (b40 : Nat) (a40_0 : Int) (a40_1 : Int) (r : Int) (w : World) (hr0 : Kd.C k38 w A0 l0.length l0) (hc0 : l0.length ≤ c0) (hx40 : w.heap[b40]? = some (.cells #[.int .i16 a40_0, .int .i8 a40_1] 38 (0, 0))) (h : slices_IndexFunc_Hold_at_TakeHold_1.f k l0 a40_0 a40_1 = some r) :
    Calls Try.prog 45 #[.slice A0 l0.length c0, .func (.func 29) #[] #[.pointer (some ⟨b40, 0, none⟩)]] w fun e w' => e = .returned (.int .i64 r) ∧ Below w.heap.size w w' := by
  have hu38 := Try.underlying38
  have HR0 := Aside0.mk hr0
  have HC0 := Aside0.mk hc0
  clear hr0 hc0
  have BK40 := Aside0.mk hx40
  clear hx40
  have HB := Aside0.mk (Below.refl w.heap.size w)
  have H : (slices_IndexFunc_Hold_at_TakeHold_1.l0 k l0 (l0.length : Int) 0 a40_0 a40_1) = some r := h
  clear h
  have H' := Aside0.mk H
  clear H
  go_enter Try.func45, Try.ntmps45
  go_wp2
  go_loopg [8] k (fun kq v8 w' => ∃ (x8_1 : Int), v8 = .int .i64 x8_1 ∧ Aside0 (slices_IndexFunc_Hold_at_TakeHold_1.l0 kq l0 (l0.length : Int) x8_1 a40_0 a40_1 = some r) ∧ Aside0 (kq ≤ k) ∧ Aside0 (w'.heap[b40]? = some (.cells #[.int .i16 a40_0, .int .i8 a40_1] 38 (0, 0))) ∧ Aside0 (Below w.heap.size w w'))
  case atStart => exact ⟨(0), (by first | rfl | (simp; done) | (simp [*]; done)), H', ⟨Nat.le_refl _⟩, ⟨by (with_reducible repeat (first | refine blk_drewN ?_ _ | refine blk_drew ?_ | refine blk_alloc ?_ _)); exact BK40.out⟩, ⟨by repeat (first | (with_reducible first | exact HB.out | apply below_alloc | apply pw_below_drewN | apply below_drew1 | refine below_set ?_ GE40.out) | exact HB.out)⟩⟩
  case round =>
    clear H'
    try clear p2
    obtain ⟨x8_1, rfl, HA, HK1, BK40, HB⟩ := hrel
    cases gk with
    | zero => exact absurd HA.out (by simp [slices_IndexFunc_Hold_at_TakeHold_1.l0])
    | succ k1 =>
      have H := HA.out
      clear HA
      simp only [slices_IndexFunc_Hold_at_TakeHold_1.l0] at H
      by_cases c3 : x8_1 < (l0.length : Int)
      · rw [if_pos c3] at H
        have c3b0 : decide (x8_1 < (l0.length : Int)) = true := decide_eq_true c3
        clear c3
        by_cases c4 : 0 ≤ x8_1
        · rw [if_pos c4] at H
          have c4b0 : decide (0 ≤ x8_1) = true := decide_eq_true c4
          clear c4
          by_cases c5 : x8_1 < (l0.length : Int)
          · rw [if_pos c5] at H
            have c5b0 : decide (x8_1 < (l0.length : Int)) = true := decide_eq_true c5
            clear c5
            replace H := Option.bind_eq_some_iff.mp H
            obtain ⟨t221, A60, H⟩ := H
            replace H : (if t221 = true then (some x8_1) else (slices_IndexFunc_Hold_at_TakeHold_1.l0 k1 l0 (l0.length : Int) (wrap64 (x8_1 + 1)) a40_0 a40_1)) = some r := H
            have A6 := Aside0.mk A60
            clear A60
            by_cases c7 : t221 = true
            · subst c7
              have H1 : (some x8_1) = some r := by rw [if_pos rfl] at H; exact H
              clear H
              have H := H1
              clear H1
              obtain rfl := Option.some.inj H
              have p220 : 0 ≤ (x8_1 : Int) := of_decide_eq_true (by first | (with_reducible assumption) | assumption)
              have q220 : x8_1 < (l0.length : Int) := of_decide_eq_true (by first | (with_reducible assumption) | assumption)
              obtain ⟨ad220, e220, hx220_0, hx220_1⟩ := at_T38 HR0.out x8_1 p220 q220
              cases e220
              replace hx220_0 := (HB.out.cell (World.block_lt_of_cell? w _ hx220_0)).trans hx220_0
              replace hx220_1 := (HB.out.cell (World.block_lt_of_cell? w _ hx220_1)).trans hx220_1
              replace p220 := eq_true p220
              replace q220 := eq_true q220
              go_wp2_with (first | ((with_reducible refine gate_tmpcall (t := 11) rfl ?_); refine goesF_ (some 16) rfl rfl Try.func29 (by kernel_rfl) rfl #[.pointer (some ⟨b40, 0, none⟩)] #[.agg #[.int .i16 ((rd_T38 l0 x8_1).f0), .int .i8 ((rd_T38 l0 x8_1).f1)], .pointer (some ⟨b40, 0, none⟩)] rfl (by first | rfl | (go_simp; done) | (go_simp; rfl)) (by (try simp only [List.map_toArray, List.map_cons, List.map_nil]); first | done | rfl | (simp only [List.length_drop, List.length_take]; rfl) | (go_simp; done)) ?_; (with_reducible refine (impl_TakeHold_1.calls ((rd_T38 l0 x8_1).f0) ((rd_T38 l0 x8_1).f1) b40 a40_0 a40_1 true _ ?side1 A6.out).mono ?_); (case side1 => exact (by first | exact BK40.out | ((with_reducible repeat (first | refine blk_drewN ?_ _ | refine blk_drew ?_ | refine blk_alloc ?_ _)); exact BK40.out))); rintro e w8 ⟨rfl, hb⟩; refine ⟨_, rfl, ?_⟩; have n0_ := Aside0.mk (blk_below (g := b40) (o := .cells #[.int .i16 a40_0, .int .i8 a40_1] 38 (0, 0)) (by (with_reducible repeat (first | refine blk_drewN ?_ _ | refine blk_drew ?_ | refine blk_alloc ?_ _)); exact BK40.out) hb); have n1_ := Aside0.mk (below_step (by repeat (first | (with_reducible first | exact HB.out | apply below_alloc | apply pw_below_drewN | apply below_drew1 | refine below_set ?_ GE40.out) | exact HB.out)) hb); clear BK40; clear HB; have BK40 := n0_; have HB := n1_; clear n0_ n1_; (try clear hb); (try clear hb2); (try clear hk); (try clear hi)))
              go_ret
              exact ⟨by first | rfl | (simp [errW_none, errW_some] <;> rfl) | (simp [*, errW_none, errW_some] <;> rfl), by repeat (first | (with_reducible first | exact HB.out | apply below_alloc | apply pw_below_drewN | apply below_drew1 | refine below_set ?_ GE40.out) | exact HB.out)⟩
            · replace c7 := Bool.eq_false_iff.mpr c7
              subst c7
              have H1 : (slices_IndexFunc_Hold_at_TakeHold_1.l0 k1 l0 (l0.length : Int) (wrap64 (x8_1 + 1)) a40_0 a40_1) = some r := by rw [if_neg (show ¬ (false = true) by decide)] at H; exact H
              clear H
              have H := H1
              clear H1
              have H' := Aside0.mk H
              clear H
              have p220 : 0 ≤ (x8_1 : Int) := of_decide_eq_true (by first | (with_reducible assumption) | assumption)
              have q220 : x8_1 < (l0.length : Int) := of_decide_eq_true (by first | (with_reducible assumption) | assumption)
              obtain ⟨ad220, e220, hx220_0, hx220_1⟩ := at_T38 HR0.out x8_1 p220 q220
              cases e220
              replace hx220_0 := (HB.out.cell (World.block_lt_of_cell? w _ hx220_0)).trans hx220_0
              replace hx220_1 := (HB.out.cell (World.block_lt_of_cell? w _ hx220_1)).trans hx220_1
              replace p220 := eq_true p220
              replace q220 := eq_true q220
              go_wp2_with (first | ((with_reducible refine gate_tmpcall (t := 11) rfl ?_); refine goesF_ (some 16) rfl rfl Try.func29 (by kernel_rfl) rfl #[.pointer (some ⟨b40, 0, none⟩)] #[.agg #[.int .i16 ((rd_T38 l0 x8_1).f0), .int .i8 ((rd_T38 l0 x8_1).f1)], .pointer (some ⟨b40, 0, none⟩)] rfl (by first | rfl | (go_simp; done) | (go_simp; rfl)) (by (try simp only [List.map_toArray, List.map_cons, List.map_nil]); first | done | rfl | (simp only [List.length_drop, List.length_take]; rfl) | (go_simp; done)) ?_; (with_reducible refine (impl_TakeHold_1.calls ((rd_T38 l0 x8_1).f0) ((rd_T38 l0 x8_1).f1) b40 a40_0 a40_1 false _ ?side1 A6.out).mono ?_); (case side1 => exact (by first | exact BK40.out | ((with_reducible repeat (first | refine blk_drewN ?_ _ | refine blk_drew ?_ | refine blk_alloc ?_ _)); exact BK40.out))); rintro e w9 ⟨rfl, hb⟩; refine ⟨_, rfl, ?_⟩; have n0_ := Aside0.mk (blk_below (g := b40) (o := .cells #[.int .i16 a40_0, .int .i8 a40_1] 38 (0, 0)) (by (with_reducible repeat (first | refine blk_drewN ?_ _ | refine blk_drew ?_ | refine blk_alloc ?_ _)); exact BK40.out) hb); have n1_ := Aside0.mk (below_step (by repeat (first | (with_reducible first | exact HB.out | apply below_alloc | apply pw_below_drewN | apply below_drew1 | refine below_set ?_ GE40.out) | exact HB.out)) hb); clear BK40; clear HB; have BK40 := n0_; have HB := n1_; clear n0_ n1_; (try clear hb); (try clear hb2); (try clear hk); (try clear hi)))
              go_roundg k1
              case measure => have := HK1.out; omega
              case rel => exact ⟨(wrap64 (x8_1 + 1)), (by first | rfl | (simp; done) | (simp [*]; done)), H', ⟨by have := HK1.out; omega⟩, ⟨by (with_reducible repeat (first | refine blk_drewN ?_ _ | refine blk_drew ?_ | refine blk_alloc ?_ _)); exact BK40.out⟩, ⟨by repeat (first | (with_reducible first | exact HB.out | apply below_alloc | apply pw_below_drewN | apply below_drew1 | refine below_set ?_ GE40.out) | exact HB.out)⟩⟩
          · rw [if_neg c5] at H
            exact absurd H (by simp)
        · rw [if_neg c4] at H
          exact absurd H (by simp)
      · rw [if_neg c3] at H
        have c3b0 : decide (x8_1 < (l0.length : Int)) = false := decide_eq_false c3
        clear c3
        obtain rfl := Option.some.inj H
        go_wp2
        go_ret
        exact ⟨by first | rfl | (simp [errW_none, errW_some] <;> rfl) | (simp [*, errW_none, errW_some] <;> rfl), by repeat (first | (with_reducible first | exact HB.out | apply below_alloc | apply pw_below_drewN | apply below_drew1 | refine below_set ?_ GE40.out) | exact HB.out)⟩

/-! ### slices_ContainsFunc_Hold_at_TakeHold_1: function 28 -/
def slices_ContainsFunc_Hold_at_TakeHold_1.f (k : Nat) (l0 : List (S38)) (a40_0 : Int) (a40_1 : Int) : Option (Bool) := (slices_IndexFunc_Hold_at_TakeHold_1.f k l0 a40_0 a40_1).bind fun t222 => (some (decide (t222 ≥ 0)))
theorem slices_ContainsFunc_Hold_at_TakeHold_1.mono : ∀ a0 a1 a2 k, LeO (slices_ContainsFunc_Hold_at_TakeHold_1.f k a0 a1 a2) (slices_ContainsFunc_Hold_at_TakeHold_1.f (k + 1) a0 a1 a2) := by
  intro a0 a1 a2 k
  unfold slices_ContainsFunc_Hold_at_TakeHold_1.f
  repeat' first
      | (with_reducible exact slices_IndexFunc_Hold_at_TakeHold_1.mono _ _ _ _)
      | (with_reducible exact LeO.refl _)
      | (with_reducible exact LeO.none _)
      | (with_reducible refine LeO.ite ?_ ?_)
      | (with_reducible refine LeO.bind ?_ (fun _ => ?_))
      | exact slices_IndexFunc_Hold_at_TakeHold_1.mono _ _ _ _
      | exact LeO.none _
      | refine LeO.ite ?_ ?_
      | refine LeO.bind ?_ (fun _ => ?_)
set_option maxHeartbeats 8000000 in
set_option maxRecDepth 100000 in
theorem slices_ContainsFunc_Hold_at_TakeHold_1.calls (k : Nat) (A0 : Option Addr) (c0 : Nat) (l0 : List (S38)) (b40 : Nat) (a40_0 : Int) (a40_1 : Int) (r : Bool) (w : World) (hr0 : Kd.C k38 w A0 l0.length l0) (hc0 : l0.length ≤ c0) (hx40 : w.heap[b40]? = some (.cells #[.int .i16 a40_0, .int .i8 a40_1] 38 (0, 0))) (h : slices_ContainsFunc_Hold_at_TakeHold_1.f k l0 a40_0 a40_1 = some r) :
    Calls Try.prog 28 #[.slice A0 l0.length c0, .func (.func 29) #[] #[.pointer (some ⟨b40, 0, none⟩)]] w fun e w' => e = .returned (.bool r) ∧ Below w.heap.size w w' := by
  have HR0 := Aside0.mk hr0
  have HC0 := Aside0.mk hc0
  clear hr0 hc0
  have BK40 := Aside0.mk hx40
  clear hx40
  have HB := Aside0.mk (Below.refl w.heap.size w)
  have H : ((slices_IndexFunc_Hold_at_TakeHold_1.f k l0 a40_0 a40_1).bind fun t222 => (some (decide (t222 ≥ 0)))) = some r := h
  clear h
  replace H := Option.bind_eq_some_iff.mp H
  obtain ⟨t222, A30, H⟩ := H
  replace H : (some (decide (t222 ≥ 0))) = some r := H
  have A3 := Aside0.mk A30
  clear A30
  obtain rfl := Option.some.inj H
  go_enter Try.func28, Try.ntmps28
  go_wp2_with (first | ((with_reducible refine gate_callee (f := 45) rfl ?_); refine goesL_ (some 7) rfl rfl Try.func45 (by kernel_rfl) rfl #[.slice A0 l0.length c0, .func (.func 29) #[] #[.pointer (some ⟨b40, 0, none⟩)]] rfl (by (try simp only [List.map_toArray, List.map_cons, List.map_nil]); first | done | rfl | (simp only [List.length_drop, List.length_take]; rfl)) ?_; (with_reducible refine (slices_IndexFunc_Hold_at_TakeHold_1.calls k _ _ l0 b40 a40_0 a40_1 t222 _ ?side1 ?side2 ?side3 A3.out).mono ?_); (case side1 => repeat (first | exact HR0.out | (with_reducible refine Kd.C_alloc ?_ _) | (with_reducible refine Kd.C_drewN ?_ _) | (with_reducible refine Kd.C_drew ?_))); (case side2 => exact HC0.out); (case side3 => exact (by first | exact BK40.out | ((with_reducible repeat (first | refine blk_drewN ?_ _ | refine blk_drew ?_ | refine blk_alloc ?_ _)); exact BK40.out))); rintro e w4 ⟨rfl, hb⟩; refine ⟨_, rfl, ?_⟩; have n0_ := Aside0.mk (blk_below (g := b40) (o := .cells #[.int .i16 a40_0, .int .i8 a40_1] 38 (0, 0)) (by (with_reducible repeat (first | refine blk_drewN ?_ _ | refine blk_drew ?_ | refine blk_alloc ?_ _)); exact BK40.out) hb); have n1_ := Aside0.mk (below_step (by repeat (first | (with_reducible first | exact HB.out | apply below_alloc | apply pw_below_drewN | apply below_drew1 | refine below_set ?_ GE40.out) | exact HB.out)) hb); clear BK40; clear HB; have BK40 := n0_; have HB := n1_; clear n0_ n1_; (try clear hb); (try clear hb2); (try clear hk); (try clear hi)))
  go_ret
  exact ⟨by first | rfl | (simp [errW_none, errW_some] <;> rfl) | (simp [*, errW_none, errW_some] <;> rfl), by repeat (first | (with_reducible first | exact HB.out | apply below_alloc | apply pw_below_drewN | apply below_drew1 | refine below_set ?_ GE40.out) | exact HB.out)⟩

/-! ### impl_TakeHold: function 11 -/
def impl_TakeHold.okT (l : List S38) (z : Int) : Prop := l.length ≤ 1000 ∧ (∀ x ∈ l, 0 ≤ x.f1 ∧ x.f1 < 128) ∧ (0 ≤ z ∧ z < 128) ∧ l.Pairwise (fun a b => a.f1 < b.f1) ∧ ∀ x ∈ l, x.f1 ≠ z
instance (l : List S38) (z : Int) : Decidable (impl_TakeHold.okT l z) := by unfold impl_TakeHold.okT; infer_instance
def impl_TakeHold.f (k : Nat) (a0_0 : Int) (l0_1 : List Int) (l1 : List S38) (a2_0 a2_1 : Int) : Option (List S38 × Int) := (impl_ValidHolds.f k a0_0 l0_1 l1).bind fun vb => (if vb = true then (impl_Rope_isHold.f a0_0 l0_1 a2_0 a2_1).bind fun hb => (if hb = true then (slices_ContainsFunc_Hold_at_TakeHold_1.f k l1 a2_0 a2_1).bind fun cb => (if cb = true then some (([] : List S38), (4 : Int)) else (if impl_TakeHold.okT l1 a2_1 then some (Go.Proofs.Ytadnngaaobgdgaa.H.insT (fun x : S38 => x.f1) ⟨a2_0, a2_1⟩ l1, (0 : Int)) else none)) else some (([] : List S38), (2 : Int))) else some (([] : List S38), (1 : Int)))
theorem impl_TakeHold.mono : ∀ a0 a1 a2 a3 a4 k, LeO (impl_TakeHold.f k a0 a1 a2 a3 a4) (impl_TakeHold.f (k + 1) a0 a1 a2 a3 a4) := by
  intro a0 a1 a2 a3 a4 k
  unfold impl_TakeHold.f
  repeat' first
      | (with_reducible exact impl_ValidHolds.mono _ _ _ _)
      | (with_reducible exact slices_ContainsFunc_Hold_at_TakeHold_1.mono _ _ _ _)
      | (with_reducible exact LeO.refl _)
      | (with_reducible exact LeO.none _)
      | (with_reducible refine LeO.ite ?_ ?_)
      | (with_reducible refine LeO.bind ?_ (fun _ => ?_))
      | exact impl_ValidHolds.mono _ _ _ _
      | exact slices_ContainsFunc_Hold_at_TakeHold_1.mono _ _ _ _
      | exact LeO.none _
      | refine LeO.ite ?_ ?_
      | refine LeO.bind ?_ (fun _ => ?_)
set_option maxHeartbeats 8000000 in
set_option maxRecDepth 1000000 in
theorem impl_TakeHold.calls (k : Nat) (a0_0 : Int) (A0_1 : Option Addr) (c0_1 : Nat) (l0_1 : List Int) (A1 : Option Addr) (c1 : Nat) (l1 : List S38) (a2_0 : Int) (a2_1 : Int) (r1 : List S38) (r2 : Int) (w : World) (hr0_1 : Kd.C (Kd.int .i16) w A0_1 l0_1.length l0_1) (hc0_1 : l0_1.length ≤ c0_1) (hr1 : Kd.C k38 w A1 l1.length l1) (hc1 : l1.length ≤ c1) (h : impl_TakeHold.f k a0_0 l0_1 l1 a2_0 a2_1 = some (r1, r2)) :
    Calls Try.prog 11 #[.agg #[.int .i16 a0_0, .slice A0_1 l0_1.length c0_1], .slice A1 l1.length c1, .agg #[.int .i16 a2_0, .int .i8 a2_1]] w fun e w' => ∃ v0_ : Value, e = .returned (.tuple #[v0_, .int .i64 r2]) ∧ Kd.R k38 38 w' w.heap.size (fun _ => True) v0_ r1 ∧ Below w.heap.size w w' := by
  unfold impl_TakeHold.f at h
  obtain ⟨vb, hvb, h⟩ := Option.bind_eq_some_iff.mp h
  have hvalid : ∀ W, Below w.heap.size w W → Calls Try.prog 26 #[.agg #[.int .i16 a0_0, .slice A0_1 l0_1.length c0_1], .slice A1 l1.length c1] W fun e w' => e = .returned (.bool vb) ∧ Below W.heap.size W w' := fun W q =>
    impl_ValidHolds.calls k a0_0 A0_1 c0_1 l0_1 A1 c1 l1 vb W (Kd.C_below hr0_1 q) hc0_1 (Kd.C_below hr1 q) hc1 hvb
  cases vb with
  | false =>
    rw [if_neg (by decide)] at h
    obtain ⟨rfl, rfl⟩ := Prod.mk.inj (Option.some.inj h)
    refine (Go.Proofs.Ytadnngaaobgdgaa.H.takeHold_err a0_0 A0_1 l0_1.length c0_1 A1 l1.length c1 a2_0 a2_1 w false false false (Or.inl rfl) hvalid (fun z => absurd z (by decide)) (fun z => absurd z (by decide))).mono ?_
    rintro e w' ⟨rfl, hB⟩
    exact ⟨_, rfl, Kd.R_nil _ _ _ _ _, hB⟩
  | true =>
    rw [if_pos rfl] at h
    obtain ⟨hb, hhb, h⟩ := Option.bind_eq_some_iff.mp h
    have hhold : ∀ W, Below w.heap.size w W → Calls Try.prog 27 #[.agg #[.int .i16 a0_0, .slice A0_1 l0_1.length c0_1], .agg #[.int .i16 a2_0, .int .i8 a2_1]] W fun e w' => e = .returned (.bool hb) ∧ Below W.heap.size W w' := fun W q =>
      impl_Rope_isHold.calls a0_0 A0_1 c0_1 l0_1 a2_0 a2_1 hb W (Kd.C_below hr0_1 q) hc0_1 hhb
    cases hb with
    | false =>
      rw [if_neg (by decide)] at h
      obtain ⟨rfl, rfl⟩ := Prod.mk.inj (Option.some.inj h)
      refine (Go.Proofs.Ytadnngaaobgdgaa.H.takeHold_err a0_0 A0_1 l0_1.length c0_1 A1 l1.length c1 a2_0 a2_1 w true false false (Or.inr (Or.inl rfl)) hvalid (fun _ => hhold) (fun _ z => absurd z (by decide))).mono ?_
      rintro e w' ⟨rfl, hB⟩
      exact ⟨_, rfl, Kd.R_nil _ _ _ _ _, hB⟩
    | true =>
      rw [if_pos rfl] at h
      obtain ⟨cb, hcb, h⟩ := Option.bind_eq_some_iff.mp h
      have hcont : ∀ W b, Below w.heap.size w W → W.heap[b]? = some (.cells #[.int .i16 a2_0, .int .i8 a2_1] 38 (0, 0)) → Calls Try.prog 28 #[.slice A1 l1.length c1, .func (.func 29) #[] #[.pointer (some ⟨b, 0, none⟩)]] W fun e w' => e = .returned (.bool cb) ∧ Below W.heap.size W w' := fun W b q hx =>
        slices_ContainsFunc_Hold_at_TakeHold_1.calls k A1 c1 l1 b a2_0 a2_1 cb W (Kd.C_below hr1 q) hc1 hx hcb
      cases cb with
      | true =>
        rw [if_pos rfl] at h
        obtain ⟨rfl, rfl⟩ := Prod.mk.inj (Option.some.inj h)
        refine (Go.Proofs.Ytadnngaaobgdgaa.H.takeHold_err a0_0 A0_1 l0_1.length c0_1 A1 l1.length c1 a2_0 a2_1 w true true true (Or.inr (Or.inr rfl)) hvalid (fun _ => hhold) (fun _ _ => hcont)).mono ?_
        rintro e w' ⟨rfl, hB⟩
        exact ⟨_, rfl, Kd.R_nil _ _ _ _ _, hB⟩
      | false =>
        rw [if_neg (by decide)] at h
        by_cases c : impl_TakeHold.okT l1 a2_1
        · rw [if_pos c] at h
          obtain ⟨rfl, rfl⟩ := Prod.mk.inj (Option.some.inj h)
          obtain ⟨o1, o2, o3, o4, o5⟩ := c
          obtain ⟨x0, hx0⟩ : ∃ x0 : S38, x0 = ⟨a2_0, a2_1⟩ := ⟨_, rfl⟩
          have hx1 : x0.f1 = a2_1 := by rw [hx0]
          have hx2 : x0.f0 = a2_0 := by rw [hx0]
          obtain ⟨who, hwho⟩ : ∃ who, who = Go.Proofs.Ytadnngaaobgdgaa.H.whoT (fun x : S38 => x.f0) (fun x => x.f1) (l1 ++ [x0]) := ⟨_, rfl⟩
          obtain ⟨kf, hkf⟩ : ∃ kf : S38 → Fin 128, ∀ x, (kf x).val = x.f1.toNat % 128 := ⟨fun x => ⟨x.f1.toNat % 128, Nat.mod_lt _ (by decide)⟩, fun _ => rfl⟩
          have hrng : ∀ x ∈ l1 ++ [x0], 0 ≤ x.f1 ∧ x.f1 < 128 := fun x hx => by
            rcases List.mem_append.1 hx with q | q
            · exact o2 x q
            · rw [List.mem_singleton.1 q, hx1]; exact o3
          have hval : ∀ x ∈ l1 ++ [x0], ((kf x).val : Int) = x.f1 := fun x hx => by
            have := hrng x hx
            rw [hkf]; omega
          have hdis : ((l1 ++ [x0]).map (fun x : S38 => x.f1)).Pairwise (fun a b => a ≠ b) := by
            rw [List.pairwise_map, List.pairwise_append]
            refine ⟨o4.imp (fun z => by omega), List.pairwise_singleton _ _, fun a ha b hb => ?_⟩
            rw [List.mem_singleton.1 hb, hx1]
            exact o5 a ha
          have hkw : ∀ x ∈ l1 ++ [x0], who (kf x).val = x.f0 ∧ ((kf x).val : Int) = x.f1 := fun x hx => ⟨by rw [hwho]; exact Go.Proofs.Ytadnngaaobgdgaa.H.whoT_mem _ _ _ hdis x hx _ (hval x hx), hval x hx⟩
          have hm0 : x0 ∈ l1 ++ [x0] := by simp
          have hperm := Go.Proofs.Ytadnngaaobgdgaa.H.insT_perm (fun x : S38 => x.f1) x0 l1
          have hsort := Go.Proofs.Ytadnngaaobgdgaa.H.insT_sorted (fun x : S38 => x.f1) x0 l1 o4 (fun x hx => by rw [hx1]; exact o5 x hx)
          have hin : ∀ x ∈ Go.Proofs.Ytadnngaaobgdgaa.H.insT (fun x : S38 => x.f1) x0 l1, x ∈ l1 ++ [x0] := fun x hx => hperm.mem_iff.1 hx
          have hcl := slices_Clone_Hold.calls
          have hclone : ∀ W, Below w.heap.size w W → Calls Try.prog 30 #[.slice A1 (l1.map kf).length c1] W fun e w' => ∃ v : Value, e = .returned v ∧ w'.ownsRow W.heap.size 38 2 v (l1.map kf).length (Go.Proofs.Ytadnngaaobgdgaa.H.cellsT who (l1.map kf)) ∧ Below W.heap.size W w' := fun W q => by
            rw [List.length_map]
            have hcf : slices_Clone_Hold.f l1 = some l1 := by
              unfold slices_Clone_Hold.f
              rw [Option.bind_some, if_pos (by simp; omega), List.nil_append]
            refine (hcl A1 c1 l1 l1 W (Kd.C_below hr1 q) hc1 hcf).mono ?_
            rintro e w' ⟨v, rfl, ⟨_, cs, ho, hre⟩, hB⟩
            have hcs := Go.Proofs.Ytadnngaaobgdgaa.H.cells_of_reps l1 (fun x => x.f0) (fun x => x.f1) (fun x c hq => k38_openM hq) hre who kf (fun x hx => hkw x (List.mem_append_left _ hx))
            subst hcs
            exact ⟨v, rfl, ho, hB⟩
          have hmain := Go.Proofs.Ytadnngaaobgdgaa.H.takeHold_calls a0_0 A0_1 l0_1.length c0_1 A1 c1 who (l1.map kf) ((Go.Proofs.Ytadnngaaobgdgaa.H.insT (fun x : S38 => x.f1) x0 l1).map kf) (kf x0) a2_0 a2_1 ((hkw x0 hm0).1.trans hx2) ((hkw x0 hm0).2.trans hx1) w (by rw [List.length_map]; exact o1) (by have := hperm.map kf; rw [List.map_append] at this; exact this) (by
            rw [List.pairwise_map]
            refine hsort.imp_of_mem (fun {a b} ha hb hab => ?_)
            have e1 := hval a (hin a ha)
            have e2 := hval b (hin b hb)
            have hab' : a.f1 < b.f1 := hab
            omega) (by rw [List.length_map]; exact hvalid) hhold (by rw [List.length_map]; exact hcont) hclone
          rw [List.length_map] at hmain
          refine hmain.mono ?_
          rintro e w' ⟨v, rfl, ho, hB⟩
          refine ⟨v, rfl, ⟨fun _ _ => trivial, _, ?_, Go.Proofs.Ytadnngaaobgdgaa.H.reps_of_cells _ (fun x => x.f0) (fun x => x.f1) (fun x => k38_mkM _ _ _ x) who kf (fun x hx => hkw x (hin x (by rw [hx0]; exact hx)))⟩, hB⟩
          have hlen : (Go.Proofs.Ytadnngaaobgdgaa.H.insT (fun x : S38 => x.f1) ⟨a2_0, a2_1⟩ l1).length = l1.length + 1 := by
            have := hperm.length_eq
            rw [hx0] at this
            rw [this, List.length_append]; rfl
          rw [hlen]
          rw [hx0] at ho
          exact ho
        · rw [if_neg c] at h; exact absurd h (by simp)

/-! ### laws_heldHoldS: function 16 -/
def laws_heldHoldS.l0 : Nat → List (S38) → Int → Int → Option (Int)
  | 0, _, _, _ => none
  | k + 1, x0, x1, x5 => if x5 < (x0.length : Int) then (if 0 ≤ x5 then (if ((rd_T38 x0 x5).f0) = (IntKind.i16.wrap (x1)) then (if ((rd_T38 x0 x5).f1) = (IntKind.i8.wrap (wrap64 (x1 + 1))) then (laws_heldHoldS.l0 k x0 (wrap64 ((wrap64 (x1 + 1)) + 1)) (wrap64 (x5 + 1))) else (some (-1))) else (some (-1))) else (none)) else (some x1)
def laws_heldHoldS.f (k : Nat) (l0 : List (S38)) (a1 : Int) : Option (Int) := laws_heldHoldS.l0 k l0 a1 0
theorem laws_heldHoldS.mono_l : ∀ k, (∀ y0 y1 y2, LeO (laws_heldHoldS.l0 k y0 y1 y2) (laws_heldHoldS.l0 (k + 1) y0 y1 y2))
  | 0 => fun _ _ _ r h => by simp [laws_heldHoldS.l0] at h
  | k + 1 => by
    have ih0 := laws_heldHoldS.mono_l k
    · intro y0 y1 y2
      unfold laws_heldHoldS.l0
      repeat' first
      | (with_reducible exact ih0 _ _ _)
      | (with_reducible exact LeO.refl _)
      | (with_reducible exact LeO.none _)
      | (with_reducible refine LeO.ite ?_ ?_)
      | (with_reducible refine LeO.bind ?_ (fun _ => ?_))
      | exact ih0 _ _ _
      | exact LeO.none _
      | refine LeO.ite ?_ ?_
      | refine LeO.bind ?_ (fun _ => ?_)
theorem laws_heldHoldS.mono : ∀ a0 a1 k, LeO (laws_heldHoldS.f k a0 a1) (laws_heldHoldS.f (k + 1) a0 a1) := by
  intro a0 a1 k
  have ih0 := laws_heldHoldS.mono_l k
  unfold laws_heldHoldS.f
  repeat' first
      | (with_reducible exact ih0 _ _ _)
      | (with_reducible exact LeO.refl _)
      | (with_reducible exact LeO.none _)
      | (with_reducible refine LeO.ite ?_ ?_)
      | (with_reducible refine LeO.bind ?_ (fun _ => ?_))
      | exact ih0 _ _ _
      | exact LeO.none _
      | refine LeO.ite ?_ ?_
      | refine LeO.bind ?_ (fun _ => ?_)
set_option maxHeartbeats 8000000 in
set_option maxRecDepth 100000 in
theorem laws_heldHoldS.calls (k : Nat) (A0 : Option Addr) (c0 : Nat) (l0 : List (S38)) (a1 : Int) (r : Int) (w : World) (hr0 : Kd.C k38 w A0 l0.length l0) (hc0 : l0.length ≤ c0) (h : laws_heldHoldS.f k l0 a1 = some r) :
    Calls Try.prog 16 #[.slice A0 l0.length c0, .int .i64 a1] w fun e w' => e = .returned (.int .i64 r) ∧ Drawn0 w w' := by
  have HR0 := Aside0.mk hr0
  have HC0 := Aside0.mk hc0
  clear hr0 hc0
  have H : (laws_heldHoldS.l0 k l0 a1 0) = some r := h
  clear h
  have H' := Aside0.mk H
  clear H
  go_enter Try.func16, Try.ntmps16
  go_wp2
  go_loopg [1, 5] k (fun kq v1 v5 w' => ∃ (x1_1 : Int) (x5_1 : Int), v1 = .int .i64 x1_1 ∧ v5 = .int .i64 x5_1 ∧ Aside0 (laws_heldHoldS.l0 kq l0 x1_1 x5_1 = some r) ∧ Aside0 (kq ≤ k) ∧ Drawn0 w w')
  case atStart => exact ⟨(a1), (0), (by first | rfl | (simp; done) | (simp [*]; done)), (by first | rfl | (simp; done) | (simp [*]; done)), H', ⟨Nat.le_refl _⟩, by repeat (first | exact Drawn0.refl _ | apply Drawn0.step)⟩
  case round =>
    clear H'
    try clear c1
    try clear p2
    obtain ⟨x1_1, x5_1, rfl, rfl, HA, HK1, ⟨m1, rfl⟩⟩ := hrel
    cases gk with
    | zero => exact absurd HA.out (by simp [laws_heldHoldS.l0])
    | succ k1 =>
      have H := HA.out
      clear HA
      simp only [laws_heldHoldS.l0] at H
      by_cases c3 : x5_1 < (l0.length : Int)
      · rw [if_pos c3] at H
        have c3b0 : decide (x5_1 < (l0.length : Int)) = true := decide_eq_true c3
        clear c3
        by_cases c4 : 0 ≤ x5_1
        · rw [if_pos c4] at H
          have c4b0 : decide (0 ≤ x5_1) = true := decide_eq_true c4
          clear c4
          by_cases c5 : ((rd_T38 l0 x5_1).f0) = (IntKind.i16.wrap (x1_1))
          · rw [if_pos c5] at H
            have c5b0 : (((rd_T38 l0 x5_1).f0) == (IntKind.i16.wrap (x1_1))) = true := beq_iff_eq.mpr c5
            have c5b1 : (((rd_T38 l0 x5_1).f0) != (IntKind.i16.wrap (x1_1))) = false := bne_eq_false_iff_eq.mpr c5
            clear c5
            by_cases c6 : ((rd_T38 l0 x5_1).f1) = (IntKind.i8.wrap (wrap64 (x1_1 + 1)))
            · rw [if_pos c6] at H
              have c6b0 : (((rd_T38 l0 x5_1).f1) == (IntKind.i8.wrap (wrap64 (x1_1 + 1)))) = true := beq_iff_eq.mpr c6
              have c6b1 : (((rd_T38 l0 x5_1).f1) != (IntKind.i8.wrap (wrap64 (x1_1 + 1)))) = false := bne_eq_false_iff_eq.mpr c6
              (try (have c6b2 : (((rd_T38 l0 x5_1).f1) == (IntKind.i8.wrap (IntKind.i64.wrap (x1_1 + 1)))) = true := by first | simpa only [i64_w, i32_w] using (show (((rd_T38 l0 x5_1).f1) == (IntKind.i8.wrap (wrap64 (x1_1 + 1)))) = true from beq_iff_eq.mpr c6) | simpa only [i64_w] using (show (((rd_T38 l0 x5_1).f1) == (IntKind.i8.wrap (wrap64 (x1_1 + 1)))) = true from beq_iff_eq.mpr c6)))
              (try (have c6b3 : (((rd_T38 l0 x5_1).f1) != (IntKind.i8.wrap (IntKind.i64.wrap (x1_1 + 1)))) = false := by first | simpa only [i64_w, i32_w] using (show (((rd_T38 l0 x5_1).f1) != (IntKind.i8.wrap (wrap64 (x1_1 + 1)))) = false from bne_eq_false_iff_eq.mpr c6) | simpa only [i64_w] using (show (((rd_T38 l0 x5_1).f1) != (IntKind.i8.wrap (wrap64 (x1_1 + 1)))) = false from bne_eq_false_iff_eq.mpr c6)))
              clear c6
              have H' := Aside0.mk H
              clear H
              have p239 : 0 ≤ (x5_1 : Int) := of_decide_eq_true (by first | (with_reducible assumption) | assumption)
              have q239 : x5_1 < (l0.length : Int) := of_decide_eq_true (by first | (with_reducible assumption) | assumption)
              obtain ⟨ad239, e239, hx239_0, hx239_1⟩ := at_T38 HR0.out x5_1 p239 q239
              cases e239
              replace p239 := eq_true p239
              replace q239 := eq_true q239
              have p240 : 0 ≤ (x5_1 : Int) := of_decide_eq_true (by first | (with_reducible assumption) | assumption)
              have q240 : x5_1 < (l0.length : Int) := of_decide_eq_true (by first | (with_reducible assumption) | assumption)
              obtain ⟨ad240, e240, hx240_0, hx240_1⟩ := at_T38 HR0.out x5_1 p240 q240
              obtain rfl : ad239 = ad240 := (by injection e240)
              replace p240 := eq_true p240
              replace q240 := eq_true q240
              go_wp2
              go_roundg k1
              case measure => have := HK1.out; omega
              case rel => exact ⟨(wrap64 ((wrap64 (x1_1 + 1)) + 1)), (wrap64 (x5_1 + 1)), (by first | rfl | (simp; done) | (simp [*]; done)), (by first | rfl | (simp; done) | (simp [*]; done)), H', ⟨by have := HK1.out; omega⟩, by repeat (first | exact Drawn0.refl _ | apply Drawn0.step)⟩
            · rw [if_neg c6] at H
              have c6b0 : (((rd_T38 l0 x5_1).f1) == (IntKind.i8.wrap (wrap64 (x1_1 + 1)))) = false := beq_eq_false_iff_ne.mpr c6
              have c6b1 : (((rd_T38 l0 x5_1).f1) != (IntKind.i8.wrap (wrap64 (x1_1 + 1)))) = true := bne_iff_ne.mpr c6
              (try (have c6b2 : (((rd_T38 l0 x5_1).f1) == (IntKind.i8.wrap (IntKind.i64.wrap (x1_1 + 1)))) = false := by first | simpa only [i64_w, i32_w] using (show (((rd_T38 l0 x5_1).f1) == (IntKind.i8.wrap (wrap64 (x1_1 + 1)))) = false from beq_eq_false_iff_ne.mpr c6) | simpa only [i64_w] using (show (((rd_T38 l0 x5_1).f1) == (IntKind.i8.wrap (wrap64 (x1_1 + 1)))) = false from beq_eq_false_iff_ne.mpr c6)))
              (try (have c6b3 : (((rd_T38 l0 x5_1).f1) != (IntKind.i8.wrap (IntKind.i64.wrap (x1_1 + 1)))) = true := by first | simpa only [i64_w, i32_w] using (show (((rd_T38 l0 x5_1).f1) != (IntKind.i8.wrap (wrap64 (x1_1 + 1)))) = true from bne_iff_ne.mpr c6) | simpa only [i64_w] using (show (((rd_T38 l0 x5_1).f1) != (IntKind.i8.wrap (wrap64 (x1_1 + 1)))) = true from bne_iff_ne.mpr c6)))
              obtain rfl := Option.some.inj H
              have p239 : 0 ≤ (x5_1 : Int) := of_decide_eq_true (by first | (with_reducible assumption) | assumption)
              have q239 : x5_1 < (l0.length : Int) := of_decide_eq_true (by first | (with_reducible assumption) | assumption)
              obtain ⟨ad239, e239, hx239_0, hx239_1⟩ := at_T38 HR0.out x5_1 p239 q239
              cases e239
              replace p239 := eq_true p239
              replace q239 := eq_true q239
              have p240 : 0 ≤ (x5_1 : Int) := of_decide_eq_true (by first | (with_reducible assumption) | assumption)
              have q240 : x5_1 < (l0.length : Int) := of_decide_eq_true (by first | (with_reducible assumption) | assumption)
              obtain ⟨ad240, e240, hx240_0, hx240_1⟩ := at_T38 HR0.out x5_1 p240 q240
              obtain rfl : ad239 = ad240 := (by injection e240)
              replace p240 := eq_true p240
              replace q240 := eq_true q240
              go_wp2
              go_ret
              exact ⟨by first | rfl | (simp; done) | (simp [*]; done), by repeat (first | exact Drawn0.refl _ | apply Drawn0.step)⟩
          · rw [if_neg c5] at H
            have c5b0 : (((rd_T38 l0 x5_1).f0) == (IntKind.i16.wrap (x1_1))) = false := beq_eq_false_iff_ne.mpr c5
            have c5b1 : (((rd_T38 l0 x5_1).f0) != (IntKind.i16.wrap (x1_1))) = true := bne_iff_ne.mpr c5
            obtain rfl := Option.some.inj H
            have p239 : 0 ≤ (x5_1 : Int) := of_decide_eq_true (by first | (with_reducible assumption) | assumption)
            have q239 : x5_1 < (l0.length : Int) := of_decide_eq_true (by first | (with_reducible assumption) | assumption)
            obtain ⟨ad239, e239, hx239_0, hx239_1⟩ := at_T38 HR0.out x5_1 p239 q239
            cases e239
            replace p239 := eq_true p239
            replace q239 := eq_true q239
            go_wp2
            go_ret
            exact ⟨by first | rfl | (simp; done) | (simp [*]; done), by repeat (first | exact Drawn0.refl _ | apply Drawn0.step)⟩
        · rw [if_neg c4] at H
          exact absurd H (by simp)
      · rw [if_neg c3] at H
        have c3b0 : decide (x5_1 < (l0.length : Int)) = false := decide_eq_false c3
        clear c3
        obtain rfl := Option.some.inj H
        go_wp2
        go_ret
        exact ⟨by first | rfl | (simp; done) | (simp [*]; done), by repeat (first | exact Drawn0.refl _ | apply Drawn0.step)⟩

end Go.Proofs.Ytadnngaaobgdgaa.P
