-- Printed by wip/print (my turned copy of the kit's print) out of the translation; Lean checks it.
import Derived.Test.YtooidjdgfoioiaaP0
import Derived.Test.YtooidjdgfoioiaaP6
import Derived.Test.YtooidjdgfoioiaaP17
namespace Go.Proofs.Ytooidjdgfoioiaa.P
open Go.RowKit Go.Proofs.YtooidjdgfoioiaaW.PrintWords Go.Proofs.YtooidjdgfoioiaaW.PrintLast Go.Proofs.YtooidjdgfoioiaaW.PrintMore
attribute [local go_sem] max2_int min2_int max_two min_two max_three min_three max_four min_four   -- for this text's walks alone
set_option linter.unusedVariables false
set_option linter.unusedSimpArgs false

/-! ### slices_IndexFunc_Hold_at_ValidHolds_1: function 101 -/
def slices_IndexFunc_Hold_at_ValidHolds_1.l0 : Nat → List (S65) → Int → Int → Int → Int → Option (Int)
  | 0, _, _, _, _, _ => none
  | k + 1, x0, x7, x8, x41000, x41001 => if x8 < x7 then (if 0 ≤ x8 then (if x8 < (x0.length : Int) then ((impl_ValidHolds_1.f ((rd_T65 x0 x8).f0) ((rd_T65 x0 x8).f1) x41000 x41001).bind fun t428 => (if t428 = true then (some x8) else (slices_IndexFunc_Hold_at_ValidHolds_1.l0 k x0 x7 (wrap64 (x8 + 1)) x41000 x41001))) else (none)) else (none)) else (some (-1))
def slices_IndexFunc_Hold_at_ValidHolds_1.f (k : Nat) (l0 : List (S65)) (a40_0 : Int) (a40_1 : Int) : Option (Int) := slices_IndexFunc_Hold_at_ValidHolds_1.l0 k l0 (l0.length : Int) 0 a40_0 a40_1
theorem slices_IndexFunc_Hold_at_ValidHolds_1.mono_l : ∀ k, (∀ y0 y1 y2 y3 y4, LeO (slices_IndexFunc_Hold_at_ValidHolds_1.l0 k y0 y1 y2 y3 y4) (slices_IndexFunc_Hold_at_ValidHolds_1.l0 (k + 1) y0 y1 y2 y3 y4))
  | 0 => fun _ _ _ _ _ r h => by simp [slices_IndexFunc_Hold_at_ValidHolds_1.l0] at h
  | k + 1 => by
    have ih0 := slices_IndexFunc_Hold_at_ValidHolds_1.mono_l k
    · intro y0 y1 y2 y3 y4
      unfold slices_IndexFunc_Hold_at_ValidHolds_1.l0
      repeat' first
      | (with_reducible exact ih0 ..)
      | (with_reducible exact LeO.refl ..)
      | (with_reducible exact LeO.none ..)
      | (with_reducible refine LeO.ite ?_ ?_)
      | (with_reducible refine LeO.bind ?_ (fun _ => ?_))
theorem slices_IndexFunc_Hold_at_ValidHolds_1.mono : ∀ a0 a1 a2 k, LeO (slices_IndexFunc_Hold_at_ValidHolds_1.f k a0 a1 a2) (slices_IndexFunc_Hold_at_ValidHolds_1.f (k + 1) a0 a1 a2) := by
  intro a0 a1 a2 k
  have ih0 := slices_IndexFunc_Hold_at_ValidHolds_1.mono_l k
  unfold slices_IndexFunc_Hold_at_ValidHolds_1.f
  repeat' first
      | (with_reducible exact ih0 ..)
      | (with_reducible exact LeO.refl ..)
      | (with_reducible exact LeO.none ..)
      | (with_reducible refine LeO.ite ?_ ?_)
      | (with_reducible refine LeO.bind ?_ (fun _ => ?_))
set_option maxHeartbeats 8000000 in
set_option maxRecDepth 100000 in
theorem slices_IndexFunc_Hold_at_ValidHolds_1.calls (k : Nat) (A0 : Option Addr) (c0 : Nat) (l0 : List (S65)) (b40 : Nat) (a40_0 : Int) (a40_1 : Int) (r : Int) (w : World) (hr0 : Kd.C k65 w A0 l0.length l0) (hc0 : l0.length ≤ c0) (hx40 : w.heap[b40]? = some (.cells #[.int .i16 a40_0, .int .i8 a40_1] 65 (0, 0))) (h : slices_IndexFunc_Hold_at_ValidHolds_1.f k l0 a40_0 a40_1 = some r) :
    Calls Try.prog 101 #[.slice A0 l0.length c0, .func (.func 97) #[] #[.pointer (some ⟨b40, 0, none⟩)]] w fun e w' => e = .returned (.int .i64 r) ∧ Below w.heap.size w w' := by
 have hu65 := Try.underlying65
 have HR0 := ak hr0
 have HC0 := ak hc0
 clear hr0 hc0
 have BK40 := ak hx40
 clear hx40
 have HB := ak (Below.refl w.heap.size w)
 have H := h
 unfold slices_IndexFunc_Hold_at_ValidHolds_1.f at H
 clear h
 have H' := ak H
 clear H
 go_enter Try.func101, Try.ntmps101
 go_wp2
 go_loopg [8] k (fun kq v8 w' => ∃ (x8_1 : Int), v8 = .int .i64 x8_1 ∧ Aside0 (slices_IndexFunc_Hold_at_ValidHolds_1.l0 kq l0 (l0.length : Int) x8_1 a40_0 a40_1 = some r) ∧ Aside0 (kq ≤ k) ∧ Aside0 (w'.heap[b40]? = some (.cells #[.int .i16 a40_0, .int .i8 a40_1] 65 (0, 0))) ∧ Aside0 (Below w.heap.size w w'))
 case atStart => exact ⟨(0), (by first | rfl | (simp; done) | (simp [*]; done)), H', ⟨Nat.le_refl _⟩, ⟨(zK BK40.out)⟩, ⟨zB HB.out⟩⟩
 case round => (
 clear H'
 obtain ⟨x8_1, rfl, HA, HK1, BK40, HB⟩ := hrel
 cases gk with
 | zero => exact absurd HA.out (by simp [slices_IndexFunc_Hold_at_ValidHolds_1.l0])
 | succ k1 => (
 have H := HA.out
 clear HA
 simp only [slices_IndexFunc_Hold_at_ValidHolds_1.l0] at H
 by_cases c3 : x8_1 < (l0.length : Int)
 {
 rw [if_pos c3] at H
 have c3b0 : decide (x8_1 < (l0.length : Int)) = true := decide_eq_true c3
 clear c3
 by_cases c4 : 0 ≤ x8_1
 {
 rw [if_pos c4] at H
 have c4b0 : decide (0 ≤ x8_1) = true := decide_eq_true c4
 clear c4
 by_cases c5 : x8_1 < (l0.length : Int)
 {
 rw [if_pos c5] at H
 have c5b0 : decide (x8_1 < (l0.length : Int)) = true := decide_eq_true c5
 clear c5
 replace H := Option.bind_eq_some_iff.mp H
 obtain ⟨t428, A60, H⟩ := H
 have A6 := ak A60
 clear A60
 by_cases c7 : t428 = true
 {
 subst c7
 rw [if_pos rfl] at H
 obtain rfl := Option.some.inj H
 have p427 : 0 ≤ (x8_1 : Int) := of_decide_eq_true (by first | (with_reducible assumption) | assumption)
 have q427 : x8_1 < (l0.length : Int) := of_decide_eq_true (by first | (with_reducible assumption) | assumption)
 obtain ⟨ad427, e427, hx427_0, hx427_1⟩ := at_T65 HR0.out x8_1 p427 q427
 cases e427
 replace hx427_0 := (HB.out.cell (World.block_lt_of_cell? w _ hx427_0)).trans hx427_0
 replace hx427_1 := (HB.out.cell (World.block_lt_of_cell? w _ hx427_1)).trans hx427_1
 replace p427 := eq_true p427
 replace q427 := eq_true q427
 go_wp2_with (first | ((with_reducible refine gate_tmpcall (t := 11) rfl ?_); refine goesF_ (some 16) rfl rfl Try.func97 (by kernel_rfl) rfl #[.pointer (some ⟨b40, 0, none⟩)] #[.agg #[.int .i16 ((rd_T65 l0 x8_1).f0), .int .i8 ((rd_T65 l0 x8_1).f1)], .pointer (some ⟨b40, 0, none⟩)] rfl (by first | rfl | (go_simp; done) | (go_simp; rfl)) (by (try simp only [List.map_toArray, List.map_cons, List.map_nil]); first | done | rfl | (simp only [List.length_drop, List.length_take]; rfl) | (go_simp; done)) ?_; (with_reducible refine (impl_ValidHolds_1.calls ((rd_T65 l0 x8_1).f0) ((rd_T65 l0 x8_1).f1) b40 a40_0 a40_1 true _ ?side1 A6.out).mono ?_); (case side1 => exact (zK BK40.out)); rintro e w8 ⟨rfl, hb⟩; refine ⟨_, rfl, ?_⟩; replace BK40 := kK BK40 hb; replace HB := kB HB hb; (try clear hb)))
 go_ret
 exact ⟨by first | rfl | (simp [errW_none, errW_some] <;> rfl) | (simp [*, errW_none, errW_some] <;> rfl), zB HB.out⟩
 }
 {
 replace c7 := Bool.eq_false_iff.mpr c7
 subst c7
 rw [if_neg (show ¬ (false = true) by decide)] at H
 have H' := ak H
 clear H
 have p427 : 0 ≤ (x8_1 : Int) := of_decide_eq_true (by first | (with_reducible assumption) | assumption)
 have q427 : x8_1 < (l0.length : Int) := of_decide_eq_true (by first | (with_reducible assumption) | assumption)
 obtain ⟨ad427, e427, hx427_0, hx427_1⟩ := at_T65 HR0.out x8_1 p427 q427
 cases e427
 replace hx427_0 := (HB.out.cell (World.block_lt_of_cell? w _ hx427_0)).trans hx427_0
 replace hx427_1 := (HB.out.cell (World.block_lt_of_cell? w _ hx427_1)).trans hx427_1
 replace p427 := eq_true p427
 replace q427 := eq_true q427
 go_wp2_with (first | ((with_reducible refine gate_tmpcall (t := 11) rfl ?_); refine goesF_ (some 16) rfl rfl Try.func97 (by kernel_rfl) rfl #[.pointer (some ⟨b40, 0, none⟩)] #[.agg #[.int .i16 ((rd_T65 l0 x8_1).f0), .int .i8 ((rd_T65 l0 x8_1).f1)], .pointer (some ⟨b40, 0, none⟩)] rfl (by first | rfl | (go_simp; done) | (go_simp; rfl)) (by (try simp only [List.map_toArray, List.map_cons, List.map_nil]); first | done | rfl | (simp only [List.length_drop, List.length_take]; rfl) | (go_simp; done)) ?_; (with_reducible refine (impl_ValidHolds_1.calls ((rd_T65 l0 x8_1).f0) ((rd_T65 l0 x8_1).f1) b40 a40_0 a40_1 false _ ?side1 A6.out).mono ?_); (case side1 => exact (zK BK40.out)); rintro e w9 ⟨rfl, hb⟩; refine ⟨_, rfl, ?_⟩; replace BK40 := kK BK40 hb; replace HB := kB HB hb; (try clear hb)))
 go_roundg k1
 case measure => have := HK1.out; omega
 case rel => exact ⟨(wrap64 (x8_1 + 1)), (by first | rfl | (simp; done) | (simp [*]; done)), H', ⟨by have := HK1.out; omega⟩, ⟨(zK BK40.out)⟩, ⟨zB HB.out⟩⟩
 }
 }
 · rw [if_neg c5] at H; exact absurd H (by simp)
 }
 · rw [if_neg c4] at H; exact absurd H (by simp)
 }
 {
 rw [if_neg c3] at H
 have c3b0 : decide (x8_1 < (l0.length : Int)) = false := decide_eq_false c3
 clear c3
 obtain rfl := Option.some.inj H
 go_wp2
 go_ret
 exact ⟨by first | rfl | (simp [errW_none, errW_some] <;> rfl) | (simp [*, errW_none, errW_some] <;> rfl), zB HB.out⟩
 }
 )
 )
/-! ### slices_ContainsFunc_Hold_at_ValidHolds_1: function 96 -/
def slices_ContainsFunc_Hold_at_ValidHolds_1.f (k : Nat) (l0 : List (S65)) (a40_0 : Int) (a40_1 : Int) : Option (Bool) := (slices_IndexFunc_Hold_at_ValidHolds_1.f k l0 a40_0 a40_1).bind fun t429 => (some (decide (t429 ≥ 0)))
theorem slices_ContainsFunc_Hold_at_ValidHolds_1.mono : ∀ a0 a1 a2 k, LeO (slices_ContainsFunc_Hold_at_ValidHolds_1.f k a0 a1 a2) (slices_ContainsFunc_Hold_at_ValidHolds_1.f (k + 1) a0 a1 a2) := by
  intro a0 a1 a2 k
  unfold slices_ContainsFunc_Hold_at_ValidHolds_1.f
  repeat' first
      | (with_reducible exact slices_IndexFunc_Hold_at_ValidHolds_1.mono ..)
      | (with_reducible exact LeO.refl ..)
      | (with_reducible exact LeO.none ..)
      | (with_reducible refine LeO.ite ?_ ?_)
      | (with_reducible refine LeO.bind ?_ (fun _ => ?_))
set_option maxHeartbeats 8000000 in
set_option maxRecDepth 100000 in
theorem slices_ContainsFunc_Hold_at_ValidHolds_1.calls (k : Nat) (A0 : Option Addr) (c0 : Nat) (l0 : List (S65)) (b40 : Nat) (a40_0 : Int) (a40_1 : Int) (r : Bool) (w : World) (hr0 : Kd.C k65 w A0 l0.length l0) (hc0 : l0.length ≤ c0) (hx40 : w.heap[b40]? = some (.cells #[.int .i16 a40_0, .int .i8 a40_1] 65 (0, 0))) (h : slices_ContainsFunc_Hold_at_ValidHolds_1.f k l0 a40_0 a40_1 = some r) :
    Calls Try.prog 96 #[.slice A0 l0.length c0, .func (.func 97) #[] #[.pointer (some ⟨b40, 0, none⟩)]] w fun e w' => e = .returned (.bool r) ∧ Below w.heap.size w w' := by
 have HR0 := ak hr0
 have HC0 := ak hc0
 clear hr0 hc0
 have BK40 := ak hx40
 clear hx40
 have HB := ak (Below.refl w.heap.size w)
 have H := h
 unfold slices_ContainsFunc_Hold_at_ValidHolds_1.f at H
 clear h
 replace H := Option.bind_eq_some_iff.mp H
 obtain ⟨t429, A30, H⟩ := H
 have A3 := ak A30
 clear A30
 obtain rfl := Option.some.inj H
 go_enter Try.func96, Try.ntmps96
 go_wp2_with (first | ((with_reducible refine gate_callee (f := 101) rfl ?_); refine goesL_ (some 7) rfl rfl Try.func101 (by kernel_rfl) rfl #[.slice A0 l0.length c0, .func (.func 97) #[] #[.pointer (some ⟨b40, 0, none⟩)]] rfl gl_ ?_; (with_reducible refine (slices_IndexFunc_Hold_at_ValidHolds_1.calls k _ _ l0 b40 a40_0 a40_1 t429 _ ?side1 ?side2 ?side3 A3.out).mono ?_); (case side1 => exact sD HR0); (case side2 => exact HC0.out); (case side3 => exact (zK BK40.out)); rintro e w4 ⟨rfl, hb⟩; refine ⟨_, rfl, ?_⟩; replace BK40 := kK BK40 hb; replace HB := kB HB hb; (try clear hb)))
 go_ret
 exact ⟨by first | rfl | (simp [errW_none, errW_some] <;> rfl) | (simp [*, errW_none, errW_some] <;> rfl), zB HB.out⟩
/-! ### impl_ValidRope: function 30 -/
mutual
def impl_ValidRope.j0 : Nat → Bool → Int → List Int → Option (Bool)
  | 0, _, _, _ => none
  | k + 1, x15, x431000, x431001 => if x15 = true then (some false) else (impl_ValidRope.l0 k 1 x431000 x431001)
def impl_ValidRope.l0 : Nat → Int → Int → List Int → Option (Bool)
  | 0, _, _, _ => none
  | k + 1, x3, x431000, x431001 => if x3 < (x431001.length : Int) then (if 0 ≤ x3 then (if 0 ≤ (wrap64 (x3 - 1)) then (if (wrap64 (x3 - 1)) < (x431001.length : Int) then (if (rd x431001 x3) ≤ (rd x431001 (wrap64 (x3 - 1))) then (some false) else (impl_ValidRope.l0 k (wrap64 (x3 + 1)) x431000 x431001)) else (none)) else (none)) else (none)) else (if 0 < (x431001.length : Int) then (if (rd x431001 0) = 0 then (if 0 ≤ (wrap64 ((x431001.length : Int) - 1)) then (if (wrap64 ((x431001.length : Int) - 1)) < (x431001.length : Int) then (some ((rd x431001 (wrap64 ((x431001.length : Int) - 1))) == x431000)) else (none)) else (none)) else (some false)) else (none))
end
def impl_ValidRope.f (k : Nat) (a0_0 : Int) (l0_1 : List Int) : Option (Bool) := (impl_within.f (wrap64 (a0_0)) 1 400).bind fun t431 => (if t431 = true then ((impl_size_int16.f l0_1).bind fun t432 => ((impl_within.f t432 2 40).bind fun t433 => (impl_ValidRope.j0 k (!t433) a0_0 l0_1))) else (impl_ValidRope.j0 k true a0_0 l0_1))
theorem impl_ValidRope.mono_l : ∀ k, (∀ y0 y1 y2, LeO (impl_ValidRope.j0 k y0 y1 y2) (impl_ValidRope.j0 (k + 1) y0 y1 y2)) ∧ (∀ y0 y1 y2, LeO (impl_ValidRope.l0 k y0 y1 y2) (impl_ValidRope.l0 (k + 1) y0 y1 y2))
  | 0 => ⟨fun _ _ _ r h => by simp [impl_ValidRope.j0] at h, fun _ _ _ r h => by simp [impl_ValidRope.l0] at h⟩
  | k + 1 => by
    obtain ⟨ih0, ih1⟩ := impl_ValidRope.mono_l k
    refine ⟨?_, ?_⟩
    · intro y0 y1 y2
      unfold impl_ValidRope.j0
      repeat' first
      | (with_reducible exact ih0 ..)
      | (with_reducible exact ih1 ..)
      | (with_reducible exact LeO.refl ..)
      | (with_reducible exact LeO.none ..)
      | (with_reducible refine LeO.ite ?_ ?_)
      | (with_reducible refine LeO.bind ?_ (fun _ => ?_))
    · intro y0 y1 y2
      unfold impl_ValidRope.l0
      repeat' first
      | (with_reducible exact ih0 ..)
      | (with_reducible exact ih1 ..)
      | (with_reducible exact LeO.refl ..)
      | (with_reducible exact LeO.none ..)
      | (with_reducible refine LeO.ite ?_ ?_)
      | (with_reducible refine LeO.bind ?_ (fun _ => ?_))
theorem impl_ValidRope.mono : ∀ a0 a1 k, LeO (impl_ValidRope.f k a0 a1) (impl_ValidRope.f (k + 1) a0 a1) := by
  intro a0 a1 k
  obtain ⟨ih0, ih1⟩ := impl_ValidRope.mono_l k
  unfold impl_ValidRope.f
  repeat' first
      | (with_reducible exact ih0 ..)
      | (with_reducible exact ih1 ..)
      | (with_reducible exact LeO.refl ..)
      | (with_reducible exact LeO.none ..)
      | (with_reducible refine LeO.ite ?_ ?_)
      | (with_reducible refine LeO.bind ?_ (fun _ => ?_))
set_option maxHeartbeats 8000000 in
set_option maxRecDepth 100000 in
theorem impl_ValidRope.calls (k : Nat) (a0_0 : Int) (A0_1 : Option Addr) (c0_1 : Nat) (l0_1 : List Int) (r : Bool) (w : World) (hr0_1 : Kd.C (Kd.int .i16) w A0_1 l0_1.length l0_1) (hc0_1 : l0_1.length ≤ c0_1) (h : impl_ValidRope.f k a0_0 l0_1 = some r) :
    Calls Try.prog 30 #[.agg #[.int .i16 a0_0, .slice A0_1 l0_1.length c0_1]] w fun e w' => e = .returned (.bool r) ∧ Below w.heap.size w w' := by
 have hu32 := Try.underlying32
 have HR0_1 := ak hr0_1
 have HC0_1 := ak hc0_1
 clear hr0_1 hc0_1
 have HB := ak (Below.refl w.heap.size w)
 have H := h
 unfold impl_ValidRope.f at H
 clear h
 have HC2 := ak H
 clear H
 go_enter Try.func30, Try.ntmps30
 go_upto_region 1 with (first | ((with_reducible refine gate_dst (N := 1) rfl ?_); (try (refine gate_guard (by rfl) ?_; dsimp only)); refine box_event ?hg (N := 1) ?hd (cs := #[.int .i16 a0_0, .slice A0_1 l0_1.length c0_1]) (t := 32) ?hr ?_; (case hd => rfl); (case hg => rfl); (case hr => first | (go_simp; done) | (go_simp; rfl)); intro gb430 hg w3 hbox hb; have BK430 := ak (hbox); have GW430 := gS HB hg; have GE430 := gS HB hg; replace HB := kB HB hb; clear hb hbox hg))
 repeat (go_quiet (first | ((with_reducible refine gate_dst (N := 1) rfl ?_); (try (refine gate_guard (by rfl) ?_; dsimp only)); refine box_event ?hg (N := 1) ?hd (cs := #[.int .i16 a0_0, .slice A0_1 l0_1.length c0_1]) (t := 32) ?hr ?_; (case hd => rfl); (case hg => rfl); (case hr => first | (go_simp; done) | (go_simp; rfl)); intro gb430 hg w3 hbox hb; have n0_ := ak (below_step (zB HB.out) hb); have n1_ := ak (hbox); have n2_ := gS HB hg; have n3_ := gS HB hg; clear HB; have HB := n0_; have BK430 := n1_; have GW430 := n2_; have GE430 := n3_; clear n0_ n1_ n2_ n3_; clear hb hbox hg)); go_upto_region 1 with (first | ((with_reducible refine gate_dst (N := 1) rfl ?_); (try (refine gate_guard (by rfl) ?_; dsimp only)); refine box_event ?hg (N := 1) ?hd (cs := #[.int .i16 a0_0, .slice A0_1 l0_1.length c0_1]) (t := 32) ?hr ?_; (case hd => rfl); (case hg => rfl); (case hr => first | (go_simp; done) | (go_simp; rfl)); intro gb430 hg w3 hbox hb; have BK430 := ak (hbox); have GW430 := gS HB hg; have GE430 := gS HB hg; replace HB := kB HB hb; clear hb hbox hg)))
 (try simp only [Act.put, zs, zz, zk])
 go_cut [15] (fun v15 wc => ∃ (kq : Nat) (x15_1 : Bool), v15 = .bool x15_1 ∧ Aside0 (impl_ValidRope.j0 kq x15_1 a0_0 l0_1 = some r) ∧ Aside0 (kq ≤ k) ∧ Aside0 (wc.heap[gb430]? = some (.cells #[.int .i16 a0_0, (.slice A0_1 l0_1.length c0_1)] 32 (0, 0))) ∧ Aside0 (Below w.heap.size w wc))
 case first => (
 have H := HC2.out
 clear HC2
 replace H := Option.bind_eq_some_iff.mp H
 obtain ⟨t431, A40, H⟩ := H
 have A4 := ak A40
 clear A40
 by_cases c5 : t431 = true
 {
 subst c5
 rw [if_pos rfl] at H
 replace H := Option.bind_eq_some_iff.mp H
 obtain ⟨t432, A60, H⟩ := H
 have A6 := ak A60
 clear A60
 replace H := Option.bind_eq_some_iff.mp H
 obtain ⟨t433, A70, H⟩ := H
 have A7 := ak A70
 clear A70
 have H' := ak H
 clear H
 have hcz8_0 : w3.cell? ⟨gb430, 0, none⟩ = some (.int .i16 a0_0) := (blk_cell BK430.out 0).trans rfl
 have hcz8_1 : w3.cell? ⟨gb430, 1, none⟩ = some (.slice A0_1 l0_1.length c0_1) := (blk_cell BK430.out 1).trans rfl
 have hfz8_0 := blk_frozen BK430.out 0
 have hfz8_1 := blk_frozen BK430.out 1
 go_wp2_with (first | (go_at_call 64; (with_reducible refine (impl_within.calls (wrap64 (a0_0)) 1 400 true _ A4.out).mono ?_); rintro e w' ⟨rfl, ⟨nd, rfl⟩⟩) | (go_at_call 65; (with_reducible refine (impl_size_int16.calls _ _ l0_1 t432 _ ?side1 ?side2 A6.out).mono ?_); (case side1 => exact sQ (Kd.C_below HR0_1.out (zBG HB.out GE430.out))); (case side2 => exact HC0_1.out); rintro e w' ⟨rfl, ⟨nd, rfl⟩⟩) | (go_at_call 64; (with_reducible refine (impl_within.calls t432 2 40 t433 _ A7.out).mono ?_); rintro e w' ⟨rfl, ⟨nd, rfl⟩⟩))
 repeat (go_quiet (first | (go_at_call 64; (with_reducible refine (impl_within.calls (wrap64 (a0_0)) 1 400 true _ A4.out).mono ?_); rintro e w' ⟨rfl, ⟨nd, rfl⟩⟩; (try first | exact ⟨rfl, _, World.drewN_drewN _ _ _⟩ | exact ⟨rfl, _, Eq.trans (World.drewN_drewN _ _ _) (congrArg (World.drewN _) (Nat.add_assoc _ _ _))⟩)) | (go_at_call 65; (with_reducible refine (impl_size_int16.calls _ _ l0_1 t432 _ ?side1 ?side2 A6.out).mono ?_); (case side1 => exact sQ (Kd.C_below HR0_1.out (zBG HB.out GE430.out))); (case side2 => exact HC0_1.out); rintro e w' ⟨rfl, ⟨nd, rfl⟩⟩; (try first | exact ⟨rfl, _, World.drewN_drewN _ _ _⟩ | exact ⟨rfl, _, Eq.trans (World.drewN_drewN _ _ _) (congrArg (World.drewN _) (Nat.add_assoc _ _ _))⟩)) | (go_at_call 64; (with_reducible refine (impl_within.calls t432 2 40 t433 _ A7.out).mono ?_); rintro e w' ⟨rfl, ⟨nd, rfl⟩⟩; (try first | exact ⟨rfl, _, World.drewN_drewN _ _ _⟩ | exact ⟨rfl, _, Eq.trans (World.drewN_drewN _ _ _) (congrArg (World.drewN _) (Nat.add_assoc _ _ _))⟩))); try go_wp2_with (first | (go_at_call 64; (with_reducible refine (impl_within.calls (wrap64 (a0_0)) 1 400 true _ A4.out).mono ?_); rintro e w' ⟨rfl, ⟨nd, rfl⟩⟩; (try first | exact ⟨rfl, _, World.drewN_drewN _ _ _⟩ | exact ⟨rfl, _, Eq.trans (World.drewN_drewN _ _ _) (congrArg (World.drewN _) (Nat.add_assoc _ _ _))⟩)) | (go_at_call 65; (with_reducible refine (impl_size_int16.calls _ _ l0_1 t432 _ ?side1 ?side2 A6.out).mono ?_); (case side1 => exact sQ (Kd.C_below HR0_1.out (zBG HB.out GE430.out))); (case side2 => exact HC0_1.out); rintro e w' ⟨rfl, ⟨nd, rfl⟩⟩; (try first | exact ⟨rfl, _, World.drewN_drewN _ _ _⟩ | exact ⟨rfl, _, Eq.trans (World.drewN_drewN _ _ _) (congrArg (World.drewN _) (Nat.add_assoc _ _ _))⟩)) | (go_at_call 64; (with_reducible refine (impl_within.calls t432 2 40 t433 _ A7.out).mono ?_); rintro e w' ⟨rfl, ⟨nd, rfl⟩⟩; (try first | exact ⟨rfl, _, World.drewN_drewN _ _ _⟩ | exact ⟨rfl, _, Eq.trans (World.drewN_drewN _ _ _) (congrArg (World.drewN _) (Nat.add_assoc _ _ _))⟩))))
 go_meet
 case rel => exact ⟨_, (!t433), (by first | rfl | (simp; done) | (simp [*]; done)), H', ⟨by first | omega | exact Nat.le_refl _⟩, ⟨(zK BK430.out)⟩, ⟨zBG HB.out GE430.out⟩⟩
 }
 {
 replace c5 := Bool.eq_false_iff.mpr c5
 subst c5
 rw [if_neg (show ¬ (false = true) by decide)] at H
 have H' := ak H
 clear H
 have hcz9_0 : w3.cell? ⟨gb430, 0, none⟩ = some (.int .i16 a0_0) := (blk_cell BK430.out 0).trans rfl
 have hcz9_1 : w3.cell? ⟨gb430, 1, none⟩ = some (.slice A0_1 l0_1.length c0_1) := (blk_cell BK430.out 1).trans rfl
 have hfz9_0 := blk_frozen BK430.out 0
 have hfz9_1 := blk_frozen BK430.out 1
 go_wp2_with (first | (go_at_call 64; (with_reducible refine (impl_within.calls (wrap64 (a0_0)) 1 400 false _ A4.out).mono ?_); rintro e w' ⟨rfl, ⟨nd, rfl⟩⟩))
 repeat (go_quiet (first | (go_at_call 64; (with_reducible refine (impl_within.calls (wrap64 (a0_0)) 1 400 false _ A4.out).mono ?_); rintro e w' ⟨rfl, ⟨nd, rfl⟩⟩; (try first | exact ⟨rfl, _, World.drewN_drewN _ _ _⟩ | exact ⟨rfl, _, Eq.trans (World.drewN_drewN _ _ _) (congrArg (World.drewN _) (Nat.add_assoc _ _ _))⟩))); try go_wp2_with (first | (go_at_call 64; (with_reducible refine (impl_within.calls (wrap64 (a0_0)) 1 400 false _ A4.out).mono ?_); rintro e w' ⟨rfl, ⟨nd, rfl⟩⟩; (try first | exact ⟨rfl, _, World.drewN_drewN _ _ _⟩ | exact ⟨rfl, _, Eq.trans (World.drewN_drewN _ _ _) (congrArg (World.drewN _) (Nat.add_assoc _ _ _))⟩))))
 go_meet
 case rel => exact ⟨_, (true), (by first | rfl | (simp; done) | (simp [*]; done)), H', ⟨by first | omega | exact Nat.le_refl _⟩, ⟨(zK BK430.out)⟩, ⟨zBG HB.out GE430.out⟩⟩
 }
 )
 case rest => (
 clear HC2
 obtain ⟨kq, x15_1, rfl, HA, HJ1, BK430, HB⟩ := hcut
 cases kq with
 | zero => exact absurd HA.out (by simp [impl_ValidRope.j0])
 | succ kj1 => (
 have H := HA.out
 clear HA
 simp only [impl_ValidRope.j0] at H
 by_cases c10 : x15_1 = true
 {
 subst c10
 rw [if_pos rfl] at H
 obtain rfl := Option.some.inj H
 go_wp2
 repeat (go_quiet (fail); try go_wp2)
 go_ret
 exact ⟨by first | rfl | (simp [errW_none, errW_some] <;> rfl) | (simp [*, errW_none, errW_some] <;> rfl), zBG HB.out GE430.out⟩
 }
 {
 replace c10 := Bool.eq_false_iff.mpr c10
 subst c10
 rw [if_neg (show ¬ (false = true) by decide)] at H
 have H' := ak H
 clear H
 go_wp2
 repeat (go_quiet (fail); try go_wp2)
 go_loopg [3] kj1 (fun kq v3 w' => ∃ (x3_2 : Int), v3 = .int .i64 x3_2 ∧ Aside0 (impl_ValidRope.l0 kq x3_2 a0_0 l0_1 = some r) ∧ Aside0 (kq ≤ kj1) ∧ Aside0 (w'.heap[gb430]? = some (.cells #[.int .i16 a0_0, (.slice A0_1 l0_1.length c0_1)] 32 (0, 0))) ∧ Aside0 (Below w.heap.size w w'))
 case atStart => exact ⟨(1), (by first | rfl | (simp; done) | (simp [*]; done)), H', ⟨Nat.le_refl _⟩, ⟨(zK BK430.out)⟩, ⟨zBG HB.out GE430.out⟩⟩
 case round => (
 clear H'
 try clear c10
 obtain ⟨x3_2, rfl, HA, HK2, BK430, HB⟩ := hrel
 cases gk with
 | zero => exact absurd HA.out (by simp [impl_ValidRope.l0])
 | succ k2 => (
 have H := HA.out
 clear HA
 simp only [impl_ValidRope.l0] at H
 by_cases c11 : x3_2 < (l0_1.length : Int)
 {
 rw [if_pos c11] at H
 have c11b0 : decide (x3_2 < (l0_1.length : Int)) = true := decide_eq_true c11
 clear c11
 by_cases c12 : 0 ≤ x3_2
 {
 rw [if_pos c12] at H
 have c12b0 : decide (0 ≤ x3_2) = true := decide_eq_true c12
 clear c12
 obtain ⟨ji13, hji13⟩ : ∃ j_ : Int, (wrap64 (x3_2 - 1)) = j_ := ⟨_, rfl⟩
 first | rw [hji13] at H | simp only [hji13] at H
 have hji13w : (IntKind.i64.wrap (x3_2 - 1)) = ji13 := (i64_w _).trans hji13
 by_cases c14 : 0 ≤ (ji13)
 {
 rw [if_pos c14] at H
 have c14b0 : decide (0 ≤ (ji13)) = true := decide_eq_true c14
 clear c14
 by_cases c15 : (ji13) < (l0_1.length : Int)
 {
 rw [if_pos c15] at H
 have c15b0 : decide ((ji13) < (l0_1.length : Int)) = true := decide_eq_true c15
 clear c15
 by_cases c16 : (rd l0_1 x3_2) ≤ (rd l0_1 (ji13))
 {
 rw [if_pos c16] at H
 have c16b0 : decide ((rd l0_1 x3_2) ≤ (rd l0_1 (ji13))) = true := decide_eq_true c16
 clear c16
 obtain rfl := Option.some.inj H
 have hcz17_0 : wr.cell? ⟨gb430, 0, none⟩ = some (.int .i16 a0_0) := (blk_cell BK430.out 0).trans rfl
 have hcz17_1 : wr.cell? ⟨gb430, 1, none⟩ = some (.slice A0_1 l0_1.length c0_1) := (blk_cell BK430.out 1).trans rfl
 have hfz17_0 := blk_frozen BK430.out 0
 have hfz17_1 := blk_frozen BK430.out 1
 have p434 : 0 ≤ (x3_2 : Int) := of_decide_eq_true (by first | (with_reducible assumption) | assumption)
 have q434 : x3_2 < (l0_1.length : Int) := of_decide_eq_true (by first | (with_reducible assumption) | assumption)
 obtain ⟨ad434, e434, hx434_0⟩ := Kd.at_int HR0_1.out x3_2 p434 q434
 cases e434
 replace hx434_0 := (HB.out.cell (World.block_lt_of_cell? w _ hx434_0)).trans hx434_0
 replace p434 := eq_true p434
 replace q434 := eq_true q434
 have p435 : 0 ≤ ((ji13) : Int) := of_decide_eq_true (by first | (with_reducible assumption) | assumption)
 have q435 : (ji13) < (l0_1.length : Int) := of_decide_eq_true (by first | (with_reducible assumption) | assumption)
 obtain ⟨ad435, e435, hx435_0⟩ := Kd.at_int HR0_1.out (ji13) p435 q435
 obtain rfl : ad434 = ad435 := (by injection e435)
 replace hx435_0 := (HB.out.cell (World.block_lt_of_cell? w _ hx435_0)).trans hx435_0
 replace p435 := eq_true p435
 replace q435 := eq_true q435
 go_wp2
 repeat (go_quiet (fail); try go_wp2)
 go_ret
 exact ⟨by first | rfl | (simp [errW_none, errW_some] <;> rfl) | (simp only [← hji13]; first | rfl | (simp [errW_none, errW_some] <;> rfl)) | (simp [*, errW_none, errW_some] <;> rfl), zBG HB.out GE430.out⟩
 }
 {
 rw [if_neg c16] at H
 have c16b0 : decide ((rd l0_1 x3_2) ≤ (rd l0_1 (ji13))) = false := decide_eq_false c16
 clear c16
 have H' := ak H
 clear H
 have hcz18_0 : wr.cell? ⟨gb430, 0, none⟩ = some (.int .i16 a0_0) := (blk_cell BK430.out 0).trans rfl
 have hcz18_1 : wr.cell? ⟨gb430, 1, none⟩ = some (.slice A0_1 l0_1.length c0_1) := (blk_cell BK430.out 1).trans rfl
 have hfz18_0 := blk_frozen BK430.out 0
 have hfz18_1 := blk_frozen BK430.out 1
 have p434 : 0 ≤ (x3_2 : Int) := of_decide_eq_true (by first | (with_reducible assumption) | assumption)
 have q434 : x3_2 < (l0_1.length : Int) := of_decide_eq_true (by first | (with_reducible assumption) | assumption)
 obtain ⟨ad434, e434, hx434_0⟩ := Kd.at_int HR0_1.out x3_2 p434 q434
 cases e434
 replace hx434_0 := (HB.out.cell (World.block_lt_of_cell? w _ hx434_0)).trans hx434_0
 replace p434 := eq_true p434
 replace q434 := eq_true q434
 have p435 : 0 ≤ ((ji13) : Int) := of_decide_eq_true (by first | (with_reducible assumption) | assumption)
 have q435 : (ji13) < (l0_1.length : Int) := of_decide_eq_true (by first | (with_reducible assumption) | assumption)
 obtain ⟨ad435, e435, hx435_0⟩ := Kd.at_int HR0_1.out (ji13) p435 q435
 obtain rfl : ad434 = ad435 := (by injection e435)
 replace hx435_0 := (HB.out.cell (World.block_lt_of_cell? w _ hx435_0)).trans hx435_0
 replace p435 := eq_true p435
 replace q435 := eq_true q435
 go_wp2
 repeat (go_quiet (fail); try go_wp2)
 go_roundg k2
 case measure => have := HJ1.out; have := HK2.out; omega
 case rel => exact ⟨(wrap64 (x3_2 + 1)), (by first | rfl | (simp; done) | (simp [*]; done)), H', ⟨by have := HJ1.out; have := HK2.out; omega⟩, ⟨(zK BK430.out)⟩, ⟨zBG HB.out GE430.out⟩⟩
 }
 }
 · rw [if_neg c15] at H; exact absurd H (by simp)
 }
 · rw [if_neg c14] at H; exact absurd H (by simp)
 }
 · rw [if_neg c12] at H; exact absurd H (by simp)
 }
 {
 rw [if_neg c11] at H
 have c11b0 : decide (x3_2 < (l0_1.length : Int)) = false := decide_eq_false c11
 clear c11
 by_cases c19 : 0 < (l0_1.length : Int)
 {
 rw [if_pos c19] at H
 have c19b0 : decide (0 < (l0_1.length : Int)) = true := decide_eq_true c19
 have c19b1 : decide (0 < l0_1.length) = true := decide_eq_true (by omega)
 clear c19
 by_cases c20 : (rd l0_1 0) = 0
 {
 rw [if_pos c20] at H
 have c20b0 : ((rd l0_1 0) == 0) = true := beq_iff_eq.mpr c20
 have c20b1 : ((rd l0_1 0) != 0) = false := bne_eq_false_iff_eq.mpr c20
 clear c20
 obtain ⟨ji21, hji21⟩ : ∃ j_ : Int, (wrap64 ((l0_1.length : Int) - 1)) = j_ := ⟨_, rfl⟩
 first | rw [hji21] at H | simp only [hji21] at H
 have hji21w : (IntKind.i64.wrap ((l0_1.length : Int) - 1)) = ji21 := (i64_w _).trans hji21
 by_cases c22 : 0 ≤ (ji21)
 {
 rw [if_pos c22] at H
 have c22b0 : decide (0 ≤ (ji21)) = true := decide_eq_true c22
 clear c22
 by_cases c23 : (ji21) < (l0_1.length : Int)
 {
 rw [if_pos c23] at H
 have c23b0 : decide ((ji21) < (l0_1.length : Int)) = true := decide_eq_true c23
 clear c23
 obtain rfl := Option.some.inj H
 have hcz24_0 : wr.cell? ⟨gb430, 0, none⟩ = some (.int .i16 a0_0) := (blk_cell BK430.out 0).trans rfl
 have hcz24_1 : wr.cell? ⟨gb430, 1, none⟩ = some (.slice A0_1 l0_1.length c0_1) := (blk_cell BK430.out 1).trans rfl
 have hfz24_0 := blk_frozen BK430.out 0
 have hfz24_1 := blk_frozen BK430.out 1
 have p436 : 0 ≤ (0 : Int) := (by omega)
 have q436 : 0 < (l0_1.length : Int) := of_decide_eq_true (by first | (with_reducible assumption) | assumption)
 obtain ⟨ad436, e436, hx436_0⟩ := Kd.at_int HR0_1.out 0 p436 q436
 cases e436
 have qi436 : (0 < l0_1.length) = True := eq_true (by omega)
 (try rw [show ((0 : Int)).toNat = 0 from rfl] at hx436_0)
 (try rw [Addr.add_zero'] at hx436_0)
 replace hx436_0 := (HB.out.cell (World.block_lt_of_cell? w _ hx436_0)).trans hx436_0
 replace p436 := eq_true p436
 replace q436 := eq_true q436
 have p437 : 0 ≤ ((ji21) : Int) := of_decide_eq_true (by first | (with_reducible assumption) | assumption)
 have q437 : (ji21) < (l0_1.length : Int) := of_decide_eq_true (by first | (with_reducible assumption) | assumption)
 obtain ⟨ad437, e437, hx437_0⟩ := Kd.at_int HR0_1.out (ji21) p437 q437
 obtain rfl : ad436 = ad437 := (by injection e437)
 replace hx437_0 := (HB.out.cell (World.block_lt_of_cell? w _ hx437_0)).trans hx437_0
 replace p437 := eq_true p437
 replace q437 := eq_true q437
 go_wp2
 repeat (go_quiet (fail); try go_wp2)
 go_ret
 exact ⟨by first | rfl | (simp [errW_none, errW_some] <;> rfl) | (simp only [← hji21]; first | rfl | (simp [errW_none, errW_some] <;> rfl)) | (simp [*, errW_none, errW_some] <;> rfl), zBG HB.out GE430.out⟩
 }
 · rw [if_neg c23] at H; exact absurd H (by simp)
 }
 · rw [if_neg c22] at H; exact absurd H (by simp)
 }
 {
 rw [if_neg c20] at H
 have c20b0 : ((rd l0_1 0) == 0) = false := beq_eq_false_iff_ne.mpr c20
 have c20b1 : ((rd l0_1 0) != 0) = true := bne_iff_ne.mpr c20
 obtain rfl := Option.some.inj H
 have hcz25_0 : wr.cell? ⟨gb430, 0, none⟩ = some (.int .i16 a0_0) := (blk_cell BK430.out 0).trans rfl
 have hcz25_1 : wr.cell? ⟨gb430, 1, none⟩ = some (.slice A0_1 l0_1.length c0_1) := (blk_cell BK430.out 1).trans rfl
 have hfz25_0 := blk_frozen BK430.out 0
 have hfz25_1 := blk_frozen BK430.out 1
 have p436 : 0 ≤ (0 : Int) := (by omega)
 have q436 : 0 < (l0_1.length : Int) := of_decide_eq_true (by first | (with_reducible assumption) | assumption)
 obtain ⟨ad436, e436, hx436_0⟩ := Kd.at_int HR0_1.out 0 p436 q436
 cases e436
 have qi436 : (0 < l0_1.length) = True := eq_true (by omega)
 (try rw [show ((0 : Int)).toNat = 0 from rfl] at hx436_0)
 (try rw [Addr.add_zero'] at hx436_0)
 replace hx436_0 := (HB.out.cell (World.block_lt_of_cell? w _ hx436_0)).trans hx436_0
 replace p436 := eq_true p436
 replace q436 := eq_true q436
 go_wp2
 repeat (go_quiet (fail); try go_wp2)
 go_ret
 exact ⟨by first | rfl | (simp [errW_none, errW_some] <;> rfl) | (simp [*, errW_none, errW_some] <;> rfl), zBG HB.out GE430.out⟩
 }
 }
 · rw [if_neg c19] at H; exact absurd H (by simp)
 }
 )
 )
 }
 )
 )
end Go.Proofs.Ytooidjdgfoioiaa.P
