-- Printed by wip/print (my turned copy of the kit's print) out of the translation; Lean checks it.
import Derived.Test.YtcjchobajjbhkaaP0
import Derived.Test.YtcjchobajjbhkaaP2
import Derived.Test.YtcjchobajjbhkaaP10
import Derived.Test.YtcjchobajjbhkaaP11
namespace Go.Proofs.Ytcjchobajjbhkaa.P
open Go.RowKit Go.Proofs.YtcjchobajjbhkaaW.PrintWords Go.Proofs.YtcjchobajjbhkaaW.PrintLast Go.Proofs.YtcjchobajjbhkaaW.PrintMore
attribute [local go_sem] max2_int min2_int max_two min_two max_three min_three max_four min_four   -- for this text's walks alone
set_option linter.unusedVariables false
set_option linter.unusedSimpArgs false

/-! ### spec_A2Same: function 20 -/
def spec_A2Same.f (k : Nat) (l0 : List Int) (l1 : List Int) : Option (Bool) := (spec_l00Same.f k l0 l1).bind fun t352 => (some t352)
theorem spec_A2Same.mono : ∀ a0 a1 k, LeO (spec_A2Same.f k a0 a1) (spec_A2Same.f (k + 1) a0 a1) := by
  intro a0 a1 k
  unfold spec_A2Same.f
  repeat' first
      | (with_reducible exact spec_l00Same.mono _ _ _)
      | (with_reducible exact LeO.refl _)
      | (with_reducible exact LeO.none _)
      | (with_reducible refine LeO.ite ?_ ?_)
      | (with_reducible refine LeO.bind ?_ (fun _ => ?_))
      | exact spec_l00Same.mono _ _ _
      | exact LeO.none _
      | refine LeO.ite ?_ ?_
      | refine LeO.bind ?_ (fun _ => ?_)
set_option maxHeartbeats 8000000 in
set_option maxRecDepth 100000 in
theorem spec_A2Same.calls (k : Nat) (A0 : Option Addr) (c0 : Nat) (l0 : List Int) (A1 : Option Addr) (c1 : Nat) (l1 : List Int) (r : Bool) (w : World) (hr0 : Kd.C (Kd.int .i64) w A0 l0.length l0) (hc0 : l0.length ≤ c0) (hr1 : Kd.C (Kd.int .i64) w A1 l1.length l1) (hc1 : l1.length ≤ c1) (h : spec_A2Same.f k l0 l1 = some r) :
    Calls Try.prog 20 #[.slice A0 l0.length c0, .slice A1 l1.length c1] w fun e w' => e = .returned (.bool r) ∧ Drawn0 w w' := by
 have HR0 := ak hr0
 have HC0 := ak hc0
 clear hr0 hc0
 have HR1 := ak hr1
 have HC1 := ak hc1
 clear hr1 hc1
 have H : ((spec_l00Same.f k l0 l1).bind fun t352 => (some t352)) = some r := h
 clear h
 replace H := Option.bind_eq_some_iff.mp H
 obtain ⟨t352, A30, H⟩ := H
 replace H : (some t352) = some r := H
 have A3 := ak A30
 clear A30
 obtain rfl := Option.some.inj H
 go_enter Try.func20, Try.ntmps20
 go_wp2_with (first | ((with_reducible refine gate_callee (f := 38) rfl ?_); refine goesL_ (some 7) rfl rfl Try.func38 (by kernel_rfl) rfl #[.slice A0 l0.length c0, .slice A1 l1.length c1] rfl (by (try simp only [List.map_toArray, List.map_cons, List.map_nil]); first | done | rfl | (simp only [List.length_drop, List.length_take]; rfl)) ?_; (with_reducible refine (spec_l00Same.calls k _ _ l0 _ _ l1 t352 _ ?side1 ?side2 ?side3 ?side4 A3.out).mono ?_); (case side1 => repeat (first | exact HR0.out | (with_reducible refine Kd.C_alloc ?_ _) | (with_reducible refine Kd.C_drewN ?_ _) | (with_reducible refine Kd.C_drew ?_))); (case side2 => exact HC0.out); (case side3 => repeat (first | exact HR1.out | (with_reducible refine Kd.C_alloc ?_ _) | (with_reducible refine Kd.C_drewN ?_ _) | (with_reducible refine Kd.C_drew ?_))); (case side4 => exact HC1.out); rintro e w' ⟨rfl, ⟨nd, rfl⟩⟩; refine ⟨_, rfl, ?_⟩))
 go_ret
 exact ⟨by first | rfl | (simp; done) | (simp [*]; done), by repeat (first | exact Drawn0.refl _ | apply Drawn0.step)⟩
/-! ### impl_isPerson: function 57 -/
def impl_isPerson.f (a0 : Int) : Option (Bool) := (impl_within.f a0 0 13).bind fun t353 => (some t353)
set_option maxHeartbeats 8000000 in
set_option maxRecDepth 100000 in
theorem impl_isPerson.calls (a0 : Int) (r : Bool) (w : World) (h : impl_isPerson.f a0 = some r) :
    Calls Try.prog 57 #[.int .i64 a0] w fun e w' => e = .returned (.bool r) ∧ Drawn0 w w' := by
 have H : ((impl_within.f a0 0 13).bind fun t353 => (some t353)) = some r := h
 clear h
 replace H := Option.bind_eq_some_iff.mp H
 obtain ⟨t353, A20, H⟩ := H
 replace H : (some t353) = some r := H
 have A2 := ak A20
 clear A20
 obtain rfl := Option.some.inj H
 go_enter Try.func57, Try.ntmps57
 go_wp2_with (first | ((with_reducible refine gate_callee (f := 29) rfl ?_); refine goesL_ (some 4) rfl rfl Try.func29 (by kernel_rfl) rfl #[.int .i64 a0, .int .i64 0, .int .i64 13] rfl (by (try simp only [List.map_toArray, List.map_cons, List.map_nil]); first | done | rfl | (simp only [List.length_drop, List.length_take]; rfl)) ?_; (with_reducible refine (impl_within.calls a0 0 13 t353 _ A2.out).mono ?_); rintro e w' ⟨rfl, ⟨nd, rfl⟩⟩; refine ⟨_, rfl, ?_⟩))
 go_ret
 exact ⟨by first | rfl | (simp; done) | (simp [*]; done), by repeat (first | exact Drawn0.refl _ | apply Drawn0.step)⟩
/-! ### impl_HasPerson: function 41 -/
def impl_HasPerson.f (a0 : Int) (a1 : Int) : Option (Bool) := (impl_isPerson.f a1).bind fun t354 => (if t354 = true then (if 0 ≤ a1 then (some ((Go.bits .and .u16 (shr .u16 a0 a1) 1) == 1)) else (none)) else (some false))
set_option maxHeartbeats 8000000 in
set_option maxRecDepth 100000 in
theorem impl_HasPerson.calls (a0 : Int) (a1 : Int) (r : Bool) (w : World) (h : impl_HasPerson.f a0 a1 = some r) :
    Calls Try.prog 41 #[.int .u16 a0, .int .i64 a1] w fun e w' => e = .returned (.bool r) ∧ Drawn0 w w' := by
 have H : ((impl_isPerson.f a1).bind fun t354 => (if t354 = true then (if 0 ≤ a1 then (some ((Go.bits .and .u16 (shr .u16 a0 a1) 1) == 1)) else (none)) else (some false))) = some r := h
 clear h
 replace H := Option.bind_eq_some_iff.mp H
 obtain ⟨t354, A30, H⟩ := H
 replace H : (if t354 = true then (if 0 ≤ a1 then (some ((Go.bits .and .u16 (shr .u16 a0 a1) 1) == 1)) else (none)) else (some false)) = some r := H
 have A3 := ak A30
 clear A30
 by_cases c4 : t354 = true
 {
 subst c4
 have H1 : (if 0 ≤ a1 then (some ((Go.bits .and .u16 (shr .u16 a0 a1) 1) == 1)) else (none)) = some r := by rw [if_pos rfl] at H; exact H
 clear H
 have H := H1
 clear H1
 by_cases c5 : 0 ≤ a1
 {
 rw [if_pos c5] at H
 have c5b0 := eq_true c5
 have c5b1 : decide (0 ≤ a1) = true := decide_eq_true c5
 clear c5
 obtain ⟨ji6, hji6⟩ : ∃ j_ : Int, (shr .u16 a0 a1) = j_ := ⟨_, rfl⟩
 replace H : (some ((Go.bits .and .u16 (ji6) 1) == 1)) = some r := by first | (rw [hji6] at H; exact H) | (simp only [hji6] at H ⊢; exact H)
 (try rw [hji6] at A3)
 have hji6_ : (a0 / 2 ^ min a1.toNat 16) = ji6 := hji6
 have hji6z : a1 ≤ 16 → (a0 / 2 ^ a1.toNat) = ji6 := shr_small hji6
 obtain rfl := Option.some.inj H
 go_enter Try.func41, Try.ntmps41
 go_wp2_with (first | ((with_reducible refine gate_callee (f := 57) rfl ?_); refine goesL_ (some 6) rfl rfl Try.func57 (by kernel_rfl) rfl #[.int .i64 a1] rfl (by (try simp only [List.map_toArray, List.map_cons, List.map_nil]); first | done | rfl | (simp only [List.length_drop, List.length_take]; rfl)) ?_; (with_reducible refine (impl_isPerson.calls a1 true _ A3.out).mono ?_); rintro e w' ⟨rfl, ⟨nd, rfl⟩⟩; refine ⟨_, rfl, ?_⟩))
 go_ret
 exact ⟨by first | rfl | (simp; done) | (simp only [← hji6] <;> (first | rfl | simp)) | (simp [*]; done), by repeat (first | exact Drawn0.refl _ | apply Drawn0.step)⟩
 }
 · rw [if_neg c5] at H; exact absurd H (by simp)
 }
 {
 replace c4 := Bool.eq_false_iff.mpr c4
 subst c4
 have H1 : (some false) = some r := by rw [if_neg (show ¬ (false = true) by decide)] at H; exact H
 clear H
 have H := H1
 clear H1
 obtain rfl := Option.some.inj H
 go_enter Try.func41, Try.ntmps41
 go_wp2_with (first | ((with_reducible refine gate_callee (f := 57) rfl ?_); refine goesL_ (some 6) rfl rfl Try.func57 (by kernel_rfl) rfl #[.int .i64 a1] rfl (by (try simp only [List.map_toArray, List.map_cons, List.map_nil]); first | done | rfl | (simp only [List.length_drop, List.length_take]; rfl)) ?_; (with_reducible refine (impl_isPerson.calls a1 false _ A3.out).mono ?_); rintro e w' ⟨rfl, ⟨nd, rfl⟩⟩; refine ⟨_, rfl, ?_⟩))
 go_ret
 exact ⟨by first | rfl | (simp; done) | (simp [*]; done), by repeat (first | exact Drawn0.refl _ | apply Drawn0.step)⟩
 }
/-! ### impl_LastSeen_1: function 40 -/
def impl_LastSeen_1.f (a0 : Int) (a1_0 : Int) (l1_1 : List Int) (l1_2 : List Int) (a2_0 : Int) : Option (Bool) := if 0 ≤ a0 then (if a0 < (l1_1.length : Int) then ((impl_HasPerson.f (rd l1_1 a0) a2_0).bind fun t356 => (some t356)) else (none)) else (none)
set_option maxHeartbeats 8000000 in
set_option maxRecDepth 100000 in
theorem impl_LastSeen_1.calls (a0 : Int) (b1 : Nat) (a1_0 : Int) (A1_1 : Option Addr) (c1_1 : Nat) (l1_1 : List Int) (A1_2 : Option Addr) (c1_2 : Nat) (l1_2 : List Int) (b2 : Nat) (a2_0 : Int) (r : Bool) (w : World) (hr1_1 : Kd.C (Kd.int .u16) w A1_1 l1_1.length l1_1) (hc1_1 : l1_1.length ≤ c1_1) (hr1_2 : Kd.C (Kd.int .i16) w A1_2 l1_2.length l1_2) (hc1_2 : l1_2.length ≤ c1_2) (hx1 : w.heap[b1]? = some (.cells #[.int .i64 a1_0, .slice A1_1 l1_1.length c1_1, .slice A1_2 l1_2.length c1_2] 31 (0, 0))) (hx2 : w.heap[b2]? = some (.cells #[.int .i64 a2_0] 2 (0, 0))) (h : impl_LastSeen_1.f a0 a1_0 l1_1 l1_2 a2_0 = some r) :
    Calls Try.prog 40 #[.int .i64 a0, .pointer (some ⟨b1, 0, none⟩), .pointer (some ⟨b2, 0, none⟩)] w fun e w' => e = .returned (.bool r) ∧ Drawn0 w w' := by
 have HR1_1 := ak hr1_1
 have HC1_1 := ak hc1_1
 clear hr1_1 hc1_1
 have HR1_2 := ak hr1_2
 have HC1_2 := ak hc1_2
 clear hr1_2 hc1_2
 have BK1 := ak hx1
 clear hx1
 have BK2 := ak hx2
 clear hx2
 have H : (if 0 ≤ a0 then (if a0 < (l1_1.length : Int) then ((impl_HasPerson.f (rd l1_1 a0) a2_0).bind fun t356 => (some t356)) else (none)) else (none)) = some r := h
 clear h
 by_cases c4 : 0 ≤ a0
 {
 rw [if_pos c4] at H
 have c4b0 : decide (0 ≤ a0) = true := decide_eq_true c4
 clear c4
 by_cases c5 : a0 < (l1_1.length : Int)
 {
 rw [if_pos c5] at H
 have c5b0 : decide (a0 < (l1_1.length : Int)) = true := decide_eq_true c5
 clear c5
 replace H := Option.bind_eq_some_iff.mp H
 obtain ⟨t356, A60, H⟩ := H
 replace H : (some t356) = some r := H
 have A6 := ak A60
 clear A60
 obtain rfl := Option.some.inj H
 have hcz7_0 : w.cell? ⟨b1, 0, none⟩ = some (.int .i64 a1_0) := (blk_cell BK1.out 0).trans rfl
 have hcz7_1 : w.cell? ⟨b1, 1, none⟩ = some (.slice A1_1 l1_1.length c1_1) := (blk_cell BK1.out 1).trans rfl
 have hcz7_2 : w.cell? ⟨b1, 2, none⟩ = some (.slice A1_2 l1_2.length c1_2) := (blk_cell BK1.out 2).trans rfl
 have hfz7_0 := blk_frozen BK1.out 0
 have hfz7_1 := blk_frozen BK1.out 1
 have hfz7_2 := blk_frozen BK1.out 2
 have p355 : 0 ≤ (a0 : Int) := of_decide_eq_true (by first | (with_reducible assumption) | assumption)
 have q355 : a0 < (l1_1.length : Int) := of_decide_eq_true (by first | (with_reducible assumption) | assumption)
 obtain ⟨ad355, e355, hx355_0⟩ := Kd.at_int HR1_1.out a0 p355 q355
 cases e355
 replace p355 := eq_true p355
 replace q355 := eq_true q355
 have hcz8_0 : w.cell? ⟨b2, 0, none⟩ = some (.int .i64 a2_0) := (blk_cell BK2.out 0).trans rfl
 have hfz8_0 := blk_frozen BK2.out 0
 go_enter Try.func40, Try.ntmps40
 go_wp2_with (first | (go_at_call 41; (with_reducible refine (impl_HasPerson.calls (rd l1_1 a0) a2_0 t356 _ A6.out).mono ?_); rintro e w' ⟨rfl, ⟨nd, rfl⟩⟩; (try first | exact ⟨rfl, _, World.drewN_drewN _ _ _⟩ | exact ⟨rfl, _, Eq.trans (World.drewN_drewN _ _ _) (congrArg (World.drewN _) (Nat.add_assoc _ _ _))⟩)))
 repeat (go_quiet (first | (go_at_call 41; (with_reducible refine (impl_HasPerson.calls (rd l1_1 a0) a2_0 t356 _ A6.out).mono ?_); rintro e w' ⟨rfl, ⟨nd, rfl⟩⟩; (try first | exact ⟨rfl, _, World.drewN_drewN _ _ _⟩ | exact ⟨rfl, _, Eq.trans (World.drewN_drewN _ _ _) (congrArg (World.drewN _) (Nat.add_assoc _ _ _))⟩))); try go_wp2_with (first | (go_at_call 41; (with_reducible refine (impl_HasPerson.calls (rd l1_1 a0) a2_0 t356 _ A6.out).mono ?_); rintro e w' ⟨rfl, ⟨nd, rfl⟩⟩; (try first | exact ⟨rfl, _, World.drewN_drewN _ _ _⟩ | exact ⟨rfl, _, Eq.trans (World.drewN_drewN _ _ _) (congrArg (World.drewN _) (Nat.add_assoc _ _ _))⟩))))
 go_ret
 exact ⟨by first | rfl | (simp; done) | (simp [*]; done), by repeat (first | exact Drawn0.refl _ | apply Drawn0.step)⟩
 }
 · rw [if_neg c5] at H; exact absurd H (by simp)
 }
 · rw [if_neg c4] at H; exact absurd H (by simp)
/-! ### impl_indices_at_LastSeen_1: function 39 -/
def impl_indices_at_LastSeen_1.l0 : Nat → List Int → Int → Int → Int → List Int → List Int → Int → Option (List Int)
  | 0, _, _, _, _, _, _, _ => none
  | k + 1, x5, x8, x9, x41000, x41001, x41002, x42000 => if x9 < x8 then ((impl_LastSeen_1.f x9 x41000 x41001 x41002 x42000).bind fun t360 => (if t360 = true then (if x5.length < 17592186044416 then (impl_indices_at_LastSeen_1.l0 k (x5 ++ [x9]) x8 (wrap64 (x9 + 1)) x41000 x41001 x41002 x42000) else (none)) else (impl_indices_at_LastSeen_1.l0 k x5 x8 (wrap64 (x9 + 1)) x41000 x41001 x41002 x42000))) else (some x5)
def impl_indices_at_LastSeen_1.f (k : Nat) (a0 : Int) (a40_0 : Int) (l40_1 : List Int) (l40_2 : List Int) (a41_0 : Int) : Option (List Int) := impl_indices_at_LastSeen_1.l0 k (([] : List Int)) a0 0 a40_0 l40_1 l40_2 a41_0
theorem impl_indices_at_LastSeen_1.mono_l : ∀ k, (∀ y0 y1 y2 y3 y4 y5 y6, LeO (impl_indices_at_LastSeen_1.l0 k y0 y1 y2 y3 y4 y5 y6) (impl_indices_at_LastSeen_1.l0 (k + 1) y0 y1 y2 y3 y4 y5 y6))
  | 0 => fun _ _ _ _ _ _ _ r h => by simp [impl_indices_at_LastSeen_1.l0] at h
  | k + 1 => by
    have ih0 := impl_indices_at_LastSeen_1.mono_l k
    · intro y0 y1 y2 y3 y4 y5 y6
      unfold impl_indices_at_LastSeen_1.l0
      repeat' first
      | (with_reducible exact ih0 _ _ _ _ _ _ _)
      | (with_reducible exact LeO.refl _)
      | (with_reducible exact LeO.none _)
      | (with_reducible refine LeO.ite ?_ ?_)
      | (with_reducible refine LeO.bind ?_ (fun _ => ?_))
      | exact ih0 _ _ _ _ _ _ _
      | exact LeO.none _
      | refine LeO.ite ?_ ?_
      | refine LeO.bind ?_ (fun _ => ?_)
theorem impl_indices_at_LastSeen_1.mono : ∀ a0 a1 a2 a3 a4 k, LeO (impl_indices_at_LastSeen_1.f k a0 a1 a2 a3 a4) (impl_indices_at_LastSeen_1.f (k + 1) a0 a1 a2 a3 a4) := by
  intro a0 a1 a2 a3 a4 k
  have ih0 := impl_indices_at_LastSeen_1.mono_l k
  unfold impl_indices_at_LastSeen_1.f
  repeat' first
      | (with_reducible exact ih0 _ _ _ _ _ _ _)
      | (with_reducible exact LeO.refl _)
      | (with_reducible exact LeO.none _)
      | (with_reducible refine LeO.ite ?_ ?_)
      | (with_reducible refine LeO.bind ?_ (fun _ => ?_))
      | exact ih0 _ _ _ _ _ _ _
      | exact LeO.none _
      | refine LeO.ite ?_ ?_
      | refine LeO.bind ?_ (fun _ => ?_)
set_option maxHeartbeats 8000000 in
set_option maxRecDepth 100000 in
theorem impl_indices_at_LastSeen_1.calls (k : Nat) (a0 : Int) (b40 : Nat) (b41 : Nat) (a40_0 : Int) (A40_1 : Option Addr) (c40_1 : Nat) (l40_1 : List Int) (A40_2 : Option Addr) (c40_2 : Nat) (l40_2 : List Int) (a41_0 : Int) (r : List Int) (w : World) (hr40_1 : Kd.C (Kd.int .u16) w A40_1 l40_1.length l40_1) (hc40_1 : l40_1.length ≤ c40_1) (hr40_2 : Kd.C (Kd.int .i16) w A40_2 l40_2.length l40_2) (hc40_2 : l40_2.length ≤ c40_2) (hx40 : w.heap[b40]? = some (.cells #[.int .i64 a40_0, .slice A40_1 l40_1.length c40_1, .slice A40_2 l40_2.length c40_2] 31 (0, 0))) (hx41 : w.heap[b41]? = some (.cells #[.int .i64 a41_0] 2 (0, 0))) (h : impl_indices_at_LastSeen_1.f k a0 a40_0 l40_1 l40_2 a41_0 = some r) :
    Calls Try.prog 39 #[.int .i64 a0, .func (.func 40) #[] #[.pointer (some ⟨b40, 0, none⟩), .pointer (some ⟨b41, 0, none⟩)]] w fun e w' => ∃ v0_ : Value, e = .returned (v0_) ∧ Kd.R (Kd.int .i64) 2 w' w.heap.size (fun _ => True) v0_ r ∧ Below w.heap.size w w' := by
 have HR40_1 := ak hr40_1
 have HC40_1 := ak hc40_1
 clear hr40_1 hc40_1
 have HR40_2 := ak hr40_2
 have HC40_2 := ak hc40_2
 clear hr40_2 hc40_2
 have BK40 := ak hx40
 clear hx40
 have BK41 := ak hx41
 clear hx41
 have HB := ak (Below.refl w.heap.size w)
 have H : (impl_indices_at_LastSeen_1.l0 k (([] : List Int)) a0 0 a40_0 l40_1 l40_2 a41_0) = some r := h
 clear h
 obtain ⟨y357, hy357⟩ : ∃ y_ : List Int, y_ = (([] : List Int)) := ⟨_, rfl⟩
 replace H : (impl_indices_at_LastSeen_1.l0 k y357 a0 0 a40_0 l40_1 l40_2 a41_0) = some r := by first | (rw [hy357]; with_reducible exact H) | (have H2_ := (Option.bind_some _ _).symm.trans H; rw [hy357]; with_reducible exact H2_) | (have H2_ := (Option.bind_some _ _).symm.trans H; with_reducible exact H2_) | with_reducible exact H | (rw [hy357]; exact H) | exact H
 have Ny357 := ak hy357
 clear hy357
 have H' := ak H
 clear H
 go_enter Try.func39, Try.ntmps39
 go_wp2_with (first | ((with_reducible refine gate_dst (N := 7) rfl ?_); refine Kd.R_lit (Kd.int .i64) _ 2 ?hg (N := 7) ?hd (xs := ([] : List Int)) (inner := []) (ok := fun _ => True) (okp := fun _ => True) ?hr ?hp (fun _ hk => hk) trivial (Below.refl _ _) (Nat.le_refl _) (by simp) ?_; (case hd => rfl); (case hg => rfl); (case hr => first | (go_simp; done) | (go_simp; rfl)); (case hp => exact (Reps.none _ _)); intro v358 w3 ho4 hb hg_ hnew_; clear hg_ hnew_; (first | rw [← Ny357.out] at ho4 | (simp only [Int.reduceToNat] at ho4; rw [← Ny357.out] at ho4)); have n0_ := ak (Kd.R_lower (Kd.R_newB ho4 (g := b41) (o := .cells #[.int .i64 a41_0] 2 (0, 0)) (zK BK41.out)) (below_size (by repeat (first | (with_reducible first | exact HB.out | apply below_alloc | apply pw_below_drewN | apply below_drew1 | refine below_set ?_ GE40.out | refine below_set ?_ GE41.out) | exact HB.out)))); have n1_ := ak (blk_below (g := b40) (o := .cells #[.int .i64 a40_0, .slice A40_1 l40_1.length c40_1, .slice A40_2 l40_2.length c40_2] 31 (0, 0)) (zK BK40.out) hb); have n2_ := ak (blk_below (g := b41) (o := .cells #[.int .i64 a41_0] 2 (0, 0)) (zK BK41.out) hb); have n3_ := ak (below_step (by repeat (first | (with_reducible first | exact HB.out | apply below_alloc | apply pw_below_drewN | apply below_drew1 | refine below_set ?_ GE40.out | refine below_set ?_ GE41.out) | exact HB.out)) hb); clear BK40 BK41 HB; have HO359 := n0_; have BK40 := n1_; have BK41 := n2_; have HB := n3_; clear n0_ n1_ n2_ n3_; clear hb ho4))
 go_loopg [5, 9] k (fun kq v5 v9 w' => ∃ (x5_1 : List Int) (x9_1 : Int), v9 = .int .i64 x9_1 ∧ Aside0 (impl_indices_at_LastSeen_1.l0 kq x5_1 a0 x9_1 a40_0 l40_1 l40_2 a41_0 = some r) ∧ Aside0 (kq ≤ k) ∧ Aside0 (Kd.R (Kd.int .i64) 2 w' w.heap.size (fun k_ => k_ ≠ b41) v5 x5_1) ∧ Aside0 (w'.heap[b40]? = some (.cells #[.int .i64 a40_0, (.slice A40_1 l40_1.length c40_1), (.slice A40_2 l40_2.length c40_2)] 31 (0, 0))) ∧ Aside0 (w'.heap[b41]? = some (.cells #[.int .i64 a41_0] 2 (0, 0))) ∧ Aside0 (Below w.heap.size w w'))
 case atStart => exact ⟨(y357), (0), (by first | rfl | (simp; done) | (simp [*]; done)), H', ⟨Nat.le_refl _⟩, ⟨by (with_reducible repeat (first | apply Kd.R_alloc | apply Kd.R_drewN | apply Kd.R_drew)); exact Kd.R_mono HO359.out (fun _ hk => hk.2)⟩, ⟨by (with_reducible repeat (first | refine blk_drewN ?_ _ | refine blk_drew ?_ | refine blk_alloc ?_ _)); exact BK40.out⟩, ⟨by (with_reducible repeat (first | refine blk_drewN ?_ _ | refine blk_drew ?_ | refine blk_alloc ?_ _)); exact BK41.out⟩, ⟨by repeat (first | (with_reducible first | exact HB.out | apply below_alloc | apply pw_below_drewN | apply below_drew1 | refine below_set ?_ GE40.out | refine below_set ?_ GE41.out) | exact HB.out)⟩⟩
 case round => (
 clear H'
 try clear p2
 try clear c4
 try clear hx4
 obtain ⟨x5_1, x9_1, rfl, HA, HK1, HO_5, BK40, BK41, HB⟩ := hrel
 cases gk with
 | zero => exact absurd HA.out (by simp [impl_indices_at_LastSeen_1.l0])
 | succ k1 => (
 have H := HA.out
 clear HA
 simp only [impl_indices_at_LastSeen_1.l0] at H
 by_cases c5 : x9_1 < a0
 {
 rw [if_pos c5] at H
 have c5b0 : decide (x9_1 < a0) = true := decide_eq_true c5
 clear c5
 replace H := Option.bind_eq_some_iff.mp H
 obtain ⟨t360, A60, H⟩ := H
 replace H : (if t360 = true then (if x5_1.length < 17592186044416 then (impl_indices_at_LastSeen_1.l0 k1 (x5_1 ++ [x9_1]) a0 (wrap64 (x9_1 + 1)) a40_0 l40_1 l40_2 a41_0) else (none)) else (impl_indices_at_LastSeen_1.l0 k1 x5_1 a0 (wrap64 (x9_1 + 1)) a40_0 l40_1 l40_2 a41_0)) = some r := H
 have A6 := ak A60
 clear A60
 by_cases c7 : t360 = true
 {
 subst c7
 have H1 : (if x5_1.length < 17592186044416 then (impl_indices_at_LastSeen_1.l0 k1 (x5_1 ++ [x9_1]) a0 (wrap64 (x9_1 + 1)) a40_0 l40_1 l40_2 a41_0) else (none)) = some r := by rw [if_pos rfl] at H; exact H
 clear H
 have H := H1
 clear H1
 by_cases c8 : x5_1.length < 17592186044416
 {
 rw [if_pos c8] at H
 have LMc8 := ak c8
 clear c8
 obtain ⟨y361, hy361⟩ : ∃ y_ : List Int, y_ = (x5_1 ++ [x9_1]) := ⟨_, rfl⟩
 replace H : (impl_indices_at_LastSeen_1.l0 k1 y361 a0 (wrap64 (x9_1 + 1)) a40_0 l40_1 l40_2 a41_0) = some r := by first | (rw [hy361]; with_reducible exact H) | (have H2_ := (Option.bind_some _ _).symm.trans H; rw [hy361]; with_reducible exact H2_) | (have H2_ := (Option.bind_some _ _).symm.trans H; with_reducible exact H2_) | with_reducible exact H | (rw [hy361]; exact H) | exact H
 have Ny361 := ak hy361
 clear hy361
 have H' := ak H
 clear H
 go_wp2_with (first | ((with_reducible refine gate_tmpcall (t := 12) rfl ?_); refine goesF_ (some 14) rfl rfl Try.func40 (by kernel_rfl) rfl #[.pointer (some ⟨b40, 0, none⟩), .pointer (some ⟨b41, 0, none⟩)] #[.int .i64 x9_1, .pointer (some ⟨b40, 0, none⟩), .pointer (some ⟨b41, 0, none⟩)] rfl (by first | rfl | (go_simp; done) | (go_simp; rfl)) (by (try simp only [List.map_toArray, List.map_cons, List.map_nil]); first | done | rfl | (simp only [List.length_drop, List.length_take]; rfl) | (go_simp; done)) ?_; (with_reducible refine (impl_LastSeen_1.calls x9_1 b40 a40_0 A40_1 c40_1 l40_1 A40_2 c40_2 l40_2 b41 a41_0 true _ ?side1 ?side2 ?side3 ?side4 ?side5 ?side6 A6.out).mono ?_); (case side1 => repeat (first | exact (Kd.C_below HR40_1.out HB.out) | (with_reducible refine Kd.C_alloc ?_ _) | (with_reducible refine Kd.C_drewN ?_ _) | (with_reducible refine Kd.C_drew ?_))); (case side2 => exact HC40_1.out); (case side3 => repeat (first | exact (Kd.C_below HR40_2.out HB.out) | (with_reducible refine Kd.C_alloc ?_ _) | (with_reducible refine Kd.C_drewN ?_ _) | (with_reducible refine Kd.C_drew ?_))); (case side4 => exact HC40_2.out); (case side5 => exact (by first | exact BK40.out | ((with_reducible repeat (first | refine blk_drewN ?_ _ | refine blk_drew ?_ | refine blk_alloc ?_ _)); exact BK40.out))); (case side6 => exact (by first | exact BK41.out | ((with_reducible repeat (first | refine blk_drewN ?_ _ | refine blk_drew ?_ | refine blk_alloc ?_ _)); exact BK41.out))); rintro e w' ⟨rfl, ⟨nd, rfl⟩⟩; refine ⟨_, rfl, ?_⟩) | ((with_reducible refine gate_builtin (b := .append) (xs := #[.tmp 15, .tmp 17]) rfl ?_); at_builtin; refine Kd.R_append (Kd.int .i64) (w0 := w) w.heap.size rfl (.tmp 15) (.tmp 17) 46 2 (.int .i64 0) 8 rfl Try.underlying46 info2 rfl (by decide) (by omega) u5 x5_1 x9_1 [.int .i64 x9_1] (fun k_ => k_ ≠ b41) (fun _ => False) rfl rfl ?aP (fun _ hk => hk.elim) ?aF ?aO ?aB ?aS ?aL ?_; (case aP => exact rfl); (case aB => exact (by repeat (first | (with_reducible first | exact HB.out | apply below_alloc | apply pw_below_drewN | apply below_drew1 | refine below_set ?_ GE40.out | refine below_set ?_ GE41.out) | exact HB.out))); (case aF => exact (fun k_ hk => Kd.freshB (g := b41) (o := .cells #[.int .i64 a41_0] 2 (0, 0)) (zK BK41.out) k_ hk)); (case aO => exact (zR HO_5.out)); (case aS => exact (below_size (by repeat (first | (with_reducible first | exact HB.out | apply below_alloc | apply pw_below_drewN | apply below_drew1 | refine below_set ?_ GE40.out | refine below_set ?_ GE41.out) | exact HB.out)))); (case aL => have := LMc8.out; omega); intro v362 w9 ho hb hg hat; rw [← Ny361.out] at ho; have n0_ := ak (blk_grown (g := b40) (o := .cells #[.int .i64 a40_0, .slice A40_1 l40_1.length c40_1, .slice A40_2 l40_2.length c40_2] 31 (0, 0)) (zK BK40.out) hg (Kd.R_ne HO_5.out BK40.out (by decide))); have n1_ := ak (blk_grown (g := b41) (o := .cells #[.int .i64 a41_0] 2 (0, 0)) (zK BK41.out) hg (Kd.R_away HO_5.out (fun _ hk => hk))); have n2_ := ak (hb); have n3_ := ak (ho); clear BK40 BK41 HB HO_5; have BK40 := n0_; have BK41 := n1_; have HB := n2_; have HO363 := n3_; clear n0_ n1_ n2_ n3_; clear ho hb hg hat))
 go_roundg k1
 case measure => have := HK1.out; omega
 case rel => exact ⟨(y361), (wrap64 (x9_1 + 1)), (by first | rfl | (simp; done) | (simp [*]; done)), H', ⟨by have := HK1.out; omega⟩, ⟨by (with_reducible repeat (first | apply Kd.R_alloc | apply Kd.R_drewN | apply Kd.R_drew)); exact HO363.out⟩, ⟨by (with_reducible repeat (first | refine blk_drewN ?_ _ | refine blk_drew ?_ | refine blk_alloc ?_ _)); exact BK40.out⟩, ⟨by (with_reducible repeat (first | refine blk_drewN ?_ _ | refine blk_drew ?_ | refine blk_alloc ?_ _)); exact BK41.out⟩, ⟨by repeat (first | (with_reducible first | exact HB.out | apply below_alloc | apply pw_below_drewN | apply below_drew1 | refine below_set ?_ GE40.out | refine below_set ?_ GE41.out) | exact HB.out)⟩⟩
 }
 · rw [if_neg c8] at H; exact absurd H (by simp)
 }
 {
 replace c7 := Bool.eq_false_iff.mpr c7
 subst c7
 have H1 : (impl_indices_at_LastSeen_1.l0 k1 x5_1 a0 (wrap64 (x9_1 + 1)) a40_0 l40_1 l40_2 a41_0) = some r := by rw [if_neg (show ¬ (false = true) by decide)] at H; exact H
 clear H
 have H := H1
 clear H1
 have H' := ak H
 clear H
 go_wp2_with (first | ((with_reducible refine gate_tmpcall (t := 12) rfl ?_); refine goesF_ (some 14) rfl rfl Try.func40 (by kernel_rfl) rfl #[.pointer (some ⟨b40, 0, none⟩), .pointer (some ⟨b41, 0, none⟩)] #[.int .i64 x9_1, .pointer (some ⟨b40, 0, none⟩), .pointer (some ⟨b41, 0, none⟩)] rfl (by first | rfl | (go_simp; done) | (go_simp; rfl)) (by (try simp only [List.map_toArray, List.map_cons, List.map_nil]); first | done | rfl | (simp only [List.length_drop, List.length_take]; rfl) | (go_simp; done)) ?_; (with_reducible refine (impl_LastSeen_1.calls x9_1 b40 a40_0 A40_1 c40_1 l40_1 A40_2 c40_2 l40_2 b41 a41_0 false _ ?side1 ?side2 ?side3 ?side4 ?side5 ?side6 A6.out).mono ?_); (case side1 => repeat (first | exact (Kd.C_below HR40_1.out HB.out) | (with_reducible refine Kd.C_alloc ?_ _) | (with_reducible refine Kd.C_drewN ?_ _) | (with_reducible refine Kd.C_drew ?_))); (case side2 => exact HC40_1.out); (case side3 => repeat (first | exact (Kd.C_below HR40_2.out HB.out) | (with_reducible refine Kd.C_alloc ?_ _) | (with_reducible refine Kd.C_drewN ?_ _) | (with_reducible refine Kd.C_drew ?_))); (case side4 => exact HC40_2.out); (case side5 => exact (by first | exact BK40.out | ((with_reducible repeat (first | refine blk_drewN ?_ _ | refine blk_drew ?_ | refine blk_alloc ?_ _)); exact BK40.out))); (case side6 => exact (by first | exact BK41.out | ((with_reducible repeat (first | refine blk_drewN ?_ _ | refine blk_drew ?_ | refine blk_alloc ?_ _)); exact BK41.out))); rintro e w' ⟨rfl, ⟨nd, rfl⟩⟩; refine ⟨_, rfl, ?_⟩))
 go_roundg k1
 case measure => have := HK1.out; omega
 case rel => exact ⟨(x5_1), (wrap64 (x9_1 + 1)), (by first | rfl | (simp; done) | (simp [*]; done)), H', ⟨by have := HK1.out; omega⟩, ⟨by (with_reducible repeat (first | apply Kd.R_alloc | apply Kd.R_drewN | apply Kd.R_drew)); exact HO_5.out⟩, ⟨by (with_reducible repeat (first | refine blk_drewN ?_ _ | refine blk_drew ?_ | refine blk_alloc ?_ _)); exact BK40.out⟩, ⟨by (with_reducible repeat (first | refine blk_drewN ?_ _ | refine blk_drew ?_ | refine blk_alloc ?_ _)); exact BK41.out⟩, ⟨by repeat (first | (with_reducible first | exact HB.out | apply below_alloc | apply pw_below_drewN | apply below_drew1 | refine below_set ?_ GE40.out | refine below_set ?_ GE41.out) | exact HB.out)⟩⟩
 }
 }
 {
 rw [if_neg c5] at H
 have c5b0 : decide (x9_1 < a0) = false := decide_eq_false c5
 clear c5
 obtain rfl := Option.some.inj H
 go_wp2
 go_ret
 exact ⟨_, by first | rfl | (simp [errW_none, errW_some] <;> rfl) | (simp [*, errW_none, errW_some] <;> rfl), by (with_reducible repeat (first | apply Kd.R_alloc | apply Kd.R_drewN | apply Kd.R_drew)); exact Kd.R_mono HO_5.out (fun _ hk => trivial), by repeat (first | (with_reducible first | exact HB.out | apply below_alloc | apply pw_below_drewN | apply below_drew1 | refine below_set ?_ GE40.out | refine below_set ?_ GE41.out) | exact HB.out)⟩
 }
 )
 )
/-! ### impl_LastSeen: function 21 -/
def impl_LastSeen.f (k : Nat) (a0_0 : Int) (l0_1 : List Int) (l0_2 : List Int) (a1 : Int) : Option (Int × Int) := (impl_ValidLog.f k a0_0 l0_1 l0_2).bind fun t366 => (if t366 = true then ((impl_within.f a1 0 (wrap64 (a0_0 - 1))).bind fun t367 => (if t367 = true then ((impl_indices_at_LastSeen_1.f k (l0_1.length : Int) a0_0 l0_1 l0_2 a1).bind fun t368 => (if (t368.length : Int) = 0 then (some (0, 6)) else (if 0 ≤ (wrap64 ((t368.length : Int) - 1)) then (if (wrap64 ((t368.length : Int) - 1)) < (t368.length : Int) then (some (rd t368 (wrap64 ((t368.length : Int) - 1)), 0)) else (none)) else (none)))) else (some (0, 2)))) else (some (0, 1)))
theorem impl_LastSeen.mono : ∀ a0 a1 a2 a3 k, LeO (impl_LastSeen.f k a0 a1 a2 a3) (impl_LastSeen.f (k + 1) a0 a1 a2 a3) := by
  intro a0 a1 a2 a3 k
  unfold impl_LastSeen.f
  repeat' first
      | (with_reducible exact impl_ValidLog.mono _ _ _ _)
      | (with_reducible exact impl_indices_at_LastSeen_1.mono _ _ _ _ _ _)
      | (with_reducible exact LeO.refl _)
      | (with_reducible exact LeO.none _)
      | (with_reducible refine LeO.ite ?_ ?_)
      | (with_reducible refine LeO.bind ?_ (fun _ => ?_))
      | exact impl_ValidLog.mono _ _ _ _
      | exact impl_indices_at_LastSeen_1.mono _ _ _ _ _ _
      | exact LeO.none _
      | refine LeO.ite ?_ ?_
      | refine LeO.bind ?_ (fun _ => ?_)
set_option maxHeartbeats 8000000 in
set_option maxRecDepth 100000 in
theorem impl_LastSeen.calls (k : Nat) (a0_0 : Int) (A0_1 : Option Addr) (c0_1 : Nat) (l0_1 : List Int) (A0_2 : Option Addr) (c0_2 : Nat) (l0_2 : List Int) (a1 : Int) (r1 : Int) (r2 : Int) (w : World) (hr0_1 : Kd.C (Kd.int .u16) w A0_1 l0_1.length l0_1) (hc0_1 : l0_1.length ≤ c0_1) (hr0_2 : Kd.C (Kd.int .i16) w A0_2 l0_2.length l0_2) (hc0_2 : l0_2.length ≤ c0_2) (h : impl_LastSeen.f k a0_0 l0_1 l0_2 a1 = some (r1, r2)) :
    Calls Try.prog 21 #[.agg #[.int .i64 a0_0, .slice A0_1 l0_1.length c0_1, .slice A0_2 l0_2.length c0_2], .int .i64 a1] w fun e w' => e = .returned (.tuple #[.int .i64 r1, .int .i64 r2]) ∧ Below w.heap.size w w' := by
 have hu31 := Try.underlying31
 have HR0_1 := ak hr0_1
 have HC0_1 := ak hc0_1
 clear hr0_1 hc0_1
 have HR0_2 := ak hr0_2
 have HC0_2 := ak hc0_2
 clear hr0_2 hc0_2
 have HB := ak (Below.refl w.heap.size w)
 have H : ((impl_ValidLog.f k a0_0 l0_1 l0_2).bind fun t366 => (if t366 = true then ((impl_within.f a1 0 (wrap64 (a0_0 - 1))).bind fun t367 => (if t367 = true then ((impl_indices_at_LastSeen_1.f k (l0_1.length : Int) a0_0 l0_1 l0_2 a1).bind fun t368 => (if (t368.length : Int) = 0 then (some (0, 6)) else (if 0 ≤ (wrap64 ((t368.length : Int) - 1)) then (if (wrap64 ((t368.length : Int) - 1)) < (t368.length : Int) then (some (rd t368 (wrap64 ((t368.length : Int) - 1)), 0)) else (none)) else (none)))) else (some (0, 2)))) else (some (0, 1)))) = some (r1, r2) := h
 clear h
 replace H := Option.bind_eq_some_iff.mp H
 obtain ⟨t366, A30, H⟩ := H
 replace H : (if t366 = true then ((impl_within.f a1 0 (wrap64 (a0_0 - 1))).bind fun t367 => (if t367 = true then ((impl_indices_at_LastSeen_1.f k (l0_1.length : Int) a0_0 l0_1 l0_2 a1).bind fun t368 => (if (t368.length : Int) = 0 then (some (0, 6)) else (if 0 ≤ (wrap64 ((t368.length : Int) - 1)) then (if (wrap64 ((t368.length : Int) - 1)) < (t368.length : Int) then (some (rd t368 (wrap64 ((t368.length : Int) - 1)), 0)) else (none)) else (none)))) else (some (0, 2)))) else (some (0, 1))) = some (r1, r2) := H
 have A3 := ak A30
 clear A30
 by_cases c4 : t366 = true
 {
 subst c4
 have H1 : ((impl_within.f a1 0 (wrap64 (a0_0 - 1))).bind fun t367 => (if t367 = true then ((impl_indices_at_LastSeen_1.f k (l0_1.length : Int) a0_0 l0_1 l0_2 a1).bind fun t368 => (if (t368.length : Int) = 0 then (some (0, 6)) else (if 0 ≤ (wrap64 ((t368.length : Int) - 1)) then (if (wrap64 ((t368.length : Int) - 1)) < (t368.length : Int) then (some (rd t368 (wrap64 ((t368.length : Int) - 1)), 0)) else (none)) else (none)))) else (some (0, 2)))) = some (r1, r2) := by rw [if_pos rfl] at H; exact H
 clear H
 have H := H1
 clear H1
 replace H := Option.bind_eq_some_iff.mp H
 obtain ⟨t367, A50, H⟩ := H
 replace H : (if t367 = true then ((impl_indices_at_LastSeen_1.f k (l0_1.length : Int) a0_0 l0_1 l0_2 a1).bind fun t368 => (if (t368.length : Int) = 0 then (some (0, 6)) else (if 0 ≤ (wrap64 ((t368.length : Int) - 1)) then (if (wrap64 ((t368.length : Int) - 1)) < (t368.length : Int) then (some (rd t368 (wrap64 ((t368.length : Int) - 1)), 0)) else (none)) else (none)))) else (some (0, 2))) = some (r1, r2) := H
 have A5 := ak A50
 clear A50
 by_cases c6 : t367 = true
 {
 subst c6
 have H1 : ((impl_indices_at_LastSeen_1.f k (l0_1.length : Int) a0_0 l0_1 l0_2 a1).bind fun t368 => (if (t368.length : Int) = 0 then (some (0, 6)) else (if 0 ≤ (wrap64 ((t368.length : Int) - 1)) then (if (wrap64 ((t368.length : Int) - 1)) < (t368.length : Int) then (some (rd t368 (wrap64 ((t368.length : Int) - 1)), 0)) else (none)) else (none)))) = some (r1, r2) := by rw [if_pos rfl] at H; exact H
 clear H
 have H := H1
 clear H1
 replace H := Option.bind_eq_some_iff.mp H
 obtain ⟨t368, A70, H⟩ := H
 replace H : (if (t368.length : Int) = 0 then (some (0, 6)) else (if 0 ≤ (wrap64 ((t368.length : Int) - 1)) then (if (wrap64 ((t368.length : Int) - 1)) < (t368.length : Int) then (some (rd t368 (wrap64 ((t368.length : Int) - 1)), 0)) else (none)) else (none))) = some (r1, r2) := H
 have A7 := ak A70
 clear A70
 by_cases c8 : (t368.length : Int) = 0
 {
 rw [if_pos c8] at H
 have c8b0 : ((t368.length : Int) == 0) = true := beq_iff_eq.mpr c8
 have c8b1 : ((t368.length : Int) != 0) = false := bne_eq_false_iff_eq.mpr c8
 clear c8
 simp only [Option.some.injEq, Prod.mk.injEq] at H
 obtain ⟨rfl, rfl⟩ := H
 go_enter Try.func21, Try.ntmps21
 go_wp2_with (first | ((with_reducible refine gate_dst (N := 2) rfl ?_); refine box_event ?hg (N := 2) ?hd (cs := #[.int .i64 a0_0, .slice A0_1 l0_1.length c0_1, .slice A0_2 l0_2.length c0_2]) (t := 31) ?hr ?_; (case hd => rfl); (case hg => rfl); (case hr => first | (go_simp; done) | (go_simp; rfl)); intro gb364 hg w9 hbox hb; have n0_ := ak (below_step (zB HB.out) hb); have n1_ := ak (hbox); have n2_ := ak ((by rw [hg]; exact (below_size (zB HB.out)) : w.heap.size ≤ gb364)); have n3_ := ak ((by rw [hg]; exact (below_size (zB HB.out)) : w.heap.size ≤ gb364)); clear HB; have HB := n0_; have BK364 := n1_; have GW364 := n2_; have GE364 := n3_; clear n0_ n1_ n2_ n3_; clear hb hbox hg) | ((with_reducible refine gate_dst (N := 3) rfl ?_); refine box_event ?hg (N := 3) ?hd (cs := #[.int .i64 a1]) (t := 2) ?hr ?_; (case hd => rfl); (case hg => rfl); (case hr => first | (go_simp; done) | (go_simp; rfl)); intro gb365 hg w10 hbox hb; have n0_ := ak (blk_below (g := gb364) (o := .cells #[.int .i64 a0_0, .slice A0_1 l0_1.length c0_1, .slice A0_2 l0_2.length c0_2] 31 (0, 0)) (zK BK364.out) hb); have n1_ := ak (below_step (zBG HB.out GE364.out) hb); have n2_ := ak (hbox); have n3_ := ak ((by rw [hg]; exact (below_size (zBG HB.out GE364.out)) : w.heap.size ≤ gb365)); have n4_ := ak ((by rw [hg]; exact (below_size (zBG HB.out GE364.out)) : w.heap.size ≤ gb365)); have n5_ := ak ((by rw [hg]; exact Nat.ne_of_lt (blk_lt (g := gb364) (o := .cells #[.int .i64 a0_0, .slice A0_1 l0_1.length c0_1, .slice A0_2 l0_2.length c0_2] 31 (0, 0)) (zK BK364.out)) : gb364 ≠ gb365)); have n6_ := ak ((by rw [hg]; exact Nat.ne_of_gt (blk_lt (g := gb364) (o := .cells #[.int .i64 a0_0, .slice A0_1 l0_1.length c0_1, .slice A0_2 l0_2.length c0_2] 31 (0, 0)) (zK BK364.out)) : gb365 ≠ gb364)); clear BK364 HB; have BK364 := n0_; have HB := n1_; have BK365 := n2_; have GW365 := n3_; have GE365 := n4_; have NB364_365 := n5_; have NB365_364 := n6_; clear n0_ n1_ n2_ n3_ n4_ n5_ n6_; clear hb hbox hg; have hnb11 := NB364_365.out; have hnc11 := NB365_364.out; have hcz12_0 : w10.cell? ⟨gb364, 0, none⟩ = some (.int .i64 a0_0) := (blk_cell BK364.out 0).trans rfl; have hcz12_1 : w10.cell? ⟨gb364, 1, none⟩ = some (.slice A0_1 l0_1.length c0_1) := (blk_cell BK364.out 1).trans rfl; have hcz12_2 : w10.cell? ⟨gb364, 2, none⟩ = some (.slice A0_2 l0_2.length c0_2) := (blk_cell BK364.out 2).trans rfl; have hfz12_0 := blk_frozen BK364.out 0; have hfz12_1 := blk_frozen BK364.out 1; have hfz12_2 := blk_frozen BK364.out 2) | ((with_reducible refine gate_callee (f := 14) rfl ?_); refine goesL_ (some 9) rfl rfl Try.func14 (by kernel_rfl) rfl #[.agg #[.int .i64 a0_0, .slice A0_1 l0_1.length c0_1, .slice A0_2 l0_2.length c0_2]] rfl (by (try simp only [List.map_toArray, List.map_cons, List.map_nil]); first | done | rfl | (simp only [List.length_drop, List.length_take]; rfl)) ?_; (with_reducible refine (impl_ValidLog.calls k a0_0 _ _ l0_1 _ _ l0_2 true _ ?side1 ?side2 ?side3 ?side4 A3.out).mono ?_); (case side1 => repeat (first | exact (Kd.C_below HR0_1.out HB.out) | (with_reducible refine Kd.C_alloc ?_ _) | (with_reducible refine Kd.C_drewN ?_ _) | (with_reducible refine Kd.C_drew ?_))); (case side2 => exact HC0_1.out); (case side3 => repeat (first | exact (Kd.C_below HR0_2.out HB.out) | (with_reducible refine Kd.C_alloc ?_ _) | (with_reducible refine Kd.C_drewN ?_ _) | (with_reducible refine Kd.C_drew ?_))); (case side4 => exact HC0_2.out); rintro e w13 ⟨rfl, hb⟩; refine ⟨_, rfl, ?_⟩; have n0_ := ak (blk_below (g := gb364) (o := .cells #[.int .i64 a0_0, .slice A0_1 l0_1.length c0_1, .slice A0_2 l0_2.length c0_2] 31 (0, 0)) (zK BK364.out) hb); have n1_ := ak (blk_below (g := gb365) (o := .cells #[.int .i64 a1] 2 (0, 0)) (zK BK365.out) hb); have n2_ := ak (below_step (by repeat (first | (with_reducible first | exact HB.out | apply below_alloc | apply pw_below_drewN | apply below_drew1 | refine below_set ?_ GE364.out | refine below_set ?_ GE365.out) | exact HB.out)) hb); clear BK364 BK365 HB; have BK364 := n0_; have BK365 := n1_; have HB := n2_; clear n0_ n1_ n2_; (try clear hb); (try clear hb2); (try clear hk); (try clear hi); have hcz14_0 : w13.cell? ⟨gb365, 0, none⟩ = some (.int .i64 a1) := (blk_cell BK365.out 0).trans rfl; have hfz14_0 := blk_frozen BK365.out 0; have hcz15_0 : w13.cell? ⟨gb364, 0, none⟩ = some (.int .i64 a0_0) := (blk_cell BK364.out 0).trans rfl; have hcz15_1 : w13.cell? ⟨gb364, 1, none⟩ = some (.slice A0_1 l0_1.length c0_1) := (blk_cell BK364.out 1).trans rfl; have hcz15_2 : w13.cell? ⟨gb364, 2, none⟩ = some (.slice A0_2 l0_2.length c0_2) := (blk_cell BK364.out 2).trans rfl; have hfz15_0 := blk_frozen BK364.out 0; have hfz15_1 := blk_frozen BK364.out 1; have hfz15_2 := blk_frozen BK364.out 2) | ((with_reducible refine gate_callee (f := 29) rfl ?_); refine goesL_ (some 16) rfl rfl Try.func29 (by kernel_rfl) rfl #[.int .i64 a1, .int .i64 0, .int .i64 (wrap64 (a0_0 - 1))] rfl (by (try simp only [List.map_toArray, List.map_cons, List.map_nil]); first | done | rfl | (simp only [List.length_drop, List.length_take]; rfl)) ?_; (with_reducible refine (impl_within.calls a1 0 (wrap64 (a0_0 - 1)) true _ A5.out).mono ?_); rintro e w' ⟨rfl, ⟨nd, rfl⟩⟩; refine ⟨_, rfl, ?_⟩) | ((with_reducible refine gate_callee (f := 39) rfl ?_); refine goesL_ (some 22) rfl rfl Try.func39 (by kernel_rfl) rfl #[.int .i64 (l0_1.length : Int), .func (.func 40) #[] #[.pointer (some ⟨gb364, 0, none⟩), .pointer (some ⟨gb365, 0, none⟩)]] rfl (by (try simp only [List.map_toArray, List.map_cons, List.map_nil]); first | done | rfl | (simp only [List.length_drop, List.length_take]; rfl)) ?_; (with_reducible refine (impl_indices_at_LastSeen_1.calls k (l0_1.length : Int) gb364 gb365 a0_0 A0_1 c0_1 l0_1 A0_2 c0_2 l0_2 a1 t368 _ ?side1 ?side2 ?side3 ?side4 ?side5 ?side6 A7.out).mono ?_); (case side1 => repeat (first | exact (Kd.C_below HR0_1.out (by repeat (first | (with_reducible first | exact HB.out | apply below_alloc | apply pw_below_drewN | apply below_drew1 | refine below_set ?_ GE364.out | refine below_set ?_ GE365.out) | exact HB.out))) | (with_reducible refine Kd.C_alloc ?_ _) | (with_reducible refine Kd.C_drewN ?_ _) | (with_reducible refine Kd.C_drew ?_))); (case side2 => exact HC0_1.out); (case side3 => repeat (first | exact (Kd.C_below HR0_2.out (by repeat (first | (with_reducible first | exact HB.out | apply below_alloc | apply pw_below_drewN | apply below_drew1 | refine below_set ?_ GE364.out | refine below_set ?_ GE365.out) | exact HB.out))) | (with_reducible refine Kd.C_alloc ?_ _) | (with_reducible refine Kd.C_drewN ?_ _) | (with_reducible refine Kd.C_drew ?_))); (case side4 => exact HC0_2.out); (case side5 => exact (by first | exact BK364.out | ((with_reducible repeat (first | refine blk_drewN ?_ _ | refine blk_drew ?_ | refine blk_alloc ?_ _)); exact BK364.out))); (case side6 => exact (by first | exact BK365.out | ((with_reducible repeat (first | refine blk_drewN ?_ _ | refine blk_drew ?_ | refine blk_alloc ?_ _)); exact BK365.out))); rintro e w16 ⟨v369, rfl, ho0, hb⟩; refine ⟨_, rfl, ?_⟩; have n0_ := ak (Kd.R_lower (Kd.R_newB ho0 (g := gb365) (o := .cells #[.int .i64 a1] 2 (0, 0)) (zK BK365.out)) (below_size (by repeat (first | (with_reducible first | exact HB.out | apply below_alloc | apply pw_below_drewN | apply below_drew1 | refine below_set ?_ GE364.out | refine below_set ?_ GE365.out) | exact HB.out)))); have n1_ := ak (blk_below (g := gb364) (o := .cells #[.int .i64 a0_0, .slice A0_1 l0_1.length c0_1, .slice A0_2 l0_2.length c0_2] 31 (0, 0)) (zK BK364.out) hb); have n2_ := ak (blk_below (g := gb365) (o := .cells #[.int .i64 a1] 2 (0, 0)) (zK BK365.out) hb); have n3_ := ak (below_step (by repeat (first | (with_reducible first | exact HB.out | apply below_alloc | apply pw_below_drewN | apply below_drew1 | refine below_set ?_ GE364.out | refine below_set ?_ GE365.out) | exact HB.out)) hb); clear BK364 BK365 HB; have HO370 := n0_; have BK364 := n1_; have BK365 := n2_; have HB := n3_; clear n0_ n1_ n2_ n3_; (try clear hb); (try clear hb2); (try clear hk); (try clear hi); (try clear ho0); obtain ⟨Ao17, co17, eo17⟩ := Kd.R_slice HO370.out; subst eo17))
 go_ret2
 exact ⟨by first | rfl | (simp [errW_none, errW_some] <;> rfl) | (simp [*, errW_none, errW_some] <;> rfl), by repeat (first | (with_reducible first | exact HB.out | apply below_alloc | apply pw_below_drewN | apply below_drew1 | refine below_set ?_ GE364.out | refine below_set ?_ GE365.out) | exact HB.out)⟩
 }
 {
 rw [if_neg c8] at H
 have c8b0 : ((t368.length : Int) == 0) = false := beq_eq_false_iff_ne.mpr c8
 have c8b1 : ((t368.length : Int) != 0) = true := bne_iff_ne.mpr c8
 have c8b2 : ¬ (t368 = []) := fun h_ => c8 (by rw [h_]; rfl)
 obtain ⟨ji18, hji18⟩ : ∃ j_ : Int, (wrap64 ((t368.length : Int) - 1)) = j_ := ⟨_, rfl⟩
 replace H : (if 0 ≤ (ji18) then (if (ji18) < (t368.length : Int) then (some (rd t368 (ji18), 0)) else (none)) else (none)) = some (r1, r2) := by first | (rw [hji18] at H; exact H) | (simp only [hji18] at H ⊢; exact H)
 (try rw [hji18] at A3)
 (try rw [hji18] at A5)
 (try rw [hji18] at A7)
 have hji18w : (IntKind.i64.wrap ((t368.length : Int) - 1)) = ji18 := (i64_w _).trans hji18
 by_cases c19 : 0 ≤ (ji18)
 {
 rw [if_pos c19] at H
 have c19b0 : decide (0 ≤ (ji18)) = true := decide_eq_true c19
 clear c19
 by_cases c20 : (ji18) < (t368.length : Int)
 {
 rw [if_pos c20] at H
 have c20b0 : decide ((ji18) < (t368.length : Int)) = true := decide_eq_true c20
 clear c20
 simp only [Option.some.injEq, Prod.mk.injEq] at H
 obtain ⟨rfl, rfl⟩ := H
 go_enter Try.func21, Try.ntmps21
 go_wp2_with (first | ((with_reducible refine gate_dst (N := 2) rfl ?_); refine box_event ?hg (N := 2) ?hd (cs := #[.int .i64 a0_0, .slice A0_1 l0_1.length c0_1, .slice A0_2 l0_2.length c0_2]) (t := 31) ?hr ?_; (case hd => rfl); (case hg => rfl); (case hr => first | (go_simp; done) | (go_simp; rfl)); intro gb364 hg w21 hbox hb; have n0_ := ak (below_step (zB HB.out) hb); have n1_ := ak (hbox); have n2_ := ak ((by rw [hg]; exact (below_size (zB HB.out)) : w.heap.size ≤ gb364)); have n3_ := ak ((by rw [hg]; exact (below_size (zB HB.out)) : w.heap.size ≤ gb364)); clear HB; have HB := n0_; have BK364 := n1_; have GW364 := n2_; have GE364 := n3_; clear n0_ n1_ n2_ n3_; clear hb hbox hg) | ((with_reducible refine gate_dst (N := 3) rfl ?_); refine box_event ?hg (N := 3) ?hd (cs := #[.int .i64 a1]) (t := 2) ?hr ?_; (case hd => rfl); (case hg => rfl); (case hr => first | (go_simp; done) | (go_simp; rfl)); intro gb365 hg w22 hbox hb; have n0_ := ak (blk_below (g := gb364) (o := .cells #[.int .i64 a0_0, .slice A0_1 l0_1.length c0_1, .slice A0_2 l0_2.length c0_2] 31 (0, 0)) (zK BK364.out) hb); have n1_ := ak (below_step (zBG HB.out GE364.out) hb); have n2_ := ak (hbox); have n3_ := ak ((by rw [hg]; exact (below_size (zBG HB.out GE364.out)) : w.heap.size ≤ gb365)); have n4_ := ak ((by rw [hg]; exact (below_size (zBG HB.out GE364.out)) : w.heap.size ≤ gb365)); have n5_ := ak ((by rw [hg]; exact Nat.ne_of_lt (blk_lt (g := gb364) (o := .cells #[.int .i64 a0_0, .slice A0_1 l0_1.length c0_1, .slice A0_2 l0_2.length c0_2] 31 (0, 0)) (zK BK364.out)) : gb364 ≠ gb365)); have n6_ := ak ((by rw [hg]; exact Nat.ne_of_gt (blk_lt (g := gb364) (o := .cells #[.int .i64 a0_0, .slice A0_1 l0_1.length c0_1, .slice A0_2 l0_2.length c0_2] 31 (0, 0)) (zK BK364.out)) : gb365 ≠ gb364)); clear BK364 HB; have BK364 := n0_; have HB := n1_; have BK365 := n2_; have GW365 := n3_; have GE365 := n4_; have NB364_365 := n5_; have NB365_364 := n6_; clear n0_ n1_ n2_ n3_ n4_ n5_ n6_; clear hb hbox hg; have hnb23 := NB364_365.out; have hnc23 := NB365_364.out; have hcz24_0 : w22.cell? ⟨gb364, 0, none⟩ = some (.int .i64 a0_0) := (blk_cell BK364.out 0).trans rfl; have hcz24_1 : w22.cell? ⟨gb364, 1, none⟩ = some (.slice A0_1 l0_1.length c0_1) := (blk_cell BK364.out 1).trans rfl; have hcz24_2 : w22.cell? ⟨gb364, 2, none⟩ = some (.slice A0_2 l0_2.length c0_2) := (blk_cell BK364.out 2).trans rfl; have hfz24_0 := blk_frozen BK364.out 0; have hfz24_1 := blk_frozen BK364.out 1; have hfz24_2 := blk_frozen BK364.out 2) | ((with_reducible refine gate_callee (f := 14) rfl ?_); refine goesL_ (some 9) rfl rfl Try.func14 (by kernel_rfl) rfl #[.agg #[.int .i64 a0_0, .slice A0_1 l0_1.length c0_1, .slice A0_2 l0_2.length c0_2]] rfl (by (try simp only [List.map_toArray, List.map_cons, List.map_nil]); first | done | rfl | (simp only [List.length_drop, List.length_take]; rfl)) ?_; (with_reducible refine (impl_ValidLog.calls k a0_0 _ _ l0_1 _ _ l0_2 true _ ?side1 ?side2 ?side3 ?side4 A3.out).mono ?_); (case side1 => repeat (first | exact (Kd.C_below HR0_1.out HB.out) | (with_reducible refine Kd.C_alloc ?_ _) | (with_reducible refine Kd.C_drewN ?_ _) | (with_reducible refine Kd.C_drew ?_))); (case side2 => exact HC0_1.out); (case side3 => repeat (first | exact (Kd.C_below HR0_2.out HB.out) | (with_reducible refine Kd.C_alloc ?_ _) | (with_reducible refine Kd.C_drewN ?_ _) | (with_reducible refine Kd.C_drew ?_))); (case side4 => exact HC0_2.out); rintro e w25 ⟨rfl, hb⟩; refine ⟨_, rfl, ?_⟩; have n0_ := ak (blk_below (g := gb364) (o := .cells #[.int .i64 a0_0, .slice A0_1 l0_1.length c0_1, .slice A0_2 l0_2.length c0_2] 31 (0, 0)) (zK BK364.out) hb); have n1_ := ak (blk_below (g := gb365) (o := .cells #[.int .i64 a1] 2 (0, 0)) (zK BK365.out) hb); have n2_ := ak (below_step (by repeat (first | (with_reducible first | exact HB.out | apply below_alloc | apply pw_below_drewN | apply below_drew1 | refine below_set ?_ GE364.out | refine below_set ?_ GE365.out) | exact HB.out)) hb); clear BK364 BK365 HB; have BK364 := n0_; have BK365 := n1_; have HB := n2_; clear n0_ n1_ n2_; (try clear hb); (try clear hb2); (try clear hk); (try clear hi); have hcz26_0 : w25.cell? ⟨gb365, 0, none⟩ = some (.int .i64 a1) := (blk_cell BK365.out 0).trans rfl; have hfz26_0 := blk_frozen BK365.out 0; have hcz27_0 : w25.cell? ⟨gb364, 0, none⟩ = some (.int .i64 a0_0) := (blk_cell BK364.out 0).trans rfl; have hcz27_1 : w25.cell? ⟨gb364, 1, none⟩ = some (.slice A0_1 l0_1.length c0_1) := (blk_cell BK364.out 1).trans rfl; have hcz27_2 : w25.cell? ⟨gb364, 2, none⟩ = some (.slice A0_2 l0_2.length c0_2) := (blk_cell BK364.out 2).trans rfl; have hfz27_0 := blk_frozen BK364.out 0; have hfz27_1 := blk_frozen BK364.out 1; have hfz27_2 := blk_frozen BK364.out 2) | ((with_reducible refine gate_callee (f := 29) rfl ?_); refine goesL_ (some 16) rfl rfl Try.func29 (by kernel_rfl) rfl #[.int .i64 a1, .int .i64 0, .int .i64 (wrap64 (a0_0 - 1))] rfl (by (try simp only [List.map_toArray, List.map_cons, List.map_nil]); first | done | rfl | (simp only [List.length_drop, List.length_take]; rfl)) ?_; (with_reducible refine (impl_within.calls a1 0 (wrap64 (a0_0 - 1)) true _ A5.out).mono ?_); rintro e w' ⟨rfl, ⟨nd, rfl⟩⟩; refine ⟨_, rfl, ?_⟩) | ((with_reducible refine gate_callee (f := 39) rfl ?_); refine goesL_ (some 22) rfl rfl Try.func39 (by kernel_rfl) rfl #[.int .i64 (l0_1.length : Int), .func (.func 40) #[] #[.pointer (some ⟨gb364, 0, none⟩), .pointer (some ⟨gb365, 0, none⟩)]] rfl (by (try simp only [List.map_toArray, List.map_cons, List.map_nil]); first | done | rfl | (simp only [List.length_drop, List.length_take]; rfl)) ?_; (with_reducible refine (impl_indices_at_LastSeen_1.calls k (l0_1.length : Int) gb364 gb365 a0_0 A0_1 c0_1 l0_1 A0_2 c0_2 l0_2 a1 t368 _ ?side1 ?side2 ?side3 ?side4 ?side5 ?side6 A7.out).mono ?_); (case side1 => repeat (first | exact (Kd.C_below HR0_1.out (by repeat (first | (with_reducible first | exact HB.out | apply below_alloc | apply pw_below_drewN | apply below_drew1 | refine below_set ?_ GE364.out | refine below_set ?_ GE365.out) | exact HB.out))) | (with_reducible refine Kd.C_alloc ?_ _) | (with_reducible refine Kd.C_drewN ?_ _) | (with_reducible refine Kd.C_drew ?_))); (case side2 => exact HC0_1.out); (case side3 => repeat (first | exact (Kd.C_below HR0_2.out (by repeat (first | (with_reducible first | exact HB.out | apply below_alloc | apply pw_below_drewN | apply below_drew1 | refine below_set ?_ GE364.out | refine below_set ?_ GE365.out) | exact HB.out))) | (with_reducible refine Kd.C_alloc ?_ _) | (with_reducible refine Kd.C_drewN ?_ _) | (with_reducible refine Kd.C_drew ?_))); (case side4 => exact HC0_2.out); (case side5 => exact (by first | exact BK364.out | ((with_reducible repeat (first | refine blk_drewN ?_ _ | refine blk_drew ?_ | refine blk_alloc ?_ _)); exact BK364.out))); (case side6 => exact (by first | exact BK365.out | ((with_reducible repeat (first | refine blk_drewN ?_ _ | refine blk_drew ?_ | refine blk_alloc ?_ _)); exact BK365.out))); rintro e w28 ⟨v369, rfl, ho0, hb⟩; refine ⟨_, rfl, ?_⟩; have n0_ := ak (Kd.R_lower (Kd.R_newB ho0 (g := gb365) (o := .cells #[.int .i64 a1] 2 (0, 0)) (zK BK365.out)) (below_size (by repeat (first | (with_reducible first | exact HB.out | apply below_alloc | apply pw_below_drewN | apply below_drew1 | refine below_set ?_ GE364.out | refine below_set ?_ GE365.out) | exact HB.out)))); have n1_ := ak (blk_below (g := gb364) (o := .cells #[.int .i64 a0_0, .slice A0_1 l0_1.length c0_1, .slice A0_2 l0_2.length c0_2] 31 (0, 0)) (zK BK364.out) hb); have n2_ := ak (blk_below (g := gb365) (o := .cells #[.int .i64 a1] 2 (0, 0)) (zK BK365.out) hb); have n3_ := ak (below_step (by repeat (first | (with_reducible first | exact HB.out | apply below_alloc | apply pw_below_drewN | apply below_drew1 | refine below_set ?_ GE364.out | refine below_set ?_ GE365.out) | exact HB.out)) hb); clear BK364 BK365 HB; have HO370 := n0_; have BK364 := n1_; have BK365 := n2_; have HB := n3_; clear n0_ n1_ n2_ n3_; (try clear hb); (try clear hb2); (try clear hk); (try clear hi); (try clear ho0); obtain ⟨Ao29, co29, eo29⟩ := Kd.R_slice HO370.out; subst eo29; have p371 : 0 ≤ ((ji18) : Int) := of_decide_eq_true (by first | (with_reducible assumption) | assumption); have q371 : (ji18) < (t368.length : Int) := of_decide_eq_true (by first | (with_reducible assumption) | assumption); obtain ⟨ad371, e371, hx371_0⟩ := Kd.at_int (Kd.R_reads' HO370.out).2.2 (ji18) p371 q371; cases e371; replace p371 := eq_true p371; replace q371 := eq_true q371))
 go_ret2
 exact ⟨by first | rfl | (simp [errW_none, errW_some] <;> rfl) | (simp only [← hji18]; first | rfl | (simp [errW_none, errW_some] <;> rfl)) | (simp [*, errW_none, errW_some] <;> rfl), by repeat (first | (with_reducible first | exact HB.out | apply below_alloc | apply pw_below_drewN | apply below_drew1 | refine below_set ?_ GE364.out | refine below_set ?_ GE365.out) | exact HB.out)⟩
 }
 · rw [if_neg c20] at H; exact absurd H (by simp)
 }
 · rw [if_neg c19] at H; exact absurd H (by simp)
 }
 }
 {
 replace c6 := Bool.eq_false_iff.mpr c6
 subst c6
 have H1 : (some (0, 2)) = some (r1, r2) := by rw [if_neg (show ¬ (false = true) by decide)] at H; exact H
 clear H
 have H := H1
 clear H1
 simp only [Option.some.injEq, Prod.mk.injEq] at H
 obtain ⟨rfl, rfl⟩ := H
 go_enter Try.func21, Try.ntmps21
 go_wp2_with (first | ((with_reducible refine gate_dst (N := 2) rfl ?_); refine box_event ?hg (N := 2) ?hd (cs := #[.int .i64 a0_0, .slice A0_1 l0_1.length c0_1, .slice A0_2 l0_2.length c0_2]) (t := 31) ?hr ?_; (case hd => rfl); (case hg => rfl); (case hr => first | (go_simp; done) | (go_simp; rfl)); intro gb364 hg w30 hbox hb; have n0_ := ak (below_step (zB HB.out) hb); have n1_ := ak (hbox); have n2_ := ak ((by rw [hg]; exact (below_size (zB HB.out)) : w.heap.size ≤ gb364)); have n3_ := ak ((by rw [hg]; exact (below_size (zB HB.out)) : w.heap.size ≤ gb364)); clear HB; have HB := n0_; have BK364 := n1_; have GW364 := n2_; have GE364 := n3_; clear n0_ n1_ n2_ n3_; clear hb hbox hg) | ((with_reducible refine gate_dst (N := 3) rfl ?_); refine box_event ?hg (N := 3) ?hd (cs := #[.int .i64 a1]) (t := 2) ?hr ?_; (case hd => rfl); (case hg => rfl); (case hr => first | (go_simp; done) | (go_simp; rfl)); intro gb365 hg w31 hbox hb; have n0_ := ak (blk_below (g := gb364) (o := .cells #[.int .i64 a0_0, .slice A0_1 l0_1.length c0_1, .slice A0_2 l0_2.length c0_2] 31 (0, 0)) (zK BK364.out) hb); have n1_ := ak (below_step (zBG HB.out GE364.out) hb); have n2_ := ak (hbox); have n3_ := ak ((by rw [hg]; exact (below_size (zBG HB.out GE364.out)) : w.heap.size ≤ gb365)); have n4_ := ak ((by rw [hg]; exact (below_size (zBG HB.out GE364.out)) : w.heap.size ≤ gb365)); have n5_ := ak ((by rw [hg]; exact Nat.ne_of_lt (blk_lt (g := gb364) (o := .cells #[.int .i64 a0_0, .slice A0_1 l0_1.length c0_1, .slice A0_2 l0_2.length c0_2] 31 (0, 0)) (zK BK364.out)) : gb364 ≠ gb365)); have n6_ := ak ((by rw [hg]; exact Nat.ne_of_gt (blk_lt (g := gb364) (o := .cells #[.int .i64 a0_0, .slice A0_1 l0_1.length c0_1, .slice A0_2 l0_2.length c0_2] 31 (0, 0)) (zK BK364.out)) : gb365 ≠ gb364)); clear BK364 HB; have BK364 := n0_; have HB := n1_; have BK365 := n2_; have GW365 := n3_; have GE365 := n4_; have NB364_365 := n5_; have NB365_364 := n6_; clear n0_ n1_ n2_ n3_ n4_ n5_ n6_; clear hb hbox hg; have hnb32 := NB364_365.out; have hnc32 := NB365_364.out; have hcz33_0 : w31.cell? ⟨gb364, 0, none⟩ = some (.int .i64 a0_0) := (blk_cell BK364.out 0).trans rfl; have hcz33_1 : w31.cell? ⟨gb364, 1, none⟩ = some (.slice A0_1 l0_1.length c0_1) := (blk_cell BK364.out 1).trans rfl; have hcz33_2 : w31.cell? ⟨gb364, 2, none⟩ = some (.slice A0_2 l0_2.length c0_2) := (blk_cell BK364.out 2).trans rfl; have hfz33_0 := blk_frozen BK364.out 0; have hfz33_1 := blk_frozen BK364.out 1; have hfz33_2 := blk_frozen BK364.out 2) | ((with_reducible refine gate_callee (f := 14) rfl ?_); refine goesL_ (some 9) rfl rfl Try.func14 (by kernel_rfl) rfl #[.agg #[.int .i64 a0_0, .slice A0_1 l0_1.length c0_1, .slice A0_2 l0_2.length c0_2]] rfl (by (try simp only [List.map_toArray, List.map_cons, List.map_nil]); first | done | rfl | (simp only [List.length_drop, List.length_take]; rfl)) ?_; (with_reducible refine (impl_ValidLog.calls k a0_0 _ _ l0_1 _ _ l0_2 true _ ?side1 ?side2 ?side3 ?side4 A3.out).mono ?_); (case side1 => repeat (first | exact (Kd.C_below HR0_1.out HB.out) | (with_reducible refine Kd.C_alloc ?_ _) | (with_reducible refine Kd.C_drewN ?_ _) | (with_reducible refine Kd.C_drew ?_))); (case side2 => exact HC0_1.out); (case side3 => repeat (first | exact (Kd.C_below HR0_2.out HB.out) | (with_reducible refine Kd.C_alloc ?_ _) | (with_reducible refine Kd.C_drewN ?_ _) | (with_reducible refine Kd.C_drew ?_))); (case side4 => exact HC0_2.out); rintro e w34 ⟨rfl, hb⟩; refine ⟨_, rfl, ?_⟩; have n0_ := ak (blk_below (g := gb364) (o := .cells #[.int .i64 a0_0, .slice A0_1 l0_1.length c0_1, .slice A0_2 l0_2.length c0_2] 31 (0, 0)) (zK BK364.out) hb); have n1_ := ak (blk_below (g := gb365) (o := .cells #[.int .i64 a1] 2 (0, 0)) (zK BK365.out) hb); have n2_ := ak (below_step (by repeat (first | (with_reducible first | exact HB.out | apply below_alloc | apply pw_below_drewN | apply below_drew1 | refine below_set ?_ GE364.out | refine below_set ?_ GE365.out) | exact HB.out)) hb); clear BK364 BK365 HB; have BK364 := n0_; have BK365 := n1_; have HB := n2_; clear n0_ n1_ n2_; (try clear hb); (try clear hb2); (try clear hk); (try clear hi); have hcz35_0 : w34.cell? ⟨gb365, 0, none⟩ = some (.int .i64 a1) := (blk_cell BK365.out 0).trans rfl; have hfz35_0 := blk_frozen BK365.out 0; have hcz36_0 : w34.cell? ⟨gb364, 0, none⟩ = some (.int .i64 a0_0) := (blk_cell BK364.out 0).trans rfl; have hcz36_1 : w34.cell? ⟨gb364, 1, none⟩ = some (.slice A0_1 l0_1.length c0_1) := (blk_cell BK364.out 1).trans rfl; have hcz36_2 : w34.cell? ⟨gb364, 2, none⟩ = some (.slice A0_2 l0_2.length c0_2) := (blk_cell BK364.out 2).trans rfl; have hfz36_0 := blk_frozen BK364.out 0; have hfz36_1 := blk_frozen BK364.out 1; have hfz36_2 := blk_frozen BK364.out 2) | ((with_reducible refine gate_callee (f := 29) rfl ?_); refine goesL_ (some 16) rfl rfl Try.func29 (by kernel_rfl) rfl #[.int .i64 a1, .int .i64 0, .int .i64 (wrap64 (a0_0 - 1))] rfl (by (try simp only [List.map_toArray, List.map_cons, List.map_nil]); first | done | rfl | (simp only [List.length_drop, List.length_take]; rfl)) ?_; (with_reducible refine (impl_within.calls a1 0 (wrap64 (a0_0 - 1)) false _ A5.out).mono ?_); rintro e w' ⟨rfl, ⟨nd, rfl⟩⟩; refine ⟨_, rfl, ?_⟩))
 go_ret2
 exact ⟨by first | rfl | (simp [errW_none, errW_some] <;> rfl) | (simp [*, errW_none, errW_some] <;> rfl), by repeat (first | (with_reducible first | exact HB.out | apply below_alloc | apply pw_below_drewN | apply below_drew1 | refine below_set ?_ GE364.out | refine below_set ?_ GE365.out) | exact HB.out)⟩
 }
 }
 {
 replace c4 := Bool.eq_false_iff.mpr c4
 subst c4
 have H1 : (some (0, 1)) = some (r1, r2) := by rw [if_neg (show ¬ (false = true) by decide)] at H; exact H
 clear H
 have H := H1
 clear H1
 simp only [Option.some.injEq, Prod.mk.injEq] at H
 obtain ⟨rfl, rfl⟩ := H
 go_enter Try.func21, Try.ntmps21
 go_wp2_with (first | ((with_reducible refine gate_dst (N := 2) rfl ?_); refine box_event ?hg (N := 2) ?hd (cs := #[.int .i64 a0_0, .slice A0_1 l0_1.length c0_1, .slice A0_2 l0_2.length c0_2]) (t := 31) ?hr ?_; (case hd => rfl); (case hg => rfl); (case hr => first | (go_simp; done) | (go_simp; rfl)); intro gb364 hg w37 hbox hb; have n0_ := ak (below_step (zB HB.out) hb); have n1_ := ak (hbox); have n2_ := ak ((by rw [hg]; exact (below_size (zB HB.out)) : w.heap.size ≤ gb364)); have n3_ := ak ((by rw [hg]; exact (below_size (zB HB.out)) : w.heap.size ≤ gb364)); clear HB; have HB := n0_; have BK364 := n1_; have GW364 := n2_; have GE364 := n3_; clear n0_ n1_ n2_ n3_; clear hb hbox hg) | ((with_reducible refine gate_dst (N := 3) rfl ?_); refine box_event ?hg (N := 3) ?hd (cs := #[.int .i64 a1]) (t := 2) ?hr ?_; (case hd => rfl); (case hg => rfl); (case hr => first | (go_simp; done) | (go_simp; rfl)); intro gb365 hg w38 hbox hb; have n0_ := ak (blk_below (g := gb364) (o := .cells #[.int .i64 a0_0, .slice A0_1 l0_1.length c0_1, .slice A0_2 l0_2.length c0_2] 31 (0, 0)) (zK BK364.out) hb); have n1_ := ak (below_step (zBG HB.out GE364.out) hb); have n2_ := ak (hbox); have n3_ := ak ((by rw [hg]; exact (below_size (zBG HB.out GE364.out)) : w.heap.size ≤ gb365)); have n4_ := ak ((by rw [hg]; exact (below_size (zBG HB.out GE364.out)) : w.heap.size ≤ gb365)); have n5_ := ak ((by rw [hg]; exact Nat.ne_of_lt (blk_lt (g := gb364) (o := .cells #[.int .i64 a0_0, .slice A0_1 l0_1.length c0_1, .slice A0_2 l0_2.length c0_2] 31 (0, 0)) (zK BK364.out)) : gb364 ≠ gb365)); have n6_ := ak ((by rw [hg]; exact Nat.ne_of_gt (blk_lt (g := gb364) (o := .cells #[.int .i64 a0_0, .slice A0_1 l0_1.length c0_1, .slice A0_2 l0_2.length c0_2] 31 (0, 0)) (zK BK364.out)) : gb365 ≠ gb364)); clear BK364 HB; have BK364 := n0_; have HB := n1_; have BK365 := n2_; have GW365 := n3_; have GE365 := n4_; have NB364_365 := n5_; have NB365_364 := n6_; clear n0_ n1_ n2_ n3_ n4_ n5_ n6_; clear hb hbox hg; have hnb39 := NB364_365.out; have hnc39 := NB365_364.out; have hcz40_0 : w38.cell? ⟨gb364, 0, none⟩ = some (.int .i64 a0_0) := (blk_cell BK364.out 0).trans rfl; have hcz40_1 : w38.cell? ⟨gb364, 1, none⟩ = some (.slice A0_1 l0_1.length c0_1) := (blk_cell BK364.out 1).trans rfl; have hcz40_2 : w38.cell? ⟨gb364, 2, none⟩ = some (.slice A0_2 l0_2.length c0_2) := (blk_cell BK364.out 2).trans rfl; have hfz40_0 := blk_frozen BK364.out 0; have hfz40_1 := blk_frozen BK364.out 1; have hfz40_2 := blk_frozen BK364.out 2) | ((with_reducible refine gate_callee (f := 14) rfl ?_); refine goesL_ (some 9) rfl rfl Try.func14 (by kernel_rfl) rfl #[.agg #[.int .i64 a0_0, .slice A0_1 l0_1.length c0_1, .slice A0_2 l0_2.length c0_2]] rfl (by (try simp only [List.map_toArray, List.map_cons, List.map_nil]); first | done | rfl | (simp only [List.length_drop, List.length_take]; rfl)) ?_; (with_reducible refine (impl_ValidLog.calls k a0_0 _ _ l0_1 _ _ l0_2 false _ ?side1 ?side2 ?side3 ?side4 A3.out).mono ?_); (case side1 => repeat (first | exact (Kd.C_below HR0_1.out HB.out) | (with_reducible refine Kd.C_alloc ?_ _) | (with_reducible refine Kd.C_drewN ?_ _) | (with_reducible refine Kd.C_drew ?_))); (case side2 => exact HC0_1.out); (case side3 => repeat (first | exact (Kd.C_below HR0_2.out HB.out) | (with_reducible refine Kd.C_alloc ?_ _) | (with_reducible refine Kd.C_drewN ?_ _) | (with_reducible refine Kd.C_drew ?_))); (case side4 => exact HC0_2.out); rintro e w41 ⟨rfl, hb⟩; refine ⟨_, rfl, ?_⟩; have n0_ := ak (blk_below (g := gb364) (o := .cells #[.int .i64 a0_0, .slice A0_1 l0_1.length c0_1, .slice A0_2 l0_2.length c0_2] 31 (0, 0)) (zK BK364.out) hb); have n1_ := ak (blk_below (g := gb365) (o := .cells #[.int .i64 a1] 2 (0, 0)) (zK BK365.out) hb); have n2_ := ak (below_step (by repeat (first | (with_reducible first | exact HB.out | apply below_alloc | apply pw_below_drewN | apply below_drew1 | refine below_set ?_ GE364.out | refine below_set ?_ GE365.out) | exact HB.out)) hb); clear BK364 BK365 HB; have BK364 := n0_; have BK365 := n1_; have HB := n2_; clear n0_ n1_ n2_; (try clear hb); (try clear hb2); (try clear hk); (try clear hi)))
 go_ret2
 exact ⟨by first | rfl | (simp [errW_none, errW_some] <;> rfl) | (simp [*, errW_none, errW_some] <;> rfl), by repeat (first | (with_reducible first | exact HB.out | apply below_alloc | apply pw_below_drewN | apply below_drew1 | refine below_set ?_ GE364.out | refine below_set ?_ GE365.out) | exact HB.out)⟩
 }
end Go.Proofs.Ytcjchobajjbhkaa.P
