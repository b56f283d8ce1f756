-- Printed by wip/print (my turned copy of the kit's print) out of the translation; Lean checks it.
import Derived.Test.YtgpilljegihblaaDoorP0
import Derived.Test.YtgpilljegihblaaDoorP1
import Derived.Test.YtgpilljegihblaaDoorP3
namespace Go.Proofs.YtgpilljegihblaaDoor.P
open Go.RowKit Go.Proofs.YtgpilljegihblaaDoorW.PrintWords Go.Proofs.YtgpilljegihblaaDoorW.PrintLast Go.Proofs.YtgpilljegihblaaDoorW.PrintMore
attribute [local go_sem] max2_int min2_int max_two min_two max_three min_three max_four min_four   -- for this text's walks alone
set_option linter.unusedVariables false
set_option linter.unusedSimpArgs false

/-! ### impl_isPerson: function 50 -/
def impl_isPerson.f (a0 : Int) : Option (Bool) := (impl_within.f a0 0 13).bind fun t231 => (some t231)
set_option maxHeartbeats 8000000 in
set_option maxRecDepth 100000 in
theorem impl_isPerson.calls (a0 : Int) (r : Bool) (w : World) (h : impl_isPerson.f a0 = some r) :
    Calls Tryd.prog 50 #[.int .i64 a0] w fun e w' => e = .returned (.bool r) ∧ Drawn0 w w' := by
 have H : ((impl_within.f a0 0 13).bind fun t231 => (some t231)) = some r := h
 clear h
 replace H := Option.bind_eq_some_iff.mp H
 obtain ⟨t231, A20, H⟩ := H
 replace H : (some t231) = some r := H
 have A2 := ak A20
 clear A20
 obtain rfl := Option.some.inj H
 go_enter Tryd.func50, Tryd.ntmps50
 go_wp2_with (first | ((with_reducible refine gate_callee (f := 32) rfl ?_); refine goesL_ (some 4) rfl rfl Tryd.func32 (by kernel_rfl) rfl #[.int .i64 a0, .int .i64 0, .int .i64 13] rfl (by (try simp only [List.map_toArray, List.map_cons, List.map_nil]); first | done | rfl | (simp only [List.length_drop, List.length_take]; rfl)) ?_; (with_reducible refine (impl_within.calls a0 0 13 t231 _ A2.out).mono ?_); rintro e w' ⟨rfl, ⟨nd, rfl⟩⟩; refine ⟨_, rfl, ?_⟩))
 go_ret
 exact ⟨by first | rfl | (simp; done) | (simp [*]; done), by repeat (first | exact Drawn0.refl _ | apply Drawn0.step)⟩
/-! ### impl_HasPerson: function 44 -/
def impl_HasPerson.f (a0 : Int) (a1 : Int) : Option (Bool) := (impl_isPerson.f a1).bind fun t232 => (if t232 = true then (if 0 ≤ a1 then (some ((Go.bits .and .u16 (shr .u16 a0 a1) 1) == 1)) else (none)) else (some false))
set_option maxHeartbeats 8000000 in
set_option maxRecDepth 100000 in
theorem impl_HasPerson.calls (a0 : Int) (a1 : Int) (r : Bool) (w : World) (h : impl_HasPerson.f a0 a1 = some r) :
    Calls Tryd.prog 44 #[.int .u16 a0, .int .i64 a1] w fun e w' => e = .returned (.bool r) ∧ Drawn0 w w' := by
 have H : ((impl_isPerson.f a1).bind fun t232 => (if t232 = true then (if 0 ≤ a1 then (some ((Go.bits .and .u16 (shr .u16 a0 a1) 1) == 1)) else (none)) else (some false))) = some r := h
 clear h
 replace H := Option.bind_eq_some_iff.mp H
 obtain ⟨t232, A30, H⟩ := H
 replace H : (if t232 = true then (if 0 ≤ a1 then (some ((Go.bits .and .u16 (shr .u16 a0 a1) 1) == 1)) else (none)) else (some false)) = some r := H
 have A3 := ak A30
 clear A30
 by_cases c4 : t232 = true
 {
 subst c4
 have H1 : (if 0 ≤ a1 then (some ((Go.bits .and .u16 (shr .u16 a0 a1) 1) == 1)) else (none)) = some r := by rw [if_pos rfl] at H; exact H
 clear H
 have H := H1
 clear H1
 by_cases c5 : 0 ≤ a1
 {
 rw [if_pos c5] at H
 have c5b0 := eq_true c5
 have c5b1 : decide (0 ≤ a1) = true := decide_eq_true c5
 clear c5
 obtain ⟨ji6, hji6⟩ : ∃ j_ : Int, (shr .u16 a0 a1) = j_ := ⟨_, rfl⟩
 replace H : (some ((Go.bits .and .u16 (ji6) 1) == 1)) = some r := by first | (rw [hji6] at H; exact H) | (simp only [hji6] at H ⊢; exact H)
 (try rw [hji6] at A3)
 have hji6_ : (a0 / 2 ^ min a1.toNat 16) = ji6 := hji6
 have hji6z : a1 ≤ 16 → (a0 / 2 ^ a1.toNat) = ji6 := shr_small hji6
 obtain rfl := Option.some.inj H
 go_enter Tryd.func44, Tryd.ntmps44
 go_wp2_with (first | ((with_reducible refine gate_callee (f := 50) rfl ?_); refine goesL_ (some 6) rfl rfl Tryd.func50 (by kernel_rfl) rfl #[.int .i64 a1] rfl (by (try simp only [List.map_toArray, List.map_cons, List.map_nil]); first | done | rfl | (simp only [List.length_drop, List.length_take]; rfl)) ?_; (with_reducible refine (impl_isPerson.calls a1 true _ A3.out).mono ?_); rintro e w' ⟨rfl, ⟨nd, rfl⟩⟩; refine ⟨_, rfl, ?_⟩))
 go_ret
 exact ⟨by first | rfl | (simp; done) | (simp only [← hji6] <;> (first | rfl | simp)) | (simp [*]; done), by repeat (first | exact Drawn0.refl _ | apply Drawn0.step)⟩
 }
 · rw [if_neg c5] at H; exact absurd H (by simp)
 }
 {
 replace c4 := Bool.eq_false_iff.mpr c4
 subst c4
 have H1 : (some false) = some r := by rw [if_neg (show ¬ (false = true) by decide)] at H; exact H
 clear H
 have H := H1
 clear H1
 obtain rfl := Option.some.inj H
 go_enter Tryd.func44, Tryd.ntmps44
 go_wp2_with (first | ((with_reducible refine gate_callee (f := 50) rfl ?_); refine goesL_ (some 6) rfl rfl Tryd.func50 (by kernel_rfl) rfl #[.int .i64 a1] rfl (by (try simp only [List.map_toArray, List.map_cons, List.map_nil]); first | done | rfl | (simp only [List.length_drop, List.length_take]; rfl)) ?_; (with_reducible refine (impl_isPerson.calls a1 false _ A3.out).mono ?_); rintro e w' ⟨rfl, ⟨nd, rfl⟩⟩; refine ⟨_, rfl, ?_⟩))
 go_ret
 exact ⟨by first | rfl | (simp; done) | (simp [*]; done), by repeat (first | exact Drawn0.refl _ | apply Drawn0.step)⟩
 }
/-! ### impl_ListPeople_1: function 43 -/
def impl_ListPeople_1.f (a0 : Int) (a1_0 : Int) : Option (Bool) := (impl_HasPerson.f a1_0 a0).bind fun t233 => (some t233)
set_option maxHeartbeats 8000000 in
set_option maxRecDepth 100000 in
theorem impl_ListPeople_1.calls (a0 : Int) (b1 : Nat) (a1_0 : Int) (r : Bool) (w : World) (hx1 : w.heap[b1]? = some (.cells #[.int .u16 a1_0] 60 (0, 0))) (h : impl_ListPeople_1.f a0 a1_0 = some r) :
    Calls Tryd.prog 43 #[.int .i64 a0, .pointer (some ⟨b1, 0, none⟩)] w fun e w' => e = .returned (.bool r) ∧ Drawn0 w w' := by
 have BK1 := ak hx1
 clear hx1
 have H : ((impl_HasPerson.f a1_0 a0).bind fun t233 => (some t233)) = some r := h
 clear h
 replace H := Option.bind_eq_some_iff.mp H
 obtain ⟨t233, A30, H⟩ := H
 replace H : (some t233) = some r := H
 have A3 := ak A30
 clear A30
 obtain rfl := Option.some.inj H
 have hcz4_0 : w.cell? ⟨b1, 0, none⟩ = some (.int .u16 a1_0) := (blk_cell BK1.out 0).trans rfl
 have hfz4_0 := blk_frozen BK1.out 0
 go_enter Tryd.func43, Tryd.ntmps43
 go_wp2_with (first | ((with_reducible refine gate_callee (f := 44) rfl ?_); refine goesL_ (some 6) rfl rfl Tryd.func44 (by kernel_rfl) rfl #[.int .u16 a1_0, .int .i64 a0] rfl (by (try simp only [List.map_toArray, List.map_cons, List.map_nil]); first | done | rfl | (simp only [List.length_drop, List.length_take]; rfl)) ?_; (with_reducible refine (impl_HasPerson.calls a1_0 a0 t233 _ A3.out).mono ?_); rintro e w' ⟨rfl, ⟨nd, rfl⟩⟩; refine ⟨_, rfl, ?_⟩))
 go_ret
 exact ⟨by first | rfl | (simp; done) | (simp [*]; done), by repeat (first | exact Drawn0.refl _ | apply Drawn0.step)⟩
/-! ### impl_indices_at_ListPeople_1: function 42 -/
def impl_indices_at_ListPeople_1.l0 : Nat → List Int → Int → Int → Int → Option (List Int)
  | 0, _, _, _, _ => none
  | k + 1, x5, x8, x9, x41000 => if x9 < x8 then ((impl_ListPeople_1.f x9 x41000).bind fun t237 => (if t237 = true then (if x5.length < 17592186044416 then (impl_indices_at_ListPeople_1.l0 k (x5 ++ [x9]) x8 (wrap64 (x9 + 1)) x41000) else (none)) else (impl_indices_at_ListPeople_1.l0 k x5 x8 (wrap64 (x9 + 1)) x41000))) else (some x5)
def impl_indices_at_ListPeople_1.f (k : Nat) (a0 : Int) (a40_0 : Int) : Option (List Int) := impl_indices_at_ListPeople_1.l0 k (([] : List Int)) a0 0 a40_0
theorem impl_indices_at_ListPeople_1.mono_l : ∀ k, (∀ y0 y1 y2 y3, LeO (impl_indices_at_ListPeople_1.l0 k y0 y1 y2 y3) (impl_indices_at_ListPeople_1.l0 (k + 1) y0 y1 y2 y3))
  | 0 => fun _ _ _ _ r h => by simp [impl_indices_at_ListPeople_1.l0] at h
  | k + 1 => by
    have ih0 := impl_indices_at_ListPeople_1.mono_l k
    · intro y0 y1 y2 y3
      unfold impl_indices_at_ListPeople_1.l0
      repeat' first
      | (with_reducible exact ih0 _ _ _ _)
      | (with_reducible exact LeO.refl _)
      | (with_reducible exact LeO.none _)
      | (with_reducible refine LeO.ite ?_ ?_)
      | (with_reducible refine LeO.bind ?_ (fun _ => ?_))
      | exact ih0 _ _ _ _
      | exact LeO.none _
      | refine LeO.ite ?_ ?_
      | refine LeO.bind ?_ (fun _ => ?_)
theorem impl_indices_at_ListPeople_1.mono : ∀ a0 a1 k, LeO (impl_indices_at_ListPeople_1.f k a0 a1) (impl_indices_at_ListPeople_1.f (k + 1) a0 a1) := by
  intro a0 a1 k
  have ih0 := impl_indices_at_ListPeople_1.mono_l k
  unfold impl_indices_at_ListPeople_1.f
  repeat' first
      | (with_reducible exact ih0 _ _ _ _)
      | (with_reducible exact LeO.refl _)
      | (with_reducible exact LeO.none _)
      | (with_reducible refine LeO.ite ?_ ?_)
      | (with_reducible refine LeO.bind ?_ (fun _ => ?_))
      | exact ih0 _ _ _ _
      | exact LeO.none _
      | refine LeO.ite ?_ ?_
      | refine LeO.bind ?_ (fun _ => ?_)
set_option maxHeartbeats 8000000 in
set_option maxRecDepth 100000 in
theorem impl_indices_at_ListPeople_1.calls (k : Nat) (a0 : Int) (b40 : Nat) (a40_0 : Int) (r : List Int) (w : World) (hx40 : w.heap[b40]? = some (.cells #[.int .u16 a40_0] 60 (0, 0))) (h : impl_indices_at_ListPeople_1.f k a0 a40_0 = some r) :
    Calls Tryd.prog 42 #[.int .i64 a0, .func (.func 43) #[] #[.pointer (some ⟨b40, 0, none⟩)]] w fun e w' => ∃ v0_ : Value, e = .returned (v0_) ∧ Kd.R (Kd.int .i64) 2 w' w.heap.size (fun _ => True) v0_ r ∧ Below w.heap.size w w' := by
 have BK40 := ak hx40
 clear hx40
 have HB := ak (Below.refl w.heap.size w)
 have H : (impl_indices_at_ListPeople_1.l0 k (([] : List Int)) a0 0 a40_0) = some r := h
 clear h
 obtain ⟨y234, hy234⟩ : ∃ y_ : List Int, y_ = (([] : List Int)) := ⟨_, rfl⟩
 replace H : (impl_indices_at_ListPeople_1.l0 k y234 a0 0 a40_0) = some r := by first | (rw [hy234]; with_reducible exact H) | (have H2_ := (Option.bind_some _ _).symm.trans H; rw [hy234]; with_reducible exact H2_) | (have H2_ := (Option.bind_some _ _).symm.trans H; with_reducible exact H2_) | with_reducible exact H | (rw [hy234]; exact H) | exact H
 have Ny234 := ak hy234
 clear hy234
 have H' := ak H
 clear H
 go_enter Tryd.func42, Tryd.ntmps42
 go_wp2_with (first | ((with_reducible refine gate_dst (N := 7) rfl ?_); refine Kd.R_lit (Kd.int .i64) _ 2 ?hg (N := 7) ?hd (xs := ([] : List Int)) (inner := []) (ok := fun _ => True) (okp := fun _ => True) ?hr ?hp (fun _ hk => hk) trivial (Below.refl _ _) (Nat.le_refl _) (by simp) ?_; (case hd => rfl); (case hg => rfl); (case hr => first | (go_simp; done) | (go_simp; rfl)); (case hp => exact (Reps.none _ _)); intro v235 w3 ho4 hb hg_ hnew_; clear hg_ hnew_; (first | rw [← Ny234.out] at ho4 | (simp only [Int.reduceToNat] at ho4; rw [← Ny234.out] at ho4)); have n0_ := ak (Kd.R_lower ho4 (below_size (zB HB.out))); have n1_ := ak (blk_below (g := b40) (o := .cells #[.int .u16 a40_0] 60 (0, 0)) (zK BK40.out) hb); have n2_ := ak (below_step (zB HB.out) hb); clear BK40 HB; have HO236 := n0_; have BK40 := n1_; have HB := n2_; clear n0_ n1_ n2_; clear hb ho4))
 go_loopg [5, 9] k (fun kq v5 v9 w' => ∃ (x5_1 : List Int) (x9_1 : Int), v9 = .int .i64 x9_1 ∧ Aside0 (impl_indices_at_ListPeople_1.l0 kq x5_1 a0 x9_1 a40_0 = some r) ∧ Aside0 (kq ≤ k) ∧ Aside0 (Kd.R (Kd.int .i64) 2 w' w.heap.size (fun _ => True) v5 x5_1) ∧ Aside0 (w'.heap[b40]? = some (.cells #[.int .u16 a40_0] 60 (0, 0))) ∧ Aside0 (Below w.heap.size w w'))
 case atStart => exact ⟨(y234), (0), (by first | rfl | (simp; done) | (simp [*]; done)), H', ⟨Nat.le_refl _⟩, ⟨by (with_reducible repeat (first | apply Kd.R_alloc | apply Kd.R_drewN | apply Kd.R_drew)); exact HO236.out⟩, ⟨by (with_reducible repeat (first | refine blk_drewN ?_ _ | refine blk_drew ?_ | refine blk_alloc ?_ _)); exact BK40.out⟩, ⟨by repeat (first | (with_reducible first | exact HB.out | apply below_alloc | apply pw_below_drewN | apply below_drew1 | refine below_set ?_ GE40.out) | exact HB.out)⟩⟩
 case round => (
 clear H'
 try clear p2
 try clear hx4
 obtain ⟨x5_1, x9_1, rfl, HA, HK1, HO_5, BK40, HB⟩ := hrel
 cases gk with
 | zero => exact absurd HA.out (by simp [impl_indices_at_ListPeople_1.l0])
 | succ k1 => (
 have H := HA.out
 clear HA
 simp only [impl_indices_at_ListPeople_1.l0] at H
 by_cases c5 : x9_1 < a0
 {
 rw [if_pos c5] at H
 have c5b0 : decide (x9_1 < a0) = true := decide_eq_true c5
 clear c5
 replace H := Option.bind_eq_some_iff.mp H
 obtain ⟨t237, A60, H⟩ := H
 replace H : (if t237 = true then (if x5_1.length < 17592186044416 then (impl_indices_at_ListPeople_1.l0 k1 (x5_1 ++ [x9_1]) a0 (wrap64 (x9_1 + 1)) a40_0) else (none)) else (impl_indices_at_ListPeople_1.l0 k1 x5_1 a0 (wrap64 (x9_1 + 1)) a40_0)) = some r := H
 have A6 := ak A60
 clear A60
 by_cases c7 : t237 = true
 {
 subst c7
 have H1 : (if x5_1.length < 17592186044416 then (impl_indices_at_ListPeople_1.l0 k1 (x5_1 ++ [x9_1]) a0 (wrap64 (x9_1 + 1)) a40_0) else (none)) = some r := by rw [if_pos rfl] at H; exact H
 clear H
 have H := H1
 clear H1
 by_cases c8 : x5_1.length < 17592186044416
 {
 rw [if_pos c8] at H
 have LMc8 := ak c8
 clear c8
 obtain ⟨y238, hy238⟩ : ∃ y_ : List Int, y_ = (x5_1 ++ [x9_1]) := ⟨_, rfl⟩
 replace H : (impl_indices_at_ListPeople_1.l0 k1 y238 a0 (wrap64 (x9_1 + 1)) a40_0) = some r := by first | (rw [hy238]; with_reducible exact H) | (have H2_ := (Option.bind_some _ _).symm.trans H; rw [hy238]; with_reducible exact H2_) | (have H2_ := (Option.bind_some _ _).symm.trans H; with_reducible exact H2_) | with_reducible exact H | (rw [hy238]; exact H) | exact H
 have Ny238 := ak hy238
 clear hy238
 have H' := ak H
 clear H
 go_wp2_with (first | ((with_reducible refine gate_tmpcall (t := 12) rfl ?_); refine goesF_ (some 14) rfl rfl Tryd.func43 (by kernel_rfl) rfl #[.pointer (some ⟨b40, 0, none⟩)] #[.int .i64 x9_1, .pointer (some ⟨b40, 0, none⟩)] rfl (by first | rfl | (go_simp; done) | (go_simp; rfl)) (by (try simp only [List.map_toArray, List.map_cons, List.map_nil]); first | done | rfl | (simp only [List.length_drop, List.length_take]; rfl) | (go_simp; done)) ?_; (with_reducible refine (impl_ListPeople_1.calls x9_1 b40 a40_0 true _ ?side1 A6.out).mono ?_); (case side1 => exact (by first | exact BK40.out | ((with_reducible repeat (first | refine blk_drewN ?_ _ | refine blk_drew ?_ | refine blk_alloc ?_ _)); exact BK40.out))); rintro e w' ⟨rfl, ⟨nd, rfl⟩⟩; refine ⟨_, rfl, ?_⟩) | ((with_reducible refine gate_builtin (b := .append) (xs := #[.tmp 15, .tmp 17]) rfl ?_); at_builtin; refine Kd.R_append (Kd.int .i64) (w0 := w) w.heap.size rfl (.tmp 15) (.tmp 17) 61 2 (.int .i64 0) 8 rfl Tryd.underlying61 info2 rfl (by decide) (by omega) u5 x5_1 x9_1 [.int .i64 x9_1] (fun _ => True) (fun _ => False) rfl rfl ?aP (fun _ hk => hk.elim) ?aF ?aO ?aB ?aS ?aL ?_; (case aP => exact rfl); (case aB => exact (zB HB.out)); (case aF => exact (fun _ _ => trivial)); (case aO => exact (zR HO_5.out)); (case aS => exact (below_size (zB HB.out))); (case aL => have := LMc8.out; omega); intro v239 w9 ho hb hg hat; rw [← Ny238.out] at ho; have n0_ := ak (blk_grown (g := b40) (o := .cells #[.int .u16 a40_0] 60 (0, 0)) (zK BK40.out) hg (Kd.R_ne HO_5.out BK40.out (by decide))); have n1_ := ak (hb); have n2_ := ak (ho); clear BK40 HB HO_5; have BK40 := n0_; have HB := n1_; have HO240 := n2_; clear n0_ n1_ n2_; clear ho hb hg hat))
 go_roundg k1
 case measure => have := HK1.out; omega
 case rel => exact ⟨(y238), (wrap64 (x9_1 + 1)), (by first | rfl | (simp; done) | (simp [*]; done)), H', ⟨by have := HK1.out; omega⟩, ⟨by (with_reducible repeat (first | apply Kd.R_alloc | apply Kd.R_drewN | apply Kd.R_drew)); exact HO240.out⟩, ⟨by (with_reducible repeat (first | refine blk_drewN ?_ _ | refine blk_drew ?_ | refine blk_alloc ?_ _)); exact BK40.out⟩, ⟨by repeat (first | (with_reducible first | exact HB.out | apply below_alloc | apply pw_below_drewN | apply below_drew1 | refine below_set ?_ GE40.out) | exact HB.out)⟩⟩
 }
 · rw [if_neg c8] at H; exact absurd H (by simp)
 }
 {
 replace c7 := Bool.eq_false_iff.mpr c7
 subst c7
 have H1 : (impl_indices_at_ListPeople_1.l0 k1 x5_1 a0 (wrap64 (x9_1 + 1)) a40_0) = some r := by rw [if_neg (show ¬ (false = true) by decide)] at H; exact H
 clear H
 have H := H1
 clear H1
 have H' := ak H
 clear H
 go_wp2_with (first | ((with_reducible refine gate_tmpcall (t := 12) rfl ?_); refine goesF_ (some 14) rfl rfl Tryd.func43 (by kernel_rfl) rfl #[.pointer (some ⟨b40, 0, none⟩)] #[.int .i64 x9_1, .pointer (some ⟨b40, 0, none⟩)] rfl (by first | rfl | (go_simp; done) | (go_simp; rfl)) (by (try simp only [List.map_toArray, List.map_cons, List.map_nil]); first | done | rfl | (simp only [List.length_drop, List.length_take]; rfl) | (go_simp; done)) ?_; (with_reducible refine (impl_ListPeople_1.calls x9_1 b40 a40_0 false _ ?side1 A6.out).mono ?_); (case side1 => exact (by first | exact BK40.out | ((with_reducible repeat (first | refine blk_drewN ?_ _ | refine blk_drew ?_ | refine blk_alloc ?_ _)); exact BK40.out))); rintro e w' ⟨rfl, ⟨nd, rfl⟩⟩; refine ⟨_, rfl, ?_⟩))
 go_roundg k1
 case measure => have := HK1.out; omega
 case rel => exact ⟨(x5_1), (wrap64 (x9_1 + 1)), (by first | rfl | (simp; done) | (simp [*]; done)), H', ⟨by have := HK1.out; omega⟩, ⟨by (with_reducible repeat (first | apply Kd.R_alloc | apply Kd.R_drewN | apply Kd.R_drew)); exact HO_5.out⟩, ⟨by (with_reducible repeat (first | refine blk_drewN ?_ _ | refine blk_drew ?_ | refine blk_alloc ?_ _)); exact BK40.out⟩, ⟨by repeat (first | (with_reducible first | exact HB.out | apply below_alloc | apply pw_below_drewN | apply below_drew1 | refine below_set ?_ GE40.out) | exact HB.out)⟩⟩
 }
 }
 {
 rw [if_neg c5] at H
 have c5b0 : decide (x9_1 < a0) = false := decide_eq_false c5
 clear c5
 obtain rfl := Option.some.inj H
 go_wp2
 go_ret
 exact ⟨_, by first | rfl | (simp [errW_none, errW_some] <;> rfl) | (simp [*, errW_none, errW_some] <;> rfl), by (with_reducible repeat (first | apply Kd.R_alloc | apply Kd.R_drewN | apply Kd.R_drew)); exact HO_5.out, by repeat (first | (with_reducible first | exact HB.out | apply below_alloc | apply pw_below_drewN | apply below_drew1 | refine below_set ?_ GE40.out) | exact HB.out)⟩
 }
 )
 )
/-! ### impl_ListPeople: function 28 -/
def impl_ListPeople.f (k : Nat) (a0 : Int) : Option (List Int) := (impl_indices_at_ListPeople_1.f k 14 a0).bind fun t242 => (some t242)
theorem impl_ListPeople.mono : ∀ a0 k, LeO (impl_ListPeople.f k a0) (impl_ListPeople.f (k + 1) a0) := by
  intro a0 k
  unfold impl_ListPeople.f
  repeat' first
      | (with_reducible exact impl_indices_at_ListPeople_1.mono _ _ _)
      | (with_reducible exact LeO.refl _)
      | (with_reducible exact LeO.none _)
      | (with_reducible refine LeO.ite ?_ ?_)
      | (with_reducible refine LeO.bind ?_ (fun _ => ?_))
      | exact impl_indices_at_ListPeople_1.mono _ _ _
      | exact LeO.none _
      | refine LeO.ite ?_ ?_
      | refine LeO.bind ?_ (fun _ => ?_)
set_option maxHeartbeats 8000000 in
set_option maxRecDepth 100000 in
theorem impl_ListPeople.calls (k : Nat) (a0 : Int) (r : List Int) (w : World) (h : impl_ListPeople.f k a0 = some r) :
    Calls Tryd.prog 28 #[.int .u16 a0] w fun e w' => ∃ v0_ : Value, e = .returned (v0_) ∧ Kd.R (Kd.int .i64) 2 w' w.heap.size (fun _ => True) v0_ r ∧ Below w.heap.size w w' := by
 have HB := ak (Below.refl w.heap.size w)
 have H : ((impl_indices_at_ListPeople_1.f k 14 a0).bind fun t242 => (some t242)) = some r := h
 clear h
 replace H := Option.bind_eq_some_iff.mp H
 obtain ⟨t242, A20, H⟩ := H
 replace H : (some t242) = some r := H
 have A2 := ak A20
 clear A20
 obtain rfl := Option.some.inj H
 go_enter Tryd.func28, Tryd.ntmps28
 go_wp2_with (first | ((with_reducible refine gate_dst (N := 1) rfl ?_); refine box_event ?hg (N := 1) ?hd (cs := #[.int .u16 a0]) (t := 60) ?hr ?_; (case hd => rfl); (case hg => rfl); (case hr => first | (go_simp; done) | (go_simp; rfl)); intro gb241 hg w3 hbox hb; have n0_ := ak (below_step (zB HB.out) hb); have n1_ := ak (hbox); have n2_ := ak ((by rw [hg]; exact (below_size (zB HB.out)) : w.heap.size ≤ gb241)); have n3_ := ak ((by rw [hg]; exact (below_size (zB HB.out)) : w.heap.size ≤ gb241)); clear HB; have HB := n0_; have BK241 := n1_; have GW241 := n2_; have GE241 := n3_; clear n0_ n1_ n2_ n3_; clear hb hbox hg) | ((with_reducible refine gate_callee (f := 42) rfl ?_); refine goesL_ (some 4) rfl rfl Tryd.func42 (by kernel_rfl) rfl #[.int .i64 14, .func (.func 43) #[] #[.pointer (some ⟨gb241, 0, none⟩)]] rfl (by (try simp only [List.map_toArray, List.map_cons, List.map_nil]); first | done | rfl | (simp only [List.length_drop, List.length_take]; rfl)) ?_; (with_reducible refine (impl_indices_at_ListPeople_1.calls k 14 gb241 a0 t242 _ ?side1 A2.out).mono ?_); (case side1 => exact (by first | exact BK241.out | ((with_reducible repeat (first | refine blk_drewN ?_ _ | refine blk_drew ?_ | refine blk_alloc ?_ _)); exact BK241.out))); rintro e w4 ⟨v243, rfl, ho0, hb⟩; refine ⟨_, rfl, ?_⟩; have n0_ := ak (Kd.R_lower ho0 (below_size (zBG HB.out GE241.out))); have n1_ := ak (blk_below (g := gb241) (o := .cells #[.int .u16 a0] 60 (0, 0)) (zK BK241.out) hb); have n2_ := ak (below_step (zBG HB.out GE241.out) hb); clear BK241 HB; have HO244 := n0_; have BK241 := n1_; have HB := n2_; clear n0_ n1_ n2_; (try clear hb); (try clear hb2); (try clear hk); (try clear hi); (try clear ho0)))
 go_ret
 exact ⟨_, by first | rfl | (simp [errW_none, errW_some] <;> rfl) | (simp [*, errW_none, errW_some] <;> rfl), by (with_reducible repeat (first | apply Kd.R_alloc | apply Kd.R_drewN | apply Kd.R_drew)); exact HO244.out, by repeat (first | (with_reducible first | exact HB.out | apply below_alloc | apply pw_below_drewN | apply below_drew1 | refine below_set ?_ GE241.out) | exact HB.out)⟩
/-! ### impl_LogText: function 13 -/
mutual
def impl_LogText.l0 : Nat → ByteArray → List Int → Int → Int → Int → List Int → List Int → Option (ByteArray)
  | 0, _, _, _, _, _, _, _ => none
  | k + 1, x3, x17, x18, x19, x246000, x246001, x246002 => if x19 < x18 then (if 0 ≤ x19 then (if x19 < (x17.length : Int) then ((impl_ListPeople.f k (rd x17 x19)).bind fun t252 => (impl_LogText.l1 k x3 x19 (([] : List ByteArray)) x17 x18 x19 t252 (t252.length : Int) 0 x246000 x246001 x246002)) else (none)) else (none)) else (some x3)
def impl_LogText.l1 : Nat → ByteArray → Int → List ByteArray → List Int → Int → Int → List Int → Int → Int → Int → List Int → List Int → Option (ByteArray)
  | 0, _, _, _, _, _, _, _, _, _, _, _, _ => none
  | k + 1, x3, x4, x6, x17, x18, x19, x26, x27, x28, x246000, x246001, x246002 => if x28 < x27 then (if 0 ≤ x28 then (if x28 < (x26.length : Int) then ((impl_decimal.f (rd x26 x28)).bind fun t256 => (if x6.length < 8796093022208 then (impl_LogText.l1 k x3 x4 (x6 ++ [t256]) x17 x18 x19 x26 x27 (wrap64 (x28 + 1)) x246000 x246001 x246002) else (none))) else (none)) else (none)) else (if 0 ≤ x4 then (if x4 < (x246002.length : Int) then ((impl_decimal.f (wrap64 (rd x246002 x4))).bind fun t261 => (if 1 + t261.size ≤ 9223372036854775807 then (if 1 + t261.size + 1 ≤ 9223372036854775807 then ((strings_Join.f x6 (⟨#[44]⟩ : ByteArray)).bind fun t262 => (if 1 + t261.size + 1 + t262.size ≤ 9223372036854775807 then (if x3.size + 1 + t261.size + 1 + t262.size ≤ 9223372036854775807 then (impl_LogText.l0 k (x3 ++ ((((⟨#[32]⟩ : ByteArray) ++ t261) ++ (⟨#[47]⟩ : ByteArray)) ++ t262)) x17 x18 (wrap64 (x19 + 1)) x246000 x246001 x246002) else (none)) else (none))) else (none)) else (none))) else (none)) else (none))
end
def impl_LogText.f (k : Nat) (a0_0 : Int) (l0_1 : List Int) (l0_2 : List Int)  : Option (ByteArray) := (impl_ValidLog.f k a0_0 l0_1 l0_2).bind fun t246 => (if t246 = true then ((impl_decimal.f a0_0).bind fun t247 => (if t247.size + 1 ≤ 9223372036854775807 then (impl_LogText.l0 k (t247 ++ (⟨#[58]⟩ : ByteArray)) l0_1 (l0_1.length : Int) 0 a0_0 l0_1 l0_2) else (none))) else (some (⟨#[]⟩ : ByteArray)))
theorem impl_LogText.mono_l : ∀ k, (∀ y0 y1 y2 y3 y4 y5 y6, LeO (impl_LogText.l0 k y0 y1 y2 y3 y4 y5 y6) (impl_LogText.l0 (k + 1) y0 y1 y2 y3 y4 y5 y6)) ∧ (∀ y0 y1 y2 y3 y4 y5 y6 y7 y8 y9 y10 y11, LeO (impl_LogText.l1 k y0 y1 y2 y3 y4 y5 y6 y7 y8 y9 y10 y11) (impl_LogText.l1 (k + 1) y0 y1 y2 y3 y4 y5 y6 y7 y8 y9 y10 y11))
  | 0 => ⟨fun _ _ _ _ _ _ _ r h => by simp [impl_LogText.l0] at h, fun _ _ _ _ _ _ _ _ _ _ _ _ r h => by simp [impl_LogText.l1] at h⟩
  | k + 1 => by
    obtain ⟨ih0, ih1⟩ := impl_LogText.mono_l k
    refine ⟨?_, ?_⟩
    · intro y0 y1 y2 y3 y4 y5 y6
      unfold impl_LogText.l0
      repeat' first
      | (with_reducible exact ih0 _ _ _ _ _ _ _)
      | (with_reducible exact ih1 _ _ _ _ _ _ _ _ _ _ _ _)
      | (with_reducible exact impl_ListPeople.mono _ _)
      | (with_reducible exact impl_ValidLog.mono _ _ _ _)
      | (with_reducible exact LeO.refl _)
      | (with_reducible exact LeO.none _)
      | (with_reducible refine LeO.ite ?_ ?_)
      | (with_reducible refine LeO.bind ?_ (fun _ => ?_))
      | exact ih0 _ _ _ _ _ _ _
      | exact ih1 _ _ _ _ _ _ _ _ _ _ _ _
      | exact impl_ListPeople.mono _ _
      | exact impl_ValidLog.mono _ _ _ _
      | exact LeO.none _
      | refine LeO.ite ?_ ?_
      | refine LeO.bind ?_ (fun _ => ?_)
    · intro y0 y1 y2 y3 y4 y5 y6 y7 y8 y9 y10 y11
      unfold impl_LogText.l1
      repeat' first
      | (with_reducible exact ih0 _ _ _ _ _ _ _)
      | (with_reducible exact ih1 _ _ _ _ _ _ _ _ _ _ _ _)
      | (with_reducible exact impl_ListPeople.mono _ _)
      | (with_reducible exact impl_ValidLog.mono _ _ _ _)
      | (with_reducible exact LeO.refl _)
      | (with_reducible exact LeO.none _)
      | (with_reducible refine LeO.ite ?_ ?_)
      | (with_reducible refine LeO.bind ?_ (fun _ => ?_))
      | exact ih0 _ _ _ _ _ _ _
      | exact ih1 _ _ _ _ _ _ _ _ _ _ _ _
      | exact impl_ListPeople.mono _ _
      | exact impl_ValidLog.mono _ _ _ _
      | exact LeO.none _
      | refine LeO.ite ?_ ?_
      | refine LeO.bind ?_ (fun _ => ?_)
theorem impl_LogText.mono : ∀ a0 a1 a2 k, LeO (impl_LogText.f k a0 a1 a2) (impl_LogText.f (k + 1) a0 a1 a2) := by
  intro a0 a1 a2 k
  obtain ⟨ih0, ih1⟩ := impl_LogText.mono_l k
  unfold impl_LogText.f
  repeat' first
      | (with_reducible exact ih0 _ _ _ _ _ _ _)
      | (with_reducible exact ih1 _ _ _ _ _ _ _ _ _ _ _ _)
      | (with_reducible exact impl_ListPeople.mono _ _)
      | (with_reducible exact impl_ValidLog.mono _ _ _ _)
      | (with_reducible exact LeO.refl _)
      | (with_reducible exact LeO.none _)
      | (with_reducible refine LeO.ite ?_ ?_)
      | (with_reducible refine LeO.bind ?_ (fun _ => ?_))
      | exact ih0 _ _ _ _ _ _ _
      | exact ih1 _ _ _ _ _ _ _ _ _ _ _ _
      | exact impl_ListPeople.mono _ _
      | exact impl_ValidLog.mono _ _ _ _
      | exact LeO.none _
      | refine LeO.ite ?_ ?_
      | refine LeO.bind ?_ (fun _ => ?_)
set_option maxHeartbeats 8000000 in
set_option maxRecDepth 100000 in
theorem impl_LogText.calls (k : Nat) (a0_0 : Int) (A0_1 : Option Addr) (c0_1 : Nat) (l0_1 : List Int) (A0_2 : Option Addr) (c0_2 : Nat) (l0_2 : List Int)  (r : ByteArray) (w : World) (hr0_1 : Kd.C (Kd.int .u16) w A0_1 l0_1.length l0_1) (hc0_1 : l0_1.length ≤ c0_1) (hr0_2 : Kd.C (Kd.int .i16) w A0_2 l0_2.length l0_2) (hc0_2 : l0_2.length ≤ c0_2) (hgt : Go.Proofs.YtgpilljegihblaaDoor.H.Tab10 w) (h : impl_LogText.f k a0_0 l0_1 l0_2 = some r) :
    Calls Tryd.prog 13 #[.agg #[.int .i64 a0_0, .slice A0_1 l0_1.length c0_1, .slice A0_2 l0_2.length c0_2]] w fun e w' => e = .returned (.string r) ∧ Below w.heap.size w w' := by
 have hu39 := Tryd.underlying39
 have HR0_1 := ak hr0_1
 have HC0_1 := ak hc0_1
 clear hr0_1 hc0_1
 have HR0_2 := ak hr0_2
 have HC0_2 := ak hc0_2
 clear hr0_2 hc0_2
 have HGT := ak hgt
 clear hgt
 have HB := ak (Below.refl w.heap.size w)
 have H : ((impl_ValidLog.f k a0_0 l0_1 l0_2).bind fun t246 => (if t246 = true then ((impl_decimal.f a0_0).bind fun t247 => (if t247.size + 1 ≤ 9223372036854775807 then (impl_LogText.l0 k (t247 ++ (⟨#[58]⟩ : ByteArray)) l0_1 (l0_1.length : Int) 0 a0_0 l0_1 l0_2) else (none))) else (some (⟨#[]⟩ : ByteArray)))) = some r := h
 clear h
 replace H := Option.bind_eq_some_iff.mp H
 obtain ⟨t246, A30, H⟩ := H
 replace H : (if t246 = true then ((impl_decimal.f a0_0).bind fun t247 => (if t247.size + 1 ≤ 9223372036854775807 then (impl_LogText.l0 k (t247 ++ (⟨#[58]⟩ : ByteArray)) l0_1 (l0_1.length : Int) 0 a0_0 l0_1 l0_2) else (none))) else (some (⟨#[]⟩ : ByteArray))) = some r := H
 have A3 := ak A30
 clear A30
 by_cases c4 : t246 = true
 {
 subst c4
 have H1 : ((impl_decimal.f a0_0).bind fun t247 => (if t247.size + 1 ≤ 9223372036854775807 then (impl_LogText.l0 k (t247 ++ (⟨#[58]⟩ : ByteArray)) l0_1 (l0_1.length : Int) 0 a0_0 l0_1 l0_2) else (none))) = some r := by rw [if_pos rfl] at H; exact H
 clear H
 have H := H1
 clear H1
 replace H := Option.bind_eq_some_iff.mp H
 obtain ⟨t247, A50, H⟩ := H
 replace H : (if t247.size + 1 ≤ 9223372036854775807 then (impl_LogText.l0 k (t247 ++ (⟨#[58]⟩ : ByteArray)) l0_1 (l0_1.length : Int) 0 a0_0 l0_1 l0_2) else (none)) = some r := H
 have A5 := ak A50
 clear A50
 by_cases c6 : t247.size + 1 ≤ 9223372036854775807
 {
 rw [if_pos c6] at H
 have c6b0 := eq_true c6
 have c6b1 : decide (t247.size + 1 ≤ 9223372036854775807) = true := decide_eq_true c6
 try have c6b2 : (9223372036854775807 < t247.size + 1) = False := eq_false (Nat.not_lt.2 c6)
 have H' := ak H
 clear H
 go_enter Tryd.func13, Tryd.ntmps13
 go_wp2_with (first | ((with_reducible refine gate_dst (N := 1) rfl ?_); refine box_event ?hg (N := 1) ?hd (cs := #[.int .i64 a0_0, .slice A0_1 l0_1.length c0_1, .slice A0_2 l0_2.length c0_2]) (t := 39) ?hr ?_; (case hd => rfl); (case hg => rfl); (case hr => first | (go_simp; done) | (go_simp; rfl)); intro gb245 hg w7 hbox hb; have n0_ := ak (below_step (zB HB.out) hb); have n1_ := ak (hbox); have n2_ := ak ((by rw [hg]; exact (below_size (zB HB.out)) : w.heap.size ≤ gb245)); have n3_ := ak ((by rw [hg]; exact (below_size (zB HB.out)) : w.heap.size ≤ gb245)); clear HB; have HB := n0_; have BK245 := n1_; have GW245 := n2_; have GE245 := n3_; clear n0_ n1_ n2_ n3_; clear hb hbox hg; have hcz8_0 : w7.cell? ⟨gb245, 0, none⟩ = some (.int .i64 a0_0) := (blk_cell BK245.out 0).trans rfl; have hcz8_1 : w7.cell? ⟨gb245, 1, none⟩ = some (.slice A0_1 l0_1.length c0_1) := (blk_cell BK245.out 1).trans rfl; have hcz8_2 : w7.cell? ⟨gb245, 2, none⟩ = some (.slice A0_2 l0_2.length c0_2) := (blk_cell BK245.out 2).trans rfl; have hfz8_0 := blk_frozen BK245.out 0; have hfz8_1 := blk_frozen BK245.out 1; have hfz8_2 := blk_frozen BK245.out 2) | ((with_reducible refine gate_callee (f := 27) rfl ?_); refine goesL_ (some 10) rfl rfl Tryd.func27 (by kernel_rfl) rfl #[.agg #[.int .i64 a0_0, .slice A0_1 l0_1.length c0_1, .slice A0_2 l0_2.length c0_2]] rfl (by (try simp only [List.map_toArray, List.map_cons, List.map_nil]); first | done | rfl | (simp only [List.length_drop, List.length_take]; rfl)) ?_; (with_reducible refine (impl_ValidLog.calls k a0_0 _ _ l0_1 _ _ l0_2 true _ ?side1 ?side2 ?side3 ?side4 A3.out).mono ?_); (case side1 => repeat (first | exact (Kd.C_below HR0_1.out HB.out) | (with_reducible refine Kd.C_alloc ?_ _) | (with_reducible refine Kd.C_drewN ?_ _) | (with_reducible refine Kd.C_drew ?_))); (case side2 => exact HC0_1.out); (case side3 => repeat (first | exact (Kd.C_below HR0_2.out HB.out) | (with_reducible refine Kd.C_alloc ?_ _) | (with_reducible refine Kd.C_drewN ?_ _) | (with_reducible refine Kd.C_drew ?_))); (case side4 => exact HC0_2.out); rintro e w9 ⟨rfl, hb⟩; refine ⟨_, rfl, ?_⟩; have n0_ := ak (blk_below (g := gb245) (o := .cells #[.int .i64 a0_0, .slice A0_1 l0_1.length c0_1, .slice A0_2 l0_2.length c0_2] 39 (0, 0)) (zK BK245.out) hb); have n1_ := ak (below_step (zBG HB.out GE245.out) hb); clear BK245 HB; have BK245 := n0_; have HB := n1_; clear n0_ n1_; (try clear hb); (try clear hb2); (try clear hk); (try clear hi); have hcz10_0 : w9.cell? ⟨gb245, 0, none⟩ = some (.int .i64 a0_0) := (blk_cell BK245.out 0).trans rfl; have hcz10_1 : w9.cell? ⟨gb245, 1, none⟩ = some (.slice A0_1 l0_1.length c0_1) := (blk_cell BK245.out 1).trans rfl; have hcz10_2 : w9.cell? ⟨gb245, 2, none⟩ = some (.slice A0_2 l0_2.length c0_2) := (blk_cell BK245.out 2).trans rfl; have hfz10_0 := blk_frozen BK245.out 0; have hfz10_1 := blk_frozen BK245.out 1; have hfz10_2 := blk_frozen BK245.out 2) | ((with_reducible refine gate_callee (f := 20) rfl ?_); refine goesL_ (some 14) rfl rfl Tryd.func20 (by kernel_rfl) rfl #[.int .i64 a0_0] rfl (by (try simp only [List.map_toArray, List.map_cons, List.map_nil]); first | done | rfl | (simp only [List.length_drop, List.length_take]; rfl)) ?_; (with_reducible refine (impl_decimal.calls a0_0  t247 _ ?side1 A5.out).mono ?_); (case side1 => exact Go.Proofs.YtgpilljegihblaaDoor.H.tab10_below HGT.out (zBG HB.out GE245.out)); rintro e w11 ⟨rfl, hb⟩; refine ⟨_, rfl, ?_⟩; have n0_ := ak (blk_below (g := gb245) (o := .cells #[.int .i64 a0_0, .slice A0_1 l0_1.length c0_1, .slice A0_2 l0_2.length c0_2] 39 (0, 0)) (zK BK245.out) hb); have n1_ := ak (below_step (zBG HB.out GE245.out) hb); clear BK245 HB; have BK245 := n0_; have HB := n1_; clear n0_ n1_; (try clear hb); (try clear hb2); (try clear hk); (try clear hi); have hcz12_0 : w11.cell? ⟨gb245, 0, none⟩ = some (.int .i64 a0_0) := (blk_cell BK245.out 0).trans rfl; have hcz12_1 : w11.cell? ⟨gb245, 1, none⟩ = some (.slice A0_1 l0_1.length c0_1) := (blk_cell BK245.out 1).trans rfl; have hcz12_2 : w11.cell? ⟨gb245, 2, none⟩ = some (.slice A0_2 l0_2.length c0_2) := (blk_cell BK245.out 2).trans rfl; have hfz12_0 := blk_frozen BK245.out 0; have hfz12_1 := blk_frozen BK245.out 1; have hfz12_2 := blk_frozen BK245.out 2))
 go_loopg [3, 19] k (fun kq v3 v19 w' => ∃ (x3_1 : ByteArray) (x19_1 : Int), v3 = .string x3_1 ∧ v19 = .int .i64 x19_1 ∧ Aside0 (impl_LogText.l0 kq x3_1 l0_1 (l0_1.length : Int) x19_1 a0_0 l0_1 l0_2 = some r) ∧ Aside0 (kq ≤ k) ∧ Aside0 (w'.heap[gb245]? = some (.cells #[.int .i64 a0_0, (.slice A0_1 l0_1.length c0_1), (.slice A0_2 l0_2.length c0_2)] 39 (0, 0))) ∧ Aside0 (Below w.heap.size w w'))
 case atStart => exact ⟨(t247 ++ (⟨#[58]⟩ : ByteArray)), (0), (by first | rfl | (simp; done) | (simp [*]; done)), (by first | rfl | (simp; done) | (simp [*]; done)), H', ⟨Nat.le_refl _⟩, ⟨by (with_reducible repeat (first | refine blk_drewN ?_ _ | refine blk_drew ?_ | refine blk_alloc ?_ _)); exact BK245.out⟩, ⟨by repeat (first | (with_reducible first | exact HB.out | apply below_alloc | apply pw_below_drewN | apply below_drew1 | refine below_set ?_ GE245.out) | exact HB.out)⟩⟩
 case round => (
 clear H'
 try clear c1
 try clear c2
 try clear p2
 try clear c4
 try clear c6
 try clear c6b0
 try clear c6b1
 try clear c6b2
 try clear hcz10_0
 try clear hcz10_1
 try clear hcz10_2
 try clear hcz12_0
 try clear hcz12_1
 try clear hcz12_2
 try clear hcz8_0
 try clear hcz8_1
 try clear hcz8_2
 try clear hfz10_0
 try clear hfz10_1
 try clear hfz10_2
 try clear hfz12_0
 try clear hfz12_1
 try clear hfz12_2
 try clear hfz8_0
 try clear hfz8_1
 try clear hfz8_2
 obtain ⟨x3_1, x19_1, rfl, rfl, HA, HK1, BK245, HB⟩ := hrel
 cases gk with
 | zero => exact absurd HA.out (by simp [impl_LogText.l0])
 | succ k1 => (
 have H := HA.out
 clear HA
 simp only [impl_LogText.l0] at H
 by_cases c13 : x19_1 < (l0_1.length : Int)
 {
 rw [if_pos c13] at H
 have c13b0 : decide (x19_1 < (l0_1.length : Int)) = true := decide_eq_true c13
 clear c13
 by_cases c14 : 0 ≤ x19_1
 {
 rw [if_pos c14] at H
 have c14b0 : decide (0 ≤ x19_1) = true := decide_eq_true c14
 clear c14
 by_cases c15 : x19_1 < (l0_1.length : Int)
 {
 rw [if_pos c15] at H
 have c15b0 : decide (x19_1 < (l0_1.length : Int)) = true := decide_eq_true c15
 clear c15
 obtain ⟨y249, hy249⟩ : ∃ y_ : List ByteArray, y_ = (([] : List ByteArray)) := ⟨_, rfl⟩
 replace H : ((impl_ListPeople.f k1 (rd l0_1 x19_1)).bind fun t252 => (impl_LogText.l1 k1 x3_1 x19_1 y249 l0_1 (l0_1.length : Int) x19_1 t252 (t252.length : Int) 0 a0_0 l0_1 l0_2)) = some r := by first | (rw [hy249]; with_reducible exact H) | (have H2_ := (Option.bind_some _ _).symm.trans H; rw [hy249]; with_reducible exact H2_) | (have H2_ := (Option.bind_some _ _).symm.trans H; with_reducible exact H2_) | with_reducible exact H | (rw [hy249]; exact H) | exact H
 have Ny249 := ak hy249
 clear hy249
 replace H := Option.bind_eq_some_iff.mp H
 obtain ⟨t252, A160, H⟩ := H
 replace H : (impl_LogText.l1 k1 x3_1 x19_1 y249 l0_1 (l0_1.length : Int) x19_1 t252 (t252.length : Int) 0 a0_0 l0_1 l0_2) = some r := H
 have A16 := ak A160
 clear A160
 have H' := ak H
 clear H
 have p248 : 0 ≤ (x19_1 : Int) := of_decide_eq_true (by first | (with_reducible assumption) | assumption)
 have q248 : x19_1 < (l0_1.length : Int) := of_decide_eq_true (by first | (with_reducible assumption) | assumption)
 obtain ⟨ad248, e248, hx248_0⟩ := Kd.at_int HR0_1.out x19_1 p248 q248
 cases e248
 replace hx248_0 := (HB.out.cell (World.block_lt_of_cell? w _ hx248_0)).trans hx248_0
 replace p248 := eq_true p248
 replace q248 := eq_true q248
 go_wp2_with (first | ((with_reducible refine gate_dst (N := 24) rfl ?_); refine Kd.R_lit Kd.string _ 9 ?hg (N := 24) ?hd (xs := ([] : List ByteArray)) (inner := []) (ok := fun _ => True) (okp := fun _ => True) ?hr ?hp (fun _ hk => hk) trivial (Below.refl _ _) (Nat.le_refl _) (by simp) ?_; (case hd => rfl); (case hg => rfl); (case hr => first | (go_simp; done) | (go_simp; rfl)); (case hp => exact (Reps.none _ _)); intro v250 w17 ho18 hb hg_ hnew_; clear hg_ hnew_; (first | rw [← Ny249.out] at ho18 | (simp only [Int.reduceToNat] at ho18; rw [← Ny249.out] at ho18)); have n0_ := ak (Kd.R_lower ho18 (below_size (zBG HB.out GE245.out))); have n1_ := ak (blk_below (g := gb245) (o := .cells #[.int .i64 a0_0, .slice (some ad248) l0_1.length c0_1, .slice A0_2 l0_2.length c0_2] 39 (0, 0)) (zK BK245.out) hb); have n2_ := ak (below_step (zBG HB.out GE245.out) hb); clear BK245 HB; have HO251 := n0_; have BK245 := n1_; have HB := n2_; clear n0_ n1_ n2_; clear hb ho18) | ((with_reducible refine gate_callee (f := 28) rfl ?_); refine goesL_ (some 26) rfl rfl Tryd.func28 (by kernel_rfl) rfl #[.int .u16 (rd l0_1 x19_1)] rfl (by (try simp only [List.map_toArray, List.map_cons, List.map_nil]); first | done | rfl | (simp only [List.length_drop, List.length_take]; rfl)) ?_; (with_reducible refine (impl_ListPeople.calls k1 (rd l0_1 x19_1) t252 _ A16.out).mono ?_); rintro e w19 ⟨v253, rfl, ho0, hb⟩; refine ⟨_, rfl, ?_⟩; have n0_ := ak (Kd.R_below (zR HO251.out) hb); have n1_ := ak (Kd.R_lower ho0 (below_size (zBG HB.out GE245.out))); have n2_ := ak (blk_below (g := gb245) (o := .cells #[.int .i64 a0_0, .slice (some ad248) l0_1.length c0_1, .slice A0_2 l0_2.length c0_2] 39 (0, 0)) (zK BK245.out) hb); have n3_ := ak (below_step (zBG HB.out GE245.out) hb); clear HO251 BK245 HB; have HO251 := n0_; have HO254 := n1_; have BK245 := n2_; have HB := n3_; clear n0_ n1_ n2_ n3_; (try clear hb); (try clear hb2); (try clear hk); (try clear hi); (try clear ho0); obtain ⟨Ao20, co20, eo20⟩ := Kd.R_slice HO254.out; subst eo20))
 go_loopg [6, 28] k1 (fun kq v6 v28 w' => ∃ (x6_2 : List ByteArray) (x28_2 : Int), v28 = .int .i64 x28_2 ∧ Aside0 (impl_LogText.l1 kq x3_1 x19_1 x6_2 l0_1 (l0_1.length : Int) x19_1 t252 (t252.length : Int) x28_2 a0_0 l0_1 l0_2 = some r) ∧ Aside0 (kq ≤ k1) ∧ Aside0 (Kd.R Kd.string 9 w' w.heap.size (fun _ => True) v6 x6_2) ∧ Aside0 (Kd.R (Kd.int .i64) 2 w' w.heap.size (fun _ => True) (.slice Ao20 t252.length co20) t252) ∧ Aside0 (w'.heap[gb245]? = some (.cells #[.int .i64 a0_0, (.slice (some ad248) l0_1.length c0_1), (.slice A0_2 l0_2.length c0_2)] 39 (0, 0))) ∧ Aside0 (Below w.heap.size w w'))
 case atStart => exact ⟨(y249), (0), (by first | rfl | (simp; done) | (simp [*]; done)), H', ⟨Nat.le_refl _⟩, ⟨by (with_reducible repeat (first | apply Kd.R_alloc | apply Kd.R_drewN | apply Kd.R_drew)); exact HO251.out⟩, ⟨by (with_reducible repeat (first | apply Kd.R_alloc | apply Kd.R_drewN | apply Kd.R_drew)); exact HO254.out⟩, ⟨by (with_reducible repeat (first | refine blk_drewN ?_ _ | refine blk_drew ?_ | refine blk_alloc ?_ _)); exact BK245.out⟩, ⟨by repeat (first | (with_reducible first | exact HB.out | apply below_alloc | apply pw_below_drewN | apply below_drew1 | refine below_set ?_ GE245.out) | exact HB.out)⟩⟩
 case round => (
 clear H'
 try clear c1
 try clear c2
 try clear p2
 try clear q2
 try clear hx2
 try clear c4
 try clear c6
 try clear c6b0
 try clear c6b1
 try clear c6b2
 try clear c13
 try clear c13b0
 try clear c14
 try clear c14b0
 try clear c15
 try clear c15b0
 try clear c20
 try clear hcz10_0
 try clear hcz10_1
 try clear hcz10_2
 try clear hcz12_0
 try clear hcz12_1
 try clear hcz12_2
 try clear hcz8_0
 try clear hcz8_1
 try clear hcz8_2
 try clear hfz10_0
 try clear hfz10_1
 try clear hfz10_2
 try clear hfz12_0
 try clear hfz12_1
 try clear hfz12_2
 try clear hfz8_0
 try clear hfz8_1
 try clear hfz8_2
 try clear hx248_0
 try clear p2
 try clear p248
 try clear q248
 obtain ⟨x6_2, x28_2, rfl, HA, HK2, HO_6, HO_26, BK245, HB⟩ := hrel
 cases gk with
 | zero => exact absurd HA.out (by simp [impl_LogText.l1])
 | succ k2 => (
 have H := HA.out
 clear HA
 simp only [impl_LogText.l1] at H
 by_cases c21 : x28_2 < (t252.length : Int)
 {
 rw [if_pos c21] at H
 have c21b0 : decide (x28_2 < (t252.length : Int)) = true := decide_eq_true c21
 clear c21
 by_cases c22 : 0 ≤ x28_2
 {
 rw [if_pos c22] at H
 have c22b0 : decide (0 ≤ x28_2) = true := decide_eq_true c22
 clear c22
 by_cases c23 : x28_2 < (t252.length : Int)
 {
 rw [if_pos c23] at H
 have c23b0 : decide (x28_2 < (t252.length : Int)) = true := decide_eq_true c23
 clear c23
 replace H := Option.bind_eq_some_iff.mp H
 obtain ⟨t256, A240, H⟩ := H
 replace H : (if x6_2.length < 8796093022208 then (impl_LogText.l1 k2 x3_1 x19_1 (x6_2 ++ [t256]) l0_1 (l0_1.length : Int) x19_1 t252 (t252.length : Int) (wrap64 (x28_2 + 1)) a0_0 l0_1 l0_2) else (none)) = some r := H
 have A24 := ak A240
 clear A240
 by_cases c25 : x6_2.length < 8796093022208
 {
 rw [if_pos c25] at H
 have LMc25 := ak c25
 clear c25
 obtain ⟨y257, hy257⟩ : ∃ y_ : List ByteArray, y_ = (x6_2 ++ [t256]) := ⟨_, rfl⟩
 replace H : (impl_LogText.l1 k2 x3_1 x19_1 y257 l0_1 (l0_1.length : Int) x19_1 t252 (t252.length : Int) (wrap64 (x28_2 + 1)) a0_0 l0_1 l0_2) = some r := by first | (rw [hy257]; with_reducible exact H) | (have H2_ := (Option.bind_some _ _).symm.trans H; rw [hy257]; with_reducible exact H2_) | (have H2_ := (Option.bind_some _ _).symm.trans H; with_reducible exact H2_) | with_reducible exact H | (rw [hy257]; exact H) | exact H
 have Ny257 := ak hy257
 clear hy257
 have H' := ak H
 clear H
 have p255 : 0 ≤ (x28_2 : Int) := of_decide_eq_true (by first | (with_reducible assumption) | assumption)
 have q255 : x28_2 < (t252.length : Int) := of_decide_eq_true (by first | (with_reducible assumption) | assumption)
 obtain ⟨ad255, e255, hx255_0⟩ := Kd.at_int (Kd.R_reads' HO_26.out).2.2 x28_2 p255 q255
 cases e255
 replace p255 := eq_true p255
 replace q255 := eq_true q255
 go_wp2_with (first | ((with_reducible refine gate_callee (f := 20) rfl ?_); refine goesL_ (some 34) rfl rfl Tryd.func20 (by kernel_rfl) rfl #[.int .i64 (rd t252 x28_2)] rfl (by (try simp only [List.map_toArray, List.map_cons, List.map_nil]); first | done | rfl | (simp only [List.length_drop, List.length_take]; rfl)) ?_; (with_reducible refine (impl_decimal.calls (rd t252 x28_2)  t256 _ ?side1 A24.out).mono ?_); (case side1 => exact Go.Proofs.YtgpilljegihblaaDoor.H.tab10_below HGT.out (zBG HB.out GE245.out)); rintro e w26 ⟨rfl, hb⟩; refine ⟨_, rfl, ?_⟩; have n0_ := ak (Kd.R_below (zR HO_6.out) hb); have n1_ := ak (Kd.R_below (zR HO_26.out) hb); have n2_ := ak (blk_below (g := gb245) (o := .cells #[.int .i64 a0_0, .slice (some ad248) l0_1.length c0_1, .slice A0_2 l0_2.length c0_2] 39 (0, 0)) (zK BK245.out) hb); have n3_ := ak (below_step (zBG HB.out GE245.out) hb); clear HO_6 HO_26 BK245 HB; have HO_6 := n0_; have HO_26 := n1_; have BK245 := n2_; have HB := n3_; clear n0_ n1_ n2_ n3_; (try clear hb); (try clear hb2); (try clear hk); (try clear hi)) | ((with_reducible refine gate_builtin (b := .append) (xs := #[.tmp 32, .tmp 35]) rfl ?_); at_builtin; refine Kd.R_append Kd.string (w0 := w) w.heap.size rfl (.tmp 32) (.tmp 35) 49 9 (.string ⟨#[]⟩) 16 rfl Tryd.underlying49 info9 rfl (by decide) (by omega) u6 x6_2 t256 [.string t256] (fun _ => True) (fun _ => False) rfl rfl ?aP (fun _ hk => hk.elim) ?aF ?aO ?aB ?aS ?aL ?_; (case aP => exact rfl); (case aB => exact (zBG HB.out GE245.out)); (case aF => exact (fun _ _ => trivial)); (case aO => exact (zR HO_6.out)); (case aS => exact (below_size (zBG HB.out GE245.out))); (case aL => have := LMc25.out; omega); intro v258 w27 ho hb hg hat; rw [← Ny257.out] at ho; have n0_ := ak (Kd.R_over' (zR HO_26.out) (Kd.R_typed (zR HO_6.out)) (by decide) hg); have n1_ := ak (blk_grown (g := gb245) (o := .cells #[.int .i64 a0_0, .slice (some ad248) l0_1.length c0_1, .slice A0_2 l0_2.length c0_2] 39 (0, 0)) (zK BK245.out) hg (Kd.R_ne HO_6.out BK245.out (by decide))); have n2_ := ak (hb); have n3_ := ak (ho); clear HO_26 BK245 HB HO_6; have HO_26 := n0_; have BK245 := n1_; have HB := n2_; have HO259 := n3_; clear n0_ n1_ n2_ n3_; clear ho hb hg hat))
 go_roundg k2
 case measure => have := HK1.out; have := HK2.out; omega
 case rel => exact ⟨(y257), (wrap64 (x28_2 + 1)), (by first | rfl | (simp; done) | (simp [*]; done)), H', ⟨by have := HK1.out; have := HK2.out; omega⟩, ⟨by (with_reducible repeat (first | apply Kd.R_alloc | apply Kd.R_drewN | apply Kd.R_drew)); exact HO259.out⟩, ⟨by (with_reducible repeat (first | apply Kd.R_alloc | apply Kd.R_drewN | apply Kd.R_drew)); exact HO_26.out⟩, ⟨by (with_reducible repeat (first | refine blk_drewN ?_ _ | refine blk_drew ?_ | refine blk_alloc ?_ _)); exact BK245.out⟩, ⟨by repeat (first | (with_reducible first | exact HB.out | apply below_alloc | apply pw_below_drewN | apply below_drew1 | refine below_set ?_ GE245.out) | exact HB.out)⟩⟩
 }
 · rw [if_neg c25] at H; exact absurd H (by simp)
 }
 · rw [if_neg c23] at H; exact absurd H (by simp)
 }
 · rw [if_neg c22] at H; exact absurd H (by simp)
 }
 {
 rw [if_neg c21] at H
 have c21b0 : decide (x28_2 < (t252.length : Int)) = false := decide_eq_false c21
 clear c21
 by_cases c28 : 0 ≤ x19_1
 {
 rw [if_pos c28] at H
 have c28b0 : decide (0 ≤ x19_1) = true := decide_eq_true c28
 clear c28
 by_cases c29 : x19_1 < (l0_2.length : Int)
 {
 rw [if_pos c29] at H
 have c29b0 : decide (x19_1 < (l0_2.length : Int)) = true := decide_eq_true c29
 clear c29
 replace H := Option.bind_eq_some_iff.mp H
 obtain ⟨t261, A300, H⟩ := H
 replace H : (if 1 + t261.size ≤ 9223372036854775807 then (if 1 + t261.size + 1 ≤ 9223372036854775807 then ((strings_Join.f x6_2 (⟨#[44]⟩ : ByteArray)).bind fun t262 => (if 1 + t261.size + 1 + t262.size ≤ 9223372036854775807 then (if x3_1.size + 1 + t261.size + 1 + t262.size ≤ 9223372036854775807 then (impl_LogText.l0 k2 (x3_1 ++ ((((⟨#[32]⟩ : ByteArray) ++ t261) ++ (⟨#[47]⟩ : ByteArray)) ++ t262)) l0_1 (l0_1.length : Int) (wrap64 (x19_1 + 1)) a0_0 l0_1 l0_2) else (none)) else (none))) else (none)) else (none)) = some r := H
 have A30 := ak A300
 clear A300
 by_cases c31 : 1 + t261.size ≤ 9223372036854775807
 {
 rw [if_pos c31] at H
 have c31b0 := eq_true c31
 have c31b1 : decide (1 + t261.size ≤ 9223372036854775807) = true := decide_eq_true c31
 try have c31b2 : (9223372036854775807 < 1 + t261.size) = False := eq_false (Nat.not_lt.2 c31)
 by_cases c32 : 1 + t261.size + 1 ≤ 9223372036854775807
 {
 rw [if_pos c32] at H
 have c32b0 := eq_true c32
 have c32b1 : decide (1 + t261.size + 1 ≤ 9223372036854775807) = true := decide_eq_true c32
 try have c32b2 : (9223372036854775807 < 1 + t261.size + 1) = False := eq_false (Nat.not_lt.2 c32)
 replace H := Option.bind_eq_some_iff.mp H
 obtain ⟨t262, A330, H⟩ := H
 replace H : (if 1 + t261.size + 1 + t262.size ≤ 9223372036854775807 then (if x3_1.size + 1 + t261.size + 1 + t262.size ≤ 9223372036854775807 then (impl_LogText.l0 k2 (x3_1 ++ ((((⟨#[32]⟩ : ByteArray) ++ t261) ++ (⟨#[47]⟩ : ByteArray)) ++ t262)) l0_1 (l0_1.length : Int) (wrap64 (x19_1 + 1)) a0_0 l0_1 l0_2) else (none)) else (none)) = some r := H
 have A33 := ak A330
 clear A330
 by_cases c34 : 1 + t261.size + 1 + t262.size ≤ 9223372036854775807
 {
 rw [if_pos c34] at H
 have c34b0 := eq_true c34
 have c34b1 : decide (1 + t261.size + 1 + t262.size ≤ 9223372036854775807) = true := decide_eq_true c34
 try have c34b2 : (9223372036854775807 < 1 + t261.size + 1 + t262.size) = False := eq_false (Nat.not_lt.2 c34)
 by_cases c35 : x3_1.size + 1 + t261.size + 1 + t262.size ≤ 9223372036854775807
 {
 rw [if_pos c35] at H
 have c35b0 := eq_true c35
 have c35b1 : decide (x3_1.size + 1 + t261.size + 1 + t262.size ≤ 9223372036854775807) = true := decide_eq_true c35
 try have c35b2 : (9223372036854775807 < x3_1.size + 1 + t261.size + 1 + t262.size) = False := eq_false (Nat.not_lt.2 c35)
 have H' := ak H
 clear H
 have hcz36_0 : wr.cell? ⟨gb245, 0, none⟩ = some (.int .i64 a0_0) := (blk_cell BK245.out 0).trans rfl
 have hcz36_1 : wr.cell? ⟨gb245, 1, none⟩ = some (.slice (some ad248) l0_1.length c0_1) := (blk_cell BK245.out 1).trans rfl
 have hcz36_2 : wr.cell? ⟨gb245, 2, none⟩ = some (.slice A0_2 l0_2.length c0_2) := (blk_cell BK245.out 2).trans rfl
 have hfz36_0 := blk_frozen BK245.out 0
 have hfz36_1 := blk_frozen BK245.out 1
 have hfz36_2 := blk_frozen BK245.out 2
 have p260 : 0 ≤ (x19_1 : Int) := of_decide_eq_true (by first | (with_reducible assumption) | assumption)
 have q260 : x19_1 < (l0_2.length : Int) := of_decide_eq_true (by first | (with_reducible assumption) | assumption)
 obtain ⟨ad260, e260, hx260_0⟩ := Kd.at_int HR0_2.out x19_1 p260 q260
 cases e260
 replace hx260_0 := (HB.out.cell (World.block_lt_of_cell? w _ hx260_0)).trans hx260_0
 replace p260 := eq_true p260
 replace q260 := eq_true q260
 go_wp2_with (first | ((with_reducible refine gate_callee (f := 20) rfl ?_); refine goesL_ (some 45) rfl rfl Tryd.func20 (by kernel_rfl) rfl #[.int .i64 (wrap64 (rd l0_2 x19_1))] rfl (by (try simp only [List.map_toArray, List.map_cons, List.map_nil]); first | done | rfl | (simp only [List.length_drop, List.length_take]; rfl)) ?_; (with_reducible refine (impl_decimal.calls (wrap64 (rd l0_2 x19_1))  t261 _ ?side1 A30.out).mono ?_); (case side1 => exact Go.Proofs.YtgpilljegihblaaDoor.H.tab10_below HGT.out (zBG HB.out GE245.out)); rintro e w37 ⟨rfl, hb⟩; refine ⟨_, rfl, ?_⟩; have n0_ := ak (Kd.R_below (zR HO_6.out) hb); have n1_ := ak (Kd.R_below (zR HO_26.out) hb); have n2_ := ak (blk_below (g := gb245) (o := .cells #[.int .i64 a0_0, .slice (some ad248) l0_1.length c0_1, .slice (some ad260) l0_2.length c0_2] 39 (0, 0)) (zK BK245.out) hb); have n3_ := ak (below_step (zBG HB.out GE245.out) hb); clear HO_6 HO_26 BK245 HB; have HO_6 := n0_; have HO_26 := n1_; have BK245 := n2_; have HB := n3_; clear n0_ n1_ n2_ n3_; (try clear hb); (try clear hb2); (try clear hk); (try clear hi); obtain ⟨Ao38, co38, eo38⟩ := Kd.R_slice HO_6.out; subst eo38) | ((with_reducible refine gate_callee (f := 21) rfl ?_); refine goesL_ (some 49) rfl rfl Tryd.func21 (by kernel_rfl) rfl #[.slice Ao38 x6_2.length co38, .string (⟨#[44]⟩ : ByteArray)] rfl (by (try simp only [List.map_toArray, List.map_cons, List.map_nil]); first | done | rfl | (simp only [List.length_drop, List.length_take]; rfl)) ?_; (with_reducible refine (strings_Join.calls _ _ x6_2 (⟨#[44]⟩ : ByteArray) t262 _ ?side1 ?side2 A33.out).mono ?_); (case side1 => exact zC (Kd.R_reads' HO_6.out).2.2); (case side2 => exact (Kd.R_reads' HO_6.out).2.1); rintro e w39 ⟨rfl, hb⟩; refine ⟨_, rfl, ?_⟩; have n0_ := ak (Kd.R_below (zR HO_6.out) hb); have n1_ := ak (Kd.R_below (zR HO_26.out) hb); have n2_ := ak (blk_below (g := gb245) (o := .cells #[.int .i64 a0_0, .slice (some ad248) l0_1.length c0_1, .slice (some ad260) l0_2.length c0_2] 39 (0, 0)) (zK BK245.out) hb); have n3_ := ak (below_step (zBG HB.out GE245.out) hb); clear HO_6 HO_26 BK245 HB; have HO_6 := n0_; have HO_26 := n1_; have BK245 := n2_; have HB := n3_; clear n0_ n1_ n2_ n3_; (try clear hb); (try clear hb2); (try clear hk); (try clear hi)))
 go_roundg k2
 case measure => have := HK1.out; have := HK2.out; omega
 case rel => exact ⟨(x3_1 ++ ((((⟨#[32]⟩ : ByteArray) ++ t261) ++ (⟨#[47]⟩ : ByteArray)) ++ t262)), (wrap64 (x19_1 + 1)), (by first | rfl | (simp; done) | (simp [*]; done)), (by first | rfl | (simp; done) | (simp [*]; done)), H', ⟨by have := HK1.out; have := HK2.out; omega⟩, ⟨by (with_reducible repeat (first | refine blk_drewN ?_ _ | refine blk_drew ?_ | refine blk_alloc ?_ _)); exact BK245.out⟩, ⟨by repeat (first | (with_reducible first | exact HB.out | apply below_alloc | apply pw_below_drewN | apply below_drew1 | refine below_set ?_ GE245.out) | exact HB.out)⟩⟩
 }
 · rw [if_neg c35] at H; exact absurd H (by simp)
 }
 · rw [if_neg c34] at H; exact absurd H (by simp)
 }
 · rw [if_neg c32] at H; exact absurd H (by simp)
 }
 · rw [if_neg c31] at H; exact absurd H (by simp)
 }
 · rw [if_neg c29] at H; exact absurd H (by simp)
 }
 · rw [if_neg c28] at H; exact absurd H (by simp)
 }
 )
 )
 }
 · rw [if_neg c15] at H; exact absurd H (by simp)
 }
 · rw [if_neg c14] at H; exact absurd H (by simp)
 }
 {
 rw [if_neg c13] at H
 have c13b0 : decide (x19_1 < (l0_1.length : Int)) = false := decide_eq_false c13
 clear c13
 obtain rfl := Option.some.inj H
 go_wp2
 go_ret
 exact ⟨by first | rfl | (simp [errW_none, errW_some] <;> rfl) | (simp [*, errW_none, errW_some] <;> rfl), by repeat (first | (with_reducible first | exact HB.out | apply below_alloc | apply pw_below_drewN | apply below_drew1 | refine below_set ?_ GE245.out) | exact HB.out)⟩
 }
 )
 )
 }
 · rw [if_neg c6] at H; exact absurd H (by simp)
 }
 {
 replace c4 := Bool.eq_false_iff.mpr c4
 subst c4
 have H1 : (some (⟨#[]⟩ : ByteArray)) = some r := by rw [if_neg (show ¬ (false = true) by decide)] at H; exact H
 clear H
 have H := H1
 clear H1
 obtain rfl := Option.some.inj H
 go_enter Tryd.func13, Tryd.ntmps13
 go_wp2_with (first | ((with_reducible refine gate_dst (N := 1) rfl ?_); refine box_event ?hg (N := 1) ?hd (cs := #[.int .i64 a0_0, .slice A0_1 l0_1.length c0_1, .slice A0_2 l0_2.length c0_2]) (t := 39) ?hr ?_; (case hd => rfl); (case hg => rfl); (case hr => first | (go_simp; done) | (go_simp; rfl)); intro gb245 hg w40 hbox hb; have n0_ := ak (below_step (zB HB.out) hb); have n1_ := ak (hbox); have n2_ := ak ((by rw [hg]; exact (below_size (zB HB.out)) : w.heap.size ≤ gb245)); have n3_ := ak ((by rw [hg]; exact (below_size (zB HB.out)) : w.heap.size ≤ gb245)); clear HB; have HB := n0_; have BK245 := n1_; have GW245 := n2_; have GE245 := n3_; clear n0_ n1_ n2_ n3_; clear hb hbox hg; have hcz41_0 : w40.cell? ⟨gb245, 0, none⟩ = some (.int .i64 a0_0) := (blk_cell BK245.out 0).trans rfl; have hcz41_1 : w40.cell? ⟨gb245, 1, none⟩ = some (.slice A0_1 l0_1.length c0_1) := (blk_cell BK245.out 1).trans rfl; have hcz41_2 : w40.cell? ⟨gb245, 2, none⟩ = some (.slice A0_2 l0_2.length c0_2) := (blk_cell BK245.out 2).trans rfl; have hfz41_0 := blk_frozen BK245.out 0; have hfz41_1 := blk_frozen BK245.out 1; have hfz41_2 := blk_frozen BK245.out 2) | ((with_reducible refine gate_callee (f := 27) rfl ?_); refine goesL_ (some 10) rfl rfl Tryd.func27 (by kernel_rfl) rfl #[.agg #[.int .i64 a0_0, .slice A0_1 l0_1.length c0_1, .slice A0_2 l0_2.length c0_2]] rfl (by (try simp only [List.map_toArray, List.map_cons, List.map_nil]); first | done | rfl | (simp only [List.length_drop, List.length_take]; rfl)) ?_; (with_reducible refine (impl_ValidLog.calls k a0_0 _ _ l0_1 _ _ l0_2 false _ ?side1 ?side2 ?side3 ?side4 A3.out).mono ?_); (case side1 => repeat (first | exact (Kd.C_below HR0_1.out HB.out) | (with_reducible refine Kd.C_alloc ?_ _) | (with_reducible refine Kd.C_drewN ?_ _) | (with_reducible refine Kd.C_drew ?_))); (case side2 => exact HC0_1.out); (case side3 => repeat (first | exact (Kd.C_below HR0_2.out HB.out) | (with_reducible refine Kd.C_alloc ?_ _) | (with_reducible refine Kd.C_drewN ?_ _) | (with_reducible refine Kd.C_drew ?_))); (case side4 => exact HC0_2.out); rintro e w42 ⟨rfl, hb⟩; refine ⟨_, rfl, ?_⟩; have n0_ := ak (blk_below (g := gb245) (o := .cells #[.int .i64 a0_0, .slice A0_1 l0_1.length c0_1, .slice A0_2 l0_2.length c0_2] 39 (0, 0)) (zK BK245.out) hb); have n1_ := ak (below_step (zBG HB.out GE245.out) hb); clear BK245 HB; have BK245 := n0_; have HB := n1_; clear n0_ n1_; (try clear hb); (try clear hb2); (try clear hk); (try clear hi)))
 go_ret
 exact ⟨by first | rfl | (simp [errW_none, errW_some] <;> rfl) | (simp [*, errW_none, errW_some] <;> rfl), by repeat (first | (with_reducible first | exact HB.out | apply below_alloc | apply pw_below_drewN | apply below_drew1 | refine below_set ?_ GE245.out) | exact HB.out)⟩
 }
/-! ### laws_eqPeopleS: function 29 -/
def laws_eqPeopleS.l0 : Nat → List Int → List Int → Int → Option (Bool)
  | 0, _, _, _ => none
  | k + 1, x0, x1, x5 => if x5 < (x0.length : Int) then (if 0 ≤ x5 then (if x5 < (x1.length : Int) then (if (rd x0 x5) = (rd x1 x5) then (laws_eqPeopleS.l0 k x0 x1 (wrap64 (x5 + 1))) else (some false)) else (none)) else (none)) else (some true)
def laws_eqPeopleS.f (k : Nat) (l0 : List Int) (l1 : List Int) : Option (Bool) := if (l0.length : Int) = (l1.length : Int) then (laws_eqPeopleS.l0 k l0 l1 0) else (some false)
theorem laws_eqPeopleS.mono_l : ∀ k, (∀ y0 y1 y2, LeO (laws_eqPeopleS.l0 k y0 y1 y2) (laws_eqPeopleS.l0 (k + 1) y0 y1 y2))
  | 0 => fun _ _ _ r h => by simp [laws_eqPeopleS.l0] at h
  | k + 1 => by
    have ih0 := laws_eqPeopleS.mono_l k
    · intro y0 y1 y2
      unfold laws_eqPeopleS.l0
      repeat' first
      | (with_reducible exact ih0 _ _ _)
      | (with_reducible exact LeO.refl _)
      | (with_reducible exact LeO.none _)
      | (with_reducible refine LeO.ite ?_ ?_)
      | (with_reducible refine LeO.bind ?_ (fun _ => ?_))
      | exact ih0 _ _ _
      | exact LeO.none _
      | refine LeO.ite ?_ ?_
      | refine LeO.bind ?_ (fun _ => ?_)
theorem laws_eqPeopleS.mono : ∀ a0 a1 k, LeO (laws_eqPeopleS.f k a0 a1) (laws_eqPeopleS.f (k + 1) a0 a1) := by
  intro a0 a1 k
  have ih0 := laws_eqPeopleS.mono_l k
  unfold laws_eqPeopleS.f
  repeat' first
      | (with_reducible exact ih0 _ _ _)
      | (with_reducible exact LeO.refl _)
      | (with_reducible exact LeO.none _)
      | (with_reducible refine LeO.ite ?_ ?_)
      | (with_reducible refine LeO.bind ?_ (fun _ => ?_))
      | exact ih0 _ _ _
      | exact LeO.none _
      | refine LeO.ite ?_ ?_
      | refine LeO.bind ?_ (fun _ => ?_)
set_option maxHeartbeats 8000000 in
set_option maxRecDepth 100000 in
theorem laws_eqPeopleS.calls (k : Nat) (A0 : Option Addr) (c0 : Nat) (l0 : List Int) (A1 : Option Addr) (c1 : Nat) (l1 : List Int) (r : Bool) (w : World) (hr0 : Kd.C (Kd.int .u16) w A0 l0.length l0) (hc0 : l0.length ≤ c0) (hr1 : Kd.C (Kd.int .u16) w A1 l1.length l1) (hc1 : l1.length ≤ c1) (h : laws_eqPeopleS.f k l0 l1 = some r) :
    Calls Tryd.prog 29 #[.slice A0 l0.length c0, .slice A1 l1.length c1] w fun e w' => e = .returned (.bool r) ∧ Drawn0 w w' := by
 have HR0 := ak hr0
 have HC0 := ak hc0
 clear hr0 hc0
 have HR1 := ak hr1
 have HC1 := ak hc1
 clear hr1 hc1
 have H : (if (l0.length : Int) = (l1.length : Int) then (laws_eqPeopleS.l0 k l0 l1 0) else (some false)) = some r := h
 clear h
 by_cases c3 : (l0.length : Int) = (l1.length : Int)
 {
 rw [if_pos c3] at H
 have c3b0 : ((l0.length : Int) == (l1.length : Int)) = true := beq_iff_eq.mpr c3
 have c3b1 : ((l0.length : Int) != (l1.length : Int)) = false := bne_eq_false_iff_eq.mpr c3
 have c3b2 : (l0.length == l1.length) = true := by first | simpa using c3 | (simp at c3 ⊢; omega)
 clear c3
 have H' := ak H
 clear H
 go_enter Tryd.func29, Tryd.ntmps29
 go_wp2
 repeat (go_quiet (fail); try go_wp2)
 go_loopg [5] k (fun kq v5 w' => ∃ (x5_1 : Int), v5 = .int .i64 x5_1 ∧ Aside0 (laws_eqPeopleS.l0 kq l0 l1 x5_1 = some r) ∧ Aside0 (kq ≤ k) ∧ Drawn0 w w')
 case atStart => exact ⟨(0), (by first | rfl | (simp; done) | (simp [*]; done)), H', ⟨Nat.le_refl _⟩, by repeat (first | exact Drawn0.refl _ | apply Drawn0.step)⟩
 case round => (
 clear H'
 try clear c1
 try clear c2
 try clear p2
 try clear c3
 try clear c3b0
 try clear c3b1
 try clear c3b2
 obtain ⟨x5_1, rfl, HA, HK1, ⟨m1, rfl⟩⟩ := hrel
 cases gk with
 | zero => exact absurd HA.out (by simp [laws_eqPeopleS.l0])
 | succ k1 => (
 have H := HA.out
 clear HA
 simp only [laws_eqPeopleS.l0] at H
 by_cases c4 : x5_1 < (l0.length : Int)
 {
 rw [if_pos c4] at H
 have c4b0 : decide (x5_1 < (l0.length : Int)) = true := decide_eq_true c4
 clear c4
 by_cases c5 : 0 ≤ x5_1
 {
 rw [if_pos c5] at H
 have c5b0 : decide (0 ≤ x5_1) = true := decide_eq_true c5
 clear c5
 by_cases c6 : x5_1 < (l1.length : Int)
 {
 rw [if_pos c6] at H
 have c6b0 : decide (x5_1 < (l1.length : Int)) = true := decide_eq_true c6
 clear c6
 by_cases c7 : (rd l0 x5_1) = (rd l1 x5_1)
 {
 rw [if_pos c7] at H
 have c7b0 : ((rd l0 x5_1) == (rd l1 x5_1)) = true := beq_iff_eq.mpr c7
 have c7b1 : ((rd l0 x5_1) != (rd l1 x5_1)) = false := bne_eq_false_iff_eq.mpr c7
 clear c7
 have H' := ak H
 clear H
 have p263 : 0 ≤ (x5_1 : Int) := of_decide_eq_true (by first | (with_reducible assumption) | assumption)
 have q263 : x5_1 < (l0.length : Int) := of_decide_eq_true (by first | (with_reducible assumption) | assumption)
 obtain ⟨ad263, e263, hx263_0⟩ := Kd.at_int HR0.out x5_1 p263 q263
 cases e263
 replace p263 := eq_true p263
 replace q263 := eq_true q263
 have p264 : 0 ≤ (x5_1 : Int) := of_decide_eq_true (by first | (with_reducible assumption) | assumption)
 have q264 : x5_1 < (l1.length : Int) := of_decide_eq_true (by first | (with_reducible assumption) | assumption)
 obtain ⟨ad264, e264, hx264_0⟩ := Kd.at_int HR1.out x5_1 p264 q264
 cases e264
 replace p264 := eq_true p264
 replace q264 := eq_true q264
 go_wp2
 repeat (go_quiet (fail); try go_wp2)
 go_roundg k1
 case measure => have := HK1.out; omega
 case rel => exact ⟨(wrap64 (x5_1 + 1)), (by first | rfl | (simp; done) | (simp [*]; done)), H', ⟨by have := HK1.out; omega⟩, by repeat (first | exact Drawn0.refl _ | apply Drawn0.step)⟩
 }
 {
 rw [if_neg c7] at H
 have c7b0 : ((rd l0 x5_1) == (rd l1 x5_1)) = false := beq_eq_false_iff_ne.mpr c7
 have c7b1 : ((rd l0 x5_1) != (rd l1 x5_1)) = true := bne_iff_ne.mpr c7
 obtain rfl := Option.some.inj H
 have p263 : 0 ≤ (x5_1 : Int) := of_decide_eq_true (by first | (with_reducible assumption) | assumption)
 have q263 : x5_1 < (l0.length : Int) := of_decide_eq_true (by first | (with_reducible assumption) | assumption)
 obtain ⟨ad263, e263, hx263_0⟩ := Kd.at_int HR0.out x5_1 p263 q263
 cases e263
 replace p263 := eq_true p263
 replace q263 := eq_true q263
 have p264 : 0 ≤ (x5_1 : Int) := of_decide_eq_true (by first | (with_reducible assumption) | assumption)
 have q264 : x5_1 < (l1.length : Int) := of_decide_eq_true (by first | (with_reducible assumption) | assumption)
 obtain ⟨ad264, e264, hx264_0⟩ := Kd.at_int HR1.out x5_1 p264 q264
 cases e264
 replace p264 := eq_true p264
 replace q264 := eq_true q264
 go_wp2
 repeat (go_quiet (fail); try go_wp2)
 go_ret
 exact ⟨by first | rfl | (simp; done) | (simp [*]; done), by repeat (first | exact Drawn0.refl _ | apply Drawn0.step)⟩
 }
 }
 · rw [if_neg c6] at H; exact absurd H (by simp)
 }
 · rw [if_neg c5] at H; exact absurd H (by simp)
 }
 {
 rw [if_neg c4] at H
 have c4b0 : decide (x5_1 < (l0.length : Int)) = false := decide_eq_false c4
 clear c4
 obtain rfl := Option.some.inj H
 go_wp2
 repeat (go_quiet (fail); try go_wp2)
 go_ret
 exact ⟨by first | rfl | (simp; done) | (simp [*]; done), by repeat (first | exact Drawn0.refl _ | apply Drawn0.step)⟩
 }
 )
 )
 }
 {
 rw [if_neg c3] at H
 have c3b0 : ((l0.length : Int) == (l1.length : Int)) = false := beq_eq_false_iff_ne.mpr c3
 have c3b1 : ((l0.length : Int) != (l1.length : Int)) = true := bne_iff_ne.mpr c3
 have c3b2 : (l0.length == l1.length) = false := by first | simpa using c3 | (simp at c3 ⊢; omega)
 obtain rfl := Option.some.inj H
 go_enter Tryd.func29, Tryd.ntmps29
 go_wp2
 repeat (go_quiet (fail); try go_wp2)
 go_ret
 exact ⟨by first | rfl | (simp; done) | (simp [*]; done), by repeat (first | exact Drawn0.refl _ | apply Drawn0.step)⟩
 }
/-! ### laws_eqLog: function 14 -/
def laws_eqLog.f (k : Nat) (a0_0 : Int) (l0_1 : List Int) (l0_2 : List Int) (a1_0 : Int) (l1_1 : List Int) (l1_2 : List Int) : Option (Bool) := if a0_0 = a1_0 then ((laws_eqPeopleS.f k l0_1 l1_1).bind fun t267 => (if t267 = true then ((laws_eqInt16S.f k l0_2 l1_2).bind fun t268 => (if t268 = true then (some true) else (some false))) else (some false))) else (some false)
theorem laws_eqLog.mono : ∀ a0 a1 a2 a3 a4 a5 k, LeO (laws_eqLog.f k a0 a1 a2 a3 a4 a5) (laws_eqLog.f (k + 1) a0 a1 a2 a3 a4 a5) := by
  intro a0 a1 a2 a3 a4 a5 k
  unfold laws_eqLog.f
  repeat' first
      | (with_reducible exact laws_eqInt16S.mono _ _ _)
      | (with_reducible exact laws_eqPeopleS.mono _ _ _)
      | (with_reducible exact LeO.refl _)
      | (with_reducible exact LeO.none _)
      | (with_reducible refine LeO.ite ?_ ?_)
      | (with_reducible refine LeO.bind ?_ (fun _ => ?_))
      | exact laws_eqInt16S.mono _ _ _
      | exact laws_eqPeopleS.mono _ _ _
      | exact LeO.none _
      | refine LeO.ite ?_ ?_
      | refine LeO.bind ?_ (fun _ => ?_)
set_option maxHeartbeats 8000000 in
set_option maxRecDepth 100000 in
theorem laws_eqLog.calls (k : Nat) (a0_0 : Int) (A0_1 : Option Addr) (c0_1 : Nat) (l0_1 : List Int) (A0_2 : Option Addr) (c0_2 : Nat) (l0_2 : List Int) (a1_0 : Int) (A1_1 : Option Addr) (c1_1 : Nat) (l1_1 : List Int) (A1_2 : Option Addr) (c1_2 : Nat) (l1_2 : List Int) (r : Bool) (w : World) (hr0_1 : Kd.C (Kd.int .u16) w A0_1 l0_1.length l0_1) (hc0_1 : l0_1.length ≤ c0_1) (hr0_2 : Kd.C (Kd.int .i16) w A0_2 l0_2.length l0_2) (hc0_2 : l0_2.length ≤ c0_2) (hr1_1 : Kd.C (Kd.int .u16) w A1_1 l1_1.length l1_1) (hc1_1 : l1_1.length ≤ c1_1) (hr1_2 : Kd.C (Kd.int .i16) w A1_2 l1_2.length l1_2) (hc1_2 : l1_2.length ≤ c1_2) (h : laws_eqLog.f k a0_0 l0_1 l0_2 a1_0 l1_1 l1_2 = some r) :
    Calls Tryd.prog 14 #[.agg #[.int .i64 a0_0, .slice A0_1 l0_1.length c0_1, .slice A0_2 l0_2.length c0_2], .agg #[.int .i64 a1_0, .slice A1_1 l1_1.length c1_1, .slice A1_2 l1_2.length c1_2]] w fun e w' => e = .returned (.bool r) ∧ Below w.heap.size w w' := by
 have hu39 := Tryd.underlying39
 have HR0_1 := ak hr0_1
 have HC0_1 := ak hc0_1
 clear hr0_1 hc0_1
 have HR0_2 := ak hr0_2
 have HC0_2 := ak hc0_2
 clear hr0_2 hc0_2
 have HR1_1 := ak hr1_1
 have HC1_1 := ak hc1_1
 clear hr1_1 hc1_1
 have HR1_2 := ak hr1_2
 have HC1_2 := ak hc1_2
 clear hr1_2 hc1_2
 have HB := ak (Below.refl w.heap.size w)
 have H : (if a0_0 = a1_0 then ((laws_eqPeopleS.f k l0_1 l1_1).bind fun t267 => (if t267 = true then ((laws_eqInt16S.f k l0_2 l1_2).bind fun t268 => (if t268 = true then (some true) else (some false))) else (some false))) else (some false)) = some r := h
 clear h
 by_cases c3 : a0_0 = a1_0
 {
 rw [if_pos c3] at H
 have c3b0 : (a0_0 == a1_0) = true := beq_iff_eq.mpr c3
 have c3b1 : (a0_0 != a1_0) = false := bne_eq_false_iff_eq.mpr c3
 clear c3
 replace H := Option.bind_eq_some_iff.mp H
 obtain ⟨t267, A40, H⟩ := H
 replace H : (if t267 = true then ((laws_eqInt16S.f k l0_2 l1_2).bind fun t268 => (if t268 = true then (some true) else (some false))) else (some false)) = some r := H
 have A4 := ak A40
 clear A40
 by_cases c5 : t267 = true
 {
 subst c5
 have H1 : ((laws_eqInt16S.f k l0_2 l1_2).bind fun t268 => (if t268 = true then (some true) else (some false))) = some r := by rw [if_pos rfl] at H; exact H
 clear H
 have H := H1
 clear H1
 replace H := Option.bind_eq_some_iff.mp H
 obtain ⟨t268, A60, H⟩ := H
 replace H : (if t268 = true then (some true) else (some false)) = some r := H
 have A6 := ak A60
 clear A60
 by_cases c7 : t268 = true
 {
 subst c7
 have H1 : (some true) = some r := by rw [if_pos rfl] at H; exact H
 clear H
 have H := H1
 clear H1
 obtain rfl := Option.some.inj H
 go_enter Tryd.func14, Tryd.ntmps14
 go_wp2_with (first | ((with_reducible refine gate_dst (N := 2) rfl ?_); refine box_event ?hg (N := 2) ?hd (cs := #[.int .i64 a0_0, .slice A0_1 l0_1.length c0_1, .slice A0_2 l0_2.length c0_2]) (t := 39) ?hr ?_; (case hd => rfl); (case hg => rfl); (case hr => first | (go_simp; done) | (go_simp; rfl)); intro gb265 hg w8 hbox hb; have n0_ := ak (below_step (zB HB.out) hb); have n1_ := ak (hbox); have n2_ := ak ((by rw [hg]; exact (below_size (zB HB.out)) : w.heap.size ≤ gb265)); have n3_ := ak ((by rw [hg]; exact (below_size (zB HB.out)) : w.heap.size ≤ gb265)); clear HB; have HB := n0_; have BK265 := n1_; have GW265 := n2_; have GE265 := n3_; clear n0_ n1_ n2_ n3_; clear hb hbox hg) | ((with_reducible refine gate_dst (N := 3) rfl ?_); refine box_event ?hg (N := 3) ?hd (cs := #[.int .i64 a1_0, .slice A1_1 l1_1.length c1_1, .slice A1_2 l1_2.length c1_2]) (t := 39) ?hr ?_; (case hd => rfl); (case hg => rfl); (case hr => first | (go_simp; done) | (go_simp; rfl)); intro gb266 hg w9 hbox hb; have n0_ := ak (blk_below (g := gb265) (o := .cells #[.int .i64 a0_0, .slice A0_1 l0_1.length c0_1, .slice A0_2 l0_2.length c0_2] 39 (0, 0)) (zK BK265.out) hb); have n1_ := ak (below_step (zBG HB.out GE265.out) hb); have n2_ := ak (hbox); have n3_ := ak ((by rw [hg]; exact (below_size (zBG HB.out GE265.out)) : w.heap.size ≤ gb266)); have n4_ := ak ((by rw [hg]; exact (below_size (zBG HB.out GE265.out)) : w.heap.size ≤ gb266)); have n5_ := ak ((by rw [hg]; exact Nat.ne_of_lt (blk_lt (g := gb265) (o := .cells #[.int .i64 a0_0, .slice A0_1 l0_1.length c0_1, .slice A0_2 l0_2.length c0_2] 39 (0, 0)) (zK BK265.out)) : gb265 ≠ gb266)); have n6_ := ak ((by rw [hg]; exact Nat.ne_of_gt (blk_lt (g := gb265) (o := .cells #[.int .i64 a0_0, .slice A0_1 l0_1.length c0_1, .slice A0_2 l0_2.length c0_2] 39 (0, 0)) (zK BK265.out)) : gb266 ≠ gb265)); clear BK265 HB; have BK265 := n0_; have HB := n1_; have BK266 := n2_; have GW266 := n3_; have GE266 := n4_; have NB265_266 := n5_; have NB266_265 := n6_; clear n0_ n1_ n2_ n3_ n4_ n5_ n6_; clear hb hbox hg; have hnb10 := NB265_266.out; have hnc10 := NB266_265.out; have hcz11_0 : w9.cell? ⟨gb265, 0, none⟩ = some (.int .i64 a0_0) := (blk_cell BK265.out 0).trans rfl; have hcz11_1 : w9.cell? ⟨gb265, 1, none⟩ = some (.slice A0_1 l0_1.length c0_1) := (blk_cell BK265.out 1).trans rfl; have hcz11_2 : w9.cell? ⟨gb265, 2, none⟩ = some (.slice A0_2 l0_2.length c0_2) := (blk_cell BK265.out 2).trans rfl; have hfz11_0 := blk_frozen BK265.out 0; have hfz11_1 := blk_frozen BK265.out 1; have hfz11_2 := blk_frozen BK265.out 2; have hcz12_0 : w9.cell? ⟨gb266, 0, none⟩ = some (.int .i64 a1_0) := (blk_cell BK266.out 0).trans rfl; have hcz12_1 : w9.cell? ⟨gb266, 1, none⟩ = some (.slice A1_1 l1_1.length c1_1) := (blk_cell BK266.out 1).trans rfl; have hcz12_2 : w9.cell? ⟨gb266, 2, none⟩ = some (.slice A1_2 l1_2.length c1_2) := (blk_cell BK266.out 2).trans rfl; have hfz12_0 := blk_frozen BK266.out 0; have hfz12_1 := blk_frozen BK266.out 1; have hfz12_2 := blk_frozen BK266.out 2) | ((with_reducible refine gate_callee (f := 29) rfl ?_); refine goesL_ (some 14) rfl rfl Tryd.func29 (by kernel_rfl) rfl #[.slice A0_1 l0_1.length c0_1, .slice A1_1 l1_1.length c1_1] rfl (by (try simp only [List.map_toArray, List.map_cons, List.map_nil]); first | done | rfl | (simp only [List.length_drop, List.length_take]; rfl)) ?_; (with_reducible refine (laws_eqPeopleS.calls k _ _ l0_1 _ _ l1_1 true _ ?side1 ?side2 ?side3 ?side4 A4.out).mono ?_); (case side1 => repeat (first | exact (Kd.C_below HR0_1.out HB.out) | (with_reducible refine Kd.C_alloc ?_ _) | (with_reducible refine Kd.C_drewN ?_ _) | (with_reducible refine Kd.C_drew ?_))); (case side2 => exact HC0_1.out); (case side3 => repeat (first | exact (Kd.C_below HR1_1.out HB.out) | (with_reducible refine Kd.C_alloc ?_ _) | (with_reducible refine Kd.C_drewN ?_ _) | (with_reducible refine Kd.C_drew ?_))); (case side4 => exact HC1_1.out); rintro e w' ⟨rfl, ⟨nd, rfl⟩⟩; refine ⟨_, rfl, ?_⟩) | ((with_reducible refine gate_callee (f := 22) rfl ?_); refine goesL_ (some 20) rfl rfl Tryd.func22 (by kernel_rfl) rfl #[.slice A0_2 l0_2.length c0_2, .slice A1_2 l1_2.length c1_2] rfl (by (try simp only [List.map_toArray, List.map_cons, List.map_nil]); first | done | rfl | (simp only [List.length_drop, List.length_take]; rfl)) ?_; (with_reducible refine (laws_eqInt16S.calls k _ _ l0_2 _ _ l1_2 true _ ?side1 ?side2 ?side3 ?side4 A6.out).mono ?_); (case side1 => repeat (first | exact (Kd.C_below HR0_2.out (by repeat (first | (with_reducible first | exact HB.out | apply below_alloc | apply pw_below_drewN | apply below_drew1 | refine below_set ?_ GE265.out | refine below_set ?_ GE266.out) | exact HB.out))) | (with_reducible refine Kd.C_alloc ?_ _) | (with_reducible refine Kd.C_drewN ?_ _) | (with_reducible refine Kd.C_drew ?_))); (case side2 => exact HC0_2.out); (case side3 => repeat (first | exact (Kd.C_below HR1_2.out (by repeat (first | (with_reducible first | exact HB.out | apply below_alloc | apply pw_below_drewN | apply below_drew1 | refine below_set ?_ GE265.out | refine below_set ?_ GE266.out) | exact HB.out))) | (with_reducible refine Kd.C_alloc ?_ _) | (with_reducible refine Kd.C_drewN ?_ _) | (with_reducible refine Kd.C_drew ?_))); (case side4 => exact HC1_2.out); rintro e w' ⟨rfl, ⟨nd, rfl⟩⟩; refine ⟨_, rfl, ?_⟩))
 go_ret
 exact ⟨by first | rfl | (simp [errW_none, errW_some] <;> rfl) | (simp [*, errW_none, errW_some] <;> rfl), by repeat (first | (with_reducible first | exact HB.out | apply below_alloc | apply pw_below_drewN | apply below_drew1 | refine below_set ?_ GE265.out | refine below_set ?_ GE266.out) | exact HB.out)⟩
 }
 {
 replace c7 := Bool.eq_false_iff.mpr c7
 subst c7
 have H1 : (some false) = some r := by rw [if_neg (show ¬ (false = true) by decide)] at H; exact H
 clear H
 have H := H1
 clear H1
 obtain rfl := Option.some.inj H
 go_enter Tryd.func14, Tryd.ntmps14
 go_wp2_with (first | ((with_reducible refine gate_dst (N := 2) rfl ?_); refine box_event ?hg (N := 2) ?hd (cs := #[.int .i64 a0_0, .slice A0_1 l0_1.length c0_1, .slice A0_2 l0_2.length c0_2]) (t := 39) ?hr ?_; (case hd => rfl); (case hg => rfl); (case hr => first | (go_simp; done) | (go_simp; rfl)); intro gb265 hg w13 hbox hb; have n0_ := ak (below_step (zB HB.out) hb); have n1_ := ak (hbox); have n2_ := ak ((by rw [hg]; exact (below_size (zB HB.out)) : w.heap.size ≤ gb265)); have n3_ := ak ((by rw [hg]; exact (below_size (zB HB.out)) : w.heap.size ≤ gb265)); clear HB; have HB := n0_; have BK265 := n1_; have GW265 := n2_; have GE265 := n3_; clear n0_ n1_ n2_ n3_; clear hb hbox hg) | ((with_reducible refine gate_dst (N := 3) rfl ?_); refine box_event ?hg (N := 3) ?hd (cs := #[.int .i64 a1_0, .slice A1_1 l1_1.length c1_1, .slice A1_2 l1_2.length c1_2]) (t := 39) ?hr ?_; (case hd => rfl); (case hg => rfl); (case hr => first | (go_simp; done) | (go_simp; rfl)); intro gb266 hg w14 hbox hb; have n0_ := ak (blk_below (g := gb265) (o := .cells #[.int .i64 a0_0, .slice A0_1 l0_1.length c0_1, .slice A0_2 l0_2.length c0_2] 39 (0, 0)) (zK BK265.out) hb); have n1_ := ak (below_step (zBG HB.out GE265.out) hb); have n2_ := ak (hbox); have n3_ := ak ((by rw [hg]; exact (below_size (zBG HB.out GE265.out)) : w.heap.size ≤ gb266)); have n4_ := ak ((by rw [hg]; exact (below_size (zBG HB.out GE265.out)) : w.heap.size ≤ gb266)); have n5_ := ak ((by rw [hg]; exact Nat.ne_of_lt (blk_lt (g := gb265) (o := .cells #[.int .i64 a0_0, .slice A0_1 l0_1.length c0_1, .slice A0_2 l0_2.length c0_2] 39 (0, 0)) (zK BK265.out)) : gb265 ≠ gb266)); have n6_ := ak ((by rw [hg]; exact Nat.ne_of_gt (blk_lt (g := gb265) (o := .cells #[.int .i64 a0_0, .slice A0_1 l0_1.length c0_1, .slice A0_2 l0_2.length c0_2] 39 (0, 0)) (zK BK265.out)) : gb266 ≠ gb265)); clear BK265 HB; have BK265 := n0_; have HB := n1_; have BK266 := n2_; have GW266 := n3_; have GE266 := n4_; have NB265_266 := n5_; have NB266_265 := n6_; clear n0_ n1_ n2_ n3_ n4_ n5_ n6_; clear hb hbox hg; have hnb15 := NB265_266.out; have hnc15 := NB266_265.out; have hcz16_0 : w14.cell? ⟨gb265, 0, none⟩ = some (.int .i64 a0_0) := (blk_cell BK265.out 0).trans rfl; have hcz16_1 : w14.cell? ⟨gb265, 1, none⟩ = some (.slice A0_1 l0_1.length c0_1) := (blk_cell BK265.out 1).trans rfl; have hcz16_2 : w14.cell? ⟨gb265, 2, none⟩ = some (.slice A0_2 l0_2.length c0_2) := (blk_cell BK265.out 2).trans rfl; have hfz16_0 := blk_frozen BK265.out 0; have hfz16_1 := blk_frozen BK265.out 1; have hfz16_2 := blk_frozen BK265.out 2; have hcz17_0 : w14.cell? ⟨gb266, 0, none⟩ = some (.int .i64 a1_0) := (blk_cell BK266.out 0).trans rfl; have hcz17_1 : w14.cell? ⟨gb266, 1, none⟩ = some (.slice A1_1 l1_1.length c1_1) := (blk_cell BK266.out 1).trans rfl; have hcz17_2 : w14.cell? ⟨gb266, 2, none⟩ = some (.slice A1_2 l1_2.length c1_2) := (blk_cell BK266.out 2).trans rfl; have hfz17_0 := blk_frozen BK266.out 0; have hfz17_1 := blk_frozen BK266.out 1; have hfz17_2 := blk_frozen BK266.out 2) | ((with_reducible refine gate_callee (f := 29) rfl ?_); refine goesL_ (some 14) rfl rfl Tryd.func29 (by kernel_rfl) rfl #[.slice A0_1 l0_1.length c0_1, .slice A1_1 l1_1.length c1_1] rfl (by (try simp only [List.map_toArray, List.map_cons, List.map_nil]); first | done | rfl | (simp only [List.length_drop, List.length_take]; rfl)) ?_; (with_reducible refine (laws_eqPeopleS.calls k _ _ l0_1 _ _ l1_1 true _ ?side1 ?side2 ?side3 ?side4 A4.out).mono ?_); (case side1 => repeat (first | exact (Kd.C_below HR0_1.out HB.out) | (with_reducible refine Kd.C_alloc ?_ _) | (with_reducible refine Kd.C_drewN ?_ _) | (with_reducible refine Kd.C_drew ?_))); (case side2 => exact HC0_1.out); (case side3 => repeat (first | exact (Kd.C_below HR1_1.out HB.out) | (with_reducible refine Kd.C_alloc ?_ _) | (with_reducible refine Kd.C_drewN ?_ _) | (with_reducible refine Kd.C_drew ?_))); (case side4 => exact HC1_1.out); rintro e w' ⟨rfl, ⟨nd, rfl⟩⟩; refine ⟨_, rfl, ?_⟩) | ((with_reducible refine gate_callee (f := 22) rfl ?_); refine goesL_ (some 20) rfl rfl Tryd.func22 (by kernel_rfl) rfl #[.slice A0_2 l0_2.length c0_2, .slice A1_2 l1_2.length c1_2] rfl (by (try simp only [List.map_toArray, List.map_cons, List.map_nil]); first | done | rfl | (simp only [List.length_drop, List.length_take]; rfl)) ?_; (with_reducible refine (laws_eqInt16S.calls k _ _ l0_2 _ _ l1_2 false _ ?side1 ?side2 ?side3 ?side4 A6.out).mono ?_); (case side1 => repeat (first | exact (Kd.C_below HR0_2.out (by repeat (first | (with_reducible first | exact HB.out | apply below_alloc | apply pw_below_drewN | apply below_drew1 | refine below_set ?_ GE265.out | refine below_set ?_ GE266.out) | exact HB.out))) | (with_reducible refine Kd.C_alloc ?_ _) | (with_reducible refine Kd.C_drewN ?_ _) | (with_reducible refine Kd.C_drew ?_))); (case side2 => exact HC0_2.out); (case side3 => repeat (first | exact (Kd.C_below HR1_2.out (by repeat (first | (with_reducible first | exact HB.out | apply below_alloc | apply pw_below_drewN | apply below_drew1 | refine below_set ?_ GE265.out | refine below_set ?_ GE266.out) | exact HB.out))) | (with_reducible refine Kd.C_alloc ?_ _) | (with_reducible refine Kd.C_drewN ?_ _) | (with_reducible refine Kd.C_drew ?_))); (case side4 => exact HC1_2.out); rintro e w' ⟨rfl, ⟨nd, rfl⟩⟩; refine ⟨_, rfl, ?_⟩))
 go_ret
 exact ⟨by first | rfl | (simp [errW_none, errW_some] <;> rfl) | (simp [*, errW_none, errW_some] <;> rfl), by repeat (first | (with_reducible first | exact HB.out | apply below_alloc | apply pw_below_drewN | apply below_drew1 | refine below_set ?_ GE265.out | refine below_set ?_ GE266.out) | exact HB.out)⟩
 }
 }
 {
 replace c5 := Bool.eq_false_iff.mpr c5
 subst c5
 have H1 : (some false) = some r := by rw [if_neg (show ¬ (false = true) by decide)] at H; exact H
 clear H
 have H := H1
 clear H1
 obtain rfl := Option.some.inj H
 go_enter Tryd.func14, Tryd.ntmps14
 go_wp2_with (first | ((with_reducible refine gate_dst (N := 2) rfl ?_); refine box_event ?hg (N := 2) ?hd (cs := #[.int .i64 a0_0, .slice A0_1 l0_1.length c0_1, .slice A0_2 l0_2.length c0_2]) (t := 39) ?hr ?_; (case hd => rfl); (case hg => rfl); (case hr => first | (go_simp; done) | (go_simp; rfl)); intro gb265 hg w18 hbox hb; have n0_ := ak (below_step (zB HB.out) hb); have n1_ := ak (hbox); have n2_ := ak ((by rw [hg]; exact (below_size (zB HB.out)) : w.heap.size ≤ gb265)); have n3_ := ak ((by rw [hg]; exact (below_size (zB HB.out)) : w.heap.size ≤ gb265)); clear HB; have HB := n0_; have BK265 := n1_; have GW265 := n2_; have GE265 := n3_; clear n0_ n1_ n2_ n3_; clear hb hbox hg) | ((with_reducible refine gate_dst (N := 3) rfl ?_); refine box_event ?hg (N := 3) ?hd (cs := #[.int .i64 a1_0, .slice A1_1 l1_1.length c1_1, .slice A1_2 l1_2.length c1_2]) (t := 39) ?hr ?_; (case hd => rfl); (case hg => rfl); (case hr => first | (go_simp; done) | (go_simp; rfl)); intro gb266 hg w19 hbox hb; have n0_ := ak (blk_below (g := gb265) (o := .cells #[.int .i64 a0_0, .slice A0_1 l0_1.length c0_1, .slice A0_2 l0_2.length c0_2] 39 (0, 0)) (zK BK265.out) hb); have n1_ := ak (below_step (zBG HB.out GE265.out) hb); have n2_ := ak (hbox); have n3_ := ak ((by rw [hg]; exact (below_size (zBG HB.out GE265.out)) : w.heap.size ≤ gb266)); have n4_ := ak ((by rw [hg]; exact (below_size (zBG HB.out GE265.out)) : w.heap.size ≤ gb266)); have n5_ := ak ((by rw [hg]; exact Nat.ne_of_lt (blk_lt (g := gb265) (o := .cells #[.int .i64 a0_0, .slice A0_1 l0_1.length c0_1, .slice A0_2 l0_2.length c0_2] 39 (0, 0)) (zK BK265.out)) : gb265 ≠ gb266)); have n6_ := ak ((by rw [hg]; exact Nat.ne_of_gt (blk_lt (g := gb265) (o := .cells #[.int .i64 a0_0, .slice A0_1 l0_1.length c0_1, .slice A0_2 l0_2.length c0_2] 39 (0, 0)) (zK BK265.out)) : gb266 ≠ gb265)); clear BK265 HB; have BK265 := n0_; have HB := n1_; have BK266 := n2_; have GW266 := n3_; have GE266 := n4_; have NB265_266 := n5_; have NB266_265 := n6_; clear n0_ n1_ n2_ n3_ n4_ n5_ n6_; clear hb hbox hg; have hnb20 := NB265_266.out; have hnc20 := NB266_265.out; have hcz21_0 : w19.cell? ⟨gb265, 0, none⟩ = some (.int .i64 a0_0) := (blk_cell BK265.out 0).trans rfl; have hcz21_1 : w19.cell? ⟨gb265, 1, none⟩ = some (.slice A0_1 l0_1.length c0_1) := (blk_cell BK265.out 1).trans rfl; have hcz21_2 : w19.cell? ⟨gb265, 2, none⟩ = some (.slice A0_2 l0_2.length c0_2) := (blk_cell BK265.out 2).trans rfl; have hfz21_0 := blk_frozen BK265.out 0; have hfz21_1 := blk_frozen BK265.out 1; have hfz21_2 := blk_frozen BK265.out 2; have hcz22_0 : w19.cell? ⟨gb266, 0, none⟩ = some (.int .i64 a1_0) := (blk_cell BK266.out 0).trans rfl; have hcz22_1 : w19.cell? ⟨gb266, 1, none⟩ = some (.slice A1_1 l1_1.length c1_1) := (blk_cell BK266.out 1).trans rfl; have hcz22_2 : w19.cell? ⟨gb266, 2, none⟩ = some (.slice A1_2 l1_2.length c1_2) := (blk_cell BK266.out 2).trans rfl; have hfz22_0 := blk_frozen BK266.out 0; have hfz22_1 := blk_frozen BK266.out 1; have hfz22_2 := blk_frozen BK266.out 2) | ((with_reducible refine gate_callee (f := 29) rfl ?_); refine goesL_ (some 14) rfl rfl Tryd.func29 (by kernel_rfl) rfl #[.slice A0_1 l0_1.length c0_1, .slice A1_1 l1_1.length c1_1] rfl (by (try simp only [List.map_toArray, List.map_cons, List.map_nil]); first | done | rfl | (simp only [List.length_drop, List.length_take]; rfl)) ?_; (with_reducible refine (laws_eqPeopleS.calls k _ _ l0_1 _ _ l1_1 false _ ?side1 ?side2 ?side3 ?side4 A4.out).mono ?_); (case side1 => repeat (first | exact (Kd.C_below HR0_1.out HB.out) | (with_reducible refine Kd.C_alloc ?_ _) | (with_reducible refine Kd.C_drewN ?_ _) | (with_reducible refine Kd.C_drew ?_))); (case side2 => exact HC0_1.out); (case side3 => repeat (first | exact (Kd.C_below HR1_1.out HB.out) | (with_reducible refine Kd.C_alloc ?_ _) | (with_reducible refine Kd.C_drewN ?_ _) | (with_reducible refine Kd.C_drew ?_))); (case side4 => exact HC1_1.out); rintro e w' ⟨rfl, ⟨nd, rfl⟩⟩; refine ⟨_, rfl, ?_⟩))
 go_ret
 exact ⟨by first | rfl | (simp [errW_none, errW_some] <;> rfl) | (simp [*, errW_none, errW_some] <;> rfl), by repeat (first | (with_reducible first | exact HB.out | apply below_alloc | apply pw_below_drewN | apply below_drew1 | refine below_set ?_ GE265.out | refine below_set ?_ GE266.out) | exact HB.out)⟩
 }
 }
 {
 rw [if_neg c3] at H
 have c3b0 : (a0_0 == a1_0) = false := beq_eq_false_iff_ne.mpr c3
 have c3b1 : (a0_0 != a1_0) = true := bne_iff_ne.mpr c3
 obtain rfl := Option.some.inj H
 go_enter Tryd.func14, Tryd.ntmps14
 go_wp2_with (first | ((with_reducible refine gate_dst (N := 2) rfl ?_); refine box_event ?hg (N := 2) ?hd (cs := #[.int .i64 a0_0, .slice A0_1 l0_1.length c0_1, .slice A0_2 l0_2.length c0_2]) (t := 39) ?hr ?_; (case hd => rfl); (case hg => rfl); (case hr => first | (go_simp; done) | (go_simp; rfl)); intro gb265 hg w23 hbox hb; have n0_ := ak (below_step (zB HB.out) hb); have n1_ := ak (hbox); have n2_ := ak ((by rw [hg]; exact (below_size (zB HB.out)) : w.heap.size ≤ gb265)); have n3_ := ak ((by rw [hg]; exact (below_size (zB HB.out)) : w.heap.size ≤ gb265)); clear HB; have HB := n0_; have BK265 := n1_; have GW265 := n2_; have GE265 := n3_; clear n0_ n1_ n2_ n3_; clear hb hbox hg) | ((with_reducible refine gate_dst (N := 3) rfl ?_); refine box_event ?hg (N := 3) ?hd (cs := #[.int .i64 a1_0, .slice A1_1 l1_1.length c1_1, .slice A1_2 l1_2.length c1_2]) (t := 39) ?hr ?_; (case hd => rfl); (case hg => rfl); (case hr => first | (go_simp; done) | (go_simp; rfl)); intro gb266 hg w24 hbox hb; have n0_ := ak (blk_below (g := gb265) (o := .cells #[.int .i64 a0_0, .slice A0_1 l0_1.length c0_1, .slice A0_2 l0_2.length c0_2] 39 (0, 0)) (zK BK265.out) hb); have n1_ := ak (below_step (zBG HB.out GE265.out) hb); have n2_ := ak (hbox); have n3_ := ak ((by rw [hg]; exact (below_size (zBG HB.out GE265.out)) : w.heap.size ≤ gb266)); have n4_ := ak ((by rw [hg]; exact (below_size (zBG HB.out GE265.out)) : w.heap.size ≤ gb266)); have n5_ := ak ((by rw [hg]; exact Nat.ne_of_lt (blk_lt (g := gb265) (o := .cells #[.int .i64 a0_0, .slice A0_1 l0_1.length c0_1, .slice A0_2 l0_2.length c0_2] 39 (0, 0)) (zK BK265.out)) : gb265 ≠ gb266)); have n6_ := ak ((by rw [hg]; exact Nat.ne_of_gt (blk_lt (g := gb265) (o := .cells #[.int .i64 a0_0, .slice A0_1 l0_1.length c0_1, .slice A0_2 l0_2.length c0_2] 39 (0, 0)) (zK BK265.out)) : gb266 ≠ gb265)); clear BK265 HB; have BK265 := n0_; have HB := n1_; have BK266 := n2_; have GW266 := n3_; have GE266 := n4_; have NB265_266 := n5_; have NB266_265 := n6_; clear n0_ n1_ n2_ n3_ n4_ n5_ n6_; clear hb hbox hg; have hnb25 := NB265_266.out; have hnc25 := NB266_265.out; have hcz26_0 : w24.cell? ⟨gb265, 0, none⟩ = some (.int .i64 a0_0) := (blk_cell BK265.out 0).trans rfl; have hcz26_1 : w24.cell? ⟨gb265, 1, none⟩ = some (.slice A0_1 l0_1.length c0_1) := (blk_cell BK265.out 1).trans rfl; have hcz26_2 : w24.cell? ⟨gb265, 2, none⟩ = some (.slice A0_2 l0_2.length c0_2) := (blk_cell BK265.out 2).trans rfl; have hfz26_0 := blk_frozen BK265.out 0; have hfz26_1 := blk_frozen BK265.out 1; have hfz26_2 := blk_frozen BK265.out 2; have hcz27_0 : w24.cell? ⟨gb266, 0, none⟩ = some (.int .i64 a1_0) := (blk_cell BK266.out 0).trans rfl; have hcz27_1 : w24.cell? ⟨gb266, 1, none⟩ = some (.slice A1_1 l1_1.length c1_1) := (blk_cell BK266.out 1).trans rfl; have hcz27_2 : w24.cell? ⟨gb266, 2, none⟩ = some (.slice A1_2 l1_2.length c1_2) := (blk_cell BK266.out 2).trans rfl; have hfz27_0 := blk_frozen BK266.out 0; have hfz27_1 := blk_frozen BK266.out 1; have hfz27_2 := blk_frozen BK266.out 2))
 go_ret
 exact ⟨by first | rfl | (simp [errW_none, errW_some] <;> rfl) | (simp [*, errW_none, errW_some] <;> rfl), by repeat (first | (with_reducible first | exact HB.out | apply below_alloc | apply pw_below_drewN | apply below_drew1 | refine below_set ?_ GE265.out | refine below_set ?_ GE266.out) | exact HB.out)⟩
 }
end Go.Proofs.YtgpilljegihblaaDoor.P
