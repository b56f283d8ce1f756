-- Printed by wip/print (my turned copy of the kit's print) out of the translation; Lean checks it.
import Derived.Test.YtkdloidojmccgaaP0
import Derived.Test.YtkdloidojmccgaaP2
import Derived.Test.YtkdloidojmccgaaP3
import Derived.Test.YtkdloidojmccgaaP5
namespace Go.Proofs.Ytkdloidojmccgaa.P
open Go.RowKit Go.Proofs.YtkdloidojmccgaaW.PrintWords Go.Proofs.YtkdloidojmccgaaW.PrintLast Go.Proofs.YtkdloidojmccgaaW.PrintMore
attribute [local go_sem] max2_int min2_int max_two min_two max_three min_three max_four min_four   -- for this text's walks alone
set_option linter.unusedVariables false
set_option linter.unusedSimpArgs false

/-! ### slices_IndexFunc_Sstring_string_at_ChooseApart_1_1: function 57 -/
def slices_IndexFunc_Sstring_string_at_ChooseApart_1_1.l0 : Nat → List ByteArray → Int → Int → List ByteArray → Int → Int → Option (Int)
  | 0, _, _, _, _, _, _ => none
  | k + 1, x0, x7, x8, x41000, x42000, x43000 => if x8 < x7 then (if 0 ≤ x8 then (if x8 < (x0.length : Int) then ((impl_ChooseApart_1_1.f k (rdOf ByteArray.empty x0 x8) x41000 x42000 x43000).bind fun t222 => (if t222 = true then (some x8) else (slices_IndexFunc_Sstring_string_at_ChooseApart_1_1.l0 k x0 x7 (wrap64 (x8 + 1)) x41000 x42000 x43000))) else (none)) else (none)) else (some (-1))
def slices_IndexFunc_Sstring_string_at_ChooseApart_1_1.f (k : Nat) (l0 : List ByteArray) (l40_0 : List ByteArray) (a41_0 : Int) (a42_0 : Int) : Option (Int) := slices_IndexFunc_Sstring_string_at_ChooseApart_1_1.l0 k l0 (l0.length : Int) 0 l40_0 a41_0 a42_0
theorem slices_IndexFunc_Sstring_string_at_ChooseApart_1_1.mono_l : ∀ k, (∀ y0 y1 y2 y3 y4 y5, LeO (slices_IndexFunc_Sstring_string_at_ChooseApart_1_1.l0 k y0 y1 y2 y3 y4 y5) (slices_IndexFunc_Sstring_string_at_ChooseApart_1_1.l0 (k + 1) y0 y1 y2 y3 y4 y5))
  | 0 => fun _ _ _ _ _ _ r h => by simp [slices_IndexFunc_Sstring_string_at_ChooseApart_1_1.l0] at h
  | k + 1 => by
    have ih0 := slices_IndexFunc_Sstring_string_at_ChooseApart_1_1.mono_l k
    · intro y0 y1 y2 y3 y4 y5
      unfold slices_IndexFunc_Sstring_string_at_ChooseApart_1_1.l0
      repeat' first
      | (with_reducible exact ih0 _ _ _ _ _ _)
      | (with_reducible exact impl_ChooseApart_1_1.mono _ _ _ _ _)
      | (with_reducible exact LeO.refl _)
      | (with_reducible exact LeO.none _)
      | (with_reducible refine LeO.ite ?_ ?_)
      | (with_reducible refine LeO.bind ?_ (fun _ => ?_))
      | exact ih0 _ _ _ _ _ _
      | exact impl_ChooseApart_1_1.mono _ _ _ _ _
      | exact LeO.none _
      | refine LeO.ite ?_ ?_
      | refine LeO.bind ?_ (fun _ => ?_)
theorem slices_IndexFunc_Sstring_string_at_ChooseApart_1_1.mono : ∀ a0 a1 a2 a3 k, LeO (slices_IndexFunc_Sstring_string_at_ChooseApart_1_1.f k a0 a1 a2 a3) (slices_IndexFunc_Sstring_string_at_ChooseApart_1_1.f (k + 1) a0 a1 a2 a3) := by
  intro a0 a1 a2 a3 k
  have ih0 := slices_IndexFunc_Sstring_string_at_ChooseApart_1_1.mono_l k
  unfold slices_IndexFunc_Sstring_string_at_ChooseApart_1_1.f
  repeat' first
      | (with_reducible exact ih0 _ _ _ _ _ _)
      | (with_reducible exact impl_ChooseApart_1_1.mono _ _ _ _ _)
      | (with_reducible exact LeO.refl _)
      | (with_reducible exact LeO.none _)
      | (with_reducible refine LeO.ite ?_ ?_)
      | (with_reducible refine LeO.bind ?_ (fun _ => ?_))
      | exact ih0 _ _ _ _ _ _
      | exact impl_ChooseApart_1_1.mono _ _ _ _ _
      | exact LeO.none _
      | refine LeO.ite ?_ ?_
      | refine LeO.bind ?_ (fun _ => ?_)
set_option maxHeartbeats 8000000 in
set_option maxRecDepth 100000 in
theorem slices_IndexFunc_Sstring_string_at_ChooseApart_1_1.calls (k : Nat) (A0 : Option Addr) (c0 : Nat) (l0 : List ByteArray) (b40 : Nat) (b41 : Nat) (b42 : Nat) (A40_0 : Option Addr) (c40_0 : Nat) (l40_0 : List ByteArray) (a41_0 : Int) (a42_0 : Int) (r : Int) (w : World) (hr0 : Kd.C Kd.string w A0 l0.length l0) (hc0 : l0.length ≤ c0) (hr40_0 : Kd.C Kd.string w A40_0 l40_0.length l40_0) (hc40_0 : l40_0.length ≤ c40_0) (hx40 : w.heap[b40]? = some (.cells #[.slice A40_0 l40_0.length c40_0] 22 (0, 0))) (hx41 : w.heap[b41]? = some (.cells #[.int .i64 a41_0] 3 (0, 0))) (hx42 : w.heap[b42]? = some (.cells #[.int .i64 a42_0] 2 (0, 0))) (h : slices_IndexFunc_Sstring_string_at_ChooseApart_1_1.f k l0 l40_0 a41_0 a42_0 = some r) :
    Calls Try.prog 57 #[.slice A0 l0.length c0, .func (.func 40) #[] #[.pointer (some ⟨b40, 0, none⟩), .pointer (some ⟨b41, 0, none⟩), .pointer (some ⟨b42, 0, none⟩)]] w fun e w' => e = .returned (.int .i64 r) ∧ Drawn0 w w' := by
  have HR0 := Aside0.mk hr0
  have HC0 := Aside0.mk hc0
  clear hr0 hc0
  have HR40_0 := Aside0.mk hr40_0
  have HC40_0 := Aside0.mk hc40_0
  clear hr40_0 hc40_0
  have BK40 := Aside0.mk hx40
  clear hx40
  have BK41 := Aside0.mk hx41
  clear hx41
  have BK42 := Aside0.mk hx42
  clear hx42
  have H : (slices_IndexFunc_Sstring_string_at_ChooseApart_1_1.l0 k l0 (l0.length : Int) 0 l40_0 a41_0 a42_0) = some r := h
  clear h
  have H' := Aside0.mk H
  clear H
  go_enter Try.func57, Try.ntmps57
  go_wp2
  go_loopg [8] k (fun kq v8 w' => ∃ (x8_1 : Int), v8 = .int .i64 x8_1 ∧ Aside0 (slices_IndexFunc_Sstring_string_at_ChooseApart_1_1.l0 kq l0 (l0.length : Int) x8_1 l40_0 a41_0 a42_0 = some r) ∧ Aside0 (kq ≤ k) ∧ Aside0 (w'.heap[b40]? = some (.cells #[(.slice A40_0 l40_0.length c40_0)] 22 (0, 0))) ∧ Aside0 (w'.heap[b41]? = some (.cells #[.int .i64 a41_0] 3 (0, 0))) ∧ Aside0 (w'.heap[b42]? = some (.cells #[.int .i64 a42_0] 2 (0, 0))) ∧ Drawn0 w w')
  case atStart => exact ⟨(0), (by first | rfl | (simp; done) | (simp [*]; done)), H', ⟨Nat.le_refl _⟩, ⟨by (with_reducible repeat (first | refine blk_drewN ?_ _ | refine blk_drew ?_ | refine blk_alloc ?_ _)); exact BK40.out⟩, ⟨by (with_reducible repeat (first | refine blk_drewN ?_ _ | refine blk_drew ?_ | refine blk_alloc ?_ _)); exact BK41.out⟩, ⟨by (with_reducible repeat (first | refine blk_drewN ?_ _ | refine blk_drew ?_ | refine blk_alloc ?_ _)); exact BK42.out⟩, by repeat (first | exact Drawn0.refl _ | apply Drawn0.step)⟩
  case round =>
    clear H'
    try clear p2
    obtain ⟨x8_1, rfl, HA, HK1, BK40, BK41, BK42, ⟨m1, rfl⟩⟩ := hrel
    cases gk with
    | zero => exact absurd HA.out (by simp [slices_IndexFunc_Sstring_string_at_ChooseApart_1_1.l0])
    | succ k1 =>
      have H := HA.out
      clear HA
      simp only [slices_IndexFunc_Sstring_string_at_ChooseApart_1_1.l0] at H
      by_cases c3 : x8_1 < (l0.length : Int)
      · rw [if_pos c3] at H
        have c3b0 : decide (x8_1 < (l0.length : Int)) = true := decide_eq_true c3
        clear c3
        by_cases c4 : 0 ≤ x8_1
        · rw [if_pos c4] at H
          have c4b0 : decide (0 ≤ x8_1) = true := decide_eq_true c4
          clear c4
          by_cases c5 : x8_1 < (l0.length : Int)
          · rw [if_pos c5] at H
            have c5b0 : decide (x8_1 < (l0.length : Int)) = true := decide_eq_true c5
            clear c5
            replace H := Option.bind_eq_some_iff.mp H
            obtain ⟨t222, A60, H⟩ := H
            replace H : (if t222 = true then (some x8_1) else (slices_IndexFunc_Sstring_string_at_ChooseApart_1_1.l0 k1 l0 (l0.length : Int) (wrap64 (x8_1 + 1)) l40_0 a41_0 a42_0)) = some r := H
            have A6 := Aside0.mk A60
            clear A60
            by_cases c7 : t222 = true
            · subst c7
              have H1 : (some x8_1) = some r := by rw [if_pos rfl] at H; exact H
              clear H
              have H := H1
              clear H1
              obtain rfl := Option.some.inj H
              have p221 : 0 ≤ (x8_1 : Int) := of_decide_eq_true (by first | (with_reducible assumption) | assumption)
              have q221 : x8_1 < (l0.length : Int) := of_decide_eq_true (by first | (with_reducible assumption) | assumption)
              obtain ⟨ad221, e221, hx221_0⟩ := Kd.at_string HR0.out x8_1 p221 q221
              cases e221
              replace p221 := eq_true p221
              replace q221 := eq_true q221
              go_wp2_with (first | ((with_reducible refine gate_tmpcall (t := 11) rfl ?_); refine goesF_ (some 16) rfl rfl Try.func40 (by kernel_rfl) rfl #[.pointer (some ⟨b40, 0, none⟩), .pointer (some ⟨b41, 0, none⟩), .pointer (some ⟨b42, 0, none⟩)] #[.string (rdOf ByteArray.empty l0 x8_1), .pointer (some ⟨b40, 0, none⟩), .pointer (some ⟨b41, 0, none⟩), .pointer (some ⟨b42, 0, none⟩)] rfl (by first | rfl | (go_simp; done) | (go_simp; rfl)) (by (try simp only [List.map_toArray, List.map_cons, List.map_nil]); first | done | rfl | (simp only [List.length_drop, List.length_take]; rfl) | (go_simp; done)) ?_; (with_reducible refine (impl_ChooseApart_1_1.calls k1 (rdOf ByteArray.empty l0 x8_1) b40 A40_0 c40_0 l40_0 b41 a41_0 b42 a42_0 true _ ?side1 ?side2 ?side3 ?side4 ?side5 A6.out).mono ?_); (case side1 => repeat (first | exact HR40_0.out | (with_reducible refine Kd.C_alloc ?_ _) | (with_reducible refine Kd.C_drewN ?_ _) | (with_reducible refine Kd.C_drew ?_))); (case side2 => exact HC40_0.out); (case side3 => exact (by first | exact BK40.out | ((with_reducible repeat (first | refine blk_drewN ?_ _ | refine blk_drew ?_ | refine blk_alloc ?_ _)); exact BK40.out))); (case side4 => exact (by first | exact BK41.out | ((with_reducible repeat (first | refine blk_drewN ?_ _ | refine blk_drew ?_ | refine blk_alloc ?_ _)); exact BK41.out))); (case side5 => exact (by first | exact BK42.out | ((with_reducible repeat (first | refine blk_drewN ?_ _ | refine blk_drew ?_ | refine blk_alloc ?_ _)); exact BK42.out))); rintro e w' ⟨rfl, ⟨nd, rfl⟩⟩; refine ⟨_, rfl, ?_⟩))
              go_ret
              exact ⟨by first | rfl | (simp; done) | (simp [*]; done), by repeat (first | exact Drawn0.refl _ | apply Drawn0.step)⟩
            · replace c7 := Bool.eq_false_iff.mpr c7
              subst c7
              have H1 : (slices_IndexFunc_Sstring_string_at_ChooseApart_1_1.l0 k1 l0 (l0.length : Int) (wrap64 (x8_1 + 1)) l40_0 a41_0 a42_0) = some r := by rw [if_neg (show ¬ (false = true) by decide)] at H; exact H
              clear H
              have H := H1
              clear H1
              have H' := Aside0.mk H
              clear H
              have p221 : 0 ≤ (x8_1 : Int) := of_decide_eq_true (by first | (with_reducible assumption) | assumption)
              have q221 : x8_1 < (l0.length : Int) := of_decide_eq_true (by first | (with_reducible assumption) | assumption)
              obtain ⟨ad221, e221, hx221_0⟩ := Kd.at_string HR0.out x8_1 p221 q221
              cases e221
              replace p221 := eq_true p221
              replace q221 := eq_true q221
              go_wp2_with (first | ((with_reducible refine gate_tmpcall (t := 11) rfl ?_); refine goesF_ (some 16) rfl rfl Try.func40 (by kernel_rfl) rfl #[.pointer (some ⟨b40, 0, none⟩), .pointer (some ⟨b41, 0, none⟩), .pointer (some ⟨b42, 0, none⟩)] #[.string (rdOf ByteArray.empty l0 x8_1), .pointer (some ⟨b40, 0, none⟩), .pointer (some ⟨b41, 0, none⟩), .pointer (some ⟨b42, 0, none⟩)] rfl (by first | rfl | (go_simp; done) | (go_simp; rfl)) (by (try simp only [List.map_toArray, List.map_cons, List.map_nil]); first | done | rfl | (simp only [List.length_drop, List.length_take]; rfl) | (go_simp; done)) ?_; (with_reducible refine (impl_ChooseApart_1_1.calls k1 (rdOf ByteArray.empty l0 x8_1) b40 A40_0 c40_0 l40_0 b41 a41_0 b42 a42_0 false _ ?side1 ?side2 ?side3 ?side4 ?side5 A6.out).mono ?_); (case side1 => repeat (first | exact HR40_0.out | (with_reducible refine Kd.C_alloc ?_ _) | (with_reducible refine Kd.C_drewN ?_ _) | (with_reducible refine Kd.C_drew ?_))); (case side2 => exact HC40_0.out); (case side3 => exact (by first | exact BK40.out | ((with_reducible repeat (first | refine blk_drewN ?_ _ | refine blk_drew ?_ | refine blk_alloc ?_ _)); exact BK40.out))); (case side4 => exact (by first | exact BK41.out | ((with_reducible repeat (first | refine blk_drewN ?_ _ | refine blk_drew ?_ | refine blk_alloc ?_ _)); exact BK41.out))); (case side5 => exact (by first | exact BK42.out | ((with_reducible repeat (first | refine blk_drewN ?_ _ | refine blk_drew ?_ | refine blk_alloc ?_ _)); exact BK42.out))); rintro e w' ⟨rfl, ⟨nd, rfl⟩⟩; refine ⟨_, rfl, ?_⟩))
              go_roundg k1
              case measure => have := HK1.out; omega
              case rel => exact ⟨(wrap64 (x8_1 + 1)), (by first | rfl | (simp; done) | (simp [*]; done)), H', ⟨by have := HK1.out; omega⟩, ⟨by (with_reducible repeat (first | refine blk_drewN ?_ _ | refine blk_drew ?_ | refine blk_alloc ?_ _)); exact BK40.out⟩, ⟨by (with_reducible repeat (first | refine blk_drewN ?_ _ | refine blk_drew ?_ | refine blk_alloc ?_ _)); exact BK41.out⟩, ⟨by (with_reducible repeat (first | refine blk_drewN ?_ _ | refine blk_drew ?_ | refine blk_alloc ?_ _)); exact BK42.out⟩, by repeat (first | exact Drawn0.refl _ | apply Drawn0.step)⟩
          · rw [if_neg c5] at H
            exact absurd H (by simp)
        · rw [if_neg c4] at H
          exact absurd H (by simp)
      · rw [if_neg c3] at H
        have c3b0 : decide (x8_1 < (l0.length : Int)) = false := decide_eq_false c3
        clear c3
        obtain rfl := Option.some.inj H
        go_wp2
        go_ret
        exact ⟨by first | rfl | (simp; done) | (simp [*]; done), by repeat (first | exact Drawn0.refl _ | apply Drawn0.step)⟩

/-! ### slices_ContainsFunc_Sstring_string_at_ChooseApart_1_1: function 39 -/
def slices_ContainsFunc_Sstring_string_at_ChooseApart_1_1.f (k : Nat) (l0 : List ByteArray) (l40_0 : List ByteArray) (a41_0 : Int) (a42_0 : Int) : Option (Bool) := (slices_IndexFunc_Sstring_string_at_ChooseApart_1_1.f k l0 l40_0 a41_0 a42_0).bind fun t223 => (some (decide (t223 ≥ 0)))
theorem slices_ContainsFunc_Sstring_string_at_ChooseApart_1_1.mono : ∀ a0 a1 a2 a3 k, LeO (slices_ContainsFunc_Sstring_string_at_ChooseApart_1_1.f k a0 a1 a2 a3) (slices_ContainsFunc_Sstring_string_at_ChooseApart_1_1.f (k + 1) a0 a1 a2 a3) := by
  intro a0 a1 a2 a3 k
  unfold slices_ContainsFunc_Sstring_string_at_ChooseApart_1_1.f
  repeat' first
      | (with_reducible exact slices_IndexFunc_Sstring_string_at_ChooseApart_1_1.mono _ _ _ _ _)
      | (with_reducible exact LeO.refl _)
      | (with_reducible exact LeO.none _)
      | (with_reducible refine LeO.ite ?_ ?_)
      | (with_reducible refine LeO.bind ?_ (fun _ => ?_))
      | exact slices_IndexFunc_Sstring_string_at_ChooseApart_1_1.mono _ _ _ _ _
      | exact LeO.none _
      | refine LeO.ite ?_ ?_
      | refine LeO.bind ?_ (fun _ => ?_)
set_option maxHeartbeats 8000000 in
set_option maxRecDepth 100000 in
theorem slices_ContainsFunc_Sstring_string_at_ChooseApart_1_1.calls (k : Nat) (A0 : Option Addr) (c0 : Nat) (l0 : List ByteArray) (b40 : Nat) (b41 : Nat) (b42 : Nat) (A40_0 : Option Addr) (c40_0 : Nat) (l40_0 : List ByteArray) (a41_0 : Int) (a42_0 : Int) (r : Bool) (w : World) (hr0 : Kd.C Kd.string w A0 l0.length l0) (hc0 : l0.length ≤ c0) (hr40_0 : Kd.C Kd.string w A40_0 l40_0.length l40_0) (hc40_0 : l40_0.length ≤ c40_0) (hx40 : w.heap[b40]? = some (.cells #[.slice A40_0 l40_0.length c40_0] 22 (0, 0))) (hx41 : w.heap[b41]? = some (.cells #[.int .i64 a41_0] 3 (0, 0))) (hx42 : w.heap[b42]? = some (.cells #[.int .i64 a42_0] 2 (0, 0))) (h : slices_ContainsFunc_Sstring_string_at_ChooseApart_1_1.f k l0 l40_0 a41_0 a42_0 = some r) :
    Calls Try.prog 39 #[.slice A0 l0.length c0, .func (.func 40) #[] #[.pointer (some ⟨b40, 0, none⟩), .pointer (some ⟨b41, 0, none⟩), .pointer (some ⟨b42, 0, none⟩)]] w fun e w' => e = .returned (.bool r) ∧ Drawn0 w w' := by
  have HR0 := Aside0.mk hr0
  have HC0 := Aside0.mk hc0
  clear hr0 hc0
  have HR40_0 := Aside0.mk hr40_0
  have HC40_0 := Aside0.mk hc40_0
  clear hr40_0 hc40_0
  have BK40 := Aside0.mk hx40
  clear hx40
  have BK41 := Aside0.mk hx41
  clear hx41
  have BK42 := Aside0.mk hx42
  clear hx42
  have H : ((slices_IndexFunc_Sstring_string_at_ChooseApart_1_1.f k l0 l40_0 a41_0 a42_0).bind fun t223 => (some (decide (t223 ≥ 0)))) = some r := h
  clear h
  replace H := Option.bind_eq_some_iff.mp H
  obtain ⟨t223, A30, H⟩ := H
  replace H : (some (decide (t223 ≥ 0))) = some r := H
  have A3 := Aside0.mk A30
  clear A30
  obtain rfl := Option.some.inj H
  go_enter Try.func39, Try.ntmps39
  go_wp2_with (first | ((with_reducible refine gate_callee (f := 57) rfl ?_); refine goesL_ (some 7) rfl rfl Try.func57 (by kernel_rfl) rfl #[.slice A0 l0.length c0, .func (.func 40) #[] #[.pointer (some ⟨b40, 0, none⟩), .pointer (some ⟨b41, 0, none⟩), .pointer (some ⟨b42, 0, none⟩)]] rfl (by (try simp only [List.map_toArray, List.map_cons, List.map_nil]); first | done | rfl | (simp only [List.length_drop, List.length_take]; rfl)) ?_; (with_reducible refine (slices_IndexFunc_Sstring_string_at_ChooseApart_1_1.calls k _ _ l0 b40 b41 b42 A40_0 c40_0 l40_0 a41_0 a42_0 t223 _ ?side1 ?side2 ?side3 ?side4 ?side5 ?side6 ?side7 A3.out).mono ?_); (case side1 => repeat (first | exact HR0.out | (with_reducible refine Kd.C_alloc ?_ _) | (with_reducible refine Kd.C_drewN ?_ _) | (with_reducible refine Kd.C_drew ?_))); (case side2 => exact HC0.out); (case side3 => repeat (first | exact HR40_0.out | (with_reducible refine Kd.C_alloc ?_ _) | (with_reducible refine Kd.C_drewN ?_ _) | (with_reducible refine Kd.C_drew ?_))); (case side4 => exact HC40_0.out); (case side5 => exact (by first | exact BK40.out | ((with_reducible repeat (first | refine blk_drewN ?_ _ | refine blk_drew ?_ | refine blk_alloc ?_ _)); exact BK40.out))); (case side6 => exact (by first | exact BK41.out | ((with_reducible repeat (first | refine blk_drewN ?_ _ | refine blk_drew ?_ | refine blk_alloc ?_ _)); exact BK41.out))); (case side7 => exact (by first | exact BK42.out | ((with_reducible repeat (first | refine blk_drewN ?_ _ | refine blk_drew ?_ | refine blk_alloc ?_ _)); exact BK42.out))); rintro e w' ⟨rfl, ⟨nd, rfl⟩⟩; refine ⟨_, rfl, ?_⟩))
  go_ret
  exact ⟨by first | rfl | (simp; done) | (simp [*]; done), by repeat (first | exact Drawn0.refl _ | apply Drawn0.step)⟩

/-! ### impl_ChooseApart: function 12 -/
def impl_ChooseApart.f (k : Nat) (l0 : List ByteArray) (a1 : Int) : Option (List Int × Int) := (impl_listCode.f k l0 ([] : List S72) ([] : List ByteArray)).bind fun t => (if t = 1 then some (([] : List Int), (1 : Int)) else (impl_within.f a1 0 12).bind fun wb => (if wb = true then (if t = 0 then (if l0.length ≤ 100000 then (match Go.Proofs.Ytkdloidojmccgaa.H.apF (fun tk i => slices_ContainsFunc_Sstring_string_at_ChooseApart_1_1.f k tk l0 (i : Int) a1) l0 l0.length 0 [] [] with | some xs => some (xs, (0 : Int)) | none => none) else none) else some (([] : List Int), t)) else some (([] : List Int), (2 : Int))))
theorem impl_ChooseApart.mono : ∀ a0 a1 k, LeO (impl_ChooseApart.f k a0 a1) (impl_ChooseApart.f (k + 1) a0 a1) := by
  intro a0 a1 k
  unfold impl_ChooseApart.f
  have hin : LeO (match Go.Proofs.Ytkdloidojmccgaa.H.apF (fun tk i => slices_ContainsFunc_Sstring_string_at_ChooseApart_1_1.f k tk a0 (i : Int) a1) a0 a0.length 0 [] [] with | some xs => some (xs, (0 : Int)) | none => none) (match Go.Proofs.Ytkdloidojmccgaa.H.apF (fun tk i => slices_ContainsFunc_Sstring_string_at_ChooseApart_1_1.f (k + 1) tk a0 (i : Int) a1) a0 a0.length 0 [] [] with | some xs => some (xs, (0 : Int)) | none => none) := by
    intro r h
    cases hq : Go.Proofs.Ytkdloidojmccgaa.H.apF (fun tk i => slices_ContainsFunc_Sstring_string_at_ChooseApart_1_1.f k tk a0 (i : Int) a1) a0 a0.length 0 [] [] with
    | none => rw [hq] at h; exact absurd h (by simp)
    | some xs =>
      rw [hq] at h
      have h2 := Go.Proofs.Ytkdloidojmccgaa.H.apF_mono (nr' := fun tk i => slices_ContainsFunc_Sstring_string_at_ChooseApart_1_1.f (k + 1) tk a0 (i : Int) a1) a0 (fun tk i r hr => slices_ContainsFunc_Sstring_string_at_ChooseApart_1_1.mono tk a0 (i : Int) a1 k r hr) _ _ _ _ _ hq
      rw [h2]
      exact h
  repeat' first
      | (with_reducible exact impl_listCode.mono _ _ _ _)
      | (with_reducible exact hin)
      | (with_reducible exact LeO.refl _)
      | (with_reducible exact LeO.none _)
      | (with_reducible refine LeO.ite ?_ ?_)
      | (with_reducible refine LeO.bind ?_ (fun _ => ?_))
      | exact impl_listCode.mono _ _ _ _
      | exact hin
      | exact LeO.none _
      | refine LeO.ite ?_ ?_
      | refine LeO.bind ?_ (fun _ => ?_)
set_option maxHeartbeats 8000000 in
set_option maxRecDepth 1000000 in
theorem impl_ChooseApart.calls (k : Nat) (A0 : Option Addr) (c0 : Nat) (l0 : List ByteArray) (a1 : Int) (r1 : List Int) (r2 : Int) (w : World) (hr0 : Kd.C Kd.string w A0 l0.length l0) (hc0 : l0.length ≤ c0) (h : impl_ChooseApart.f k l0 a1 = some (r1, r2)) :
    Calls Try.prog 12 #[.slice A0 l0.length c0, .int .i64 a1] w fun e w' => ∃ v0_ : Value, e = .returned (.tuple #[v0_, .int .i64 r2]) ∧ Kd.R (Kd.int .i64) 2 w' w.heap.size (fun _ => True) v0_ r1 ∧ Below w.heap.size w w' := by
  unfold impl_ChooseApart.f at h
  obtain ⟨t, ht, h⟩ := Option.bind_eq_some_iff.mp h
  have hwd : ∃ wb, impl_within.f a1 0 12 = some wb := by
    unfold impl_within.f
    split <;> exact ⟨_, rfl⟩
  obtain ⟨wb, hwb⟩ := hwd
  obtain ⟨res, hres⟩ : ∃ res : List Int, (t = 0 → wb = true → l0.length ≤ 100000 ∧ Go.Proofs.Ytkdloidojmccgaa.H.apF (fun tk i => slices_ContainsFunc_Sstring_string_at_ChooseApart_1_1.f k tk l0 (i : Int) a1) l0 l0.length 0 [] [] = some res) ∧ (r1, r2) = Go.Proofs.Ytkdloidojmccgaa.H.apartR t wb res := by
    by_cases c1 : t = 1
    · rw [if_pos c1] at h
      refine ⟨[], fun z => absurd (z.symm.trans c1) (by decide), ?_⟩
      unfold Go.Proofs.Ytkdloidojmccgaa.H.apartR
      rw [if_pos c1]
      exact (Option.some.inj h).symm
    · rw [if_neg c1, hwb, Option.bind_some] at h
      cases wb with
      | false =>
        rw [if_neg (by decide)] at h
        refine ⟨[], fun _ z => absurd z (by decide), ?_⟩
        unfold Go.Proofs.Ytkdloidojmccgaa.H.apartR
        rw [if_neg c1, if_pos rfl]
        exact (Option.some.inj h).symm
      | true =>
        rw [if_pos rfl] at h
        by_cases c2 : t = 0
        · rw [if_pos c2] at h
          by_cases c3 : l0.length ≤ 100000
          · rw [if_pos c3] at h
            cases hq : Go.Proofs.Ytkdloidojmccgaa.H.apF (fun tk i => slices_ContainsFunc_Sstring_string_at_ChooseApart_1_1.f k tk l0 (i : Int) a1) l0 l0.length 0 [] [] with
            | none => rw [hq] at h; exact absurd h (by simp)
            | some xs =>
              rw [hq] at h
              refine ⟨xs, fun _ _ => ⟨c3, rfl⟩, ?_⟩
              unfold Go.Proofs.Ytkdloidojmccgaa.H.apartR
              rw [if_neg c1, if_neg (by decide), if_pos c2]
              exact (Option.some.inj h).symm
          · rw [if_neg c3] at h; exact absurd h (by simp)
        · rw [if_neg c2] at h
          refine ⟨[], fun z => absurd z c2, ?_⟩
          unfold Go.Proofs.Ytkdloidojmccgaa.H.apartR
          rw [if_neg c1, if_neg (by decide), if_neg c2]
          exact (Option.some.inj h).symm
  have hlist : ∀ W, Below w.heap.size w W → Calls Try.prog 35 #[.slice A0 l0.length c0, .slice none 0 0, .slice none 0 0] W fun e w' => e = .returned (.int .i64 t) ∧ Below W.heap.size W w' := fun W hq =>
    impl_listCode.calls k (fun k_ => k_ < w.heap.size) A0 c0 l0 none 0 [] (fun _ => False) none 0 [] t W (Kd.V_mk hc0 (Kd.F_below (Kd.C_F Kd.heap_string hr0) hq)) (Kd.C_nil _ _) (Nat.le_refl _) (Kd.V_nil _ _ _ _ _) ht
  have hwithin : ∀ W, Calls Try.prog 36 #[.int .i64 a1, .int .i64 0, .int .i64 12] W fun e w' => e = .returned (.bool wb) ∧ ∃ n, w' = W.drewN n := fun W =>
    (impl_within.calls a1 0 12 wb W hwb).mono fun e w' z => ⟨z.1, z.2.out⟩
  obtain ⟨rfl, rfl⟩ := Prod.mk.inj hres.2
  refine Go.Proofs.Ytkdloidojmccgaa.H.chooseApart_calls A0 c0 l0 a1 w (fun tk i => slices_ContainsFunc_Sstring_string_at_ChooseApart_1_1.f k tk l0 (i : Int) a1) res t wb hr0 hc0 (fun z y => (hres.1 z y).1) (fun z y => (hres.1 z y).2) hlist hwithin ?_
  intro tk i b W A c bw b4 bl q1 q2 q3 q4 q5 q6 q7
  exact (slices_ContainsFunc_Sstring_string_at_ChooseApart_1_1.calls k A c tk bw b4 bl A0 c0 l0 (i : Int) a1 b W q5 q6 q2 hc0 q3 q7 q4 q1).mono fun e w' z => ⟨z.1, z.2.out⟩

end Go.Proofs.Ytkdloidojmccgaa.P
