-- Printed by wip/print (my turned copy of the kit's print) out of the translation; Lean checks it.
import Derived.Test.YtooidjdgfoioiaaP0
import Derived.Test.YtooidjdgfoioiaaP7
import Derived.Test.YtooidjdgfoioiaaP8
namespace Go.Proofs.Ytooidjdgfoioiaa.P
open Go.RowKit Go.Proofs.YtooidjdgfoioiaaW.PrintWords Go.Proofs.YtooidjdgfoioiaaW.PrintLast Go.Proofs.YtooidjdgfoioiaaW.PrintMore
attribute [local go_sem] max2_int min2_int max_two min_two max_three min_three max_four min_four   -- for this text's walks alone
set_option linter.unusedVariables false
set_option linter.unusedSimpArgs false

/-! ### impl_stateCode_1: function 98 -/
def impl_stateCode_1.f (a0_0 : Int) (a0_1 : Int) (a1_0 : Int) (a1_1 : Int) (a1_2 : Int) (a1_3 : Int) (a1_4 : Int) (a1_5 : Int) (a1_6 : Int) (a1_7 : Int) (a1_8 : Int) (a1_9 : Int) (a1_10 : Int) (a1_11 : Int) : Option (Bool) := (impl_Room_isFree.f a1_0 a1_1 a1_2 a1_3 a1_4 a1_5 a1_6 a1_7 a1_8 a1_9 a1_10 a1_11 a0_0 a0_1).bind fun t197 => (some (!t197))
set_option maxHeartbeats 8000000 in
set_option maxRecDepth 100000 in
theorem impl_stateCode_1.calls (a0_0 : Int) (a0_1 : Int) (b1 : Nat) (a1_0 : Int) (a1_1 : Int) (a1_2 : Int) (a1_3 : Int) (a1_4 : Int) (a1_5 : Int) (a1_6 : Int) (a1_7 : Int) (a1_8 : Int) (a1_9 : Int) (a1_10 : Int) (a1_11 : Int) (r : Bool) (w : World) (hx1 : w.heap[b1]? = some (.cells #[.int .i8 a1_0, .int .i8 a1_1, .int .u16 a1_2, .int .u16 a1_3, .int .u16 a1_4, .int .u16 a1_5, .int .u16 a1_6, .int .u16 a1_7, .int .u16 a1_8, .int .u16 a1_9, .int .u16 a1_10, .int .u16 a1_11] 35 (0, 0))) (h : impl_stateCode_1.f a0_0 a0_1 a1_0 a1_1 a1_2 a1_3 a1_4 a1_5 a1_6 a1_7 a1_8 a1_9 a1_10 a1_11 = some r) :
    Calls Try.prog 98 #[.agg #[.int .i8 a0_0, .int .i8 a0_1], .pointer (some ⟨b1, 0, none⟩)] w fun e w' => e = .returned (.bool r) ∧ Below w.heap.size w w' := by
 have hu62 := Try.underlying62
 have hu35 := Try.underlying35
 have BK1 := ak hx1
 clear hx1
 have HB := ak (Below.refl w.heap.size w)
 have H := h
 unfold impl_stateCode_1.f at H
 clear h
 replace H := Option.bind_eq_some_iff.mp H
 obtain ⟨t197, A30, H⟩ := H
 have A3 := ak A30
 clear A30
 obtain rfl := Option.some.inj H
 go_enter Try.func98, Try.ntmps98
 go_wp2_with (first | ((with_reducible refine gate_dst (N := 2) rfl ?_); refine box_event ?hg (N := 2) ?hd (cs := #[.int .i8 a0_0, .int .i8 a0_1]) (t := 62) ?hr ?_; (case hd => rfl); (case hg => rfl); (case hr => first | (go_simp; done) | (go_simp; rfl)); intro gb196 hg w4 hbox hb; have BK196 := ak (hbox); have GW196 := gS HB hg; have GE196 := gS HB hg; have NB1_196 := nL BK1 hg; have NB196_1 := nG BK1 hg; replace BK1 := kK BK1 hb; replace HB := kB HB hb; clear hb hbox hg; have hnb5 := NB1_196.out; have hnc5 := NB196_1.out; obtain ⟨hcz6_0, hcz6_1, hcz6_2, hcz6_3, hcz6_4, hcz6_5, hcz6_6, hcz6_7, hcz6_8, hcz6_9, hcz6_10, hcz6_11, hfz6_0, hfz6_1, hfz6_2, hfz6_3, hfz6_4, hfz6_5, hfz6_6, hfz6_7, hfz6_8, hfz6_9, hfz6_10, hfz6_11⟩ := cz12 w4 BK1; obtain ⟨hcz7_0, hcz7_1, hfz7_0, hfz7_1⟩ := cz2 w4 BK196) | ((with_reducible refine gate_callee (f := 99) rfl ?_); refine goesL_ (some 6) rfl rfl Try.func99 (by kernel_rfl) rfl #[.agg #[.int .i8 a1_0, .int .i8 a1_1, .int .u16 a1_2, .int .u16 a1_3, .int .u16 a1_4, .int .u16 a1_5, .int .u16 a1_6, .int .u16 a1_7, .int .u16 a1_8, .int .u16 a1_9, .int .u16 a1_10, .int .u16 a1_11], .agg #[.int .i8 a0_0, .int .i8 a0_1]] rfl gl_ ?_; (with_reducible refine (impl_Room_isFree.calls a1_0 a1_1 a1_2 a1_3 a1_4 a1_5 a1_6 a1_7 a1_8 a1_9 a1_10 a1_11 a0_0 a0_1 t197 _ A3.out).mono ?_); rintro e w8 ⟨rfl, hb⟩; refine ⟨_, rfl, ?_⟩; replace BK1 := kK BK1 hb; replace BK196 := kK BK196 hb; replace HB := kB1 HB GE196 hb; (try clear hb)))
 go_ret
 exact ⟨by first | rfl | (simp [errW_none, errW_some] <;> rfl) | (simp [*, errW_none, errW_some] <;> rfl), zBG HB.out GE196.out⟩
/-! ### slices_IndexFunc_Spot_at_stateCode_1: function 90 -/
def slices_IndexFunc_Spot_at_stateCode_1.l0 : Nat → List (S62) → Int → Int → Int → Int → Int → Int → Int → Int → Int → Int → Int → Int → Int → Int → Option (Int)
  | 0, _, _, _, _, _, _, _, _, _, _, _, _, _, _, _ => none
  | k + 1, x0, x7, x8, x41000, x41001, x41002, x41003, x41004, x41005, x41006, x41007, x41008, x41009, x41010, x41011 => if x8 < x7 then (if 0 ≤ x8 then (if x8 < (x0.length : Int) then ((impl_stateCode_1.f ((rd_T62 x0 x8).f0) ((rd_T62 x0 x8).f1) x41000 x41001 x41002 x41003 x41004 x41005 x41006 x41007 x41008 x41009 x41010 x41011).bind fun t199 => (if t199 = true then (some x8) else (slices_IndexFunc_Spot_at_stateCode_1.l0 k x0 x7 (wrap64 (x8 + 1)) x41000 x41001 x41002 x41003 x41004 x41005 x41006 x41007 x41008 x41009 x41010 x41011))) else (none)) else (none)) else (some (-1))
def slices_IndexFunc_Spot_at_stateCode_1.f (k : Nat) (l0 : List (S62)) (a40_0 : Int) (a40_1 : Int) (a40_2 : Int) (a40_3 : Int) (a40_4 : Int) (a40_5 : Int) (a40_6 : Int) (a40_7 : Int) (a40_8 : Int) (a40_9 : Int) (a40_10 : Int) (a40_11 : Int) : Option (Int) := slices_IndexFunc_Spot_at_stateCode_1.l0 k l0 (l0.length : Int) 0 a40_0 a40_1 a40_2 a40_3 a40_4 a40_5 a40_6 a40_7 a40_8 a40_9 a40_10 a40_11
theorem slices_IndexFunc_Spot_at_stateCode_1.mono_l : ∀ k, (∀ y0 y1 y2 y3 y4 y5 y6 y7 y8 y9 y10 y11 y12 y13 y14, LeO (slices_IndexFunc_Spot_at_stateCode_1.l0 k y0 y1 y2 y3 y4 y5 y6 y7 y8 y9 y10 y11 y12 y13 y14) (slices_IndexFunc_Spot_at_stateCode_1.l0 (k + 1) y0 y1 y2 y3 y4 y5 y6 y7 y8 y9 y10 y11 y12 y13 y14))
  | 0 => fun _ _ _ _ _ _ _ _ _ _ _ _ _ _ _ r h => by simp [slices_IndexFunc_Spot_at_stateCode_1.l0] at h
  | k + 1 => by
    have ih0 := slices_IndexFunc_Spot_at_stateCode_1.mono_l k
    · intro y0 y1 y2 y3 y4 y5 y6 y7 y8 y9 y10 y11 y12 y13 y14
      unfold slices_IndexFunc_Spot_at_stateCode_1.l0
      repeat' first
      | (with_reducible exact ih0 ..)
      | (with_reducible exact LeO.refl ..)
      | (with_reducible exact LeO.none ..)
      | (with_reducible refine LeO.ite ?_ ?_)
      | (with_reducible refine LeO.bind ?_ (fun _ => ?_))
theorem slices_IndexFunc_Spot_at_stateCode_1.mono : ∀ a0 a1 a2 a3 a4 a5 a6 a7 a8 a9 a10 a11 a12 k, LeO (slices_IndexFunc_Spot_at_stateCode_1.f k a0 a1 a2 a3 a4 a5 a6 a7 a8 a9 a10 a11 a12) (slices_IndexFunc_Spot_at_stateCode_1.f (k + 1) a0 a1 a2 a3 a4 a5 a6 a7 a8 a9 a10 a11 a12) := by
  intro a0 a1 a2 a3 a4 a5 a6 a7 a8 a9 a10 a11 a12 k
  have ih0 := slices_IndexFunc_Spot_at_stateCode_1.mono_l k
  unfold slices_IndexFunc_Spot_at_stateCode_1.f
  repeat' first
      | (with_reducible exact ih0 ..)
      | (with_reducible exact LeO.refl ..)
      | (with_reducible exact LeO.none ..)
      | (with_reducible refine LeO.ite ?_ ?_)
      | (with_reducible refine LeO.bind ?_ (fun _ => ?_))
set_option maxHeartbeats 8000000 in
set_option maxRecDepth 100000 in
theorem slices_IndexFunc_Spot_at_stateCode_1.calls (k : Nat) (A0 : Option Addr) (c0 : Nat) (l0 : List (S62)) (b40 : Nat) (a40_0 : Int) (a40_1 : Int) (a40_2 : Int) (a40_3 : Int) (a40_4 : Int) (a40_5 : Int) (a40_6 : Int) (a40_7 : Int) (a40_8 : Int) (a40_9 : Int) (a40_10 : Int) (a40_11 : Int) (r : Int) (w : World) (hr0 : Kd.C k62 w A0 l0.length l0) (hc0 : l0.length ≤ c0) (hx40 : w.heap[b40]? = some (.cells #[.int .i8 a40_0, .int .i8 a40_1, .int .u16 a40_2, .int .u16 a40_3, .int .u16 a40_4, .int .u16 a40_5, .int .u16 a40_6, .int .u16 a40_7, .int .u16 a40_8, .int .u16 a40_9, .int .u16 a40_10, .int .u16 a40_11] 35 (0, 0))) (h : slices_IndexFunc_Spot_at_stateCode_1.f k l0 a40_0 a40_1 a40_2 a40_3 a40_4 a40_5 a40_6 a40_7 a40_8 a40_9 a40_10 a40_11 = some r) :
    Calls Try.prog 90 #[.slice A0 l0.length c0, .func (.func 98) #[] #[.pointer (some ⟨b40, 0, none⟩)]] w fun e w' => e = .returned (.int .i64 r) ∧ Below w.heap.size w w' := by
 have hu62 := Try.underlying62
 have HR0 := ak hr0
 have HC0 := ak hc0
 clear hr0 hc0
 have BK40 := ak hx40
 clear hx40
 have HB := ak (Below.refl w.heap.size w)
 have H := h
 unfold slices_IndexFunc_Spot_at_stateCode_1.f at H
 clear h
 have H' := ak H
 clear H
 go_enter Try.func90, Try.ntmps90
 go_wp2
 go_loopg [8] k (fun kq v8 w' => ∃ (x8_1 : Int), v8 = .int .i64 x8_1 ∧ Aside0 (slices_IndexFunc_Spot_at_stateCode_1.l0 kq l0 (l0.length : Int) x8_1 a40_0 a40_1 a40_2 a40_3 a40_4 a40_5 a40_6 a40_7 a40_8 a40_9 a40_10 a40_11 = some r) ∧ Aside0 (kq ≤ k) ∧ Aside0 (w'.heap[b40]? = some (.cells #[.int .i8 a40_0, .int .i8 a40_1, .int .u16 a40_2, .int .u16 a40_3, .int .u16 a40_4, .int .u16 a40_5, .int .u16 a40_6, .int .u16 a40_7, .int .u16 a40_8, .int .u16 a40_9, .int .u16 a40_10, .int .u16 a40_11] 35 (0, 0))) ∧ Aside0 (Below w.heap.size w w'))
 case atStart => exact ⟨(0), (by first | rfl | (simp; done) | (simp [*]; done)), H', ⟨Nat.le_refl _⟩, ⟨(zK BK40.out)⟩, ⟨zB HB.out⟩⟩
 case round => (
 clear H'
 obtain ⟨x8_1, rfl, HA, HK1, BK40, HB⟩ := hrel
 cases gk with
 | zero => exact absurd HA.out (by simp [slices_IndexFunc_Spot_at_stateCode_1.l0])
 | succ k1 => (
 have H := HA.out
 clear HA
 simp only [slices_IndexFunc_Spot_at_stateCode_1.l0] at H
 by_cases c3 : x8_1 < (l0.length : Int)
 {
 rw [if_pos c3] at H
 have c3b0 : decide (x8_1 < (l0.length : Int)) = true := decide_eq_true c3
 clear c3
 by_cases c4 : 0 ≤ x8_1
 {
 rw [if_pos c4] at H
 have c4b0 : decide (0 ≤ x8_1) = true := decide_eq_true c4
 clear c4
 by_cases c5 : x8_1 < (l0.length : Int)
 {
 rw [if_pos c5] at H
 have c5b0 : decide (x8_1 < (l0.length : Int)) = true := decide_eq_true c5
 clear c5
 replace H := Option.bind_eq_some_iff.mp H
 obtain ⟨t199, A60, H⟩ := H
 have A6 := ak A60
 clear A60
 by_cases c7 : t199 = true
 {
 subst c7
 rw [if_pos rfl] at H
 obtain rfl := Option.some.inj H
 have p198 : 0 ≤ (x8_1 : Int) := of_decide_eq_true (by first | (with_reducible assumption) | assumption)
 have q198 : x8_1 < (l0.length : Int) := of_decide_eq_true (by first | (with_reducible assumption) | assumption)
 obtain ⟨ad198, e198, hx198_0, hx198_1⟩ := at_T62 HR0.out x8_1 p198 q198
 cases e198
 replace hx198_0 := (HB.out.cell (World.block_lt_of_cell? w _ hx198_0)).trans hx198_0
 replace hx198_1 := (HB.out.cell (World.block_lt_of_cell? w _ hx198_1)).trans hx198_1
 replace p198 := eq_true p198
 replace q198 := eq_true q198
 go_wp2_with (first | ((with_reducible refine gate_tmpcall (t := 11) rfl ?_); refine goesF_ (some 16) rfl rfl Try.func98 (by kernel_rfl) rfl #[.pointer (some ⟨b40, 0, none⟩)] #[.agg #[.int .i8 ((rd_T62 l0 x8_1).f0), .int .i8 ((rd_T62 l0 x8_1).f1)], .pointer (some ⟨b40, 0, none⟩)] rfl (by first | rfl | (go_simp; done) | (go_simp; rfl)) (by (try simp only [List.map_toArray, List.map_cons, List.map_nil]); first | done | rfl | (simp only [List.length_drop, List.length_take]; rfl) | (go_simp; done)) ?_; (with_reducible refine (impl_stateCode_1.calls ((rd_T62 l0 x8_1).f0) ((rd_T62 l0 x8_1).f1) b40 a40_0 a40_1 a40_2 a40_3 a40_4 a40_5 a40_6 a40_7 a40_8 a40_9 a40_10 a40_11 true _ ?side1 A6.out).mono ?_); (case side1 => exact (zK BK40.out)); rintro e w8 ⟨rfl, hb⟩; refine ⟨_, rfl, ?_⟩; replace BK40 := kK BK40 hb; replace HB := kB HB hb; (try clear hb)))
 go_ret
 exact ⟨by first | rfl | (simp [errW_none, errW_some] <;> rfl) | (simp [*, errW_none, errW_some] <;> rfl), zB HB.out⟩
 }
 {
 replace c7 := Bool.eq_false_iff.mpr c7
 subst c7
 rw [if_neg (show ¬ (false = true) by decide)] at H
 have H' := ak H
 clear H
 have p198 : 0 ≤ (x8_1 : Int) := of_decide_eq_true (by first | (with_reducible assumption) | assumption)
 have q198 : x8_1 < (l0.length : Int) := of_decide_eq_true (by first | (with_reducible assumption) | assumption)
 obtain ⟨ad198, e198, hx198_0, hx198_1⟩ := at_T62 HR0.out x8_1 p198 q198
 cases e198
 replace hx198_0 := (HB.out.cell (World.block_lt_of_cell? w _ hx198_0)).trans hx198_0
 replace hx198_1 := (HB.out.cell (World.block_lt_of_cell? w _ hx198_1)).trans hx198_1
 replace p198 := eq_true p198
 replace q198 := eq_true q198
 go_wp2_with (first | ((with_reducible refine gate_tmpcall (t := 11) rfl ?_); refine goesF_ (some 16) rfl rfl Try.func98 (by kernel_rfl) rfl #[.pointer (some ⟨b40, 0, none⟩)] #[.agg #[.int .i8 ((rd_T62 l0 x8_1).f0), .int .i8 ((rd_T62 l0 x8_1).f1)], .pointer (some ⟨b40, 0, none⟩)] rfl (by first | rfl | (go_simp; done) | (go_simp; rfl)) (by (try simp only [List.map_toArray, List.map_cons, List.map_nil]); first | done | rfl | (simp only [List.length_drop, List.length_take]; rfl) | (go_simp; done)) ?_; (with_reducible refine (impl_stateCode_1.calls ((rd_T62 l0 x8_1).f0) ((rd_T62 l0 x8_1).f1) b40 a40_0 a40_1 a40_2 a40_3 a40_4 a40_5 a40_6 a40_7 a40_8 a40_9 a40_10 a40_11 false _ ?side1 A6.out).mono ?_); (case side1 => exact (zK BK40.out)); rintro e w9 ⟨rfl, hb⟩; refine ⟨_, rfl, ?_⟩; replace BK40 := kK BK40 hb; replace HB := kB HB hb; (try clear hb)))
 go_roundg k1
 case measure => have := HK1.out; omega
 case rel => exact ⟨(wrap64 (x8_1 + 1)), (by first | rfl | (simp; done) | (simp [*]; done)), H', ⟨by have := HK1.out; omega⟩, ⟨(zK BK40.out)⟩, ⟨zB HB.out⟩⟩
 }
 }
 · rw [if_neg c5] at H; exact absurd H (by simp)
 }
 · rw [if_neg c4] at H; exact absurd H (by simp)
 }
 {
 rw [if_neg c3] at H
 have c3b0 : decide (x8_1 < (l0.length : Int)) = false := decide_eq_false c3
 clear c3
 obtain rfl := Option.some.inj H
 go_wp2
 go_ret
 exact ⟨by first | rfl | (simp [errW_none, errW_some] <;> rfl) | (simp [*, errW_none, errW_some] <;> rfl), zB HB.out⟩
 }
 )
 )
/-! ### slices_ContainsFunc_Spot_at_stateCode_1: function 76 -/
def slices_ContainsFunc_Spot_at_stateCode_1.f (k : Nat) (l0 : List (S62)) (a40_0 : Int) (a40_1 : Int) (a40_2 : Int) (a40_3 : Int) (a40_4 : Int) (a40_5 : Int) (a40_6 : Int) (a40_7 : Int) (a40_8 : Int) (a40_9 : Int) (a40_10 : Int) (a40_11 : Int) : Option (Bool) := (slices_IndexFunc_Spot_at_stateCode_1.f k l0 a40_0 a40_1 a40_2 a40_3 a40_4 a40_5 a40_6 a40_7 a40_8 a40_9 a40_10 a40_11).bind fun t200 => (some (decide (t200 ≥ 0)))
theorem slices_ContainsFunc_Spot_at_stateCode_1.mono : ∀ a0 a1 a2 a3 a4 a5 a6 a7 a8 a9 a10 a11 a12 k, LeO (slices_ContainsFunc_Spot_at_stateCode_1.f k a0 a1 a2 a3 a4 a5 a6 a7 a8 a9 a10 a11 a12) (slices_ContainsFunc_Spot_at_stateCode_1.f (k + 1) a0 a1 a2 a3 a4 a5 a6 a7 a8 a9 a10 a11 a12) := by
  intro a0 a1 a2 a3 a4 a5 a6 a7 a8 a9 a10 a11 a12 k
  unfold slices_ContainsFunc_Spot_at_stateCode_1.f
  repeat' first
      | (with_reducible exact slices_IndexFunc_Spot_at_stateCode_1.mono ..)
      | (with_reducible exact LeO.refl ..)
      | (with_reducible exact LeO.none ..)
      | (with_reducible refine LeO.ite ?_ ?_)
      | (with_reducible refine LeO.bind ?_ (fun _ => ?_))
set_option maxHeartbeats 8000000 in
set_option maxRecDepth 100000 in
theorem slices_ContainsFunc_Spot_at_stateCode_1.calls (k : Nat) (A0 : Option Addr) (c0 : Nat) (l0 : List (S62)) (b40 : Nat) (a40_0 : Int) (a40_1 : Int) (a40_2 : Int) (a40_3 : Int) (a40_4 : Int) (a40_5 : Int) (a40_6 : Int) (a40_7 : Int) (a40_8 : Int) (a40_9 : Int) (a40_10 : Int) (a40_11 : Int) (r : Bool) (w : World) (hr0 : Kd.C k62 w A0 l0.length l0) (hc0 : l0.length ≤ c0) (hx40 : w.heap[b40]? = some (.cells #[.int .i8 a40_0, .int .i8 a40_1, .int .u16 a40_2, .int .u16 a40_3, .int .u16 a40_4, .int .u16 a40_5, .int .u16 a40_6, .int .u16 a40_7, .int .u16 a40_8, .int .u16 a40_9, .int .u16 a40_10, .int .u16 a40_11] 35 (0, 0))) (h : slices_ContainsFunc_Spot_at_stateCode_1.f k l0 a40_0 a40_1 a40_2 a40_3 a40_4 a40_5 a40_6 a40_7 a40_8 a40_9 a40_10 a40_11 = some r) :
    Calls Try.prog 76 #[.slice A0 l0.length c0, .func (.func 98) #[] #[.pointer (some ⟨b40, 0, none⟩)]] w fun e w' => e = .returned (.bool r) ∧ Below w.heap.size w w' := by
 have HR0 := ak hr0
 have HC0 := ak hc0
 clear hr0 hc0
 have BK40 := ak hx40
 clear hx40
 have HB := ak (Below.refl w.heap.size w)
 have H := h
 unfold slices_ContainsFunc_Spot_at_stateCode_1.f at H
 clear h
 replace H := Option.bind_eq_some_iff.mp H
 obtain ⟨t200, A30, H⟩ := H
 have A3 := ak A30
 clear A30
 obtain rfl := Option.some.inj H
 go_enter Try.func76, Try.ntmps76
 go_wp2_with (first | ((with_reducible refine gate_callee (f := 90) rfl ?_); refine goesL_ (some 7) rfl rfl Try.func90 (by kernel_rfl) rfl #[.slice A0 l0.length c0, .func (.func 98) #[] #[.pointer (some ⟨b40, 0, none⟩)]] rfl gl_ ?_; (with_reducible refine (slices_IndexFunc_Spot_at_stateCode_1.calls k _ _ l0 b40 a40_0 a40_1 a40_2 a40_3 a40_4 a40_5 a40_6 a40_7 a40_8 a40_9 a40_10 a40_11 t200 _ ?side1 ?side2 ?side3 A3.out).mono ?_); (case side1 => exact sD HR0); (case side2 => exact HC0.out); (case side3 => exact (zK BK40.out)); rintro e w4 ⟨rfl, hb⟩; refine ⟨_, rfl, ?_⟩; replace BK40 := kK BK40 hb; replace HB := kB HB hb; (try clear hb)))
 go_ret
 exact ⟨by first | rfl | (simp [errW_none, errW_some] <;> rfl) | (simp [*, errW_none, errW_some] <;> rfl), zB HB.out⟩
/-! ### impl_stateCode: function 92 -/
def impl_stateCode.f (k : Nat) (a0_0 : Int) (a0_1 : Int) (a0_2 : Int) (a0_3 : Int) (a0_4 : Int) (a0_5 : Int) (a0_6 : Int) (a0_7 : Int) (a0_8 : Int) (a0_9 : Int) (a0_10 : Int) (a0_11 : Int) (l1 : List (S62)) : Option (Int) := (slices_ContainsFunc_Spot_at_stateCode_1.f k l1 a0_0 a0_1 a0_2 a0_3 a0_4 a0_5 a0_6 a0_7 a0_8 a0_9 a0_10 a0_11).bind fun t202 => ((impl_unless.f (!t202) 4).bind fun t203 => (some t203))
theorem impl_stateCode.mono : ∀ a0 a1 a2 a3 a4 a5 a6 a7 a8 a9 a10 a11 a12 k, LeO (impl_stateCode.f k a0 a1 a2 a3 a4 a5 a6 a7 a8 a9 a10 a11 a12) (impl_stateCode.f (k + 1) a0 a1 a2 a3 a4 a5 a6 a7 a8 a9 a10 a11 a12) := by
  intro a0 a1 a2 a3 a4 a5 a6 a7 a8 a9 a10 a11 a12 k
  unfold impl_stateCode.f
  repeat' first
      | (with_reducible exact slices_ContainsFunc_Spot_at_stateCode_1.mono ..)
      | (with_reducible exact LeO.refl ..)
      | (with_reducible exact LeO.none ..)
      | (with_reducible refine LeO.ite ?_ ?_)
      | (with_reducible refine LeO.bind ?_ (fun _ => ?_))
set_option maxHeartbeats 8000000 in
set_option maxRecDepth 100000 in
theorem impl_stateCode.calls (k : Nat) (a0_0 : Int) (a0_1 : Int) (a0_2 : Int) (a0_3 : Int) (a0_4 : Int) (a0_5 : Int) (a0_6 : Int) (a0_7 : Int) (a0_8 : Int) (a0_9 : Int) (a0_10 : Int) (a0_11 : Int) (A1 : Option Addr) (c1 : Nat) (l1 : List (S62)) (r : Int) (w : World) (hr1 : Kd.C k62 w A1 l1.length l1) (hc1 : l1.length ≤ c1) (h : impl_stateCode.f k a0_0 a0_1 a0_2 a0_3 a0_4 a0_5 a0_6 a0_7 a0_8 a0_9 a0_10 a0_11 l1 = some r) :
    Calls Try.prog 92 #[.agg #[.int .i8 a0_0, .int .i8 a0_1, .int .u16 a0_2, .int .u16 a0_3, .int .u16 a0_4, .int .u16 a0_5, .int .u16 a0_6, .int .u16 a0_7, .int .u16 a0_8, .int .u16 a0_9, .int .u16 a0_10, .int .u16 a0_11], .slice A1 l1.length c1] w fun e w' => e = .returned (.int .i64 r) ∧ Below w.heap.size w w' := by
 have hu35 := Try.underlying35
 have HR1 := ak hr1
 have HC1 := ak hc1
 clear hr1 hc1
 have HB := ak (Below.refl w.heap.size w)
 have H := h
 unfold impl_stateCode.f at H
 clear h
 replace H := Option.bind_eq_some_iff.mp H
 obtain ⟨t202, A30, H⟩ := H
 have A3 := ak A30
 clear A30
 replace H := Option.bind_eq_some_iff.mp H
 obtain ⟨t203, A40, H⟩ := H
 have A4 := ak A40
 clear A40
 obtain rfl := Option.some.inj H
 go_enter Try.func92, Try.ntmps92
 go_wp2_with (first | ((with_reducible refine gate_dst (N := 2) rfl ?_); refine box_event ?hg (N := 2) ?hd (cs := #[.int .i8 a0_0, .int .i8 a0_1, .int .u16 a0_2, .int .u16 a0_3, .int .u16 a0_4, .int .u16 a0_5, .int .u16 a0_6, .int .u16 a0_7, .int .u16 a0_8, .int .u16 a0_9, .int .u16 a0_10, .int .u16 a0_11]) (t := 35) ?hr ?_; (case hd => rfl); (case hg => rfl); (case hr => first | (go_simp; done) | (go_simp; rfl)); intro gb201 hg w5 hbox hb; have BK201 := ak (hbox); have GW201 := gS HB hg; have GE201 := gS HB hg; replace HB := kB HB hb; clear hb hbox hg) | ((with_reducible refine gate_callee (f := 76) rfl ?_); refine goesL_ (some 7) rfl rfl Try.func76 (by kernel_rfl) rfl #[.slice A1 l1.length c1, .func (.func 98) #[] #[.pointer (some ⟨gb201, 0, none⟩)]] rfl gl_ ?_; (with_reducible refine (slices_ContainsFunc_Spot_at_stateCode_1.calls k _ _ l1 gb201 a0_0 a0_1 a0_2 a0_3 a0_4 a0_5 a0_6 a0_7 a0_8 a0_9 a0_10 a0_11 t202 _ ?side1 ?side2 ?side3 A3.out).mono ?_); (case side1 => exact sQ (Kd.C_below HR1.out HB.out)); (case side2 => exact HC1.out); (case side3 => exact (zK BK201.out)); rintro e w6 ⟨rfl, hb⟩; refine ⟨_, rfl, ?_⟩; replace BK201 := kK BK201 hb; replace HB := kB1 HB GE201 hb; (try clear hb)) | ((with_reducible refine gate_callee (f := 75) rfl ?_); refine goesL_ (some 9) rfl rfl Try.func75 (by kernel_rfl) rfl #[.bool (!t202), .int .i64 4] rfl gl_ ?_; (with_reducible refine (impl_unless.calls (!t202) 4 t203 _ A4.out).mono ?_); rintro e w' ⟨rfl, ⟨nd, rfl⟩⟩; refine ⟨_, rfl, ?_⟩))
 go_ret
 exact ⟨by first | rfl | (simp [errW_none, errW_some] <;> rfl) | (simp [*, errW_none, errW_some] <;> rfl), zBG HB.out GE201.out⟩
/-! ### impl_firstOf: function 91 -/
def impl_firstOf.l0 : Nat → List Int → Int → Int → Option (Int)
  | 0, _, _, _ => none
  | k + 1, x5, x6, x7 => if x7 < x6 then (if 0 ≤ x7 then (if x7 < (x5.length : Int) then (if (rd x5 x7) = 0 then (impl_firstOf.l0 k x5 x6 (wrap64 (x7 + 1))) else (some (rd x5 x7))) else (none)) else (none)) else (some 0)
def impl_firstOf.f (k : Nat) (l0 : List Int) : Option (Int) := impl_firstOf.l0 k l0 (l0.length : Int) 0
theorem impl_firstOf.mono_l : ∀ k, (∀ y0 y1 y2, LeO (impl_firstOf.l0 k y0 y1 y2) (impl_firstOf.l0 (k + 1) y0 y1 y2))
  | 0 => fun _ _ _ r h => by simp [impl_firstOf.l0] at h
  | k + 1 => by
    have ih0 := impl_firstOf.mono_l k
    · intro y0 y1 y2
      unfold impl_firstOf.l0
      repeat' first
      | (with_reducible exact ih0 ..)
      | (with_reducible exact LeO.refl ..)
      | (with_reducible exact LeO.none ..)
      | (with_reducible refine LeO.ite ?_ ?_)
      | (with_reducible refine LeO.bind ?_ (fun _ => ?_))
theorem impl_firstOf.mono : ∀ a0 k, LeO (impl_firstOf.f k a0) (impl_firstOf.f (k + 1) a0) := by
  intro a0 k
  have ih0 := impl_firstOf.mono_l k
  unfold impl_firstOf.f
  repeat' first
      | (with_reducible exact ih0 ..)
      | (with_reducible exact LeO.refl ..)
      | (with_reducible exact LeO.none ..)
      | (with_reducible refine LeO.ite ?_ ?_)
      | (with_reducible refine LeO.bind ?_ (fun _ => ?_))
set_option maxHeartbeats 8000000 in
set_option maxRecDepth 100000 in
theorem impl_firstOf.calls (k : Nat) (A0 : Option Addr) (c0 : Nat) (l0 : List Int) (r : Int) (w : World) (hr0 : Kd.C (Kd.int .i64) w A0 l0.length l0) (hc0 : l0.length ≤ c0) (h : impl_firstOf.f k l0 = some r) :
    Calls Try.prog 91 #[.slice A0 l0.length c0] w fun e w' => e = .returned (.int .i64 r) ∧ Drawn0 w w' := by
 have HR0 := ak hr0
 have HC0 := ak hc0
 clear hr0 hc0
 have H := h
 unfold impl_firstOf.f at H
 clear h
 have H' := ak H
 clear H
 go_enter Try.func91, Try.ntmps91
 go_wp2
 go_loopg [7] k (fun kq v7 w' => ∃ (x7_1 : Int), v7 = .int .i64 x7_1 ∧ Aside0 (impl_firstOf.l0 kq l0 (l0.length : Int) x7_1 = some r) ∧ Aside0 (kq ≤ k) ∧ Drawn0 w w')
 case atStart => exact ⟨(0), (by first | rfl | (simp; done) | (simp [*]; done)), H', ⟨Nat.le_refl _⟩, by repeat (first | exact Drawn0.refl _ | apply Drawn0.step)⟩
 case round => (
 clear H'
 obtain ⟨x7_1, rfl, HA, HK1, ⟨m1, rfl⟩⟩ := hrel
 cases gk with
 | zero => exact absurd HA.out (by simp [impl_firstOf.l0])
 | succ k1 => (
 have H := HA.out
 clear HA
 simp only [impl_firstOf.l0] at H
 by_cases c2 : x7_1 < (l0.length : Int)
 {
 rw [if_pos c2] at H
 have c2b0 : decide (x7_1 < (l0.length : Int)) = true := decide_eq_true c2
 clear c2
 by_cases c3 : 0 ≤ x7_1
 {
 rw [if_pos c3] at H
 have c3b0 : decide (0 ≤ x7_1) = true := decide_eq_true c3
 clear c3
 by_cases c4 : x7_1 < (l0.length : Int)
 {
 rw [if_pos c4] at H
 have c4b0 : decide (x7_1 < (l0.length : Int)) = true := decide_eq_true c4
 clear c4
 by_cases c5 : (rd l0 x7_1) = 0
 {
 rw [if_pos c5] at H
 have c5b0 : ((rd l0 x7_1) == 0) = true := beq_iff_eq.mpr c5
 have c5b1 : ((rd l0 x7_1) != 0) = false := bne_eq_false_iff_eq.mpr c5
 clear c5
 have H' := ak H
 clear H
 have p204 : 0 ≤ (x7_1 : Int) := of_decide_eq_true (by first | (with_reducible assumption) | assumption)
 have q204 : x7_1 < (l0.length : Int) := of_decide_eq_true (by first | (with_reducible assumption) | assumption)
 obtain ⟨ad204, e204, hx204_0⟩ := Kd.at_int HR0.out x7_1 p204 q204
 cases e204
 replace p204 := eq_true p204
 replace q204 := eq_true q204
 go_wp2
 go_roundg k1
 case measure => have := HK1.out; omega
 case rel => exact ⟨(wrap64 (x7_1 + 1)), (by first | rfl | (simp; done) | (simp [*]; done)), H', ⟨by have := HK1.out; omega⟩, by repeat (first | exact Drawn0.refl _ | apply Drawn0.step)⟩
 }
 {
 rw [if_neg c5] at H
 have c5b0 : ((rd l0 x7_1) == 0) = false := beq_eq_false_iff_ne.mpr c5
 have c5b1 : ((rd l0 x7_1) != 0) = true := bne_iff_ne.mpr c5
 obtain rfl := Option.some.inj H
 have p204 : 0 ≤ (x7_1 : Int) := of_decide_eq_true (by first | (with_reducible assumption) | assumption)
 have q204 : x7_1 < (l0.length : Int) := of_decide_eq_true (by first | (with_reducible assumption) | assumption)
 obtain ⟨ad204, e204, hx204_0⟩ := Kd.at_int HR0.out x7_1 p204 q204
 cases e204
 replace p204 := eq_true p204
 replace q204 := eq_true q204
 go_wp2
 go_ret
 exact ⟨by first | rfl | (simp; done) | (simp [*]; done), by repeat (first | exact Drawn0.refl _ | apply Drawn0.step)⟩
 }
 }
 · rw [if_neg c4] at H; exact absurd H (by simp)
 }
 · rw [if_neg c3] at H; exact absurd H (by simp)
 }
 {
 rw [if_neg c2] at H
 have c2b0 : decide (x7_1 < (l0.length : Int)) = false := decide_eq_false c2
 clear c2
 obtain rfl := Option.some.inj H
 go_wp2
 go_ret
 exact ⟨by first | rfl | (simp; done) | (simp [*]; done), by repeat (first | exact Drawn0.refl _ | apply Drawn0.step)⟩
 }
 )
 )
/-! ### impl_NextSpot: function 102 -/
def impl_NextSpot.f (a0_0 : Int) (a0_1 : Int) (a1 : Int) : Option (Int × Int) := if a1 = 0 then (some (a0_0, IntKind.i8.wrap (a0_1 - 1))) else (if a1 = 1 then (some (IntKind.i8.wrap (a0_0 + 1), a0_1)) else (if a1 = 2 then (some (a0_0, IntKind.i8.wrap (a0_1 + 1))) else (if a1 = 3 then (some (IntKind.i8.wrap (a0_0 - 1), a0_1)) else (some (a0_0, a0_1)))))
set_option maxHeartbeats 8000000 in
set_option maxRecDepth 100000 in
theorem impl_NextSpot.calls (a0_0 : Int) (a0_1 : Int) (a1 : Int) (r1 : Int) (r2 : Int) (w : World) (h : impl_NextSpot.f a0_0 a0_1 a1 = some (r1, r2)) :
    Calls Try.prog 102 #[.agg #[.int .i8 a0_0, .int .i8 a0_1], .int .i64 a1] w fun e w' => e = .returned (.agg #[.int .i8 r1, .int .i8 r2]) ∧ Below w.heap.size w w' := by
 have hu62 := Try.underlying62
 have HB := ak (Below.refl w.heap.size w)
 have H := h
 unfold impl_NextSpot.f at H
 clear h
 by_cases c3 : a1 = 0
 {
 rw [if_pos c3] at H
 have c3b0 : (a1 == 0) = true := beq_iff_eq.mpr c3
 have c3b1 : (a1 != 0) = false := bne_eq_false_iff_eq.mpr c3
 clear c3
 simp only [Option.some.injEq, Prod.mk.injEq] at H
 obtain ⟨rfl, rfl⟩ := H
 go_enter Try.func102, Try.ntmps102
 go_wp2_with (first | ((with_reducible refine gate_dst (N := 2) rfl ?_); refine box_event ?hg (N := 2) ?hd (cs := #[.int .i8 a0_0, .int .i8 a0_1]) (t := 62) ?hr ?_; (case hd => rfl); (case hg => rfl); (case hr => first | (go_simp; done) | (go_simp; rfl)); intro gb205 hg w4 hbox hb; have BK205 := ak (hbox); have GW205 := gS HB hg; have GE205 := gS HB hg; replace HB := kB HB hb; clear hb hbox hg) | ((with_reducible refine gate_dst (N := 4) rfl ?_); refine box_event ?hg (N := 4) ?hd (cs := #[.int .i8 0, .int .i8 0]) (t := 62) ?hr ?_; (case hd => rfl); (case hg => rfl); (case hr => first | (go_simp; done) | (go_simp; rfl)); intro gb206 hg w5 hbox hb; have BK206 := ak (hbox); have GW206 := gS1 HB GE205 hg; have GE206 := gS1 HB GE205 hg; have NB205_206 := nL BK205 hg; have NB206_205 := nG BK205 hg; replace BK205 := kK BK205 hb; replace HB := kB1 HB GE205 hb; clear hb hbox hg; have hnb6 := NB205_206.out; have hnc6 := NB206_205.out; obtain ⟨hcz7_0, hcz7_1, hfz7_0, hfz7_1⟩ := cz2 w5 BK205; obtain ⟨hcz8_0, hcz8_1, hfz8_0, hfz8_1⟩ := cz2 w5 BK206))
 refine bodyPost_ret (results_cell_row rfl _ _ gb206 62 #[.int .i8 a0_0, .int .i8 (IntKind.i8.wrap (a0_1 - 1))] (0, 0) _ rfl (by (with_reducible repeat (first | refine blk_drewN ?_ _ | refine blk_drew ?_ | refine blk_alloc ?_ _)); refine blk_put (cs := #[.int .i8 a0_0, .int .i8 0]) ?_ 1 _ rfl; (with_reducible repeat (first | refine blk_drewN ?_ _ | refine blk_drew ?_ | refine blk_alloc ?_ _)); refine blk_put (cs := #[.int .i8 0, .int .i8 0]) ?_ 0 _ rfl; (with_reducible repeat (first | refine blk_drewN ?_ _ | refine blk_drew ?_ | refine blk_alloc ?_ _)); refine blk_far ?_ NB206_205.out _; (with_reducible repeat (first | refine blk_drewN ?_ _ | refine blk_drew ?_ | refine blk_alloc ?_ _)); exact BK206.out) Try.underlying62 rfl (by kernel_rfl)) rfl ?_
 exact ⟨by first | rfl | (simp [errW_none, errW_some] <;> rfl) | (simp [*, errW_none, errW_some] <;> rfl), zH2 HB GE205 GE206⟩
 }
 {
 rw [if_neg c3] at H
 have c3b0 : (a1 == 0) = false := beq_eq_false_iff_ne.mpr c3
 have c3b1 : (a1 != 0) = true := bne_iff_ne.mpr c3
 by_cases c9 : a1 = 1
 {
 rw [if_pos c9] at H
 have c9b0 : (a1 == 1) = true := beq_iff_eq.mpr c9
 have c9b1 : (a1 != 1) = false := bne_eq_false_iff_eq.mpr c9
 clear c9
 simp only [Option.some.injEq, Prod.mk.injEq] at H
 obtain ⟨rfl, rfl⟩ := H
 go_enter Try.func102, Try.ntmps102
 go_wp2_with (first | ((with_reducible refine gate_dst (N := 2) rfl ?_); refine box_event ?hg (N := 2) ?hd (cs := #[.int .i8 a0_0, .int .i8 a0_1]) (t := 62) ?hr ?_; (case hd => rfl); (case hg => rfl); (case hr => first | (go_simp; done) | (go_simp; rfl)); intro gb205 hg w10 hbox hb; have BK205 := ak (hbox); have GW205 := gS HB hg; have GE205 := gS HB hg; replace HB := kB HB hb; clear hb hbox hg) | ((with_reducible refine gate_dst (N := 4) rfl ?_); refine box_event ?hg (N := 4) ?hd (cs := #[.int .i8 0, .int .i8 0]) (t := 62) ?hr ?_; (case hd => rfl); (case hg => rfl); (case hr => first | (go_simp; done) | (go_simp; rfl)); intro gb206 hg w11 hbox hb; have BK206 := ak (hbox); have GW206 := gS1 HB GE205 hg; have GE206 := gS1 HB GE205 hg; have NB205_206 := nL BK205 hg; have NB206_205 := nG BK205 hg; replace BK205 := kK BK205 hb; replace HB := kB1 HB GE205 hb; clear hb hbox hg; have hnb12 := NB205_206.out; have hnc12 := NB206_205.out; obtain ⟨hcz13_0, hcz13_1, hfz13_0, hfz13_1⟩ := cz2 w11 BK205; obtain ⟨hcz14_0, hcz14_1, hfz14_0, hfz14_1⟩ := cz2 w11 BK206))
 refine bodyPost_ret (results_cell_row rfl _ _ gb206 62 #[.int .i8 (IntKind.i8.wrap (a0_0 + 1)), .int .i8 a0_1] (0, 0) _ rfl (by (with_reducible repeat (first | refine blk_drewN ?_ _ | refine blk_drew ?_ | refine blk_alloc ?_ _)); refine blk_put (cs := #[.int .i8 (IntKind.i8.wrap (a0_0 + 1)), .int .i8 0]) ?_ 1 _ rfl; (with_reducible repeat (first | refine blk_drewN ?_ _ | refine blk_drew ?_ | refine blk_alloc ?_ _)); refine blk_put (cs := #[.int .i8 0, .int .i8 0]) ?_ 0 _ rfl; (with_reducible repeat (first | refine blk_drewN ?_ _ | refine blk_drew ?_ | refine blk_alloc ?_ _)); refine blk_far ?_ NB206_205.out _; (with_reducible repeat (first | refine blk_drewN ?_ _ | refine blk_drew ?_ | refine blk_alloc ?_ _)); exact BK206.out) Try.underlying62 rfl (by kernel_rfl)) rfl ?_
 exact ⟨by first | rfl | (simp [errW_none, errW_some] <;> rfl) | (simp [*, errW_none, errW_some] <;> rfl), zH2 HB GE205 GE206⟩
 }
 {
 rw [if_neg c9] at H
 have c9b0 : (a1 == 1) = false := beq_eq_false_iff_ne.mpr c9
 have c9b1 : (a1 != 1) = true := bne_iff_ne.mpr c9
 by_cases c15 : a1 = 2
 {
 rw [if_pos c15] at H
 have c15b0 : (a1 == 2) = true := beq_iff_eq.mpr c15
 have c15b1 : (a1 != 2) = false := bne_eq_false_iff_eq.mpr c15
 clear c15
 simp only [Option.some.injEq, Prod.mk.injEq] at H
 obtain ⟨rfl, rfl⟩ := H
 go_enter Try.func102, Try.ntmps102
 go_wp2_with (first | ((with_reducible refine gate_dst (N := 2) rfl ?_); refine box_event ?hg (N := 2) ?hd (cs := #[.int .i8 a0_0, .int .i8 a0_1]) (t := 62) ?hr ?_; (case hd => rfl); (case hg => rfl); (case hr => first | (go_simp; done) | (go_simp; rfl)); intro gb205 hg w16 hbox hb; have BK205 := ak (hbox); have GW205 := gS HB hg; have GE205 := gS HB hg; replace HB := kB HB hb; clear hb hbox hg) | ((with_reducible refine gate_dst (N := 4) rfl ?_); refine box_event ?hg (N := 4) ?hd (cs := #[.int .i8 0, .int .i8 0]) (t := 62) ?hr ?_; (case hd => rfl); (case hg => rfl); (case hr => first | (go_simp; done) | (go_simp; rfl)); intro gb206 hg w17 hbox hb; have BK206 := ak (hbox); have GW206 := gS1 HB GE205 hg; have GE206 := gS1 HB GE205 hg; have NB205_206 := nL BK205 hg; have NB206_205 := nG BK205 hg; replace BK205 := kK BK205 hb; replace HB := kB1 HB GE205 hb; clear hb hbox hg; have hnb18 := NB205_206.out; have hnc18 := NB206_205.out; obtain ⟨hcz19_0, hcz19_1, hfz19_0, hfz19_1⟩ := cz2 w17 BK205; obtain ⟨hcz20_0, hcz20_1, hfz20_0, hfz20_1⟩ := cz2 w17 BK206))
 refine bodyPost_ret (results_cell_row rfl _ _ gb206 62 #[.int .i8 a0_0, .int .i8 (IntKind.i8.wrap (a0_1 + 1))] (0, 0) _ rfl (by (with_reducible repeat (first | refine blk_drewN ?_ _ | refine blk_drew ?_ | refine blk_alloc ?_ _)); refine blk_put (cs := #[.int .i8 a0_0, .int .i8 0]) ?_ 1 _ rfl; (with_reducible repeat (first | refine blk_drewN ?_ _ | refine blk_drew ?_ | refine blk_alloc ?_ _)); refine blk_put (cs := #[.int .i8 0, .int .i8 0]) ?_ 0 _ rfl; (with_reducible repeat (first | refine blk_drewN ?_ _ | refine blk_drew ?_ | refine blk_alloc ?_ _)); refine blk_far ?_ NB206_205.out _; (with_reducible repeat (first | refine blk_drewN ?_ _ | refine blk_drew ?_ | refine blk_alloc ?_ _)); exact BK206.out) Try.underlying62 rfl (by kernel_rfl)) rfl ?_
 exact ⟨by first | rfl | (simp [errW_none, errW_some] <;> rfl) | (simp [*, errW_none, errW_some] <;> rfl), zH2 HB GE205 GE206⟩
 }
 {
 rw [if_neg c15] at H
 have c15b0 : (a1 == 2) = false := beq_eq_false_iff_ne.mpr c15
 have c15b1 : (a1 != 2) = true := bne_iff_ne.mpr c15
 by_cases c21 : a1 = 3
 {
 rw [if_pos c21] at H
 have c21b0 : (a1 == 3) = true := beq_iff_eq.mpr c21
 have c21b1 : (a1 != 3) = false := bne_eq_false_iff_eq.mpr c21
 clear c21
 simp only [Option.some.injEq, Prod.mk.injEq] at H
 obtain ⟨rfl, rfl⟩ := H
 go_enter Try.func102, Try.ntmps102
 go_wp2_with (first | ((with_reducible refine gate_dst (N := 2) rfl ?_); refine box_event ?hg (N := 2) ?hd (cs := #[.int .i8 a0_0, .int .i8 a0_1]) (t := 62) ?hr ?_; (case hd => rfl); (case hg => rfl); (case hr => first | (go_simp; done) | (go_simp; rfl)); intro gb205 hg w22 hbox hb; have BK205 := ak (hbox); have GW205 := gS HB hg; have GE205 := gS HB hg; replace HB := kB HB hb; clear hb hbox hg) | ((with_reducible refine gate_dst (N := 4) rfl ?_); refine box_event ?hg (N := 4) ?hd (cs := #[.int .i8 0, .int .i8 0]) (t := 62) ?hr ?_; (case hd => rfl); (case hg => rfl); (case hr => first | (go_simp; done) | (go_simp; rfl)); intro gb206 hg w23 hbox hb; have BK206 := ak (hbox); have GW206 := gS1 HB GE205 hg; have GE206 := gS1 HB GE205 hg; have NB205_206 := nL BK205 hg; have NB206_205 := nG BK205 hg; replace BK205 := kK BK205 hb; replace HB := kB1 HB GE205 hb; clear hb hbox hg; have hnb24 := NB205_206.out; have hnc24 := NB206_205.out; obtain ⟨hcz25_0, hcz25_1, hfz25_0, hfz25_1⟩ := cz2 w23 BK205; obtain ⟨hcz26_0, hcz26_1, hfz26_0, hfz26_1⟩ := cz2 w23 BK206))
 refine bodyPost_ret (results_cell_row rfl _ _ gb206 62 #[.int .i8 (IntKind.i8.wrap (a0_0 - 1)), .int .i8 a0_1] (0, 0) _ rfl (by (with_reducible repeat (first | refine blk_drewN ?_ _ | refine blk_drew ?_ | refine blk_alloc ?_ _)); refine blk_put (cs := #[.int .i8 (IntKind.i8.wrap (a0_0 - 1)), .int .i8 0]) ?_ 1 _ rfl; (with_reducible repeat (first | refine blk_drewN ?_ _ | refine blk_drew ?_ | refine blk_alloc ?_ _)); refine blk_put (cs := #[.int .i8 0, .int .i8 0]) ?_ 0 _ rfl; (with_reducible repeat (first | refine blk_drewN ?_ _ | refine blk_drew ?_ | refine blk_alloc ?_ _)); refine blk_far ?_ NB206_205.out _; (with_reducible repeat (first | refine blk_drewN ?_ _ | refine blk_drew ?_ | refine blk_alloc ?_ _)); exact BK206.out) Try.underlying62 rfl (by kernel_rfl)) rfl ?_
 exact ⟨by first | rfl | (simp [errW_none, errW_some] <;> rfl) | (simp [*, errW_none, errW_some] <;> rfl), zH2 HB GE205 GE206⟩
 }
 {
 rw [if_neg c21] at H
 have c21b0 : (a1 == 3) = false := beq_eq_false_iff_ne.mpr c21
 have c21b1 : (a1 != 3) = true := bne_iff_ne.mpr c21
 simp only [Option.some.injEq, Prod.mk.injEq] at H
 obtain ⟨rfl, rfl⟩ := H
 go_enter Try.func102, Try.ntmps102
 go_wp2_with (first | ((with_reducible refine gate_dst (N := 2) rfl ?_); refine box_event ?hg (N := 2) ?hd (cs := #[.int .i8 a0_0, .int .i8 a0_1]) (t := 62) ?hr ?_; (case hd => rfl); (case hg => rfl); (case hr => first | (go_simp; done) | (go_simp; rfl)); intro gb205 hg w27 hbox hb; have BK205 := ak (hbox); have GW205 := gS HB hg; have GE205 := gS HB hg; replace HB := kB HB hb; clear hb hbox hg) | ((with_reducible refine gate_dst (N := 4) rfl ?_); refine box_event ?hg (N := 4) ?hd (cs := #[.int .i8 0, .int .i8 0]) (t := 62) ?hr ?_; (case hd => rfl); (case hg => rfl); (case hr => first | (go_simp; done) | (go_simp; rfl)); intro gb206 hg w28 hbox hb; have BK206 := ak (hbox); have GW206 := gS1 HB GE205 hg; have GE206 := gS1 HB GE205 hg; have NB205_206 := nL BK205 hg; have NB206_205 := nG BK205 hg; replace BK205 := kK BK205 hb; replace HB := kB1 HB GE205 hb; clear hb hbox hg; have hnb29 := NB205_206.out; have hnc29 := NB206_205.out; obtain ⟨hcz30_0, hcz30_1, hfz30_0, hfz30_1⟩ := cz2 w28 BK205; obtain ⟨hcz31_0, hcz31_1, hfz31_0, hfz31_1⟩ := cz2 w28 BK206))
 refine bodyPost_ret (results_cell_row rfl _ _ gb206 62 #[.int .i8 a0_0, .int .i8 a0_1] (0, 0) _ rfl (by (with_reducible repeat (first | refine blk_drewN ?_ _ | refine blk_drew ?_ | refine blk_alloc ?_ _)); refine blk_put (cs := #[.int .i8 a0_0, .int .i8 0]) ?_ 1 _ rfl; (with_reducible repeat (first | refine blk_drewN ?_ _ | refine blk_drew ?_ | refine blk_alloc ?_ _)); refine blk_put (cs := #[.int .i8 0, .int .i8 0]) ?_ 0 _ rfl; (with_reducible repeat (first | refine blk_drewN ?_ _ | refine blk_drew ?_ | refine blk_alloc ?_ _)); exact BK206.out) Try.underlying62 rfl (by kernel_rfl)) rfl ?_
 exact ⟨by first | rfl | (simp [errW_none, errW_some] <;> rfl) | (simp [*, errW_none, errW_some] <;> rfl), zH2 HB GE205 GE206⟩
 }
 }
 }
 }
/-! ### impl_Room_beside: function 100 -/
def impl_Room_beside.l0 : Nat → List (S62) → Int → Int → Int → Int → Int → Int → Int → Int → Int → Int → Int → Int → Int → Int → Int → Option ((List (S62)))
  | 0, _, _, _, _, _, _, _, _, _, _, _, _, _, _, _, _ => none
  | k + 1, x5, x9, x208000, x208001, x208002, x208003, x208004, x208005, x208006, x208007, x208008, x208009, x208010, x208011, x209000, x209001 => if x9 < 4 then ((impl_NextSpot.f x209000 x209001 x9).bind fun bt212 => ((impl_Room_isFree.f x208000 x208001 x208002 x208003 x208004 x208005 x208006 x208007 x208008 x208009 x208010 x208011 bt212.1 bt212.2).bind fun t215 => (if t215 = true then (if x5.length < 70368744177664 then (impl_Room_beside.l0 k (x5 ++ [(⟨bt212.1, bt212.2⟩ : S62)]) (wrap64 (x9 + 1)) x208000 x208001 x208002 x208003 x208004 x208005 x208006 x208007 x208008 x208009 x208010 x208011 x209000 x209001) else (none)) else (impl_Room_beside.l0 k x5 (wrap64 (x9 + 1)) x208000 x208001 x208002 x208003 x208004 x208005 x208006 x208007 x208008 x208009 x208010 x208011 x209000 x209001)))) else (some x5)
def impl_Room_beside.f (k : Nat) (a0_0 : Int) (a0_1 : Int) (a0_2 : Int) (a0_3 : Int) (a0_4 : Int) (a0_5 : Int) (a0_6 : Int) (a0_7 : Int) (a0_8 : Int) (a0_9 : Int) (a0_10 : Int) (a0_11 : Int) (a1_0 : Int) (a1_1 : Int) : Option ((List (S62))) := impl_Room_beside.l0 k (([] : List (S62))) 0 a0_0 a0_1 a0_2 a0_3 a0_4 a0_5 a0_6 a0_7 a0_8 a0_9 a0_10 a0_11 a1_0 a1_1
theorem impl_Room_beside.mono_l : ∀ k, (∀ y0 y1 y2 y3 y4 y5 y6 y7 y8 y9 y10 y11 y12 y13 y14 y15, LeO (impl_Room_beside.l0 k y0 y1 y2 y3 y4 y5 y6 y7 y8 y9 y10 y11 y12 y13 y14 y15) (impl_Room_beside.l0 (k + 1) y0 y1 y2 y3 y4 y5 y6 y7 y8 y9 y10 y11 y12 y13 y14 y15))
  | 0 => fun _ _ _ _ _ _ _ _ _ _ _ _ _ _ _ _ r h => by simp [impl_Room_beside.l0] at h
  | k + 1 => by
    have ih0 := impl_Room_beside.mono_l k
    · intro y0 y1 y2 y3 y4 y5 y6 y7 y8 y9 y10 y11 y12 y13 y14 y15
      unfold impl_Room_beside.l0
      repeat' first
      | (with_reducible exact ih0 ..)
      | (with_reducible exact LeO.refl ..)
      | (with_reducible exact LeO.none ..)
      | (with_reducible refine LeO.ite ?_ ?_)
      | (with_reducible refine LeO.bind ?_ (fun _ => ?_))
theorem impl_Room_beside.mono : ∀ a0 a1 a2 a3 a4 a5 a6 a7 a8 a9 a10 a11 a12 a13 k, LeO (impl_Room_beside.f k a0 a1 a2 a3 a4 a5 a6 a7 a8 a9 a10 a11 a12 a13) (impl_Room_beside.f (k + 1) a0 a1 a2 a3 a4 a5 a6 a7 a8 a9 a10 a11 a12 a13) := by
  intro a0 a1 a2 a3 a4 a5 a6 a7 a8 a9 a10 a11 a12 a13 k
  have ih0 := impl_Room_beside.mono_l k
  unfold impl_Room_beside.f
  repeat' first
      | (with_reducible exact ih0 ..)
      | (with_reducible exact LeO.refl ..)
      | (with_reducible exact LeO.none ..)
      | (with_reducible refine LeO.ite ?_ ?_)
      | (with_reducible refine LeO.bind ?_ (fun _ => ?_))
set_option maxHeartbeats 8000000 in
set_option maxRecDepth 100000 in
theorem impl_Room_beside.calls (k : Nat) (a0_0 : Int) (a0_1 : Int) (a0_2 : Int) (a0_3 : Int) (a0_4 : Int) (a0_5 : Int) (a0_6 : Int) (a0_7 : Int) (a0_8 : Int) (a0_9 : Int) (a0_10 : Int) (a0_11 : Int) (a1_0 : Int) (a1_1 : Int) (r : List (S62)) (w : World) (h : impl_Room_beside.f k a0_0 a0_1 a0_2 a0_3 a0_4 a0_5 a0_6 a0_7 a0_8 a0_9 a0_10 a0_11 a1_0 a1_1 = some r) :
    Calls Try.prog 100 #[.agg #[.int .i8 a0_0, .int .i8 a0_1, .int .u16 a0_2, .int .u16 a0_3, .int .u16 a0_4, .int .u16 a0_5, .int .u16 a0_6, .int .u16 a0_7, .int .u16 a0_8, .int .u16 a0_9, .int .u16 a0_10, .int .u16 a0_11], .agg #[.int .i8 a1_0, .int .i8 a1_1]] w fun e w' => ∃ v0_ : Value, e = .returned (v0_) ∧ Kd.R k62 62 w' w.heap.size (fun _ => True) v0_ r ∧ Below w.heap.size w w' := by
 have hu35 := Try.underlying35
 have hu62 := Try.underlying62
 have HB := ak (Below.refl w.heap.size w)
 have H := h
 unfold impl_Room_beside.f at H
 clear h
 obtain ⟨y209, hy209⟩ : ∃ y_ : List (S62), y_ = (([] : List (S62))) := ⟨_, rfl⟩
 replace H : (impl_Room_beside.l0 k y209 0 a0_0 a0_1 a0_2 a0_3 a0_4 a0_5 a0_6 a0_7 a0_8 a0_9 a0_10 a0_11 a1_0 a1_1) = some r := by first | (rw [hy209]; with_reducible exact H) | (have H2_ := (Option.bind_some _ _).symm.trans H; rw [hy209]; with_reducible exact H2_) | (have H2_ := (Option.bind_some _ _).symm.trans H; with_reducible exact H2_) | with_reducible exact H | (rw [hy209]; exact H) | exact H
 have Ny209 := ak hy209
 clear hy209
 have H' := ak H
 clear H
 go_enter Try.func100, Try.ntmps100
 go_wp2_with (first | ((with_reducible refine gate_dst (N := 2) rfl ?_); refine box_event ?hg (N := 2) ?hd (cs := #[.int .i8 a0_0, .int .i8 a0_1, .int .u16 a0_2, .int .u16 a0_3, .int .u16 a0_4, .int .u16 a0_5, .int .u16 a0_6, .int .u16 a0_7, .int .u16 a0_8, .int .u16 a0_9, .int .u16 a0_10, .int .u16 a0_11]) (t := 35) ?hr ?_; (case hd => rfl); (case hg => rfl); (case hr => first | (go_simp; done) | (go_simp; rfl)); intro gb207 hg w3 hbox hb; have BK207 := ak (hbox); have GW207 := gS HB hg; have GE207 := gS HB hg; replace HB := kB HB hb; clear hb hbox hg) | ((with_reducible refine gate_dst (N := 3) rfl ?_); refine box_event ?hg (N := 3) ?hd (cs := #[.int .i8 a1_0, .int .i8 a1_1]) (t := 62) ?hr ?_; (case hd => rfl); (case hg => rfl); (case hr => first | (go_simp; done) | (go_simp; rfl)); intro gb208 hg w4 hbox hb; have BK208 := ak (hbox); have GW208 := gS1 HB GE207 hg; have GE208 := gS1 HB GE207 hg; have NB207_208 := nL BK207 hg; have NB208_207 := nG BK207 hg; replace BK207 := kK BK207 hb; replace HB := kB1 HB GE207 hb; clear hb hbox hg) | ((with_reducible refine gate_dst (N := 8) rfl ?_); refine Kd.R_lit k62 _ 62 ?hg (N := 8) ?hd (xs := ([] : List (S62))) (inner := []) (ok := fun _ => True) (okp := fun _ => True) ?hr ?hp (fun _ hk => hk) trivial (Below.refl _ _) (Nat.le_refl _) (by simp) ?_; (case hd => rfl); (case hg => rfl); (case hr => first | (go_simp; done) | (go_simp; rfl)); (case hp => exact (Reps.none _ _)); intro v210 w5 ho6 hb hg_ hnew_; clear hg_ hnew_; (first | rw [← Ny209.out] at ho6 | (simp only [Int.reduceToNat] at ho6; rw [← Ny209.out] at ho6)); have HO211 := ak (Kd.R_lower (Kd.R_newB ho6 (g := gb208) (o := .cells #[.int .i8 a1_0, .int .i8 a1_1] 62 (0, 0)) (zK BK208.out)) (below_size (zH2 HB GE207 GE208))); replace BK207 := kK BK207 hb; replace BK208 := kK BK208 hb; replace HB := kB2 HB GE207 GE208 hb; clear hb ho6))
 go_loopg [5, 9] k (fun kq v5 v9 w' => ∃ (x5_1 : List (S62)) (x9_1 : Int), v9 = .int .i64 x9_1 ∧ Aside0 (impl_Room_beside.l0 kq x5_1 x9_1 a0_0 a0_1 a0_2 a0_3 a0_4 a0_5 a0_6 a0_7 a0_8 a0_9 a0_10 a0_11 a1_0 a1_1 = some r) ∧ Aside0 (kq ≤ k) ∧ Aside0 (Kd.R k62 62 w' w.heap.size (fun k_ => k_ ≠ gb208) v5 x5_1) ∧ Aside0 (w'.heap[gb207]? = some (.cells #[.int .i8 a0_0, .int .i8 a0_1, .int .u16 a0_2, .int .u16 a0_3, .int .u16 a0_4, .int .u16 a0_5, .int .u16 a0_6, .int .u16 a0_7, .int .u16 a0_8, .int .u16 a0_9, .int .u16 a0_10, .int .u16 a0_11] 35 (0, 0))) ∧ Aside0 (w'.heap[gb208]? = some (.cells #[.int .i8 a1_0, .int .i8 a1_1] 62 (0, 0))) ∧ Aside0 (Below w.heap.size w w'))
 case atStart => exact ⟨(y209), (0), (by first | rfl | (simp; done) | (simp [*]; done)), H', ⟨Nat.le_refl _⟩, ⟨by (with_reducible repeat (first | apply Kd.R_alloc | apply Kd.R_drewN | apply Kd.R_drew)); exact Kd.R_mono HO211.out (fun _ hk => hk.2)⟩, ⟨(zK BK207.out)⟩, ⟨(zK BK208.out)⟩, ⟨zH2 HB GE207 GE208⟩⟩
 case round => (
 clear H'
 obtain ⟨x5_1, x9_1, rfl, HA, HK1, HO_5, BK207, BK208, HB⟩ := hrel
 cases gk with
 | zero => exact absurd HA.out (by simp [impl_Room_beside.l0])
 | succ k1 => (
 have H := HA.out
 clear HA
 simp only [impl_Room_beside.l0] at H
 by_cases c7 : x9_1 < 4
 {
 rw [if_pos c7] at H
 have c7b0 : decide (x9_1 < 4) = true := decide_eq_true c7
 clear c7
 replace H := Option.bind_eq_some_iff.mp H
 obtain ⟨⟨t212, t213⟩, A80, H⟩ := H
 have A8 := ak A80
 clear A80
 replace H := Option.bind_eq_some_iff.mp H
 obtain ⟨t215, A90, H⟩ := H
 have A9 := ak A90
 clear A90
 by_cases c10 : t215 = true
 {
 subst c10
 rw [if_pos rfl] at H
 by_cases c11 : x5_1.length < 70368744177664
 {
 rw [if_pos c11] at H
 have LMc11 := ak c11
 clear c11
 obtain ⟨y216, hy216⟩ : ∃ y_ : List (S62), y_ = (x5_1 ++ [(⟨t212, t213⟩ : S62)]) := ⟨_, rfl⟩
 replace H : (impl_Room_beside.l0 k1 y216 (wrap64 (x9_1 + 1)) a0_0 a0_1 a0_2 a0_3 a0_4 a0_5 a0_6 a0_7 a0_8 a0_9 a0_10 a0_11 a1_0 a1_1) = some r := by first | (rw [hy216]; with_reducible exact H) | (have H2_ := (Option.bind_some _ _).symm.trans H; rw [hy216]; with_reducible exact H2_) | (have H2_ := (Option.bind_some _ _).symm.trans H; with_reducible exact H2_) | with_reducible exact H | (rw [hy216]; exact H) | exact H
 have Ny216 := ak hy216
 clear hy216
 have H' := ak H
 clear H
 have hnb12 := NB208_207.out
 have hnc12 := NB207_208.out
 have hcz13_0 : wr.cell? ⟨gb208, 0, none⟩ = some (.int .i8 a1_0) := (blk_cell BK208.out 0).trans rfl
 have hcz13_1 : wr.cell? ⟨gb208, 1, none⟩ = some (.int .i8 a1_1) := (blk_cell BK208.out 1).trans rfl
 have hfz13_0 := blk_frozen BK208.out 0
 have hfz13_1 := blk_frozen BK208.out 1
 go_wp2_with (first | ((with_reducible refine gate_callee (f := 102) rfl ?_); refine goesL_ (some 14) rfl rfl Try.func102 (by kernel_rfl) rfl #[.agg #[.int .i8 a1_0, .int .i8 a1_1], .int .i64 x9_1] rfl gl_ ?_; (with_reducible refine (impl_NextSpot.calls a1_0 a1_1 x9_1 t212 t213 _ A8.out).mono ?_); rintro e w14 ⟨rfl, hb⟩; refine ⟨_, rfl, ?_⟩; replace HO_5 := kR HO_5 hb; replace BK207 := kK BK207 hb; replace BK208 := kK BK208 hb; replace HB := kB2 HB GE207 GE208 hb; (try clear hb)) | ((with_reducible refine gate_dst (N := 7) rfl ?_); refine box_event ?hg (N := 7) ?hd (cs := #[.int .i8 0, .int .i8 0]) (t := 62) ?hr ?_; (case hd => rfl); (case hg => rfl); (case hr => first | (go_simp; done) | (go_simp; rfl)); intro gb214 hg w15 hbox hb; have BK214 := ak (hbox); have GW214 := ak ((by rw [hg]; exact (below_size (zH2 HB GE207 GE208)) : w.heap.size ≤ gb214)); have GE214 := ak ((by rw [hg]; exact (below_size (zH2 HB GE207 GE208)) : w.heap.size ≤ gb214)); have NB207_214 := nL BK207 hg; have NB214_207 := nG BK207 hg; have NB208_214 := nL BK208 hg; have NB214_208 := nG BK208 hg; replace HO_5 := ak (Kd.R_below (Kd.R_elderB (zR HO_5.out) gb214 (Nat.le_of_eq hg.symm)) hb); replace BK207 := kK BK207 hb; replace BK208 := kK BK208 hb; replace HB := kB2 HB GE207 GE208 hb; clear hb hbox hg; have hnb16 := NB214_207.out; have hnc16 := NB207_214.out; have hnb17 := NB214_208.out; have hnc17 := NB208_214.out; obtain ⟨hcz18_0, hcz18_1, hfz18_0, hfz18_1⟩ := cz2 w15 BK214; obtain ⟨hcz19_0, hcz19_1, hcz19_2, hcz19_3, hcz19_4, hcz19_5, hcz19_6, hcz19_7, hcz19_8, hcz19_9, hcz19_10, hcz19_11, hfz19_0, hfz19_1, hfz19_2, hfz19_3, hfz19_4, hfz19_5, hfz19_6, hfz19_7, hfz19_8, hfz19_9, hfz19_10, hfz19_11⟩ := cz12 w15 BK207) | ((with_reducible refine gate_callee (f := 99) rfl ?_); refine goesL_ (some 17) rfl rfl Try.func99 (by kernel_rfl) rfl #[.agg #[.int .i8 a0_0, .int .i8 a0_1, .int .u16 a0_2, .int .u16 a0_3, .int .u16 a0_4, .int .u16 a0_5, .int .u16 a0_6, .int .u16 a0_7, .int .u16 a0_8, .int .u16 a0_9, .int .u16 a0_10, .int .u16 a0_11], .agg #[.int .i8 t212, .int .i8 t213]] rfl gl_ ?_; (with_reducible refine (impl_Room_isFree.calls a0_0 a0_1 a0_2 a0_3 a0_4 a0_5 a0_6 a0_7 a0_8 a0_9 a0_10 a0_11 t212 t213 true _ A9.out).mono ?_); rintro e w20 ⟨rfl, hb⟩; refine ⟨_, rfl, ?_⟩; replace HO_5 := ak (Kd.R_below (by (with_reducible repeat (first | apply Kd.R_alloc | apply Kd.R_drewN | apply Kd.R_drew)); exact (Kd.R_mono (Kd.R_far (p := ⟨gb214, 1, none⟩) (Kd.R_far (p := ⟨gb214, 0, none⟩) (Kd.R_mono HO_5.out (fun k_ hk => (⟨hk, hk.2⟩ : _ ∧ k_ ≠ gb214))) (fun _ hk => hk.2) (.int .i8 t212)) (fun _ hk => hk.2) (.int .i8 t213)) (fun _ h_ => h_.1))) hb); replace BK207 := ak (blk_below (g := gb207) (o := .cells #[.int .i8 a0_0, .int .i8 a0_1, .int .u16 a0_2, .int .u16 a0_3, .int .u16 a0_4, .int .u16 a0_5, .int .u16 a0_6, .int .u16 a0_7, .int .u16 a0_8, .int .u16 a0_9, .int .u16 a0_10, .int .u16 a0_11] 35 (0, 0)) (by (with_reducible repeat (first | refine blk_drewN ?_ _ | refine blk_drew ?_ | refine blk_alloc ?_ _)); refine blk_far ?_ NB207_214.out _; (with_reducible repeat (first | refine blk_drewN ?_ _ | refine blk_drew ?_ | refine blk_alloc ?_ _)); refine blk_far ?_ NB207_214.out _; (with_reducible repeat (first | refine blk_drewN ?_ _ | refine blk_drew ?_ | refine blk_alloc ?_ _)); exact BK207.out) hb); replace BK208 := ak (blk_below (g := gb208) (o := .cells #[.int .i8 a1_0, .int .i8 a1_1] 62 (0, 0)) (by (with_reducible repeat (first | refine blk_drewN ?_ _ | refine blk_drew ?_ | refine blk_alloc ?_ _)); refine blk_far ?_ NB208_214.out _; (with_reducible repeat (first | refine blk_drewN ?_ _ | refine blk_drew ?_ | refine blk_alloc ?_ _)); refine blk_far ?_ NB208_214.out _; (with_reducible repeat (first | refine blk_drewN ?_ _ | refine blk_drew ?_ | refine blk_alloc ?_ _)); exact BK208.out) hb); replace BK214 := ak (blk_below (g := gb214) (o := .cells #[.int .i8 t212, .int .i8 t213] 62 (0, 0)) (by (with_reducible repeat (first | refine blk_drewN ?_ _ | refine blk_drew ?_ | refine blk_alloc ?_ _)); refine blk_put (cs := #[.int .i8 t212, .int .i8 0]) ?_ 1 _ rfl; (with_reducible repeat (first | refine blk_drewN ?_ _ | refine blk_drew ?_ | refine blk_alloc ?_ _)); refine blk_put (cs := #[.int .i8 0, .int .i8 0]) ?_ 0 _ rfl; (with_reducible repeat (first | refine blk_drewN ?_ _ | refine blk_drew ?_ | refine blk_alloc ?_ _)); exact BK214.out) hb); replace HB := kB3 HB GE207 GE208 GE214 hb; (try clear hb); (try clear hk); obtain ⟨hcz21_0, hcz21_1, hfz21_0, hfz21_1⟩ := cz2 w20 BK214) | ((with_reducible refine gate_builtin (b := .append) (xs := #[.tmp 18, .tmp 20]) rfl ?_); at_builtin; refine Kd.R_append k62 (w0 := w) w.heap.size rfl (.tmp 18) (.tmp 20) 37 62 (.agg #[(.int .i8 0), (.int .i8 0)]) 2 rfl Try.underlying37 info62 rfl (by decide) (by omega) u5 x5_1 (⟨t212, t213⟩ : S62) [.int .i8 t212, .int .i8 t213] (fun k_ => k_ ≠ gb208 ∧ k_ ≠ gb214) (fun _ => False) rfl rfl ?aP (fun _ hk => hk.elim) ?aF ?aO ?aB ?aS ?aL ?_; (case aP => exact k62_mkM _ _ _ (⟨t212, t213⟩ : S62)); (case aB => exact (zH3 HB GE207 GE208 GE214)); (case aF => exact (fun k_ hk => ⟨Kd.freshB (g := gb208) (o := .cells #[.int .i8 a1_0, .int .i8 a1_1] 62 (0, 0)) (zK BK208.out) k_ hk, Kd.freshB (g := gb214) (o := .cells #[.int .i8 t212, .int .i8 t213] 62 (0, 0)) (zK BK214.out) k_ hk⟩)); (case aO => exact (zR HO_5.out)); (case aS => exact (below_size (zH3 HB GE207 GE208 GE214))); (case aL => have := LMc11.out; omega); intro v217 w22 ho hb hg hat; rw [← Ny216.out] at ho; have HO218 := ak (ho); replace BK207 := ak (blk_grown (g := gb207) (o := .cells #[.int .i8 a0_0, .int .i8 a0_1, .int .u16 a0_2, .int .u16 a0_3, .int .u16 a0_4, .int .u16 a0_5, .int .u16 a0_6, .int .u16 a0_7, .int .u16 a0_8, .int .u16 a0_9, .int .u16 a0_10, .int .u16 a0_11] 35 (0, 0)) (zK BK207.out) hg (Kd.R_ne HO_5.out BK207.out (by decide))); replace BK208 := ak (blk_grown (g := gb208) (o := .cells #[.int .i8 a1_0, .int .i8 a1_1] 62 (0, 0)) (zK BK208.out) hg (Kd.R_away HO_5.out (fun _ hk => hk.1))); replace BK214 := ak (blk_grown (g := gb214) (o := .cells #[.int .i8 t212, .int .i8 t213] 62 (0, 0)) (zK BK214.out) hg (Kd.R_away HO_5.out (fun _ hk => hk.2))); replace HB := ak (hb); clear HO_5 ho hb hg hat))
 go_roundg k1
 case measure => have := HK1.out; omega
 case rel => exact ⟨(y216), (wrap64 (x9_1 + 1)), (by first | rfl | (simp; done) | (simp [*]; done)), H', ⟨by have := HK1.out; omega⟩, ⟨by (with_reducible repeat (first | apply Kd.R_alloc | apply Kd.R_drewN | apply Kd.R_drew)); exact Kd.R_mono HO218.out (fun _ hk => hk.1)⟩, ⟨(zK BK207.out)⟩, ⟨(zK BK208.out)⟩, ⟨zH3 HB GE207 GE208 GE214⟩⟩
 }
 · rw [if_neg c11] at H; exact absurd H (by simp)
 }
 {
 replace c10 := Bool.eq_false_iff.mpr c10
 subst c10
 rw [if_neg (show ¬ (false = true) by decide)] at H
 have H' := ak H
 clear H
 have hnb23 := NB208_207.out
 have hnc23 := NB207_208.out
 have hcz24_0 : wr.cell? ⟨gb208, 0, none⟩ = some (.int .i8 a1_0) := (blk_cell BK208.out 0).trans rfl
 have hcz24_1 : wr.cell? ⟨gb208, 1, none⟩ = some (.int .i8 a1_1) := (blk_cell BK208.out 1).trans rfl
 have hfz24_0 := blk_frozen BK208.out 0
 have hfz24_1 := blk_frozen BK208.out 1
 go_wp2_with (first | ((with_reducible refine gate_callee (f := 102) rfl ?_); refine goesL_ (some 14) rfl rfl Try.func102 (by kernel_rfl) rfl #[.agg #[.int .i8 a1_0, .int .i8 a1_1], .int .i64 x9_1] rfl gl_ ?_; (with_reducible refine (impl_NextSpot.calls a1_0 a1_1 x9_1 t212 t213 _ A8.out).mono ?_); rintro e w25 ⟨rfl, hb⟩; refine ⟨_, rfl, ?_⟩; replace HO_5 := kR HO_5 hb; replace BK207 := kK BK207 hb; replace BK208 := kK BK208 hb; replace HB := kB2 HB GE207 GE208 hb; (try clear hb)) | ((with_reducible refine gate_dst (N := 7) rfl ?_); refine box_event ?hg (N := 7) ?hd (cs := #[.int .i8 0, .int .i8 0]) (t := 62) ?hr ?_; (case hd => rfl); (case hg => rfl); (case hr => first | (go_simp; done) | (go_simp; rfl)); intro gb214 hg w26 hbox hb; have BK214 := ak (hbox); have GW214 := ak ((by rw [hg]; exact (below_size (zH2 HB GE207 GE208)) : w.heap.size ≤ gb214)); have GE214 := ak ((by rw [hg]; exact (below_size (zH2 HB GE207 GE208)) : w.heap.size ≤ gb214)); have NB207_214 := nL BK207 hg; have NB214_207 := nG BK207 hg; have NB208_214 := nL BK208 hg; have NB214_208 := nG BK208 hg; replace HO_5 := ak (Kd.R_below (Kd.R_elderB (zR HO_5.out) gb214 (Nat.le_of_eq hg.symm)) hb); replace BK207 := kK BK207 hb; replace BK208 := kK BK208 hb; replace HB := kB2 HB GE207 GE208 hb; clear hb hbox hg; have hnb27 := NB214_207.out; have hnc27 := NB207_214.out; have hnb28 := NB214_208.out; have hnc28 := NB208_214.out; obtain ⟨hcz29_0, hcz29_1, hfz29_0, hfz29_1⟩ := cz2 w26 BK214; obtain ⟨hcz30_0, hcz30_1, hcz30_2, hcz30_3, hcz30_4, hcz30_5, hcz30_6, hcz30_7, hcz30_8, hcz30_9, hcz30_10, hcz30_11, hfz30_0, hfz30_1, hfz30_2, hfz30_3, hfz30_4, hfz30_5, hfz30_6, hfz30_7, hfz30_8, hfz30_9, hfz30_10, hfz30_11⟩ := cz12 w26 BK207) | ((with_reducible refine gate_callee (f := 99) rfl ?_); refine goesL_ (some 17) rfl rfl Try.func99 (by kernel_rfl) rfl #[.agg #[.int .i8 a0_0, .int .i8 a0_1, .int .u16 a0_2, .int .u16 a0_3, .int .u16 a0_4, .int .u16 a0_5, .int .u16 a0_6, .int .u16 a0_7, .int .u16 a0_8, .int .u16 a0_9, .int .u16 a0_10, .int .u16 a0_11], .agg #[.int .i8 t212, .int .i8 t213]] rfl gl_ ?_; (with_reducible refine (impl_Room_isFree.calls a0_0 a0_1 a0_2 a0_3 a0_4 a0_5 a0_6 a0_7 a0_8 a0_9 a0_10 a0_11 t212 t213 false _ A9.out).mono ?_); rintro e w31 ⟨rfl, hb⟩; refine ⟨_, rfl, ?_⟩; replace HO_5 := ak (Kd.R_below (by (with_reducible repeat (first | apply Kd.R_alloc | apply Kd.R_drewN | apply Kd.R_drew)); exact (Kd.R_mono (Kd.R_far (p := ⟨gb214, 1, none⟩) (Kd.R_far (p := ⟨gb214, 0, none⟩) (Kd.R_mono HO_5.out (fun k_ hk => (⟨hk, hk.2⟩ : _ ∧ k_ ≠ gb214))) (fun _ hk => hk.2) (.int .i8 t212)) (fun _ hk => hk.2) (.int .i8 t213)) (fun _ h_ => h_.1))) hb); replace BK207 := ak (blk_below (g := gb207) (o := .cells #[.int .i8 a0_0, .int .i8 a0_1, .int .u16 a0_2, .int .u16 a0_3, .int .u16 a0_4, .int .u16 a0_5, .int .u16 a0_6, .int .u16 a0_7, .int .u16 a0_8, .int .u16 a0_9, .int .u16 a0_10, .int .u16 a0_11] 35 (0, 0)) (by (with_reducible repeat (first | refine blk_drewN ?_ _ | refine blk_drew ?_ | refine blk_alloc ?_ _)); refine blk_far ?_ NB207_214.out _; (with_reducible repeat (first | refine blk_drewN ?_ _ | refine blk_drew ?_ | refine blk_alloc ?_ _)); refine blk_far ?_ NB207_214.out _; (with_reducible repeat (first | refine blk_drewN ?_ _ | refine blk_drew ?_ | refine blk_alloc ?_ _)); exact BK207.out) hb); replace BK208 := ak (blk_below (g := gb208) (o := .cells #[.int .i8 a1_0, .int .i8 a1_1] 62 (0, 0)) (by (with_reducible repeat (first | refine blk_drewN ?_ _ | refine blk_drew ?_ | refine blk_alloc ?_ _)); refine blk_far ?_ NB208_214.out _; (with_reducible repeat (first | refine blk_drewN ?_ _ | refine blk_drew ?_ | refine blk_alloc ?_ _)); refine blk_far ?_ NB208_214.out _; (with_reducible repeat (first | refine blk_drewN ?_ _ | refine blk_drew ?_ | refine blk_alloc ?_ _)); exact BK208.out) hb); replace BK214 := ak (blk_below (g := gb214) (o := .cells #[.int .i8 t212, .int .i8 t213] 62 (0, 0)) (by (with_reducible repeat (first | refine blk_drewN ?_ _ | refine blk_drew ?_ | refine blk_alloc ?_ _)); refine blk_put (cs := #[.int .i8 t212, .int .i8 0]) ?_ 1 _ rfl; (with_reducible repeat (first | refine blk_drewN ?_ _ | refine blk_drew ?_ | refine blk_alloc ?_ _)); refine blk_put (cs := #[.int .i8 0, .int .i8 0]) ?_ 0 _ rfl; (with_reducible repeat (first | refine blk_drewN ?_ _ | refine blk_drew ?_ | refine blk_alloc ?_ _)); exact BK214.out) hb); replace HB := kB3 HB GE207 GE208 GE214 hb; (try clear hb); (try clear hk)))
 go_roundg k1
 case measure => have := HK1.out; omega
 case rel => exact ⟨(x5_1), (wrap64 (x9_1 + 1)), (by first | rfl | (simp; done) | (simp [*]; done)), H', ⟨by have := HK1.out; omega⟩, ⟨by (with_reducible repeat (first | apply Kd.R_alloc | apply Kd.R_drewN | apply Kd.R_drew)); exact Kd.R_mono HO_5.out (fun _ hk => hk.1)⟩, ⟨(zK BK207.out)⟩, ⟨(zK BK208.out)⟩, ⟨zH3 HB GE207 GE208 GE214⟩⟩
 }
 }
 {
 rw [if_neg c7] at H
 have c7b0 : decide (x9_1 < 4) = false := decide_eq_false c7
 clear c7
 obtain rfl := Option.some.inj H
 go_wp2
 go_ret
 exact ⟨_, by first | rfl | (simp [errW_none, errW_some] <;> rfl) | (simp [*, errW_none, errW_some] <;> rfl), by (with_reducible repeat (first | apply Kd.R_alloc | apply Kd.R_drewN | apply Kd.R_drew)); exact Kd.R_mono HO_5.out (fun _ hk => trivial), zH2 HB GE207 GE208⟩
 }
 )
 )
end Go.Proofs.Ytooidjdgfoioiaa.P
